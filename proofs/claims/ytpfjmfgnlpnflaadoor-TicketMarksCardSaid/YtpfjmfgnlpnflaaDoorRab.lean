/- Parts of the proof of the seat's statements (FdPow, FdDiv, ShMap5, ShRow, ShRow2, ShBuf, ShBuf2, ShBit, ShBox, ShGo, FdA, FdB, FdC, FdE, FdF, FdG, FdH, FdI, FdJ, FdK, FdL, HTk, ShKn, TkSpec, TkA, TkB, ShKn2, TkC, ShelfI, TkD): lemmas about the given translation and plain laws. No condition of their own. -/
import Derived.Test.YtpfjmfgnlpnflaaDoorRaa
import Derived.Lib.BufferWrite
import Derived.Lib.SliceRun
import Derived.Laws.MakeOwn
import Derived.Laws.OwnMore
import Derived.Great.BuildSlice
import Derived.Laws.IdiomStrings
import Derived.Lib.Mul64
import Derived.Lib.TrailingZeros
import Derived.Test.YtpfjmfgnlpnflaaDoorProg
import Derived.Shelf.Spec.SlicesInsertGrow
set_option linter.all false
set_option maxRecDepth 100000
namespace FdSpec
theorem emod_pow (a n : Int) (k : Nat) : (a % n) ^ k % n = a ^ k % n := by
  induction k with
  | zero => rw [Int.pow_zero, Int.pow_zero]
  | succ k ih => rw [Int.pow_succ, Int.pow_succ, Int.mul_emod, ih, Int.emod_emod_of_dvd a (Int.dvd_refl n), ← Int.mul_emod]
theorem pow_half (a : Int) (b : Nat) : a ^ b = (a * a) ^ (b / 2) * a ^ (b % 2) := by
  have h1 : b = 2 * (b / 2) + b % 2 := (Nat.div_add_mod b 2).symm
  have h2 : ∀ k, a ^ (2 * k) = (a * a) ^ k := by
    intro k
    induction k with
    | zero => rw [Nat.mul_zero, Int.pow_zero, Int.pow_zero]
    | succ k ih => rw [Nat.mul_succ, Int.pow_succ, Int.pow_succ, Int.pow_succ, ih, Int.mul_assoc]
  conv => lhs; rw [h1]
  rw [Int.pow_add, h2]
theorem pw_even (n a out : Int) (b : Nat) (hb : b % 2 = 0) : out * (a * a % n) ^ (b / 2) % n = out * a ^ b % n := by
  rw [pow_half a b, hb, Int.pow_zero, Int.mul_one, Int.mul_emod, emod_pow, ← Int.mul_emod]
theorem pw_odd (n a out : Int) (b : Nat) (hb : b % 2 = 1) : out * a % n * (a * a % n) ^ (b / 2) % n = out * a ^ b % n := by
  have e : a ^ (1 : Nat) = a := by rw [show (1 : Nat) = 0 + 1 from rfl, Int.pow_succ, Int.pow_zero, Int.one_mul]
  rw [pow_half a b, hb, e, Int.mul_emod, Int.emod_emod_of_dvd _ (Int.dvd_refl n), emod_pow, ← Int.mul_emod]
  congr 1
  rw [Int.mul_comm ((a * a) ^ (b / 2)) a, ← Int.mul_assoc]
theorem pw_emod (n a : Int) (b : Nat) : pw n (a % n) b = pw n a b := emod_pow a n b
theorem pw_nonneg (n a : Int) (b : Nat) (hn : 0 < n) : 0 ≤ pw n a b ∧ pw n a b < n := ⟨Int.emod_nonneg _ (by omega), Int.emod_lt_of_pos _ hn⟩
theorem tz_lt (k m : Nat) (hm : 0 < m) (h : m < 2 ^ k) : tz k m < k ∧ ∃ j, m = 2 ^ tz k m * (2 * j + 1) := by
  induction k generalizing m with
  | zero => omega
  | succ k ih =>
    unfold tz
    split
    · rename_i h2
      obtain ⟨h3, j, h4⟩ := ih (m / 2) (by omega) (by rw [Nat.pow_succ] at h; omega)
      refine ⟨by omega, j, ?_⟩
      have h5 : m = 2 * (m / 2) := by omega
      rw [Nat.pow_succ, Nat.mul_comm (2 ^ _) 2, Nat.mul_assoc, ← h4]
      exact h5
    · exact ⟨by omega, m / 2, by rw [Nat.pow_zero]; omega⟩
theorem addM_eq (n a b : Int) (hn : okN n) : (a % n + b % n) % n = addM n a b := by
  rw [addM, if_pos hn, ← Int.add_emod]
theorem subM_eq (n a b : Int) (hn : okN n) : (a % n + n - b % n) % n = subM n a b := by
  rw [subM, if_pos hn, Int.sub_emod, Int.add_emod, Int.emod_self, Int.add_zero, Int.emod_emod_of_dvd _ (Int.dvd_refl n), Int.emod_emod_of_dvd _ (Int.dvd_refl n), Int.emod_emod_of_dvd _ (Int.dvd_refl n), ← Int.sub_emod]
theorem mulM_eq (n a b : Int) (hn : okN n) : a % n * (b % n) % n = mulM n a b := by
  rw [mulM, if_pos hn, ← Int.mul_emod]
theorem mulM_range (n a b : Int) (hn : okN n) : 0 ≤ mulM n a b ∧ mulM n a b < n := by
  rw [mulM, if_pos hn]; exact ⟨Int.emod_nonneg _ (by have := hn.1; omega), Int.emod_lt_of_pos _ (by have := hn.1; omega)⟩
theorem subM_range (n a b : Int) (hn : okN n) : 0 ≤ subM n a b ∧ subM n a b < n := by
  rw [subM, if_pos hn]; exact ⟨Int.emod_nonneg _ (by have := hn.1; omega), Int.emod_lt_of_pos _ (by have := hn.1; omega)⟩
theorem addM_range (n a b : Int) (hn : okN n) : 0 ≤ addM n a b ∧ addM n a b < n := by
  rw [addM, if_pos hn]; exact ⟨Int.emod_nonneg _ (by have := hn.1; omega), Int.emod_lt_of_pos _ (by have := hn.1; omega)⟩
theorem residue_eq (n a : Int) (hn : 0 < n) : (if a.tmod n < 0 then a.tmod n + n else a.tmod n) = a % n := by
  have h1 := Int.emod_nonneg a (b := n) (by omega)
  have h2 := Int.emod_lt_of_pos a hn
  have h3 := Int.tmod_add_mul_tdiv a n
  have h4 := Int.emod_add_mul_ediv a n
  have h5 : a.tmod n < n := by have := Int.tmod_lt_of_pos a hn; omega
  have h6 : -n < a.tmod n := by
    have := Int.lt_tmod_of_pos a hn
    omega
  have h7 : n ∣ a.tmod n - a % n := by
    refine ⟨a / n - a.tdiv n, ?_⟩
    rw [Int.mul_sub]; omega
  obtain ⟨k, hk⟩ := h7
  have hk2 : k = 0 ∨ k = -1 ∨ 1 ≤ k ∨ k ≤ -2 := by omega
  rcases hk2 with rfl | rfl | hk2 | hk2
  · simp at hk; split <;> omega
  · rw [Int.mul_neg, Int.mul_one] at hk; split <;> omega
  · have := Int.mul_le_mul_of_nonneg_left hk2 (by omega : 0 ≤ n); omega
  · have := Int.mul_le_mul_of_nonneg_left hk2 (by omega : 0 ≤ n); omega
end FdSpec
namespace FdSpec
structure Digit (h l u d q r : Nat) : Prop where
  sum : q * h + r = u
  up : u * 4294967296 + d < (q + 1) * (h * 4294967296 + l)
  le : q ≤ 4294967297
section
variable {h l u d q r : Nat}
theorem digit_start (hh : 2147483648 ≤ h) (hh2 : h < 4294967296) (hl : l < 4294967296) (hd : d < 4294967296) (hu : u < h * 4294967296 + l) : Digit h l u d (u / h) (u - u / h * h) := by
  have h1 : u / h * h ≤ u := Nat.div_mul_le_self u h
  have h2 : u < (u / h + 1) * h := by rw [Nat.add_mul, Nat.one_mul]; have := Nat.mod_lt u (show h > 0 by omega); have := Nat.div_add_mod u h; rw [Nat.mul_comm] at this; omega
  have h3 : u / h < 4294967298 := by
    rw [Nat.div_lt_iff_lt_mul (by omega)]
    omega
  refine ⟨by omega, ?_, by omega⟩
  have h4 : (u + 1) * 4294967296 ≤ (u / h + 1) * h * 4294967296 := Nat.mul_le_mul_right _ h2
  have h5 : (u / h + 1) * (h * 4294967296 + l) = (u / h + 1) * h * 4294967296 + (u / h + 1) * l := by rw [Nat.mul_add, Nat.mul_assoc]
  rw [h5]
  omega
theorem digit_test (D : Digit h l u d q r) : (4294967296 * r + d < q * l) ↔ u * 4294967296 + d < q * (h * 4294967296 + l) := by
  have h5 : q * (h * 4294967296 + l) = q * h * 4294967296 + q * l := by rw [Nat.mul_add, Nat.mul_assoc]
  have := D.sum
  rw [h5]
  generalize q * h = a at *
  generalize q * l = b at *
  omega
theorem digit_big (hu : u < h * 4294967296 + l) (hd : d < 4294967296) (hq : 4294967296 ≤ q) : u * 4294967296 + d < q * (h * 4294967296 + l) := by
  have h1 : 4294967296 * (h * 4294967296 + l) ≤ q * (h * 4294967296 + l) := Nat.mul_le_mul_right _ hq
  have h2 : (u + 1) * 4294967296 ≤ (h * 4294967296 + l) * 4294967296 := Nat.mul_le_mul_right _ hu
  omega
theorem digit_pos (D : Digit h l u d q r) (ht : u * 4294967296 + d < q * (h * 4294967296 + l)) : 0 < q := by
  rcases Nat.eq_zero_or_pos q with rfl | h
  · simp at ht
  · exact h
theorem digit_step (D : Digit h l u d q r) (ht : u * 4294967296 + d < q * (h * 4294967296 + l)) : Digit h l u d (q - 1) (r + h) := by
  have hq := digit_pos D ht
  have := D.sum
  refine ⟨?_, ?_, by have := D.le; omega⟩
  · obtain ⟨p, rfl⟩ : ∃ p, q = p + 1 := ⟨q - 1, by omega⟩
    rw [Nat.add_mul] at this
    simp only [Nat.add_sub_cancel]
    omega
  · rw [show q - 1 + 1 = q by omega]; exact ht
theorem digit_end (D : Digit h l u d q r) (ht : ¬ u * 4294967296 + d < q * (h * 4294967296 + l)) : q = (u * 4294967296 + d) / (h * 4294967296 + l) :=
  (Nat.div_eq_of_lt_le (by omega) D.up).symm
theorem digit_break (D : Digit h l u d q r) (hl : l < 4294967296) (hq : q ≤ 4294967296) (hr : 4294967296 ≤ r) : ¬ u * 4294967296 + d < q * (h * 4294967296 + l) := by
  rw [← digit_test D]
  have h1 : q * l ≤ 4294967296 * 4294967295 := Nat.mul_le_mul hq (by omega)
  omega
end
theorem div_total (x y s : Nat) : x * 2 ^ s % (y * 2 ^ s) / 2 ^ s = x % y := by
  rw [Nat.mul_mod_mul_right, Nat.mul_div_cancel _ (Nat.pow_pos (by omega))]
theorem two_digits (N d y : Nat) : (N * 4294967296 + d) % y = ((N % y) * 4294967296 + d) % y := by
  have h : N * 4294967296 % y = N % y * 4294967296 % y := by simp
  rw [Nat.add_mod, h, ← Nat.add_mod]
theorem split32 (X D : Nat) : (X * 4294967296 + D / 4294967296) * 4294967296 + D % 4294967296 = X * 18446744073709551616 + D := by
  rw [Nat.add_mul, Nat.mul_assoc, Nat.add_assoc, Nat.mul_comm (D / 4294967296), Nat.div_add_mod]
theorem norm_gen (a c M y s : Nat) (h : a * 4294967296 + c = M * 2 ^ s) : (a % (y * 2 ^ s) * 4294967296 + c) % (y * 2 ^ s) / 2 ^ s = M % y := by
  have t := two_digits a c (y * 2 ^ s)
  have u := div_total M y s
  rw [h] at t
  rw [← t, u]
theorem norm_rest (hi lo y s X D : Nat) (hN : X * 18446744073709551616 + D = (hi * 18446744073709551616 + lo) * 2 ^ s) : (((X * 4294967296 + D / 4294967296) % (y * 2 ^ s)) * 4294967296 + D % 4294967296) % (y * 2 ^ s) / 2 ^ s = (hi * 18446744073709551616 + lo) % y := by
  rw [← split32 X D] at hN
  exact norm_gen _ _ _ y s hN
end FdSpec
namespace Go.Sh
open Go Go.RowKit
section
variable {P : Program} {K : Value → World → Prop} {w : World}
@[go_sem] theorem oM_lookup (t T : TypeId) (x i : Value) : oM P (.lookup t (.tmp 0) (.tmp 1) false) T [x, i] K w = rM ((Instr.lookup t x i false).run P w) K := rM_of rfl
@[go_sem] theorem oM_mapUpdate (t T : TypeId) (m k x : Value) : oM P (.mapUpdate t (.tmp 0) (.tmp 1) (.tmp 2)) T [m, k, x] K w = uM ((Instr.mapUpdate t m k x).run P w) K := by
  rw [oM_unit (S := Instr.mapUpdate t m k x) rfl]
@[go_sem] theorem oM_mapEntry (t T : TypeId) (m k : Value) : oM P (.mapEntry t (.tmp 0) (.tmp 1)) T [m, k] K w = rM ((Instr.mapEntry t m k).run P w) K := rM_of rfl
@[go_sem] theorem oM_entryStore (t T : TypeId) (m s x : Value) : oM P (.entryStore t (.tmp 0) (.tmp 1) (.tmp 2)) T [m, s, x] K w = uM ((Instr.entryStore t m s x).run P w) K := by
  rw [oM_unit (S := Instr.entryStore t m s x) rfl]
@[go_sem] theorem oM_makeMap (t T : TypeId) : oM P (.makeMap t none) T [] K w = K (.map (some w.heap.size)) (w.alloc (.map #[] 0)) := by
  rw [rM_of (S := Instr.makeMap t none) rfl, run_makeMap]
  rfl
@[go_sem] theorem oM_range (t T : TypeId) (x : Value) : oM P (.range t (.tmp 0)) T [x] K w = rM ((Instr.range t x).run P w) K := rM_of rfl
@[go_sem] theorem oM_next (T : TypeId) (s : Bool) (x : Value) : oM P (.next (.tmp 0) s) T [x] K w = rM ((Instr.next x s T).run P w) K := rM_of rfl
@[go_sem] theorem oM_entry (T : TypeId) (x : Value) : oM P (.entry (.tmp 0)) T [x] K w = rM ((Instr.entry x).run P w) K := rM_of rfl
@[go_sem] theorem oM_delete (T : TypeId) (ts : Array TypeId) (x y : Value) : oM P (.call { callee := .builtin .delete, args := #[.tmp 0, .tmp 1], argTypes := ts }) T [x, y] K w = rM ((Builtin.delete_ ts T #[x, y]).run P w) K :=
  rM_of (by simp [xop, execOp, evalL, evE, resolve, invoke, builtin])
@[go_sem] theorem oM_clear (T : TypeId) (ts : Array TypeId) (x : Value) : oM P (.call { callee := .builtin .clear, args := #[.tmp 0], argTypes := ts }) T [x] K w = rM ((Builtin.clear_ ts T #[x]).run P w) K :=
  rM_of (by simp [xop, execOp, evalL, evE, resolve, invoke, builtin])
@[go_sem] theorem oM_copy (T : TypeId) (ts : Array TypeId) (x y : Value) : oM P (.call { callee := .builtin .copy, args := #[.tmp 0, .tmp 1], argTypes := ts }) T [x, y] K w = rM ((Builtin.copy_ ts T #[x, y]).run P w) K :=
  rM_of (by simp [xop, execOp, evalL, evE, resolve, invoke, builtin])
theorem oM_append (T : TypeId) (ts : Array TypeId) (x y : Value) : oM P (.call { callee := .builtin .append, args := #[.tmp 0, .tmp 1], argTypes := ts }) T [x, y] K w = rM ((Builtin.append_ ts T #[x, y]).run P w) K :=
  rM_of (by simp [xop, execOp, evalL, evE, resolve, invoke, builtin])
@[go_sem] theorem oM_makeSlice (t T : TypeId) (x y : Value) : oM P (.makeSlice t (.tmp 0) (.tmp 1)) T [x, y] K w = rM ((Instr.makeSlice t x y).run P w) K := rM_of rfl
@[go_sem] theorem oM_typeAssert (t u T : TypeId) (x : Value) : oM P (.typeAssert (.tmp 0) t u false) T [x] K w = rM ((Instr.typeAssert x t u false).run P w) K := rM_of rfl
@[go_sem] theorem oM_makeInterface (t T : TypeId) (x : Value) : oM P (.makeInterface t (.tmp 0)) T [x] K w = rM ((Instr.makeInterface t x).run P w) K := rM_of rfl
@[go_sem] theorem oM_buildSlice0 (T t : Nat) (n : Nat) : oM P (.buildSlice t n #[]) T [] K w = rM ((Instr.buildSlice t n #[]).run P w) K := rM_of (by simp [xop, execOp, evalL, evE])
theorem oM_sliceFrom (t T : TypeId) (x i : Value) : oM P (.slice t (.tmp 0) (some (.tmp 1)) none none) T [x, i] K w = rM ((Instr.sliceAt t x (some i) none none).run P w) K := rM_of rfl
theorem low_bits (n : Nat) (hn : n < 60) (x : Int) : IntKind.i64.wrap ((BitVec.ofInt 64 x &&& BitVec.ofInt 64 (2 ^ n - 1)).toNat : Int) = x % 2 ^ n := by
  have hp : (0 : Int) < 2 ^ n := Int.pow_pos (by omega)
  have hp' : (2 : Nat) ^ n ≤ 2 ^ 59 := Nat.pow_le_pow_right (by omega) (by omega)
  have hpc : ((2 : Int) ^ n) = ((2 ^ n : Nat) : Int) := by simp
  have hb : (BitVec.ofInt 64 (2 ^ n - 1)).toNat = 2 ^ n - 1 := by
    rw [BitVec.toNat_ofInt, hpc]
    omega
  have ha : (BitVec.ofInt 64 x).toNat = (x % 2 ^ 64).toNat := by rw [BitVec.toNat_ofInt]; rfl
  rw [BitVec.toNat_and, hb, ha, Nat.and_two_pow_sub_one_eq_mod]
  have hdv : ((2 : Int) ^ n) ∣ 2 ^ 64 := ⟨2 ^ (64 - n), by rw [← Int.pow_add]; congr 1; omega⟩
  have h1 : (((x % 2 ^ 64).toNat % 2 ^ n : Nat) : Int) = x % 2 ^ n := by
    rw [Int.natCast_emod, Int.toNat_of_nonneg (Int.emod_nonneg _ (by omega)), ← hpc, Int.emod_emod_of_dvd _ hdv]
  rw [h1]
  have h2 := Int.emod_nonneg x (b := 2 ^ n) (by omega)
  have h3 := Int.emod_lt_of_pos x hp
  exact wrapI64 _ (by omega) (by omega)
theorem oM_low (n : Nat) (hn : n < 60) (t t' T : TypeId) (x m : Int) (hm : m = 2 ^ n - 1) : oM P (.binOp .and t (.tmp 0) (.tmp 1) t') T [.int .i64 x, .int .i64 m] K w = K (.int .i64 (x % 2 ^ n)) w := by
  subst hm
  rw [← low_bits n hn x]
  exact oM_of_run rfl
@[go_sem] theorem oM_and1 (t t' T : TypeId) (x : Int) : oM P (.binOp .and t (.tmp 0) (.tmp 1) t') T [.int .i64 x, .int .i64 1] K w = K (.int .i64 (x % 2)) w := oM_low 1 (by omega) t t' T x 1 rfl
@[go_sem] theorem oM_and3 (t t' T : TypeId) (x : Int) : oM P (.binOp .and t (.tmp 0) (.tmp 1) t') T [.int .i64 x, .int .i64 3] K w = K (.int .i64 (x % 4)) w := oM_low 2 (by omega) t t' T x 3 rfl
@[go_sem] theorem oM_and7 (t t' T : TypeId) (x : Int) : oM P (.binOp .and t (.tmp 0) (.tmp 1) t') T [.int .i64 x, .int .i64 7] K w = K (.int .i64 (x % 8)) w := oM_low 3 (by omega) t t' T x 7 rfl
end
end Go.Sh
namespace Go.Sh
open Go Go.RowKit
section
variable {w : World} {B : Nat} {e : TypeId} {sz : Nat} {v : Value} {n : Nat} {xs : List Value}
theorem owns_cells (h : w.ownsRow B e sz v n xs) (hn : 0 < n) : ∃ g cap cur, v = .slice (some ⟨g, 0, none⟩) n cap ∧ g < w.heap.size ∧ B ≤ g ∧ w.heap[g]? = some (.cells cur e (0, 0)) ∧ cur.size = cap * sz ∧ n ≤ cap ∧ ∀ (k : Nat) (x : Value), xs[k]? = some x → w.cell? ⟨g, k, none⟩ = some x := by
  rcases h.2 with ⟨_, h0⟩ | ⟨g, cap, cur, hv, hb, hg, hc, hm, hs, ht⟩
  · omega
  · refine ⟨g, cap, cur, hv, (Array.getElem?_eq_some_iff.1 hg).1, hb, hg, hs, hc, fun k x hk => ?_⟩
    have hlt : k < n * sz := by have := (List.getElem?_eq_some_iff.1 hk).1; rw [h.1] at this; exact this
    rw [← ht, List.getElem?_take_of_lt hlt] at hk
    unfold World.cell?
    rw [hg]
    simpa using hk
theorem owns_own (h : w.ownsRow B e sz v n xs) {i : Nat} (hi : v.ownBlock = some i) : i < w.heap.size ∧ B ≤ i ∧ ∃ cur, w.heap[i]? = some (.cells cur e (0, 0)) := by
  rcases h.2 with ⟨rfl, h0⟩ | ⟨g, cap, cur, rfl, hb, hg, hc, hm, hs, ht⟩
  · cases hi
  · cases hi
    exact ⟨(Array.getElem?_eq_some_iff.1 hg).1, hb, cur, hg⟩
theorem owns_keep {w' : World} (h : w.ownsRow B e sz v n xs) (hk : ∀ i, v.ownBlock = some i → w'.heap[i]? = w.heap[i]?) : w'.ownsRow B e sz v n xs := by
  refine ⟨h.1, ?_⟩
  rcases h.2 with h0 | ⟨g, cap, cur, rfl, hb, hg, hr⟩
  · exact .inl h0
  · exact .inr ⟨g, cap, cur, rfl, hb, by rw [hk g rfl]; exact hg, hr⟩
theorem owns_len (h : w.ownsRow B e sz v n xs) : ∃ a c, v = .slice a n c := by
  rcases h.2 with ⟨rfl, rfl⟩ | ⟨g, cap, cur, rfl, _⟩
  · exact ⟨none, 0, rfl⟩
  · exact ⟨_, cap, rfl⟩
end
def flat {α : Type} (mk : α → List Value) (l : List α) : List Value := l.flatMap mk
section
variable {α : Type} {mk : α → List Value} {sz : Nat}
theorem flat_cons (x : α) (l : List α) : flat mk (x :: l) = mk x ++ flat mk l := rfl
theorem flat_snoc (l : List α) (x : α) : flat mk (l ++ [x]) = flat mk l ++ mk x := by simp [flat]
theorem flat_length (hm : ∀ x, (mk x).length = sz) (l : List α) : (flat mk l).length = l.length * sz := by
  induction l with
  | nil => simp [flat]
  | cons x l ih => rw [flat_cons, List.length_append, hm, ih, List.length_cons, Nat.succ_mul, Nat.add_comm]
end
structure Fr (S : Nat → Prop) (w w' : World) : Prop where
  os : w'.os = w.os
  tape : w'.tape = w.tape
  output : w'.output = w.output
  size : w.heap.size ≤ w'.heap.size
  block : ∀ i, i < w.heap.size → ¬ S i → w'.heap[i]? = w.heap[i]?
section
variable {S S' : Nat → Prop} {w w1 w2 : World}
theorem Fr.refl (S : Nat → Prop) (w : World) : Fr S w w := ⟨rfl, rfl, rfl, Nat.le_refl _, fun _ _ _ => rfl⟩
theorem Fr.trans (h : Fr S w w1) (k : Fr S' w1 w2) (hs : ∀ i, S' i → S i ∨ w.heap.size ≤ i) : Fr S w w2 :=
  ⟨k.os.trans h.os, k.tape.trans h.tape, k.output.trans h.output, Nat.le_trans h.size k.size, fun i hi hn => (k.block i (Nat.lt_of_lt_of_le hi h.size) (fun hx => (hs i hx).elim hn (by omega))).trans (h.block i hi hn)⟩
theorem Fr.by (h : Fr S w w1) {b : Option Nat} (k : w1.grownBy w2 b) (hs : ∀ i, b = some i → S i ∨ w.heap.size ≤ i) : Fr S w w2 :=
  ⟨k.os.trans h.os, k.tape.trans h.tape, k.output.trans h.output, Nat.le_trans h.size k.size, fun i hi hn => (k.block i (Nat.lt_of_lt_of_le hi h.size) (fun hx => (hs i hx.symm).elim hn (by omega))).trans (h.block i hi hn)⟩
theorem Fr.none_by (h : Fr S w w1) (k : w1.grownBy w2 none) : Fr S w w2 := h.by k (fun _ h => by cases h)
theorem Fr.alloc (h : Fr S w w1) (o : Obj) : Fr S w (w1.alloc o) := h.none_by (World.grownBy_alloc w1 o none)
theorem Fr.drew (h : Fr S w w1) : Fr S w { w1 with drawn := w1.drawn + 1 } := ⟨h.os, h.tape, h.output, h.size, h.block⟩
theorem Fr.mono (h : Fr S w w1) (hs : ∀ i, i < w.heap.size → S i → S' i) : Fr S' w w1 := ⟨h.os, h.tape, h.output, h.size, fun i hi hn => h.block i hi (fun hx => hn (hs i hi hx))⟩
end
theorem cell_of_block {w : World} {b : Nat} {cs : Array Value} {T : TypeId} {f : Nat × Nat} (h : w.heap[b]? = some (.cells cs T f)) (i : Nat) : w.cell? ⟨b, i, none⟩ = cs[i]? := by
  simp [World.cell?, h]
end Go.Sh
namespace Go.Sh
open Go Go.RowKit
section
variable {P : Program} {w : World} {K : Value → World → Prop}
theorem owns_base {B C : Nat} {e : TypeId} {sz : Nat} {v : Value} {n : Nat} {xs : List Value} (h : w.ownsRow B e sz v n xs) (hc : C ≤ B) : w.ownsRow C e sz v n xs :=
  ⟨h.1, h.2.imp id (fun ⟨g, cap, cur, a, b, r⟩ => ⟨g, cap, cur, a, Nat.le_trans hc b, r⟩)⟩
theorem run_append_more (t ty e : TypeId) (i : TypeInfo) (z : Value) (size bytes : Nat) (ht : P.underlying t = some (.slice e)) (hi : P.info? e = some i) (hz : i.zero = some z)
    (hsize : i.size = size) (hby : i.bytes = bytes) (hzs : z.cells.size = size) (hsz : 0 < size)
    (v : Value) (n : Nat) (xs : List Value) (hown : w.ownsRow 0 e size v n xs)
    (a : Addr) (m c : Nat) (news : List Value) (hl : news.length = m * size) (hnews : ∀ j u, news[j]? = some u → w.cell? (a.add j) = some u) (h1 : ∀ u ∈ news, u.oneCell' = true)
    (h63 : n + m ≤ maxLen) (hbytes : (n + m) * bytes ≤ 140737488355328) :
    ∃ v' w', (Builtin.append_ #[t, t] ty #[v, .slice (some a) m c]).run P w = .ok v' w' ∧ w'.ownsRow 0 e size v' (n + m) (xs ++ news) ∧ w.grownBy w' v.ownBlock ∧
      (∀ i, v'.ownBlock = some i → v.ownBlock = some i ∨ w.heap.size ≤ i) := by
  rcases hown.2 with ⟨hv, hn⟩ | ⟨g, cap, cur, hv, hb, hg, hnc, hm, hcs, htk⟩
  · have h' : w.ownsRow w.heap.size e size v n xs := ⟨hown.1, .inl ⟨hv, hn⟩⟩
    obtain ⟨v', w', hr, ho, hgr, _⟩ := run_append_own (P := P) (w := w) w.heap.size t ty e i z size bytes ht hi hz hsize hby hzs hsz v n xs h' a m c news hl hnews h1 h63 hbytes (Nat.le_refl _)
    exact ⟨v', w', hr, owns_base ho (Nat.zero_le _), hgr, fun j hj => .inr (owns_own ho hj).2.1⟩
  · by_cases hroom : n + m ≤ cap
    · subst hv
      obtain ⟨w', hr, ho, hgr⟩ := run_append_fits (P := P) (w := w) 0 t ty e i size ht hi hsize g n cap xs hown a m c news hl hnews h1 hroom
      exact ⟨_, w', hr, ho, hgr, fun j hj => .inl hj⟩
    · obtain ⟨v', w', hr, ho, hgr, _⟩ := run_append_own (P := P) (w := w) 0 t ty e i z size bytes ht hi hz hsize hby hzs hsz v n xs hown a m c news hl hnews h1 h63 hbytes (Nat.zero_le _)
      subst hsize
      subst hv
      have holds : ∀ j u, xs[j]? = some u → w.cell? ((⟨g, 0, none⟩ : Addr).add j) = some u := hown.cells (g := g) rfl
      have hr2 := run_append_grow (P := P) (w := w) t ty e i z ht hi hz ⟨g, 0, none⟩ n cap xs hown.1 holds a m c news hl hnews (by omega) (by simp only [maxLen] at h63; omega) (growslice_fits (by omega) (by rw [hby]; exact hbytes))
      rw [hr] at hr2
      cases hr2
      exact ⟨_, _, hr, ho, hgr, fun j hj => by cases hj; exact .inr (Nat.le_refl _)⟩
theorem append_at (t T e : TypeId) (i : TypeInfo) (z : Value) (size bytes : Nat) (ht : P.underlying t = some (.slice e)) (hi : P.info? e = some i) (hz : i.zero = some z)
    (hsize : i.size = size) (hby : i.bytes = bytes) (hzs : z.cells.size = size) (hsz : 0 < size)
    {v : Value} {n : Nat} {xs : List Value} (hown : w.ownsRow 0 e size v n xs)
    {ad : Option Addr} {m c : Nat} (news : List Value) (hl : news.length = m * size) (had : ad = none → m = 0 ∧ c = 0) (hnews : ∀ a, ad = some a → ∀ j u, news[j]? = some u → w.cell? (a.add j) = some u) (h1 : ∀ u ∈ news, u.oneCell' = true)
    (h63 : n + m ≤ maxLen) (hbytes : (n + m) * bytes ≤ 140737488355328)
    (k : ∀ v' w', w'.ownsRow 0 e size v' (n + m) (xs ++ news) → w.grownBy w' v.ownBlock → (∀ i, v'.ownBlock = some i → v.ownBlock = some i ∨ w.heap.size ≤ i) → K v' w') :
    oM P (.call { callee := .builtin .append, args := #[.tmp 0, .tmp 1], argTypes := #[t, t] }) T [v, .slice ad m c] K w := by
  rw [oM_append]
  cases ad with
  | some a =>
    obtain ⟨v', w', hr, h2, h3, h4⟩ := run_append_more (P := P) (w := w) t T e i z size bytes ht hi hz hsize hby hzs hsz v n xs hown a m c news hl (hnews a rfl) h1 h63 hbytes
    rw [hr]
    exact k v' w' h2 h3 h4
  | none =>
    obtain ⟨rfl, rfl⟩ := had rfl
    have hn : news = [] := List.eq_nil_of_length_eq_zero (by simpa using hl)
    subst hn
    rw [run_append_owned_none (P := P) (w := w) 0 t T e i size ht hi v n xs hown]
    refine k v w ?_ ⟨rfl, rfl, rfl, Nat.le_refl _, fun _ _ _ => rfl⟩ (fun i h => .inl h)
    simpa using hown
end
def RowR {α : Type} (mk : α → List Value) (sz : Nat) (w : World) (v : Value) (l : List α) : Prop :=
  ∃ ad c, v = .slice ad l.length c ∧ (ad = none → l.length = 0 ∧ c = 0) ∧ (l = [] ∨ ∃ b o, ad = some ⟨b, o, none⟩ ∧ b < w.heap.size ∧ ∀ (k : Nat) (x : Value), (flat mk l)[k]? = some x → w.cell? ⟨b, o + k, none⟩ = some x)
section
variable {α : Type} {mk : α → List Value} {sz : Nat} {w w' : World} {v : Value} {l : List α}
theorem RowR.of_owns {B : Nat} {e : TypeId} (h : w.ownsRow B e sz v l.length (flat mk l)) : RowR mk sz w v l := by
  rcases h.2 with ⟨rfl, h0⟩ | ⟨g, cap, cur, rfl, hb, hg, hn, hm, hcs, ht⟩
  · exact ⟨none, 0, by rw [h0], fun _ => ⟨h0, rfl⟩, .inl (List.eq_nil_of_length_eq_zero h0)⟩
  · refine ⟨_, cap, rfl, by simp, ?_⟩
    by_cases h0 : l = []
    · exact .inl h0
    · obtain ⟨g', cap', cur', hv, hlt, _, _, _, _, hc⟩ := owns_cells h (List.length_pos_iff.2 h0)
      cases hv
      exact .inr ⟨g, 0, rfl, hlt, fun k x hk => by rw [Nat.zero_add]; exact hc k x hk⟩
def Value.inBlock : Value → Option Nat
  | .slice (some a) _ _ => some a.block
  | _ => none
theorem RowR.keep (h : RowR mk sz w v l) (hs : w.heap.size ≤ w'.heap.size) (hk : ∀ i, Value.inBlock v = some i → i < w.heap.size → w'.heap[i]? = w.heap[i]?) : RowR mk sz w' v l := by
  obtain ⟨ad, c, rfl, h0, h⟩ := h
  refine ⟨ad, c, rfl, h0, h.imp id ?_⟩
  rintro ⟨b, o, rfl, hlt, hc⟩
  refine ⟨b, o, rfl, Nat.lt_of_lt_of_le hlt hs, fun k x hx => ?_⟩
  have := hc k x hx
  unfold World.cell? at this ⊢
  rw [hk b rfl hlt]
  exact this
end
theorem add_none (b o k : Nat) : (⟨b, o, none⟩ : Addr).add k = ⟨b, o + k, none⟩ := by
  unfold Addr.add
  split
  · rename_i h0; rw [h0]; simp
  · rfl
theorem clone_at {P : Program} {α : Type} {mk : α → List Value} {w : World} {K : Value → World → Prop} (t T e : TypeId) (i : TypeInfo) (z : Value) (size bytes : Nat) (ht : P.underlying t = some (.slice e)) (hi : P.info? e = some i) (hz : i.zero = some z)
    (hsize : i.size = size) (hby : i.bytes = bytes) (hzs : z.cells.size = size) (hsz : 0 < size) (hm : ∀ x, (mk x).length = size) (h1 : ∀ x, ∀ u ∈ mk x, u.oneCell' = true)
    {v u : Value} {l : List α} (hr : RowR mk size w v l) (hu : w.ownsRow 0 e size u 0 []) {B : Nat} (hB : B ≤ w.heap.size) (hf : ∀ i, u.ownBlock = some i → B ≤ i) (hll : l.length ≤ 4611686018427387904) (hb : l.length * bytes ≤ 140737488355328)
    (k : ∀ v' w', w'.ownsRow 0 e size v' l.length (flat mk l) → w.grownBy w' u.ownBlock → (∀ i, v'.ownBlock = some i → B ≤ i) → K v' w') :
    oM P (.call { callee := .builtin .append, args := #[.tmp 0, .tmp 1], argTypes := #[t, t] }) T [u, v] K w := by
  obtain ⟨ad, c, rfl, h0, hc⟩ := hr
  refine append_at t T e i z size bytes ht hi hz hsize hby hzs hsz hu (flat mk l) (flat_length hm l) h0 ?_ ?_ (by simp only [maxLen]; omega) (by rw [Nat.zero_add]; exact hb) ?_
  · rintro a rfl j x hj
    rcases hc with rfl | ⟨b, o, hbo, hlt, hc⟩
    · simp [flat] at hj
    · cases hbo
      rw [add_none]; exact hc j x hj
  · intro x hx
    unfold flat at hx
    obtain ⟨y, _, hy⟩ := List.mem_flatMap.1 hx
    exact h1 y x hy
  · intro v' w' ho hg hv
    rw [Nat.zero_add] at ho
    exact k v' w' ho hg (fun i hi => (hv i hi).elim (hf i) (Nat.le_trans hB))
end Go.Sh
namespace Go.Sh
open Go Go.RowKit
theorem alloc_size (w : World) (o : Obj) : (w.alloc o).heap.size = w.heap.size + 1 := by
  show (w.heap.push o).size = _
  simp
theorem grown_setRow (w : World) (g : Nat) (cs : Array Value) : w.grownBy (w.setRow g cs) (some g) :=
  ⟨rfl, rfl, rfl, by simp [World.setRow], fun i _ hi => setRow_other w g i cs (fun e => hi (by rw [e]))⟩
section
variable {P : Program} {w : World} {K : Value → World → Prop}
theorem sliceFrom_at {t T : TypeId} {g o n c : Nat} {sz : Nat} (ht : P.underlying t = some (.slice (P.elem t))) (hs : ∀ w, (sizeOf (P.elem t)).run P w = .ok sz w) (i : Nat) (hi : i ≤ n) (hc : i < c) (k : K (.slice (some ⟨g, o + i * sz, none⟩) (n - i) (c - i)) w) :
    oM P (.slice t (.tmp 0) (some (.tmp 1)) none none) T [.slice (some ⟨g, o, none⟩) n c, .int .i64 i] K w := by
  rw [oM_sliceFrom, run_sliceAt_slice w t _ _ _ _ ht, run_slice_l w t _ n c ht .i64 i (by omega) (by omega), hs]
  have : ¬ c = i := by omega
  simp only [Result.andThen_ok, sliced, Int.toNat_natCast, if_neg this, Option.map_some, add_none]
  exact k
end
end Go.Sh
namespace Go.Sh
open Go Go.RowKit
def BufM (w : World) (e : TypeId) (v : Value) (l : List UInt8) : Prop :=
  ∃ g cap cur fz, v = .slice (some ⟨g, 0, none⟩) l.length cap ∧ w.heap[g]? = some (.cells cur e fz) ∧ (∀ i, i < cur.size → ¬ (fz.1 ≤ i ∧ i < fz.2)) ∧ cur.size = cap ∧ l.length ≤ cap ∧ ∀ j (h : j < l.length), cur[j]? = some (.int .u8 (l[j].toNat : Int))
section
variable {P : Program} {w w' : World} {e : TypeId} {v : Value} {l : List UInt8} {K : Value → World → Prop}
theorem BufM.shape (h : BufM w e v l) : ∃ g c, v = .slice (some ⟨g, 0, none⟩) l.length c ∧ g < w.heap.size := by
  obtain ⟨g, cap, cur, fz, rfl, hg, _⟩ := h
  exact ⟨g, cap, rfl, (Array.getElem?_eq_some_iff.1 hg).1⟩
theorem BufM.keep (h : BufM w e v l) (hk : ∀ i, v.ownBlock = some i → w'.heap[i]? = w.heap[i]?) : BufM w' e v l := by
  obtain ⟨g, cap, cur, fz, rfl, hg, r⟩ := h
  exact ⟨g, cap, cur, fz, rfl, by rw [hk g rfl]; exact hg, r⟩
theorem BufM.cell (h : BufM w e v l) {j : Nat} (hj : j < l.length) : ∃ g c, v = .slice (some ⟨g, 0, none⟩) l.length c ∧ w.cell? ⟨g, j, none⟩ = some (.int .u8 (l[j].toNat : Int)) := by
  obtain ⟨g, cap, cur, fz, rfl, hg, hfz, hcs, hlc, hcell⟩ := h
  exact ⟨g, cap, rfl, by rw [cell_of_block hg]; exact hcell j hj⟩
end
end Go.Sh
namespace Go.Sh
open Go Go.RowKit
section
variable {P : Program} {K : Value → World → Prop} {w : World}
@[go_sem] theorem oM_shr64 (t t' T : TypeId) (yk : IntKind) (x y : Int) (h0 : 0 ≤ y) (h1 : y ≤ 64) : oM P (.binOp .shr t (.tmp 0) (.tmp 1) t') T [.int .u64 x, .int yk y] = pureM (.int .u64 (x / 2 ^ y.toNat)) := by
  funext K w
  simp [oM, opM, xop, execOp, evalL, evE, binOp]
  rfl
@[go_sem] theorem oM_shl64 (t t' T : TypeId) (yk : IntKind) (x y : Int) (h0 : 0 ≤ y) (h1 : y ≤ 64) : oM P (.binOp .shl t (.tmp 0) (.tmp 1) t') T [.int .u64 x, .int yk y] = pureM (.int .u64 (x * 2 ^ y.toNat % 18446744073709551616)) := by
  funext K w
  simp [oM, opM, xop, execOp, evalL, evE, binOp]
  rfl
@[go_sem] theorem oM_shr32 (t t' T : TypeId) (yk : IntKind) (x y : Int) (h0 : 0 ≤ y) (h1 : y ≤ 32) : oM P (.binOp .shr t (.tmp 0) (.tmp 1) t') T [.int .u32 x, .int yk y] = pureM (.int .u32 (x / 2 ^ y.toNat)) := by
  funext K w
  simp [oM, opM, xop, execOp, evalL, evE, binOp]
  rfl
@[go_sem] theorem oM_shl32 (t t' T : TypeId) (yk : IntKind) (x y : Int) (h0 : 0 ≤ y) (h1 : y ≤ 32) : oM P (.binOp .shl t (.tmp 0) (.tmp 1) t') T [.int .u32 x, .int yk y] = pureM (.int .u32 (x * 2 ^ y.toNat % 4294967296)) := by
  funext K w
  simp [oM, opM, xop, execOp, evalL, evE, binOp]
  rfl
@[go_sem] theorem oM_and64 (t t' T : TypeId) (x y : Int) : oM P (.binOp .and t (.tmp 0) (.tmp 1) t') T [.int .u64 x, .int .u64 y] = pureM (.int .u64 (bits .and .u64 x y)) := by
  funext K w
  simp [oM, opM, xop, execOp, evalL, evE, binOp, go_sem]
@[go_sem] theorem oM_or64 (t t' T : TypeId) (x y : Int) : oM P (.binOp .or t (.tmp 0) (.tmp 1) t') T [.int .u64 x, .int .u64 y] = pureM (.int .u64 (bits .or .u64 x y)) := by
  funext K w
  simp [oM, opM, xop, execOp, evalL, evE, binOp, go_sem]
end
theorem bits_and64 (x y : Int) (hx : 0 ≤ x ∧ x < 18446744073709551616) (hy : 0 ≤ y ∧ y < 18446744073709551616) : bits .and .u64 x y = ((x.toNat &&& y.toNat : Nat) : Int) := by
  obtain ⟨a, rfl⟩ := Int.eq_ofNat_of_zero_le hx.1
  obtain ⟨b, rfl⟩ := Int.eq_ofNat_of_zero_le hy.1
  have ha : a < 2 ^ 64 := by omega
  have hb : b < 2 ^ 64 := by omega
  simp only [bits, Int.toNat_natCast]
  rw [BitVec.ofInt_natCast, BitVec.ofInt_natCast, BitVec.toNat_and]
  simp only [BitVec.toNat_ofNat]
  rw [show IntKind.u64.bits = 64 from rfl, Nat.mod_eq_of_lt ha, Nat.mod_eq_of_lt hb]
  have : a &&& b ≤ a := Nat.and_le_left
  exact wrapU64 _ (by omega) (by omega)
theorem bits_or64 (x y : Int) (hx : 0 ≤ x ∧ x < 18446744073709551616) (hy : 0 ≤ y ∧ y < 18446744073709551616) : bits .or .u64 x y = ((x.toNat ||| y.toNat : Nat) : Int) := by
  obtain ⟨a, rfl⟩ := Int.eq_ofNat_of_zero_le hx.1
  obtain ⟨b, rfl⟩ := Int.eq_ofNat_of_zero_le hy.1
  have ha : a < 2 ^ 64 := by omega
  have hb : b < 2 ^ 64 := by omega
  simp only [bits, Int.toNat_natCast]
  rw [BitVec.ofInt_natCast, BitVec.ofInt_natCast, BitVec.toNat_or]
  simp only [BitVec.toNat_ofNat]
  rw [show IntKind.u64.bits = 64 from rfl, Nat.mod_eq_of_lt ha, Nat.mod_eq_of_lt hb]
  have := Nat.or_lt_two_pow ha hb
  exact wrapU64 _ (by omega) (by omega)
theorem mask64 (n : Nat) (x m : Int) (hn : n ≤ 64) (hm : m = 2 ^ n - 1) (hx : 0 ≤ x ∧ x < 18446744073709551616) : bits .and .u64 x m = x % 2 ^ n := by
  have hp : (0 : Int) < 2 ^ n := Int.pow_pos (by omega)
  have hp' : (2 : Nat) ^ n ≤ 2 ^ 64 := Nat.pow_le_pow_right (by omega) hn
  have hpc : ((2 : Int) ^ n) = ((2 ^ n : Nat) : Int) := by simp
  rw [bits_and64 x m hx (by rw [hm, hpc]; omega)]
  have : m.toNat = 2 ^ n - 1 := by rw [hm, hpc]; omega
  rw [this, Nat.and_two_pow_sub_one_eq_mod, Int.natCast_emod, Int.toNat_of_nonneg hx.1, hpc]
theorem or_add64 (s : Nat) (x y : Int) (hs : s ≤ 64) (hx : 0 ≤ x) (hy : 0 ≤ y ∧ y < 2 ^ s) (h : x * 2 ^ s < 18446744073709551616) : bits .or .u64 (x * 2 ^ s) y = x * 2 ^ s + y := by
  obtain ⟨a, rfl⟩ := Int.eq_ofNat_of_zero_le hx
  obtain ⟨b, rfl⟩ := Int.eq_ofNat_of_zero_le hy.1
  have hpc : ((2 : Int) ^ s) = ((2 ^ s : Nat) : Int) := by simp
  rw [hpc] at hy h ⊢
  have hp' : (2 : Nat) ^ s ≤ 2 ^ 64 := Nat.pow_le_pow_right (by omega) hs
  have hb : b < 2 ^ s := by omega
  have e : ((a : Int) * ((2 ^ s : Nat) : Int)) = ((2 ^ s * a : Nat) : Int) := by rw [Int.natCast_mul]; exact Int.mul_comm _ _
  rw [e] at h ⊢
  rw [bits_or64 _ _ (by omega) (by omega), Int.toNat_natCast, Int.toNat_natCast, ← Nat.two_pow_add_eq_or_of_lt hb]
  simp
end Go.Sh
namespace Go.Sh
open Go Go.RowKit
abbrev Next (w w' : World) : Prop := Below w.heap.size w w'
theorem _root_.Go.RowKit.Below.on {a b c : World} (h : Below a.heap.size a b) (k : Below b.heap.size b c) : Below a.heap.size a c := h.trans (k.mono h.size)
theorem _root_.Go.RowKit.Below.drawn {B : Nat} {w : World} : Below B w { w with drawn := w.drawn + 1 } := ⟨rfl, rfl, rfl, Nat.le_refl _, fun _ _ => rfl⟩
def BoxIs (w : World) (g : Nat) (cs : List Value) : Prop := ∀ w', Below w.heap.size w w' → ∀ (i : Nat) (v : Value), cs[i]? = some v → w'.cell? ⟨g, i, none⟩ = some v
theorem BoxIs.next {w w' : World} {g : Nat} {cs : List Value} (h : BoxIs w g cs) (hb : Below w.heap.size w w') : BoxIs w' g cs :=
  fun w2 h2 => h w2 (Below.on hb h2)
theorem box_in {P : Program} {w : World} {K : Value → World → Prop} {T T' : TypeId} {x : Value} {cs : List Value} (hx : x.cells = cs.toArray)
    (k : ∀ g W, Below w.heap.size w W → w.heap.size ≤ g → BoxIs W g cs → K (.pointer (some ⟨g, 0, none⟩)) W) : oM P (.box T (.tmp 0)) T' [x] K w := by
  rw [oM_box]
  have e : (Instr.box T x).run P w = .ok (.pointer (some ⟨w.heap.size, 0, none⟩)) (w.alloc (.cells cs.toArray T)) := by
    rw [← hx]; rfl
  rw [e]
  refine k _ _ ((Below.refl _ w).alloc (Nat.le_refl _) _) (Nat.le_refl _) (fun w' hb i v hi => ?_)
  have hlt : w.heap.size < (w.alloc (.cells cs.toArray T)).heap.size := by simp
  rw [hb.cell hlt]
  have := World.cell?_alloc_at (w := w) cs.toArray T w.heap.size i rfl
  rw [this]
  simpa using hi
def I64 (n : Int) : Prop := -9223372036854775808 ≤ n ∧ n < 9223372036854775808
def intC (n : Int) : List Value := [.int .i64 n]
structure Ints (w : World) (v : Value) (l : List Int) : Prop where
  row : RowR intC 1 w v l
  rng : ∀ n ∈ l, I64 n
  len : l.length ≤ 9223372036854775807
theorem Ints.next {w w' : World} {v : Value} {l : List Int} (h : Ints w v l) (hb : Below w.heap.size w w') : Ints w' v l :=
  ⟨h.row.keep hb.size (fun i _ hi => hb.block i hi), h.rng, h.len⟩
theorem Ints.nil (w : World) : Ints w (.slice none 0 0) [] := ⟨⟨none, 0, rfl, fun _ => ⟨rfl, rfl⟩, .inl rfl⟩, by simp, by simp⟩
theorem Ints.isSlice {w : World} {v : Value} {l : List Int} (h : Ints w v l) : ∃ ad c, v = .slice ad l.length c := by
  obtain ⟨⟨ad, c, hv, _⟩, _⟩ := h; exact ⟨ad, c, hv⟩
theorem flat_int (l : List Int) : flat intC l = l.map (fun n => Value.int .i64 n) := by
  induction l with
  | nil => rfl
  | cons a l ih => rw [flat_cons, ih]; rfl
theorem Ints.at {w : World} {ad : Option Addr} {n c : Nat} {l : List Int} (h : Ints w (.slice ad n c) l) {i : Nat} (hi : i < l.length) :
    ∃ b o, ad = some ⟨b, o, none⟩ ∧ b < w.heap.size ∧ (∀ w', Below w.heap.size w w' → w'.cell? ⟨b, o + i, none⟩ = some (.int .i64 l[i])) ∧ I64 l[i] ∧ n = l.length := by
  obtain ⟨⟨ad', c', hv, h0, hc⟩, hr, _⟩ := h
  cases hv
  rcases hc with rfl | ⟨b, o, rfl, hlt, hc⟩
  · simp at hi
  · refine ⟨b, o, rfl, hlt, fun w' hb => ?_, hr _ (List.getElem_mem hi), rfl⟩
    rw [hb.cell hlt]
    exact hc i _ (by rw [flat_int]; simp [hi])
theorem Ints.of_owns {w : World} {B : Nat} {e : TypeId} {v : Value} {l : List Int} (h : w.ownsRow B e 1 v l.length (flat intC l)) (hr : ∀ n ∈ l, I64 n) (hl : l.length ≤ 9223372036854775807) : Ints w v l :=
  ⟨RowR.of_owns h, hr, hl⟩
@[go_sem] theorem oM_makeFunc2 {P : Program} {K : Value → World → Prop} {w : World} (fn : Fn) (T : TypeId) (x y : Value) : oM P (.makeFunc fn #[] #[.tmp 0, .tmp 1]) T [x, y] K w = K (.func fn #[] #[x, y]) w := oM_of_run (by simp [xop, execOp, evalL, evE, Instr.makeFunc])
@[go_sem] theorem oM_makeFunc01 {P : Program} {K : Value → World → Prop} {w : World} (fn : Fn) (T : TypeId) (x : Value) : oM P (.makeFunc fn #[] #[.tmp 0]) T [x] K w = K (.func fn #[] #[x]) w := oM_of_run (by simp [xop, execOp, evalL, evE, Instr.makeFunc])
end Go.Sh
namespace Go.Sh
open Go
section
variable {P : Program} {K : Value → World → Prop} {w : World} {A B : Prop} {p : Prop} [Decidable p] {b c : Bool} {m : (Value → World → Prop) → World → Prop} {T : TypeId} {x y v : Value} {C : World → Prop} {KQ : Value → Prop}
theorem idGd {g : Bool} (h : gdM g m K w) : gdM g m K w := h
theorem idGdD {q : Prop} {d : Decidable q} (h : gdM (gd (.bool (@decide q d)) c) m K w) : gdM (gd (.bool (@decide q d)) c) m K w := h
theorem idGdN {q : Prop} {d : Decidable q} (h : gdM (gd (.bool (!@decide q d)) c) m K w) : gdM (gd (.bool (!@decide q d)) c) m K w := h
theorem idPick (h : oM P (.pick (.tmp 0) (.tmp 1) (.tmp 2)) T [v, x, y] K w) : oM P (.pick (.tmp 0) (.tmp 1) (.tmp 2)) T [v, x, y] K w := h
theorem idCond (h : condM v A B) : condM v A B := h
theorem idO {o : Op} {l : List Value} (h : oM P o T l K w) : oM P o T l K w := h
theorem idOQ {o : Op} {l : List Value} (h : oQ P o T l C KQ) : oQ P o T l C KQ := h
theorem zF (k : m K w) (h : p := by first|assumption|omega) : gdM (gd (.bool (decide p)) true) m K w := gdt_pos h k
theorem zG (k : K undef w) (h : ¬p := by first|assumption|omega) : gdM (gd (.bool (decide p)) true) m K w := gdt_neg h k
theorem zI (k : m K w) (h : ¬p := by first|assumption|omega) : gdM (gd (.bool (decide p)) false) m K w := gdf_pos h k
theorem zJ (k : K undef w) (h : p := by first|assumption|omega) : gdM (gd (.bool (decide p)) false) m K w := gdf_neg h k
theorem zL (k : m K w) (h : ¬p := by first|assumption|omega) : gdM (gd (.bool (!decide p)) true) m K w := gdtn_pos h k
theorem zM (k : K undef w) (h : p := by first|assumption|omega) : gdM (gd (.bool (!decide p)) true) m K w := gdtn_neg h k
theorem zO (k : m K w) (h : p := by first|assumption|omega) : gdM (gd (.bool (!decide p)) false) m K w := gdfn_pos h k
theorem zP (k : K undef w) (h : ¬p := by first|assumption|omega) : gdM (gd (.bool (!decide p)) false) m K w := gdfn_neg h k
theorem zA (k : m K w) : gdM (gd (.bool true) true) m K w := gdtT k
theorem zB (k : K undef w) : gdM (gd (.bool false) true) m K w := gdtF k
theorem zC (k : m K w) : gdM (gd (.bool false) false) m K w := gdfF k
theorem zD (k : K undef w) : gdM (gd (.bool true) false) m K w := gdfT k
theorem zH (h1 : p → m K w) (h2 : ¬p → K undef w) : gdM (gd (.bool (decide p)) true) m K w := gdt_split h1 h2
theorem zK (h1 : p → K undef w) (h2 : ¬p → m K w) : gdM (gd (.bool (decide p)) false) m K w := gdf_split h1 h2
theorem zQ (h1 : p → m K w) (h2 : ¬p → K undef w) : gdM (gd (.bool (!decide p)) false) m K w := gdfn_split h1 h2
theorem yB (k : K x w) : oM P (.pick (.tmp 0) (.tmp 1) (.tmp 2)) T [.bool true, x, y] K w := pickT k
theorem yC (k : K y w) : oM P (.pick (.tmp 0) (.tmp 1) (.tmp 2)) T [.bool false, x, y] K w := pickF k
theorem yD (k : K x w) (h : p := by first|assumption|omega) : oM P (.pick (.tmp 0) (.tmp 1) (.tmp 2)) T [.bool (decide p), x, y] K w := pick_pos h k
theorem yE (k : K y w) (h : ¬p := by first|assumption|omega) : oM P (.pick (.tmp 0) (.tmp 1) (.tmp 2)) T [.bool (decide p), x, y] K w := pick_neg h k
theorem yF (k : K x w) (h : ¬p := by first|assumption|omega) : oM P (.pick (.tmp 0) (.tmp 1) (.tmp 2)) T [.bool (!decide p), x, y] K w := pickn_pos h k
theorem yG (k : K y w) (h : p := by first|assumption|omega) : oM P (.pick (.tmp 0) (.tmp 1) (.tmp 2)) T [.bool (!decide p), x, y] K w := pickn_neg h k
theorem yL (k : A) : condM (.bool true) A B := condT k
theorem yM (k : B) : condM (.bool false) A B := condF k
theorem yN (k : A) (h : p := by first|assumption|omega) : condM (.bool (decide p)) A B := cond_pos h k
theorem yO (k : B) (h : ¬p := by first|assumption|omega) : condM (.bool (decide p)) A B := cond_neg h k
theorem yQ (k : A) (h : ¬p := by first|assumption|omega) : condM (.bool (!decide p)) A B := condn_pos h k
theorem yR (k : B) (h : p := by first|assumption|omega) : condM (.bool (!decide p)) A B := condn_neg h k
theorem yP (h1 : p → A) (h2 : ¬p → B) : condM (.bool (decide p)) A B := condM_dec h1 h2
end
end Go.Sh
namespace Go.Proofs
open Go Go.Sh Go.RowKit FdSpec
set_option linter.unusedSimpArgs false
set_option linter.unusedVariables false
set_option maxRecDepth 10000
section
variable {K : Value → World → Prop} {w : World}
theorem K_eq {a b : Value} (h : K a w) (e : b = a) : K b w := e ▸ h
@[reducible] def u64V (n : Int) : Value := .int .u64 n
theorem valid_ok (n : Int) (h : K (.bool (decide (okN n))) w) : callM Tryd.prog 34 #[.int .i64 n] K w := by
  apply sh_34_ok
  unfold sh_34
  have e : decide (okN n) = (decide (1 ≤ n) && decide (n < 2305843009213693952)) := by
    by_cases h1 : 1 ≤ n <;> by_cases h2 : n < 2305843009213693952 <;> simp [okN, h1, h2]
  rw [e] at h
  by_cases h1 : 1 ≤ n
  · repeat (any_goals (first
    | (with_reducible first|refine pureM_in ?_|((refine idGd ?_); refine zA ?_)|((refine idPick ?_); refine yB ?_))
    | ((with_reducible refine idO ?_); (with_reducible refine oM_gen fun Kv hK=>?_); simp [go_sem, h1]; refine hK _ _ ?_; clear hK; clear Kv)))
    simpa [h1] using h
  · repeat (any_goals (first
    | (with_reducible first|((refine idGd ?_); refine zB ?_)|((refine idPick ?_); refine yC ?_))
    | ((with_reducible refine idO ?_); (with_reducible refine oM_gen fun Kv hK=>?_); simp [go_sem, h1]; refine hK _ _ ?_; clear hK; clear Kv)))
    simpa [h1] using h
theorem residue_ok (n a : Int) (hn : okN n) (h : K (.int .u64 (a % n)) w) : callM Tryd.prog 36 #[.int .i64 n, .int .i64 a] K w := by
  apply sh_36_ok
  unfold sh_36
  obtain ⟨h1, h2⟩ := hn
  have e := residue_eq n a (by omega)
  have h3 := Int.emod_nonneg a (b := n) (by omega)
  have h4 := Int.emod_lt_of_pos a (b := n) (by omega)
  obtain ⟨r, hr⟩ : ∃ r, r = a.tmod n := ⟨_, rfl⟩
  rw [← hr] at e
  repeat (any_goals (first
  | (with_reducible ((refine idCond ?_); refine yP (fun hg=>?_) fun hg=>?_))
  | ((with_reducible refine idO ?_); (with_reducible refine oM_gen fun Kv hK=>?_); simp [go_sem, ← hr]; (try simp (disch := omega) only [wrapI64, wrapU8, wrapU32, wrapU64]); (first|refine hK _ _ ?_|refine And.intro (by omega) (hK _ _ ?_)); clear hK; clear Kv)))
  · rw [if_pos (by assumption)] at e; rw [e]; exact h
  · rw [if_neg (by assumption)] at e; rw [e]; exact h
theorem natN (x : Int) (h : 0 ≤ x) : ∃ a : Nat, x = a := ⟨x.toNat, by omega⟩
theorem maskU (a : Nat) (ha : a < 18446744073709551616) : bits .and .u64 (a : Int) 4294967295 = ((a % 4294967296 : Nat) : Int) := by
  rw [mask64 32 a 4294967295 (by omega) (by decide) (by omega)]; omega
theorem divU (a : Nat) : (a : Int) / 4294967296 = ((a / 4294967296 : Nat) : Int) := by omega
theorem modU (a : Nat) : (a : Int) % 4294967296 = ((a % 4294967296 : Nat) : Int) := by omega
theorem mulU (a b : Nat) : (a : Int) * (b : Int) = ((a * b : Nat) : Int) := (Int.natCast_mul a b).symm
theorem addU (a b : Nat) : (a : Int) + (b : Int) = ((a + b : Nat) : Int) := (Int.natCast_add a b).symm
theorem wrapU (a : Nat) (ha : a < 18446744073709551616) : IntKind.u64.wrap (a : Int) = (a : Int) := wrapU64 _ (by omega) (by omega)
theorem wrapUM (a : Nat) : IntKind.u64.wrap (a : Int) = ((a % 18446744073709551616 : Nat) : Int) := by rw [IntKind.wrap_u64]; omega
theorem mul64_ok (x y : Int) (hx : 0 ≤ x ∧ x < 18446744073709551616) (hy : 0 ≤ y ∧ y < 18446744073709551616) (h : K (.tuple #[.int .u64 (x * y / 18446744073709551616), .int .u64 (x * y % 18446744073709551616)]) w) : callM Tryd.prog 55 #[.int .u64 x, .int .u64 y] K w := by
  apply sh_55_ok
  unfold sh_55
  have mx := mask64 32 x 4294967295 (by omega) (by decide) hx
  have my := mask64 32 y 4294967295 (by omega) (by decide) hy
  obtain ⟨a, rfl⟩ := natN x hx.1
  obtain ⟨b, rfl⟩ := natN y hy.1
  repeat (any_goals ((with_reducible refine idO ?_); (with_reducible refine oM_gen fun Kv hK=>?_); simp [go_sem, mx, my]; refine hK _ _ ?_; clear hK; clear Kv))
  clear mx my
  have hx : a < 18446744073709551616 := by omega
  have hy : b < 18446744073709551616 := by omega
  obtain ⟨bd, bt, bw, hhi⟩ := Lib.mul64_hi a b hx hy
  have ba := Lib.half_mul_le (a := a / 4294967296) (b := b / 4294967296) (by omega) (by omega)
  have bb := Lib.half_mul_le (a := a / 4294967296) (b := b % 4294967296) (by omega) (by omega)
  have bc := Lib.half_mul_le (a := a % 4294967296) (b := b / 4294967296) (by omega) (by omega)
  have ba' : a / 4294967296 * (b / 4294967296) < 18446744073709551616 := by omega
  have bb' : a / 4294967296 * (b % 4294967296) < 18446744073709551616 := by omega
  have bc' : a % 4294967296 * (b / 4294967296) < 18446744073709551616 := by omega
  have bh1 : a / 4294967296 * (b / 4294967296) + (a / 4294967296 * (b % 4294967296) + a % 4294967296 * (b % 4294967296) / 4294967296) / 4294967296 < 18446744073709551616 := by omega
  have bh : a / 4294967296 * (b / 4294967296) + (a / 4294967296 * (b % 4294967296) + a % 4294967296 * (b % 4294967296) / 4294967296) / 4294967296 + ((a / 4294967296 * (b % 4294967296) + a % 4294967296 * (b % 4294967296) / 4294967296) % 4294967296 + a % 4294967296 * (b / 4294967296)) / 4294967296 < 18446744073709551616 := by omega
  simp only [modU, divU, mulU, addU, wrapU _ bd, wrapU _ bb', wrapU _ bt, maskU _ bt, wrapU _ bc', wrapU _ bw, wrapU _ ba', wrapU _ bh1, wrapU _ bh, wrapUM (a * b)]
  rw [hhi]
  exact K_eq h (by simp)
def len8 : ByteArray := ⟨#[0, 1, 2, 2, 3, 3, 3, 3, 4, 4, 4, 4, 4, 4, 4, 4, 5, 5, 5, 5, 5, 5, 5, 5, 5, 5, 5, 5, 5, 5, 5, 5, 6, 6, 6, 6, 6, 6, 6, 6, 6, 6, 6, 6, 6, 6, 6, 6, 6, 6, 6, 6, 6, 6, 6, 6, 6, 6, 6, 6, 6, 6, 6, 6, 7, 7, 7, 7, 7, 7, 7, 7, 7, 7, 7, 7, 7, 7, 7, 7, 7, 7, 7, 7, 7, 7, 7, 7, 7, 7, 7, 7, 7, 7, 7, 7, 7, 7, 7, 7, 7, 7, 7, 7, 7, 7, 7, 7, 7, 7, 7, 7, 7, 7, 7, 7, 7, 7, 7, 7, 7, 7, 7, 7, 7, 7, 7, 7, 8, 8, 8, 8, 8, 8, 8, 8, 8, 8, 8, 8, 8, 8, 8, 8, 8, 8, 8, 8, 8, 8, 8, 8, 8, 8, 8, 8, 8, 8, 8, 8, 8, 8, 8, 8, 8, 8, 8, 8, 8, 8, 8, 8, 8, 8, 8, 8, 8, 8, 8, 8, 8, 8, 8, 8, 8, 8, 8, 8, 8, 8, 8, 8, 8, 8, 8, 8, 8, 8, 8, 8, 8, 8, 8, 8, 8, 8, 8, 8, 8, 8, 8, 8, 8, 8, 8, 8, 8, 8, 8, 8, 8, 8, 8, 8, 8, 8, 8, 8, 8, 8, 8, 8, 8, 8, 8, 8, 8, 8, 8, 8, 8, 8, 8, 8, 8, 8, 8, 8, 8, 8, 8, 8, 8, 8, 8, 8]⟩
theorem len8_size : len8.size = 256 := by decide +kernel
theorem len_bits (x : Nat) (hx : x < 256) : x < 2 ^ (byteAt len8 x).toNat ∧ (x ≠ 0 → 1 ≤ (byteAt len8 x).toNat ∧ 2 ^ ((byteAt len8 x).toNat - 1) ≤ x) ∧ (byteAt len8 x).toNat ≤ 8 ∧ (x = 0 → (byteAt len8 x).toNat = 0) := by
  have : ∀ x, x < 256 → x < 2 ^ (byteAt len8 x).toNat ∧ (x ≠ 0 → 1 ≤ (byteAt len8 x).toNat ∧ 2 ^ ((byteAt len8 x).toNat - 1) ≤ x) ∧ (byteAt len8 x).toNat ≤ 8 ∧ (x = 0 → (byteAt len8 x).toNat = 0) := by decide +kernel
  exact this x hx
theorem oM_index_len8 (i : Int) (T : TypeId) : oM Tryd.prog (.index 9 (.tmp 0) (.tmp 1)) T [.string len8, .int .u8 i] = onM (0 ≤ i ∧ i < 256) (.int .u8 (byteAt len8 i.toNat).toNat) := by
  funext K w
  rw [oM_value (S := Instr.index 9 (.string len8) (.int .u8 i)) rfl, run_index_string (P := Tryd.prog) (w := w) 9 len8 .u8 i (by kernel_rfl)]
  have e := len8_size
  by_cases hi : 0 ≤ i ∧ i < len8.size
  · rw [dif_pos hi, ok_iff, ← byteAt_get]
    exact propext ⟨fun hk => ⟨⟨hi.1, by omega⟩, hk⟩, fun ⟨_, hk⟩ => hk⟩
  · rw [dif_neg hi]
    obtain ⟨e', w', he⟩ := halts Value Tryd.prog .u8 i len8.size .index w
    rw [he, halt_iff]
    exact propext ⟨fun h => h.elim, fun ⟨h, _⟩ => hi ⟨h.1, by omega⟩⟩
theorem stage (x k s : Nat) (h : 2 ^ s ≤ x / 2 ^ k) : x / 2 ^ (k + s) = x / 2 ^ k / 2 ^ s ∧ 2 ^ (k + s) ≤ x := by
  refine ⟨by rw [Nat.pow_add, Nat.div_div_eq_div_mul], ?_⟩
  rw [Nat.pow_add, Nat.mul_comm]
  exact (Nat.le_div_iff_mul_le (Nat.pow_pos (by omega))).1 h
structure BitLen (x L : Nat) : Prop where
  lt : x < 2 ^ L
  ge : x ≠ 0 → 1 ≤ L ∧ 2 ^ (L - 1) ≤ x
  le : L ≤ 64
def BlM (x B m : Nat) (w : World) (l : List Value) (w' : World) : Prop := w' = w ∧ ∃ k : Nat, l = [.int .u64 ((x / 2 ^ k : Nat) : Int), .int .i64 (k : Int)] ∧ x / 2 ^ k < B ∧ (k = 0 ∨ 2 ^ k ≤ x) ∧ k ≤ m
theorem len64_ok (x : Nat) (hx : x < 18446744073709551616) (h : ∀ L, BitLen x L → K (.int .i64 (L : Nat)) w) : callM Tryd.prog 80 #[.int .u64 (x : Int)] K w := by
  apply sh_80_ok
  unfold sh_80
  rw [show (⟨#[0, 1, 2, 2, 3, 3, 3, 3, 4, 4, 4, 4, 4, 4, 4, 4, 5, 5, 5, 5, 5, 5, 5, 5, 5, 5, 5, 5, 5, 5, 5, 5, 6, 6, 6, 6, 6, 6, 6, 6, 6, 6, 6, 6, 6, 6, 6, 6, 6, 6, 6, 6, 6, 6, 6, 6, 6, 6, 6, 6, 6, 6, 6, 6, 7, 7, 7, 7, 7, 7, 7, 7, 7, 7, 7, 7, 7, 7, 7, 7, 7, 7, 7, 7, 7, 7, 7, 7, 7, 7, 7, 7, 7, 7, 7, 7, 7, 7, 7, 7, 7, 7, 7, 7, 7, 7, 7, 7, 7, 7, 7, 7, 7, 7, 7, 7, 7, 7, 7, 7, 7, 7, 7, 7, 7, 7, 7, 7, 8, 8, 8, 8, 8, 8, 8, 8, 8, 8, 8, 8, 8, 8, 8, 8, 8, 8, 8, 8, 8, 8, 8, 8, 8, 8, 8, 8, 8, 8, 8, 8, 8, 8, 8, 8, 8, 8, 8, 8, 8, 8, 8, 8, 8, 8, 8, 8, 8, 8, 8, 8, 8, 8, 8, 8, 8, 8, 8, 8, 8, 8, 8, 8, 8, 8, 8, 8, 8, 8, 8, 8, 8, 8, 8, 8, 8, 8, 8, 8, 8, 8, 8, 8, 8, 8, 8, 8, 8, 8, 8, 8, 8, 8, 8, 8, 8, 8, 8, 8, 8, 8, 8, 8, 8, 8, 8, 8, 8, 8, 8, 8, 8, 8, 8, 8, 8, 8, 8, 8, 8, 8, 8, 8, 8, 8, 8, 8]⟩ : ByteArray) = len8 from rfl]
  refine ⟨BlM x 4294967296 32 w, ?_, ?_⟩
  · repeat (any_goals (first
    | (with_reducible ((refine idCond ?_); refine yP (fun hg=>?_) fun hg=>?_))
    | ((with_reducible refine idO ?_); (with_reducible refine oM_gen fun Kv hK=>?_); simp [go_sem]; refine hK _ _ ?_; clear hK; clear Kv)))
    · exact ⟨rfl, 32, by simp, by omega, by omega, by omega⟩
    · exact ⟨rfl, 0, by simp, by simp; omega, by omega, by omega⟩
  rintro _ _ w1 ⟨e1, k, rfl, h1, h2, h3⟩
  rw [e1]
  clear e1 w1
  refine ⟨BlM x 65536 48 w, ?_, ?_⟩
  · have hs := stage x k 16
    obtain ⟨y, hy⟩ : ∃ y, y = x / 2 ^ k := ⟨_, rfl⟩
    rw [← hy] at hs h1 ⊢
    repeat (any_goals (first
    | (with_reducible ((refine idCond ?_); refine yP (fun hg=>?_) fun hg=>?_))
    | ((with_reducible refine idO ?_); (with_reducible refine oM_gen fun Kv hK=>?_); simp [go_sem]; (try simp (disch := omega) only [wrapI64, wrapU8, wrapU32, wrapU64]); refine hK _ _ ?_; clear hK; clear Kv)))
    · have hs := hs (by omega)
      exact ⟨rfl, k + 16, by rw [hs.1]; simp, by rw [hs.1]; omega, .inr hs.2, by omega⟩
    · exact ⟨rfl, k, by rw [hy]; rfl, by omega, h2, by omega⟩
  clear h1 h2 h3 k
  rintro _ _ w1 ⟨e1, k, rfl, h1, h2, h3⟩
  rw [e1]
  clear e1 w1
  refine ⟨BlM x 256 56 w, ?_, ?_⟩
  · have hs := stage x k 8
    obtain ⟨y, hy⟩ : ∃ y, y = x / 2 ^ k := ⟨_, rfl⟩
    rw [← hy] at hs h1 ⊢
    repeat (any_goals (first
    | (with_reducible ((refine idCond ?_); refine yP (fun hg=>?_) fun hg=>?_))
    | ((with_reducible refine idO ?_); (with_reducible refine oM_gen fun Kv hK=>?_); simp [go_sem]; (try simp (disch := omega) only [wrapI64, wrapU8, wrapU32, wrapU64]); refine hK _ _ ?_; clear hK; clear Kv)))
    · have hs := hs (by omega)
      exact ⟨rfl, k + 8, by rw [hs.1]; simp, by rw [hs.1]; omega, .inr hs.2, by omega⟩
    · exact ⟨rfl, k, by rw [hy]; rfl, by omega, h2, by omega⟩
  clear h1 h2 h3 k
  rintro _ _ w1 ⟨e1, k, rfl, h1, h2, h3⟩
  rw [e1]
  clear e1 w1
  obtain ⟨l1, l2, l3, l4⟩ := len_bits (x / 2 ^ k) h1
  have hL : BitLen x (k + (byteAt len8 (x / 2 ^ k)).toNat) := by
    generalize (byteAt len8 (x / 2 ^ k)).toNat = L at *
    have hp : 0 < 2 ^ k := Nat.pow_pos (by omega)
    refine ⟨?_, ?_, by omega⟩
    · rw [Nat.pow_add, Nat.mul_comm]
      exact (Nat.div_lt_iff_lt_mul hp).1 l1
    · intro h0
      by_cases hy : x / 2 ^ k = 0
      · rw [Nat.div_eq_zero_iff] at hy
        rcases h2 with rfl | h2 <;> simp at hy <;> omega
      · obtain ⟨a, b⟩ := l2 hy
        refine ⟨by omega, ?_⟩
        rw [show k + L - 1 = k + (L - 1) by omega, Nat.pow_add, Nat.mul_comm]
        exact (Nat.le_div_iff_mul_le hp).1 b
  obtain ⟨y, hy⟩ : ∃ y, y = x / 2 ^ k := ⟨_, rfl⟩
  have hk := h _ hL
  simp only [← hy] at hk h1 l3 ⊢
  repeat (any_goals ((with_reducible refine idO ?_); (with_reducible refine oM_gen fun Kv hK=>?_); simp [go_sem, oM_index_len8]; (try simp (disch := omega) only [wrapI64, wrapU8, wrapU32, wrapU64]); (first|refine hK _ _ ?_|refine And.intro (by omega) (hK _ _ ?_)); clear hK; clear Kv))
  exact K_eq hk (by simp)
end
end Go.Proofs
namespace Go.Proofs
open Go Go.Sh Go.RowKit FdSpec
set_option linter.unusedSimpArgs false
set_option linter.unusedVariables false
set_option maxRecDepth 10000
section
variable {K : Value → World → Prop} {w : World}
def dgLoop (vh vl vd : Value) (M : List Value → World → Prop) (x : List Value) (w : World) : Prop :=
  (loopM x w (fun J_30 m_31 l u_l w0_l => (fun w => (
 oM Tryd.prog (Go.Op.binOp Go.BinOp.geq 77 (.tmp 0) (.tmp 1) 77) 4 [(l.getD 0 undef), (.int .u64 4294967296)] (fun v68_33 w =>
 gdM (gd v68_33 false) (pureM (l.getD 0 undef)) (fun v70_34 w =>
 gdM (gd v68_33 false) (pureM vl) (fun v71_35 w =>
 gdM (gd v68_33 false) (oM Tryd.prog (Go.Op.binOp Go.BinOp.mul 77 (.tmp 0) (.tmp 1) 77) 77 [v70_34, v71_35]) (fun v72_36 w =>
 gdM (gd v68_33 false) (pureM (l.getD 1 undef)) (fun v73_37 w =>
 gdM (gd v68_33 false) (oM Tryd.prog (Go.Op.binOp Go.BinOp.mul 77 (.tmp 0) (.tmp 1) 77) 77 [(.int .u64 4294967296), v73_37]) (fun v74_38 w =>
 gdM (gd v68_33 false) (pureM vd) (fun v75_39 w =>
 gdM (gd v68_33 false) (oM Tryd.prog (Go.Op.binOp Go.BinOp.add 77 (.tmp 0) (.tmp 1) 77) 77 [v74_38, v75_39]) (fun v76_40 w =>
 gdM (gd v68_33 false) (oM Tryd.prog (Go.Op.binOp Go.BinOp.gtr 77 (.tmp 0) (.tmp 1) 77) 4 [v72_36, v76_40]) (fun v77_41 w =>
 oM Tryd.prog (Go.Op.pick (.tmp 0) (.tmp 1) (.tmp 2)) 4 [v68_33, (.bool true), v77_41] (fun v78_42 w =>
 condM v78_42
 (oM Tryd.prog (Go.Op.binOp Go.BinOp.sub 77 (.tmp 0) (.tmp 1) 77) 77 [(l.getD 0 undef), (.int .u64 1)] (fun v80_43 w =>
 oM Tryd.prog (Go.Op.binOp Go.BinOp.add 77 (.tmp 0) (.tmp 1) 77) 77 [(l.getD 1 undef), vh] (fun v83_44 w =>
 oM Tryd.prog (Go.Op.binOp Go.BinOp.geq 77 (.tmp 0) (.tmp 1) 77) 4 [v83_44, (.int .u64 4294967296)] (fun v85_45 w =>
 condM v85_45
 (M [v80_43, v83_44] w)
 (J_30 [v80_43, v83_44] w ∧ m_31 [v80_43, v83_44] w < m_31 l w0_l)) w) w) w)
 (M [(l.getD 0 undef), (l.getD 1 undef)] w)) w) w) w) w) w) w) w) w) w) w)) w0_l))
def DgJ (h l u d : Nat) (w : World) (x : List Value) (w' : World) : Prop := w' = w ∧ ∃ q r : Nat, x = [.int .u64 (q : Int), .int .u64 (r : Int)] ∧ Digit h l u d q r ∧ r < 4294967296
theorem dg_ok (h l u d : Nat) (M : List Value → World → Prop) (hh : 2147483648 ≤ h) (hh2 : h < 4294967296) (hl : l < 4294967296) (hd : d < 4294967296) (hu : u < h * 4294967296 + l)
    (hM : ∀ r : Nat, M [.int .u64 (((u * 4294967296 + d) / (h * 4294967296 + l) : Nat) : Int), .int .u64 (r : Int)] w) : dgLoop (.int .u64 (h : Int)) (.int .u64 (l : Int)) (.int .u64 (d : Int)) M [.int .u64 ((u / h : Nat) : Int), .int .u64 ((u - u / h * h : Nat) : Int)] w := by
  unfold dgLoop
  refine ⟨DgJ h l u d w, fun x _ => match x with | [.int _ q, _] => q.toNat | _ => 0, ⟨rfl, _, _, rfl, digit_start hh hh2 hl hd hu, ?_⟩, ?_⟩
  · have h1 := Nat.mod_lt u (show h > 0 by omega)
    have h2 := Nat.div_add_mod u h
    rw [Nat.mul_comm] at h2
    omega
  rintro _ _ w1 ⟨e1, q, r, rfl, D, hr⟩
  rw [e1]
  clear e1 w1
  have hq := D.le
  have ht := digit_test D
  have hbig := fun hb : 4294967296 ≤ q => digit_big hu hd hb
  have hstep := fun hb => digit_step D hb
  have hpos := fun hb => digit_pos D hb
  have hend := fun hb => digit_end D hb
  have hbr : ∀ hb, 4294967296 ≤ r + h → q - 1 = (u * 4294967296 + d) / (h * 4294967296 + l) := fun hb hg => digit_end (hstep hb) (digit_break (hstep hb) hl (by omega) hg)
  have hql : q < 4294967296 → q * l < 18446744073709551616 := fun hb => by
    have := Nat.mul_le_mul (show q ≤ 4294967295 by omega) (show l ≤ 4294967295 by omega)
    omega
  generalize (u * 4294967296 + d) / (h * 4294967296 + l) = Q at *
  generalize (u * 4294967296 + d < q * (h * 4294967296 + l)) = T at *
  have hmul : (q : Int) * (l : Int) = ((q * l : Nat) : Int) := (Int.natCast_mul q l).symm
  generalize q * l = ql at *
  have fin1 : (4294967296 ≤ r + h → q - 1 = Q) → 0 < q → 4294967296 ≤ r + h → M [.int .u64 ((q : Int) - 1), .int .u64 ((r : Int) + h)] w := fun a b c => by
    rw [show (q : Int) - 1 = ((q - 1 : Nat) : Int) by omega, show (r : Int) + h = ((r + h : Nat) : Int) by omega, a c]; exact hM _
  have fin2 : Digit h l u d (q - 1) (r + h) → 0 < q → ¬ 4294967296 ≤ r + h → DgJ h l u d w [.int .u64 ((q : Int) - 1), .int .u64 ((r : Int) + h)] w ∧ ((q : Int) - 1).toNat < (q : Int).toNat := fun a b c => by
    rw [show (q : Int) - 1 = ((q - 1 : Nat) : Int) by omega, show (r : Int) + h = ((r + h : Nat) : Int) by omega]
    exact ⟨⟨rfl, _, _, rfl, a, by omega⟩, by omega⟩
  by_cases hb : 4294967296 ≤ q
  · have hT := hbig hb
    have hst := hstep hT
    have hps := hpos hT
    have hbr := hbr hT
    repeat (any_goals (first
    | (with_reducible first|((refine idGd ?_); ((refine idGdD ?_); refine zJ ?_))|((refine idPick ?_); refine yD ?_)|((refine idCond ?_); first|refine yL ?_|refine yP (fun hg=>?_) fun hg=>?_))
    | ((with_reducible refine idO ?_); (with_reducible refine oM_gen fun Kv hK=>?_); simp [go_sem, hb]; (try simp (disch := omega) only [wrapI64, wrapU8, wrapU32, wrapU64]); refine hK _ _ ?_; clear hK; clear Kv)))
    · exact fin1 hbr hps (by omega)
    · exact fin2 hst hps (by omega)
  · have hql := hql (by omega)
    by_cases hT : T
    · have hst := hstep hT
      have hps := hpos hT
      have hbr := hbr hT
      have htt := ht.2 hT
      repeat (any_goals (first
      | (with_reducible first|refine pureM_in ?_|((refine idGd ?_); ((refine idGdD ?_); refine zI ?_))|((refine idPick ?_); refine yE ?_)|((refine idCond ?_); first|refine yN ?_|refine yP (fun hg=>?_) fun hg=>?_))
      | ((with_reducible refine idO ?_); (with_reducible refine oM_gen fun Kv hK=>?_); simp [go_sem, hb, hmul]; (try simp (disch := omega) only [wrapI64, wrapU8, wrapU32, wrapU64]); refine hK _ _ ?_; clear hK; clear Kv)))
      · exact fin1 hbr hps (by omega)
      · exact fin2 hst hps (by omega)
    · have he := hend hT
      have htt : ¬ _ := fun h => hT (ht.1 h)
      repeat (any_goals (first
      | (with_reducible first|refine pureM_in ?_|((refine idGd ?_); ((refine idGdD ?_); refine zI ?_))|((refine idPick ?_); refine yE ?_)|((refine idCond ?_); refine yO ?_))
      | ((with_reducible refine idO ?_); (with_reducible refine oM_gen fun Kv hK=>?_); simp [go_sem, hb, hmul]; (try simp (disch := omega) only [wrapI64, wrapU8, wrapU32, wrapU64]); refine hK _ _ ?_; clear hK; clear Kv)))
      simp only [List.getD_cons_zero, List.getD_cons_succ]
      rw [he]
      exact hM _
theorem lead64_ok (x : Nat) (hx : x < 18446744073709551616) (h : ∀ L, BitLen x L → K (.int .i64 (64 - (L : Int))) w) : callM Tryd.prog 75 #[.int .u64 (x : Int)] K w := by
  apply sh_75_ok
  unfold sh_75
  refine len64_ok x hx ?_
  intro L hL
  have := hL.le
  repeat (any_goals ((with_reducible refine idO ?_); (with_reducible refine oM_gen fun Kv hK=>?_); simp [go_sem]; (try simp (disch := omega) only [wrapI64, wrapU8, wrapU32, wrapU64]); refine hK _ _ ?_; clear hK; clear Kv))
  exact h L hL
theorem norm_len (y L : Nat) (hy : 0 < y) (hL : BitLen y L) : 9223372036854775808 ≤ y * 2 ^ (64 - L) ∧ y * 2 ^ (64 - L) < 18446744073709551616 := by
  obtain ⟨a, b⟩ := hL.ge (by omega)
  have h64 := hL.le
  have h1 : 2 ^ (L - 1) * 2 ^ (64 - L) = 9223372036854775808 := by
    rw [← Nat.pow_add, show L - 1 + (64 - L) = 63 by omega]
  have h2 : 2 ^ L * 2 ^ (64 - L) = 18446744073709551616 := by
    rw [← Nat.pow_add, show L + (64 - L) = 64 by omega]
  have hp : 0 < 2 ^ (64 - L) := Nat.pow_pos (by omega)
  exact ⟨by rw [← h1]; exact Nat.mul_le_mul_right _ b, by rw [← h2]; exact (Nat.mul_lt_mul_right hp).2 hL.lt⟩
theorem norm_top (hi lo s : Nat) (hs : s ≤ 64) (hlo : lo < 18446744073709551616) : (hi * 2 ^ s + lo / 2 ^ (64 - s)) * 18446744073709551616 + lo * 2 ^ s % 18446744073709551616 = (hi * 18446744073709551616 + lo) * 2 ^ s ∧ lo / 2 ^ (64 - s) < 2 ^ s := by
  have h2 : 2 ^ (64 - s) * 2 ^ s = 18446744073709551616 := by rw [← Nat.pow_add, show 64 - s + s = 64 by omega]
  have hp : 0 < 2 ^ s := Nat.pow_pos (by omega)
  have hq : 0 < 2 ^ (64 - s) := Nat.pow_pos (by omega)
  have h3 : lo * 2 ^ s / 18446744073709551616 = lo / 2 ^ (64 - s) := by
    rw [← h2, Nat.mul_div_mul_right _ _ hp]
  have h4 := Nat.div_add_mod (lo * 2 ^ s) 18446744073709551616
  refine ⟨?_, ?_⟩
  · rw [h3] at h4
    rw [Nat.add_mul, Nat.add_mul, Nat.mul_right_comm hi, Nat.add_assoc, Nat.mul_comm (lo / _) 18446744073709551616, h4]
  · rw [Nat.div_lt_iff_lt_mul hq, Nat.mul_comm, h2]; exact hlo
def EqW (w : World) (l : List Value) (w' : World) : Prop := w' = w
def DgE (Q : Nat) (w : World) (l : List Value) (w' : World) : Prop := w' = w ∧ ∃ r : Nat, l = [.int .u64 (Q : Int), .int .u64 (r : Int)]
theorem left_wrap (X d Y Q U : Nat) (hs : Q * Y + U = X * 4294967296 + d) (hU : U < 18446744073709551616) : IntKind.u64.wrap (IntKind.u64.wrap (IntKind.u64.wrap ((X : Int) * 4294967296) + (d : Int)) - IntKind.u64.wrap ((Q : Int) * (Y : Int))) = (U : Int) := by
  have hm : (Q : Int) * (Y : Int) = ((Q * Y : Nat) : Int) := (Int.natCast_mul Q Y).symm
  rw [hm]
  generalize Q * Y = P at *
  simp only [IntKind.wrap_u64]
  omega
theorem half_div (X h : Nat) (hX : X < 18446744073709551616) (hh : 2147483648 ≤ h) : ∃ q p r : Nat, X / h = q ∧ q * h = p ∧ X - p = r ∧ p ≤ X ∧ q < 18446744073709551616 ∧ (X : Int).tdiv (h : Int) = (q : Int) ∧ (q : Int) * (h : Int) = (p : Int) ∧ (X : Int) - (p : Int) = (r : Int) := by
  have h1 := Nat.div_mul_le_self X h
  have h2 := Nat.div_le_self X h
  refine ⟨_, _, _, rfl, rfl, rfl, h1, by omega, ?_, (Int.natCast_mul _ _).symm, by omega⟩
  rw [Int.tdiv_eq_ediv_of_nonneg (by omega)]; rfl
set_option maxHeartbeats 1000000 in
theorem div64_ok (hi lo y : Nat) (hlt : hi < y) (hy : y < 18446744073709551616) (hlo : lo < 18446744073709551616) (k : ∀ (q : Int) w', Below w.heap.size w w' → K (.tuple #[.int .u64 q, .int .u64 (((hi * 18446744073709551616 + lo) % y : Nat) : Int)]) w') : callM Tryd.prog 67 #[.int .u64 (hi : Int), .int .u64 (lo : Int), .int .u64 (y : Int)] K w := by
  apply sh_67_ok
  unfold sh_67
  refine ⟨EqW w, ?_, ?_⟩
  · repeat (any_goals (first
    | (with_reducible ((refine idCond ?_); refine yO ?_))
    | ((with_reducible refine idO ?_); (with_reducible refine oM_gen fun Kv hK=>?_); simp [go_sem]; refine hK _ _ ?_; clear hK; clear Kv)))
    exact rfl
  rintro _ _ w1 e1
  rw [show w1 = w from e1]
  clear e1 w1
  refine ⟨EqW w, ?_, ?_⟩
  · repeat (any_goals (first
    | (with_reducible ((refine idCond ?_); refine yO ?_))
    | ((with_reducible refine idO ?_); (with_reducible refine oM_gen fun Kv hK=>?_); simp [go_sem]; refine hK _ _ ?_; clear hK; clear Kv)))
    exact rfl
  rintro _ _ w1 e1
  rw [show w1 = w from e1]
  clear e1 w1
  by_cases h0 : hi = 0
  · subst h0
    have k0 := k ((lo / y : Nat) : Int) _ (Below.drew (Below.refl _ w))
    have t1 : ((lo : Int).tdiv (y : Int)) = ((lo / y : Nat) : Int) := by rw [Int.tdiv_eq_ediv_of_nonneg (by omega)]; rfl
    have t2 : ((lo : Int).tmod (y : Int)) = ((lo % y : Nat) : Int) := by rw [Int.tmod_eq_emod_of_nonneg (by omega)]; rfl
    have t3 := Nat.div_le_self lo y
    simp only [Nat.zero_mul, Nat.zero_add] at k0
    generalize lo / y = a at *
    generalize lo % y = b at *
    repeat (any_goals (first
    | (with_reducible ((refine idCond ?_); refine yL ?_))
    | ((with_reducible refine idO ?_); (with_reducible refine oM_gen fun Kv hK=>?_); simp [go_sem, t1, t2]; refine hK _ _ ?_; clear hK; clear Kv)))
    refine quietM_one ?_
    repeat (any_goals (first
    | (with_reducible first|refine And.intro (Eq.refl (α := World) _) ?_|refine forall_one ?_)
    | ((with_reducible refine idOQ ?_); ((with_reducible refine oQ_one ?_ ?_); exact ⟨_, rfl⟩))
    | ((with_reducible refine idO ?_); (with_reducible refine oM_gen fun Kv hK=>?_); simp [go_sem, t1, t2]; (try simp (disch := omega) only [wrapI64, wrapU8, wrapU32, wrapU64]); refine And.intro (by omega) (hK _ _ ?_); clear hK; clear Kv)))
    exact k0
  obtain ⟨s, hs⟩ : ∃ s, s = 64 := ⟨_, rfl⟩
  repeat (any_goals (first
  | (with_reducible ((refine idCond ?_); refine yO ?_))
  | ((with_reducible refine idO ?_); (with_reducible refine oM_gen fun Kv hK=>?_); simp [go_sem]; refine hK _ _ ?_; clear hK; clear Kv)))
  refine lead64_ok y hy ?_
  intro L hL
  clear s hs
  have hn := norm_len y L (by omega) hL
  have hL64 := hL.le
  obtain ⟨s, hs⟩ : ∃ s, s = 64 - L := ⟨_, rfl⟩
  rw [← hs] at hn
  have hs64 : s ≤ 64 := by omega
  obtain ⟨hN, hB⟩ := norm_top hi lo s hs64 hlo
  have hres := norm_rest hi lo y s _ _ hN
  have hAB : hi * 2 ^ s + lo / 2 ^ (64 - s) < y * 2 ^ s := by
    have := Nat.mul_le_mul_right (2 ^ s) (show hi + 1 ≤ y by omega)
    rw [Nat.add_mul, Nat.one_mul] at this
    omega
  have hsub : (64 : Int) - (L : Int) = (s : Int) := by omega
  have hpow : ∀ a : Nat, (a : Int) * 2 ^ s = ((a * 2 ^ s : Nat) : Int) := fun a => by rw [Int.natCast_mul, Int.natCast_pow]; rfl
  have hdiv : ∀ a : Nat, (a : Int) / 2 ^ (64 - s) = ((a / 2 ^ (64 - s) : Nat) : Int) := fun a => by rw [Int.natCast_ediv, Int.natCast_pow]; rfl
  have hBi : ((lo / 2 ^ (64 - s) : Nat) : Int) < 2 ^ s := by
    have := Int.ofNat_lt.2 hB
    rw [Int.natCast_pow] at this
    exact this
  have hor := or_add64 s (hi : Int) ((lo / 2 ^ (64 - s) : Nat) : Int) hs64 (Int.natCast_nonneg _) ⟨Int.natCast_nonneg _, hBi⟩
  have hD : lo * 2 ^ s % 18446744073709551616 < 18446744073709551616 := Nat.mod_lt _ (by omega)
  have hDi : ((lo * 2 ^ s : Nat) : Int) % 18446744073709551616 = ((lo * 2 ^ s % 18446744073709551616 : Nat) : Int) := by rw [Int.natCast_emod]; rfl
  have hsub2 : ((64 : Int) - (s : Int)).toNat = 64 - s := by omega
  rw [hpow] at hor
  clear hN hB hBi hL
  generalize lo * 2 ^ s % 18446744073709551616 = D at *
  generalize hlo2 : lo * 2 ^ s = lo2 at *
  generalize hA : hi * 2 ^ s = A at *
  generalize hB : lo / 2 ^ (64 - s) = B at *
  generalize hY : y * 2 ^ s = Y at *
  have hor := hor (by omega)
  have hAm : (A : Int) % 18446744073709551616 = (A : Int) := by omega
  have hYm : (Y : Int) % 18446744073709551616 = (Y : Int) := by omega
  have hpa := hpow hi
  have hpl := hpow lo
  have hpy := hpow y
  have hdl := hdiv lo
  rw [hA] at hpa
  rw [hlo2] at hpl
  rw [hY] at hpy
  rw [hB] at hdl
  rw [hsub]
  obtain ⟨t, ht⟩ : ∃ t, t = 64 - s := ⟨_, rfl⟩
  have ht2 : (64 : Int) - (s : Int) = (t : Int) := by omega
  rw [← ht] at hdl
  have rl := fun x => oM_shl64 (P := Tryd.prog) 77 92 77 .u64 x (s : Int) (by omega) (by omega)
  have rr := fun x => oM_shr64 (P := Tryd.prog) 77 92 77 .u64 x (s : Int) (by omega) (by omega)
  have rt := fun x => oM_shr64 (P := Tryd.prog) 77 92 77 .u64 x (t : Int) (by omega) (by omega)
  simp only [Int.toNat_natCast] at rl rr rt
  obtain ⟨h, hh⟩ : ∃ h, h = Y / 4294967296 := ⟨_, rfl⟩
  obtain ⟨l, hl⟩ : ∃ l, l = Y % 4294967296 := ⟨_, rfl⟩
  obtain ⟨d1, hd1⟩ : ∃ d1, d1 = D / 4294967296 := ⟨_, rfl⟩
  obtain ⟨d0, hd0⟩ : ∃ d0, d0 = D % 4294967296 := ⟨_, rfl⟩
  obtain ⟨X, hX⟩ : ∃ X, X = A + B := ⟨_, rfl⟩
  have hhi : (Y : Int) / 4294967296 = (h : Int) := by omega
  have hli : bits .and .u64 (Y : Int) 4294967295 = (l : Int) := by rw [maskU Y (by omega), ← hl]
  have hd1i : (D : Int) / 4294967296 = (d1 : Int) := by omega
  have hd0i : bits .and .u64 (D : Int) 4294967295 = (d0 : Int) := by rw [maskU D (by omega), ← hd0]
  have hXi : (A : Int) + (B : Int) = (X : Int) := by omega
  have hhl : h * 4294967296 + l = Y := by omega
  rw [← hX, ← hd1, ← hd0] at hres
  obtain ⟨q1, p1, r1, e1, e2, e3, e4, e5, e6, e7, e8⟩ := half_div X h (by omega) (by omega)
  obtain ⟨Q, hQ⟩ : ∃ Q, Q = (X * 4294967296 + d1) / Y := ⟨_, rfl⟩
  obtain ⟨U, hU⟩ : ∃ U, U = (X * 4294967296 + d1) % Y := ⟨_, rfl⟩
  have hUY : U < Y := by rw [hU]; exact Nat.mod_lt _ (by omega)
  have dg := dg_ok (w := w) h l X d1 (DgE Q w) (by omega) (by omega) (by omega) (by omega) (by omega) (fun r => ⟨rfl, r, by rw [hhl, ← hQ]⟩)
  have lw := left_wrap X d1 Y Q U (by rw [hQ, hU]; exact Nat.div_add_mod' _ _) (by omega)
  obtain ⟨q2, p2, r2, f1, f2, f3, f4, f5, f6, f7, f8⟩ := half_div U h (by omega) (by omega)
  obtain ⟨Q2, hQ2⟩ : ∃ Q2, Q2 = (U * 4294967296 + d0) / Y := ⟨_, rfl⟩
  obtain ⟨R, hR⟩ : ∃ R, R = (U * 4294967296 + d0) % Y := ⟨_, rfl⟩
  have hRY : R < Y := by rw [hR]; exact Nat.mod_lt _ (by omega)
  have dg2 := dg_ok (w := w) h l U d0 (DgE Q2 w) (by omega) (by omega) (by omega) (by omega) (by omega) (fun r => ⟨rfl, r, by rw [hhl, ← hQ2]⟩)
  have lw2 := left_wrap U d0 Y Q2 R (by rw [hQ2, hR]; exact Nat.div_add_mod' _ _) (by omega)
  rw [← hU, ← hR] at hres
  rw [e1, e2, e3] at dg
  rw [f1, f2, f3] at dg2
  have hRi : (R : Int) / 2 ^ s = ((R / 2 ^ s : Nat) : Int) := by rw [Int.natCast_ediv, Int.natCast_pow]; rfl
  rw [hres] at hRi
  clear hres hR hU hQ hQ2 e1 e2 e3 f1 f2 f3 hh hl hd1 hd0 hX
  repeat (any_goals ((with_reducible refine idO ?_); (with_reducible refine oM_gen fun Kv hK=>?_); simp [go_sem, rl, rr, rt, ht2, hpa, hpl, hpy, hdl, hor, hAm, hYm, hDi, hXi, hhi, hli, hd1i, hd0i, e6, e7, e8]; (try simp (disch := omega) only [wrapI64, wrapU8, wrapU32, wrapU64]); (first|refine hK _ _ ?_|refine And.intro (by omega) (hK _ _ ?_)); clear hK; clear Kv))
  refine ⟨DgE Q w, dg, ?_⟩
  rintro _ _ w1 ⟨e1, r, rfl⟩
  rw [e1]
  clear e1 w1
  repeat (any_goals ((with_reducible refine idO ?_); (with_reducible refine oM_gen fun Kv hK=>?_); simp [go_sem, rl, rr, rt, lw, f6, f7, f8]; (try simp (disch := omega) only [wrapI64, wrapU8, wrapU32, wrapU64]); (first|refine hK _ _ ?_|refine And.intro (by omega) (hK _ _ ?_)); clear hK; clear Kv))
  refine ⟨DgE Q2 w, dg2, ?_⟩
  rintro _ _ w1 ⟨e1, r', rfl⟩
  rw [e1]
  clear e1 w1
  repeat (any_goals ((with_reducible refine idO ?_); (with_reducible refine oM_gen fun Kv hK=>?_); simp [go_sem, rl, rr, rt, lw2, hRi]; refine hK _ _ ?_; clear hK; clear Kv))
  exact k _ _ (Below.refl _ _)
end
end Go.Proofs
namespace Go.Proofs
open Go Go.Sh Go.RowKit FdSpec
set_option linter.unusedSimpArgs false
set_option linter.unusedVariables false
set_option maxRecDepth 10000
section
variable {K : Value → World → Prop} {w : World}
theorem rem64_ok (hi lo y : Nat) (hhi : hi < 18446744073709551616) (hy0 : 0 < y) (hy : y < 18446744073709551616) (hlo : lo < 18446744073709551616) (k : ∀ w', Below w.heap.size w w' → K (.int .u64 (((hi * 18446744073709551616 + lo) % y : Nat) : Int)) w') : callM Tryd.prog 56 #[.int .u64 (hi : Int), .int .u64 (lo : Int), .int .u64 (y : Int)] K w := by
  apply sh_56_ok
  unfold sh_56
  have e1 : (hi : Int).tmod (y : Int) = ((hi % y : Nat) : Int) := by rw [Int.tmod_eq_emod_of_nonneg (by omega)]; rfl
  have e2 : (hi % y * 18446744073709551616 + lo) % y = (hi * 18446744073709551616 + lo) % y := by
    rw [Nat.add_mod, Nat.mul_mod, Nat.mod_mod, ← Nat.mul_mod, ← Nat.add_mod]
  have hlt := Nat.mod_lt hi hy0
  rw [← e2] at k
  generalize hi % y = r at *
  repeat (any_goals ((with_reducible refine idO ?_); (with_reducible refine oM_gen fun Kv hK=>?_); simp [go_sem, e1]; refine And.intro (by omega) (hK _ _ ?_); clear hK; clear Kv))
  refine div64_ok r lo y hlt hy hlo ?_
  intro q w1 hb
  repeat (any_goals ((with_reducible refine idO ?_); (with_reducible refine oM_gen fun Kv hK=>?_); simp [go_sem]; refine hK _ _ ?_; clear hK; clear Kv))
  exact k _ hb
theorem product_ok (n a b : Int) (hn : okN n) (ha : 0 ≤ a ∧ a < n) (hb : 0 ≤ b ∧ b < n) (k : ∀ w', Below w.heap.size w w' → K (.int .u64 (a * b % n)) w') : callM Tryd.prog 38 #[.int .i64 n, .int .u64 a, .int .u64 b] K w := by
  apply sh_38_ok
  unfold sh_38
  obtain ⟨h1, h2⟩ := hn
  skip
  refine mul64_ok a b ⟨ha.1, by omega⟩ ⟨hb.1, by omega⟩ ?_
  obtain ⟨a, rfl⟩ := natN a ha.1
  obtain ⟨b, rfl⟩ := natN b hb.1
  obtain ⟨n, rfl⟩ := natN n (by omega)
  rw [mulU]
  have hab : a * b < 18446744073709551616 * 18446744073709551616 := Nat.mul_lt_mul'' (by omega) (by omega)
  have e1 : ((a * b : Nat) : Int) / 18446744073709551616 = ((a * b / 18446744073709551616 : Nat) : Int) := by omega
  have e2 : ((a * b : Nat) : Int) % 18446744073709551616 = ((a * b % 18446744073709551616 : Nat) : Int) := by omega
  have e3 : ((a * b % n : Nat) : Int) = (a : Int) * (b : Int) % (n : Int) := by rw [Int.natCast_emod, Int.natCast_mul]
  rw [e1, e2]
  have h5 : a * b / 18446744073709551616 * 18446744073709551616 + a * b % 18446744073709551616 = a * b := Nat.div_add_mod' _ _
  have h3 : a * b / 18446744073709551616 < 18446744073709551616 := by omega
  have h4 : a * b % 18446744073709551616 < 18446744073709551616 := by omega
  rw [← e3, ← h5] at k
  generalize a * b / 18446744073709551616 = hi at *
  generalize a * b % 18446744073709551616 = lo at *
  repeat (any_goals ((with_reducible refine idO ?_); (with_reducible refine oM_gen fun Kv hK=>?_); simp [go_sem]; (try simp (disch := omega) only [wrapI64, wrapU8, wrapU32, wrapU64]); refine hK _ _ ?_; clear hK; clear Kv))
  exact rem64_ok hi lo n h3 (by omega) (by omega) h4 k
end
end Go.Proofs
namespace Go.Proofs
open Go Go.Sh Go.RowKit FdSpec
set_option linter.unusedSimpArgs false
set_option linter.unusedVariables false
set_option maxRecDepth 10000
section
variable {K : Value → World → Prop} {w : World}
def PwJ (n R : Int) (w : World) (l : List Value) (w' : World) : Prop := Below w.heap.size w w' ∧ ∃ (out a : Int) (b : Nat), l = [.int .u64 out, .int .u64 a, .int .u64 (b : Int)] ∧ (0 ≤ out ∧ out < n) ∧ (0 ≤ a ∧ a < n) ∧ b < 18446744073709551616 ∧ out * a ^ b % n = R
def PwM (n R a : Int) (b : Nat) (w : World) (l : List Value) (w' : World) : Prop := Below w.heap.size w w' ∧ ∃ out : Int, l = [.int .u64 out] ∧ (0 ≤ out ∧ out < n) ∧ out * (a * a % n) ^ (b / 2) % n = R
def pwMu (l : List Value) (_ : World) : Nat := match l with | [_, _, .int _ b] => b.toNat | _ => 0
theorem pwMu_eq (x y : Value) (k : IntKind) (b : Int) (w : World) : pwMu [x, y, .int k b] w = b.toNat := rfl
theorem power_ok (n a : Int) (b : Nat) (hn : okN n) (ha : 0 ≤ a ∧ a < n) (hb : b < 18446744073709551616) (k : ∀ w', Below w.heap.size w w' → K (.int .u64 (pw n a b)) w') : callM Tryd.prog 35 #[.int .i64 n, .int .u64 a, .int .u64 (b : Int)] K w := by
  apply sh_35_ok
  unfold sh_35
  have hn' := hn
  obtain ⟨h1, h2⟩ := hn
  have e1 : (1 : Int).tmod n = 1 % n := Int.tmod_eq_emod_of_nonneg (by omega)
  have e2 := Int.emod_nonneg 1 (b := n) (by omega)
  have e3 := Int.emod_lt_of_pos 1 (b := n) (by omega)
  have e4 : 1 % n * a ^ b % n = pw n a b := by
    rw [Int.mul_emod, Int.emod_emod_of_dvd _ (Int.dvd_refl n), ← Int.mul_emod, Int.one_mul]; rfl
  generalize 1 % n = o at *
  repeat (any_goals ((with_reducible refine idO ?_); (with_reducible refine oM_gen fun Kv hK=>?_); simp [go_sem, e1]; (try simp (disch := omega) only [wrapI64, wrapU8, wrapU32, wrapU64]); (first|refine hK _ _ ?_|refine And.intro (by omega) (hK _ _ ?_)); clear hK; clear Kv))
  refine ⟨PwJ n (pw n a b) w, pwMu, ⟨Below.refl _ _, o, a, b, rfl, ⟨e2, e3⟩, ha, hb, e4⟩, ?_⟩
  generalize hR : pw n a b = R at *
  clear e1 e2 e3 e4 o hb ha
  rintro _ _ w1 ⟨hb1, out, x, c, rfl, ho, hx, hc, hinv⟩
  have hz := hb1.size
  by_cases h0 : c = 0
  · subst h0
    rw [Int.pow_zero, Int.mul_one, Int.emod_eq_of_lt ho.1 ho.2] at hinv
    repeat (any_goals (first
    | (with_reducible ((refine idCond ?_); refine yM ?_))
    | ((with_reducible refine idO ?_); (with_reducible refine oM_gen fun Kv hK=>?_); simp [go_sem]; refine hK _ _ ?_; clear hK; clear Kv)))
    rw [hinv]
    exact k _ hb1
  · have hm : bits .and .u64 (c : Int) 1 = ((c % 2 : Nat) : Int) := by
      rw [mask64 1 c 1 (by omega) (by decide) (by omega)]; omega
    have hsh : (c : Int) / 2 = ((c / 2 : Nat) : Int) := by omega
    have h1 := pw_even n x out c
    have h3 := pw_odd n x out c
    obtain ⟨m, hm2⟩ : ∃ m, m = c % 2 := ⟨_, rfl⟩
    rw [← hm2] at hm h1 h3
    obtain ⟨d, hd⟩ : ∃ d, d = c / 2 := ⟨_, rfl⟩
    rw [← hd] at hsh h1 h3
    repeat (any_goals (first
    | (with_reducible ((refine idCond ?_); refine yN ?_))
    | ((with_reducible refine idO ?_); (with_reducible refine oM_gen fun Kv hK=>?_); simp [go_sem]; refine hK _ _ ?_; clear hK; clear Kv)))
    refine ⟨PwM n R x c w, ?_, ?_⟩
    · repeat (any_goals (first
      | (with_reducible ((refine idCond ?_); refine yP (fun hg=>?_) fun hg=>?_))
      | ((with_reducible refine idO ?_); (with_reducible refine oM_gen fun Kv hK=>?_); simp [go_sem, hm]; refine hK _ _ ?_; clear hK; clear Kv)))
      · refine product_ok n out x hn' ho hx ?_
        intro w2 hb2
        skip
        refine ⟨hb1.trans (hb2.mono hz), _, rfl, ⟨Int.emod_nonneg _ (by omega), Int.emod_lt_of_pos _ (by omega)⟩, ?_⟩
        rw [← hd, h3 (by omega)]; exact hinv
      · refine ⟨hb1, _, rfl, ho, ?_⟩
        rw [← hd, h1 (by omega)]; exact hinv
    · rintro _ _ w2 ⟨hb2, out', rfl, ho', hi'⟩
      have hz2 := hb2.size
      refine product_ok n x x hn' hx hx ?_
      intro w3 hb3
      repeat (any_goals ((with_reducible refine idO ?_); (with_reducible refine oM_gen fun Kv hK=>?_); simp [go_sem, hsh]; refine hK _ _ ?_; clear hK; clear Kv))
      refine ⟨⟨hb2.trans (hb3.mono hz2), _, _, _, rfl, ho', ⟨Int.emod_nonneg _ (by omega), Int.emod_lt_of_pos _ (by omega)⟩, by omega, by rw [hd]; exact hi'⟩, ?_⟩
      simp only [pwMu_eq]
      omega
theorem Add_ok (n a b : Int) (h : K (.int .i64 (addM n a b)) w) : callM Tryd.prog 20 #[.int .i64 n, .int .i64 a, .int .i64 b] K w := by
  apply sh_20_ok
  unfold sh_20
  refine valid_ok n ?_
  by_cases hn : okN n
  · have hn' := hn
    obtain ⟨h1, h2⟩ := hn'
    have ha := Int.emod_nonneg a (b := n) (by omega)
    have ha2 := Int.emod_lt_of_pos a (b := n) (by omega)
    have hb := Int.emod_nonneg b (b := n) (by omega)
    have hb2 := Int.emod_lt_of_pos b (b := n) (by omega)
    have e := addM_eq n a b hn
    have e2 := addM_range n a b hn
    have e1 : (a % n + b % n).tmod n = (a % n + b % n) % n := Int.tmod_eq_emod_of_nonneg (by omega)
    rw [e] at e1
    repeat (any_goals (first
    | (with_reducible ((refine idCond ?_); refine yM ?_))
    | ((with_reducible refine idO ?_); (with_reducible refine oM_gen fun Kv hK=>?_); simp [go_sem, hn]; refine hK _ _ ?_; clear hK; clear Kv)))
    refine residue_ok n a hn ?_
    refine residue_ok n b hn ?_
    generalize a % n = x at *
    generalize b % n = y at *
    generalize addM n a b = z at *
    repeat (any_goals ((with_reducible refine idO ?_); (with_reducible refine oM_gen fun Kv hK=>?_); simp [go_sem, e1]; (try simp (disch := omega) only [wrapI64, wrapU8, wrapU32, wrapU64]); (first|refine hK _ _ ?_|refine And.intro (by omega) (hK _ _ ?_)); clear hK; clear Kv))
    exact h
  · rw [addM, if_neg hn] at h
    repeat (any_goals (first
    | (with_reducible ((refine idCond ?_); refine yL ?_))
    | ((with_reducible refine idO ?_); (with_reducible refine oM_gen fun Kv hK=>?_); simp [go_sem, hn]; refine hK _ _ ?_; clear hK; clear Kv)))
    exact h
theorem Sub_ok (n a b : Int) (h : K (.int .i64 (subM n a b)) w) : callM Tryd.prog 12 #[.int .i64 n, .int .i64 a, .int .i64 b] K w := by
  apply sh_12_ok
  unfold sh_12
  refine valid_ok n ?_
  by_cases hn : okN n
  · have hn' := hn
    obtain ⟨h1, h2⟩ := hn'
    have ha := Int.emod_nonneg a (b := n) (by omega)
    have ha2 := Int.emod_lt_of_pos a (b := n) (by omega)
    have hb := Int.emod_nonneg b (b := n) (by omega)
    have hb2 := Int.emod_lt_of_pos b (b := n) (by omega)
    have e := subM_eq n a b hn
    have e2 := subM_range n a b hn
    have e1 : (a % n + n - b % n).tmod n = (a % n + n - b % n) % n := Int.tmod_eq_emod_of_nonneg (by omega)
    rw [e] at e1
    repeat (any_goals (first
    | (with_reducible ((refine idCond ?_); refine yM ?_))
    | ((with_reducible refine idO ?_); (with_reducible refine oM_gen fun Kv hK=>?_); simp [go_sem, hn]; refine hK _ _ ?_; clear hK; clear Kv)))
    refine residue_ok n a hn ?_
    repeat (any_goals ((with_reducible refine idO ?_); (with_reducible refine oM_gen fun Kv hK=>?_); simp [go_sem]; (try simp (disch := omega) only [wrapI64, wrapU8, wrapU32, wrapU64]); refine hK _ _ ?_; clear hK; clear Kv))
    refine residue_ok n b hn ?_
    generalize a % n = x at *
    generalize b % n = y at *
    generalize subM n a b = z at *
    repeat (any_goals ((with_reducible refine idO ?_); (with_reducible refine oM_gen fun Kv hK=>?_); simp [go_sem, e1]; (try simp (disch := omega) only [wrapI64, wrapU8, wrapU32, wrapU64]); (first|refine hK _ _ ?_|refine And.intro (by omega) (hK _ _ ?_)); clear hK; clear Kv))
    exact h
  · rw [subM, if_neg hn] at h
    repeat (any_goals (first
    | (with_reducible ((refine idCond ?_); refine yL ?_))
    | ((with_reducible refine idO ?_); (with_reducible refine oM_gen fun Kv hK=>?_); simp [go_sem, hn]; refine hK _ _ ?_; clear hK; clear Kv)))
    exact h
theorem Mul_ok (n a b : Int) (k : ∀ w', Below w.heap.size w w' → K (.int .i64 (mulM n a b)) w') : callM Tryd.prog 13 #[.int .i64 n, .int .i64 a, .int .i64 b] K w := by
  apply sh_13_ok
  unfold sh_13
  refine valid_ok n ?_
  by_cases hn : okN n
  · have hn' := hn
    obtain ⟨h1, h2⟩ := hn'
    have ha := Int.emod_nonneg a (b := n) (by omega)
    have ha2 := Int.emod_lt_of_pos a (b := n) (by omega)
    have hb := Int.emod_nonneg b (b := n) (by omega)
    have hb2 := Int.emod_lt_of_pos b (b := n) (by omega)
    have e := mulM_eq n a b hn
    have e2 := mulM_range n a b hn
    repeat (any_goals (first
    | (with_reducible ((refine idCond ?_); refine yM ?_))
    | ((with_reducible refine idO ?_); (with_reducible refine oM_gen fun Kv hK=>?_); simp [go_sem, hn]; refine hK _ _ ?_; clear hK; clear Kv)))
    refine residue_ok n a hn ?_
    refine residue_ok n b hn ?_
    refine product_ok n _ _ hn ⟨ha, ha2⟩ ⟨hb, hb2⟩ ?_
    intro w1 hb1
    rw [e]
    have k := k w1 hb1
    generalize mulM n a b = z at *
    repeat (any_goals ((with_reducible refine idO ?_); (with_reducible refine oM_gen fun Kv hK=>?_); simp [go_sem]; (try simp (disch := omega) only [wrapI64, wrapU8, wrapU32, wrapU64]); refine hK _ _ ?_; clear hK; clear Kv))
    exact k
  · rw [mulM, if_neg hn] at k
    repeat (any_goals (first
    | (with_reducible ((refine idCond ?_); refine yL ?_))
    | ((with_reducible refine idO ?_); (with_reducible refine oM_gen fun Kv hK=>?_); simp [go_sem, hn]; refine hK _ _ ?_; clear hK; clear Kv)))
    exact k _ (Below.refl _ _)
end
end Go.Proofs
namespace Go.Proofs
open Go Go.Sh Go.RowKit FdSpec
set_option linter.unusedSimpArgs false
set_option linter.unusedVariables false
set_option maxRecDepth 10000
section
variable {K : Value → World → Prop} {w : World}
def InJ (n : Int) (E : Int × Int) (w : World) (l : List Value) (w' : World) : Prop := Below w.heap.size w w' ∧ ∃ (v : Value) (r s x y : Int), l = [v, .int .i64 r, .int .i64 s, .int .i64 x, .int .i64 y] ∧ (0 ≤ s ∧ s < n) ∧ (0 ≤ r ∧ r ≤ n) ∧ (0 ≤ x ∧ x < 2305843009213693952) ∧ (0 ≤ y ∧ y < 2305843009213693952) ∧ eucAll n r s x y = E
def inMu (l : List Value) (_ : World) : Nat := match l with | [_, _, .int _ s, _, _] => s.toNat | _ => 0
theorem inMu_eq (v r x y : Value) (k : IntKind) (s : Int) (w : World) : inMu [v, r, .int k s, x, y] w = s.toNat := rfl
theorem eucAll_zero (n r x y : Int) : eucAll n r 0 x y = (r, x) := euc_zero n _ r x y
theorem Inv_ok (n a : Int) (k : ∀ w', Below w.heap.size w w' → K (.tuple #[.int .i64 ((invM n a).getD 0), .bool (invM n a).isSome]) w') : callM Tryd.prog 37 #[.int .i64 n, .int .i64 a] K w := by
  apply sh_37_ok
  unfold sh_37
  refine valid_ok n ?_
  by_cases hn : okN n
  · have hn' := hn
    obtain ⟨h1, h2⟩ := hn'
    have ha := Int.emod_nonneg a (b := n) (by omega)
    have ha2 := Int.emod_lt_of_pos a (b := n) (by omega)
    have kk : ∀ r x w', (r, x) = eucAll n n (a % n) 0 1 → Below w.heap.size w w' → K (.tuple #[.int .i64 (if r = 1 then x % n else 0), .bool (decide (r = 1))]) w' := fun r x w' e hb => by
      have k := k w' hb
      unfold invM at k
      rw [if_pos hn, ← e] at k
      by_cases hr : r = 1
      · simpa [hr] using k
      · simpa [hr] using k
    clear k
    repeat (any_goals (first
    | (with_reducible ((refine idCond ?_); refine yM ?_))
    | ((with_reducible refine idO ?_); (with_reducible refine oM_gen fun Kv hK=>?_); simp [go_sem, hn]; refine hK _ _ ?_; clear hK; clear Kv)))
    refine residue_ok n a hn ?_
    generalize a % n = s0 at *
    generalize hE : eucAll n n s0 0 1 = E at *
    repeat (any_goals ((with_reducible refine idO ?_); (with_reducible refine oM_gen fun Kv hK=>?_); simp [go_sem]; (try simp (disch := omega) only [wrapI64, wrapU8, wrapU32, wrapU64]); refine hK _ _ ?_; clear hK; clear Kv))
    refine ⟨InJ n E w, inMu, ⟨Below.refl _ _, _, n, s0, 0, 1, rfl, ⟨ha, ha2⟩, ⟨by omega, by omega⟩, ⟨by omega, by omega⟩, ⟨by omega, by omega⟩, hE⟩, ?_⟩
    clear hE ha ha2 s0
    rintro _ _ w1 ⟨hb1, v, r, s, x, y, rfl, hs, hr, hx, hy, he⟩
    have hz := hb1.size
    by_cases h0 : s = 0
    · subst h0
      rw [eucAll_zero] at he
      have kk := kk r x w1 he hb1
      have e1 : x.tmod n = x % n := Int.tmod_eq_emod_of_nonneg hx.1
      by_cases hr1 : r = 1
      · simp only [hr1] at kk
        repeat (any_goals (first
        | (with_reducible ((refine idCond ?_); refine yM ?_))
        | ((with_reducible refine idO ?_); (with_reducible refine oM_gen fun Kv hK=>?_); simp [go_sem, hr1, e1]; (first|refine hK _ _ ?_|refine And.intro (by omega) (hK _ _ ?_)); clear hK; clear Kv)))
        simpa using kk
      · simp only [hr1] at kk
        repeat (any_goals (first
        | (with_reducible ((refine idCond ?_); first|refine yL ?_|refine yM ?_))
        | ((with_reducible refine idO ?_); (with_reducible refine oM_gen fun Kv hK=>?_); simp [go_sem, hr1]; refine hK _ _ ?_; clear hK; clear Kv)))
        simpa using kk
    · rw [euc_step n r s x y (by omega)] at he
      have q1 : r.tdiv s = r / s := Int.tdiv_eq_ediv_of_nonneg hr.1
      have q2 := Int.emod_add_mul_ediv r s
      have q3 := Int.emod_nonneg r (b := s) (by omega)
      have q4 := Int.emod_lt_of_pos r (b := s) (by omega)
      have q5 : 0 ≤ r / s := Int.ediv_nonneg hr.1 hs.1
      have q6 : r / s ≤ r := Int.ediv_le_self _ hr.1
      have q7 : r / s * s = r - r % s := by rw [Int.mul_comm]; omega
      have m1 := mulM_range n (r / s) y hn
      have m2 := subM_range n x (mulM n (r / s) y) hn
      generalize r % s = t at *
      generalize r / s = q at *
      clear q2
      have q8 : r - (r - t) = t := by omega
      repeat (any_goals (first
      | (with_reducible ((refine idCond ?_); refine yQ ?_))
      | ((with_reducible refine idO ?_); (with_reducible refine oM_gen fun Kv hK=>?_); simp [go_sem, q1, q7, q8]; (try simp (disch := omega) only [wrapI64, wrapU8, wrapU32, wrapU64]); (first|refine hK _ _ ?_|refine And.intro (by omega) (hK _ _ ?_)); clear hK; clear Kv)))
      refine Mul_ok n q y (fun w2 hb2 => ?_)
      refine Sub_ok n x _ ?_
      generalize subM n x (mulM n q y) = z at *
      skip
      refine ⟨⟨hb1.trans (hb2.mono hz), _, s, t, y, z, rfl, ⟨q3, by omega⟩, ⟨hs.1, by omega⟩, hy, ⟨m2.1, by omega⟩, he⟩, ?_⟩
      simp only [inMu_eq]
      omega
  · have k := k _ (Below.refl _ _)
    unfold invM at k
    rw [if_neg hn] at k
    repeat (any_goals (first
    | (with_reducible ((refine idCond ?_); refine yL ?_))
    | ((with_reducible refine idO ?_); (with_reducible refine oM_gen fun Kv hK=>?_); simp [go_sem, hn]; refine hK _ _ ?_; clear hK; clear Kv)))
    exact k
theorem Pow_ok (n a b : Int) (hbr : -9223372036854775808 ≤ b ∧ b < 9223372036854775808) (k : ∀ w', Below w.heap.size w w' → K (.int .i64 (powM n a b)) w') : callM Tryd.prog 11 #[.int .i64 n, .int .i64 a, .int .i64 b] K w := by
  apply sh_11_ok
  unfold sh_11
  refine valid_ok n ?_
  unfold powM at k
  by_cases hn : okN n
  · have hn' := hn
    obtain ⟨h1, h2⟩ := hn'
    rw [if_pos hn] at k
    by_cases h0 : 0 ≤ b
    · rw [if_pos h0] at k
      have ha := Int.emod_nonneg a (b := n) (by omega)
      have ha2 := Int.emod_lt_of_pos a (b := n) (by omega)
      obtain ⟨c, rfl⟩ := natN b h0
      rw [Int.toNat_natCast, ← pw_emod] at k
      repeat (any_goals (first
      | (with_reducible ((refine idCond ?_); first|refine yL ?_|refine yM ?_))
      | ((with_reducible refine idO ?_); (with_reducible refine oM_gen fun Kv hK=>?_); simp [go_sem, hn]; refine hK _ _ ?_; clear hK; clear Kv)))
      refine residue_ok n a hn ?_
      generalize a % n = x at *
      repeat (any_goals ((with_reducible refine idO ?_); (with_reducible refine oM_gen fun Kv hK=>?_); simp [go_sem]; (try simp (disch := omega) only [wrapI64, wrapU8, wrapU32, wrapU64]); refine hK _ _ ?_; clear hK; clear Kv))
      refine power_ok n x c hn ⟨ha, ha2⟩ (by omega) (fun w1 hb1 => ?_)
      have hr := pw_nonneg n x c (by omega)
      have k := k w1 hb1
      generalize pw n x c = z at *
      repeat (any_goals ((with_reducible refine idO ?_); (with_reducible refine oM_gen fun Kv hK=>?_); simp [go_sem]; (try simp (disch := omega) only [wrapI64, wrapU8, wrapU32, wrapU64]); refine hK _ _ ?_; clear hK; clear Kv))
      exact k
    · rw [if_neg h0] at k
      repeat (any_goals (first
      | (with_reducible ((refine idCond ?_); first|refine yM ?_|refine yO ?_))
      | ((with_reducible refine idO ?_); (with_reducible refine oM_gen fun Kv hK=>?_); simp [go_sem, hn]; refine hK _ _ ?_; clear hK; clear Kv)))
      refine Inv_ok n a (fun w1 hb1 => ?_)
      have hz := hb1.size
      cases hi : invM n a with
      | none =>
        rw [hi] at k
        have k := k w1 hb1
        repeat (any_goals (first
        | (with_reducible ((refine idCond ?_); refine yL ?_))
        | ((with_reducible refine idO ?_); (with_reducible refine oM_gen fun Kv hK=>?_); simp [go_sem]; refine hK _ _ ?_; clear hK; clear Kv)))
        exact k
      | some x =>
        rw [hi] at k
        have hx : 0 ≤ x ∧ x < n := by
          unfold invM at hi
          rw [if_pos hn] at hi
          split at hi
          · cases hi; exact ⟨Int.emod_nonneg _ (by omega), Int.emod_lt_of_pos _ (by omega)⟩
          · cases hi
        obtain ⟨c, hc⟩ := natN (-b) (by omega)
        rw [hc, Int.toNat_natCast] at k
        have hw : IntKind.u64.wrap (-(IntKind.u64.wrap b)) = (c : Int) := by
          simp only [IntKind.wrap_u64]; omega
        have hw2 : b % 18446744073709551616 = b + 18446744073709551616 := by omega
        simp only [Option.getD_some, Option.isSome_some]
        repeat (any_goals (first
        | (with_reducible ((refine idCond ?_); refine yM ?_))
        | ((with_reducible refine idO ?_); (with_reducible refine oM_gen fun Kv hK=>?_); simp [go_sem, hw]; (try simp (disch := omega) only [wrapI64, wrapU8, wrapU32, wrapU64]); refine hK _ _ ?_; clear hK; clear Kv)))
        refine power_ok n x c hn hx (by omega) (fun w2 hb2 => ?_)
        have hr := pw_nonneg n x c (by omega)
        have k : K (.int .i64 (pw n x c)) w2 := k w2 (hb1.trans (hb2.mono hz))
        generalize pw n x c = z at *
        repeat (any_goals ((with_reducible refine idO ?_); (with_reducible refine oM_gen fun Kv hK=>?_); simp [go_sem]; (try simp (disch := omega) only [wrapI64, wrapU8, wrapU32, wrapU64]); refine hK _ _ ?_; clear hK; clear Kv))
        exact k
  · rw [if_neg hn] at k
    repeat (any_goals (first
    | (with_reducible ((refine idCond ?_); refine yL ?_))
    | ((with_reducible refine idO ?_); (with_reducible refine oM_gen fun Kv hK=>?_); simp [go_sem, hn]; refine hK _ _ ?_; clear hK; clear Kv)))
    exact k _ (Below.refl _ _)
end
end Go.Proofs
namespace Go.Proofs
open Go Go.Sh Go.RowKit FdSpec
set_option linter.unusedSimpArgs false
set_option linter.unusedVariables false
set_option maxRecDepth 10000
section
variable {K : Value → World → Prop} {w : World}
def DbT (w : World) : Prop := 2 < w.heap.size ∧ ∀ j, j < 64 → w.cell? ⟨2, j, none⟩ = some (.int .u8 (Lib.deBruijn64tab.getD j 0 : Nat))
theorem DbT.below {w w' : World} {B : Nat} (h : DbT w) (hb : Below B w w') (hB : w.heap.size ≤ B) : DbT w' :=
  ⟨Nat.lt_of_lt_of_le h.1 hb.size, fun j hj => by rw [hb.cell (show 2 < B from Nat.lt_of_lt_of_le h.1 hB)]; exact h.2 j hj⟩
theorem tz_ctz (k m : Nat) : tz k m = Lib.ctzFrom k m := by
  induction k generalizing m with
  | zero => rfl
  | succ k ih =>
    unfold tz Lib.ctzFrom
    rw [ih]
    by_cases h : m % 2 = 0
    · rw [if_pos h, if_neg (by omega), Nat.add_comm]
    · rw [if_neg h, if_pos (by omega)]
theorem tz_key (q : Nat) : IntKind.u64.wrap ((q : Int) * 285870213051353865) / 288230376151711744 = ((q * 285870213051353865 % 18446744073709551616 / 288230376151711744 : Nat) : Int) := by
  rw [IntKind.wrap_u64]; omega
theorem idx_tab {j : Nat} (hj : j < 64) (w : World) : (Instr.indexAt 122 (.pointer (some ⟨2, 0, none⟩)) (.int .u64 j)).run Tryd.prog w = .ok (.pointer (some ⟨2, j, none⟩)) w := by
  rw [run_indexAt_array (h := by kernel_rfl)]
  have hs : (sizeOf (Tryd.prog.elem 122)).run Tryd.prog w = .ok 1 w := by kernel_rfl
  have hl : Tryd.prog.arrayLen 122 = 64 := by kernel_rfl
  rw [hl, if_pos (by omega), hs]
  simp only [Result.andThen, Int.toNat_natCast, add_none, Nat.zero_add, Nat.mul_one]
theorem tz64_ok (x : Nat) (hx0 : 0 < x) (hx : x < 18446744073709551616) (hT : DbT w) (h : K (.int .i64 (tz 64 x : Nat)) w) : callM Tryd.prog 81 #[.int .u64 (x : Int)] K w := by
  apply sh_81_ok
  unfold sh_81
  obtain ⟨hlow, hk⟩ := Lib.lowest_bit 64 x (by omega) (by omega)
  obtain ⟨hi, htab⟩ := Lib.deBruijn64_at _ hk
  have e0 : Lib.ctz 64 x = tz 64 x := by rw [tz_ctz, Lib.ctz, if_neg (by omega)]
  rw [e0] at hlow htab hi
  have e1 : IntKind.u64.wrap (-(x : Int)) = ((18446744073709551616 - x : Nat) : Int) := by rw [IntKind.wrap_u64]; omega
  have e2 : bits .and .u64 (x : Int) ((18446744073709551616 - x : Nat) : Int) = ((2 ^ tz 64 x : Nat) : Int) := by
    rw [bits_and64 _ _ (by omega) (by omega), Int.toNat_natCast, Int.toNat_natCast]
    exact congrArg _ hlow
  have e3 := tz_key (2 ^ tz 64 x)
  have hc := hT.2 _ hi
  rw [htab] at hc
  have hix := idx_tab hi w
  generalize 2 ^ tz 64 x * 285870213051353865 % 18446744073709551616 / 288230376151711744 = j at *
  generalize (2 ^ tz 64 x : Nat) = q at *
  have hk2 : tz 64 x < 64 := by rw [← e0]; exact hk
  generalize tz 64 x = t at *
  repeat (any_goals (first
  | (rw [oM_indexAddr, hix, rM_ok])
  | (with_reducible ((refine idCond ?_); refine yO ?_))
  | ((with_reducible refine idO ?_); (with_reducible refine oM_gen fun Kv hK=>?_); simp [go_sem, e1, e2, e3, hc]; (try simp (disch := omega) only [wrapI64, wrapU8, wrapU32, wrapU64]); refine hK _ _ ?_; clear hK; clear Kv)))
  exact h
end
end Go.Proofs
namespace Go.Proofs
open Go Go.Sh Go.RowKit FdSpec
set_option linter.unusedSimpArgs false
set_option linter.unusedVariables false
set_option maxRecDepth 10000
section
variable {K : Value → World → Prop} {w : World}
def WiJ (n : Int) (k : Nat) (R : Bool) (w : World) (l : List Value) (w' : World) : Prop := Below w.heap.size w w' ∧ ∃ (v : Value) (x : Int) (i : Nat), l = [v, .int .u64 x, .int .i64 (i : Int)] ∧ i ≤ k ∧ (0 ≤ x ∧ x < n) ∧ mrUp n (k - i) x = R
def wiMu (k : Nat) (l : List Value) (_ : World) : Nat := match l with | [_, _, .int _ i] => k - i.toNat | _ => 0
theorem wiMu_eq (k : Nat) (x y : Value) (q : IntKind) (i : Int) (w : World) : wiMu k [x, y, .int q i] w = k - i.toNat := rfl
theorem witness_ok (n b : Int) (hn : okN n) (h2 : 2 ≤ n) (hb : 0 ≤ b ∧ b < n) (hT : DbT w) (k : ∀ w', Below w.heap.size w w' → K (.bool (!passes n b)) w') : callM Tryd.prog 76 #[.int .i64 n, .int .u64 b] K w := by
  apply sh_76_ok
  unfold sh_76
  have hn' := hn
  obtain ⟨h1, h3⟩ := hn'
  obtain ⟨m, hm⟩ := natN (n - 1) (by omega)
  have hm2 : (n - 1).toNat = m := by omega
  have ht := tz_lt 64 m (by omega) (by omega)
  obtain ⟨t, htt⟩ : ∃ t, t = tz 64 m := ⟨_, rfl⟩
  have ht64 : t < 64 := by rw [htt]; exact ht.1
  clear ht
  have hsh : ((m : Int)) / 2 ^ t = ((m / 2 ^ t : Nat) : Int) := by rw [Int.natCast_ediv, Int.natCast_pow]; rfl
  have hdl := Nat.div_le_self m (2 ^ t)
  have rr := fun x => oM_shr64 (P := Tryd.prog) 77 3 77 .i64 x (t : Int) (by omega) (by omega)
  simp only [Int.toNat_natCast] at rr
  repeat (any_goals ((with_reducible refine idO ?_); (with_reducible refine oM_gen fun Kv hK=>?_); simp [go_sem, hm]; (try simp (disch := omega) only [wrapI64, wrapU8, wrapU32, wrapU64]); refine hK _ _ ?_; clear hK; clear Kv))
  refine tz64_ok m (by omega) (by omega) hT ?_
  rw [← htt]
  obtain ⟨d, hd⟩ : ∃ d, d = m / 2 ^ t := ⟨_, rfl⟩
  rw [← hd] at hsh hdl
  have k : ∀ w', Below w.heap.size w w' → K (.bool (!(if pw n b d = 1 then true else mrUp n t (pw n b d)))) w' := by
    rw [hd, htt, ← hm2]; exact k
  have hp := pw_nonneg n b d (by omega)
  repeat (any_goals ((with_reducible refine idO ?_); (with_reducible refine oM_gen fun Kv hK=>?_); simp [go_sem, hm, rr, hsh]; (try simp (disch := omega) only [wrapI64, wrapU8, wrapU32, wrapU64]); refine hK _ _ ?_; clear hK; clear Kv))
  refine power_ok n b d hn hb (by omega) (fun w1 hb1 => ?_)
  generalize pw n b d = x at *
  have hz := hb1.size
  by_cases hx1 : x = 1
  · have k : K (.bool false) w1 := by
      have k := k w1 hb1
      rw [if_pos hx1] at k
      exact k
    rw [hx1]
    clear rr hsh hdl
    repeat (any_goals (first
    | (with_reducible ((refine idCond ?_); refine yL ?_))
    | ((with_reducible refine idO ?_); (with_reducible refine oM_gen fun Kv hK=>?_); simp [go_sem]; refine hK _ _ ?_; clear hK; clear Kv)))
    exact k
  · have k : ∀ w', Below w.heap.size w w' → K (.bool (!mrUp n t x)) w' := fun w' hb => by
      have k := k w' hb
      rw [if_neg hx1] at k
      exact k
    clear rr hsh hdl
    repeat (any_goals (first
    | (with_reducible ((refine idCond ?_); refine yM ?_))
    | ((with_reducible refine idO ?_); (with_reducible refine oM_gen fun Kv hK=>?_); simp [go_sem, hx1]; refine hK _ _ ?_; clear hK; clear Kv)))
    refine ⟨WiJ n t (mrUp n t x) w, wiMu t, ⟨hb1, _, x, 0, rfl, by omega, hp, rfl⟩, ?_⟩
    generalize mrUp n t x = R at *
    clear hp hx1 hb1 hz w1
    rintro _ _ w1 ⟨hb1, v, y, i, rfl, hi, hx, hR⟩
    have hz := hb1.size
    by_cases hit : i = t
    · subst hit
      rw [Nat.sub_self] at hR
      have hR2 : R = false := by rw [← hR]; rfl
      subst hR2
      repeat (any_goals (first
      | (with_reducible ((refine idCond ?_); refine yM ?_))
      | ((with_reducible refine idO ?_); (with_reducible refine oM_gen fun Kv hK=>?_); simp [go_sem]; refine hK _ _ ?_; clear hK; clear Kv)))
      exact k _ hb1
    · obtain ⟨j, hj⟩ : ∃ j, t - i = j + 1 := ⟨t - i - 1, by omega⟩
      rw [hj] at hR
      unfold mrUp at hR
      by_cases hxn : y = n - 1
      · rw [if_pos hxn] at hR
        subst hR
        have k := k _ hb1
        rw [hm] at hxn
        repeat (any_goals (first
        | (with_reducible ((refine idCond ?_); first|refine yL ?_|refine yN ?_))
        | ((with_reducible refine idO ?_); (with_reducible refine oM_gen fun Kv hK=>?_); simp [go_sem, hm, hxn]; (try simp (disch := omega) only [wrapI64, wrapU8, wrapU32, wrapU64]); refine hK _ _ ?_; clear hK; clear Kv)))
        simpa using k
      · rw [if_neg hxn] at hR
        rw [hm] at hxn
        repeat (any_goals (first
        | (with_reducible ((refine idCond ?_); first|refine yM ?_|refine yN ?_))
        | ((with_reducible refine idO ?_); (with_reducible refine oM_gen fun Kv hK=>?_); simp [go_sem, hm, hxn]; (try simp (disch := omega) only [wrapI64, wrapU8, wrapU32, wrapU64]); refine hK _ _ ?_; clear hK; clear Kv)))
        refine product_ok n y y hn hx hx (fun w2 hb2 => ?_)
        repeat (any_goals ((with_reducible refine idO ?_); (with_reducible refine oM_gen fun Kv hK=>?_); simp [go_sem]; (try simp (disch := omega) only [wrapI64, wrapU8, wrapU32, wrapU64]); refine hK _ _ ?_; clear hK; clear Kv))
        refine ⟨⟨hb1.trans (hb2.mono hz), _, _, i + 1, rfl, by omega, ⟨Int.emod_nonneg _ (by omega), Int.emod_lt_of_pos _ (by omega)⟩, ?_⟩, ?_⟩
        · rw [show t - (i + 1) = j by omega]; exact hR
        · simp only [wiMu_eq]; omega
end
end Go.Proofs
namespace Go.Proofs
open Go Go.Sh Go.RowKit FdSpec
set_option linter.unusedSimpArgs false
set_option linter.unusedVariables false
set_option maxRecDepth 10000
section
variable {K : Value → World → Prop} {w : World}
def smallV : Array Value := #[.int .i64 2, .int .i64 3, .int .i64 5, .int .i64 7, .int .i64 11, .int .i64 13, .int .i64 17, .int .i64 19, .int .i64 23, .int .i64 29, .int .i64 31, .int .i64 37]
def PrJ (n : Int) (W : World) (l : List Value) (w' : World) : Prop := w' = W ∧ ∃ (v u : Value) (i : Nat), l = [v, u, .int .i64 (i : Int)] ∧ i ≤ 12 ∧ smallP.find? (fun p => decide (n % p = 0)) = (smallP.drop i).find? (fun p => decide (n % p = 0))
def PrJ2 (n : Int) (W : World) (l : List Value) (w' : World) : Prop := Below W.heap.size W w' ∧ ∃ (v u : Value) (i : Nat), l = [v, u, .int .i64 (i : Int)] ∧ i ≤ 12 ∧ smallP.all (fun p => passes n p) = (smallP.drop i).all (fun p => passes n p)
def prMu (l : List Value) (_ : World) : Nat := match l with | [_, _, .int _ i] => 12 - i.toNat | _ => 0
theorem prMu_eq (x y : Value) (q : IntKind) (i : Int) (w : World) : prMu [x, y, .int q i] w = 12 - i.toNat := rfl
theorem small_at (i : Nat) (hi : i < 12) : ∃ p, (∀ w, (Instr.index 115 (.agg smallV) (.int .i64 (i : Int))).run Tryd.prog w = .ok (.int .i64 p) w) ∧ smallP.drop i = p :: smallP.drop (i + 1) ∧ 2 ≤ p ∧ p ≤ 37 := by
  rcases i with _ | _ | _ | _ | _ | _ | _ | _ | _ | _ | _ | _ | i
  · exact ⟨2, fun w => by kernel_rfl, rfl, by decide, by decide⟩
  · exact ⟨3, fun w => by kernel_rfl, rfl, by decide, by decide⟩
  · exact ⟨5, fun w => by kernel_rfl, rfl, by decide, by decide⟩
  · exact ⟨7, fun w => by kernel_rfl, rfl, by decide, by decide⟩
  · exact ⟨11, fun w => by kernel_rfl, rfl, by decide, by decide⟩
  · exact ⟨13, fun w => by kernel_rfl, rfl, by decide, by decide⟩
  · exact ⟨17, fun w => by kernel_rfl, rfl, by decide, by decide⟩
  · exact ⟨19, fun w => by kernel_rfl, rfl, by decide, by decide⟩
  · exact ⟨23, fun w => by kernel_rfl, rfl, by decide, by decide⟩
  · exact ⟨29, fun w => by kernel_rfl, rfl, by decide, by decide⟩
  · exact ⟨31, fun w => by kernel_rfl, rfl, by decide, by decide⟩
  · exact ⟨37, fun w => by kernel_rfl, rfl, by decide, by decide⟩
  · omega
theorem build_small : oM Tryd.prog (Go.Op.build 115 #[(0, (.tmp 0)), (1, (.tmp 1)), (2, (.tmp 2)), (3, (.tmp 3)), (4, (.tmp 4)), (5, (.tmp 5)), (6, (.tmp 6)), (7, (.tmp 7)), (8, (.tmp 8)), (9, (.tmp 9)), (10, (.tmp 10)), (11, (.tmp 11))]) 115 smallV.toList = pureM (.agg smallV) := by
  funext K w
  kernel_rfl
theorem Prime_ok (n : Int) (hT : DbT w) (k : ∀ w', Below w.heap.size w w' → K (.bool (primeM n)) w') : callM Tryd.prog 68 #[.int .i64 n] K w := by
  apply sh_68_ok
  unfold sh_68
  unfold primeM at k
  by_cases h1 : n < 2
  · rw [if_pos (.inl h1)] at k
    repeat (any_goals (first
    | (with_reducible first|((refine idGd ?_); refine zD ?_)|((refine idPick ?_); refine yB ?_)|((refine idCond ?_); refine yL ?_))
    | ((with_reducible refine idO ?_); (with_reducible refine oM_gen fun Kv hK=>?_); simp [go_sem, h1]; refine hK _ _ ?_; clear hK; clear Kv)))
    exact k _ (Below.refl _ _)
  by_cases h2 : 2305843009213693952 ≤ n
  · rw [if_pos (.inr h2)] at k
    repeat (any_goals (first
    | (with_reducible first|refine pureM_in ?_|((refine idGd ?_); refine zC ?_)|((refine idPick ?_); refine yC ?_)|((refine idCond ?_); refine yL ?_))
    | ((with_reducible refine idO ?_); (with_reducible refine oM_gen fun Kv hK=>?_); simp [go_sem, h1, h2]; refine hK _ _ ?_; clear hK; clear Kv)))
    exact k _ (Below.refl _ _)
  rw [if_neg (by omega)] at k
  have hn : okN n := ⟨by omega, by omega⟩
  repeat (any_goals (first
  | (with_reducible first|refine pureM_in ?_|((refine idGd ?_); refine zC ?_)|((refine idPick ?_); refine yC ?_)|((refine idCond ?_); refine yM ?_))
  | ((with_reducible refine idO ?_); (with_reducible refine oM_gen fun Kv hK=>?_); simp [go_sem, h1, h2]; refine hK _ _ ?_; clear hK; clear Kv)))
  have bs := build_small
  unfold smallV at bs
  simp only at bs
  repeat (any_goals ((with_reducible refine idO ?_); (with_reducible refine oM_gen fun Kv hK=>?_); simp [go_sem, bs]; refine hK _ _ ?_; clear hK; clear Kv))
  clear bs
  have hbW : Below w.heap.size w (w.alloc (Obj.cells #[.int .i64 2, .int .i64 3, .int .i64 5, .int .i64 7, .int .i64 11, .int .i64 13, .int .i64 17, .int .i64 19, .int .i64 23, .int .i64 29, .int .i64 31, .int .i64 37] 115)) := (Below.refl _ _).alloc (Nat.le_refl _) _
  have hTW : DbT (w.alloc (Obj.cells #[.int .i64 2, .int .i64 3, .int .i64 5, .int .i64 7, .int .i64 11, .int .i64 13, .int .i64 17, .int .i64 19, .int .i64 23, .int .i64 29, .int .i64 31, .int .i64 37] 115)) := hT.below hbW (Nat.le_refl _)
  refine ⟨PrJ n (w.alloc (Obj.cells #[.int .i64 2, .int .i64 3, .int .i64 5, .int .i64 7, .int .i64 11, .int .i64 13, .int .i64 17, .int .i64 19, .int .i64 23, .int .i64 29, .int .i64 31, .int .i64 37] 115)), prMu, ⟨rfl, _, _, 0, rfl, by omega, rfl⟩, ?_⟩
  rintro _ _ w1 ⟨e1, v, u, i, rfl, hi, hf⟩
  rw [e1]
  clear e1 w1
  by_cases h12 : i = 12
  · subst h12
    rw [show smallP.drop 12 = [] from rfl, List.find?_nil] at hf
    rw [hf] at k
    simp only at k
    have hnd := List.find?_eq_none.1 hf
    have hbig : 37 < n := by
      have g : ∀ p ∈ smallP, ¬ n % p = 0 := fun p hp => by simpa using hnd p hp
      have hs : ∀ m : Nat, m < 38 → 2 ≤ m → ∃ p ∈ smallP, (m : Int) % p = 0 := by decide +kernel
      obtain ⟨m, rfl⟩ := natN n (by omega)
      by_cases hm : m < 38
      · obtain ⟨p, hp, hp0⟩ := hs m hm (by omega)
        exact absurd hp0 (g p hp)
      · omega
    clear hnd hf
    repeat (any_goals (first
    | (with_reducible ((refine idCond ?_); refine yM ?_))
    | ((with_reducible refine idO ?_); (with_reducible refine oM_gen fun Kv hK=>?_); simp [go_sem]; refine hK _ _ ?_; clear hK; clear Kv)))
    refine ⟨PrJ2 n (w.alloc (Obj.cells #[.int .i64 2, .int .i64 3, .int .i64 5, .int .i64 7, .int .i64 11, .int .i64 13, .int .i64 17, .int .i64 19, .int .i64 23, .int .i64 29, .int .i64 31, .int .i64 37] 115)), prMu, ⟨Below.refl _ _, _, _, 0, rfl, by omega, rfl⟩, ?_⟩
    rintro _ _ w2 ⟨hb2, v2, u2, i, rfl, hi2, hall⟩
    have hb3 := hbW.trans (hb2.mono (by simp))
    have hT2 : DbT w2 := hTW.below hb2 (Nat.le_refl _)
    by_cases hi12 : i = 12
    · subst hi12
      rw [show smallP.drop 12 = [] from rfl, List.all_nil] at hall
      rw [hall] at k
      repeat (any_goals (first
      | (with_reducible ((refine idCond ?_); refine yM ?_))
      | ((with_reducible refine idO ?_); (with_reducible refine oM_gen fun Kv hK=>?_); simp [go_sem]; refine hK _ _ ?_; clear hK; clear Kv)))
      exact k _ hb3
    · obtain ⟨p, hix, hdr, hp2, hp37⟩ := small_at i (by omega)
      unfold smallV at hix
      rw [hdr, List.all_cons] at hall
      have hz2 := hb2.size
      repeat (any_goals (first
      | (with_reducible ((refine idCond ?_); refine yN ?_))
      | ((with_reducible refine idO ?_); (with_reducible refine oM_gen fun Kv hK=>?_); simp [go_sem, hix]; (try simp (disch := omega) only [wrapI64, wrapU8, wrapU32, wrapU64]); refine hK _ _ ?_; clear hK; clear Kv)))
      refine witness_ok n p hn (by omega) ⟨by omega, by omega⟩ hT2 (fun w3 hb4 => ?_)
      cases hps : passes n p with
      | false =>
        rw [hps, Bool.false_and] at hall
        rw [hall] at k
        simp only [Bool.not_false]
        repeat (any_goals (with_reducible ((refine idCond ?_); refine yL ?_)))
        exact k _ (hb3.trans (hb4.mono hb3.size))
      | true =>
        rw [hps, Bool.true_and] at hall
        simp only [Bool.not_true]
        repeat (any_goals (first
        | (with_reducible ((refine idCond ?_); refine yM ?_))
        | ((with_reducible refine idO ?_); (with_reducible refine oM_gen fun Kv hK=>?_); simp [go_sem]; (try simp (disch := omega) only [wrapI64, wrapU8, wrapU32, wrapU64]); refine hK _ _ ?_; clear hK; clear Kv)))
        refine ⟨⟨hb2.trans (hb4.mono hz2), _, _, i + 1, rfl, by omega, hall⟩, ?_⟩
        simp only [prMu_eq]; omega
  · obtain ⟨p, hix, hdr, hp2, hp37⟩ := small_at i (by omega)
    unfold smallV at hix
    rw [hdr] at hf
    have er : n.tmod p = n % p := Int.tmod_eq_emod_of_nonneg (by omega)
    by_cases hd : n % p = 0
    · rw [List.find?_cons_of_pos (by simpa using hd)] at hf
      rw [hf] at k
      have k := k _ hbW
      simp only at k
      repeat (any_goals (first
      | (with_reducible ((refine idCond ?_); first|refine yL ?_|refine yN ?_))
      | ((with_reducible refine idO ?_); (with_reducible refine oM_gen fun Kv hK=>?_); simp [go_sem, hix, er, hd]; (first|refine hK _ _ ?_|refine And.intro (by omega) (hK _ _ ?_)); clear hK; clear Kv)))
      exact k
    · rw [List.find?_cons_of_neg (by simpa using hd)] at hf
      repeat (any_goals (first
      | (with_reducible ((refine idCond ?_); first|refine yM ?_|refine yN ?_))
      | ((with_reducible refine idO ?_); (with_reducible refine oM_gen fun Kv hK=>?_); simp [go_sem, hix, er, hd]; (try simp (disch := omega) only [wrapI64, wrapU8, wrapU32, wrapU64]); (first|refine hK _ _ ?_|refine And.intro (by omega) (hK _ _ ?_)); clear hK; clear Kv)))
      refine ⟨⟨rfl, _, _, i + 1, rfl, by omega, hf⟩, ?_⟩
      simp only [prMu_eq]; omega
end
end Go.Proofs
namespace Go.Proofs
open Go Go.Sh Go.RowKit FdSpec
set_option linter.unusedSimpArgs false
set_option linter.unusedVariables false
set_option maxRecDepth 10000
section
variable {K : Value → World → Prop} {w : World}
@[reducible] def grpV (g : Grp) : Value := .agg #[.int .i64 g.P, .int .i64 g.Q, .int .i64 g.G]
def GrpR (g : Grp) : Prop := I64 g.P ∧ I64 g.Q ∧ I64 g.G
theorem validG_not {g : Grp} (h : g.Q < 5 ∨ 1152921504606846976 ≤ g.Q ∨ g.P ≠ 2 * g.Q + 1 ∨ g.G < 2 ∨ g.P ≤ g.G) : validG g = false := by
  unfold validG; rw [if_pos h]
theorem validG_yes {g : Grp} (h : ¬ (g.Q < 5 ∨ 1152921504606846976 ≤ g.Q ∨ g.P ≠ 2 * g.Q + 1 ∨ g.G < 2 ∨ g.P ≤ g.G)) : validG g = (primeM g.Q && primeM g.P && decide (pw g.P g.G g.Q.toNat = 1)) := by
  unfold validG; rw [if_neg h]
theorem box_grp {T T' : TypeId} (g : Grp) (k : ∀ b W, Below w.heap.size w W → w.heap.size ≤ b → (∀ w', Below W.heap.size W w' → w'.cell? ⟨b, 0, none⟩ = some (.int .i64 g.P)) → (∀ w', Below W.heap.size W w' → w'.cell? ⟨b, 1, none⟩ = some (.int .i64 g.Q)) → (∀ w', Below W.heap.size W w' → w'.cell? ⟨b, 2, none⟩ = some (.int .i64 g.G)) → K (.pointer (some ⟨b, 0, none⟩)) W) : oM Tryd.prog (.box T (.tmp 0)) T' [grpV g] K w :=
  box_in (cs := [.int .i64 g.P, .int .i64 g.Q, .int .i64 g.G]) rfl fun b W h1 h2 hB => k b W h1 h2 (fun w' h => hB w' h 0 _ rfl) (fun w' h => hB w' h 1 _ rfl) (fun w' h => hB w' h 2 _ rfl)
set_option maxHeartbeats 2000000 in
theorem ValidGroup_ok (g : Grp) (hg : GrpR g) (hT : DbT w) (k : ∀ w', Below w.heap.size w w' → K (.bool (validG g)) w') : callM Tryd.prog 57 #[grpV g] K w := by
  apply sh_57_ok
  unfold sh_57
  refine box_grp g fun b W hW hb c0 c1 c2 => ?_
  have n1 := validG_not (g := g)
  have n2 := validG_yes (g := g)
  obtain ⟨P, Q, G⟩ := g
  obtain ⟨hP, hQ, hG⟩ := hg
  unfold I64 at hP hQ hG
  simp only at hP hQ hG n1 n2 c0 c1 c2
  have hr := Below.refl W.heap.size W
  have hTW : DbT W := hT.below hW (Nat.le_refl _)
  have k1 : ∀ w', validG ⟨P, Q, G⟩ = false → Below W.heap.size W w' → K (.bool false) w' := fun w' e hb => by rw [e] at k; exact k w' (hW.on hb)
  have k2 : ∀ w' v, validG ⟨P, Q, G⟩ = v → Below W.heap.size W w' → K (.bool v) w' := fun w' v e hb => by rw [e] at k; exact k w' (hW.on hb)
  clear k
  repeat (any_goals (first
  | (with_reducible first|((refine idGd ?_); first|refine zD ?_|((refine idGdD ?_); first|refine zI ?_|refine zJ ?_|refine zK (fun hg=>?_) fun hg=>?_)|((refine idGdN ?_); first|refine zO ?_|refine zP ?_|refine zQ (fun hg=>?_) fun hg=>?_))|((refine idPick ?_); first|refine yB ?_|refine yD ?_|refine yE ?_|refine yF ?_|refine yG ?_)|((refine idCond ?_); first|refine yL ?_|refine yP (fun hg=>?_) fun hg=>?_))
  | ((with_reducible refine idO ?_); (with_reducible refine oM_gen fun Kv hK=>?_); simp [go_sem, c0, c1, c2, hr]; (try simp (disch := omega) only [wrapI64, wrapU8, wrapU32, wrapU64]); refine hK _ _ ?_; clear hK; clear Kv)))
  all_goals try exact k1 _ (n1 (by omega)) hr
  refine Prime_ok Q hTW (fun w1 h1 => ?_)
  have n2 := n2 (by omega)
  cases hq : primeM Q with
  | false =>
    have n2 : validG ⟨P, Q, G⟩ = false := by rw [n2, hq]; rfl
    repeat (any_goals (with_reducible first|((refine idGd ?_); refine zB ?_)|((refine idPick ?_); refine yC ?_)))
    exact k1 _ n2 h1
  | true =>
    rw [hq, Bool.true_and] at n2
    repeat (any_goals (first
    | (with_reducible ((refine idGd ?_); refine zA ?_))
    | ((with_reducible refine idO ?_); (with_reducible refine oM_gen fun Kv hK=>?_); simp [go_sem, c0, h1]; refine hK _ _ ?_; clear hK; clear Kv)))
    refine Prime_ok P (hTW.below h1 (Nat.le_refl _)) (fun w2 h2 => ?_)
    have h2 := h1.on h2
    cases hp : primeM P with
    | false =>
      have n2 : validG ⟨P, Q, G⟩ = false := by rw [n2, hp]; rfl
      repeat (any_goals (with_reducible first|((refine idGd ?_); refine zB ?_)|((refine idPick ?_); first|refine yB ?_|refine yC ?_)))
      exact k1 _ n2 h2
    | true =>
      rw [hp, Bool.true_and] at n2
      repeat (any_goals (first
      | (with_reducible first|((refine idGd ?_); refine zA ?_)|((refine idPick ?_); refine yB ?_))
      | ((with_reducible refine idO ?_); (with_reducible refine oM_gen fun Kv hK=>?_); simp [go_sem, c0, c1, c2, h2]; refine hK _ _ ?_; clear hK; clear Kv)))
      refine Pow_ok P G Q hQ (fun w3 h3 => ?_)
      have e : powM P G Q = pw P G Q.toNat := by unfold powM; rw [if_pos (by unfold okN; omega), if_pos (by omega)]
      rw [e]
      generalize pw P G Q.toNat = z at *
      have h3 := h2.on h3
      repeat (any_goals (first
      | (with_reducible first|((refine idGd ?_); refine zA ?_)|((refine idPick ?_); refine yB ?_))
      | ((with_reducible refine idO ?_); (with_reducible refine oM_gen fun Kv hK=>?_); simp [go_sem]; refine hK _ _ ?_; clear hK; clear Kv)))
      exact k2 _ _ n2 h3
end
end Go.Proofs
namespace Go.Proofs
open Go Go.Sh Go.RowKit FdSpec
set_option linter.unusedSimpArgs false
set_option linter.unusedVariables false
set_option maxRecDepth 10000
section
variable {K : Value → World → Prop} {w : World}
theorem Element_ok (g : Grp) (x : Int) (hgr : GrpR g) (hT : DbT w) (k : ∀ w', Below w.heap.size w w' → K (.bool (elemG g x)) w') : callM Tryd.prog 65 #[grpV g, .int .i64 x] K w := by
  apply sh_65_ok
  unfold sh_65
  refine box_grp g fun b W hW hb c0 c1 c2 => ?_
  have hr := Below.refl W.heap.size W
  have hTW : DbT W := hT.below hW (Nat.le_refl _)
  have k2 : ∀ w' v, elemG g x = v → Below W.heap.size W w' → K (.bool v) w' := fun w' v e hb => by rw [← e]; exact k w' (hW.on hb)
  have e0 : elemG g x = (decide (1 ≤ x) && decide (x < g.P) && validG g && decide (pw g.P x g.Q.toNat = 1)) := rfl
  clear k
  repeat (any_goals (first
  | (with_reducible first|refine pureM_in ?_|((refine idGd ?_); first|refine zB ?_|((refine idGdD ?_); first|refine zF ?_|refine zG ?_|refine zH (fun hg=>?_) fun hg=>?_))|((refine idPick ?_); first|refine yC ?_|refine yD ?_|refine yE ?_))
  | ((with_reducible refine idO ?_); (with_reducible refine oM_gen fun Kv hK=>?_); simp [go_sem, c0, c1, c2, hr]; refine hK _ _ ?_; clear hK; clear Kv)))
  · refine ValidGroup_ok g hgr hTW (fun w1 h1 => ?_)
    cases hv : validG g with
    | false =>
      repeat (any_goals (with_reducible first|((refine idGd ?_); refine zB ?_)|((refine idPick ?_); first|refine yC ?_|refine yD ?_)))
      exact k2 _ _ (by rw [e0, hv]; simp) h1
    | true =>
      have hv2 := hv
      unfold validG at hv2
      split at hv2
      · cases hv2
      rename_i hn
      repeat (any_goals (first
      | (with_reducible first|refine pureM_in ?_|((refine idGd ?_); refine zA ?_)|((refine idPick ?_); refine yD ?_))
      | ((with_reducible refine idO ?_); (with_reducible refine oM_gen fun Kv hK=>?_); simp [go_sem, c0, c1, h1]; refine hK _ _ ?_; clear hK; clear Kv)))
      refine Pow_ok g.P x g.Q hgr.2.1 (fun w3 h3 => ?_)
      have e : powM g.P x g.Q = pw g.P x g.Q.toNat := by unfold powM; rw [if_pos (by unfold okN; omega), if_pos (by omega)]
      rw [e]
      have e1 : elemG g x = decide (pw g.P x g.Q.toNat = 1) := by rw [e0, hv]; simp; omega
      generalize pw g.P x g.Q.toNat = z at *
      repeat (any_goals (first
      | (with_reducible first|((refine idGd ?_); refine zA ?_)|((refine idPick ?_); refine yB ?_))
      | ((with_reducible refine idO ?_); (with_reducible refine oM_gen fun Kv hK=>?_); simp [go_sem]; refine hK _ _ ?_; clear hK; clear Kv)))
      exact k2 _ _ e1 (h1.on h3)
  · exact k2 _ _ (by rw [e0]; simp; omega) hr
  · exact k2 _ _ (by rw [e0]; simp; omega) hr
theorem Power_ok (g : Grp) (x n : Int) (k : ∀ w', Below w.heap.size w w' → K (.int .i64 (powerG g x n)) w') : callM Tryd.prog 14 #[grpV g, .int .i64 x, .int .i64 n] K w := by
  apply sh_14_ok
  unfold sh_14
  refine box_grp g fun b W hW hb c0 c1 c2 => ?_
  have hr := Below.refl W.heap.size W
  have k2 : ∀ w' v, powerG g x n = v → Below W.heap.size W w' → K (.int .i64 v) w' := fun w' v e hb => by rw [← e]; exact k w' (hW.on hb)
  clear k
  repeat (any_goals ((with_reducible refine idO ?_); (with_reducible refine oM_gen fun Kv hK=>?_); simp [go_sem, c0, c1, c2, hr]; refine hK _ _ ?_; clear hK; clear Kv))
  refine valid_ok g.P ?_
  by_cases hp : okN g.P
  · by_cases hq : okN g.Q
    · repeat (any_goals (first
      | (with_reducible ((refine idGd ?_); ((refine idGdN ?_); refine zO ?_)))
      | ((with_reducible refine idO ?_); (with_reducible refine oM_gen fun Kv hK=>?_); simp [go_sem, c0, c1, c2, hr]; refine hK _ _ ?_; clear hK; clear Kv)))
      refine valid_ok g.Q ?_
      repeat (any_goals (first
      | (with_reducible first|((refine idGd ?_); ((refine idGdN ?_); refine zO ?_))|((refine idPick ?_); refine yG ?_)|((refine idCond ?_); refine yR ?_))
      | ((with_reducible refine idO ?_); (with_reducible refine oM_gen fun Kv hK=>?_); simp [go_sem, c0, c1, c2, hr]; refine hK _ _ ?_; clear hK; clear Kv)))
      refine ⟨Below W.heap.size W, .drawn, ?_⟩
      have hp' := hp
      have hq' := hq
      obtain ⟨h1, h2⟩ := hp'
      obtain ⟨h3, h4⟩ := hq'
      have a1 := Int.emod_nonneg x (b := g.P) (by omega)
      have a2 := Int.emod_lt_of_pos x (b := g.P) (by omega)
      have a3 := Int.emod_nonneg n (b := g.Q) (by omega)
      have a4 := Int.emod_lt_of_pos n (b := g.Q) (by omega)
      have e0 : powerG g x n = pw g.P (x % g.P) (n % g.Q).toNat := by unfold powerG; rw [if_pos ⟨hp, hq⟩, pw_emod]
      obtain ⟨m, hm⟩ := natN (n % g.Q) a3
      rw [hm, Int.toNat_natCast] at e0
      have hr := pw_nonneg g.P (x % g.P) m (by omega)
      repeat (any_goals ((with_reducible refine idOQ ?_); (with_reducible refine oQ_of ⟨_, rfl⟩ (fun W0 hW0 => by (refine oM_gen (fun Kv hK => ?_)); simp [go_sem, c0 _ hW0, c1 _ hW0, c2 _ hW0]; (first | exact hK _ _ ⟨rfl, rfl⟩ | exact ⟨by omega, hK _ _ ⟨rfl, rfl⟩⟩)) ?_)))
      refine callQ_of (fun W0 hW0 => residue_ok g.P x hp ⟨rfl, hW0⟩) ?_
      repeat (any_goals ((with_reducible refine idOQ ?_); (with_reducible refine oQ_of ⟨_, rfl⟩ (fun W0 hW0 => by (refine oM_gen (fun Kv hK => ?_)); simp [go_sem, c0 _ hW0, c1 _ hW0, c2 _ hW0]; (first | exact hK _ _ ⟨rfl, rfl⟩ | exact ⟨by omega, hK _ _ ⟨rfl, rfl⟩⟩)) ?_)))
      refine callQ_of (fun W0 hW0 => residue_ok g.Q n hq ⟨rfl, hW0⟩) ?_
      rw [hm]
      refine callQ_of (fun W0 hW0 => power_ok g.P (x % g.P) m hp ⟨a1, a2⟩ (by omega) (fun w' hw' => ⟨rfl, hW0.on hw'⟩)) ?_
      generalize pw g.P (x % g.P) m = z at *
      have e3 : IntKind.i64.wrap z = z := wrapI64 z (by omega) (by omega)
      repeat (any_goals ((with_reducible refine idOQ ?_); (with_reducible refine oQ_of ⟨_, rfl⟩ (fun W0 hW0 => by (refine oM_gen (fun Kv hK => ?_)); simp [go_sem, e3]; (first | exact hK _ _ ⟨rfl, rfl⟩ | exact ⟨by omega, hK _ _ ⟨rfl, rfl⟩⟩)) ?_)))
      intro w' hw'
      exact k2 _ _ e0 hw'
    · have e0 : powerG g x n = 0 := by unfold powerG; rw [if_neg (fun h => hq h.2)]
      repeat (any_goals (first
      | (with_reducible ((refine idGd ?_); ((refine idGdN ?_); refine zO ?_)))
      | ((with_reducible refine idO ?_); (with_reducible refine oM_gen fun Kv hK=>?_); simp [go_sem, c0, c1, c2, hr]; refine hK _ _ ?_; clear hK; clear Kv)))
      refine valid_ok g.Q ?_
      repeat (any_goals (first
      | (with_reducible first|((refine idGd ?_); ((refine idGdN ?_); refine zO ?_))|((refine idPick ?_); refine yG ?_)|((refine idCond ?_); refine yQ ?_))
      | ((with_reducible refine idO ?_); (with_reducible refine oM_gen fun Kv hK=>?_); simp [go_sem, c0, c1, c2, hr]; refine hK _ _ ?_; clear hK; clear Kv)))
      exact k2 _ _ e0 hr
  · have e0 : powerG g x n = 0 := by unfold powerG; rw [if_neg (fun h => hp h.1)]
    repeat (any_goals (first
    | (with_reducible first|((refine idGd ?_); ((refine idGdN ?_); refine zP ?_))|((refine idPick ?_); refine yF ?_)|((refine idCond ?_); refine yL ?_))
    | ((with_reducible refine idO ?_); (with_reducible refine oM_gen fun Kv hK=>?_); simp [go_sem, c0, c1, c2, hr]; refine hK _ _ ?_; clear hK; clear Kv)))
    exact k2 _ _ e0 hr
theorem Times_ok (g : Grp) (x n : Int) (k : ∀ w', Below w.heap.size w w' → K (.int .i64 (timesG g x n)) w') : callM Tryd.prog 54 #[grpV g, .int .i64 x, .int .i64 n] K w := by
  apply sh_54_ok
  unfold sh_54
  refine box_grp g fun b W hW hb c0 c1 c2 => ?_
  have hr := Below.refl W.heap.size W
  have k2 : ∀ w' v, timesG g x n = v → Below W.heap.size W w' → K (.int .i64 v) w' := fun w' v e hb => by rw [← e]; exact k w' (hW.on hb)
  clear k
  repeat (any_goals ((with_reducible refine idO ?_); (with_reducible refine oM_gen fun Kv hK=>?_); simp [go_sem, c0, c1, c2, hr]; refine hK _ _ ?_; clear hK; clear Kv))
  refine valid_ok g.Q ?_
  by_cases hq : okN g.Q
  · repeat (any_goals (first
    | (with_reducible ((refine idCond ?_); refine yR ?_))
    | ((with_reducible refine idO ?_); (with_reducible refine oM_gen fun Kv hK=>?_); simp [go_sem, c0, c1, c2, hr]; refine hK _ _ ?_; clear hK; clear Kv)))
    refine Mul_ok g.P x n (fun w1 h1 => ?_)
    exact k2 _ _ (by unfold timesG; rw [if_pos hq]) h1
  · repeat (any_goals (first
    | (with_reducible ((refine idCond ?_); refine yQ ?_))
    | ((with_reducible refine idO ?_); (with_reducible refine oM_gen fun Kv hK=>?_); simp [go_sem, c0, c1, c2, hr]; refine hK _ _ ?_; clear hK; clear Kv)))
    exact k2 _ _ (by unfold timesG; rw [if_neg hq]) hr
end
end Go.Proofs
namespace Go.Proofs
open Go Go.Sh Go.RowKit FdSpec
set_option linter.unusedSimpArgs false
set_option linter.unusedVariables false
set_option maxRecDepth 10000
section
variable {K : Value → World → Prop} {w : World}
def PdJ (g : Grp) (R : Int) (ps : List (Int × Int)) (W : World) (l : List Value) (w' : World) : Prop := Below W.heap.size W w' ∧ ∃ (v u : Value) (o : Int) (i : Nat), l = [v, u, .int .i64 o, .int .i64 (i : Int)] ∧ i ≤ ps.length ∧ prodL g o (ps.drop i) = R
def pdMu (n : Nat) (l : List Value) (_ : World) : Nat := match l with | [_, _, _, .int _ i] => n - i.toNat | _ => 0
theorem pdMu_eq (n : Nat) (x y z : Value) (q : IntKind) (i : Int) (w : World) : pdMu n [x, y, z, .int q i] w = n - i.toNat := rfl
theorem zip_drop (a b : List Int) (i : Nat) (h1 : i < a.length) (h2 : i < b.length) : (a.zip b).drop i = (a[i], b[i]) :: (a.zip b).drop (i + 1) := by
  rw [List.drop_eq_getElem_cons (by rw [List.length_zip]; omega), List.getElem_zip]
@[go_sem] theorem oM_index_ints (T : TypeId) (b o n c : Nat) (x : Int) : oM Tryd.prog (.indexAddr 24 (.tmp 0) (.tmp 1)) T [.slice (some ⟨b, o, none⟩) n c, .int .i64 x] = onM (0 ≤ x ∧ x < n) (.pointer (some ⟨b, o + x.toNat, none⟩)) := by
  funext K w
  rw [oM_indexAddr, run_indexAt_slice (h := by kernel_rfl)]
  have hs : (sizeOf (Tryd.prog.elem 24)).run Tryd.prog w = .ok 1 w := by kernel_rfl
  by_cases hi : 0 ≤ x ∧ x < n
  · rw [if_pos hi, hs]
    simp only [Result.andThen, add_none, Nat.mul_one, rM_ok]
    exact propext ⟨fun h => ⟨hi, h⟩, fun h => h.2⟩
  · rw [if_neg hi]
    obtain ⟨e', w', he⟩ := halts Value Tryd.prog .i64 x n .index w
    rw [he]
    exact propext ⟨fun h => h.elim, fun h => hi h.1⟩
theorem Product_ok (g : Grp) {bv ev : Value} {bs es : List Int} (hbs : Ints w bv bs) (hes : Ints w ev es) (k : ∀ w', Below w.heap.size w w' → K (.tuple #[.int .i64 (prodG g bs es).1, .bool (prodG g bs es).2]) w') : callM Tryd.prog 9 #[grpV g, bv, ev] K w := by
  apply sh_9_ok
  unfold sh_9
  refine box_grp g fun b W hW hb c0 c1 c2 => ?_
  have hr := Below.refl W.heap.size W
  have k2 : ∀ w' v, prodG g bs es = v → Below W.heap.size W w' → K (.tuple #[.int .i64 v.1, .bool v.2]) w' := fun w' v e hb => by rw [← e]; exact k w' (hW.on hb)
  clear k
  obtain ⟨bad, bc, rfl⟩ := hbs.isSlice
  obtain ⟨ead, ec, rfl⟩ := hes.isSlice
  have hbs := hbs.next hW
  have hes := hes.next hW
  have l1 := hbs.len
  have l2 := hes.len
  repeat (any_goals ((with_reducible refine idO ?_); (with_reducible refine oM_gen fun Kv hK=>?_); simp [go_sem, c0, c1, c2, hr]; refine hK _ _ ?_; clear hK; clear Kv))
  refine valid_ok g.P ?_
  by_cases hp : okN g.P
  · by_cases hq : okN g.Q
    · repeat (any_goals (first
      | (with_reducible ((refine idGd ?_); ((refine idGdN ?_); refine zO ?_)))
      | ((with_reducible refine idO ?_); (with_reducible refine oM_gen fun Kv hK=>?_); simp [go_sem, c0, c1, c2, hr]; refine hK _ _ ?_; clear hK; clear Kv)))
      refine valid_ok g.Q ?_
      by_cases hl : bs.length = es.length
      · have e1 : (1 : Int).tmod g.P = 1 % g.P := Int.tmod_eq_emod_of_nonneg (by omega)
        have hp0 := hp.1
        have e0 : prodG g bs es = (prodL g (1 % g.P) (bs.zip es), true) := by unfold prodG; rw [if_pos ⟨hp, hq, hl⟩]
        have hzl : (bs.zip es).length = bs.length := by rw [List.length_zip]; omega
        repeat (any_goals (first
        | (with_reducible first|refine pureM_in ?_|((refine idGd ?_); ((refine idGdN ?_); refine zO ?_))|((refine idPick ?_); refine yG ?_)|((refine idCond ?_); refine yM ?_))
        | ((with_reducible refine idO ?_); (with_reducible refine oM_gen fun Kv hK=>?_); simp [go_sem, c0, c1, c2, hr, hl, e1]; (first|refine hK _ _ ?_|refine And.intro (by omega) (hK _ _ ?_)); clear hK; clear Kv)))
        refine ⟨PdJ g (prodL g (1 % g.P) (bs.zip es)) (bs.zip es) W, pdMu es.length, ⟨hr, _, _, _, 0, rfl, by omega, rfl⟩, ?_⟩
        generalize prodL g (1 % g.P) (bs.zip es) = R at *
        rintro _ _ w1 ⟨h1, v, u, o, i, rfl, hi, he⟩
        rw [hzl] at hi
        by_cases hin : i = es.length
        · rw [List.drop_of_length_le (by omega)] at he
          unfold prodL at he
          repeat (any_goals (first
          | (with_reducible ((refine idCond ?_); refine yO ?_))
          | ((with_reducible refine idO ?_); (with_reducible refine oM_gen fun Kv hK=>?_); simp [go_sem]; refine hK _ _ ?_; clear hK; clear Kv)))
          rw [he]
          exact k2 _ _ e0 h1
        · rw [zip_drop bs es i (by omega) (by omega)] at he
          unfold prodL at he
          obtain ⟨b1, o1, rfl, hb1, ca, ra, _⟩ := hbs.at (i := i) (by omega)
          obtain ⟨b2, o2, rfl, hb2, cb, rb, _⟩ := hes.at (i := i) (by omega)
          repeat (any_goals (first
          | (with_reducible ((refine idCond ?_); refine yN ?_))
          | ((with_reducible refine idO ?_); (with_reducible refine oM_gen fun Kv hK=>?_); simp [go_sem, ca _ h1, c0, h1]; (first|refine hK _ _ ?_|refine And.intro (by omega) (hK _ _ ?_)); clear hK; clear Kv)))
          refine ⟨Below W.heap.size W, h1.trans .drawn, ?_⟩
          repeat (any_goals ((with_reducible refine idOQ ?_); (with_reducible refine oQ_of ⟨_, rfl⟩ (fun W0 hW0 => by (refine oM_gen (fun Kv hK => ?_)); simp [go_sem, c0 _ hW0, c1 _ hW0, c2 _ hW0, cb _ hW0]; (first | exact hK _ _ ⟨rfl, rfl⟩ | exact ⟨by omega, hK _ _ ⟨rfl, rfl⟩⟩)) ?_)))
          refine callQ_of (fun W0 hW0 => Power_ok g _ _ (fun w' hw' => ⟨rfl, hW0.on hw'⟩)) ?_
          refine callQ_of (fun W0 hW0 => Mul_ok _ _ _ (fun w' hw' => ⟨rfl, hW0.on hw'⟩)) ?_
          intro w2 h2
          repeat (any_goals ((with_reducible refine idO ?_); (with_reducible refine oM_gen fun Kv hK=>?_); simp [go_sem]; (try simp (disch := omega) only [wrapI64, wrapU8, wrapU32, wrapU64]); refine hK _ _ ?_; clear hK; clear Kv))
          refine ⟨⟨h2, _, _, _, i + 1, rfl, by rw [hzl]; omega, he⟩, ?_⟩
          simp only [pdMu_eq]; omega
      · have e0 : prodG g bs es = (0, false) := by unfold prodG; rw [if_neg (fun h => hl h.2.2)]
        have hl' : ¬ (bs.length : Int) = es.length := by omega
        repeat (any_goals (first
        | (with_reducible first|refine pureM_in ?_|((refine idGd ?_); ((refine idGdN ?_); refine zO ?_))|((refine idPick ?_); refine yG ?_)|((refine idCond ?_); refine yL ?_))
        | ((with_reducible refine idO ?_); (with_reducible refine oM_gen fun Kv hK=>?_); simp [go_sem, c0, c1, c2, hr, hl']; refine hK _ _ ?_; clear hK; clear Kv)))
        exact k2 _ _ e0 hr
    · have e0 : prodG g bs es = (0, false) := by unfold prodG; rw [if_neg (fun h => hq h.2.1)]
      repeat (any_goals (first
      | (with_reducible ((refine idGd ?_); ((refine idGdN ?_); refine zO ?_)))
      | ((with_reducible refine idO ?_); (with_reducible refine oM_gen fun Kv hK=>?_); simp [go_sem, c0, c1, c2, hr]; refine hK _ _ ?_; clear hK; clear Kv)))
      refine valid_ok g.Q ?_
      repeat (any_goals (first
      | (with_reducible first|((refine idGd ?_); ((refine idGdN ?_); first|refine zO ?_|refine zP ?_))|((refine idPick ?_); first|refine yF ?_|refine yG ?_)|((refine idCond ?_); refine yL ?_))
      | ((with_reducible refine idO ?_); (with_reducible refine oM_gen fun Kv hK=>?_); simp [go_sem, c0, c1, c2, hr]; refine hK _ _ ?_; clear hK; clear Kv)))
      exact k2 _ _ e0 hr
  · have e0 : prodG g bs es = (0, false) := by unfold prodG; rw [if_neg (fun h => hp h.1)]
    repeat (any_goals (first
    | (with_reducible first|((refine idGd ?_); first|refine zD ?_|((refine idGdN ?_); refine zP ?_))|((refine idPick ?_); first|refine yB ?_|refine yF ?_)|((refine idCond ?_); refine yL ?_))
    | ((with_reducible refine idO ?_); (with_reducible refine oM_gen fun Kv hK=>?_); simp [go_sem, c0, c1, c2, hr]; refine hK _ _ ?_; clear hK; clear Kv)))
    exact k2 _ _ e0 hr
end
end Go.Proofs
set_option linter.unusedVariables false
set_option maxRecDepth 100000
namespace Go.Proofs
open Go.Sh
def sh_22 (a0 : Value) (a1 : Value) (a2 : Value) (a3 : Value) (K : Value → World → Prop) (w : World) : Prop :=
 oM Tryd.prog (.box 26 (.tmp 0)) 0 [a0] (fun v4_1 w =>
 oM Tryd.prog (.box 47 (.tmp 0)) 0 [a2] (fun v6_2 w =>
 oM Tryd.prog (.alloc 30) 0 [] (fun v8_3 w =>
 oM Tryd.prog (.load 26 (.tmp 0)) 26 [v4_1] (fun v17_4 w =>
 callM Tryd.prog 43 #[v17_4, a1] (fun v19_5 w =>
 oM Tryd.prog (.extract (.tmp 0) 0) 67 [v19_5] (fun v20_6 w =>
 oM Tryd.prog (.extract (.tmp 0) 1) 3 [v19_5] (fun v21_7 w =>
 oM Tryd.prog (.extract (.tmp 0) 2) 4 [v19_5] (fun v22_8 w =>
 oM Tryd.prog (.alloc 67) 0 [] (fun v10_9 w =>
 oM Tryd.prog (.store 67 (.tmp 0) (.tmp 1)) 0 [v10_9, v20_6] (fun _ w =>
 oM Tryd.prog (.unOp .not 4 (.tmp 0)) 4 [v22_8] (fun v24_10 w =>
 gdM (gd v24_10 false) (oM Tryd.prog (.load 67 (.tmp 0)) 67 [v10_9]) (fun v26_11 w =>
 gdM (gd v24_10 false) (oM Tryd.prog (.load 47 (.tmp 0)) 47 [v6_2]) (fun v27_12 w =>
 gdM (gd v24_10 false) (callM Tryd.prog 45 #[v26_11, v27_12]) (fun v28_13 w =>
 gdM (gd v24_10 false) (oM Tryd.prog (.unOp .not 4 (.tmp 0)) 4 [v28_13]) (fun v29_14 w =>
 oM Tryd.prog (.pick (.tmp 0) (.tmp 1) (.tmp 2)) 4 [v24_10, (.bool true), v29_14] (fun v30_15 w =>
 gdM (gd v30_15 false) (oM Tryd.prog (.load 67 (.tmp 0)) 67 [v10_9]) (fun v32_16 w =>
 gdM (gd v30_15 false) (pureM a3) (fun v33_17 w =>
 gdM (gd v30_15 false) (oM Tryd.prog (.buildSlice 24 1 #[(0, (.tmp 0))]) 24 [v33_17]) (fun v34_18 w =>
 gdM (gd v30_15 false) (callM Tryd.prog 30 #[v32_16, (.int .i64 1), v34_18]) (fun v35_19 w =>
 gdM (gd v30_15 false) (oM Tryd.prog (.unOp .not 4 (.tmp 0)) 4 [v35_19]) (fun v36_20 w =>
 oM Tryd.prog (.pick (.tmp 0) (.tmp 1) (.tmp 2)) 4 [v30_15, (.bool true), v36_20] (fun v37_21 w =>
 condM v37_21
 (oM Tryd.prog (.build 30 #[]) 30 [] (fun v38_22 w =>
 oM Tryd.prog (.store 30 (.tmp 0) (.tmp 1)) 0 [v8_3, v38_22] (fun _ w =>
 ∃ r_23, (do loadVar 30 (← asAddr v8_3) : Sem Value).run Tryd.prog w = .ok r_23 w ∧ K (.tuple #[r_23, (.bool false)]) w) w) w)
 (oM Tryd.prog (.build 30 #[(0, (.tmp 0))]) 30 [a3] (fun v40_24 w =>
 oM Tryd.prog (.alloc 30) 0 [] (fun v13_25 w =>
 oM Tryd.prog (.store 30 (.tmp 0) (.tmp 1)) 0 [v13_25, v40_24] (fun _ w =>
 callM Tryd.prog 46 #[a1] (fun v42_26 w =>
 oM Tryd.prog (.call (Go.Call.mk (.builtin .len) #[(.tmp 0)] #[24])) 3 [v42_26] (fun v43_27 w =>
 loopM [undef, undef, (.int .i64 0)] w (fun J_28 m_29 l_30 u_l_30 w0_l_30 => (fun w => (
 oM Tryd.prog (.binOp .lss 3 (.tmp 0) (.tmp 1) 3) 0 [(l_30.getD 2 undef), v43_27] (fun v45_31 w =>
 condM v45_31
 (oM Tryd.prog (.indexAddr 24 (.tmp 0) (.tmp 1)) 0 [v42_26, (l_30.getD 2 undef)] (fun v47_32 w =>
 oM Tryd.prog (.load 3 (.tmp 0)) 3 [v47_32] (fun v48_33 w =>
 stageM w (fun C_34 w => (oH Tryd.prog (.fieldAddr 30 (.tmp 0) 1) 0 [v13_25] (upto C_34 4) (fun v49_35 =>
 oH Tryd.prog (.load 24 (.tmp 0)) 24 [v49_35] (upto C_34 4) (fun v50_36 =>
 oH Tryd.prog (.load 67 (.tmp 0)) 67 [v10_9] (upto C_34 2) (fun v51_37 =>
 oH Tryd.prog (.fieldAddr 47 (.tmp 0) 3) 0 [v6_2] (upto C_34 2) (fun v52_38 =>
 oH Tryd.prog (.load 24 (.tmp 0)) 24 [v52_38] (upto C_34 2) (fun v53_39 =>
 pureH (l_30.getD 2 undef) (upto C_34 2) (fun v54_40 =>
 oH Tryd.prog (.indexAddr 24 (.tmp 0) (.tmp 1)) 0 [v53_39, v54_40] (upto C_34 2) (fun v55_41 =>
 oH Tryd.prog (.load 3 (.tmp 0)) 3 [v55_41] (upto C_34 2) (fun v56_42 =>
 oH Tryd.prog (.load 67 (.tmp 0)) 67 [v10_9] (upto C_34 1) (fun v57_43 =>
 pureH a3 (upto C_34 1) (fun v58_44 =>
 oH Tryd.prog (.fieldAddr 47 (.tmp 0) 0) 0 [v6_2] (upto C_34 0) (fun v59_45 =>
 oH Tryd.prog (.load 3 (.tmp 0)) 3 [v59_45] (upto C_34 0) (fun v60_46 =>
 pureH v48_33 (upto C_34 0) (fun v61_47 =>
 oM Tryd.prog (.buildSlice 24 2 #[(0, (.tmp 0)), (1, (.tmp 1))]) 24 [v60_46, v61_47] (fun v62_48 w => C_34 1 w ∧ (
 callM Tryd.prog 39 #[v57_43, v58_44, v62_48] (fun v63_49 w => C_34 2 w ∧ (
 callM Tryd.prog 47 #[v51_37, v56_42, v63_49] (fun v64_50 w => C_34 3 w ∧ (
 oM Tryd.prog (.buildSlice 24 1 #[(0, (.tmp 0))]) 24 [v64_50] (fun v65_51 w => C_34 4 w ∧ (
 oM Tryd.prog (.call (Go.Call.mk (.builtin .append) #[(.tmp 0), (.tmp 1)] #[24, 24])) 24 [v50_36, v65_51] (fun v66_52 w => C_34 5 w ∧ (
 oM Tryd.prog (.fieldAddr 30 (.tmp 0) 1) 0 [v13_25] (fun v67_53 w => C_34 6 w ∧ (
 oM Tryd.prog (.store 24 (.tmp 0) (.tmp 1)) 0 [v67_53, v66_52] (fun _ w => C_34 7 w ∧ (
 oM Tryd.prog (.binOp .add 3 (.tmp 0) (.tmp 1) 3) 3 [(l_30.getD 2 undef), (.int .i64 1)] (fun v68_54 w =>
 J_28 [(l_30.getD 2 undef), v48_33, v68_54] w ∧ m_29 [(l_30.getD 2 undef), v48_33, v68_54] w < m_29 l_30 w0_l_30) w)) w)) w)) w)) w)) w)) w)) w)))))))))))))))) w) w)
 (oM Tryd.prog (.load 30 (.tmp 0)) 30 [v13_25] (fun v69_55 w =>
 oM Tryd.prog (.store 30 (.tmp 0) (.tmp 1)) 0 [v8_3, v69_55] (fun _ w =>
 ∃ r_56, (do loadVar 30 (← asAddr v8_3) : Sem Value).run Tryd.prog w = .ok r_56 w ∧ K (.tuple #[r_56, (.bool true)]) w) w) w)) w)) w0_l_30)) w) w) w) w) w)) w) w) w) w) w) w) w) w) w) w) w) w) w) w) w) w) w) w) w) w) w) w
theorem sh_22_eq (a0 : Value) (a1 : Value) (a2 : Value) (a3 : Value) (K : Value → World → Prop) (w : World) : sh_22 a0 a1 a2 a3 K w = code Tryd.prog (fun _ => 3) 70 (Tryd.f22.body.getD .skip) (slotsAt [a0, a1, a2, a3]) (retK Tryd.prog [.cell 8 30, .tmp 9] K) w := by kernel_rfl
theorem sh_22_ok {a0 a1 a2 a3 : Value} {K : Value → World → Prop} {w : World} (h : sh_22 a0 a1 a2 a3 K w) : callM Tryd.prog 22 #[a0, a1, a2, a3] K w :=
  calls_of_code (fun _ => 3) (fn := Tryd.f22) (rs := [.cell 8 30, .tmp 9]) Tryd.func22 rfl rfl (by kernel_rfl) (Nat.le_of_ble_eq_true rfl) ((sh_22_eq a0 a1 a2 a3 K w).mp h)
def sh_21 (a0 : Value) (a1 : Value) (a2 : Value) (a3 : Value) (K : Value → World → Prop) (w : World) : Prop :=
 oM Tryd.prog (.box 26 (.tmp 0)) 0 [a0] (fun v4_1 w =>
 oM Tryd.prog (.alloc 56) 0 [] (fun v8_2 w =>
 oM Tryd.prog (.load 26 (.tmp 0)) 26 [v4_1] (fun v14_3 w =>
 callM Tryd.prog 43 #[v14_3, a2] (fun v16_4 w =>
 oM Tryd.prog (.extract (.tmp 0) 0) 67 [v16_4] (fun v17_5 w =>
 oM Tryd.prog (.extract (.tmp 0) 1) 3 [v16_4] (fun v18_6 w =>
 oM Tryd.prog (.extract (.tmp 0) 2) 4 [v16_4] (fun v19_7 w =>
 oM Tryd.prog (.alloc 67) 0 [] (fun v10_8 w =>
 oM Tryd.prog (.store 67 (.tmp 0) (.tmp 1)) 0 [v10_8, v17_5] (fun _ w =>
 oM Tryd.prog (.unOp .not 4 (.tmp 0)) 4 [v19_7] (fun v21_9 w =>
 gdM (gd v21_9 false) (oM Tryd.prog (.load 67 (.tmp 0)) 67 [v10_8]) (fun v23_10 w =>
 gdM (gd v21_9 false) (pureM a1) (fun v24_11 w =>
 gdM (gd v21_9 false) (oM Tryd.prog (.buildSlice 24 1 #[(0, (.tmp 0))]) 24 [v24_11]) (fun v25_12 w =>
 gdM (gd v21_9 false) (callM Tryd.prog 30 #[v23_10, (.int .i64 1), v25_12]) (fun v26_13 w =>
 gdM (gd v21_9 false) (oM Tryd.prog (.unOp .not 4 (.tmp 0)) 4 [v26_13]) (fun v27_14 w =>
 oM Tryd.prog (.pick (.tmp 0) (.tmp 1) (.tmp 2)) 4 [v21_9, (.bool true), v27_14] (fun v28_15 w =>
 gdM (gd v28_15 false) (oM Tryd.prog (.load 67 (.tmp 0)) 67 [v10_8]) (fun v30_16 w =>
 gdM (gd v28_15 false) (pureM a3) (fun v31_17 w =>
 gdM (gd v28_15 false) (oM Tryd.prog (.buildSlice 24 1 #[(0, (.tmp 0))]) 24 [v31_17]) (fun v32_18 w =>
 gdM (gd v28_15 false) (callM Tryd.prog 30 #[v30_16, (.int .i64 0), v32_18]) (fun v33_19 w =>
 gdM (gd v28_15 false) (oM Tryd.prog (.unOp .not 4 (.tmp 0)) 4 [v33_19]) (fun v34_20 w =>
 oM Tryd.prog (.pick (.tmp 0) (.tmp 1) (.tmp 2)) 4 [v28_15, (.bool true), v34_20] (fun v35_21 w =>
 condM v35_21
 (oM Tryd.prog (.build 56 #[]) 56 [] (fun v36_22 w =>
 oM Tryd.prog (.store 56 (.tmp 0) (.tmp 1)) 0 [v8_2, v36_22] (fun _ w =>
 ∃ r_23, (do loadVar 56 (← asAddr v8_2) : Sem Value).run Tryd.prog w = .ok r_23 w ∧ K (.tuple #[r_23, (.int .i64 1)]) w) w) w)
 (heldM w (fun C_24 w => (oH Tryd.prog (.load 67 (.tmp 0)) 67 [v10_8] C_24 (fun v37_25 =>
 pureH v18_6 C_24 (fun v38_26 =>
 pureH a1 C_24 (fun v39_27 =>
 oH Tryd.prog (.load 67 (.tmp 0)) 67 [v10_8] C_24 (fun v41_28 =>
 pureH a3 C_24 (fun v42_29 =>
 oH Tryd.prog (.load 67 (.tmp 0)) 67 [v10_8] C_24 (fun v44_30 =>
 pureH v18_6 C_24 (fun v45_31 =>
 pureH a3 C_24 (fun v46_32 =>
 callM Tryd.prog 33 #[v37_25, v38_26, v39_27] (fun v40_33 w => C_24 w ∧ (
 callM Tryd.prog 44 #[v41_28, v42_29] (fun v43_34 w => C_24 w ∧ (
 callM Tryd.prog 33 #[v44_30, v45_31, v46_32] (fun v47_35 w => C_24 w ∧ (
 oM Tryd.prog (.build 56 #[(0, (.tmp 0)), (1, (.tmp 1)), (2, (.tmp 2))]) 56 [v40_33, v43_34, v47_35] (fun v48_36 w => C_24 w ∧ (
 oM Tryd.prog (.store 56 (.tmp 0) (.tmp 1)) 0 [v8_2, v48_36] (fun _ w => C_24 w ∧ (
 C_24 w ∧ (∃ r_38, (do loadVar 56 (← asAddr v8_2) : Sem Value).run Tryd.prog w = .ok r_38 w ∧ K (.tuple #[r_38, (.int .i64 0)]) w))) w)) w)) w)) w)) w)))))))))))) w) w) w) w) w) w) w) w) w) w) w) w) w) w) w) w) w) w) w) w) w) w
theorem sh_21_eq (a0 : Value) (a1 : Value) (a2 : Value) (a3 : Value) (K : Value → World → Prop) (w : World) : sh_21 a0 a1 a2 a3 K w = code Tryd.prog (fun _ => 2) 49 (Tryd.f21.body.getD .skip) (slotsAt [a0, a1, a2, a3]) (retK Tryd.prog [.cell 8 56, .tmp 9] K) w := by kernel_rfl
theorem sh_21_ok {a0 a1 a2 a3 : Value} {K : Value → World → Prop} {w : World} (h : sh_21 a0 a1 a2 a3 K w) : callM Tryd.prog 21 #[a0, a1, a2, a3] K w :=
  calls_of_code (fun _ => 2) (fn := Tryd.f21) (rs := [.cell 8 56, .tmp 9]) Tryd.func21 rfl rfl (by kernel_rfl) (Nat.le_of_ble_eq_true rfl) ((sh_21_eq a0 a1 a2 a3 K w).mp h)
def sh_25 (a0 : Value) (a1 : Value) (a2 : Value) (a3 : Value) (K : Value → World → Prop) (w : World) : Prop :=
 oM Tryd.prog (.box 26 (.tmp 0)) 0 [a0] (fun v4_1 w =>
 oM Tryd.prog (.load 26 (.tmp 0)) 26 [v4_1] (fun v12_2 w =>
 callM Tryd.prog 48 #[v12_2] (fun v13_3 w =>
 oM Tryd.prog (.extract (.tmp 0) 0) 67 [v13_3] (fun v14_4 w =>
 oM Tryd.prog (.extract (.tmp 0) 1) 4 [v13_3] (fun v15_5 w =>
 oM Tryd.prog (.alloc 67) 0 [] (fun v9_6 w =>
 oM Tryd.prog (.store 67 (.tmp 0) (.tmp 1)) 0 [v9_6, v14_4] (fun _ w =>
 gdM (gd v15_5 true) (oM Tryd.prog (.load 67 (.tmp 0)) 67 [v9_6]) (fun v18_7 w =>
 gdM (gd v15_5 true) (pureM a1) (fun v19_8 w =>
 gdM (gd v15_5 true) (oM Tryd.prog (.buildSlice 24 1 #[(0, (.tmp 0))]) 24 [v19_8]) (fun v20_9 w =>
 gdM (gd v15_5 true) (callM Tryd.prog 30 #[v18_7, (.int .i64 1), v20_9]) (fun v21_10 w =>
 oM Tryd.prog (.pick (.tmp 0) (.tmp 1) (.tmp 2)) 4 [v15_5, v21_10, (.bool false)] (fun v22_11 w =>
 gdM (gd v22_11 true) (oM Tryd.prog (.load 67 (.tmp 0)) 67 [v9_6]) (fun v24_12 w =>
 gdM (gd v22_11 true) (pureM a2) (fun v25_13 w =>
 gdM (gd v22_11 true) (pureM a3) (fun v26_14 w =>
 gdM (gd v22_11 true) (oM Tryd.prog (.buildSlice 24 2 #[(0, (.tmp 0)), (1, (.tmp 1))]) 24 [v25_13, v26_14]) (fun v27_15 w =>
 gdM (gd v22_11 true) (callM Tryd.prog 30 #[v24_12, (.int .i64 0), v27_15]) (fun v28_16 w =>
 oM Tryd.prog (.pick (.tmp 0) (.tmp 1) (.tmp 2)) 4 [v22_11, v28_16, (.bool false)] (fun v29_17 w =>
 condM v29_17
 (heldM w (fun C_18 w => (oH Tryd.prog (.load 67 (.tmp 0)) 67 [v9_6] C_18 (fun v30_19 =>
 oH Tryd.prog (.load 67 (.tmp 0)) 67 [v9_6] C_18 (fun v31_20 =>
 pureH a3 C_18 (fun v32_21 =>
 pureH a1 C_18 (fun v33_22 =>
 pureH a2 C_18 (fun v36_23 =>
 oM Tryd.prog (.buildSlice 24 1 #[(0, (.tmp 0))]) 24 [v33_22] (fun v34_24 w => C_18 w ∧ (
 callM Tryd.prog 39 #[v31_20, v32_21, v34_24] (fun v35_25 w => C_18 w ∧ (
 callM Tryd.prog 47 #[v30_19, v35_25, v36_23] (fun v37_26 w => C_18 w ∧ (
 C_18 w ∧ (K v37_26 w))) w)) w)) w))))))))
 (K (.int .i64 0) w)) w) w) w) w) w) w) w) w) w) w) w) w) w) w) w) w) w) w
theorem sh_25_eq (a0 : Value) (a1 : Value) (a2 : Value) (a3 : Value) (K : Value → World → Prop) (w : World) : sh_25 a0 a1 a2 a3 K w = code Tryd.prog (fun _ => 2) 38 (Tryd.f25.body.getD .skip) (slotsAt [a0, a1, a2, a3]) (retK Tryd.prog [.tmp 8] K) w := by kernel_rfl
theorem sh_25_ok {a0 a1 a2 a3 : Value} {K : Value → World → Prop} {w : World} (h : sh_25 a0 a1 a2 a3 K w) : callM Tryd.prog 25 #[a0, a1, a2, a3] K w :=
  calls_of_code (fun _ => 2) (fn := Tryd.f25) (rs := [.tmp 8]) Tryd.func25 rfl rfl (by kernel_rfl) (Nat.le_of_ble_eq_true rfl) ((sh_25_eq a0 a1 a2 a3 K w).mp h)
def sh_24 (a0 : Value) (a1 : Value) (K : Value → World → Prop) (w : World) : Prop :=
 oM Tryd.prog (.box 26 (.tmp 0)) 0 [a0] (fun v2_1 w =>
 oM Tryd.prog (.load 26 (.tmp 0)) 26 [v2_1] (fun v8_2 w =>
 callM Tryd.prog 48 #[v8_2] (fun v9_3 w =>
 oM Tryd.prog (.extract (.tmp 0) 0) 67 [v9_3] (fun v10_4 w =>
 oM Tryd.prog (.extract (.tmp 0) 1) 4 [v9_3] (fun v11_5 w =>
 oM Tryd.prog (.alloc 67) 0 [] (fun v5_6 w =>
 oM Tryd.prog (.store 67 (.tmp 0) (.tmp 1)) 0 [v5_6, v10_4] (fun _ w =>
 gdM (gd v11_5 true) (oM Tryd.prog (.load 67 (.tmp 0)) 67 [v5_6]) (fun v14_7 w =>
 gdM (gd v11_5 true) (pureM a1) (fun v15_8 w =>
 gdM (gd v11_5 true) (oM Tryd.prog (.buildSlice 24 1 #[(0, (.tmp 0))]) 24 [v15_8]) (fun v16_9 w =>
 gdM (gd v11_5 true) (callM Tryd.prog 30 #[v14_7, (.int .i64 1), v16_9]) (fun v17_10 w =>
 oM Tryd.prog (.pick (.tmp 0) (.tmp 1) (.tmp 2)) 4 [v11_5, v17_10, (.bool false)] (fun v18_11 w =>
 condM v18_11
 (oM Tryd.prog (.load 67 (.tmp 0)) 67 [v5_6] (fun v19_12 w =>
 callM Tryd.prog 44 #[v19_12, a1] (fun v21_13 w =>
 K v21_13 w) w) w)
 (K (.int .i64 0) w)) w) w) w) w) w) w) w) w) w) w) w) w
theorem sh_24_eq (a0 : Value) (a1 : Value) (K : Value → World → Prop) (w : World) : sh_24 a0 a1 K w = code Tryd.prog (fun _ => 2) 22 (Tryd.f24.body.getD .skip) (slotsAt [a0, a1]) (retK Tryd.prog [.tmp 4] K) w := by kernel_rfl
theorem sh_24_ok {a0 a1 : Value} {K : Value → World → Prop} {w : World} (h : sh_24 a0 a1 K w) : callM Tryd.prog 24 #[a0, a1] K w :=
  calls_of_code (fun _ => 2) (fn := Tryd.f24) (rs := [.tmp 4]) Tryd.func24 rfl rfl (by kernel_rfl) (Nat.le_of_ble_eq_true rfl) ((sh_24_eq a0 a1 K w).mp h)
def sh_18 (a0 : Value) (a1 : Value) (K : Value → World → Prop) (w : World) : Prop :=
 oM Tryd.prog (.box 26 (.tmp 0)) 0 [a0] (fun v2_1 w =>
 oM Tryd.prog (.load 26 (.tmp 0)) 26 [v2_1] (fun v9_2 w =>
 callM Tryd.prog 42 #[v9_2, a1] (fun v11_3 w =>
 oM Tryd.prog (.extract (.tmp 0) 0) 67 [v11_3] (fun v12_4 w =>
 oM Tryd.prog (.extract (.tmp 0) 1) 3 [v11_3] (fun v13_5 w =>
 oM Tryd.prog (.extract (.tmp 0) 2) 4 [v11_3] (fun v14_6 w =>
 oM Tryd.prog (.alloc 67) 0 [] (fun v5_7 w =>
 oM Tryd.prog (.store 67 (.tmp 0) (.tmp 1)) 0 [v5_7, v12_4] (fun _ w =>
 K v13_5 w) w) w) w) w) w) w) w) w
theorem sh_18_eq (a0 : Value) (a1 : Value) (K : Value → World → Prop) (w : World) : sh_18 a0 a1 K w = code Tryd.prog (fun _ => 0) 16 (Tryd.f18.body.getD .skip) (slotsAt [a0, a1]) (retK Tryd.prog [.tmp 4] K) w := by kernel_rfl
theorem sh_18_ok {a0 a1 : Value} {K : Value → World → Prop} {w : World} (h : sh_18 a0 a1 K w) : callM Tryd.prog 18 #[a0, a1] K w :=
  calls_of_code (fun _ => 0) (fn := Tryd.f18) (rs := [.tmp 4]) Tryd.func18 rfl rfl (by kernel_rfl) (Nat.le_of_ble_eq_true rfl) ((sh_18_eq a0 a1 K w).mp h)
def sh_19 (a0 : Value) (a1 : Value) (K : Value → World → Prop) (w : World) : Prop :=
 oM Tryd.prog (.box 26 (.tmp 0)) 0 [a0] (fun v2_1 w =>
 oM Tryd.prog (.load 26 (.tmp 0)) 26 [v2_1] (fun v9_2 w =>
 callM Tryd.prog 43 #[v9_2, a1] (fun v11_3 w =>
 oM Tryd.prog (.extract (.tmp 0) 0) 67 [v11_3] (fun v12_4 w =>
 oM Tryd.prog (.extract (.tmp 0) 1) 3 [v11_3] (fun v13_5 w =>
 oM Tryd.prog (.extract (.tmp 0) 2) 4 [v11_3] (fun v14_6 w =>
 oM Tryd.prog (.alloc 67) 0 [] (fun v5_7 w =>
 oM Tryd.prog (.store 67 (.tmp 0) (.tmp 1)) 0 [v5_7, v12_4] (fun _ w =>
 K v14_6 w) w) w) w) w) w) w) w) w
theorem sh_19_eq (a0 : Value) (a1 : Value) (K : Value → World → Prop) (w : World) : sh_19 a0 a1 K w = code Tryd.prog (fun _ => 0) 16 (Tryd.f19.body.getD .skip) (slotsAt [a0, a1]) (retK Tryd.prog [.tmp 4] K) w := by kernel_rfl
theorem sh_19_ok {a0 a1 : Value} {K : Value → World → Prop} {w : World} (h : sh_19 a0 a1 K w) : callM Tryd.prog 19 #[a0, a1] K w :=
  calls_of_code (fun _ => 0) (fn := Tryd.f19) (rs := [.tmp 4]) Tryd.func19 rfl rfl (by kernel_rfl) (Nat.le_of_ble_eq_true rfl) ((sh_19_eq a0 a1 K w).mp h)
def sh_7 (a0 : Value) (a1 : Value) (a2 : Value) (a3 : Value) (K : Value → World → Prop) (w : World) : Prop :=
 oM Tryd.prog (.box 26 (.tmp 0)) 0 [a0] (fun v4_1 w =>
 oM Tryd.prog (.box 28 (.tmp 0)) 0 [a1] (fun v5_2 w =>
 oM Tryd.prog (.box 30 (.tmp 0)) 0 [a2] (fun v6_3 w =>
 oM Tryd.prog (.box 30 (.tmp 0)) 0 [a3] (fun v7_4 w =>
 oM Tryd.prog (.load 26 (.tmp 0)) 26 [v4_1] (fun v17_5 w =>
 oM Tryd.prog (.load 28 (.tmp 0)) 28 [v5_2] (fun v18_6 w =>
 oM Tryd.prog (.load 30 (.tmp 0)) 30 [v6_3] (fun v19_7 w =>
 oM Tryd.prog (.load 30 (.tmp 0)) 30 [v7_4] (fun v20_8 w =>
 callM Tryd.prog 27 #[v17_5, v18_6, v19_7, v20_8] (fun v21_9 w =>
 oM Tryd.prog (.extract (.tmp 0) 0) 67 [v21_9] (fun v22_10 w =>
 oM Tryd.prog (.extract (.tmp 0) 1) 24 [v21_9] (fun v23_11 w =>
 oM Tryd.prog (.extract (.tmp 0) 2) 4 [v21_9] (fun v24_12 w =>
 oM Tryd.prog (.alloc 67) 0 [] (fun v10_13 w =>
 oM Tryd.prog (.store 67 (.tmp 0) (.tmp 1)) 0 [v10_13, v22_10] (fun _ w =>
 oM Tryd.prog (.unOp .not 4 (.tmp 0)) 4 [v24_12] (fun v26_14 w =>
 condM v26_14
 (K (.tuple #[(.slice none 0 0), (.bool false)]) w)
 (oM Tryd.prog (.slice 24 (.tmp 0) (some (.tmp 1)) none none) 24 [v23_11, (.int .i64 1)] (fun v28_15 w =>
 oM Tryd.prog (.call (Go.Call.mk (.builtin .len) #[(.tmp 0)] #[24])) 3 [v28_15] (fun v29_16 w =>
 loopM [undef, (.slice none 0 0), (.int .i64 0)] w (fun J_17 m_18 l_19 u_l_19 w0_l_19 => (fun w => (
 oM Tryd.prog (.binOp .lss 3 (.tmp 0) (.tmp 1) 3) 0 [(l_19.getD 2 undef), v29_16] (fun v31_20 w =>
 condM v31_20
 (oM Tryd.prog (.indexAddr 24 (.tmp 0) (.tmp 1)) 0 [v28_15, (l_19.getD 2 undef)] (fun v32_21 w =>
 oM Tryd.prog (.load 3 (.tmp 0)) 3 [v32_21] (fun v33_22 w =>
 heldM w (fun C_23 w => (pureH (l_19.getD 1 undef) C_23 (fun v34_24 =>
 oH Tryd.prog (.load 67 (.tmp 0)) 67 [v10_13] C_23 (fun v35_25 =>
 pureH v33_22 C_23 (fun v36_26 =>
 pureH v23_11 C_23 (fun v37_27 =>
 oH Tryd.prog (.indexAddr 24 (.tmp 0) (.tmp 1)) 0 [v37_27, (.int .i64 0)] C_23 (fun v38_28 =>
 oH Tryd.prog (.load 3 (.tmp 0)) 3 [v38_28] C_23 (fun v39_29 =>
 callM Tryd.prog 28 #[v35_25, v36_26, v39_29] (fun v40_30 w => C_23 w ∧ (
 oM Tryd.prog (.buildSlice 24 1 #[(0, (.tmp 0))]) 24 [v40_30] (fun v41_31 w => C_23 w ∧ (
 oM Tryd.prog (.call (Go.Call.mk (.builtin .append) #[(.tmp 0), (.tmp 1)] #[24, 24])) 24 [v34_24, v41_31] (fun v42_32 w => C_23 w ∧ (
 C_23 w ∧ (oM Tryd.prog (.binOp .add 3 (.tmp 0) (.tmp 1) 3) 3 [(l_19.getD 2 undef), (.int .i64 1)] (fun v43_34 w =>
 J_17 [v33_22, v42_32, v43_34] w ∧ m_18 [v33_22, v42_32, v43_34] w < m_18 l_19 w0_l_19) w))) w)) w)) w))))))))) w) w)
 (K (.tuple #[(l_19.getD 1 undef), (.bool true)]) w)) w)) w0_l_19)) w) w)) w) w) w) w) w) w) w) w) w) w) w) w) w) w) w
theorem sh_7_eq (a0 : Value) (a1 : Value) (a2 : Value) (a3 : Value) (K : Value → World → Prop) (w : World) : sh_7 a0 a1 a2 a3 K w = code Tryd.prog (fun _ => 2) 45 (Tryd.f7.body.getD .skip) (slotsAt [a0, a1, a2, a3]) (retK Tryd.prog [.tmp 8, .tmp 9] K) w := by kernel_rfl
theorem sh_7_ok {a0 a1 a2 a3 : Value} {K : Value → World → Prop} {w : World} (h : sh_7 a0 a1 a2 a3 K w) : callM Tryd.prog 7 #[a0, a1, a2, a3] K w :=
  calls_of_code (fun _ => 2) (fn := Tryd.f7) (rs := [.tmp 8, .tmp 9]) Tryd.func7 rfl rfl (by kernel_rfl) (Nat.le_of_ble_eq_true rfl) ((sh_7_eq a0 a1 a2 a3 K w).mp h)
def sh_8 (a0 : Value) (a1 : Value) (a2 : Value) (K : Value → World → Prop) (w : World) : Prop :=
 oM Tryd.prog (.box 26 (.tmp 0)) 0 [a0] (fun v3_1 w =>
 oM Tryd.prog (.box 28 (.tmp 0)) 0 [a1] (fun v4_2 w =>
 oM Tryd.prog (.box 30 (.tmp 0)) 0 [a2] (fun v5_3 w =>
 oM Tryd.prog (.load 26 (.tmp 0)) 26 [v3_1] (fun v10_4 w =>
 oM Tryd.prog (.load 28 (.tmp 0)) 28 [v4_2] (fun v11_5 w =>
 callM Tryd.prog 29 #[v10_4, v11_5] (fun v12_6 w =>
 oM Tryd.prog (.extract (.tmp 0) 0) 67 [v12_6] (fun v13_7 w =>
 oM Tryd.prog (.extract (.tmp 0) 1) 4 [v12_6] (fun v14_8 w =>
 oM Tryd.prog (.alloc 67) 0 [] (fun v7_9 w =>
 oM Tryd.prog (.store 67 (.tmp 0) (.tmp 1)) 0 [v7_9, v13_7] (fun _ w =>
 oM Tryd.prog (.unOp .not 4 (.tmp 0)) 4 [v14_8] (fun v16_10 w =>
 gdM (gd v16_10 false) (oM Tryd.prog (.load 67 (.tmp 0)) 67 [v7_9]) (fun v18_11 w =>
 gdM (gd v16_10 false) (oM Tryd.prog (.fieldAddr 30 (.tmp 0) 0) 0 [v5_3]) (fun v19_12 w =>
 gdM (gd v16_10 false) (oM Tryd.prog (.load 3 (.tmp 0)) 3 [v19_12]) (fun v20_13 w =>
 gdM (gd v16_10 false) (oM Tryd.prog (.buildSlice 24 1 #[(0, (.tmp 0))]) 24 [v20_13]) (fun v21_14 w =>
 gdM (gd v16_10 false) (callM Tryd.prog 30 #[v18_11, (.int .i64 1), v21_14]) (fun v22_15 w =>
 gdM (gd v16_10 false) (oM Tryd.prog (.unOp .not 4 (.tmp 0)) 4 [v22_15]) (fun v23_16 w =>
 oM Tryd.prog (.pick (.tmp 0) (.tmp 1) (.tmp 2)) 4 [v16_10, (.bool true), v23_16] (fun v24_17 w =>
 gdM (gd v24_17 false) (oM Tryd.prog (.fieldAddr 30 (.tmp 0) 1) 0 [v5_3]) (fun v26_18 w =>
 gdM (gd v24_17 false) (oM Tryd.prog (.load 24 (.tmp 0)) 24 [v26_18]) (fun v27_19 w =>
 gdM (gd v24_17 false) (oM Tryd.prog (.call (Go.Call.mk (.builtin .len) #[(.tmp 0)] #[24])) 3 [v27_19]) (fun v28_20 w =>
 gdM (gd v24_17 false) (oM Tryd.prog (.fieldAddr 26 (.tmp 0) 1) 0 [v3_1]) (fun v29_21 w =>
 gdM (gd v24_17 false) (oM Tryd.prog (.load 24 (.tmp 0)) 24 [v29_21]) (fun v30_22 w =>
 gdM (gd v24_17 false) (oM Tryd.prog (.call (Go.Call.mk (.builtin .len) #[(.tmp 0)] #[24])) 3 [v30_22]) (fun v31_23 w =>
 gdM (gd v24_17 false) (oM Tryd.prog (.binOp .neq 3 (.tmp 0) (.tmp 1) 3) 4 [v28_20, v31_23]) (fun v32_24 w =>
 oM Tryd.prog (.pick (.tmp 0) (.tmp 1) (.tmp 2)) 4 [v24_17, (.bool true), v32_24] (fun v33_25 w =>
 gdM (gd v33_25 false) (oM Tryd.prog (.load 67 (.tmp 0)) 67 [v7_9]) (fun v35_26 w =>
 gdM (gd v33_25 false) (oM Tryd.prog (.fieldAddr 30 (.tmp 0) 1) 0 [v5_3]) (fun v36_27 w =>
 gdM (gd v33_25 false) (oM Tryd.prog (.load 24 (.tmp 0)) 24 [v36_27]) (fun v37_28 w =>
 gdM (gd v33_25 false) (callM Tryd.prog 30 #[v35_26, (.int .i64 0), v37_28]) (fun v38_29 w =>
 gdM (gd v33_25 false) (oM Tryd.prog (.unOp .not 4 (.tmp 0)) 4 [v38_29]) (fun v39_30 w =>
 oM Tryd.prog (.pick (.tmp 0) (.tmp 1) (.tmp 2)) 4 [v33_25, (.bool true), v39_30] (fun v40_31 w =>
 condM v40_31
 (K (.bool false) w)
 (heldM w (fun C_32 w => (oH Tryd.prog (.load 67 (.tmp 0)) 67 [v7_9] C_32 (fun v41_33 =>
 oH Tryd.prog (.fieldAddr 30 (.tmp 0) 1) 0 [v5_3] C_32 (fun v42_34 =>
 oH Tryd.prog (.load 24 (.tmp 0)) 24 [v42_34] C_32 (fun v43_35 =>
 oH Tryd.prog (.load 67 (.tmp 0)) 67 [v7_9] C_32 (fun v45_36 =>
 oH Tryd.prog (.load 67 (.tmp 0)) 67 [v7_9] C_32 (fun v46_37 =>
 oH Tryd.prog (.fieldAddr 28 (.tmp 0) 0) 0 [v4_2] C_32 (fun v47_38 =>
 oH Tryd.prog (.load 3 (.tmp 0)) 3 [v47_38] C_32 (fun v48_39 =>
 oH Tryd.prog (.fieldAddr 30 (.tmp 0) 0) 0 [v5_3] C_32 (fun v49_40 =>
 oH Tryd.prog (.load 3 (.tmp 0)) 3 [v49_40] C_32 (fun v50_41 =>
 oH Tryd.prog (.fieldAddr 28 (.tmp 0) 1) 0 [v4_2] C_32 (fun v52_42 =>
 oH Tryd.prog (.load 3 (.tmp 0)) 3 [v52_42] C_32 (fun v53_43 =>
 (callM Tryd.prog 31 #[v41_33, v43_35] (fun v44_44 w => C_32 w ∧ (
 (callM Tryd.prog 33 #[v46_37, v48_39, v50_41] (fun v51_45 w => C_32 w ∧ (
 oM Tryd.prog (.buildSlice 24 1 #[(0, (.tmp 0))]) 24 [v53_43] (fun v54_46 w => C_32 w ∧ (
 callM Tryd.prog 32 #[v45_36, v51_45, v54_46] (fun v55_47 w => C_32 w ∧ (
 oH Tryd.prog (.binOp .eql 3 (.tmp 0) (.tmp 1) 3) 4 [v44_44, v55_47] C_32 (fun v56_48 =>
 C_32 w ∧ (K v56_48 w)))) w)) w)) w) ∧
 (oM Tryd.prog (.buildSlice 24 1 #[(0, (.tmp 0))]) 24 [v53_43] (fun v54_50 w => C_32 w ∧ (
 callM Tryd.prog 33 #[v46_37, v48_39, v50_41] (fun v51_51 w => C_32 w ∧ (
 callM Tryd.prog 32 #[v45_36, v51_51, v54_50] (fun v55_52 w => C_32 w ∧ (
 oH Tryd.prog (.binOp .eql 3 (.tmp 0) (.tmp 1) 3) 4 [v44_44, v55_52] C_32 (fun v56_53 =>
 C_32 w ∧ (K v56_53 w)))) w)) w)) w))) w) ∧
 (oM Tryd.prog (.buildSlice 24 1 #[(0, (.tmp 0))]) 24 [v53_43] (fun v54_55 w => C_32 w ∧ (
 callM Tryd.prog 31 #[v41_33, v43_35] (fun v44_56 w => C_32 w ∧ (
 callM Tryd.prog 33 #[v46_37, v48_39, v50_41] (fun v51_57 w => C_32 w ∧ (
 callM Tryd.prog 32 #[v45_36, v51_57, v54_55] (fun v55_58 w => C_32 w ∧ (
 oH Tryd.prog (.binOp .eql 3 (.tmp 0) (.tmp 1) 3) 4 [v44_56, v55_58] C_32 (fun v56_59 =>
 C_32 w ∧ (K v56_59 w)))) w)) w)) w)) w)))))))))))))))) w) w) w) w) w) w) w) w) w) w) w) w) w) w) w) w) w) w) w) w) w) w) w) w) w) w) w) w) w) w) w) w
theorem sh_8_eq (a0 : Value) (a1 : Value) (a2 : Value) (K : Value → World → Prop) (w : World) : sh_8 a0 a1 a2 K w = code Tryd.prog (fun _ => .tree (.look 0 (.look 1 (.look 2 (.look 4 (.look 5 (.look 6 (.look 7 (.look 8 (.look 9 (.look 11 (.look 12 (.alt 3 (.alt 10 (.only 13 (.only 14 (.look 15 (.only 16 (.done))))) (.only 13 (.only 10 (.only 14 (.look 15 (.only 16 (.done))))))) (.only 13 (.only 3 (.only 10 (.only 14 (.look 15 (.only 16 (.done)))))))))))))))))))) 57 (Tryd.f8.body.getD .skip) (slotsAt [a0, a1, a2]) (retK Tryd.prog [.tmp 6] K) w := by kernel_rfl
theorem sh_8_ok {a0 a1 a2 : Value} {K : Value → World → Prop} {w : World} (h : sh_8 a0 a1 a2 K w) : callM Tryd.prog 8 #[a0, a1, a2] K w :=
  calls_of_code (fun _ => .tree (.look 0 (.look 1 (.look 2 (.look 4 (.look 5 (.look 6 (.look 7 (.look 8 (.look 9 (.look 11 (.look 12 (.alt 3 (.alt 10 (.only 13 (.only 14 (.look 15 (.only 16 (.done))))) (.only 13 (.only 10 (.only 14 (.look 15 (.only 16 (.done))))))) (.only 13 (.only 3 (.only 10 (.only 14 (.look 15 (.only 16 (.done)))))))))))))))))))) (fn := Tryd.f8) (rs := [.tmp 6]) Tryd.func8 rfl rfl (by kernel_rfl) (Nat.le_of_ble_eq_true rfl) ((sh_8_eq a0 a1 a2 K w).mp h)
def sh_15 (a0 : Value) (a1 : Value) (a2 : Value) (a3 : Value) (a4 : Value) (K : Value → World → Prop) (w : World) : Prop :=
 oM Tryd.prog (.box 26 (.tmp 0)) 0 [a0] (fun v5_1 w =>
 oM Tryd.prog (.box 28 (.tmp 0)) 0 [a1] (fun v6_2 w =>
 oM Tryd.prog (.box 30 (.tmp 0)) 0 [a2] (fun v7_3 w =>
 oM Tryd.prog (.box 30 (.tmp 0)) 0 [a3] (fun v8_4 w =>
 oM Tryd.prog (.load 26 (.tmp 0)) 26 [v5_1] (fun v17_5 w =>
 oM Tryd.prog (.load 28 (.tmp 0)) 28 [v6_2] (fun v18_6 w =>
 oM Tryd.prog (.load 30 (.tmp 0)) 30 [v7_3] (fun v19_7 w =>
 oM Tryd.prog (.load 30 (.tmp 0)) 30 [v8_4] (fun v20_8 w =>
 callM Tryd.prog 27 #[v17_5, v18_6, v19_7, v20_8] (fun v21_9 w =>
 oM Tryd.prog (.extract (.tmp 0) 0) 67 [v21_9] (fun v22_10 w =>
 oM Tryd.prog (.extract (.tmp 0) 1) 24 [v21_9] (fun v23_11 w =>
 oM Tryd.prog (.extract (.tmp 0) 2) 4 [v21_9] (fun v24_12 w =>
 oM Tryd.prog (.alloc 67) 0 [] (fun v11_13 w =>
 oM Tryd.prog (.store 67 (.tmp 0) (.tmp 1)) 0 [v11_13, v22_10] (fun _ w =>
 oM Tryd.prog (.unOp .not 4 (.tmp 0)) 4 [v24_12] (fun v26_14 w =>
 gdM (gd v26_14 false) (pureM a4) (fun v28_15 w =>
 gdM (gd v26_14 false) (oM Tryd.prog (.call (Go.Call.mk (.builtin .len) #[(.tmp 0)] #[24])) 3 [v28_15]) (fun v29_16 w =>
 gdM (gd v26_14 false) (pureM v23_11) (fun v30_17 w =>
 gdM (gd v26_14 false) (oM Tryd.prog (.call (Go.Call.mk (.builtin .len) #[(.tmp 0)] #[24])) 3 [v30_17]) (fun v31_18 w =>
 gdM (gd v26_14 false) (oM Tryd.prog (.binOp .sub 3 (.tmp 0) (.tmp 1) 3) 3 [v31_18, (.int .i64 1)]) (fun v32_19 w =>
 gdM (gd v26_14 false) (oM Tryd.prog (.binOp .neq 3 (.tmp 0) (.tmp 1) 3) 4 [v29_16, v32_19]) (fun v33_20 w =>
 oM Tryd.prog (.pick (.tmp 0) (.tmp 1) (.tmp 2)) 4 [v26_14, (.bool true), v33_20] (fun v34_21 w =>
 gdM (gd v34_21 false) (oM Tryd.prog (.load 67 (.tmp 0)) 67 [v11_13]) (fun v36_22 w =>
 gdM (gd v34_21 false) (pureM a4) (fun v37_23 w =>
 gdM (gd v34_21 false) (callM Tryd.prog 30 #[v36_22, (.int .i64 0), v37_23]) (fun v38_24 w =>
 gdM (gd v34_21 false) (oM Tryd.prog (.unOp .not 4 (.tmp 0)) 4 [v38_24]) (fun v39_25 w =>
 oM Tryd.prog (.pick (.tmp 0) (.tmp 1) (.tmp 2)) 4 [v34_21, (.bool true), v39_25] (fun v40_26 w =>
 condM v40_26
 (K (.bool false) w)
 (oM Tryd.prog (.call (Go.Call.mk (.builtin .len) #[(.tmp 0)] #[24])) 3 [a4] (fun v42_27 w =>
 loopM [undef, undef, (.bool false), (.int .i64 0)] w (fun J_28 m_29 l_30 u_l_30 w0_l_30 => (fun w => (
 oM Tryd.prog (.binOp .lss 3 (.tmp 0) (.tmp 1) 3) 0 [(l_30.getD 3 undef), v42_27] (fun v44_31 w =>
 condM v44_31
 (oM Tryd.prog (.indexAddr 24 (.tmp 0) (.tmp 1)) 0 [a4, (l_30.getD 3 undef)] (fun v46_32 w =>
 oM Tryd.prog (.load 3 (.tmp 0)) 3 [v46_32] (fun v47_33 w =>
 heldM w (fun C_34 w => (oH Tryd.prog (.load 67 (.tmp 0)) 67 [v11_13] C_34 (fun v48_35 =>
 pureH v47_33 C_34 (fun v49_36 =>
 pureH v23_11 C_34 (fun v50_37 =>
 oH Tryd.prog (.indexAddr 24 (.tmp 0) (.tmp 1)) 0 [v50_37, (.int .i64 0)] C_34 (fun v51_38 =>
 oH Tryd.prog (.load 3 (.tmp 0)) 3 [v51_38] C_34 (fun v52_39 =>
 pureH v23_11 C_34 (fun v55_40 =>
 pureH (l_30.getD 3 undef) C_34 (fun v56_41 =>
 oH Tryd.prog (.binOp .add 3 (.tmp 0) (.tmp 1) 3) 3 [v56_41, (.int .i64 1)] C_34 (fun v57_42 =>
 oH Tryd.prog (.indexAddr 24 (.tmp 0) (.tmp 1)) 0 [v55_40, v57_42] C_34 (fun v58_43 =>
 oH Tryd.prog (.load 3 (.tmp 0)) 3 [v58_43] C_34 (fun v59_44 =>
 oM Tryd.prog (.buildSlice 24 1 #[(0, (.tmp 0))]) 24 [v52_39] (fun v53_45 w => C_34 w ∧ (
 callM Tryd.prog 39 #[v48_35, v49_36, v53_45] (fun v54_46 w => C_34 w ∧ (
 oM Tryd.prog (.binOp .neq 3 (.tmp 0) (.tmp 1) 3) 4 [v54_46, v59_44] (fun v60_47 w => C_34 w ∧ (
 condM v60_47
 (K (.bool false) w)
 (oM Tryd.prog (.binOp .add 3 (.tmp 0) (.tmp 1) 3) 3 [(l_30.getD 3 undef), (.int .i64 1)] (fun v61_48 w =>
 J_28 [(l_30.getD 3 undef), v47_33, (l_30.getD 2 undef), v61_48] w ∧ m_29 [(l_30.getD 3 undef), v47_33, (l_30.getD 2 undef), v61_48] w < m_29 l_30 w0_l_30) w))) w)) w)) w))))))))))))) w) w)
 (K (.bool true) w)) w)) w0_l_30)) w)) w) w) w) w) w) w) w) w) w) w) w) w) w) w) w) w) w) w) w) w) w) w) w) w) w) w) w
theorem sh_15_eq (a0 : Value) (a1 : Value) (a2 : Value) (a3 : Value) (a4 : Value) (K : Value → World → Prop) (w : World) : sh_15 a0 a1 a2 a3 a4 K w = code Tryd.prog (fun _ => 2) 62 (Tryd.f15.body.getD .skip) (slotsAt [a0, a1, a2, a3, a4]) (retK Tryd.prog [.tmp 10] K) w := by kernel_rfl
theorem sh_15_ok {a0 a1 a2 a3 a4 : Value} {K : Value → World → Prop} {w : World} (h : sh_15 a0 a1 a2 a3 a4 K w) : callM Tryd.prog 15 #[a0, a1, a2, a3, a4] K w :=
  calls_of_code (fun _ => 2) (fn := Tryd.f15) (rs := [.tmp 10]) Tryd.func15 rfl rfl (by kernel_rfl) (Nat.le_of_ble_eq_true rfl) ((sh_15_eq a0 a1 a2 a3 a4 K w).mp h)
def sh_43 (a0 : Value) (a1 : Value) (K : Value → World → Prop) (w : World) : Prop :=
 oM Tryd.prog (.box 26 (.tmp 0)) 0 [a0] (fun v2_1 w =>
 oM Tryd.prog (.alloc 67) 0 [] (fun v4_2 w =>
 oM Tryd.prog (.load 26 (.tmp 0)) 26 [v2_1] (fun v11_3 w =>
 callM Tryd.prog 42 #[v11_3, a1] (fun v13_4 w =>
 oM Tryd.prog (.extract (.tmp 0) 0) 67 [v13_4] (fun v14_5 w =>
 oM Tryd.prog (.extract (.tmp 0) 1) 3 [v13_4] (fun v15_6 w =>
 oM Tryd.prog (.extract (.tmp 0) 2) 4 [v13_4] (fun v16_7 w =>
 oM Tryd.prog (.alloc 67) 0 [] (fun v7_8 w =>
 oM Tryd.prog (.store 67 (.tmp 0) (.tmp 1)) 0 [v7_8, v14_5] (fun _ w =>
 oM Tryd.prog (.load 67 (.tmp 0)) 67 [v7_8] (fun v17_9 w =>
 gdM (gd v16_7 true) (pureM v15_6) (fun v21_10 w =>
 gdM (gd v16_7 true) (oM Tryd.prog (.binOp .neq 3 (.tmp 0) (.const (.int .i64 1)) 3) 4 [v21_10]) (fun v22_11 w =>
 oM Tryd.prog (.pick (.tmp 0) (.tmp 1) (.tmp 2)) 4 [v16_7, v22_11, (.bool false)] (fun v23_12 w =>
 oM Tryd.prog (.store 67 (.tmp 0) (.tmp 1)) 0 [v4_2, v17_9] (fun _ w =>
 ∃ r_13, (do loadVar 67 (← asAddr v4_2) : Sem Value).run Tryd.prog w = .ok r_13 w ∧ K (.tuple #[r_13, v15_6, v23_12]) w) w) w) w) w) w) w) w) w) w) w) w) w) w) w
theorem sh_43_eq (a0 : Value) (a1 : Value) (K : Value → World → Prop) (w : World) : sh_43 a0 a1 K w = code Tryd.prog (fun _ => 2) 24 (Tryd.f43.body.getD .skip) (slotsAt [a0, a1]) (retK Tryd.prog [.cell 4 67, .tmp 5, .tmp 6] K) w := by kernel_rfl
theorem sh_43_ok {a0 a1 : Value} {K : Value → World → Prop} {w : World} (h : sh_43 a0 a1 K w) : callM Tryd.prog 43 #[a0, a1] K w :=
  calls_of_code (fun _ => 2) (fn := Tryd.f43) (rs := [.cell 4 67, .tmp 5, .tmp 6]) Tryd.func43 rfl rfl (by kernel_rfl) (Nat.le_of_ble_eq_true rfl) ((sh_43_eq a0 a1 K w).mp h)
def sh_45 (a0 : Value) (a1 : Value) (K : Value → World → Prop) (w : World) : Prop :=
 oM Tryd.prog (.box 67 (.tmp 0)) 0 [a0] (fun v2_1 w =>
 oM Tryd.prog (.box 47 (.tmp 0)) 0 [a1] (fun v3_2 w =>
 oM Tryd.prog (.load 67 (.tmp 0)) 67 [v2_1] (fun v5_3 w =>
 oM Tryd.prog (.fieldAddr 47 (.tmp 0) 0) 0 [v3_2] (fun v6_4 w =>
 oM Tryd.prog (.load 3 (.tmp 0)) 3 [v6_4] (fun v7_5 w =>
 oM Tryd.prog (.fieldAddr 47 (.tmp 0) 1) 0 [v3_2] (fun v8_6 w =>
 oM Tryd.prog (.load 3 (.tmp 0)) 3 [v8_6] (fun v9_7 w =>
 oM Tryd.prog (.buildSlice 24 2 #[(0, (.tmp 0)), (1, (.tmp 1))]) 24 [v7_5, v9_7] (fun v10_8 w =>
 callM Tryd.prog 30 #[v5_3, (.int .i64 1), v10_8] (fun v11_9 w =>
 gdM (gd v11_9 true) (oM Tryd.prog (.load 67 (.tmp 0)) 67 [v2_1]) (fun v13_10 w =>
 gdM (gd v11_9 true) (oM Tryd.prog (.fieldAddr 47 (.tmp 0) 2) 0 [v3_2]) (fun v14_11 w =>
 gdM (gd v11_9 true) (oM Tryd.prog (.load 3 (.tmp 0)) 3 [v14_11]) (fun v15_12 w =>
 gdM (gd v11_9 true) (oM Tryd.prog (.buildSlice 24 1 #[(0, (.tmp 0))]) 24 [v15_12]) (fun v16_13 w =>
 gdM (gd v11_9 true) (callM Tryd.prog 30 #[v13_10, (.int .i64 0), v16_13]) (fun v17_14 w =>
 oM Tryd.prog (.pick (.tmp 0) (.tmp 1) (.tmp 2)) 4 [v11_9, v17_14, (.bool false)] (fun v18_15 w =>
 gdM (gd v18_15 true) (oM Tryd.prog (.fieldAddr 47 (.tmp 0) 3) 0 [v3_2]) (fun v20_16 w =>
 gdM (gd v18_15 true) (oM Tryd.prog (.load 24 (.tmp 0)) 24 [v20_16]) (fun v21_17 w =>
 gdM (gd v18_15 true) (oM Tryd.prog (.call (Go.Call.mk (.builtin .len) #[(.tmp 0)] #[24])) 3 [v21_17]) (fun v22_18 w =>
 gdM (gd v18_15 true) (oM Tryd.prog (.fieldAddr 67 (.tmp 0) 0) 0 [v2_1]) (fun v23_19 w =>
 gdM (gd v18_15 true) (oM Tryd.prog (.fieldAddr 26 (.tmp 0) 1) 0 [v23_19]) (fun v24_20 w =>
 gdM (gd v18_15 true) (oM Tryd.prog (.load 24 (.tmp 0)) 24 [v24_20]) (fun v25_21 w =>
 gdM (gd v18_15 true) (oM Tryd.prog (.call (Go.Call.mk (.builtin .len) #[(.tmp 0)] #[24])) 3 [v25_21]) (fun v26_22 w =>
 gdM (gd v18_15 true) (oM Tryd.prog (.binOp .eql 3 (.tmp 0) (.tmp 1) 3) 4 [v22_18, v26_22]) (fun v27_23 w =>
 oM Tryd.prog (.pick (.tmp 0) (.tmp 1) (.tmp 2)) 4 [v18_15, v27_23, (.bool false)] (fun v28_24 w =>
 gdM (gd v28_24 true) (oM Tryd.prog (.load 67 (.tmp 0)) 67 [v2_1]) (fun v30_25 w =>
 gdM (gd v28_24 true) (oM Tryd.prog (.fieldAddr 47 (.tmp 0) 3) 0 [v3_2]) (fun v31_26 w =>
 gdM (gd v28_24 true) (oM Tryd.prog (.load 24 (.tmp 0)) 24 [v31_26]) (fun v32_27 w =>
 gdM (gd v28_24 true) (callM Tryd.prog 30 #[v30_25, (.int .i64 0), v32_27]) (fun v33_28 w =>
 oM Tryd.prog (.pick (.tmp 0) (.tmp 1) (.tmp 2)) 4 [v28_24, v33_28, (.bool false)] (fun v34_29 w =>
 K v34_29 w) w) w) w) w) w) w) w) w) w) w) w) w) w) w) w) w) w) w) w) w) w) w) w) w) w) w) w) w) w
theorem sh_45_eq (a0 : Value) (a1 : Value) (K : Value → World → Prop) (w : World) : sh_45 a0 a1 K w = code Tryd.prog (fun _ => 2) 35 (Tryd.f45.body.getD .skip) (slotsAt [a0, a1]) (retK Tryd.prog [.tmp 4] K) w := by kernel_rfl
theorem sh_45_ok {a0 a1 : Value} {K : Value → World → Prop} {w : World} (h : sh_45 a0 a1 K w) : callM Tryd.prog 45 #[a0, a1] K w :=
  calls_of_code (fun _ => 2) (fn := Tryd.f45) (rs := [.tmp 4]) Tryd.func45 rfl rfl (by kernel_rfl) (Nat.le_of_ble_eq_true rfl) ((sh_45_eq a0 a1 K w).mp h)
def sh_30 (a0 : Value) (a1 : Value) (a2 : Value) (K : Value → World → Prop) (w : World) : Prop :=
 oM Tryd.prog (.box 67 (.tmp 0)) 0 [a0] (fun v3_1 w =>
 oM Tryd.prog (.box 3 (.tmp 0)) 0 [a1] (fun v4_2 w =>
 oM Tryd.prog (.makeFunc (Go.Fn.func 53) #[] #[(.tmp 0), (.tmp 1)]) 76 [v4_2, v3_1] (fun v8_3 w =>
 callM Tryd.prog 52 #[a2, v8_3] (fun v9_4 w =>
 oM Tryd.prog (.unOp .not 4 (.tmp 0)) 4 [v9_4] (fun v10_5 w =>
 K v10_5 w) w) w) w) w) w
theorem sh_30_eq (a0 : Value) (a1 : Value) (a2 : Value) (K : Value → World → Prop) (w : World) : sh_30 a0 a1 a2 K w = code Tryd.prog (fun _ => 0) 11 (Tryd.f30.body.getD .skip) (slotsAt [a0, a1, a2]) (retK Tryd.prog [.tmp 6] K) w := by kernel_rfl
theorem sh_30_ok {a0 a1 a2 : Value} {K : Value → World → Prop} {w : World} (h : sh_30 a0 a1 a2 K w) : callM Tryd.prog 30 #[a0, a1, a2] K w :=
  calls_of_code (fun _ => 0) (fn := Tryd.f30) (rs := [.tmp 6]) Tryd.func30 rfl rfl (by kernel_rfl) (Nat.le_of_ble_eq_true rfl) ((sh_30_eq a0 a1 a2 K w).mp h)
def sh_46 (a0 : Value) (K : Value → World → Prop) (w : World) : Prop :=
 callM Tryd.prog 60 #[a0] (fun v4_1 w =>
 oM Tryd.prog (.buildSlice 24 1 #[(0, (.tmp 0))]) 24 [(.int .i64 1)] (fun v5_2 w =>
 callM Tryd.prog 59 #[v4_1, (.int .i64 0), v5_2] (fun v6_3 w =>
 K v6_3 w) w) w) w
theorem sh_46_eq (a0 : Value) (K : Value → World → Prop) (w : World) : sh_46 a0 K w = code Tryd.prog (fun _ => 2) 7 (Tryd.f46.body.getD .skip) (slotsAt [a0]) (retK Tryd.prog [.tmp 2] K) w := by kernel_rfl
theorem sh_46_ok {a0 : Value} {K : Value → World → Prop} {w : World} (h : sh_46 a0 K w) : callM Tryd.prog 46 #[a0] K w :=
  calls_of_code (fun _ => 2) (fn := Tryd.f46) (rs := [.tmp 2]) Tryd.func46 rfl rfl (by kernel_rfl) (Nat.le_of_ble_eq_true rfl) ((sh_46_eq a0 K w).mp h)
def sh_47 (a0 : Value) (a1 : Value) (a2 : Value) (K : Value → World → Prop) (w : World) : Prop :=
 oM Tryd.prog (.box 67 (.tmp 0)) 0 [a0] (fun v3_1 w =>
 oM Tryd.prog (.fieldAddr 67 (.tmp 0) 0) 0 [v3_1] (fun v7_2 w =>
 oM Tryd.prog (.fieldAddr 26 (.tmp 0) 0) 0 [v7_2] (fun v8_3 w =>
 oM Tryd.prog (.fieldAddr 23 (.tmp 0) 1) 0 [v8_3] (fun v9_4 w =>
 oM Tryd.prog (.load 3 (.tmp 0)) 3 [v9_4] (fun v10_5 w =>
 callM Tryd.prog 20 #[v10_5, a1, a2] (fun v13_6 w =>
 K v13_6 w) w) w) w) w) w) w
theorem sh_47_eq (a0 : Value) (a1 : Value) (a2 : Value) (K : Value → World → Prop) (w : World) : sh_47 a0 a1 a2 K w = code Tryd.prog (fun _ => 2) 14 (Tryd.f47.body.getD .skip) (slotsAt [a0, a1, a2]) (retK Tryd.prog [.tmp 6] K) w := by kernel_rfl
theorem sh_47_ok {a0 a1 a2 : Value} {K : Value → World → Prop} {w : World} (h : sh_47 a0 a1 a2 K w) : callM Tryd.prog 47 #[a0, a1, a2] K w :=
  calls_of_code (fun _ => 2) (fn := Tryd.f47) (rs := [.tmp 6]) Tryd.func47 rfl rfl (by kernel_rfl) (Nat.le_of_ble_eq_true rfl) ((sh_47_eq a0 a1 a2 K w).mp h)
def sh_39 (a0 : Value) (a1 : Value) (a2 : Value) (K : Value → World → Prop) (w : World) : Prop :=
 oM Tryd.prog (.box 67 (.tmp 0)) 0 [a0] (fun v3_1 w =>
 oM Tryd.prog (.call (Go.Call.mk (.builtin .len) #[(.tmp 0)] #[24])) 3 [a2] (fun v10_2 w =>
 loopM [undef, a1, (.int .i64 0)] w (fun J_3 m_4 l_5 u_l_5 w0_l_5 => (fun w => (
 oM Tryd.prog (.binOp .lss 3 (.tmp 0) (.tmp 1) 3) 0 [(l_5.getD 2 undef), v10_2] (fun v12_6 w =>
 condM v12_6
 (oM Tryd.prog (.indexAddr 24 (.tmp 0) (.tmp 1)) 0 [a2, (l_5.getD 2 undef)] (fun v13_7 w =>
 oM Tryd.prog (.load 3 (.tmp 0)) 3 [v13_7] (fun v14_8 w =>
 oM Tryd.prog (.fieldAddr 67 (.tmp 0) 0) 0 [v3_1] (fun v15_9 w =>
 oM Tryd.prog (.fieldAddr 26 (.tmp 0) 0) 0 [v15_9] (fun v16_10 w =>
 oM Tryd.prog (.fieldAddr 23 (.tmp 0) 1) 0 [v16_10] (fun v17_11 w =>
 oM Tryd.prog (.load 3 (.tmp 0)) 3 [v17_11] (fun v18_12 w =>
 callM Tryd.prog 13 #[v18_12, (l_5.getD 1 undef), v14_8] (fun v21_13 w =>
 oM Tryd.prog (.binOp .add 3 (.tmp 0) (.tmp 1) 3) 3 [(l_5.getD 2 undef), (.int .i64 1)] (fun v22_14 w =>
 J_3 [v14_8, v21_13, v22_14] w ∧ m_4 [v14_8, v21_13, v22_14] w < m_4 l_5 w0_l_5) w) w) w) w) w) w) w) w)
 (K (l_5.getD 1 undef) w)) w)) w0_l_5)) w) w
theorem sh_39_eq (a0 : Value) (a1 : Value) (a2 : Value) (K : Value → World → Prop) (w : World) : sh_39 a0 a1 a2 K w = code Tryd.prog (fun _ => 2) 24 (Tryd.f39.body.getD .skip) (slotsAt [a0, a1, a2]) (retK Tryd.prog [.tmp 6] K) w := by kernel_rfl
theorem sh_39_ok {a0 a1 a2 : Value} {K : Value → World → Prop} {w : World} (h : sh_39 a0 a1 a2 K w) : callM Tryd.prog 39 #[a0, a1, a2] K w :=
  calls_of_code (fun _ => 2) (fn := Tryd.f39) (rs := [.tmp 6]) Tryd.func39 rfl rfl (by kernel_rfl) (Nat.le_of_ble_eq_true rfl) ((sh_39_eq a0 a1 a2 K w).mp h)
def sh_33 (a0 : Value) (a1 : Value) (a2 : Value) (K : Value → World → Prop) (w : World) : Prop :=
 oM Tryd.prog (.box 67 (.tmp 0)) 0 [a0] (fun v3_1 w =>
 oM Tryd.prog (.fieldAddr 67 (.tmp 0) 0) 0 [v3_1] (fun v7_2 w =>
 oM Tryd.prog (.fieldAddr 26 (.tmp 0) 0) 0 [v7_2] (fun v8_3 w =>
 oM Tryd.prog (.load 23 (.tmp 0)) 23 [v8_3] (fun v9_4 w =>
 callM Tryd.prog 14 #[v9_4, a1, a2] (fun v12_5 w =>
 K v12_5 w) w) w) w) w) w
theorem sh_33_eq (a0 : Value) (a1 : Value) (a2 : Value) (K : Value → World → Prop) (w : World) : sh_33 a0 a1 a2 K w = code Tryd.prog (fun _ => 2) 13 (Tryd.f33.body.getD .skip) (slotsAt [a0, a1, a2]) (retK Tryd.prog [.tmp 6] K) w := by kernel_rfl
theorem sh_33_ok {a0 a1 a2 : Value} {K : Value → World → Prop} {w : World} (h : sh_33 a0 a1 a2 K w) : callM Tryd.prog 33 #[a0, a1, a2] K w :=
  calls_of_code (fun _ => 2) (fn := Tryd.f33) (rs := [.tmp 6]) Tryd.func33 rfl rfl (by kernel_rfl) (Nat.le_of_ble_eq_true rfl) ((sh_33_eq a0 a1 a2 K w).mp h)
def sh_44 (a0 : Value) (a1 : Value) (K : Value → World → Prop) (w : World) : Prop :=
 oM Tryd.prog (.box 67 (.tmp 0)) 0 [a0] (fun v2_1 w =>
 oM Tryd.prog (.load 67 (.tmp 0)) 67 [v2_1] (fun v5_2 w =>
 oM Tryd.prog (.fieldAddr 67 (.tmp 0) 0) 0 [v2_1] (fun v6_3 w =>
 oM Tryd.prog (.fieldAddr 26 (.tmp 0) 0) 0 [v6_3] (fun v7_4 w =>
 oM Tryd.prog (.fieldAddr 23 (.tmp 0) 2) 0 [v7_4] (fun v8_5 w =>
 oM Tryd.prog (.load 3 (.tmp 0)) 3 [v8_5] (fun v9_6 w =>
 callM Tryd.prog 33 #[v5_2, v9_6, a1] (fun v11_7 w =>
 K v11_7 w) w) w) w) w) w) w) w
theorem sh_44_eq (a0 : Value) (a1 : Value) (K : Value → World → Prop) (w : World) : sh_44 a0 a1 K w = code Tryd.prog (fun _ => 2) 12 (Tryd.f44.body.getD .skip) (slotsAt [a0, a1]) (retK Tryd.prog [.tmp 4] K) w := by kernel_rfl
theorem sh_44_ok {a0 a1 : Value} {K : Value → World → Prop} {w : World} (h : sh_44 a0 a1 K w) : callM Tryd.prog 44 #[a0, a1] K w :=
  calls_of_code (fun _ => 2) (fn := Tryd.f44) (rs := [.tmp 4]) Tryd.func44 rfl rfl (by kernel_rfl) (Nat.le_of_ble_eq_true rfl) ((sh_44_eq a0 a1 K w).mp h)
def sh_48 (a0 : Value) (K : Value → World → Prop) (w : World) : Prop :=
 oM Tryd.prog (.box 26 (.tmp 0)) 0 [a0] (fun v1_1 w =>
 oM Tryd.prog (.alloc 67) 0 [] (fun v2_2 w =>
 heldM w (fun C_3 w => (oH Tryd.prog (.load 26 (.tmp 0)) 26 [v1_1] C_3 (fun v4_4 =>
 oH Tryd.prog (.load 26 (.tmp 0)) 26 [v1_1] C_3 (fun v6_5 =>
 (oM Tryd.prog (.build 67 #[(0, (.tmp 0))]) 67 [v4_4] (fun v5_6 w => C_3 w ∧ (
 callM Tryd.prog 61 #[v6_5] (fun v7_7 w => C_3 w ∧ (
 oM Tryd.prog (.store 67 (.tmp 0) (.tmp 1)) 0 [v2_2, v5_6] (fun _ w => C_3 w ∧ (
 C_3 w ∧ (∃ r_9, (do loadVar 67 (← asAddr v2_2) : Sem Value).run Tryd.prog w = .ok r_9 w ∧ K (.tuple #[r_9, v7_7]) w))) w)) w)) w) ∧
 (callM Tryd.prog 61 #[v6_5] (fun v7_10 w => C_3 w ∧ (
 oM Tryd.prog (.build 67 #[(0, (.tmp 0))]) 67 [v4_4] (fun v5_11 w => C_3 w ∧ (
 oM Tryd.prog (.store 67 (.tmp 0) (.tmp 1)) 0 [v2_2, v5_11] (fun _ w => C_3 w ∧ (
 C_3 w ∧ (∃ r_13, (do loadVar 67 (← asAddr v2_2) : Sem Value).run Tryd.prog w = .ok r_13 w ∧ K (.tuple #[r_13, v7_10]) w))) w)) w)) w)))))) w) w
theorem sh_48_eq (a0 : Value) (K : Value → World → Prop) (w : World) : sh_48 a0 K w = code Tryd.prog (fun _ => .tree (.look 0 (.look 2 (.alt 1 (.only 3 (.only 4 (.only 5 (.done)))) (.only 3 (.only 1 (.only 4 (.only 5 (.done))))))))) 8 (Tryd.f48.body.getD .skip) (slotsAt [a0]) (retK Tryd.prog [.cell 2 67, .tmp 3] K) w := by kernel_rfl
theorem sh_48_ok {a0 : Value} {K : Value → World → Prop} {w : World} (h : sh_48 a0 K w) : callM Tryd.prog 48 #[a0] K w :=
  calls_of_code (fun _ => .tree (.look 0 (.look 2 (.alt 1 (.only 3 (.only 4 (.only 5 (.done)))) (.only 3 (.only 1 (.only 4 (.only 5 (.done))))))))) (fn := Tryd.f48) (rs := [.cell 2 67, .tmp 3]) Tryd.func48 rfl rfl (by kernel_rfl) (Nat.le_of_ble_eq_true rfl) ((sh_48_eq a0 K w).mp h)
def sh_42 (a0 : Value) (a1 : Value) (K : Value → World → Prop) (w : World) : Prop :=
 oM Tryd.prog (.box 26 (.tmp 0)) 0 [a0] (fun v2_1 w =>
 oM Tryd.prog (.alloc 67) 0 [] (fun v4_2 w =>
 oM Tryd.prog (.load 26 (.tmp 0)) 26 [v2_1] (fun v10_3 w =>
 callM Tryd.prog 48 #[v10_3] (fun v11_4 w =>
 oM Tryd.prog (.extract (.tmp 0) 0) 67 [v11_4] (fun v12_5 w =>
 oM Tryd.prog (.extract (.tmp 0) 1) 4 [v11_4] (fun v13_6 w =>
 oM Tryd.prog (.alloc 67) 0 [] (fun v7_7 w =>
 oM Tryd.prog (.store 67 (.tmp 0) (.tmp 1)) 0 [v7_7, v12_5] (fun _ w =>
 oM Tryd.prog (.unOp .not 4 (.tmp 0)) 4 [v13_6] (fun v15_8 w =>
 gdM (gd v15_8 false) (pureM a1) (fun v17_9 w =>
 gdM (gd v15_8 false) (oM Tryd.prog (.call (Go.Call.mk (.builtin .len) #[(.tmp 0)] #[24])) 3 [v17_9]) (fun v18_10 w =>
 gdM (gd v15_8 false) (oM Tryd.prog (.fieldAddr 26 (.tmp 0) 1) 0 [v2_1]) (fun v19_11 w =>
 gdM (gd v15_8 false) (oM Tryd.prog (.load 24 (.tmp 0)) 24 [v19_11]) (fun v20_12 w =>
 gdM (gd v15_8 false) (oM Tryd.prog (.call (Go.Call.mk (.builtin .len) #[(.tmp 0)] #[24])) 3 [v20_12]) (fun v21_13 w =>
 gdM (gd v15_8 false) (oM Tryd.prog (.binOp .sub 3 (.tmp 0) (.tmp 1) 3) 3 [v21_13, (.int .i64 1)]) (fun v22_14 w =>
 gdM (gd v15_8 false) (oM Tryd.prog (.binOp .neq 3 (.tmp 0) (.tmp 1) 3) 4 [v18_10, v22_14]) (fun v23_15 w =>
 oM Tryd.prog (.pick (.tmp 0) (.tmp 1) (.tmp 2)) 4 [v15_8, (.bool true), v23_15] (fun v24_16 w =>
 gdM (gd v24_16 false) (oM Tryd.prog (.load 67 (.tmp 0)) 67 [v7_7]) (fun v26_17 w =>
 gdM (gd v24_16 false) (pureM a1) (fun v27_18 w =>
 gdM (gd v24_16 false) (callM Tryd.prog 30 #[v26_17, (.int .i64 0), v27_18]) (fun v28_19 w =>
 gdM (gd v24_16 false) (oM Tryd.prog (.unOp .not 4 (.tmp 0)) 4 [v28_19]) (fun v29_20 w =>
 oM Tryd.prog (.pick (.tmp 0) (.tmp 1) (.tmp 2)) 4 [v24_16, (.bool true), v29_20] (fun v30_21 w =>
 gdM (gd v30_21 false) (pureM a1) (fun v32_22 w =>
 gdM (gd v30_21 false) (oM Tryd.prog (.indexAddr 24 (.tmp 0) (.tmp 1)) 0 [v32_22, (.int .i64 0)]) (fun v33_23 w =>
 gdM (gd v30_21 false) (oM Tryd.prog (.load 3 (.tmp 0)) 3 [v33_23]) (fun v34_24 w =>
 gdM (gd v30_21 false) (oM Tryd.prog (.binOp .eql 3 (.tmp 0) (.const (.int .i64 0)) 3) 4 [v34_24]) (fun v35_25 w =>
 oM Tryd.prog (.pick (.tmp 0) (.tmp 1) (.tmp 2)) 4 [v30_21, (.bool true), v35_25] (fun v36_26 w =>
 condM v36_26
 (oM Tryd.prog (.load 67 (.tmp 0)) 67 [v7_7] (fun v37_27 w =>
 oM Tryd.prog (.store 67 (.tmp 0) (.tmp 1)) 0 [v4_2, v37_27] (fun _ w =>
 ∃ r_28, (do loadVar 67 (← asAddr v4_2) : Sem Value).run Tryd.prog w = .ok r_28 w ∧ K (.tuple #[r_28, (.int .i64 0), (.bool false)]) w) w) w)
 (heldM w (fun C_29 w => (oH Tryd.prog (.load 67 (.tmp 0)) 67 [v7_7] C_29 (fun v38_30 =>
 oH Tryd.prog (.load 67 (.tmp 0)) 67 [v7_7] C_29 (fun v39_31 =>
 pureH a1 C_29 (fun v40_32 =>
 callM Tryd.prog 46 #[v40_32] (fun v41_33 w => C_29 w ∧ (
 callM Tryd.prog 31 #[v39_31, v41_33] (fun v42_34 w => C_29 w ∧ (
 oM Tryd.prog (.store 67 (.tmp 0) (.tmp 1)) 0 [v4_2, v38_30] (fun _ w => C_29 w ∧ (
 C_29 w ∧ (C_29 w ∧ (∃ r_37, (do loadVar 67 (← asAddr v4_2) : Sem Value).run Tryd.prog w = .ok r_37 w ∧ K (.tuple #[r_37, v42_34, (.bool true)]) w)))) w)) w)) w))))))) w) w) w) w) w) w) w) w) w) w) w) w) w) w) w) w) w) w) w) w) w) w) w) w) w) w) w
theorem sh_42_eq (a0 : Value) (a1 : Value) (K : Value → World → Prop) (w : World) : sh_42 a0 a1 K w = code Tryd.prog (fun _ => 2) 43 (Tryd.f42.body.getD .skip) (slotsAt [a0, a1]) (retK Tryd.prog [.cell 4 67, .tmp 5, .tmp 6] K) w := by kernel_rfl
theorem sh_42_ok {a0 a1 : Value} {K : Value → World → Prop} {w : World} (h : sh_42 a0 a1 K w) : callM Tryd.prog 42 #[a0, a1] K w :=
  calls_of_code (fun _ => 2) (fn := Tryd.f42) (rs := [.cell 4 67, .tmp 5, .tmp 6]) Tryd.func42 rfl rfl (by kernel_rfl) (Nat.le_of_ble_eq_true rfl) ((sh_42_eq a0 a1 K w).mp h)
def sh_28 (a0 : Value) (a1 : Value) (a2 : Value) (K : Value → World → Prop) (w : World) : Prop :=
 oM Tryd.prog (.box 67 (.tmp 0)) 0 [a0] (fun v3_1 w =>
 heldM w (fun C_2 w => (oH Tryd.prog (.load 67 (.tmp 0)) 67 [v3_1] C_2 (fun v7_3 =>
 pureH a1 C_2 (fun v8_4 =>
 oH Tryd.prog (.fieldAddr 67 (.tmp 0) 0) 0 [v3_1] C_2 (fun v9_5 =>
 oH Tryd.prog (.fieldAddr 26 (.tmp 0) 0) 0 [v9_5] C_2 (fun v10_6 =>
 oH Tryd.prog (.fieldAddr 23 (.tmp 0) 1) 0 [v10_6] C_2 (fun v11_7 =>
 oH Tryd.prog (.load 3 (.tmp 0)) 3 [v11_7] C_2 (fun v12_8 =>
 pureH a2 C_2 (fun v13_9 =>
 callM Tryd.prog 11 #[v12_8, v13_9, (.int .i64 (-1))] (fun v14_10 w => C_2 w ∧ (
 oM Tryd.prog (.buildSlice 24 1 #[(0, (.tmp 0))]) 24 [v14_10] (fun v15_11 w => C_2 w ∧ (
 callM Tryd.prog 39 #[v7_3, v8_4, v15_11] (fun v16_12 w => C_2 w ∧ (
 C_2 w ∧ (K v16_12 w))) w)) w)) w)))))))))) w
theorem sh_28_eq (a0 : Value) (a1 : Value) (a2 : Value) (K : Value → World → Prop) (w : World) : sh_28 a0 a1 a2 K w = code Tryd.prog (fun _ => 2) 17 (Tryd.f28.body.getD .skip) (slotsAt [a0, a1, a2]) (retK Tryd.prog [.tmp 6] K) w := by kernel_rfl
theorem sh_28_ok {a0 a1 a2 : Value} {K : Value → World → Prop} {w : World} (h : sh_28 a0 a1 a2 K w) : callM Tryd.prog 28 #[a0, a1, a2] K w :=
  calls_of_code (fun _ => 2) (fn := Tryd.f28) (rs := [.tmp 6]) Tryd.func28 rfl rfl (by kernel_rfl) (Nat.le_of_ble_eq_true rfl) ((sh_28_eq a0 a1 a2 K w).mp h)
def sh_50 (a0 : Value) (a1 : Value) (a2 : Value) (K : Value → World → Prop) (w : World) : Prop :=
 oM Tryd.prog (.box 67 (.tmp 0)) 0 [a0] (fun v3_1 w =>
 oM Tryd.prog (.fieldAddr 67 (.tmp 0) 0) 0 [v3_1] (fun v7_2 w =>
 oM Tryd.prog (.fieldAddr 26 (.tmp 0) 0) 0 [v7_2] (fun v8_3 w =>
 oM Tryd.prog (.fieldAddr 23 (.tmp 0) 1) 0 [v8_3] (fun v9_4 w =>
 oM Tryd.prog (.load 3 (.tmp 0)) 3 [v9_4] (fun v10_5 w =>
 callM Tryd.prog 12 #[v10_5, a1, a2] (fun v13_6 w =>
 K v13_6 w) w) w) w) w) w) w
theorem sh_50_eq (a0 : Value) (a1 : Value) (a2 : Value) (K : Value → World → Prop) (w : World) : sh_50 a0 a1 a2 K w = code Tryd.prog (fun _ => 2) 14 (Tryd.f50.body.getD .skip) (slotsAt [a0, a1, a2]) (retK Tryd.prog [.tmp 6] K) w := by kernel_rfl
theorem sh_50_ok {a0 a1 a2 : Value} {K : Value → World → Prop} {w : World} (h : sh_50 a0 a1 a2 K w) : callM Tryd.prog 50 #[a0, a1, a2] K w :=
  calls_of_code (fun _ => 2) (fn := Tryd.f50) (rs := [.tmp 6]) Tryd.func50 rfl rfl (by kernel_rfl) (Nat.le_of_ble_eq_true rfl) ((sh_50_eq a0 a1 a2 K w).mp h)
def sh_52 (a0 : Value) (a1 : Value) (K : Value → World → Prop) (w : World) : Prop :=
 callM Tryd.prog 66 #[a0, a1] (fun v7_1 w =>
 oM Tryd.prog (.binOp .geq 3 (.tmp 0) (.tmp 1) 3) 4 [v7_1, (.int .i64 0)] (fun v8_2 w =>
 K v8_2 w) w) w
theorem sh_52_eq (a0 : Value) (a1 : Value) (K : Value → World → Prop) (w : World) : sh_52 a0 a1 K w = code Tryd.prog (fun _ => 0) 9 (Tryd.f52.body.getD .skip) (slotsAt [a0, a1]) (retK Tryd.prog [.tmp 4] K) w := by kernel_rfl
theorem sh_52_ok {a0 a1 : Value} {K : Value → World → Prop} {w : World} (h : sh_52 a0 a1 K w) : callM Tryd.prog 52 #[a0, a1] K w :=
  calls_of_code (fun _ => 0) (fn := Tryd.f52) (rs := [.tmp 4]) Tryd.func52 rfl rfl (by kernel_rfl) (Nat.le_of_ble_eq_true rfl) ((sh_52_eq a0 a1 K w).mp h)
def sh_27 (a0 : Value) (a1 : Value) (a2 : Value) (a3 : Value) (K : Value → World → Prop) (w : World) : Prop :=
 oM Tryd.prog (.box 26 (.tmp 0)) 0 [a0] (fun v4_1 w =>
 oM Tryd.prog (.box 28 (.tmp 0)) 0 [a1] (fun v5_2 w =>
 oM Tryd.prog (.box 30 (.tmp 0)) 0 [a2] (fun v6_3 w =>
 oM Tryd.prog (.box 30 (.tmp 0)) 0 [a3] (fun v7_4 w =>
 oM Tryd.prog (.alloc 67) 0 [] (fun v8_5 w =>
 oM Tryd.prog (.fieldAddr 30 (.tmp 0) 0) 0 [v6_3] (fun v15_6 w =>
 oM Tryd.prog (.load 3 (.tmp 0)) 3 [v15_6] (fun v16_7 w =>
 oM Tryd.prog (.fieldAddr 30 (.tmp 0) 0) 0 [v7_4] (fun v17_8 w =>
 oM Tryd.prog (.load 3 (.tmp 0)) 3 [v17_8] (fun v18_9 w =>
 oM Tryd.prog (.binOp .eql 3 (.tmp 0) (.tmp 1) 3) 4 [v16_7, v18_9] (fun v19_10 w =>
 gdM (gd v19_10 false) (oM Tryd.prog (.load 26 (.tmp 0)) 26 [v4_1]) (fun v21_11 w =>
 gdM (gd v19_10 false) (oM Tryd.prog (.load 28 (.tmp 0)) 28 [v5_2]) (fun v22_12 w =>
 gdM (gd v19_10 false) (oM Tryd.prog (.load 30 (.tmp 0)) 30 [v6_3]) (fun v23_13 w =>
 gdM (gd v19_10 false) (callM Tryd.prog 8 #[v21_11, v22_12, v23_13]) (fun v24_14 w =>
 gdM (gd v19_10 false) (oM Tryd.prog (.unOp .not 4 (.tmp 0)) 4 [v24_14]) (fun v25_15 w =>
 oM Tryd.prog (.pick (.tmp 0) (.tmp 1) (.tmp 2)) 4 [v19_10, (.bool true), v25_15] (fun v26_16 w =>
 gdM (gd v26_16 false) (oM Tryd.prog (.load 26 (.tmp 0)) 26 [v4_1]) (fun v28_17 w =>
 gdM (gd v26_16 false) (oM Tryd.prog (.load 28 (.tmp 0)) 28 [v5_2]) (fun v29_18 w =>
 gdM (gd v26_16 false) (oM Tryd.prog (.load 30 (.tmp 0)) 30 [v7_4]) (fun v30_19 w =>
 gdM (gd v26_16 false) (callM Tryd.prog 8 #[v28_17, v29_18, v30_19]) (fun v31_20 w =>
 gdM (gd v26_16 false) (oM Tryd.prog (.unOp .not 4 (.tmp 0)) 4 [v31_20]) (fun v32_21 w =>
 oM Tryd.prog (.pick (.tmp 0) (.tmp 1) (.tmp 2)) 4 [v26_16, (.bool true), v32_21] (fun v33_22 w =>
 condM v33_22
 (oM Tryd.prog (.build 67 #[]) 67 [] (fun v34_23 w =>
 oM Tryd.prog (.store 67 (.tmp 0) (.tmp 1)) 0 [v8_5, v34_23] (fun _ w =>
 ∃ r_24, (do loadVar 67 (← asAddr v8_5) : Sem Value).run Tryd.prog w = .ok r_24 w ∧ K (.tuple #[r_24, (.slice none 0 0), (.bool false)]) w) w) w)
 (oM Tryd.prog (.load 26 (.tmp 0)) 26 [v4_1] (fun v35_25 w =>
 oM Tryd.prog (.build 67 #[(0, (.tmp 0))]) 67 [v35_25] (fun v36_26 w =>
 oM Tryd.prog (.alloc 67) 0 [] (fun v11_27 w =>
 oM Tryd.prog (.store 67 (.tmp 0) (.tmp 1)) 0 [v11_27, v36_26] (fun _ w =>
 oM Tryd.prog (.fieldAddr 30 (.tmp 0) 1) 0 [v6_3] (fun v37_28 w =>
 oM Tryd.prog (.load 24 (.tmp 0)) 24 [v37_28] (fun v38_29 w =>
 oM Tryd.prog (.call (Go.Call.mk (.builtin .len) #[(.tmp 0)] #[24])) 3 [v38_29] (fun v39_30 w =>
 loopM [undef, undef, (.slice none 0 0), (.int .i64 0)] w (fun J_31 m_32 l_33 u_l_33 w0_l_33 => (fun w => (
 oM Tryd.prog (.binOp .lss 3 (.tmp 0) (.tmp 1) 3) 0 [(l_33.getD 3 undef), v39_30] (fun v41_34 w =>
 condM v41_34
 (oM Tryd.prog (.indexAddr 24 (.tmp 0) (.tmp 1)) 0 [v38_29, (l_33.getD 3 undef)] (fun v43_35 w =>
 oM Tryd.prog (.load 3 (.tmp 0)) 3 [v43_35] (fun v44_36 w =>
 heldM w (fun C_37 w => (pureH (l_33.getD 2 undef) C_37 (fun v45_38 =>
 oH Tryd.prog (.load 67 (.tmp 0)) 67 [v11_27] C_37 (fun v46_39 =>
 pureH v44_36 C_37 (fun v47_40 =>
 oH Tryd.prog (.fieldAddr 30 (.tmp 0) 1) 0 [v7_4] C_37 (fun v48_41 =>
 oH Tryd.prog (.load 24 (.tmp 0)) 24 [v48_41] C_37 (fun v49_42 =>
 pureH (l_33.getD 3 undef) C_37 (fun v50_43 =>
 oH Tryd.prog (.indexAddr 24 (.tmp 0) (.tmp 1)) 0 [v49_42, v50_43] C_37 (fun v51_44 =>
 oH Tryd.prog (.load 3 (.tmp 0)) 3 [v51_44] C_37 (fun v52_45 =>
 callM Tryd.prog 50 #[v46_39, v47_40, v52_45] (fun v53_46 w => C_37 w ∧ (
 oM Tryd.prog (.buildSlice 24 1 #[(0, (.tmp 0))]) 24 [v53_46] (fun v54_47 w => C_37 w ∧ (
 oM Tryd.prog (.call (Go.Call.mk (.builtin .append) #[(.tmp 0), (.tmp 1)] #[24, 24])) 24 [v45_38, v54_47] (fun v55_48 w => C_37 w ∧ (
 C_37 w ∧ (oM Tryd.prog (.binOp .add 3 (.tmp 0) (.tmp 1) 3) 3 [(l_33.getD 3 undef), (.int .i64 1)] (fun v56_50 w =>
 J_31 [(l_33.getD 3 undef), v44_36, v55_48, v56_50] w ∧ m_32 [(l_33.getD 3 undef), v44_36, v55_48, v56_50] w < m_32 l_33 w0_l_33) w))) w)) w)) w))))))))))) w) w)
 (heldM w (fun C_51 w => (oH Tryd.prog (.load 67 (.tmp 0)) 67 [v11_27] C_51 (fun v57_52 =>
 pureH (l_33.getD 2 undef) C_51 (fun v58_53 =>
 pureH (l_33.getD 2 undef) C_51 (fun v59_54 =>
 oH Tryd.prog (.indexAddr 24 (.tmp 0) (.tmp 1)) 0 [v59_54, (.int .i64 0)] C_51 (fun v60_55 =>
 oH Tryd.prog (.load 3 (.tmp 0)) 3 [v60_55] C_51 (fun v61_56 =>
 oH Tryd.prog (.binOp .neq 3 (.tmp 0) (.const (.int .i64 0)) 3) 4 [v61_56] C_51 (fun v62_57 =>
 oM Tryd.prog (.store 67 (.tmp 0) (.tmp 1)) 0 [v8_5, v57_52] (fun _ w => C_51 w ∧ (
 C_51 w ∧ (C_51 w ∧ (∃ r_60, (do loadVar 67 (← asAddr v8_5) : Sem Value).run Tryd.prog w = .ok r_60 w ∧ K (.tuple #[r_60, v58_53, v62_57]) w)))) w)))))))))) w)) w0_l_33)) w) w) w) w) w) w) w)) w) w) w) w) w) w) w) w) w) w) w) w) w) w) w) w) w) w) w) w) w) w
theorem sh_27_eq (a0 : Value) (a1 : Value) (a2 : Value) (a3 : Value) (K : Value → World → Prop) (w : World) : sh_27 a0 a1 a2 a3 K w = code Tryd.prog (fun _ => 2) 63 (Tryd.f27.body.getD .skip) (slotsAt [a0, a1, a2, a3]) (retK Tryd.prog [.cell 8 67, .tmp 9, .tmp 10] K) w := by kernel_rfl
theorem sh_27_ok {a0 a1 a2 a3 : Value} {K : Value → World → Prop} {w : World} (h : sh_27 a0 a1 a2 a3 K w) : callM Tryd.prog 27 #[a0, a1, a2, a3] K w :=
  calls_of_code (fun _ => 2) (fn := Tryd.f27) (rs := [.cell 8 67, .tmp 9, .tmp 10]) Tryd.func27 rfl rfl (by kernel_rfl) (Nat.le_of_ble_eq_true rfl) ((sh_27_eq a0 a1 a2 a3 K w).mp h)
def sh_29 (a0 : Value) (a1 : Value) (K : Value → World → Prop) (w : World) : Prop :=
 oM Tryd.prog (.box 26 (.tmp 0)) 0 [a0] (fun v2_1 w =>
 oM Tryd.prog (.box 28 (.tmp 0)) 0 [a1] (fun v3_2 w =>
 oM Tryd.prog (.alloc 67) 0 [] (fun v4_3 w =>
 oM Tryd.prog (.load 26 (.tmp 0)) 26 [v2_1] (fun v9_4 w =>
 callM Tryd.prog 48 #[v9_4] (fun v10_5 w =>
 oM Tryd.prog (.extract (.tmp 0) 0) 67 [v10_5] (fun v11_6 w =>
 oM Tryd.prog (.extract (.tmp 0) 1) 4 [v10_5] (fun v12_7 w =>
 oM Tryd.prog (.alloc 67) 0 [] (fun v6_8 w =>
 oM Tryd.prog (.store 67 (.tmp 0) (.tmp 1)) 0 [v6_8, v11_6] (fun _ w =>
 heldM w (fun C_9 w => (oH Tryd.prog (.load 67 (.tmp 0)) 67 [v6_8] C_9 (fun v13_10 =>
 pureH v12_7 C_9 (fun v14_11 =>
 pureH v14_11 C_9 (fun v15_12 =>
 gdH (gd v15_12 true) (oH Tryd.prog (.fieldAddr 28 (.tmp 0) 0) 0 [v3_2]) C_9 (fun v16_13 =>
 gdH (gd v15_12 true) (oH Tryd.prog (.load 3 (.tmp 0)) 3 [v16_13]) C_9 (fun v17_14 =>
 gdH (gd v15_12 true) (oH Tryd.prog (.binOp .neq 3 (.tmp 0) (.const (.int .i64 1)) 3) 4 [v17_14]) C_9 (fun v18_15 =>
 oH Tryd.prog (.pick (.tmp 0) (.tmp 1) (.tmp 2)) 4 [v15_12, v18_15, (.bool false)] C_9 (fun v19_16 =>
 pureH v19_16 C_9 (fun v20_17 =>
 gdH (gd v20_17 true) (oH Tryd.prog (.load 67 (.tmp 0)) 67 [v6_8]) C_9 (fun v21_18 =>
 gdH (gd v20_17 true) (oH Tryd.prog (.fieldAddr 28 (.tmp 0) 0) 0 [v3_2]) C_9 (fun v22_19 =>
 gdH (gd v20_17 true) (oH Tryd.prog (.load 3 (.tmp 0)) 3 [v22_19]) C_9 (fun v23_20 =>
 gdH (gd v20_17 true) (oH Tryd.prog (.fieldAddr 28 (.tmp 0) 1) 0 [v3_2]) C_9 (fun v24_21 =>
 gdH (gd v20_17 true) (oH Tryd.prog (.load 3 (.tmp 0)) 3 [v24_21]) C_9 (fun v25_22 =>
 gdH (gd v20_17 true) (oH Tryd.prog (.fieldAddr 28 (.tmp 0) 2) 0 [v3_2]) C_9 (fun v26_23 =>
 gdH (gd v20_17 true) (oH Tryd.prog (.load 3 (.tmp 0)) 3 [v26_23]) C_9 (fun v27_24 =>
 gdH (gd v20_17 true) (oH Tryd.prog (.fieldAddr 28 (.tmp 0) 3) 0 [v3_2]) C_9 (fun v28_25 =>
 gdH (gd v20_17 true) (oH Tryd.prog (.load 3 (.tmp 0)) 3 [v28_25]) C_9 (fun v29_26 =>
 gdH (gd v20_17 true) (oH Tryd.prog (.fieldAddr 28 (.tmp 0) 4) 0 [v3_2]) C_9 (fun v30_27 =>
 gdH (gd v20_17 true) (oH Tryd.prog (.load 3 (.tmp 0)) 3 [v30_27]) C_9 (fun v31_28 =>
 gdM (gd v20_17 true) (oM Tryd.prog (.buildSlice 24 5 #[(0, (.tmp 0)), (1, (.tmp 1)), (2, (.tmp 2)), (3, (.tmp 3)), (4, (.tmp 4))]) 24 [v23_20, v25_22, v27_24, v29_26, v31_28]) (fun v32_29 w => C_9 w ∧ (
 gdM (gd v20_17 true) (callM Tryd.prog 51 #[v21_18, v32_29]) (fun v33_30 w => C_9 w ∧ (
 oH Tryd.prog (.pick (.tmp 0) (.tmp 1) (.tmp 2)) 4 [v20_17, v33_30, (.bool false)] C_9 (fun v34_31 =>
 pureH v34_31 C_9 (fun v35_32 =>
 gdH (gd v35_32 true) (oH Tryd.prog (.load 67 (.tmp 0)) 67 [v6_8]) C_9 (fun v36_33 =>
 gdH (gd v35_32 true) (oH Tryd.prog (.fieldAddr 28 (.tmp 0) 5) 0 [v3_2]) C_9 (fun v37_34 =>
 gdH (gd v35_32 true) (oH Tryd.prog (.load 3 (.tmp 0)) 3 [v37_34]) C_9 (fun v38_35 =>
 gdM (gd v35_32 true) (oM Tryd.prog (.buildSlice 24 1 #[(0, (.tmp 0))]) 24 [v38_35]) (fun v39_36 w => C_9 w ∧ (
 gdM (gd v35_32 true) (callM Tryd.prog 30 #[v36_33, (.int .i64 0), v39_36]) (fun v40_37 w => C_9 w ∧ (
 oH Tryd.prog (.pick (.tmp 0) (.tmp 1) (.tmp 2)) 4 [v35_32, v40_37, (.bool false)] C_9 (fun v41_38 =>
 oM Tryd.prog (.store 67 (.tmp 0) (.tmp 1)) 0 [v4_3, v13_10] (fun _ w => C_9 w ∧ (
 C_9 w ∧ (∃ r_40, (do loadVar 67 (← asAddr v4_3) : Sem Value).run Tryd.prog w = .ok r_40 w ∧ K (.tuple #[r_40, v41_38]) w))) w))) w)) w))))))) w)) w)))))))))))))))))))))) w) w) w) w) w) w) w) w) w
theorem sh_29_eq (a0 : Value) (a1 : Value) (K : Value → World → Prop) (w : World) : sh_29 a0 a1 K w = code Tryd.prog (fun _ => .tree (.look 0 (.look 1 (.look 2 (.look 3 (.look 4 (.look 5 (.look 6 (.look 7 (.look 8 (.look 9 (.look 10 (.look 11 (.look 12 (.look 13 (.look 14 (.look 15 (.look 16 (.look 17 (.look 18 (.only 19 (.only 20 (.look 21 (.look 22 (.look 23 (.look 24 (.look 25 (.only 26 (.only 27 (.look 28 (.only 29 (.only 30 (.done))))))))))))))))))))))))))))))))) 42 (Tryd.f29.body.getD .skip) (slotsAt [a0, a1]) (retK Tryd.prog [.cell 4 67, .tmp 5] K) w := by kernel_rfl
theorem sh_29_ok {a0 a1 : Value} {K : Value → World → Prop} {w : World} (h : sh_29 a0 a1 K w) : callM Tryd.prog 29 #[a0, a1] K w :=
  calls_of_code (fun _ => .tree (.look 0 (.look 1 (.look 2 (.look 3 (.look 4 (.look 5 (.look 6 (.look 7 (.look 8 (.look 9 (.look 10 (.look 11 (.look 12 (.look 13 (.look 14 (.look 15 (.look 16 (.look 17 (.look 18 (.only 19 (.only 20 (.look 21 (.look 22 (.look 23 (.look 24 (.look 25 (.only 26 (.only 27 (.look 28 (.only 29 (.only 30 (.done))))))))))))))))))))))))))))))))) (fn := Tryd.f29) (rs := [.cell 4 67, .tmp 5]) Tryd.func29 rfl rfl (by kernel_rfl) (Nat.le_of_ble_eq_true rfl) ((sh_29_eq a0 a1 K w).mp h)
def sh_31 (a0 : Value) (a1 : Value) (K : Value → World → Prop) (w : World) : Prop :=
 oM Tryd.prog (.box 67 (.tmp 0)) 0 [a0] (fun v2_1 w =>
 oM Tryd.prog (.fieldAddr 67 (.tmp 0) 0) 0 [v2_1] (fun v8_2 w =>
 oM Tryd.prog (.fieldAddr 26 (.tmp 0) 0) 0 [v8_2] (fun v9_3 w =>
 oM Tryd.prog (.load 23 (.tmp 0)) 23 [v9_3] (fun v10_4 w =>
 oM Tryd.prog (.fieldAddr 67 (.tmp 0) 0) 0 [v2_1] (fun v11_5 w =>
 oM Tryd.prog (.fieldAddr 26 (.tmp 0) 1) 0 [v11_5] (fun v12_6 w =>
 oM Tryd.prog (.load 24 (.tmp 0)) 24 [v12_6] (fun v13_7 w =>
 callM Tryd.prog 9 #[v10_4, v13_7, a1] (fun v15_8 w =>
 oM Tryd.prog (.extract (.tmp 0) 0) 3 [v15_8] (fun v16_9 w =>
 oM Tryd.prog (.extract (.tmp 0) 1) 4 [v15_8] (fun v17_10 w =>
 K v16_9 w) w) w) w) w) w) w) w) w) w) w
theorem sh_31_eq (a0 : Value) (a1 : Value) (K : Value → World → Prop) (w : World) : sh_31 a0 a1 K w = code Tryd.prog (fun _ => 2) 19 (Tryd.f31.body.getD .skip) (slotsAt [a0, a1]) (retK Tryd.prog [.tmp 4] K) w := by kernel_rfl
theorem sh_31_ok {a0 a1 : Value} {K : Value → World → Prop} {w : World} (h : sh_31 a0 a1 K w) : callM Tryd.prog 31 #[a0, a1] K w :=
  calls_of_code (fun _ => 2) (fn := Tryd.f31) (rs := [.tmp 4]) Tryd.func31 rfl rfl (by kernel_rfl) (Nat.le_of_ble_eq_true rfl) ((sh_31_eq a0 a1 K w).mp h)
def sh_32 (a0 : Value) (a1 : Value) (a2 : Value) (K : Value → World → Prop) (w : World) : Prop :=
 oM Tryd.prog (.box 67 (.tmp 0)) 0 [a0] (fun v3_1 w =>
 oM Tryd.prog (.call (Go.Call.mk (.builtin .len) #[(.tmp 0)] #[24])) 3 [a2] (fun v10_2 w =>
 loopM [undef, a1, (.int .i64 0)] w (fun J_3 m_4 l_5 u_l_5 w0_l_5 => (fun w => (
 oM Tryd.prog (.binOp .lss 3 (.tmp 0) (.tmp 1) 3) 0 [(l_5.getD 2 undef), v10_2] (fun v12_6 w =>
 condM v12_6
 (oM Tryd.prog (.indexAddr 24 (.tmp 0) (.tmp 1)) 0 [a2, (l_5.getD 2 undef)] (fun v13_7 w =>
 oM Tryd.prog (.load 3 (.tmp 0)) 3 [v13_7] (fun v14_8 w =>
 oM Tryd.prog (.fieldAddr 67 (.tmp 0) 0) 0 [v3_1] (fun v15_9 w =>
 oM Tryd.prog (.fieldAddr 26 (.tmp 0) 0) 0 [v15_9] (fun v16_10 w =>
 oM Tryd.prog (.load 23 (.tmp 0)) 23 [v16_10] (fun v17_11 w =>
 callM Tryd.prog 54 #[v17_11, (l_5.getD 1 undef), v14_8] (fun v20_12 w =>
 oM Tryd.prog (.binOp .add 3 (.tmp 0) (.tmp 1) 3) 3 [(l_5.getD 2 undef), (.int .i64 1)] (fun v21_13 w =>
 J_3 [v14_8, v20_12, v21_13] w ∧ m_4 [v14_8, v20_12, v21_13] w < m_4 l_5 w0_l_5) w) w) w) w) w) w) w)
 (K (l_5.getD 1 undef) w)) w)) w0_l_5)) w) w
theorem sh_32_eq (a0 : Value) (a1 : Value) (a2 : Value) (K : Value → World → Prop) (w : World) : sh_32 a0 a1 a2 K w = code Tryd.prog (fun _ => 2) 23 (Tryd.f32.body.getD .skip) (slotsAt [a0, a1, a2]) (retK Tryd.prog [.tmp 6] K) w := by kernel_rfl
theorem sh_32_ok {a0 a1 a2 : Value} {K : Value → World → Prop} {w : World} (h : sh_32 a0 a1 a2 K w) : callM Tryd.prog 32 #[a0, a1, a2] K w :=
  calls_of_code (fun _ => 2) (fn := Tryd.f32) (rs := [.tmp 6]) Tryd.func32 rfl rfl (by kernel_rfl) (Nat.le_of_ble_eq_true rfl) ((sh_32_eq a0 a1 a2 K w).mp h)
def sh_61 (a0 : Value) (K : Value → World → Prop) (w : World) : Prop :=
 oM Tryd.prog (.box 26 (.tmp 0)) 0 [a0] (fun v1_1 w =>
 oM Tryd.prog (.fieldAddr 26 (.tmp 0) 0) 0 [v1_1] (fun v6_2 w =>
 oM Tryd.prog (.load 23 (.tmp 0)) 23 [v6_2] (fun v7_3 w =>
 callM Tryd.prog 57 #[v7_3] (fun v8_4 w =>
 oM Tryd.prog (.unOp .not 4 (.tmp 0)) 4 [v8_4] (fun v9_5 w =>
 gdM (gd v9_5 false) (oM Tryd.prog (.fieldAddr 26 (.tmp 0) 1) 0 [v1_1]) (fun v11_6 w =>
 gdM (gd v9_5 false) (oM Tryd.prog (.load 24 (.tmp 0)) 24 [v11_6]) (fun v12_7 w =>
 gdM (gd v9_5 false) (oM Tryd.prog (.call (Go.Call.mk (.builtin .len) #[(.tmp 0)] #[24])) 3 [v12_7]) (fun v13_8 w =>
 gdM (gd v9_5 false) (oM Tryd.prog (.binOp .lss 3 (.tmp 0) (.tmp 1) 3) 4 [v13_8, (.int .i64 2)]) (fun v14_9 w =>
 oM Tryd.prog (.pick (.tmp 0) (.tmp 1) (.tmp 2)) 4 [v9_5, (.bool true), v14_9] (fun v15_10 w =>
 gdM (gd v15_10 false) (oM Tryd.prog (.fieldAddr 26 (.tmp 0) 1) 0 [v1_1]) (fun v17_11 w =>
 gdM (gd v15_10 false) (oM Tryd.prog (.load 24 (.tmp 0)) 24 [v17_11]) (fun v18_12 w =>
 gdM (gd v15_10 false) (oM Tryd.prog (.call (Go.Call.mk (.builtin .len) #[(.tmp 0)] #[24])) 3 [v18_12]) (fun v19_13 w =>
 gdM (gd v15_10 false) (oM Tryd.prog (.binOp .gtr 3 (.tmp 0) (.tmp 1) 3) 4 [v19_13, (.int .i64 7)]) (fun v20_14 w =>
 oM Tryd.prog (.pick (.tmp 0) (.tmp 1) (.tmp 2)) 4 [v15_10, (.bool true), v20_14] (fun v21_15 w =>
 condM v21_15
 (K (.bool false) w)
 (oM Tryd.prog (.makeFunc (Go.Fn.func 71) #[] #[(.tmp 0)]) 76 [v1_1] (fun v22_16 w =>
 oM Tryd.prog (.fieldAddr 26 (.tmp 0) 1) 0 [v1_1] (fun v23_17 w =>
 oM Tryd.prog (.load 24 (.tmp 0)) 24 [v23_17] (fun v24_18 w =>
 oM Tryd.prog (.call (Go.Call.mk (.builtin .len) #[(.tmp 0)] #[24])) 3 [v24_18] (fun v25_19 w =>
 loopM [undef, (.bool false), (.int .i64 0)] w (fun J_20 m_21 l_22 u_l_22 w0_l_22 => (fun w => (
 oM Tryd.prog (.binOp .lss 3 (.tmp 0) (.tmp 1) 3) 0 [(l_22.getD 2 undef), v25_19] (fun v27_23 w =>
 condM v27_23
 (oM Tryd.prog (.indexAddr 24 (.tmp 0) (.tmp 1)) 0 [v24_18, (l_22.getD 2 undef)] (fun v28_24 w =>
 oM Tryd.prog (.load 3 (.tmp 0)) 3 [v28_24] (fun v29_25 w =>
 oM Tryd.prog (.call (Go.Call.mk (.value (.tmp 0)) #[(.tmp 1)] #[3])) 4 [v22_16, v29_25] (fun v32_26 w =>
 oM Tryd.prog (.unOp .not 4 (.tmp 0)) 4 [v32_26] (fun v33_27 w =>
 condM v33_27
 (K (.bool false) w)
 (oM Tryd.prog (.binOp .add 3 (.tmp 0) (.tmp 1) 3) 3 [(l_22.getD 2 undef), (.int .i64 1)] (fun v34_28 w =>
 J_20 [v29_25, (l_22.getD 1 undef), v34_28] w ∧ m_21 [v29_25, (l_22.getD 1 undef), v34_28] w < m_21 l_22 w0_l_22) w)) w) w) w) w)
 (oM Tryd.prog (.fieldAddr 26 (.tmp 0) 2) 0 [v1_1] (fun v36_29 w =>
 oM Tryd.prog (.load 3 (.tmp 0)) 3 [v36_29] (fun v37_30 w =>
 oM Tryd.prog (.call (Go.Call.mk (.value (.tmp 0)) #[(.tmp 1)] #[3])) 4 [v22_16, v37_30] (fun v38_31 w =>
 K v38_31 w) w) w) w)) w)) w0_l_22)) w) w) w) w)) w) w) w) w) w) w) w) w) w) w) w) w) w) w) w
theorem sh_61_eq (a0 : Value) (K : Value → World → Prop) (w : World) : sh_61 a0 K w = code Tryd.prog (fun _ => 0) 39 (Tryd.f61.body.getD .skip) (slotsAt [a0]) (retK Tryd.prog [.tmp 2] K) w := by kernel_rfl
theorem sh_61_ok {a0 : Value} {K : Value → World → Prop} {w : World} (h : sh_61 a0 K w) : callM Tryd.prog 61 #[a0] K w :=
  calls_of_code (fun _ => 0) (fn := Tryd.f61) (rs := [.tmp 2]) Tryd.func61 rfl rfl (by kernel_rfl) (Nat.le_of_ble_eq_true rfl) ((sh_61_eq a0 K w).mp h)
def sh_53 (a0 : Value) (a1 : Value) (a2 : Value) (K : Value → World → Prop) (w : World) : Prop :=
 oM Tryd.prog (.load 3 (.tmp 0)) 3 [a1] (fun v6_1 w =>
 oM Tryd.prog (.binOp .lss 3 (.tmp 0) (.tmp 1) 3) 4 [a0, v6_1] (fun v7_2 w =>
 gdM (gd v7_2 false) (pureM a0) (fun v9_3 w =>
 gdM (gd v7_2 false) (oM Tryd.prog (.fieldAddr 67 (.tmp 0) 0) 0 [a2]) (fun v10_4 w =>
 gdM (gd v7_2 false) (oM Tryd.prog (.fieldAddr 26 (.tmp 0) 0) 0 [v10_4]) (fun v11_5 w =>
 gdM (gd v7_2 false) (oM Tryd.prog (.fieldAddr 23 (.tmp 0) 1) 0 [v11_5]) (fun v12_6 w =>
 gdM (gd v7_2 false) (oM Tryd.prog (.load 3 (.tmp 0)) 3 [v12_6]) (fun v13_7 w =>
 gdM (gd v7_2 false) (oM Tryd.prog (.binOp .geq 3 (.tmp 0) (.tmp 1) 3) 4 [v9_3, v13_7]) (fun v14_8 w =>
 oM Tryd.prog (.pick (.tmp 0) (.tmp 1) (.tmp 2)) 4 [v7_2, (.bool true), v14_8] (fun v15_9 w =>
 K v15_9 w) w) w) w) w) w) w) w) w) w
theorem sh_53_eq (a0 : Value) (a1 : Value) (a2 : Value) (K : Value → World → Prop) (w : World) : sh_53 a0 a1 a2 K w = code Tryd.prog (fun _ => 0) 16 (Tryd.f53.body.getD .skip) (slotsAt [a0, a1, a2]) (retK Tryd.prog [.tmp 4] K) w := by kernel_rfl
theorem sh_53_ok {a0 a1 a2 : Value} {K : Value → World → Prop} {w : World} (h : sh_53 a0 a1 a2 K w) : callM Tryd.prog 53 #[a0, a1, a2] K w :=
  calls_of_code (fun _ => 0) (fn := Tryd.f53) (rs := [.tmp 4]) Tryd.func53 rfl rfl (by kernel_rfl) (Nat.le_of_ble_eq_true rfl) ((sh_53_eq a0 a1 a2 K w).mp h)
def sh_60 (a0 : Value) (K : Value → World → Prop) (w : World) : Prop :=
 oM Tryd.prog (.binOp .eql 24 (.tmp 0) (.const (.slice none 0 0)) 24) 4 [a0] (fun v4_1 w =>
 condM v4_1
 (K (.slice none 0 0) w)
 (oM Tryd.prog (.buildSlice 24 0 #[]) 24 [] (fun v5_2 w =>
 oM Tryd.prog (.call (Go.Call.mk (.builtin .append) #[(.tmp 0), (.tmp 1)] #[24, 24])) 24 [v5_2, a0] (fun v7_3 w =>
 K v7_3 w) w) w)) w
theorem sh_60_eq (a0 : Value) (K : Value → World → Prop) (w : World) : sh_60 a0 K w = code Tryd.prog (fun _ => 2) 8 (Tryd.f60.body.getD .skip) (slotsAt [a0]) (retK Tryd.prog [.tmp 2] K) w := by kernel_rfl
theorem sh_60_ok {a0 : Value} {K : Value → World → Prop} {w : World} (h : sh_60 a0 K w) : callM Tryd.prog 60 #[a0] K w :=
  calls_of_code (fun _ => 2) (fn := Tryd.f60) (rs := [.tmp 2]) Tryd.func60 rfl rfl (by kernel_rfl) (Nat.le_of_ble_eq_true rfl) ((sh_60_eq a0 K w).mp h)
def sh_51 (a0 : Value) (a1 : Value) (K : Value → World → Prop) (w : World) : Prop :=
 oM Tryd.prog (.box 67 (.tmp 0)) 0 [a0] (fun v2_1 w =>
 oM Tryd.prog (.makeFunc (Go.Fn.func 64) #[] #[(.tmp 0)]) 76 [v2_1] (fun v6_2 w =>
 callM Tryd.prog 52 #[a1, v6_2] (fun v7_3 w =>
 oM Tryd.prog (.unOp .not 4 (.tmp 0)) 4 [v7_3] (fun v8_4 w =>
 K v8_4 w) w) w) w) w
theorem sh_51_eq (a0 : Value) (a1 : Value) (K : Value → World → Prop) (w : World) : sh_51 a0 a1 K w = code Tryd.prog (fun _ => 0) 9 (Tryd.f51.body.getD .skip) (slotsAt [a0, a1]) (retK Tryd.prog [.tmp 4] K) w := by kernel_rfl
theorem sh_51_ok {a0 a1 : Value} {K : Value → World → Prop} {w : World} (h : sh_51 a0 a1 K w) : callM Tryd.prog 51 #[a0, a1] K w :=
  calls_of_code (fun _ => 0) (fn := Tryd.f51) (rs := [.tmp 4]) Tryd.func51 rfl rfl (by kernel_rfl) (Nat.le_of_ble_eq_true rfl) ((sh_51_eq a0 a1 K w).mp h)
def sh_66 (a0 : Value) (a1 : Value) (K : Value → World → Prop) (w : World) : Prop :=
 oM Tryd.prog (.call (Go.Call.mk (.builtin .len) #[(.tmp 0)] #[24])) 3 [a0] (fun v7_1 w =>
 loopM [undef, (.int .i64 0), (.int .i64 0)] w (fun J_2 m_3 l_4 u_l_4 w0_l_4 => (fun w => (
 oM Tryd.prog (.binOp .lss 3 (.tmp 0) (.tmp 1) 3) 0 [(l_4.getD 2 undef), v7_1] (fun v9_5 w =>
 condM v9_5
 (oM Tryd.prog (.indexAddr 24 (.tmp 0) (.tmp 1)) 0 [a0, (l_4.getD 2 undef)] (fun v14_6 w =>
 oM Tryd.prog (.load 3 (.tmp 0)) 3 [v14_6] (fun v15_7 w =>
 oM Tryd.prog (.call (Go.Call.mk (.value (.tmp 0)) #[(.tmp 1)] #[3])) 4 [a1, v15_7] (fun v16_8 w =>
 condM v16_8
 (K (l_4.getD 2 undef) w)
 (oM Tryd.prog (.binOp .add 3 (.tmp 0) (.tmp 1) 3) 3 [(l_4.getD 2 undef), (.int .i64 1)] (fun v18_9 w =>
 J_2 [(l_4.getD 2 undef), (l_4.getD 1 undef), v18_9] w ∧ m_3 [(l_4.getD 2 undef), (l_4.getD 1 undef), v18_9] w < m_3 l_4 w0_l_4) w)) w) w) w)
 (K (.int .i64 (-1)) w)) w)) w0_l_4)) w
theorem sh_66_eq (a0 : Value) (a1 : Value) (K : Value → World → Prop) (w : World) : sh_66 a0 a1 K w = code Tryd.prog (fun _ => 0) 19 (Tryd.f66.body.getD .skip) (slotsAt [a0, a1]) (retK Tryd.prog [.tmp 4] K) w := by kernel_rfl
theorem sh_66_ok {a0 a1 : Value} {K : Value → World → Prop} {w : World} (h : sh_66 a0 a1 K w) : callM Tryd.prog 66 #[a0, a1] K w :=
  calls_of_code (fun _ => 0) (fn := Tryd.f66) (rs := [.tmp 4]) Tryd.func66 rfl rfl (by kernel_rfl) (Nat.le_of_ble_eq_true rfl) ((sh_66_eq a0 a1 K w).mp h)
def sh_71 (a0 : Value) (a1 : Value) (K : Value → World → Prop) (w : World) : Prop :=
 oM Tryd.prog (.binOp .neq 3 (.tmp 0) (.const (.int .i64 1)) 3) 4 [a0] (fun v5_1 w =>
 gdM (gd v5_1 true) (oM Tryd.prog (.fieldAddr 26 (.tmp 0) 0) 0 [a1]) (fun v7_2 w =>
 gdM (gd v5_1 true) (oM Tryd.prog (.load 23 (.tmp 0)) 23 [v7_2]) (fun v8_3 w =>
 gdM (gd v5_1 true) (pureM a0) (fun v9_4 w =>
 gdM (gd v5_1 true) (callM Tryd.prog 65 #[v8_3, v9_4]) (fun v10_5 w =>
 oM Tryd.prog (.pick (.tmp 0) (.tmp 1) (.tmp 2)) 4 [v5_1, v10_5, (.bool false)] (fun v11_6 w =>
 K v11_6 w) w) w) w) w) w) w
theorem sh_71_eq (a0 : Value) (a1 : Value) (K : Value → World → Prop) (w : World) : sh_71 a0 a1 K w = code Tryd.prog (fun _ => 0) 12 (Tryd.f71.body.getD .skip) (slotsAt [a0, a1]) (retK Tryd.prog [.tmp 3] K) w := by kernel_rfl
theorem sh_71_ok {a0 a1 : Value} {K : Value → World → Prop} {w : World} (h : sh_71 a0 a1 K w) : callM Tryd.prog 71 #[a0, a1] K w :=
  calls_of_code (fun _ => 0) (fn := Tryd.f71) (rs := [.tmp 3]) Tryd.func71 rfl rfl (by kernel_rfl) (Nat.le_of_ble_eq_true rfl) ((sh_71_eq a0 a1 K w).mp h)
def sh_64 (a0 : Value) (a1 : Value) (K : Value → World → Prop) (w : World) : Prop :=
 oM Tryd.prog (.fieldAddr 67 (.tmp 0) 0) 0 [a1] (fun v4_1 w =>
 oM Tryd.prog (.fieldAddr 26 (.tmp 0) 0) 0 [v4_1] (fun v5_2 w =>
 oM Tryd.prog (.load 23 (.tmp 0)) 23 [v5_2] (fun v6_3 w =>
 callM Tryd.prog 65 #[v6_3, a0] (fun v8_4 w =>
 oM Tryd.prog (.unOp .not 4 (.tmp 0)) 4 [v8_4] (fun v9_5 w =>
 K v9_5 w) w) w) w) w) w
theorem sh_64_eq (a0 : Value) (a1 : Value) (K : Value → World → Prop) (w : World) : sh_64 a0 a1 K w = code Tryd.prog (fun _ => 0) 10 (Tryd.f64.body.getD .skip) (slotsAt [a0, a1]) (retK Tryd.prog [.tmp 3] K) w := by kernel_rfl
theorem sh_64_ok {a0 a1 : Value} {K : Value → World → Prop} {w : World} (h : sh_64 a0 a1 K w) : callM Tryd.prog 64 #[a0, a1] K w :=
  calls_of_code (fun _ => 0) (fn := Tryd.f64) (rs := [.tmp 3]) Tryd.func64 rfl rfl (by kernel_rfl) (Nat.le_of_ble_eq_true rfl) ((sh_64_eq a0 a1 K w).mp h)
def sh_23 (a0 : Value) (a1 : Value) (K : Value → World → Prop) (w : World) : Prop :=
 oM Tryd.prog (.call (Go.Call.mk (.builtin .len) #[(.tmp 0)] #[24])) 3 [a0] (fun v7_1 w =>
 oM Tryd.prog (.call (Go.Call.mk (.builtin .len) #[(.tmp 0)] #[24])) 3 [a1] (fun v9_2 w =>
 oM Tryd.prog (.binOp .neq 3 (.tmp 0) (.tmp 1) 3) 4 [v7_1, v9_2] (fun v10_3 w =>
 condM v10_3
 (K (.bool false) w)
 (loopM [(.bool false), (.int .i64 0)] w (fun J_4 m_5 l_6 u_l_6 w0_l_6 => (fun w => (
 oM Tryd.prog (.call (Go.Call.mk (.builtin .len) #[(.tmp 0)] #[24])) 3 [a0] (fun v13_7 w =>
 oM Tryd.prog (.binOp .lss 3 (.tmp 0) (.tmp 1) 3) 4 [(l_6.getD 1 undef), v13_7] (fun v14_8 w =>
 condM v14_8
 (quietM w (fun C_9 => (oQ Tryd.prog (.indexAddr 24 (.tmp 0) (.tmp 1)) 0 [a0, (l_6.getD 1 undef)] C_9 (fun v19_10 =>
 oQ Tryd.prog (.load 3 (.tmp 0)) 3 [v19_10] C_9 (fun v20_11 =>
 oQ Tryd.prog (.indexAddr 24 (.tmp 0) (.tmp 1)) 0 [a1, (l_6.getD 1 undef)] C_9 (fun v23_12 =>
 oQ Tryd.prog (.load 3 (.tmp 0)) 3 [v23_12] C_9 (fun v24_13 =>
 oQ Tryd.prog (.binOp .neq 3 (.tmp 0) (.tmp 1) 3) 4 [v20_11, v24_13] C_9 (fun v25_14 =>
 ∀ w, C_9 w → (condM v25_14
 (K (.bool false) w)
 (oM Tryd.prog (.binOp .add 3 (.tmp 0) (.tmp 1) 3) 3 [(l_6.getD 1 undef), (.int .i64 1)] (fun v16_15 w =>
 J_4 [(l_6.getD 0 undef), v16_15] w ∧ m_5 [(l_6.getD 0 undef), v16_15] w < m_5 l_6 w0_l_6) w))))))))))
 (K (.bool true) w)) w) w)) w0_l_6))) w) w) w
theorem sh_23_eq (a0 : Value) (a1 : Value) (K : Value → World → Prop) (w : World) : sh_23 a0 a1 K w = code Tryd.prog (fun _ => 0) 26 (Tryd.f23.body.getD .skip) (slotsAt [a0, a1]) (retK Tryd.prog [.tmp 4] K) w := by kernel_rfl
theorem sh_23_ok {a0 a1 : Value} {K : Value → World → Prop} {w : World} (h : sh_23 a0 a1 K w) : callM Tryd.prog 23 #[a0, a1] K w :=
  calls_of_code (fun _ => 0) (fn := Tryd.f23) (rs := [.tmp 4]) Tryd.func23 rfl rfl (by kernel_rfl) (Nat.le_of_ble_eq_true rfl) ((sh_23_eq a0 a1 K w).mp h)
end Go.Proofs
namespace Go.Sh
open Go Go.RowKit
@[reducible] def cellsAre (w : World) : List (Addr × Value) → Prop
  | [] => True
  | p :: l => w.cell? p.1 = some p.2 ∧ cellsAre w l
theorem cellsAre_keep {w w' : World} : ∀ {L : List (Addr × Value)}, cellsAre w L → (∀ (a : Addr), a.block < w.heap.size → w'.cell? a = w.cell? a) → cellsAre w' L
  | [], _, _ => trivial
  | p :: l, h, k => by
    refine ⟨?_, cellsAre_keep h.2 k⟩
    have hlt : p.1.block < w.heap.size := by
      have h1 := h.1
      by_cases hc : p.1.block < w.heap.size
      · exact hc
      · unfold World.cell? at h1
        rw [Array.getElem?_eq_none (by omega)] at h1
        simp at h1
    rw [k _ hlt]; exact h.1
theorem cellsAre_keepBut {w w' : World} {g : Nat} : ∀ {L : List (Addr × Value)}, cellsAre w L → (∀ p ∈ L, p.1.block ≠ g) → (∀ (a : Addr), a.block < w.heap.size → a.block ≠ g → w'.cell? a = w.cell? a) → cellsAre w' L
  | [], _, _, _ => trivial
  | p :: l, h, hn, k => by
    refine ⟨?_, cellsAre_keepBut h.2 (fun q hq => hn q (List.mem_cons_of_mem _ hq)) k⟩
    have hlt : p.1.block < w.heap.size := by
      have h1 := h.1
      by_cases hc : p.1.block < w.heap.size
      · exact hc
      · unfold World.cell? at h1
        rw [Array.getElem?_eq_none (by omega)] at h1
        simp at h1
    rw [k _ hlt (hn p (List.mem_cons_self ..))]; exact h.1
structure Kn (w0 : World) (L : List (Addr × Value)) (w' : World) : Prop where
  below : Below w0.heap.size w0 w'
  cells : cellsAre w' L
namespace Kn
variable {w0 w w' : World} {L : List (Addr × Value)}
theorem start (w : World) : Kn w [] w := ⟨Below.refl _ _, trivial⟩
theorem next (h : Kn w0 L w) (hb : Below w.heap.size w w') : Kn w0 L w' := ⟨h.below.on hb, cellsAre_keep h.cells fun a ha => hb.cell ha⟩
theorem drew (h : Kn w0 L w) : Kn w0 L { w with drawn := w.drawn + 1 } := h.next .drawn
theorem wrote (h : Kn w0 L w) {g : Nat} (hg : w.grownBy w' (some g)) (h0 : w0.heap.size ≤ g) (hn : ∀ p ∈ L, p.1.block ≠ g) : Kn w0 L w' :=
  ⟨h.below.grown hg h.below.size (fun k hk => by cases hk; exact h0),
    cellsAre_keepBut h.cells hn fun a ha hna => World.cell?_of_block (w := w) (hg.block _ ha (fun e => hna (Option.some.inj e)))⟩
end Kn
@[reducible] def cellsOf (L : List (Addr × Value)) (b : Nat) : Nat → List Value → List (Addr × Value)
  | _, [] => L
  | i, v :: l => (⟨b, i, none⟩, v) :: cellsOf L b (i + 1) l
theorem cellsOf_are {w : World} {b : Nat} {xs : List Value} {L : List (Addr × Value)} (hL : cellsAre w L) (h : ∀ (i : Nat) (v : Value), xs[i]? = some v → w.cell? ⟨b, i, none⟩ = some v) : ∀ (l : List Value) (i : Nat), xs.drop i = l → cellsAre w (cellsOf L b i l)
  | [], _, _ => hL
  | v :: l, i, e => by
    have hv : xs[i]? = some v := by
      have := congrArg (·[0]?) e
      simpa using this
    refine ⟨h i v hv, cellsOf_are hL h l (i + 1) ?_⟩
    have := congrArg List.tail e
    simpa using this
def Mine (w : World) (g : Nat) (n : Nat) : Prop := ∃ cur T, w.heap[g]? = some (.cells cur T (0, 0)) ∧ cur.size = n
theorem Mine.next {w w' : World} {g n : Nat} (h : Mine w g n) (hb : Below w.heap.size w w') : Mine w' g n := by
  obtain ⟨cur, T, h1, h2⟩ := h
  refine ⟨cur, T, ?_, h2⟩
  rw [hb.block g (Array.getElem?_eq_some_iff.1 h1).1]; exact h1
section
variable {P : Program} {w0 w : World} {K : Value → World → Prop} {T T' : TypeId} {L : List (Addr × Value)}
theorem box_kn {x : Value} {cs : List Value} (hx : x.cells = cs.toArray) (hk : Kn w0 L w) (k : ∀ b W, Kn w0 (cellsOf L b 0 cs) W → Below w.heap.size w W → w.heap.size ≤ b → K (.pointer (some ⟨b, 0, none⟩)) W) : oM P (.box T (.tmp 0)) T' [x] K w :=
  box_in hx fun g W h1 h2 h3 => k g W ⟨(hk.next h1).below, cellsOf_are (xs := cs) (hk.next h1).cells (fun i v hi => h3 W (Below.refl _ _) i v hi) cs 0 rfl⟩ h1 h2
end
end Go.Sh
namespace TkSpec
open FdSpec
structure Stp where
  g : Grp
  bases : List Int
  blind : Int
deriving DecidableEq
structure Bld where
  s : Int
  u : Int
  v : Int
  ys : List Int
deriving DecidableEq
structure Tkt where
  mark : Int
  first : Int
  z : Int
  a : Int
  b : Int
  r : Int
deriving DecidableEq
structure Spd where
  dare : Int
  answers : List Int
deriving DecidableEq
structure Off where
  z : Int
  a : Int
  b : Int
deriving DecidableEq
def otherM (g : Grp) (x : Int) : Bool := !decide (x = 1) && elemG g x
def validS (s : Stp) : Bool := validG s.g && decide (2 ≤ s.bases.length) && decide (s.bases.length ≤ 7) && s.bases.all (otherM s.g) && otherM s.g s.blind
def numsM (s : Stp) (least : Int) (l : List Int) : Bool := l.all fun n => decide (least ≤ n) && decide (n < s.g.Q)
def elementsM (s : Stp) (l : List Int) : Bool := l.all (elemG s.g)
def genM (s : Stp) (k : Int) : Int := powerG s.g s.g.G k
def timesM (s : Stp) (first : Int) (l : List Int) : Int := l.foldl (fun a x => timesG s.g a x) first
def mulQ (s : Stp) (first : Int) (l : List Int) : Int := l.foldl (fun a x => mulM s.g.Q a x) first
def overQ (s : Stp) (a b : Int) : Int := mulQ s a [powM s.g.Q b (-1)]
def plusQ (s : Stp) (a b : Int) : Int := addM s.g.Q a b
def lessQ (s : Stp) (a b : Int) : Int := subM s.g.Q a b
def expsM (attrs : List Int) : List Int := 1 :: attrs
def markM (s : Stp) (attrs : List Int) : Int × Bool :=
  if validS s && decide (attrs.length + 1 = s.bases.length) && numsM s 0 attrs && !decide (attrs.headD 0 = 0) then ((prodG s.g s.bases (expsM attrs)).1, true) else (0, false)
def usableM (s : Stp) (attrs : List Int) : Int × Bool := ((markM s attrs).1, (markM s attrs).2 && !decide ((markM s attrs).1 = 1))
def publicM (s : Stp) (x : Int) : Int := if validS s && numsM s 1 [x] then genM s x else 0
def proposeM (s : Stp) (x : Int) (attrs : List Int) (w : Int) : Off × Int :=
  if (usableM s attrs).2 && numsM s 1 [x] && numsM s 0 [w] then (⟨powerG s.g (usableM s attrs).1 x, genM s w, powerG s.g (usableM s attrs).1 w⟩, 0) else (⟨0, 0, 0⟩, 1)
def blindsM (s : Stp) (b : Bld) : Bool := numsM s 1 [b.s, b.u] && numsM s 0 [b.v] && decide (b.ys.length = s.bases.length) && numsM s 0 b.ys
def grantM (s : Stp) (x w c : Int) : Int := if validS s && numsM s 1 [x] && numsM s 0 [w, c] then plusQ s (mulQ s c [x]) w else 0
def useM (s : Stp) (attrs : List Int) (b : Bld) (dare : Int) : Spd × Bool :=
  if (usableM s attrs).2 && blindsM s b && numsM s 1 [dare] then (⟨dare, ((expsM attrs).zip b.ys).map fun p => plusQ s p.2 (mulQ s dare [b.s, p.1])⟩, true) else (⟨0, []⟩, false)
def formedM (s : Stp) (t : Tkt) : Bool := validS s && !decide (t.mark = 1) && elementsM s [t.mark, t.first, t.z, t.a, t.b] && numsM s 0 [t.r]
def acceptsM (s : Stp) (t : Tkt) (x : Spd) : Bool :=
  if formedM s t && numsM s 1 [x.dare] && decide (x.answers.length = s.bases.length) && numsM s 0 x.answers then decide ((prodG s.g s.bases x.answers).1 = timesM s (powerG s.g t.mark x.dare) [t.first]) else false
def gapsM (s : Stp) (t : Tkt) (a b : Spd) : List Int × Bool :=
  if decide (a.dare = b.dare) || !acceptsM s t a || !acceptsM s t b then ([], false)
  else ((a.answers.zip b.answers).map fun p => lessQ s p.1 p.2, !decide (((a.answers.zip b.answers).map fun p => lessQ s p.1 p.2).headD 0 = 0))
def traceM (s : Stp) (t : Tkt) (a b : Spd) : List Int × Bool :=
  if (gapsM s t a b).2 then ((gapsM s t a b).1.tail.map fun n => overQ s n ((gapsM s t a b).1.headD 0), true) else ([], false)
def guiltyM (s : Stp) (t : Tkt) (a b : Spd) (attrs : List Int) : Bool :=
  if (gapsM s t a b).2 && decide (attrs.length + 1 = (gapsM s t a b).1.length) && numsM s 0 attrs then
    (attrs.zip (gapsM s t a b).1.tail).all fun p => decide (mulQ s p.1 [(gapsM s t a b).1.headD 0] = p.2)
  else false
def s0 : Stp := ⟨⟨23, 11, 4⟩, [4, 16, 18], 3⟩
def b0 : Bld := ⟨4, 1, 0, [1, 2, 3]⟩
def t0 : Tkt := ⟨8, 18, 9, 16, 13, 0⟩
theorem sane_facts :
    proposeM s0 3 [5, 7] 2 = (⟨9, 16, 13⟩, 0) ∧ useM s0 [5, 7] b0 2 = (⟨2, [9, 9, 4]⟩, true) ∧ useM s0 [5, 7] b0 5 = (⟨5, [10, 3, 0]⟩, true) ∧
    traceM s0 t0 ⟨2, [9, 9, 4]⟩ ⟨5, [10, 3, 0]⟩ = ([5, 7], true) ∧ (traceM s0 t0 ⟨2, [9, 9, 4]⟩ ⟨2, [9, 9, 4]⟩).2 = false ∧
    markM s0 [5, 7] = (6, true) ∧ (usableM s0 [5, 7]).2 = true ∧ (usableM s0 [5, 0]).2 = false ∧ publicM s0 3 = 18 ∧ publicM s0 0 = 0 ∧ grantM s0 3 2 6 = 9 ∧
    acceptsM s0 t0 ⟨2, [9, 9, 4]⟩ = true ∧ acceptsM s0 t0 ⟨5, [10, 3, 0]⟩ = true ∧ acceptsM s0 t0 ⟨3, [9, 9, 4]⟩ = false ∧ guiltyM s0 t0 ⟨2, [9, 9, 4]⟩ ⟨5, [10, 3, 0]⟩ [5, 7] = true := by
  decide +kernel
end TkSpec
namespace Go.Proofs
open Go Go.Sh Go.RowKit FdSpec TkSpec
set_option linter.unusedSimpArgs false
set_option linter.unusedVariables false
set_option maxRecDepth 10000
section
variable {K : Value → World → Prop} {w : World}
@[reducible] def stpV (s : Stp) (v : Value) : Value := .agg #[.int .i64 s.g.P, .int .i64 s.g.Q, .int .i64 s.g.G, v, .int .i64 s.blind]
@[reducible] def stpC (s : Stp) (v : Value) : List Value := [.int .i64 s.g.P, .int .i64 s.g.Q, .int .i64 s.g.G, v, .int .i64 s.blind]
structure SetR (w : World) (s : Stp) (v : Value) : Prop where
  grp : GrpR s.g
  ints : Ints w v s.bases
  blind : I64 s.blind
  db : DbT w
theorem DbT.next {w w' : World} (h : DbT w) (hb : Below w.heap.size w w') : DbT w' := h.below hb (Nat.le_refl _)
theorem SetR.next {w w' : World} {s : Stp} {v : Value} (h : SetR w s v) (hb : Below w.heap.size w w') : SetR w' s v := ⟨h.grp, h.ints.next hb, h.blind, h.db.next hb⟩
theorem other_ok (g : Grp) (x : Int) {b : Nat} (hg : GrpR g) (hT : DbT w) (h0 : w.cell? ⟨b, 0, none⟩ = some (.int .i64 g.P)) (h1 : w.cell? ⟨b, 1, none⟩ = some (.int .i64 g.Q)) (h2 : w.cell? ⟨b, 2, none⟩ = some (.int .i64 g.G))
    (k : ∀ w', Below w.heap.size w w' → K (.bool (otherM g x)) w') : callM Tryd.prog 71 #[.int .i64 x, .pointer (some ⟨b, 0, none⟩)] K w := by
  apply sh_71_ok
  unfold sh_71
  unfold otherM at k
  by_cases hx : x = 1
  · have k := k w (Below.refl _ _)
    repeat (any_goals (first
    | (with_reducible first|((refine idGd ?_); ((refine idGdN ?_); refine zM ?_))|((refine idPick ?_); refine yG ?_))
    | ((with_reducible refine idO ?_); (with_reducible refine oM_gen fun Kv hK=>?_); simp [go_sem, h0, h1, h2]; refine hK _ _ ?_; clear hK; clear Kv)))
    simpa [hx] using k
  · repeat (any_goals (first
    | (with_reducible first|refine pureM_in ?_|((refine idGd ?_); ((refine idGdN ?_); refine zL ?_)))
    | ((with_reducible refine idO ?_); (with_reducible refine oM_gen fun Kv hK=>?_); simp [go_sem, h0, h1, h2]; refine hK _ _ ?_; clear hK; clear Kv)))
    refine Element_ok g x hg hT (fun w' hw => ?_)
    have k := k w' hw
    repeat (any_goals (with_reducible ((refine idPick ?_); refine yF ?_)))
    simpa [hx] using k
def VsJ (s : Stp) (L : List (Addr × Value)) (R : Bool) (w0 : World) (l : List Value) (w' : World) : Prop := Kn w0 L w' ∧ ∃ (v u : Value) (i : Nat), l = [v, u, .int .i64 (i : Int)] ∧ i ≤ s.bases.length ∧ (s.bases.drop i).all (otherM s.g) = R
def vsMu (n : Nat) (l : List Value) (_ : World) : Nat := match l with | [_, _, .int _ i] => n - i.toNat | _ => 0
theorem vsMu_eq (n : Nat) (x y : Value) (q : IntKind) (i : Int) (w : World) : vsMu n [x, y, .int q i] w = n - i.toNat := rfl
theorem ValidSetup_ok (s : Stp) {v : Value} (hs : SetR w s v) (k : ∀ w', Below w.heap.size w w' → K (.bool (validS s)) w') : callM Tryd.prog 61 #[stpV s v] K w := by
  apply sh_61_ok
  unfold sh_61
  obtain ⟨ad, c, rfl⟩ := hs.ints.isSlice
  refine box_kn (cs := stpC s (.slice ad s.bases.length c)) rfl (.start w) fun b W hk hb1 hb => ?_
  have k2 : ∀ w' r, validS s = r → Below w.heap.size w w' → K (.bool r) w' := fun w' r e hb => by rw [← e]; exact k w' hb
  have e0 : validS s = (validG s.g && decide (2 ≤ s.bases.length) && decide (s.bases.length ≤ 7) && s.bases.all (otherM s.g) && otherM s.g s.blind) := rfl
  have hl := hs.ints.len
  clear k
  repeat (any_goals ((with_reducible refine idO ?_); (with_reducible refine oM_gen fun Kv hK=>?_); simp [go_sem, hk.cells]; refine hK _ _ ?_; clear hK; clear Kv))
  refine ValidGroup_ok s.g hs.grp (hs.db.next hk.below) (fun w1 h1 => ?_)
  have hk := hk.next h1
  clear h1 hb1
  cases hv : validG s.g with
  | false =>
    repeat (any_goals (first
    | (with_reducible first|((refine idGd ?_); refine zD ?_)|((refine idPick ?_); refine yB ?_)|((refine idCond ?_); refine yL ?_))
    | ((with_reducible refine idO ?_); (with_reducible refine oM_gen fun Kv hK=>?_); simp [go_sem]; refine hK _ _ ?_; clear hK; clear Kv)))
    exact k2 _ _ (by rw [e0, hv]; simp) hk.below
  | true =>
    repeat (any_goals (first
    | (with_reducible first|((refine idGd ?_); first|refine zC ?_|((refine idGdD ?_); first|refine zI ?_|refine zJ ?_|refine zK (fun hg=>?_) fun hg=>?_))|((refine idPick ?_); first|refine yC ?_|refine yD ?_|refine yE ?_)|((refine idCond ?_); first|refine yL ?_|refine yP (fun hg=>?_) fun hg=>?_))
    | ((with_reducible refine idO ?_); (with_reducible refine oM_gen fun Kv hK=>?_); simp [go_sem, hk.cells]; refine hK _ _ ?_; clear hK; clear Kv)))
    · exact k2 _ _ (by rw [e0]; simp; omega) hk.below
    · exact k2 _ _ (by rw [e0]; simp; omega) hk.below
    have e1 : validS s = (s.bases.all (otherM s.g) && otherM s.g s.blind) := by
      rw [e0, hv, decide_eq_true (by omega : 2 ≤ s.bases.length), decide_eq_true (by omega : s.bases.length ≤ 7)]; rfl
    refine ⟨VsJ s _ (s.bases.all (otherM s.g)) w, vsMu s.bases.length, ⟨hk, _, _, 0, rfl, by omega, rfl⟩, ?_⟩
    generalize s.bases.all (otherM s.g) = R at *
    rintro _ _ w2 ⟨hk, u1, u2, i, rfl, hi, hall⟩
    have hc := hk.cells
    by_cases hin : i = s.bases.length
    · rw [List.drop_of_length_le (by omega), List.all_nil] at hall
      subst hall
      repeat (any_goals (first
      | (with_reducible ((refine idCond ?_); refine yO ?_))
      | ((with_reducible refine idO ?_); (with_reducible refine oM_gen fun Kv hK=>?_); simp [go_sem, hc]; refine hK _ _ ?_; clear hK; clear Kv)))
      refine oM_callv1 (by kernel_rfl) ?_
      refine other_ok s.g s.blind hs.grp (hs.db.next hk.below) hc.1 hc.2.1 hc.2.2.1 (fun w3 h3 => ?_)
      exact k2 _ _ (by rw [e1, Bool.true_and]) (hk.next h3).below
    · rw [List.drop_eq_getElem_cons (by omega), List.all_cons] at hall
      obtain ⟨b1, o1, rfl, hb1, ca, ra, _⟩ := hs.ints.at (i := i) (by omega)
      repeat (any_goals (first
      | (with_reducible ((refine idCond ?_); refine yN ?_))
      | ((with_reducible refine idO ?_); (with_reducible refine oM_gen fun Kv hK=>?_); simp [go_sem, ca _ hk.below]; (first|refine hK _ _ ?_|refine And.intro (by omega) (hK _ _ ?_)); clear hK; clear Kv)))
      refine oM_callv1 (by kernel_rfl) ?_
      refine other_ok s.g _ hs.grp (hs.db.next hk.below) hc.1 hc.2.1 hc.2.2.1 (fun w3 h3 => ?_)
      cases ho : otherM s.g s.bases[i] with
      | false =>
        rw [ho, Bool.false_and] at hall
        subst hall
        repeat (any_goals (first
        | (with_reducible ((refine idCond ?_); refine yL ?_))
        | ((with_reducible refine idO ?_); (with_reducible refine oM_gen fun Kv hK=>?_); simp [go_sem]; refine hK _ _ ?_; clear hK; clear Kv)))
        exact k2 _ _ (by rw [e1, Bool.false_and]) (hk.next h3).below
      | true =>
        rw [ho, Bool.true_and] at hall
        repeat (any_goals (first
        | (with_reducible ((refine idCond ?_); refine yM ?_))
        | ((with_reducible refine idO ?_); (with_reducible refine oM_gen fun Kv hK=>?_); simp [go_sem]; (try simp (disch := omega) only [wrapI64, wrapU8, wrapU32, wrapU64]); refine hK _ _ ?_; clear hK; clear Kv)))
        refine ⟨⟨hk.next h3, _, _, i + 1, rfl, by omega, hall⟩, ?_⟩
        simp only [vsMu_eq]; omega
end
end Go.Proofs
namespace Go.Proofs
open Go Go.Sh Go.RowKit FdSpec TkSpec
set_option linter.unusedSimpArgs false
set_option linter.unusedVariables false
set_option maxRecDepth 10000
section
variable {K : Value → World → Prop} {w w0 : World} {L : List (Addr × Value)}
theorem ints_alloc (w : World) (l : List Int) (T : TypeId) (c : Nat) (hr : ∀ n ∈ l, I64 n) (hl : l.length ≤ 9223372036854775807) : Ints (w.alloc (.cells (l.map (Value.int .i64)).toArray T)) (.slice (some ⟨w.heap.size, 0, none⟩) l.length c) l := by
  refine ⟨⟨_, c, rfl, by simp, ?_⟩, hr, hl⟩
  by_cases h0 : l = []
  · exact .inl h0
  · refine .inr ⟨_, 0, rfl, by simp, fun k x hk => ?_⟩
    rw [flat_int] at hk
    rw [Nat.zero_add]
    have := World.cell?_alloc_at (w := w) (l.map (Value.int .i64)).toArray T w.heap.size k rfl
    rw [this]
    simpa using hk
theorem mk1 {T : TypeId} (x : Int) (hx : I64 x) (k : ∀ v W, Below w.heap.size w W → Ints W v [x] → K v W) : oM Tryd.prog (.buildSlice 24 1 #[(0, .tmp 0)]) T [.int .i64 x] K w := by
  rw [oM_buildSlice1]
  have e : (Instr.buildSlice 24 1 #[(0, .int .i64 x)]).run Tryd.prog w = .ok (.slice (some ⟨w.heap.size, 0, none⟩) 1 1) (w.alloc (.cells #[.int .i64 x] 3)) := by kernel_rfl
  rw [e]
  exact k _ _ ((Below.refl _ w).alloc (Nat.le_refl _) _) (ints_alloc w [x] _ 1 (by simpa using hx) (by simp))
theorem mk2 {T : TypeId} (x y : Int) (hx : I64 x) (hy : I64 y) (k : ∀ v W, Below w.heap.size w W → Ints W v [x, y] → K v W) : oM Tryd.prog (.buildSlice 24 2 #[(0, .tmp 0), (1, .tmp 1)]) T [.int .i64 x, .int .i64 y] K w := by
  rw [oM_buildSlice2]
  have e : (Instr.buildSlice 24 2 #[(0, .int .i64 x), (1, .int .i64 y)]).run Tryd.prog w = .ok (.slice (some ⟨w.heap.size, 0, none⟩) 2 2) (w.alloc (.cells #[.int .i64 x, .int .i64 y] 3)) := by kernel_rfl
  rw [e]
  exact k _ _ ((Below.refl _ w).alloc (Nat.le_refl _) _) (ints_alloc w [x, y] _ 2 (by simp; exact ⟨hx, hy⟩) (by simp))
def IfJ (p : Int → Bool) (l : List Int) (R : Bool) (w0 : World) (vs : List Value) (w' : World) : Prop := Below w0.heap.size w0 w' ∧ ∃ (v u : Value) (i : Nat), vs = [v, u, .int .i64 (i : Int)] ∧ i ≤ l.length ∧ (l.drop i).any p = R
theorem IndexFunc_ok {v F : Value} {l : List Int} (p : Int → Bool) (hl : Ints w v l)
    (hF : ∀ (w' : World) (x : Int) (K' : Value → World → Prop) (T : TypeId), Below w.heap.size w w' → I64 x → (∀ w'', Below w'.heap.size w' w'' → K' (.bool (p x)) w'') → oM Tryd.prog (.call { callee := .value (.tmp 0), args := #[.tmp 1], argTypes := #[3] }) T [F, .int .i64 x] K' w')
    (k : ∀ w' (r : Int), Below w.heap.size w w' → decide (0 ≤ r) = l.any p → K (.int .i64 r) w') : callM Tryd.prog 66 #[v, F] K w := by
  apply sh_66_ok
  unfold sh_66
  obtain ⟨ad, c, rfl⟩ := hl.isSlice
  have hll := hl.len
  repeat (any_goals ((with_reducible refine idO ?_); (with_reducible refine oM_gen fun Kv hK=>?_); simp [go_sem]; refine hK _ _ ?_; clear hK; clear Kv))
  refine ⟨IfJ p l (l.any p) w, vsMu l.length, ⟨Below.refl _ _, _, _, 0, rfl, by omega, rfl⟩, ?_⟩
  generalize l.any p = R at *
  rintro _ _ w1 ⟨h1, u1, u2, i, rfl, hi, ha⟩
  by_cases hin : i = l.length
  · rw [List.drop_of_length_le (by omega), List.any_nil] at ha
    repeat (any_goals (first
    | (with_reducible ((refine idCond ?_); refine yO ?_))
    | ((with_reducible refine idO ?_); (with_reducible refine oM_gen fun Kv hK=>?_); simp [go_sem]; refine hK _ _ ?_; clear hK; clear Kv)))
    exact k _ _ h1 (by rw [← ha]; rfl)
  · rw [List.drop_eq_getElem_cons (by omega), List.any_cons] at ha
    obtain ⟨b1, o1, rfl, hb1, ca, ra, _⟩ := hl.at (i := i) (by omega)
    repeat (any_goals (first
    | (with_reducible ((refine idCond ?_); refine yN ?_))
    | ((with_reducible refine idO ?_); (with_reducible refine oM_gen fun Kv hK=>?_); simp [go_sem, ca _ h1]; (first|refine hK _ _ ?_|refine And.intro (by omega) (hK _ _ ?_)); clear hK; clear Kv)))
    refine hF w1 _ _ _ h1 ra (fun w2 h2 => ?_)
    cases hp : p l[i] with
    | true =>
      rw [hp, Bool.true_or] at ha
      repeat (any_goals (with_reducible ((refine idCond ?_); refine yL ?_)))
      exact k _ _ (h1.on h2) (by rw [← ha]; simp)
    | false =>
      rw [hp, Bool.false_or] at ha
      repeat (any_goals (first
      | (with_reducible ((refine idCond ?_); refine yM ?_))
      | ((with_reducible refine idO ?_); (with_reducible refine oM_gen fun Kv hK=>?_); simp [go_sem]; (try simp (disch := omega) only [wrapI64, wrapU8, wrapU32, wrapU64]); refine hK _ _ ?_; clear hK; clear Kv)))
      refine ⟨⟨h1.on h2, _, _, i + 1, rfl, by omega, ha⟩, ?_⟩
      simp only [vsMu_eq]; omega
theorem ContainsFunc_ok {v F : Value} {l : List Int} (p : Int → Bool) (hl : Ints w v l)
    (hF : ∀ (w' : World) (x : Int) (K' : Value → World → Prop) (T : TypeId), Below w.heap.size w w' → I64 x → (∀ w'', Below w'.heap.size w' w'' → K' (.bool (p x)) w'') → oM Tryd.prog (.call { callee := .value (.tmp 0), args := #[.tmp 1], argTypes := #[3] }) T [F, .int .i64 x] K' w')
    (k : ∀ w', Below w.heap.size w w' → K (.bool (l.any p)) w') : callM Tryd.prog 52 #[v, F] K w := by
  apply sh_52_ok
  unfold sh_52
  refine IndexFunc_ok p hl hF (fun w' r hb hr => ?_)
  repeat (any_goals ((with_reducible refine idO ?_); (with_reducible refine oM_gen fun Kv hK=>?_); simp [go_sem]; refine hK _ _ ?_; clear hK; clear Kv))
  rw [hr]
  exact k _ hb
theorem numsM_any (s : Stp) (least : Int) (l : List Int) : numsM s least l = !(l.any fun n => decide (n < least) || decide (s.g.Q ≤ n)) := by
  unfold numsM
  rw [List.not_any_eq_all_not]
  congr 1
  funext n
  by_cases h1 : n < least <;> by_cases h2 : s.g.Q ≤ n <;> simp [h1, h2] <;> omega
theorem elementsM_any (s : Stp) (l : List Int) : elementsM s l = !(l.any fun n => !elemG s.g n) := by
  unfold elementsM
  rw [List.not_any_eq_all_not]
  congr 1
  funext n
  simp
theorem numsF_ok (s : Stp) (least x : Int) {b d : Nat} (h0 : w.cell? ⟨b, 0, none⟩ = some (.int .i64 least)) (h1 : w.cell? ⟨d, 1, none⟩ = some (.int .i64 s.g.Q)) (h : K (.bool (decide (x < least) || decide (s.g.Q ≤ x))) w) :
    callM Tryd.prog 53 #[.int .i64 x, .pointer (some ⟨b, 0, none⟩), .pointer (some ⟨d, 0, none⟩)] K w := by
  apply sh_53_ok
  unfold sh_53
  by_cases hx : x < least
  · repeat (any_goals (first
    | (with_reducible first|((refine idGd ?_); ((refine idGdD ?_); refine zJ ?_))|((refine idPick ?_); refine yD ?_))
    | ((with_reducible refine idO ?_); (with_reducible refine oM_gen fun Kv hK=>?_); simp [go_sem, h0, h1]; refine hK _ _ ?_; clear hK; clear Kv)))
    simpa [hx] using h
  · repeat (any_goals (first
    | (with_reducible first|refine pureM_in ?_|((refine idGd ?_); ((refine idGdD ?_); refine zI ?_))|((refine idPick ?_); refine yE ?_))
    | ((with_reducible refine idO ?_); (with_reducible refine oM_gen fun Kv hK=>?_); simp [go_sem, h0, h1]; refine hK _ _ ?_; clear hK; clear Kv)))
    simpa [hx] using h
theorem nums_ok (s : Stp) (least : Int) {dv v : Value} {l : List Int} (hs : SetR w s dv) (hl : Ints w v l) (k : ∀ w', Below w.heap.size w w' → K (.bool (numsM s least l)) w') : callM Tryd.prog 30 #[stpV s dv, .int .i64 least, v] K w := by
  apply sh_30_ok
  unfold sh_30
  obtain ⟨ad, c, rfl⟩ := hs.ints.isSlice
  refine box_kn (cs := stpC s (.slice ad s.bases.length c)) rfl (.start w) fun b W hk hb1 hb => ?_
  refine box_kn (cs := [.int .i64 least]) rfl hk fun b2 W2 hk hb2 hbb => ?_
  repeat (any_goals ((with_reducible refine idO ?_); (with_reducible refine oM_gen fun Kv hK=>?_); simp [go_sem]; refine hK _ _ ?_; clear hK; clear Kv))
  refine ContainsFunc_ok (fun n => decide (n < least) || decide (s.g.Q ≤ n)) (hl.next hk.below) ?_ ?_
  · intro w' x K' T hb _ h'
    refine oM_callv1 (by kernel_rfl) ?_
    have hk := (hk.next hb).cells
    exact numsF_ok s least x hk.1 hk.2.2.1 (h' _ (Below.refl _ _))
  · intro w' hb
    repeat (any_goals ((with_reducible refine idO ?_); (with_reducible refine oM_gen fun Kv hK=>?_); simp [go_sem]; refine hK _ _ ?_; clear hK; clear Kv))
    rw [← numsM_any]
    exact k _ (hk.next hb).below
theorem elemF_ok (s : Stp) (x : Int) {d : Nat} (hg : GrpR s.g) (hT : DbT w) (h0 : w.cell? ⟨d, 0, none⟩ = some (.int .i64 s.g.P)) (h1 : w.cell? ⟨d, 1, none⟩ = some (.int .i64 s.g.Q)) (h2 : w.cell? ⟨d, 2, none⟩ = some (.int .i64 s.g.G)) (k : ∀ w', Below w.heap.size w w' → K (.bool (!elemG s.g x)) w') :
    callM Tryd.prog 64 #[.int .i64 x, .pointer (some ⟨d, 0, none⟩)] K w := by
  apply sh_64_ok
  unfold sh_64
  repeat (any_goals ((with_reducible refine idO ?_); (with_reducible refine oM_gen fun Kv hK=>?_); simp [go_sem, h0, h1, h2]; refine hK _ _ ?_; clear hK; clear Kv))
  refine Element_ok s.g x hg hT (fun w' hb => ?_)
  repeat (any_goals ((with_reducible refine idO ?_); (with_reducible refine oM_gen fun Kv hK=>?_); simp [go_sem]; refine hK _ _ ?_; clear hK; clear Kv))
  exact k _ hb
theorem elements_ok (s : Stp) {dv v : Value} {l : List Int} (hs : SetR w s dv) (hl : Ints w v l) (k : ∀ w', Below w.heap.size w w' → K (.bool (elementsM s l)) w') : callM Tryd.prog 51 #[stpV s dv, v] K w := by
  apply sh_51_ok
  unfold sh_51
  obtain ⟨ad, c, rfl⟩ := hs.ints.isSlice
  refine box_kn (cs := stpC s (.slice ad s.bases.length c)) rfl (.start w) fun b W hk hb1 hb => ?_
  repeat (any_goals ((with_reducible refine idO ?_); (with_reducible refine oM_gen fun Kv hK=>?_); simp [go_sem]; refine hK _ _ ?_; clear hK; clear Kv))
  refine ContainsFunc_ok (fun n => !elemG s.g n) (hl.next hk.below) ?_ ?_
  · intro w' x K' T hb _ h'
    refine oM_callv1 (by kernel_rfl) ?_
    have hk := hk.next hb
    have hc := hk.cells
    exact elemF_ok s x hs.grp (hs.db.next hk.below) hc.1 hc.2.1 hc.2.2.1 h'
  · intro w' hb
    repeat (any_goals ((with_reducible refine idO ?_); (with_reducible refine oM_gen fun Kv hK=>?_); simp [go_sem]; refine hK _ _ ?_; clear hK; clear Kv))
    rw [← elementsM_any]
    exact k _ (hk.next hb).below
theorem tpower_ok (s : Stp) (x n : Int) {dv : Value} (hs : SetR w s dv) (k : ∀ w', Below w.heap.size w w' → K (.int .i64 (powerG s.g x n)) w') : callM Tryd.prog 33 #[stpV s dv, .int .i64 x, .int .i64 n] K w := by
  apply sh_33_ok
  unfold sh_33
  obtain ⟨ad, c, rfl⟩ := hs.ints.isSlice
  refine box_kn (cs := stpC s (.slice ad s.bases.length c)) rfl (.start w) fun b W hk hb1 hb => ?_
  repeat (any_goals ((with_reducible refine idO ?_); (with_reducible refine oM_gen fun Kv hK=>?_); simp [go_sem, hk.cells]; refine hK _ _ ?_; clear hK; clear Kv))
  refine Power_ok s.g x n (fun w2 h2 => ?_)
  exact k _ (hk.next h2).below
theorem generated_ok (s : Stp) (n : Int) {dv : Value} (hs : SetR w s dv) (k : ∀ w', Below w.heap.size w w' → K (.int .i64 (genM s n)) w') : callM Tryd.prog 44 #[stpV s dv, .int .i64 n] K w := by
  apply sh_44_ok
  unfold sh_44
  obtain ⟨ad, c, rfl⟩ := hs.ints.isSlice
  refine box_kn (cs := stpC s (.slice ad s.bases.length c)) rfl (.start w) fun b W hk hb1 hb => ?_
  repeat (any_goals ((with_reducible refine idO ?_); (with_reducible refine oM_gen fun Kv hK=>?_); simp [go_sem, hk.cells]; refine hK _ _ ?_; clear hK; clear Kv))
  refine tpower_ok s _ n (hs.next hk.below) (fun w2 h2 => ?_)
  exact k _ (hk.next h2).below
theorem plus_ok (s : Stp) (x n : Int) {dv : Value} (hs : SetR w s dv) (k : ∀ w', Below w.heap.size w w' → K (.int .i64 (plusQ s x n)) w') : callM Tryd.prog 47 #[stpV s dv, .int .i64 x, .int .i64 n] K w := by
  apply sh_47_ok
  unfold sh_47
  obtain ⟨ad, c, rfl⟩ := hs.ints.isSlice
  refine box_kn (cs := stpC s (.slice ad s.bases.length c)) rfl (.start w) fun b W hk hb1 hb => ?_
  repeat (any_goals ((with_reducible refine idO ?_); (with_reducible refine oM_gen fun Kv hK=>?_); simp [go_sem, hk.cells]; refine hK _ _ ?_; clear hK; clear Kv))
  refine Add_ok _ x n ?_
  exact k _ hk.below
theorem less_ok (s : Stp) (x n : Int) {dv : Value} (hs : SetR w s dv) (k : ∀ w', Below w.heap.size w w' → K (.int .i64 (lessQ s x n)) w') : callM Tryd.prog 50 #[stpV s dv, .int .i64 x, .int .i64 n] K w := by
  apply sh_50_ok
  unfold sh_50
  obtain ⟨ad, c, rfl⟩ := hs.ints.isSlice
  refine box_kn (cs := stpC s (.slice ad s.bases.length c)) rfl (.start w) fun b W hk hb1 hb => ?_
  repeat (any_goals ((with_reducible refine idO ?_); (with_reducible refine oM_gen fun Kv hK=>?_); simp [go_sem, hk.cells]; refine hK _ _ ?_; clear hK; clear Kv))
  refine Sub_ok _ x n ?_
  exact k _ hk.below
theorem product_t_ok (s : Stp) {dv ev : Value} {es : List Int} (hs : SetR w s dv) (he : Ints w ev es) (k : ∀ w', Below w.heap.size w w' → K (.int .i64 (prodG s.g s.bases es).1) w') : callM Tryd.prog 31 #[stpV s dv, ev] K w := by
  apply sh_31_ok
  unfold sh_31
  have hi := hs.ints
  obtain ⟨ad, c, rfl⟩ := hs.ints.isSlice
  refine box_kn (cs := stpC s (.slice ad s.bases.length c)) rfl (.start w) fun b W hk hb1 hb => ?_
  repeat (any_goals ((with_reducible refine idO ?_); (with_reducible refine oM_gen fun Kv hK=>?_); simp [go_sem, hk.cells]; refine hK _ _ ?_; clear hK; clear Kv))
  refine Product_ok s.g (hi.next hk.below) (he.next hk.below) (fun w2 h2 => ?_)
  repeat (any_goals ((with_reducible refine idO ?_); (with_reducible refine oM_gen fun Kv hK=>?_); simp [go_sem]; refine hK _ _ ?_; clear hK; clear Kv))
  exact k _ (hk.next h2).below
def TmJ (f : Int → Int → Int) (l : List Int) (R : Int) (L : List (Addr × Value)) (w0 : World) (vs : List Value) (w' : World) : Prop := Kn w0 L w' ∧ ∃ (v : Value) (o : Int) (i : Nat), vs = [v, .int .i64 o, .int .i64 (i : Int)] ∧ i ≤ l.length ∧ (l.drop i).foldl f o = R
theorem times_ok (s : Stp) (x : Int) {dv v : Value} {l : List Int} (hs : SetR w s dv) (hl : Ints w v l) (k : ∀ w', Below w.heap.size w w' → K (.int .i64 (timesM s x l)) w') : callM Tryd.prog 32 #[stpV s dv, .int .i64 x, v] K w := by
  apply sh_32_ok
  unfold sh_32
  obtain ⟨ad, c, rfl⟩ := hs.ints.isSlice
  refine box_kn (cs := stpC s (.slice ad s.bases.length c)) rfl (.start w) fun b W hk hb1 hb => ?_
  obtain ⟨ad2, c2, rfl⟩ := hl.isSlice
  have hll := hl.len
  repeat (any_goals ((with_reducible refine idO ?_); (with_reducible refine oM_gen fun Kv hK=>?_); simp [go_sem]; refine hK _ _ ?_; clear hK; clear Kv))
  unfold timesM at k
  refine ⟨TmJ (fun a x => timesG s.g a x) l _ _ w, vsMu l.length, ⟨hk, _, _, 0, rfl, by omega, rfl⟩, ?_⟩
  rintro _ _ w1 ⟨hk, u1, o, i, rfl, hi, ha⟩
  by_cases hin : i = l.length
  · rw [List.drop_of_length_le (by omega), List.foldl_nil] at ha
    repeat (any_goals (first
    | (with_reducible ((refine idCond ?_); refine yO ?_))
    | ((with_reducible refine idO ?_); (with_reducible refine oM_gen fun Kv hK=>?_); simp [go_sem]; refine hK _ _ ?_; clear hK; clear Kv)))
    rw [ha]
    exact k _ hk.below
  · rw [List.drop_eq_getElem_cons (by omega), List.foldl_cons] at ha
    obtain ⟨b1, o1, rfl, hb1, ca, ra, _⟩ := hl.at (i := i) (by omega)
    repeat (any_goals (first
    | (with_reducible ((refine idCond ?_); refine yN ?_))
    | ((with_reducible refine idO ?_); (with_reducible refine oM_gen fun Kv hK=>?_); simp [go_sem, ca _ hk.below, hk.cells]; (first|refine hK _ _ ?_|refine And.intro (by omega) (hK _ _ ?_)); clear hK; clear Kv)))
    refine Times_ok s.g _ _ (fun w2 h2 => ?_)
    repeat (any_goals ((with_reducible refine idO ?_); (with_reducible refine oM_gen fun Kv hK=>?_); simp [go_sem]; (try simp (disch := omega) only [wrapI64, wrapU8, wrapU32, wrapU64]); refine hK _ _ ?_; clear hK; clear Kv))
    refine ⟨⟨hk.next h2, _, _, i + 1, rfl, by omega, ha⟩, ?_⟩
    simp only [vsMu_eq]; omega
theorem mul_ok (s : Stp) (x : Int) {dv v : Value} {l : List Int} (hs : SetR w s dv) (hl : Ints w v l) (k : ∀ w', Below w.heap.size w w' → K (.int .i64 (mulQ s x l)) w') : callM Tryd.prog 39 #[stpV s dv, .int .i64 x, v] K w := by
  apply sh_39_ok
  unfold sh_39
  obtain ⟨ad, c, rfl⟩ := hs.ints.isSlice
  refine box_kn (cs := stpC s (.slice ad s.bases.length c)) rfl (.start w) fun b W hk hb1 hb => ?_
  obtain ⟨ad2, c2, rfl⟩ := hl.isSlice
  have hll := hl.len
  repeat (any_goals ((with_reducible refine idO ?_); (with_reducible refine oM_gen fun Kv hK=>?_); simp [go_sem]; refine hK _ _ ?_; clear hK; clear Kv))
  unfold mulQ at k
  refine ⟨TmJ (fun a x => mulM s.g.Q a x) l _ _ w, vsMu l.length, ⟨hk, _, _, 0, rfl, by omega, rfl⟩, ?_⟩
  rintro _ _ w1 ⟨hk, u1, o, i, rfl, hi, ha⟩
  by_cases hin : i = l.length
  · rw [List.drop_of_length_le (by omega), List.foldl_nil] at ha
    repeat (any_goals (first
    | (with_reducible ((refine idCond ?_); refine yO ?_))
    | ((with_reducible refine idO ?_); (with_reducible refine oM_gen fun Kv hK=>?_); simp [go_sem]; refine hK _ _ ?_; clear hK; clear Kv)))
    rw [ha]
    exact k _ hk.below
  · rw [List.drop_eq_getElem_cons (by omega), List.foldl_cons] at ha
    obtain ⟨b1, o1, rfl, hb1, ca, ra, _⟩ := hl.at (i := i) (by omega)
    repeat (any_goals (first
    | (with_reducible ((refine idCond ?_); refine yN ?_))
    | ((with_reducible refine idO ?_); (with_reducible refine oM_gen fun Kv hK=>?_); simp [go_sem, ca _ hk.below, hk.cells]; (first|refine hK _ _ ?_|refine And.intro (by omega) (hK _ _ ?_)); clear hK; clear Kv)))
    refine Mul_ok _ _ _ (fun w2 h2 => ?_)
    repeat (any_goals ((with_reducible refine idO ?_); (with_reducible refine oM_gen fun Kv hK=>?_); simp [go_sem]; (try simp (disch := omega) only [wrapI64, wrapU8, wrapU32, wrapU64]); refine hK _ _ ?_; clear hK; clear Kv))
    refine ⟨⟨hk.next h2, _, _, i + 1, rfl, by omega, ha⟩, ?_⟩
    simp only [vsMu_eq]; omega
end
end Go.Proofs
namespace Go.Sh
open Go Go.RowKit
theorem cells_lt {w : World} : ∀ {L : List (Addr × Value)}, cellsAre w L → ∀ p ∈ L, p.1.block < w.heap.size
  | p :: l, h, q, hq => by
    rcases List.mem_cons.1 hq with rfl | hq
    · have h1 := h.1
      by_cases hc : q.1.block < w.heap.size
      · exact hc
      · unfold World.cell? at h1
        rw [Array.getElem?_eq_none (by omega)] at h1
        simp at h1
    · exact cells_lt h.2 q hq
structure KnM (w0 : World) (L : List (Addr × Value)) (g n : Nat) (w' : World) : Prop where
  kn : Kn w0 L w'
  mine : Mine w' g n
  base : w0.heap.size ≤ g
  off : ∀ p ∈ L, p.1.block ≠ g
theorem mine_lt {w : World} {g n : Nat} (h : Mine w g n) : g < w.heap.size := by
  obtain ⟨cur, T, h1, _⟩ := h
  exact (Array.getElem?_eq_some_iff.1 h1).1
theorem cellsOf_mem {L : List (Addr × Value)} {b : Nat} : ∀ (cs : List Value) (i : Nat) (p : Addr × Value), p ∈ cellsOf L b i cs → p.1.block = b ∨ p ∈ L
  | [], _, _, h => .inr h
  | _ :: l, i, p, h => by
    rcases List.mem_cons.1 h with rfl | h
    · exact .inl rfl
    · exact cellsOf_mem l (i + 1) p h
namespace KnM
variable {w0 w w' : World} {L : List (Addr × Value)} {g n : Nat}
theorem next (h : KnM w0 L g n w) (hb : Below w.heap.size w w') : KnM w0 L g n w' := ⟨h.kn.next hb, h.mine.next hb, h.base, h.off⟩
theorem drew (h : KnM w0 L g n w) : KnM w0 L g n { w with drawn := w.drawn + 1 } := h.next .drawn
theorem cells (h : KnM w0 L g n w) : cellsAre w L := h.kn.cells
theorem below (h : KnM w0 L g n w) : Below w0.heap.size w0 w := h.kn.below
end KnM
section
variable {P : Program} {w0 w : World} {K : Value → World → Prop} {T T' : TypeId} {L : List (Addr × Value)} {g n : Nat}
theorem alloc_mine {zs : List Value} (hA : ∀ w, (Instr.alloc T true (.tuple #[])).run P w = .ok (.pointer (some ⟨w.heap.size, 0, none⟩)) (w.alloc (.cells zs.toArray T))) (hn : zs.length = n) (hk : Kn w0 L w)
    (k : ∀ g W, KnM w0 L g n W → Below w.heap.size w W → w.heap.size ≤ g → K (.pointer (some ⟨g, 0, none⟩)) W) : oM P (.alloc T) T' [] K w := by
  rw [oM_alloc, hA]
  have hb := (Below.refl w.heap.size w).alloc (Nat.le_refl _) (.cells zs.toArray T)
  refine k _ _ ⟨hk.next hb, ⟨zs.toArray, T, ?_, by simpa using hn⟩, hk.below.size, fun p hp => ?_⟩ hb (Nat.le_refl _)
  · show (w.heap.push _)[w.heap.size]? = _
    simp
  · have := cells_lt hk.cells p hp
    omega
theorem store_run {x : Value} {xs : List Value} {W : World} (hT : ∀ w, (sizeOf T).run P w = .ok n w) (hx : x.cells = xs.toArray) (hl : xs.length = n) (h1 : ∀ u ∈ xs, u.oneCell' = true) (hm : Mine w g n) :
    ∃ W, (Instr.storeAt T (.pointer (some ⟨g, 0, none⟩)) x).run P w = .ok () W ∧ w.grownBy W (some g) ∧ Mine W g n ∧ cellsAre W (cellsOf [] g 0 xs) := by
  obtain ⟨cur, T0, hg, hc⟩ := hm
  have hst := run_storeCells_at P g 0 T0 xs 0 cur w hg (by omega) h1
  have e1 : (cur.toList.take (0 + 0) ++ xs ++ cur.toList.drop (0 + 0 + xs.length)).toArray = xs.toArray := by
    rw [List.drop_of_length_le (by simp; omega)]
    simp
  rw [e1] at hst
  have hh := setRow_heap w g cur xs.toArray T0 (0, 0) hg
  refine ⟨w.setRow g xs.toArray, ?_, grown_setRow _ _ _, ⟨_, _, hh, by simpa using hl⟩, cellsOf_are (xs := xs) (L := []) trivial (fun i v hi => ?_) xs 0 rfl⟩
  · have e2 : x.cells.toList = xs := by rw [hx]
    have e3 : x.cells.size = n := by rw [hx]; simpa using hl
    unfold Instr.storeAt storeVar
    rw [e2, e3]
    simp [hT, go_sem]
    exact hst
  · unfold World.cell?
    rw [hh]
    simpa using hi
theorem store_mine {x : Value} {xs : List Value} (hT : ∀ w, (sizeOf T).run P w = .ok n w) (hx : x.cells = xs.toArray) (hl : xs.length = n) (h1 : ∀ u ∈ xs, u.oneCell' = true) (hk : KnM w0 L g n w)
    (k : ∀ W, KnM w0 L g n W → cellsAre W (cellsOf [] g 0 xs) → K undef W) : oM P (.store T (.tmp 0) (.tmp 1)) T' [.pointer (some ⟨g, 0, none⟩), x] K w := by
  obtain ⟨W, e, hg, hm, hc⟩ := store_run (W := w) hT hx hl h1 hk.mine
  rw [oM_store, e]
  exact k W ⟨hk.kn.wrote hg hk.base hk.off, hm, hk.base, hk.off⟩ hc
theorem local_kn {zs : List Value} {x : Value} {xs : List Value} {T2 : TypeId} {K : Value → World → Prop} (hA : ∀ w, (Instr.alloc T true (.tuple #[])).run P w = .ok (.pointer (some ⟨w.heap.size, 0, none⟩)) (w.alloc (.cells zs.toArray T))) (hn : zs.length = n)
    (hT : ∀ w, (sizeOf T).run P w = .ok n w) (hx : x.cells = xs.toArray) (hl : xs.length = n) (h1 : ∀ u ∈ xs, u.oneCell' = true) (hk : Kn w0 L w)
    (k : ∀ b W, Kn w0 (cellsOf L b 0 xs) W → Below w.heap.size w W → w.heap.size ≤ b → K (.pointer (some ⟨b, 0, none⟩)) W) :
    oM P (.alloc T) T' [] (fun v w => oM P (.store T (.tmp 0) (.tmp 1)) T2 [v, x] (fun _ w => K v w) w) w := by
  refine alloc_mine hA hn hk fun g W hk2 hb hg => ?_
  obtain ⟨W2, e, hgr, hm, hc⟩ := store_run (W := w) hT hx hl h1 hk2.mine
  rw [oM_store, e]
  have hb2 : Below w.heap.size w W2 := hb.grown hgr hb.size (fun k hk => by cases hk; exact hg)
  refine k g W2 ⟨(hk2.kn.wrote hgr hk2.base hk2.off).below, ?_⟩ hb2 hg
  have hL := (hk2.kn.wrote hgr hk2.base hk2.off).cells
  clear e k
  have : ∀ (l : List Value) (i : Nat), cellsAre W2 (cellsOf [] g i l) → cellsAre W2 (cellsOf L g i l) := by
    intro l
    induction l with
    | nil => intro i _; exact hL
    | cons a l ih => intro i h; exact ⟨h.1, ih (i + 1) h.2⟩
  exact this xs 0 hc
theorem local_knm {zs : List Value} {x : Value} {xs : List Value} {T2 : TypeId} {K : Value → World → Prop} {m : Nat} (hA : ∀ w, (Instr.alloc T true (.tuple #[])).run P w = .ok (.pointer (some ⟨w.heap.size, 0, none⟩)) (w.alloc (.cells zs.toArray T))) (hn : zs.length = m)
    (hT : ∀ w, (sizeOf T).run P w = .ok m w) (hx : x.cells = xs.toArray) (hl : xs.length = m) (h1 : ∀ u ∈ xs, u.oneCell' = true) (hk : KnM w0 L g n w)
    (k : ∀ b W, KnM w0 (cellsOf L b 0 xs) g n W → Below w.heap.size w W → w.heap.size ≤ b → K (.pointer (some ⟨b, 0, none⟩)) W) :
    oM P (.alloc T) T' [] (fun v w => oM P (.store T (.tmp 0) (.tmp 1)) T2 [v, x] (fun _ w => K v w) w) w :=
  local_kn hA hn hT hx hl h1 hk.kn fun b W hk' h1 h2 => k b W ⟨hk', hk.mine.next h1, hk.base, fun p hp => (cellsOf_mem xs 0 p hp).elim (fun e => by have := mine_lt hk.mine; omega) (hk.off p)⟩ h1 h2
variable {C : World → Prop} {KQ : Value → Prop} {x y v : Value} {p : Prop} [Decidable p]
theorem idOH {o : Op} {l : List Value} (h : oH P o T l C KQ) : oH P o T l C KQ := h
theorem idGdH {c : Bool} {m : (World → Prop) → (Value → Prop) → Prop} (h : gdH c m C KQ) : gdH c m C KQ := h
theorem gdH_conv {c : Bool} {m : (World → Prop) → (Value → Prop) → Prop} (h : ∀ W0, gdM c (fun K' w => m C (fun v => K' v w)) (fun v _ => KQ v) W0) : gdH c m C KQ := by
  have h := h ⟨#[], default, 0, default, default⟩
  cases c <;> exact h
theorem pickH {b : Bool} (k : KQ (bif b then x else y)) : oH P (.pick (.tmp 0) (.tmp 1) (.tmp 2)) T [.bool b, x, y] C KQ := by
  refine ⟨_, fun w _ => ?_, k⟩
  simp [xop, execOp, evalL, evE, asBool]
theorem pickHT (k : KQ x) : oH P (.pick (.tmp 0) (.tmp 1) (.tmp 2)) T [.bool true, x, y] C KQ := pickH k
theorem pickHF (k : KQ y) : oH P (.pick (.tmp 0) (.tmp 1) (.tmp 2)) T [.bool false, x, y] C KQ := pickH k
theorem vA (k : KQ x) : oH P (.pick (.tmp 0) (.tmp 1) (.tmp 2)) T [.bool true, x, y] C KQ := pickHT k
theorem vB (k : KQ y) : oH P (.pick (.tmp 0) (.tmp 1) (.tmp 2)) T [.bool false, x, y] C KQ := pickHF k
end
end Go.Sh
namespace Go.Proofs
open Go Go.Sh Go.RowKit FdSpec TkSpec
set_option linter.unusedSimpArgs false
set_option linter.unusedVariables false
set_option maxRecDepth 10000
section
variable {K : Value → World → Prop} {w w0 : World} {L : List (Addr × Value)}
theorem sz_desk (w : World) : (sizeOf 67).run Tryd.prog w = .ok 5 w := by kernel_rfl
theorem al_desk (w : World) : (Instr.alloc 67 true (.tuple #[])).run Tryd.prog w = .ok (.pointer (some ⟨w.heap.size, 0, none⟩)) (w.alloc (.cells [.int .i64 0, .int .i64 0, .int .i64 0, .slice none 0 0, .int .i64 0].toArray 67)) := by kernel_rfl
theorem stp_one (s : Stp) (ad : Option Addr) (n c : Nat) : ∀ u ∈ stpC s (.slice ad n c), u.oneCell' = true := by
  intro u hu
  simp only [stpC, List.mem_cons, List.not_mem_nil, or_false] at hu
  rcases hu with rfl | rfl | rfl | rfl | rfl <;> rfl
theorem open_ok (s : Stp) {v : Value} (hs : SetR w s v) (k : ∀ w', Below w.heap.size w w' → K (.tuple #[stpV s v, .bool (validS s)]) w') : callM Tryd.prog 48 #[stpV s v] K w := by
  apply sh_48_ok
  unfold sh_48
  obtain ⟨ad, c, rfl⟩ := hs.ints.isSlice
  refine box_kn (cs := stpC s (.slice ad s.bases.length c)) rfl (.start w) fun b W hk hb1 hb => ?_
  refine alloc_mine al_desk rfl hk fun g W2 hk hb2 hg => ?_
  refine ⟨KnM w _ g 5, hk.drew, ?_⟩
  have hk := hk.drew
  have hone := stp_one s ad s.bases.length c
  repeat (any_goals ((with_reducible refine idOH ?_); (with_reducible refine oH_of ⟨_, rfl⟩ (fun W0 hW0 => by (refine oM_gen (fun Kv hK => ?_)); simp [go_sem, hW0.cells]; (first | exact hK _ _ ⟨rfl, rfl⟩ | exact ⟨by omega, hK _ _ ⟨rfl, rfl⟩⟩)) ?_)))
  refine ⟨?_, ?_⟩
  · repeat (any_goals ((with_reducible refine idO ?_); (with_reducible refine oM_gen fun Kv hK=>?_); simp [go_sem]; refine hK _ _ ?_; clear hK; clear Kv))
    refine ⟨hk, ?_⟩
    refine ValidSetup_ok s (hs.next hk.below) (fun w2 h2 => ?_)
    have hk := hk.next h2
    refine ⟨hk, ?_⟩
    refine store_mine sz_desk rfl rfl hone hk (fun W3 hk hc => ?_)
    exact ⟨hk, hk, _, by simp [go_sem, hc], k _ hk.below⟩
  · refine ValidSetup_ok s (hs.next hk.below) (fun w2 h2 => ?_)
    have hk := hk.next h2
    refine ⟨hk, ?_⟩
    repeat (any_goals ((with_reducible refine idO ?_); (with_reducible refine oM_gen fun Kv hK=>?_); simp [go_sem]; refine hK _ _ ?_; clear hK; clear Kv))
    refine ⟨hk, ?_⟩
    refine store_mine sz_desk rfl rfl hone hk (fun W3 hk hc => ?_)
    exact ⟨hk, hk, _, by simp [go_sem, hc], k _ hk.below⟩
end
end Go.Proofs
set_option linter.all false
namespace Go.Proofs
open Go.Shelf
def Tryd.laysNm2_21_ren : Go.Shelf.Ren := ⟨fun | 21 => 59 | 27 => 69 | 28 => 70 | 35 => 77 | 39 => 82 | n => n, fun | 22 => 24 | 3 => 3 | 4 => 4 | 0 => 0 | n => n, fun | n => n⟩
theorem Tryd.laysNm2_21 : Go.Proofs.Lays2.n21 Tryd.prog Tryd.laysNm2_21_ren := {
  mixed := by kernel_rfl
  f21 := Tryd.func59.trans (congrArg some (by kernel_rfl))
  f27 := Tryd.func69.trans (congrArg some (by kernel_rfl))
  f28 := Tryd.func70.trans (congrArg some (by kernel_rfl))
  f35 := Tryd.func77.trans (congrArg some (by kernel_rfl))
  f39 := Tryd.func82.trans (congrArg some (by kernel_rfl))
  t0 := Tryd.underlying0
  a0 := Tryd.isAgg0
  z0 := Tryd.sizeOf0
  v0 := Tryd.zeroValue0
  t3 := Tryd.underlying3
  a3 := Tryd.isAgg3
  z3 := Tryd.sizeOf3
  v3 := Tryd.zeroValue3
  t4 := Tryd.underlying4
  a4 := Tryd.isAgg4
  z4 := Tryd.sizeOf4
  v4 := Tryd.zeroValue4
  t22 := Tryd.underlying24
  a22 := Tryd.isAgg24
  z22 := Tryd.sizeOf24
  v22 := Tryd.zeroValue24
  i3 := by kernel_rfl }
end Go.Proofs
namespace Go.Proofs
open Go Go.Sh Go.RowKit FdSpec TkSpec
set_option linter.unusedSimpArgs false
set_option linter.unusedVariables false
set_option maxRecDepth 10000
section
variable {K : Value → World → Prop} {w w0 : World} {L : List (Addr × Value)}
theorem eqNil_at {P : Program} {w : World} {K : Value → World → Prop} {t e T : TypeId} {a : Option Addr} {n c : Nat} (ht : P.underlying t = some (.slice e)) (k : K (.bool a.isNone) w) : oM P (.binOp .eql t (.tmp 0) (.const (.slice none 0 0)) t) T [.slice a n c] K w := by
  rw [oM_eqc]
  have := Lib.run_eql_slice_nil (P := P) w t e a n c 0 0 ht
  simp only [Sem.run_bind]
  have h2 : (eqGuard .eql t (.tmp 0) (.const (.slice none 0 0)) (.slice a n c) (.slice none 0 0)).run P w = .ok () w := by
    simp [eqGuard]
  rw [h2, Result.andThen_ok, this]
  exact k
theorem below_set {B : Nat} {a : World} (g : Nat) (hg : B ≤ g) : ∀ (vs : List Value) (o : Nat) (w : World), Below B a w → Below B a (w.setCells g o vs)
  | [], _, _, h => h
  | v :: r, o, w, h => below_set g hg r (o + 1) _ (h.setCell (p := ⟨g, o, none⟩) hg v)
theorem some_set (b : Nat) (vs : List Value) (o : Nat) (w : World) (h : ∀ j, j < vs.length → (w.cell? ⟨b, o + j, none⟩).isSome = true) (k : Nat) (hk : (w.cell? ⟨b, k, none⟩).isSome = true) : ((w.setCells b o vs).cell? ⟨b, k, none⟩).isSome = true := by
  by_cases hin : o ≤ k ∧ k < o + vs.length
  · have := World.cell?_setCells_in b vs o w h (k - o) (by omega)
    rw [show o + (k - o) = k by omega] at this
    rw [this]; rfl
  · rw [World.cell?_setCells_out b vs o w ⟨b, k, none⟩ (fun _ _ => by show k < o ∨ o + vs.length ≤ k; omega)]
    exact hk
theorem shifted1 {w : World} {g : Nat} {x : Value} {cs : List Value} (h : ∀ j, j < cs.length + 1 → (w.cell? ⟨g, j, none⟩).isSome = true) (k : Nat) (v : Value) (hk : (x :: cs)[k]? = some v) : ((w.setCells g 1 cs).setCells g 0 [x]).cell? ⟨g, k, none⟩ = some v := by
  have h1 : ∀ j, j < cs.length → (w.cell? ⟨g, 1 + j, none⟩).isSome = true := fun j hj => h _ (by omega)
  cases k with
  | zero =>
    have := World.cell?_setCells_in g [x] 0 (w.setCells g 1 cs) (fun j hj => by
      have : j = 0 := by simpa using hj
      subst this
      exact some_set g cs 1 w h1 0 (h 0 (by omega))) 0 (by simp)
    rw [this]
    simpa using hk
  | succ k =>
    have hlt : k < cs.length := by
      have := (List.getElem?_eq_some_iff.1 hk).1
      simpa using this
    rw [World.cell?_setCells_out g [x] 0 _ ⟨g, k + 1, none⟩ (fun _ _ => by show k + 1 < 0 ∨ 0 + 1 ≤ k + 1; omega)]
    have := World.cell?_setCells_in g cs 1 w h1 k hlt
    rw [show k + 1 = 1 + k by omega, this, ← hk]
    simp [hlt]
theorem shifted2 {w : World} {g : Nat} {x : Value} {cs : List Value} (h : ∀ j, j < cs.length + 1 → (w.cell? ⟨g, j, none⟩).isSome = true) (k : Nat) (v : Value) (hk : (x :: cs)[k]? = some v) : ((w.setCells g 0 [x]).setCells g 1 cs).cell? ⟨g, k, none⟩ = some v := by
  have h1 : ∀ j, j < [x].length → (w.cell? ⟨g, 0 + j, none⟩).isSome = true := fun j hj => h _ (by simp at hj; omega)
  cases k with
  | zero =>
    rw [World.cell?_setCells_out g cs 1 _ ⟨g, 0, none⟩ (fun _ _ => by show 0 < 1 ∨ 1 + cs.length ≤ 0; omega)]
    have := World.cell?_setCells_in g [x] 0 w h1 0 (by simp)
    rw [this]
    simpa using hk
  | succ k =>
    have hlt : k < cs.length := by
      have := (List.getElem?_eq_some_iff.1 hk).1
      simpa using this
    have := World.cell?_setCells_in g cs 1 (w.setCells g 0 [x]) (fun j hj => some_set g [x] 0 w h1 (1 + j) (h _ (by omega))) k hlt
    rw [show k + 1 = 1 + k by omega, this, ← hk]
    simp [hlt]
theorem Clone_ok {v : Value} {l : List Int} (hr : Ints w v l) (hl : l.length < 1099511627776) (k : ∀ v' w', w'.ownsRow 0 3 1 v' l.length (flat intC l) → Below w.heap.size w w' → (∀ i, v'.ownBlock = some i → w.heap.size ≤ i) → K v' w') : callM Tryd.prog 60 #[v] K w := by
  apply sh_60_ok
  unfold sh_60
  have hi := hr.row
  obtain ⟨ad, c, rfl, h0, hc⟩ := id hi
  refine eqNil_at (e := 3) (by kernel_rfl) ?_
  cases ad with
  | none =>
    obtain ⟨hl0, rfl⟩ := h0 rfl
    obtain rfl : l = [] := List.eq_nil_of_length_eq_zero hl0
    simp only [Option.isNone_none]
    repeat (any_goals (with_reducible ((refine idCond ?_); refine yL ?_)))
    exact k _ _ (World.ownsRow_nil _ _ _ _) (Below.refl _ _) (fun i hi => by cases hi)
  | some a =>
    simp only [Option.isNone_some]
    repeat (any_goals (first
    | (with_reducible ((refine idCond ?_); refine yM ?_))
    | ((with_reducible refine idO ?_); (with_reducible refine oM_gen fun Kv hK=>?_); simp [go_sem]; refine hK _ _ ?_; clear hK; clear Kv)))
    have hr2 : RowR intC 1 (w.alloc (.cells #[] 3)) (.slice (some a) l.length c) l := hi.keep (by rw [alloc_size]; omega) (fun i _ hi => heap_alloc_old _ _ hi)
    refine clone_at 24 24 3 ((Tryd.prog.info? 3).getD default) (.int .i64 0) 1 8 (by kernel_rfl) (by kernel_rfl) (by kernel_rfl) (by kernel_rfl) (by kernel_rfl) (by kernel_rfl) (by omega) (fun _ => rfl) (fun x u hu => by simp [intC] at hu; subst hu; rfl) hr2 (World.ownsRow_lit w #[] 0 (Nat.zero_le _) (Nat.zero_le _) rfl) (B := w.heap.size) (by rw [alloc_size]; omega) (fun i hi => by cases hi; exact Nat.le_refl _) (by omega) (by omega) ?_
    intro v' w' ho hg hv
    exact k v' w' ho (((Below.refl _ _).alloc (Nat.le_refl _) _).grown hg (by rw [alloc_size]; omega) (fun i hi => by cases hi; exact Nat.le_refl _)) hv
theorem Insert_ok {g c : Nat} {l : List Int} {x : Int} {b : Nat} (hne : 0 < l.length) (hl : l.length < 1099511627776) (ho : w.ownsRow 0 3 1 (.slice (some ⟨g, 0, none⟩) l.length c) l.length (flat intC l)) {B : Nat} (hB : B ≤ g) (hBw : B ≤ w.heap.size)
    (hx : w.heap[b]? = some (.cells #[.int .i64 x] 3 (0, 0))) (hbg : b ≠ g) (hr : ∀ n ∈ l, I64 n) (hrx : I64 x) (k : ∀ v' w', Ints w' v' (x :: l) → Below B w w' → (∀ i, Value.inBlock v' = some i → B ≤ i) → K v' w') :
    callM Tryd.prog 59 #[.slice (some ⟨g, 0, none⟩) l.length c, .int .i64 0, .slice (some ⟨b, 0, none⟩) 1 1] K w := by
  obtain ⟨g', cap, cur, hv, hgw, _, hgb, hcs, hcap, hcell⟩ := owns_cells ho hne
  cases hv
  have hxc : ∀ (j : Nat) (v : Value), [Value.int .i64 x][j]? = some v → w.cell? ⟨b, 0 + j, none⟩ = some v := by
    intro j v hj
    rw [cell_of_block hx]
    simpa using hj
  have hcc : ∀ (j : Nat) (v : Value), (flat intC l)[j]? = some v → w.cell? ⟨g, 0 + j, none⟩ = some v := by
    intro j v hj
    rw [Nat.zero_add]
    exact hcell j v hj
  have h1 : ∀ v ∈ flat intC l, v.oneCell' = true := by
    intro v hv
    rw [flat_int] at hv
    obtain ⟨n, _, rfl⟩ := List.mem_map.1 hv
    rfl
  have h1x : ∀ v ∈ [Value.int .i64 x], v.oneCell' = true := by
    intro v hv
    simp at hv
    subst hv
    rfl
  have hfl : (flat intC l).length = l.length := by rw [flat_int]; simp
  have hbw : b < w.heap.size := (Array.getElem?_eq_some_iff.1 hx).1
  have hxx : ∀ n ∈ x :: l, I64 n := by
    intro n hn
    rcases List.mem_cons.1 hn with rfl | hn
    · exact hrx
    · exact hr n hn
  have hlx : (flat intC (x :: l)) = .int .i64 x :: flat intC l := rfl
  have hcm : c ≤ 9223372036854775807 := by
    rcases ho.2 with ⟨h0, _⟩ | ⟨g2, cap2, cur2, hv2, _, _, _, hm2, _⟩
    · cases h0
    · cases hv2
      simp only [maxLen] at hm2
      omega
  by_cases hroom : l.length + 1 ≤ c
  · have hsm : ∀ j, j < l.length + 1 → (w.cell? ⟨g, j, none⟩).isSome = true := by
      intro j hj
      rw [cell_of_block hgb]
      simp
      omega
    have h := Any2.slices_Insert_int_shift Tryd.laysNm2_21 g 0 l.length c 0 b 0 1 1 (flat intC l) [.int .i64 x] w (by omega) (by omega) hroom hcm hbg hfl rfl hcc (fun j hj => by rw [Nat.zero_add]; exact hsm j hj)
      (fun j hj => by unfold World.frozen?; rw [hgb]; simp) hxc h1 h1x 3 3 1 cur.size (by unfold World.shape?; rw [hx]; rfl) (by unfold World.shape?; rw [hgb]) (by omega) (by unfold World.frozen?; rw [hx]; simp) (by unfold World.frozen?; rw [hx]; simp)
    refine Calls.mono h ?_
    rintro e w' ⟨rfl, rfl⟩
    have hb2 : ∀ B' : Nat, B' ≤ g → Below B' w ((w.drew.setCells g (0 + (0 + 1)) (List.drop 0 (flat intC l))).setCells g (0 + 0) [Value.int .i64 x]) := fun B' hB' =>
      below_set g hB' _ _ _ (below_set g hB' _ _ _ (Below.refl _ w).drew)
    refine ⟨_, rfl, k _ _ ⟨⟨_, c, rfl, by simp, .inr ⟨g, 0, rfl, Nat.lt_of_lt_of_le hgw (hb2 0 (Nat.zero_le _)).size, fun j v hj => ?_⟩⟩, hxx, by simp; omega⟩ (hb2 B hB) (fun i hi => by cases hi; exact hB)⟩
    simp only [Nat.zero_add, Nat.add_zero, List.drop_zero]
    rw [hlx] at hj
    exact shifted1 (w := w.drew) (fun j hj => hsm j (by rw [hfl] at hj; exact hj)) j v hj
  · have h := Any2.slices_Insert_int_grow Tryd.laysNm2_21 g 0 l.length c 0 b 0 1 1 (flat intC l) [.int .i64 x] w (by omega) (by omega) (by omega) (by omega) (by omega) hfl rfl hcc hxc h1 h1x
    refine Calls.mono h ?_
    rintro e w' ⟨rfl, rfl⟩
    have hG := grownCap_ge w (l.length + 1) c 3
    have e3 : Tryd.laysNm2_21_ren.t 3 = 3 := rfl
    rw [e3]
    generalize grownCap w (l.length + 1) c 3 = G at *
    simp only [List.take_zero, List.drop_zero, Nat.zero_add, Nat.add_zero, Nat.sub_zero]
    have hsm : ∀ j, j < (flat intC l).length + 1 → ((w.alloc (.cells (([] : List Value).toArray ++ Builtin.zeroCells (Value.int .i64 0).cells (l.length + 1) ++ Builtin.zeroCells (Value.int .i64 0).cells (G - (l.length + 1))) 3)).drew.cell? ⟨w.heap.size, j, none⟩).isSome = true := by
      intro j hj
      rw [hfl] at hj
      have := World.cell?_alloc_at (w := w) (([] : List Value).toArray ++ Builtin.zeroCells (Value.int .i64 0).cells (l.length + 1) ++ Builtin.zeroCells (Value.int .i64 0).cells (G - (l.length + 1))) 3 w.heap.size j rfl
      show (World.cell? _ _).isSome = true
      refine (congrArg Option.isSome this).trans ?_
      rw [Array.getElem?_eq_getElem (by simp [Builtin.zeroCells, Value.cells]; omega)]
      rfl
    generalize hW : w.alloc (.cells (([] : List Value).toArray ++ Builtin.zeroCells (Value.int .i64 0).cells (l.length + 1) ++ Builtin.zeroCells (Value.int .i64 0).cells (G - (l.length + 1))) 3) = W at *
    have hbW : Below w.heap.size w W := by rw [← hW]; exact (Below.refl _ w).alloc (Nat.le_refl _) _
    have hWs : w.heap.size < W.heap.size := by rw [← hW, alloc_size]; omega
    have hb2 : Below w.heap.size w (((W.drew.setCells w.heap.size 0 [Value.int .i64 x]).drew).setCells w.heap.size 1 (flat intC l)) :=
      below_set _ (Nat.le_refl _) _ _ _ (below_set _ (Nat.le_refl _) _ _ _ hbW.drew).drew
    have hs2 : w.heap.size < (((W.drew.setCells w.heap.size 0 [Value.int .i64 x]).drew).setCells w.heap.size 1 (flat intC l)).heap.size :=
      Nat.lt_of_lt_of_le hWs (below_set w.heap.size (Nat.zero_le _) _ _ _ (below_set w.heap.size (Nat.zero_le _) _ _ _ (Below.refl 0 W).drew).drew).size
    refine ⟨_, rfl, k _ _ ⟨⟨_, G, rfl, by simp, .inr ⟨_, 0, rfl, hs2, fun j v hj => ?_⟩⟩, hxx, by simp; omega⟩ (hb2.mono hBw) (fun i hi => by cases hi; exact hBw)⟩
    rw [Nat.zero_add]
    rw [hlx] at hj
    rw [drew_setCells]
    exact shifted2 (w := W.drew.drew) (g := w.heap.size) (x := .int .i64 x) (cs := flat intC l) hsm j v hj
end
end Go.Proofs
