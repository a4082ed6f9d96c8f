/- Parts of the proof of the seat's statements (FdB, FdC, FdE, FdF, FdG, FdH, FdI, FdJ, FdK, FdL, ShKn, TkSpec, TkA, TkB, ShKn2, TkC, ShelfI, TkD, TkE, TkF, TkG, TkH, TkI, TkJ, TkK, TkL, TkM, TkN, HTd, HTc): lemmas about the given translation and plain laws. No condition of their own. -/
import Derived.Test.YtpimhdkjpccihaaGreatDoorLab
import Derived.Lib.TrailingZeros
import Derived.Shelf.Spec.SlicesInsertGrow
import Derived.Test.YtpimhdkjpccihaaGreatDoorProg
set_option linter.all false
namespace Go.Proofs
open Go Go.Sh Go.RowKit FdSpec
set_option linter.unusedSimpArgs false
set_option linter.unusedVariables false
set_option maxRecDepth 10000
section
variable {K : Value → World → Prop} {w : World}
def dgLoop (vh vl vd : Value) (M : List Value → World → Prop) (x : List Value) (w : World) : Prop :=
  (loopM x w (fun J_30 m_31 l u_l w0_l => (fun w => (
 oM Tryz.prog (Go.Op.binOp Go.BinOp.geq 123 (.tmp 0) (.tmp 1) 123) 4 [(l.getD 0 undef), (.int .u64 4294967296)] (fun v68_33 w =>
 gdM (gd v68_33 false) (pureM (l.getD 0 undef)) (fun v70_34 w =>
 gdM (gd v68_33 false) (pureM vl) (fun v71_35 w =>
 gdM (gd v68_33 false) (oM Tryz.prog (Go.Op.binOp Go.BinOp.mul 123 (.tmp 0) (.tmp 1) 123) 123 [v70_34, v71_35]) (fun v72_36 w =>
 gdM (gd v68_33 false) (pureM (l.getD 1 undef)) (fun v73_37 w =>
 gdM (gd v68_33 false) (oM Tryz.prog (Go.Op.binOp Go.BinOp.mul 123 (.tmp 0) (.tmp 1) 123) 123 [(.int .u64 4294967296), v73_37]) (fun v74_38 w =>
 gdM (gd v68_33 false) (pureM vd) (fun v75_39 w =>
 gdM (gd v68_33 false) (oM Tryz.prog (Go.Op.binOp Go.BinOp.add 123 (.tmp 0) (.tmp 1) 123) 123 [v74_38, v75_39]) (fun v76_40 w =>
 gdM (gd v68_33 false) (oM Tryz.prog (Go.Op.binOp Go.BinOp.gtr 123 (.tmp 0) (.tmp 1) 123) 4 [v72_36, v76_40]) (fun v77_41 w =>
 oM Tryz.prog (Go.Op.pick (.tmp 0) (.tmp 1) (.tmp 2)) 4 [v68_33, (.bool true), v77_41] (fun v78_42 w =>
 condM v78_42
 (oM Tryz.prog (Go.Op.binOp Go.BinOp.sub 123 (.tmp 0) (.tmp 1) 123) 123 [(l.getD 0 undef), (.int .u64 1)] (fun v80_43 w =>
 oM Tryz.prog (Go.Op.binOp Go.BinOp.add 123 (.tmp 0) (.tmp 1) 123) 123 [(l.getD 1 undef), vh] (fun v83_44 w =>
 oM Tryz.prog (Go.Op.binOp Go.BinOp.geq 123 (.tmp 0) (.tmp 1) 123) 4 [v83_44, (.int .u64 4294967296)] (fun v85_45 w =>
 condM v85_45
 (M [v80_43, v83_44] w)
 (J_30 [v80_43, v83_44] w ∧ m_31 [v80_43, v83_44] w < m_31 l w0_l)) w) w) w)
 (M [(l.getD 0 undef), (l.getD 1 undef)] w)) w) w) w) w) w) w) w) w) w) w)) w0_l))
def DgJ (h l u d : Nat) (w : World) (x : List Value) (w' : World) : Prop := w' = w ∧ ∃ q r : Nat, x = [.int .u64 (q : Int), .int .u64 (r : Int)] ∧ Digit h l u d q r ∧ r < 4294967296
theorem dg_ok (h l u d : Nat) (M : List Value → World → Prop) (hh : 2147483648 ≤ h) (hh2 : h < 4294967296) (hl : l < 4294967296) (hd : d < 4294967296) (hu : u < h * 4294967296 + l)
    (hM : ∀ r : Nat, M [.int .u64 (((u * 4294967296 + d) / (h * 4294967296 + l) : Nat) : Int), .int .u64 (r : Int)] w) : dgLoop (.int .u64 (h : Int)) (.int .u64 (l : Int)) (.int .u64 (d : Int)) M [.int .u64 ((u / h : Nat) : Int), .int .u64 ((u - u / h * h : Nat) : Int)] w := by
  unfold dgLoop
  refine ⟨DgJ h l u d w, fun x _ => match x with | [.int _ q, _] => q.toNat | _ => 0, ⟨rfl, _, _, rfl, digit_start hh hh2 hl hd hu, ?_⟩, ?_⟩
  · have h1 := Nat.mod_lt u (show h > 0 by omega)
    have h2 := Nat.div_add_mod u h
    rw [Nat.mul_comm] at h2
    omega
  rintro _ _ w1 ⟨e1, q, r, rfl, D, hr⟩
  rw [e1]
  clear e1 w1
  have hq := D.le
  have ht := digit_test D
  have hbig := fun hb : 4294967296 ≤ q => digit_big hu hd hb
  have hstep := fun hb => digit_step D hb
  have hpos := fun hb => digit_pos D hb
  have hend := fun hb => digit_end D hb
  have hbr : ∀ hb, 4294967296 ≤ r + h → q - 1 = (u * 4294967296 + d) / (h * 4294967296 + l) := fun hb hg => digit_end (hstep hb) (digit_break (hstep hb) hl (by omega) hg)
  have hql : q < 4294967296 → q * l < 18446744073709551616 := fun hb => by
    have := Nat.mul_le_mul (show q ≤ 4294967295 by omega) (show l ≤ 4294967295 by omega)
    omega
  generalize (u * 4294967296 + d) / (h * 4294967296 + l) = Q at *
  generalize (u * 4294967296 + d < q * (h * 4294967296 + l)) = T at *
  have hmul : (q : Int) * (l : Int) = ((q * l : Nat) : Int) := (Int.natCast_mul q l).symm
  generalize q * l = ql at *
  have fin1 : (4294967296 ≤ r + h → q - 1 = Q) → 0 < q → 4294967296 ≤ r + h → M [.int .u64 ((q : Int) - 1), .int .u64 ((r : Int) + h)] w := fun a b c => by
    rw [show (q : Int) - 1 = ((q - 1 : Nat) : Int) by omega, show (r : Int) + h = ((r + h : Nat) : Int) by omega, a c]; exact hM _
  have fin2 : Digit h l u d (q - 1) (r + h) → 0 < q → ¬ 4294967296 ≤ r + h → DgJ h l u d w [.int .u64 ((q : Int) - 1), .int .u64 ((r : Int) + h)] w ∧ ((q : Int) - 1).toNat < (q : Int).toNat := fun a b c => by
    rw [show (q : Int) - 1 = ((q - 1 : Nat) : Int) by omega, show (r : Int) + h = ((r + h : Nat) : Int) by omega]
    exact ⟨⟨rfl, _, _, rfl, a, by omega⟩, by omega⟩
  by_cases hb : 4294967296 ≤ q
  · have hT := hbig hb
    have hst := hstep hT
    have hps := hpos hT
    have hbr := hbr hT
    repeat (any_goals (first
    | (with_reducible first|((refine idGd ?_); ((refine idGdD ?_); refine zJ ?_))|((refine idPick ?_); refine yD ?_)|((refine idCond ?_); first|refine yL ?_|refine yP (fun hg=>?_) fun hg=>?_))
    | ((with_reducible refine idO ?_); (with_reducible refine oM_gen fun Kv hK=>?_); simp [go_sem, hb]; (try simp (disch := omega) only [wrapI64, wrapU8, wrapU32, wrapU64]); refine hK _ _ ?_; clear hK; clear Kv)))
    · exact fin1 hbr hps (by omega)
    · exact fin2 hst hps (by omega)
  · have hql := hql (by omega)
    by_cases hT : T
    · have hst := hstep hT
      have hps := hpos hT
      have hbr := hbr hT
      have htt := ht.2 hT
      repeat (any_goals (first
      | (with_reducible first|refine pureM_in ?_|((refine idGd ?_); ((refine idGdD ?_); refine zI ?_))|((refine idPick ?_); refine yE ?_)|((refine idCond ?_); first|refine yN ?_|refine yP (fun hg=>?_) fun hg=>?_))
      | ((with_reducible refine idO ?_); (with_reducible refine oM_gen fun Kv hK=>?_); simp [go_sem, hb, hmul]; (try simp (disch := omega) only [wrapI64, wrapU8, wrapU32, wrapU64]); refine hK _ _ ?_; clear hK; clear Kv)))
      · exact fin1 hbr hps (by omega)
      · exact fin2 hst hps (by omega)
    · have he := hend hT
      have htt : ¬ _ := fun h => hT (ht.1 h)
      repeat (any_goals (first
      | (with_reducible first|refine pureM_in ?_|((refine idGd ?_); ((refine idGdD ?_); refine zI ?_))|((refine idPick ?_); refine yE ?_)|((refine idCond ?_); refine yO ?_))
      | ((with_reducible refine idO ?_); (with_reducible refine oM_gen fun Kv hK=>?_); simp [go_sem, hb, hmul]; (try simp (disch := omega) only [wrapI64, wrapU8, wrapU32, wrapU64]); refine hK _ _ ?_; clear hK; clear Kv)))
      simp only [List.getD_cons_zero, List.getD_cons_succ]
      rw [he]
      exact hM _
theorem lead64_ok (x : Nat) (hx : x < 18446744073709551616) (h : ∀ L, BitLen x L → K (.int .i64 (64 - (L : Int))) w) : callM Tryz.prog 206 #[.int .u64 (x : Int)] K w := by
  apply sh_206_ok
  unfold sh_206
  refine len64_ok x hx ?_
  intro L hL
  have := hL.le
  repeat (any_goals ((with_reducible refine idO ?_); (with_reducible refine oM_gen fun Kv hK=>?_); simp [go_sem]; (try simp (disch := omega) only [wrapI64, wrapU8, wrapU32, wrapU64]); refine hK _ _ ?_; clear hK; clear Kv))
  exact h L hL
theorem norm_len (y L : Nat) (hy : 0 < y) (hL : BitLen y L) : 9223372036854775808 ≤ y * 2 ^ (64 - L) ∧ y * 2 ^ (64 - L) < 18446744073709551616 := by
  obtain ⟨a, b⟩ := hL.ge (by omega)
  have h64 := hL.le
  have h1 : 2 ^ (L - 1) * 2 ^ (64 - L) = 9223372036854775808 := by
    rw [← Nat.pow_add, show L - 1 + (64 - L) = 63 by omega]
  have h2 : 2 ^ L * 2 ^ (64 - L) = 18446744073709551616 := by
    rw [← Nat.pow_add, show L + (64 - L) = 64 by omega]
  have hp : 0 < 2 ^ (64 - L) := Nat.pow_pos (by omega)
  exact ⟨by rw [← h1]; exact Nat.mul_le_mul_right _ b, by rw [← h2]; exact (Nat.mul_lt_mul_right hp).2 hL.lt⟩
theorem norm_top (hi lo s : Nat) (hs : s ≤ 64) (hlo : lo < 18446744073709551616) : (hi * 2 ^ s + lo / 2 ^ (64 - s)) * 18446744073709551616 + lo * 2 ^ s % 18446744073709551616 = (hi * 18446744073709551616 + lo) * 2 ^ s ∧ lo / 2 ^ (64 - s) < 2 ^ s := by
  have h2 : 2 ^ (64 - s) * 2 ^ s = 18446744073709551616 := by rw [← Nat.pow_add, show 64 - s + s = 64 by omega]
  have hp : 0 < 2 ^ s := Nat.pow_pos (by omega)
  have hq : 0 < 2 ^ (64 - s) := Nat.pow_pos (by omega)
  have h3 : lo * 2 ^ s / 18446744073709551616 = lo / 2 ^ (64 - s) := by
    rw [← h2, Nat.mul_div_mul_right _ _ hp]
  have h4 := Nat.div_add_mod (lo * 2 ^ s) 18446744073709551616
  refine ⟨?_, ?_⟩
  · rw [h3] at h4
    rw [Nat.add_mul, Nat.add_mul, Nat.mul_right_comm hi, Nat.add_assoc, Nat.mul_comm (lo / _) 18446744073709551616, h4]
  · rw [Nat.div_lt_iff_lt_mul hq, Nat.mul_comm, h2]; exact hlo
def EqW (w : World) (l : List Value) (w' : World) : Prop := w' = w
def DgE (Q : Nat) (w : World) (l : List Value) (w' : World) : Prop := w' = w ∧ ∃ r : Nat, l = [.int .u64 (Q : Int), .int .u64 (r : Int)]
theorem left_wrap (X d Y Q U : Nat) (hs : Q * Y + U = X * 4294967296 + d) (hU : U < 18446744073709551616) : IntKind.u64.wrap (IntKind.u64.wrap (IntKind.u64.wrap ((X : Int) * 4294967296) + (d : Int)) - IntKind.u64.wrap ((Q : Int) * (Y : Int))) = (U : Int) := by
  have hm : (Q : Int) * (Y : Int) = ((Q * Y : Nat) : Int) := (Int.natCast_mul Q Y).symm
  rw [hm]
  generalize Q * Y = P at *
  simp only [IntKind.wrap_u64]
  omega
theorem half_div (X h : Nat) (hX : X < 18446744073709551616) (hh : 2147483648 ≤ h) : ∃ q p r : Nat, X / h = q ∧ q * h = p ∧ X - p = r ∧ p ≤ X ∧ q < 18446744073709551616 ∧ (X : Int).tdiv (h : Int) = (q : Int) ∧ (q : Int) * (h : Int) = (p : Int) ∧ (X : Int) - (p : Int) = (r : Int) := by
  have h1 := Nat.div_mul_le_self X h
  have h2 := Nat.div_le_self X h
  refine ⟨_, _, _, rfl, rfl, rfl, h1, by omega, ?_, (Int.natCast_mul _ _).symm, by omega⟩
  rw [Int.tdiv_eq_ediv_of_nonneg (by omega)]; rfl
set_option maxHeartbeats 1000000 in
theorem div64_ok (hi lo y : Nat) (hlt : hi < y) (hy : y < 18446744073709551616) (hlo : lo < 18446744073709551616) (k : ∀ (q : Int) w', Below w.heap.size w w' → K (.tuple #[.int .u64 q, .int .u64 (((hi * 18446744073709551616 + lo) % y : Nat) : Int)]) w') : callM Tryz.prog 184 #[.int .u64 (hi : Int), .int .u64 (lo : Int), .int .u64 (y : Int)] K w := by
  apply sh_184_ok
  unfold sh_184
  refine ⟨EqW w, ?_, ?_⟩
  · repeat (any_goals (first
    | (with_reducible ((refine idCond ?_); refine yO ?_))
    | ((with_reducible refine idO ?_); (with_reducible refine oM_gen fun Kv hK=>?_); simp [go_sem]; refine hK _ _ ?_; clear hK; clear Kv)))
    exact rfl
  rintro _ _ w1 e1
  rw [show w1 = w from e1]
  clear e1 w1
  refine ⟨EqW w, ?_, ?_⟩
  · repeat (any_goals (first
    | (with_reducible ((refine idCond ?_); refine yO ?_))
    | ((with_reducible refine idO ?_); (with_reducible refine oM_gen fun Kv hK=>?_); simp [go_sem]; refine hK _ _ ?_; clear hK; clear Kv)))
    exact rfl
  rintro _ _ w1 e1
  rw [show w1 = w from e1]
  clear e1 w1
  by_cases h0 : hi = 0
  · subst h0
    have k0 := k ((lo / y : Nat) : Int) _ (Below.drew (Below.refl _ w))
    have t1 : ((lo : Int).tdiv (y : Int)) = ((lo / y : Nat) : Int) := by rw [Int.tdiv_eq_ediv_of_nonneg (by omega)]; rfl
    have t2 : ((lo : Int).tmod (y : Int)) = ((lo % y : Nat) : Int) := by rw [Int.tmod_eq_emod_of_nonneg (by omega)]; rfl
    have t3 := Nat.div_le_self lo y
    simp only [Nat.zero_mul, Nat.zero_add] at k0
    generalize lo / y = a at *
    generalize lo % y = b at *
    repeat (any_goals (first
    | (with_reducible ((refine idCond ?_); refine yL ?_))
    | ((with_reducible refine idO ?_); (with_reducible refine oM_gen fun Kv hK=>?_); simp [go_sem, t1, t2]; refine hK _ _ ?_; clear hK; clear Kv)))
    refine quietM_one ?_
    repeat (any_goals (first
    | (with_reducible first|refine And.intro (Eq.refl (α := World) _) ?_|refine forall_one ?_)
    | ((with_reducible refine idOQ ?_); ((with_reducible refine oQ_one ?_ ?_); exact ⟨_, rfl⟩))
    | ((with_reducible refine idO ?_); (with_reducible refine oM_gen fun Kv hK=>?_); simp [go_sem, t1, t2]; (try simp (disch := omega) only [wrapI64, wrapU8, wrapU32, wrapU64]); refine And.intro (by omega) (hK _ _ ?_); clear hK; clear Kv)))
    exact k0
  obtain ⟨s, hs⟩ : ∃ s, s = 64 := ⟨_, rfl⟩
  repeat (any_goals (first
  | (with_reducible ((refine idCond ?_); refine yO ?_))
  | ((with_reducible refine idO ?_); (with_reducible refine oM_gen fun Kv hK=>?_); simp [go_sem]; refine hK _ _ ?_; clear hK; clear Kv)))
  refine lead64_ok y hy ?_
  intro L hL
  clear s hs
  have hn := norm_len y L (by omega) hL
  have hL64 := hL.le
  obtain ⟨s, hs⟩ : ∃ s, s = 64 - L := ⟨_, rfl⟩
  rw [← hs] at hn
  have hs64 : s ≤ 64 := by omega
  obtain ⟨hN, hB⟩ := norm_top hi lo s hs64 hlo
  have hres := norm_rest hi lo y s _ _ hN
  have hAB : hi * 2 ^ s + lo / 2 ^ (64 - s) < y * 2 ^ s := by
    have := Nat.mul_le_mul_right (2 ^ s) (show hi + 1 ≤ y by omega)
    rw [Nat.add_mul, Nat.one_mul] at this
    omega
  have hsub : (64 : Int) - (L : Int) = (s : Int) := by omega
  have hpow : ∀ a : Nat, (a : Int) * 2 ^ s = ((a * 2 ^ s : Nat) : Int) := fun a => by rw [Int.natCast_mul, Int.natCast_pow]; rfl
  have hdiv : ∀ a : Nat, (a : Int) / 2 ^ (64 - s) = ((a / 2 ^ (64 - s) : Nat) : Int) := fun a => by rw [Int.natCast_ediv, Int.natCast_pow]; rfl
  have hBi : ((lo / 2 ^ (64 - s) : Nat) : Int) < 2 ^ s := by
    have := Int.ofNat_lt.2 hB
    rw [Int.natCast_pow] at this
    exact this
  have hor := or_add64 s (hi : Int) ((lo / 2 ^ (64 - s) : Nat) : Int) hs64 (Int.natCast_nonneg _) ⟨Int.natCast_nonneg _, hBi⟩
  have hD : lo * 2 ^ s % 18446744073709551616 < 18446744073709551616 := Nat.mod_lt _ (by omega)
  have hDi : ((lo * 2 ^ s : Nat) : Int) % 18446744073709551616 = ((lo * 2 ^ s % 18446744073709551616 : Nat) : Int) := by rw [Int.natCast_emod]; rfl
  have hsub2 : ((64 : Int) - (s : Int)).toNat = 64 - s := by omega
  rw [hpow] at hor
  clear hN hB hBi hL
  generalize lo * 2 ^ s % 18446744073709551616 = D at *
  generalize hlo2 : lo * 2 ^ s = lo2 at *
  generalize hA : hi * 2 ^ s = A at *
  generalize hB : lo / 2 ^ (64 - s) = B at *
  generalize hY : y * 2 ^ s = Y at *
  have hor := hor (by omega)
  have hAm : (A : Int) % 18446744073709551616 = (A : Int) := by omega
  have hYm : (Y : Int) % 18446744073709551616 = (Y : Int) := by omega
  have hpa := hpow hi
  have hpl := hpow lo
  have hpy := hpow y
  have hdl := hdiv lo
  rw [hA] at hpa
  rw [hlo2] at hpl
  rw [hY] at hpy
  rw [hB] at hdl
  rw [hsub]
  obtain ⟨t, ht⟩ : ∃ t, t = 64 - s := ⟨_, rfl⟩
  have ht2 : (64 : Int) - (s : Int) = (t : Int) := by omega
  rw [← ht] at hdl
  have rl := fun x => oM_shl64 (P := Tryz.prog) 123 176 123 .u64 x (s : Int) (by omega) (by omega)
  have rr := fun x => oM_shr64 (P := Tryz.prog) 123 176 123 .u64 x (s : Int) (by omega) (by omega)
  have rt := fun x => oM_shr64 (P := Tryz.prog) 123 176 123 .u64 x (t : Int) (by omega) (by omega)
  simp only [Int.toNat_natCast] at rl rr rt
  obtain ⟨h, hh⟩ : ∃ h, h = Y / 4294967296 := ⟨_, rfl⟩
  obtain ⟨l, hl⟩ : ∃ l, l = Y % 4294967296 := ⟨_, rfl⟩
  obtain ⟨d1, hd1⟩ : ∃ d1, d1 = D / 4294967296 := ⟨_, rfl⟩
  obtain ⟨d0, hd0⟩ : ∃ d0, d0 = D % 4294967296 := ⟨_, rfl⟩
  obtain ⟨X, hX⟩ : ∃ X, X = A + B := ⟨_, rfl⟩
  have hhi : (Y : Int) / 4294967296 = (h : Int) := by omega
  have hli : bits .and .u64 (Y : Int) 4294967295 = (l : Int) := by rw [maskU Y (by omega), ← hl]
  have hd1i : (D : Int) / 4294967296 = (d1 : Int) := by omega
  have hd0i : bits .and .u64 (D : Int) 4294967295 = (d0 : Int) := by rw [maskU D (by omega), ← hd0]
  have hXi : (A : Int) + (B : Int) = (X : Int) := by omega
  have hhl : h * 4294967296 + l = Y := by omega
  rw [← hX, ← hd1, ← hd0] at hres
  obtain ⟨q1, p1, r1, e1, e2, e3, e4, e5, e6, e7, e8⟩ := half_div X h (by omega) (by omega)
  obtain ⟨Q, hQ⟩ : ∃ Q, Q = (X * 4294967296 + d1) / Y := ⟨_, rfl⟩
  obtain ⟨U, hU⟩ : ∃ U, U = (X * 4294967296 + d1) % Y := ⟨_, rfl⟩
  have hUY : U < Y := by rw [hU]; exact Nat.mod_lt _ (by omega)
  have dg := dg_ok (w := w) h l X d1 (DgE Q w) (by omega) (by omega) (by omega) (by omega) (by omega) (fun r => ⟨rfl, r, by rw [hhl, ← hQ]⟩)
  have lw := left_wrap X d1 Y Q U (by rw [hQ, hU]; exact Nat.div_add_mod' _ _) (by omega)
  obtain ⟨q2, p2, r2, f1, f2, f3, f4, f5, f6, f7, f8⟩ := half_div U h (by omega) (by omega)
  obtain ⟨Q2, hQ2⟩ : ∃ Q2, Q2 = (U * 4294967296 + d0) / Y := ⟨_, rfl⟩
  obtain ⟨R, hR⟩ : ∃ R, R = (U * 4294967296 + d0) % Y := ⟨_, rfl⟩
  have hRY : R < Y := by rw [hR]; exact Nat.mod_lt _ (by omega)
  have dg2 := dg_ok (w := w) h l U d0 (DgE Q2 w) (by omega) (by omega) (by omega) (by omega) (by omega) (fun r => ⟨rfl, r, by rw [hhl, ← hQ2]⟩)
  have lw2 := left_wrap U d0 Y Q2 R (by rw [hQ2, hR]; exact Nat.div_add_mod' _ _) (by omega)
  rw [← hU, ← hR] at hres
  rw [e1, e2, e3] at dg
  rw [f1, f2, f3] at dg2
  have hRi : (R : Int) / 2 ^ s = ((R / 2 ^ s : Nat) : Int) := by rw [Int.natCast_ediv, Int.natCast_pow]; rfl
  rw [hres] at hRi
  clear hres hR hU hQ hQ2 e1 e2 e3 f1 f2 f3 hh hl hd1 hd0 hX
  repeat (any_goals ((with_reducible refine idO ?_); (with_reducible refine oM_gen fun Kv hK=>?_); simp [go_sem, rl, rr, rt, ht2, hpa, hpl, hpy, hdl, hor, hAm, hYm, hDi, hXi, hhi, hli, hd1i, hd0i, e6, e7, e8]; (try simp (disch := omega) only [wrapI64, wrapU8, wrapU32, wrapU64]); (first|refine hK _ _ ?_|refine And.intro (by omega) (hK _ _ ?_)); clear hK; clear Kv))
  refine ⟨DgE Q w, dg, ?_⟩
  rintro _ _ w1 ⟨e1, r, rfl⟩
  rw [e1]
  clear e1 w1
  repeat (any_goals ((with_reducible refine idO ?_); (with_reducible refine oM_gen fun Kv hK=>?_); simp [go_sem, rl, rr, rt, lw, f6, f7, f8]; (try simp (disch := omega) only [wrapI64, wrapU8, wrapU32, wrapU64]); (first|refine hK _ _ ?_|refine And.intro (by omega) (hK _ _ ?_)); clear hK; clear Kv))
  refine ⟨DgE Q2 w, dg2, ?_⟩
  rintro _ _ w1 ⟨e1, r', rfl⟩
  rw [e1]
  clear e1 w1
  repeat (any_goals ((with_reducible refine idO ?_); (with_reducible refine oM_gen fun Kv hK=>?_); simp [go_sem, rl, rr, rt, lw2, hRi]; refine hK _ _ ?_; clear hK; clear Kv))
  exact k _ _ (Below.refl _ _)
end
end Go.Proofs
namespace Go.Proofs
open Go Go.Sh Go.RowKit FdSpec
set_option linter.unusedSimpArgs false
set_option linter.unusedVariables false
set_option maxRecDepth 10000
section
variable {K : Value → World → Prop} {w : World}
theorem rem64_ok (hi lo y : Nat) (hhi : hi < 18446744073709551616) (hy0 : 0 < y) (hy : y < 18446744073709551616) (hlo : lo < 18446744073709551616) (k : ∀ w', Below w.heap.size w w' → K (.int .u64 (((hi * 18446744073709551616 + lo) % y : Nat) : Int)) w') : callM Tryz.prog 145 #[.int .u64 (hi : Int), .int .u64 (lo : Int), .int .u64 (y : Int)] K w := by
  apply sh_145_ok
  unfold sh_145
  have e1 : (hi : Int).tmod (y : Int) = ((hi % y : Nat) : Int) := by rw [Int.tmod_eq_emod_of_nonneg (by omega)]; rfl
  have e2 : (hi % y * 18446744073709551616 + lo) % y = (hi * 18446744073709551616 + lo) % y := by
    rw [Nat.add_mod, Nat.mul_mod, Nat.mod_mod, ← Nat.mul_mod, ← Nat.add_mod]
  have hlt := Nat.mod_lt hi hy0
  rw [← e2] at k
  generalize hi % y = r at *
  repeat (any_goals ((with_reducible refine idO ?_); (with_reducible refine oM_gen fun Kv hK=>?_); simp [go_sem, e1]; refine And.intro (by omega) (hK _ _ ?_); clear hK; clear Kv))
  refine div64_ok r lo y hlt hy hlo ?_
  intro q w1 hb
  repeat (any_goals ((with_reducible refine idO ?_); (with_reducible refine oM_gen fun Kv hK=>?_); simp [go_sem]; refine hK _ _ ?_; clear hK; clear Kv))
  exact k _ hb
theorem product_ok (n a b : Int) (hn : okN n) (ha : 0 ≤ a ∧ a < n) (hb : 0 ≤ b ∧ b < n) (k : ∀ w', Below w.heap.size w w' → K (.int .u64 (a * b % n)) w') : callM Tryz.prog 80 #[.int .i64 n, .int .u64 a, .int .u64 b] K w := by
  apply sh_80_ok
  unfold sh_80
  obtain ⟨h1, h2⟩ := hn
  skip
  refine mul64_ok a b ⟨ha.1, by omega⟩ ⟨hb.1, by omega⟩ ?_
  obtain ⟨a, rfl⟩ := natN a ha.1
  obtain ⟨b, rfl⟩ := natN b hb.1
  obtain ⟨n, rfl⟩ := natN n (by omega)
  rw [mulU]
  have hab : a * b < 18446744073709551616 * 18446744073709551616 := Nat.mul_lt_mul'' (by omega) (by omega)
  have e1 : ((a * b : Nat) : Int) / 18446744073709551616 = ((a * b / 18446744073709551616 : Nat) : Int) := by omega
  have e2 : ((a * b : Nat) : Int) % 18446744073709551616 = ((a * b % 18446744073709551616 : Nat) : Int) := by omega
  have e3 : ((a * b % n : Nat) : Int) = (a : Int) * (b : Int) % (n : Int) := by rw [Int.natCast_emod, Int.natCast_mul]
  rw [e1, e2]
  have h5 : a * b / 18446744073709551616 * 18446744073709551616 + a * b % 18446744073709551616 = a * b := Nat.div_add_mod' _ _
  have h3 : a * b / 18446744073709551616 < 18446744073709551616 := by omega
  have h4 : a * b % 18446744073709551616 < 18446744073709551616 := by omega
  rw [← e3, ← h5] at k
  generalize a * b / 18446744073709551616 = hi at *
  generalize a * b % 18446744073709551616 = lo at *
  repeat (any_goals ((with_reducible refine idO ?_); (with_reducible refine oM_gen fun Kv hK=>?_); simp [go_sem]; (try simp (disch := omega) only [wrapI64, wrapU8, wrapU32, wrapU64]); refine hK _ _ ?_; clear hK; clear Kv))
  exact rem64_ok hi lo n h3 (by omega) (by omega) h4 k
end
end Go.Proofs
namespace Go.Proofs
open Go Go.Sh Go.RowKit FdSpec
set_option linter.unusedSimpArgs false
set_option linter.unusedVariables false
set_option maxRecDepth 10000
section
variable {K : Value → World → Prop} {w : World}
def PwJ (n R : Int) (w : World) (l : List Value) (w' : World) : Prop := Below w.heap.size w w' ∧ ∃ (out a : Int) (b : Nat), l = [.int .u64 out, .int .u64 a, .int .u64 (b : Int)] ∧ (0 ≤ out ∧ out < n) ∧ (0 ≤ a ∧ a < n) ∧ b < 18446744073709551616 ∧ out * a ^ b % n = R
def PwM (n R a : Int) (b : Nat) (w : World) (l : List Value) (w' : World) : Prop := Below w.heap.size w w' ∧ ∃ out : Int, l = [.int .u64 out] ∧ (0 ≤ out ∧ out < n) ∧ out * (a * a % n) ^ (b / 2) % n = R
def pwMu (l : List Value) (_ : World) : Nat := match l with | [_, _, .int _ b] => b.toNat | _ => 0
theorem pwMu_eq (x y : Value) (k : IntKind) (b : Int) (w : World) : pwMu [x, y, .int k b] w = b.toNat := rfl
theorem power_ok (n a : Int) (b : Nat) (hn : okN n) (ha : 0 ≤ a ∧ a < n) (hb : b < 18446744073709551616) (k : ∀ w', Below w.heap.size w w' → K (.int .u64 (pw n a b)) w') : callM Tryz.prog 102 #[.int .i64 n, .int .u64 a, .int .u64 (b : Int)] K w := by
  apply sh_102_ok
  unfold sh_102
  have hn' := hn
  obtain ⟨h1, h2⟩ := hn
  have e1 : (1 : Int).tmod n = 1 % n := Int.tmod_eq_emod_of_nonneg (by omega)
  have e2 := Int.emod_nonneg 1 (b := n) (by omega)
  have e3 := Int.emod_lt_of_pos 1 (b := n) (by omega)
  have e4 : 1 % n * a ^ b % n = pw n a b := by
    rw [Int.mul_emod, Int.emod_emod_of_dvd _ (Int.dvd_refl n), ← Int.mul_emod, Int.one_mul]; rfl
  generalize 1 % n = o at *
  repeat (any_goals ((with_reducible refine idO ?_); (with_reducible refine oM_gen fun Kv hK=>?_); simp [go_sem, e1]; (try simp (disch := omega) only [wrapI64, wrapU8, wrapU32, wrapU64]); (first|refine hK _ _ ?_|refine And.intro (by omega) (hK _ _ ?_)); clear hK; clear Kv))
  refine ⟨PwJ n (pw n a b) w, pwMu, ⟨Below.refl _ _, o, a, b, rfl, ⟨e2, e3⟩, ha, hb, e4⟩, ?_⟩
  generalize hR : pw n a b = R at *
  clear e1 e2 e3 e4 o hb ha
  rintro _ _ w1 ⟨hb1, out, x, c, rfl, ho, hx, hc, hinv⟩
  have hz := hb1.size
  by_cases h0 : c = 0
  · subst h0
    rw [Int.pow_zero, Int.mul_one, Int.emod_eq_of_lt ho.1 ho.2] at hinv
    repeat (any_goals (first
    | (with_reducible ((refine idCond ?_); refine yM ?_))
    | ((with_reducible refine idO ?_); (with_reducible refine oM_gen fun Kv hK=>?_); simp [go_sem]; refine hK _ _ ?_; clear hK; clear Kv)))
    rw [hinv]
    exact k _ hb1
  · have hm : bits .and .u64 (c : Int) 1 = ((c % 2 : Nat) : Int) := by
      rw [mask64 1 c 1 (by omega) (by decide) (by omega)]; omega
    have hsh : (c : Int) / 2 = ((c / 2 : Nat) : Int) := by omega
    have h1 := pw_even n x out c
    have h3 := pw_odd n x out c
    obtain ⟨m, hm2⟩ : ∃ m, m = c % 2 := ⟨_, rfl⟩
    rw [← hm2] at hm h1 h3
    obtain ⟨d, hd⟩ : ∃ d, d = c / 2 := ⟨_, rfl⟩
    rw [← hd] at hsh h1 h3
    repeat (any_goals (first
    | (with_reducible ((refine idCond ?_); refine yN ?_))
    | ((with_reducible refine idO ?_); (with_reducible refine oM_gen fun Kv hK=>?_); simp [go_sem]; refine hK _ _ ?_; clear hK; clear Kv)))
    refine ⟨PwM n R x c w, ?_, ?_⟩
    · repeat (any_goals (first
      | (with_reducible ((refine idCond ?_); refine yP (fun hg=>?_) fun hg=>?_))
      | ((with_reducible refine idO ?_); (with_reducible refine oM_gen fun Kv hK=>?_); simp [go_sem, hm]; refine hK _ _ ?_; clear hK; clear Kv)))
      · refine product_ok n out x hn' ho hx ?_
        intro w2 hb2
        skip
        refine ⟨hb1.trans (hb2.mono hz), _, rfl, ⟨Int.emod_nonneg _ (by omega), Int.emod_lt_of_pos _ (by omega)⟩, ?_⟩
        rw [← hd, h3 (by omega)]; exact hinv
      · refine ⟨hb1, _, rfl, ho, ?_⟩
        rw [← hd, h1 (by omega)]; exact hinv
    · rintro _ _ w2 ⟨hb2, out', rfl, ho', hi'⟩
      have hz2 := hb2.size
      refine product_ok n x x hn' hx hx ?_
      intro w3 hb3
      repeat (any_goals ((with_reducible refine idO ?_); (with_reducible refine oM_gen fun Kv hK=>?_); simp [go_sem, hsh]; refine hK _ _ ?_; clear hK; clear Kv))
      refine ⟨⟨hb2.trans (hb3.mono hz2), _, _, _, rfl, ho', ⟨Int.emod_nonneg _ (by omega), Int.emod_lt_of_pos _ (by omega)⟩, by omega, by rw [hd]; exact hi'⟩, ?_⟩
      simp only [pwMu_eq]
      omega
theorem Add_ok (n a b : Int) (h : K (.int .i64 (addM n a b)) w) : callM Tryz.prog 143 #[.int .i64 n, .int .i64 a, .int .i64 b] K w := by
  apply sh_143_ok
  unfold sh_143
  refine valid_ok n ?_
  by_cases hn : okN n
  · have hn' := hn
    obtain ⟨h1, h2⟩ := hn'
    have ha := Int.emod_nonneg a (b := n) (by omega)
    have ha2 := Int.emod_lt_of_pos a (b := n) (by omega)
    have hb := Int.emod_nonneg b (b := n) (by omega)
    have hb2 := Int.emod_lt_of_pos b (b := n) (by omega)
    have e := addM_eq n a b hn
    have e2 := addM_range n a b hn
    have e1 : (a % n + b % n).tmod n = (a % n + b % n) % n := Int.tmod_eq_emod_of_nonneg (by omega)
    rw [e] at e1
    repeat (any_goals (first
    | (with_reducible ((refine idCond ?_); refine yM ?_))
    | ((with_reducible refine idO ?_); (with_reducible refine oM_gen fun Kv hK=>?_); simp [go_sem, hn]; refine hK _ _ ?_; clear hK; clear Kv)))
    refine residue_ok n a hn ?_
    refine residue_ok n b hn ?_
    generalize a % n = x at *
    generalize b % n = y at *
    generalize addM n a b = z at *
    repeat (any_goals ((with_reducible refine idO ?_); (with_reducible refine oM_gen fun Kv hK=>?_); simp [go_sem, e1]; (try simp (disch := omega) only [wrapI64, wrapU8, wrapU32, wrapU64]); (first|refine hK _ _ ?_|refine And.intro (by omega) (hK _ _ ?_)); clear hK; clear Kv))
    exact h
  · rw [addM, if_neg hn] at h
    repeat (any_goals (first
    | (with_reducible ((refine idCond ?_); refine yL ?_))
    | ((with_reducible refine idO ?_); (with_reducible refine oM_gen fun Kv hK=>?_); simp [go_sem, hn]; refine hK _ _ ?_; clear hK; clear Kv)))
    exact h
theorem Sub_ok (n a b : Int) (h : K (.int .i64 (subM n a b)) w) : callM Tryz.prog 17 #[.int .i64 n, .int .i64 a, .int .i64 b] K w := by
  apply sh_17_ok
  unfold sh_17
  refine valid_ok n ?_
  by_cases hn : okN n
  · have hn' := hn
    obtain ⟨h1, h2⟩ := hn'
    have ha := Int.emod_nonneg a (b := n) (by omega)
    have ha2 := Int.emod_lt_of_pos a (b := n) (by omega)
    have hb := Int.emod_nonneg b (b := n) (by omega)
    have hb2 := Int.emod_lt_of_pos b (b := n) (by omega)
    have e := subM_eq n a b hn
    have e2 := subM_range n a b hn
    have e1 : (a % n + n - b % n).tmod n = (a % n + n - b % n) % n := Int.tmod_eq_emod_of_nonneg (by omega)
    rw [e] at e1
    repeat (any_goals (first
    | (with_reducible ((refine idCond ?_); refine yM ?_))
    | ((with_reducible refine idO ?_); (with_reducible refine oM_gen fun Kv hK=>?_); simp [go_sem, hn]; refine hK _ _ ?_; clear hK; clear Kv)))
    refine residue_ok n a hn ?_
    repeat (any_goals ((with_reducible refine idO ?_); (with_reducible refine oM_gen fun Kv hK=>?_); simp [go_sem]; (try simp (disch := omega) only [wrapI64, wrapU8, wrapU32, wrapU64]); refine hK _ _ ?_; clear hK; clear Kv))
    refine residue_ok n b hn ?_
    generalize a % n = x at *
    generalize b % n = y at *
    generalize subM n a b = z at *
    repeat (any_goals ((with_reducible refine idO ?_); (with_reducible refine oM_gen fun Kv hK=>?_); simp [go_sem, e1]; (try simp (disch := omega) only [wrapI64, wrapU8, wrapU32, wrapU64]); (first|refine hK _ _ ?_|refine And.intro (by omega) (hK _ _ ?_)); clear hK; clear Kv))
    exact h
  · rw [subM, if_neg hn] at h
    repeat (any_goals (first
    | (with_reducible ((refine idCond ?_); refine yL ?_))
    | ((with_reducible refine idO ?_); (with_reducible refine oM_gen fun Kv hK=>?_); simp [go_sem, hn]; refine hK _ _ ?_; clear hK; clear Kv)))
    exact h
theorem Mul_ok (n a b : Int) (k : ∀ w', Below w.heap.size w w' → K (.int .i64 (mulM n a b)) w') : callM Tryz.prog 16 #[.int .i64 n, .int .i64 a, .int .i64 b] K w := by
  apply sh_16_ok
  unfold sh_16
  refine valid_ok n ?_
  by_cases hn : okN n
  · have hn' := hn
    obtain ⟨h1, h2⟩ := hn'
    have ha := Int.emod_nonneg a (b := n) (by omega)
    have ha2 := Int.emod_lt_of_pos a (b := n) (by omega)
    have hb := Int.emod_nonneg b (b := n) (by omega)
    have hb2 := Int.emod_lt_of_pos b (b := n) (by omega)
    have e := mulM_eq n a b hn
    have e2 := mulM_range n a b hn
    repeat (any_goals (first
    | (with_reducible ((refine idCond ?_); refine yM ?_))
    | ((with_reducible refine idO ?_); (with_reducible refine oM_gen fun Kv hK=>?_); simp [go_sem, hn]; refine hK _ _ ?_; clear hK; clear Kv)))
    refine residue_ok n a hn ?_
    refine residue_ok n b hn ?_
    refine product_ok n _ _ hn ⟨ha, ha2⟩ ⟨hb, hb2⟩ ?_
    intro w1 hb1
    rw [e]
    have k := k w1 hb1
    generalize mulM n a b = z at *
    repeat (any_goals ((with_reducible refine idO ?_); (with_reducible refine oM_gen fun Kv hK=>?_); simp [go_sem]; (try simp (disch := omega) only [wrapI64, wrapU8, wrapU32, wrapU64]); refine hK _ _ ?_; clear hK; clear Kv))
    exact k
  · rw [mulM, if_neg hn] at k
    repeat (any_goals (first
    | (with_reducible ((refine idCond ?_); refine yL ?_))
    | ((with_reducible refine idO ?_); (with_reducible refine oM_gen fun Kv hK=>?_); simp [go_sem, hn]; refine hK _ _ ?_; clear hK; clear Kv)))
    exact k _ (Below.refl _ _)
end
end Go.Proofs
namespace Go.Proofs
open Go Go.Sh Go.RowKit FdSpec
set_option linter.unusedSimpArgs false
set_option linter.unusedVariables false
set_option maxRecDepth 10000
section
variable {K : Value → World → Prop} {w : World}
def InJ (n : Int) (E : Int × Int) (w : World) (l : List Value) (w' : World) : Prop := Below w.heap.size w w' ∧ ∃ (v : Value) (r s x y : Int), l = [v, .int .i64 r, .int .i64 s, .int .i64 x, .int .i64 y] ∧ (0 ≤ s ∧ s < n) ∧ (0 ≤ r ∧ r ≤ n) ∧ (0 ≤ x ∧ x < 2305843009213693952) ∧ (0 ≤ y ∧ y < 2305843009213693952) ∧ eucAll n r s x y = E
def inMu (l : List Value) (_ : World) : Nat := match l with | [_, _, .int _ s, _, _] => s.toNat | _ => 0
theorem inMu_eq (v r x y : Value) (k : IntKind) (s : Int) (w : World) : inMu [v, r, .int k s, x, y] w = s.toNat := rfl
theorem eucAll_zero (n r x y : Int) : eucAll n r 0 x y = (r, x) := euc_zero n _ r x y
theorem Inv_ok (n a : Int) (k : ∀ w', Below w.heap.size w w' → K (.tuple #[.int .i64 ((invM n a).getD 0), .bool (invM n a).isSome]) w') : callM Tryz.prog 174 #[.int .i64 n, .int .i64 a] K w := by
  apply sh_174_ok
  unfold sh_174
  refine valid_ok n ?_
  by_cases hn : okN n
  · have hn' := hn
    obtain ⟨h1, h2⟩ := hn'
    have ha := Int.emod_nonneg a (b := n) (by omega)
    have ha2 := Int.emod_lt_of_pos a (b := n) (by omega)
    have kk : ∀ r x w', (r, x) = eucAll n n (a % n) 0 1 → Below w.heap.size w w' → K (.tuple #[.int .i64 (if r = 1 then x % n else 0), .bool (decide (r = 1))]) w' := fun r x w' e hb => by
      have k := k w' hb
      unfold invM at k
      rw [if_pos hn, ← e] at k
      by_cases hr : r = 1
      · simpa [hr] using k
      · simpa [hr] using k
    clear k
    repeat (any_goals (first
    | (with_reducible ((refine idCond ?_); refine yM ?_))
    | ((with_reducible refine idO ?_); (with_reducible refine oM_gen fun Kv hK=>?_); simp [go_sem, hn]; refine hK _ _ ?_; clear hK; clear Kv)))
    refine residue_ok n a hn ?_
    generalize a % n = s0 at *
    generalize hE : eucAll n n s0 0 1 = E at *
    repeat (any_goals ((with_reducible refine idO ?_); (with_reducible refine oM_gen fun Kv hK=>?_); simp [go_sem]; (try simp (disch := omega) only [wrapI64, wrapU8, wrapU32, wrapU64]); refine hK _ _ ?_; clear hK; clear Kv))
    refine ⟨InJ n E w, inMu, ⟨Below.refl _ _, _, n, s0, 0, 1, rfl, ⟨ha, ha2⟩, ⟨by omega, by omega⟩, ⟨by omega, by omega⟩, ⟨by omega, by omega⟩, hE⟩, ?_⟩
    clear hE ha ha2 s0
    rintro _ _ w1 ⟨hb1, v, r, s, x, y, rfl, hs, hr, hx, hy, he⟩
    have hz := hb1.size
    by_cases h0 : s = 0
    · subst h0
      rw [eucAll_zero] at he
      have kk := kk r x w1 he hb1
      have e1 : x.tmod n = x % n := Int.tmod_eq_emod_of_nonneg hx.1
      by_cases hr1 : r = 1
      · simp only [hr1] at kk
        repeat (any_goals (first
        | (with_reducible ((refine idCond ?_); refine yM ?_))
        | ((with_reducible refine idO ?_); (with_reducible refine oM_gen fun Kv hK=>?_); simp [go_sem, hr1, e1]; (first|refine hK _ _ ?_|refine And.intro (by omega) (hK _ _ ?_)); clear hK; clear Kv)))
        simpa using kk
      · simp only [hr1] at kk
        repeat (any_goals (first
        | (with_reducible ((refine idCond ?_); first|refine yL ?_|refine yM ?_))
        | ((with_reducible refine idO ?_); (with_reducible refine oM_gen fun Kv hK=>?_); simp [go_sem, hr1]; refine hK _ _ ?_; clear hK; clear Kv)))
        simpa using kk
    · rw [euc_step n r s x y (by omega)] at he
      have q1 : r.tdiv s = r / s := Int.tdiv_eq_ediv_of_nonneg hr.1
      have q2 := Int.emod_add_mul_ediv r s
      have q3 := Int.emod_nonneg r (b := s) (by omega)
      have q4 := Int.emod_lt_of_pos r (b := s) (by omega)
      have q5 : 0 ≤ r / s := Int.ediv_nonneg hr.1 hs.1
      have q6 : r / s ≤ r := Int.ediv_le_self _ hr.1
      have q7 : r / s * s = r - r % s := by rw [Int.mul_comm]; omega
      have m1 := mulM_range n (r / s) y hn
      have m2 := subM_range n x (mulM n (r / s) y) hn
      generalize r % s = t at *
      generalize r / s = q at *
      clear q2
      have q8 : r - (r - t) = t := by omega
      repeat (any_goals (first
      | (with_reducible ((refine idCond ?_); refine yQ ?_))
      | ((with_reducible refine idO ?_); (with_reducible refine oM_gen fun Kv hK=>?_); simp [go_sem, q1, q7, q8]; (try simp (disch := omega) only [wrapI64, wrapU8, wrapU32, wrapU64]); (first|refine hK _ _ ?_|refine And.intro (by omega) (hK _ _ ?_)); clear hK; clear Kv)))
      refine Mul_ok n q y (fun w2 hb2 => ?_)
      refine Sub_ok n x _ ?_
      generalize subM n x (mulM n q y) = z at *
      skip
      refine ⟨⟨hb1.trans (hb2.mono hz), _, s, t, y, z, rfl, ⟨q3, by omega⟩, ⟨hs.1, by omega⟩, hy, ⟨m2.1, by omega⟩, he⟩, ?_⟩
      simp only [inMu_eq]
      omega
  · have k := k _ (Below.refl _ _)
    unfold invM at k
    rw [if_neg hn] at k
    repeat (any_goals (first
    | (with_reducible ((refine idCond ?_); refine yL ?_))
    | ((with_reducible refine idO ?_); (with_reducible refine oM_gen fun Kv hK=>?_); simp [go_sem, hn]; refine hK _ _ ?_; clear hK; clear Kv)))
    exact k
theorem Pow_ok (n a b : Int) (hbr : -9223372036854775808 ≤ b ∧ b < 9223372036854775808) (k : ∀ w', Below w.heap.size w w' → K (.int .i64 (powM n a b)) w') : callM Tryz.prog 134 #[.int .i64 n, .int .i64 a, .int .i64 b] K w := by
  apply sh_134_ok
  unfold sh_134
  refine valid_ok n ?_
  unfold powM at k
  by_cases hn : okN n
  · have hn' := hn
    obtain ⟨h1, h2⟩ := hn'
    rw [if_pos hn] at k
    by_cases h0 : 0 ≤ b
    · rw [if_pos h0] at k
      have ha := Int.emod_nonneg a (b := n) (by omega)
      have ha2 := Int.emod_lt_of_pos a (b := n) (by omega)
      obtain ⟨c, rfl⟩ := natN b h0
      rw [Int.toNat_natCast, ← pw_emod] at k
      repeat (any_goals (first
      | (with_reducible ((refine idCond ?_); first|refine yL ?_|refine yM ?_))
      | ((with_reducible refine idO ?_); (with_reducible refine oM_gen fun Kv hK=>?_); simp [go_sem, hn]; refine hK _ _ ?_; clear hK; clear Kv)))
      refine residue_ok n a hn ?_
      generalize a % n = x at *
      repeat (any_goals ((with_reducible refine idO ?_); (with_reducible refine oM_gen fun Kv hK=>?_); simp [go_sem]; (try simp (disch := omega) only [wrapI64, wrapU8, wrapU32, wrapU64]); refine hK _ _ ?_; clear hK; clear Kv))
      refine power_ok n x c hn ⟨ha, ha2⟩ (by omega) (fun w1 hb1 => ?_)
      have hr := pw_nonneg n x c (by omega)
      have k := k w1 hb1
      generalize pw n x c = z at *
      repeat (any_goals ((with_reducible refine idO ?_); (with_reducible refine oM_gen fun Kv hK=>?_); simp [go_sem]; (try simp (disch := omega) only [wrapI64, wrapU8, wrapU32, wrapU64]); refine hK _ _ ?_; clear hK; clear Kv))
      exact k
    · rw [if_neg h0] at k
      repeat (any_goals (first
      | (with_reducible ((refine idCond ?_); first|refine yM ?_|refine yO ?_))
      | ((with_reducible refine idO ?_); (with_reducible refine oM_gen fun Kv hK=>?_); simp [go_sem, hn]; refine hK _ _ ?_; clear hK; clear Kv)))
      refine Inv_ok n a (fun w1 hb1 => ?_)
      have hz := hb1.size
      cases hi : invM n a with
      | none =>
        rw [hi] at k
        have k := k w1 hb1
        repeat (any_goals (first
        | (with_reducible ((refine idCond ?_); refine yL ?_))
        | ((with_reducible refine idO ?_); (with_reducible refine oM_gen fun Kv hK=>?_); simp [go_sem]; refine hK _ _ ?_; clear hK; clear Kv)))
        exact k
      | some x =>
        rw [hi] at k
        have hx : 0 ≤ x ∧ x < n := by
          unfold invM at hi
          rw [if_pos hn] at hi
          split at hi
          · cases hi; exact ⟨Int.emod_nonneg _ (by omega), Int.emod_lt_of_pos _ (by omega)⟩
          · cases hi
        obtain ⟨c, hc⟩ := natN (-b) (by omega)
        rw [hc, Int.toNat_natCast] at k
        have hw : IntKind.u64.wrap (-(IntKind.u64.wrap b)) = (c : Int) := by
          simp only [IntKind.wrap_u64]; omega
        have hw2 : b % 18446744073709551616 = b + 18446744073709551616 := by omega
        simp only [Option.getD_some, Option.isSome_some]
        repeat (any_goals (first
        | (with_reducible ((refine idCond ?_); refine yM ?_))
        | ((with_reducible refine idO ?_); (with_reducible refine oM_gen fun Kv hK=>?_); simp [go_sem, hw]; (try simp (disch := omega) only [wrapI64, wrapU8, wrapU32, wrapU64]); refine hK _ _ ?_; clear hK; clear Kv)))
        refine power_ok n x c hn hx (by omega) (fun w2 hb2 => ?_)
        have hr := pw_nonneg n x c (by omega)
        have k : K (.int .i64 (pw n x c)) w2 := k w2 (hb1.trans (hb2.mono hz))
        generalize pw n x c = z at *
        repeat (any_goals ((with_reducible refine idO ?_); (with_reducible refine oM_gen fun Kv hK=>?_); simp [go_sem]; (try simp (disch := omega) only [wrapI64, wrapU8, wrapU32, wrapU64]); refine hK _ _ ?_; clear hK; clear Kv))
        exact k
  · rw [if_neg hn] at k
    repeat (any_goals (first
    | (with_reducible ((refine idCond ?_); refine yL ?_))
    | ((with_reducible refine idO ?_); (with_reducible refine oM_gen fun Kv hK=>?_); simp [go_sem, hn]; refine hK _ _ ?_; clear hK; clear Kv)))
    exact k _ (Below.refl _ _)
end
end Go.Proofs
namespace Go.Proofs
open Go Go.Sh Go.RowKit FdSpec
set_option linter.unusedSimpArgs false
set_option linter.unusedVariables false
set_option maxRecDepth 10000
section
variable {K : Value → World → Prop} {w : World}
def DbT (w : World) : Prop := 2 < w.heap.size ∧ ∀ j, j < 64 → w.cell? ⟨2, j, none⟩ = some (.int .u8 (Lib.deBruijn64tab.getD j 0 : Nat))
theorem DbT.below {w w' : World} {B : Nat} (h : DbT w) (hb : Below B w w') (hB : w.heap.size ≤ B) : DbT w' :=
  ⟨Nat.lt_of_lt_of_le h.1 hb.size, fun j hj => by rw [hb.cell (show 2 < B from Nat.lt_of_lt_of_le h.1 hB)]; exact h.2 j hj⟩
theorem tz_ctz (k m : Nat) : tz k m = Lib.ctzFrom k m := by
  induction k generalizing m with
  | zero => rfl
  | succ k ih =>
    unfold tz Lib.ctzFrom
    rw [ih]
    by_cases h : m % 2 = 0
    · rw [if_pos h, if_neg (by omega), Nat.add_comm]
    · rw [if_neg h, if_pos (by omega)]
theorem tz_key (q : Nat) : IntKind.u64.wrap ((q : Int) * 285870213051353865) / 288230376151711744 = ((q * 285870213051353865 % 18446744073709551616 / 288230376151711744 : Nat) : Int) := by
  rw [IntKind.wrap_u64]; omega
theorem idx_tab {j : Nat} (hj : j < 64) (w : World) : (Instr.indexAt 238 (.pointer (some ⟨2, 0, none⟩)) (.int .u64 j)).run Tryz.prog w = .ok (.pointer (some ⟨2, j, none⟩)) w := by
  rw [run_indexAt_array (h := by kernel_rfl)]
  have hs : (sizeOf (Tryz.prog.elem 238)).run Tryz.prog w = .ok 1 w := by kernel_rfl
  have hl : Tryz.prog.arrayLen 238 = 64 := by kernel_rfl
  rw [hl, if_pos (by omega), hs]
  simp only [Result.andThen, Int.toNat_natCast, add_none, Nat.zero_add, Nat.mul_one]
theorem tz64_ok (x : Nat) (hx0 : 0 < x) (hx : x < 18446744073709551616) (hT : DbT w) (h : K (.int .i64 (tz 64 x : Nat)) w) : callM Tryz.prog 222 #[.int .u64 (x : Int)] K w := by
  apply sh_222_ok
  unfold sh_222
  obtain ⟨hlow, hk⟩ := Lib.lowest_bit 64 x (by omega) (by omega)
  obtain ⟨hi, htab⟩ := Lib.deBruijn64_at _ hk
  have e0 : Lib.ctz 64 x = tz 64 x := by rw [tz_ctz, Lib.ctz, if_neg (by omega)]
  rw [e0] at hlow htab hi
  have e1 : IntKind.u64.wrap (-(x : Int)) = ((18446744073709551616 - x : Nat) : Int) := by rw [IntKind.wrap_u64]; omega
  have e2 : bits .and .u64 (x : Int) ((18446744073709551616 - x : Nat) : Int) = ((2 ^ tz 64 x : Nat) : Int) := by
    rw [bits_and64 _ _ (by omega) (by omega), Int.toNat_natCast, Int.toNat_natCast]
    exact congrArg _ hlow
  have e3 := tz_key (2 ^ tz 64 x)
  have hc := hT.2 _ hi
  rw [htab] at hc
  have hix := idx_tab hi w
  generalize 2 ^ tz 64 x * 285870213051353865 % 18446744073709551616 / 288230376151711744 = j at *
  generalize (2 ^ tz 64 x : Nat) = q at *
  have hk2 : tz 64 x < 64 := by rw [← e0]; exact hk
  generalize tz 64 x = t at *
  repeat (any_goals (first
  | (rw [oM_indexAddr, hix, rM_ok])
  | (with_reducible ((refine idCond ?_); refine yO ?_))
  | ((with_reducible refine idO ?_); (with_reducible refine oM_gen fun Kv hK=>?_); simp [go_sem, e1, e2, e3, hc]; (try simp (disch := omega) only [wrapI64, wrapU8, wrapU32, wrapU64]); refine hK _ _ ?_; clear hK; clear Kv)))
  exact h
end
end Go.Proofs
namespace Go.Proofs
open Go Go.Sh Go.RowKit FdSpec
set_option linter.unusedSimpArgs false
set_option linter.unusedVariables false
set_option maxRecDepth 10000
section
variable {K : Value → World → Prop} {w : World}
def WiJ (n : Int) (k : Nat) (R : Bool) (w : World) (l : List Value) (w' : World) : Prop := Below w.heap.size w w' ∧ ∃ (v : Value) (x : Int) (i : Nat), l = [v, .int .u64 x, .int .i64 (i : Int)] ∧ i ≤ k ∧ (0 ≤ x ∧ x < n) ∧ mrUp n (k - i) x = R
def wiMu (k : Nat) (l : List Value) (_ : World) : Nat := match l with | [_, _, .int _ i] => k - i.toNat | _ => 0
theorem wiMu_eq (k : Nat) (x y : Value) (q : IntKind) (i : Int) (w : World) : wiMu k [x, y, .int q i] w = k - i.toNat := rfl
theorem witness_ok (n b : Int) (hn : okN n) (h2 : 2 ≤ n) (hb : 0 ≤ b ∧ b < n) (hT : DbT w) (k : ∀ w', Below w.heap.size w w' → K (.bool (!passes n b)) w') : callM Tryz.prog 204 #[.int .i64 n, .int .u64 b] K w := by
  apply sh_204_ok
  unfold sh_204
  have hn' := hn
  obtain ⟨h1, h3⟩ := hn'
  obtain ⟨m, hm⟩ := natN (n - 1) (by omega)
  have hm2 : (n - 1).toNat = m := by omega
  have ht := tz_lt 64 m (by omega) (by omega)
  obtain ⟨t, htt⟩ : ∃ t, t = tz 64 m := ⟨_, rfl⟩
  have ht64 : t < 64 := by rw [htt]; exact ht.1
  clear ht
  have hsh : ((m : Int)) / 2 ^ t = ((m / 2 ^ t : Nat) : Int) := by rw [Int.natCast_ediv, Int.natCast_pow]; rfl
  have hdl := Nat.div_le_self m (2 ^ t)
  have rr := fun x => oM_shr64 (P := Tryz.prog) 123 3 123 .i64 x (t : Int) (by omega) (by omega)
  simp only [Int.toNat_natCast] at rr
  repeat (any_goals ((with_reducible refine idO ?_); (with_reducible refine oM_gen fun Kv hK=>?_); simp [go_sem, hm]; (try simp (disch := omega) only [wrapI64, wrapU8, wrapU32, wrapU64]); refine hK _ _ ?_; clear hK; clear Kv))
  refine tz64_ok m (by omega) (by omega) hT ?_
  rw [← htt]
  obtain ⟨d, hd⟩ : ∃ d, d = m / 2 ^ t := ⟨_, rfl⟩
  rw [← hd] at hsh hdl
  have k : ∀ w', Below w.heap.size w w' → K (.bool (!(if pw n b d = 1 then true else mrUp n t (pw n b d)))) w' := by
    rw [hd, htt, ← hm2]; exact k
  have hp := pw_nonneg n b d (by omega)
  repeat (any_goals ((with_reducible refine idO ?_); (with_reducible refine oM_gen fun Kv hK=>?_); simp [go_sem, hm, rr, hsh]; (try simp (disch := omega) only [wrapI64, wrapU8, wrapU32, wrapU64]); refine hK _ _ ?_; clear hK; clear Kv))
  refine power_ok n b d hn hb (by omega) (fun w1 hb1 => ?_)
  generalize pw n b d = x at *
  have hz := hb1.size
  by_cases hx1 : x = 1
  · have k : K (.bool false) w1 := by
      have k := k w1 hb1
      rw [if_pos hx1] at k
      exact k
    rw [hx1]
    clear rr hsh hdl
    repeat (any_goals (first
    | (with_reducible ((refine idCond ?_); refine yL ?_))
    | ((with_reducible refine idO ?_); (with_reducible refine oM_gen fun Kv hK=>?_); simp [go_sem]; refine hK _ _ ?_; clear hK; clear Kv)))
    exact k
  · have k : ∀ w', Below w.heap.size w w' → K (.bool (!mrUp n t x)) w' := fun w' hb => by
      have k := k w' hb
      rw [if_neg hx1] at k
      exact k
    clear rr hsh hdl
    repeat (any_goals (first
    | (with_reducible ((refine idCond ?_); refine yM ?_))
    | ((with_reducible refine idO ?_); (with_reducible refine oM_gen fun Kv hK=>?_); simp [go_sem, hx1]; refine hK _ _ ?_; clear hK; clear Kv)))
    refine ⟨WiJ n t (mrUp n t x) w, wiMu t, ⟨hb1, _, x, 0, rfl, by omega, hp, rfl⟩, ?_⟩
    generalize mrUp n t x = R at *
    clear hp hx1 hb1 hz w1
    rintro _ _ w1 ⟨hb1, v, y, i, rfl, hi, hx, hR⟩
    have hz := hb1.size
    by_cases hit : i = t
    · subst hit
      rw [Nat.sub_self] at hR
      have hR2 : R = false := by rw [← hR]; rfl
      subst hR2
      repeat (any_goals (first
      | (with_reducible ((refine idCond ?_); refine yM ?_))
      | ((with_reducible refine idO ?_); (with_reducible refine oM_gen fun Kv hK=>?_); simp [go_sem]; refine hK _ _ ?_; clear hK; clear Kv)))
      exact k _ hb1
    · obtain ⟨j, hj⟩ : ∃ j, t - i = j + 1 := ⟨t - i - 1, by omega⟩
      rw [hj] at hR
      unfold mrUp at hR
      by_cases hxn : y = n - 1
      · rw [if_pos hxn] at hR
        subst hR
        have k := k _ hb1
        rw [hm] at hxn
        repeat (any_goals (first
        | (with_reducible ((refine idCond ?_); first|refine yL ?_|refine yN ?_))
        | ((with_reducible refine idO ?_); (with_reducible refine oM_gen fun Kv hK=>?_); simp [go_sem, hm, hxn]; (try simp (disch := omega) only [wrapI64, wrapU8, wrapU32, wrapU64]); refine hK _ _ ?_; clear hK; clear Kv)))
        simpa using k
      · rw [if_neg hxn] at hR
        rw [hm] at hxn
        repeat (any_goals (first
        | (with_reducible ((refine idCond ?_); first|refine yM ?_|refine yN ?_))
        | ((with_reducible refine idO ?_); (with_reducible refine oM_gen fun Kv hK=>?_); simp [go_sem, hm, hxn]; (try simp (disch := omega) only [wrapI64, wrapU8, wrapU32, wrapU64]); refine hK _ _ ?_; clear hK; clear Kv)))
        refine product_ok n y y hn hx hx (fun w2 hb2 => ?_)
        repeat (any_goals ((with_reducible refine idO ?_); (with_reducible refine oM_gen fun Kv hK=>?_); simp [go_sem]; (try simp (disch := omega) only [wrapI64, wrapU8, wrapU32, wrapU64]); refine hK _ _ ?_; clear hK; clear Kv))
        refine ⟨⟨hb1.trans (hb2.mono hz), _, _, i + 1, rfl, by omega, ⟨Int.emod_nonneg _ (by omega), Int.emod_lt_of_pos _ (by omega)⟩, ?_⟩, ?_⟩
        · rw [show t - (i + 1) = j by omega]; exact hR
        · simp only [wiMu_eq]; omega
end
end Go.Proofs
namespace Go.Proofs
open Go Go.Sh Go.RowKit FdSpec
set_option linter.unusedSimpArgs false
set_option linter.unusedVariables false
set_option maxRecDepth 10000
section
variable {K : Value → World → Prop} {w : World}
def smallV : Array Value := #[.int .i64 2, .int .i64 3, .int .i64 5, .int .i64 7, .int .i64 11, .int .i64 13, .int .i64 17, .int .i64 19, .int .i64 23, .int .i64 29, .int .i64 31, .int .i64 37]
def PrJ (n : Int) (W : World) (l : List Value) (w' : World) : Prop := w' = W ∧ ∃ (v u : Value) (i : Nat), l = [v, u, .int .i64 (i : Int)] ∧ i ≤ 12 ∧ smallP.find? (fun p => decide (n % p = 0)) = (smallP.drop i).find? (fun p => decide (n % p = 0))
def PrJ2 (n : Int) (W : World) (l : List Value) (w' : World) : Prop := Below W.heap.size W w' ∧ ∃ (v u : Value) (i : Nat), l = [v, u, .int .i64 (i : Int)] ∧ i ≤ 12 ∧ smallP.all (fun p => passes n p) = (smallP.drop i).all (fun p => passes n p)
def prMu (l : List Value) (_ : World) : Nat := match l with | [_, _, .int _ i] => 12 - i.toNat | _ => 0
theorem prMu_eq (x y : Value) (q : IntKind) (i : Int) (w : World) : prMu [x, y, .int q i] w = 12 - i.toNat := rfl
theorem small_at (i : Nat) (hi : i < 12) : ∃ p, (∀ w, (Instr.index 215 (.agg smallV) (.int .i64 (i : Int))).run Tryz.prog w = .ok (.int .i64 p) w) ∧ smallP.drop i = p :: smallP.drop (i + 1) ∧ 2 ≤ p ∧ p ≤ 37 := by
  rcases i with _ | _ | _ | _ | _ | _ | _ | _ | _ | _ | _ | _ | i
  · exact ⟨2, fun w => by kernel_rfl, rfl, by decide, by decide⟩
  · exact ⟨3, fun w => by kernel_rfl, rfl, by decide, by decide⟩
  · exact ⟨5, fun w => by kernel_rfl, rfl, by decide, by decide⟩
  · exact ⟨7, fun w => by kernel_rfl, rfl, by decide, by decide⟩
  · exact ⟨11, fun w => by kernel_rfl, rfl, by decide, by decide⟩
  · exact ⟨13, fun w => by kernel_rfl, rfl, by decide, by decide⟩
  · exact ⟨17, fun w => by kernel_rfl, rfl, by decide, by decide⟩
  · exact ⟨19, fun w => by kernel_rfl, rfl, by decide, by decide⟩
  · exact ⟨23, fun w => by kernel_rfl, rfl, by decide, by decide⟩
  · exact ⟨29, fun w => by kernel_rfl, rfl, by decide, by decide⟩
  · exact ⟨31, fun w => by kernel_rfl, rfl, by decide, by decide⟩
  · exact ⟨37, fun w => by kernel_rfl, rfl, by decide, by decide⟩
  · omega
theorem build_small : oM Tryz.prog (Go.Op.build 215 #[(0, (.tmp 0)), (1, (.tmp 1)), (2, (.tmp 2)), (3, (.tmp 3)), (4, (.tmp 4)), (5, (.tmp 5)), (6, (.tmp 6)), (7, (.tmp 7)), (8, (.tmp 8)), (9, (.tmp 9)), (10, (.tmp 10)), (11, (.tmp 11))]) 215 smallV.toList = pureM (.agg smallV) := by
  funext K w
  kernel_rfl
theorem Prime_ok (n : Int) (hT : DbT w) (k : ∀ w', Below w.heap.size w w' → K (.bool (primeM n)) w') : callM Tryz.prog 181 #[.int .i64 n] K w := by
  apply sh_181_ok
  unfold sh_181
  unfold primeM at k
  by_cases h1 : n < 2
  · rw [if_pos (.inl h1)] at k
    repeat (any_goals (first
    | (with_reducible first|((refine idGd ?_); refine zD ?_)|((refine idPick ?_); refine yB ?_)|((refine idCond ?_); refine yL ?_))
    | ((with_reducible refine idO ?_); (with_reducible refine oM_gen fun Kv hK=>?_); simp [go_sem, h1]; refine hK _ _ ?_; clear hK; clear Kv)))
    exact k _ (Below.refl _ _)
  by_cases h2 : 2305843009213693952 ≤ n
  · rw [if_pos (.inr h2)] at k
    repeat (any_goals (first
    | (with_reducible first|refine pureM_in ?_|((refine idGd ?_); refine zC ?_)|((refine idPick ?_); refine yC ?_)|((refine idCond ?_); refine yL ?_))
    | ((with_reducible refine idO ?_); (with_reducible refine oM_gen fun Kv hK=>?_); simp [go_sem, h1, h2]; refine hK _ _ ?_; clear hK; clear Kv)))
    exact k _ (Below.refl _ _)
  rw [if_neg (by omega)] at k
  have hn : okN n := ⟨by omega, by omega⟩
  repeat (any_goals (first
  | (with_reducible first|refine pureM_in ?_|((refine idGd ?_); refine zC ?_)|((refine idPick ?_); refine yC ?_)|((refine idCond ?_); refine yM ?_))
  | ((with_reducible refine idO ?_); (with_reducible refine oM_gen fun Kv hK=>?_); simp [go_sem, h1, h2]; refine hK _ _ ?_; clear hK; clear Kv)))
  have bs := build_small
  unfold smallV at bs
  simp only at bs
  repeat (any_goals ((with_reducible refine idO ?_); (with_reducible refine oM_gen fun Kv hK=>?_); simp [go_sem, bs]; refine hK _ _ ?_; clear hK; clear Kv))
  clear bs
  have hbW : Below w.heap.size w (w.alloc (Obj.cells #[.int .i64 2, .int .i64 3, .int .i64 5, .int .i64 7, .int .i64 11, .int .i64 13, .int .i64 17, .int .i64 19, .int .i64 23, .int .i64 29, .int .i64 31, .int .i64 37] 215)) := (Below.refl _ _).alloc (Nat.le_refl _) _
  have hTW : DbT (w.alloc (Obj.cells #[.int .i64 2, .int .i64 3, .int .i64 5, .int .i64 7, .int .i64 11, .int .i64 13, .int .i64 17, .int .i64 19, .int .i64 23, .int .i64 29, .int .i64 31, .int .i64 37] 215)) := hT.below hbW (Nat.le_refl _)
  refine ⟨PrJ n (w.alloc (Obj.cells #[.int .i64 2, .int .i64 3, .int .i64 5, .int .i64 7, .int .i64 11, .int .i64 13, .int .i64 17, .int .i64 19, .int .i64 23, .int .i64 29, .int .i64 31, .int .i64 37] 215)), prMu, ⟨rfl, _, _, 0, rfl, by omega, rfl⟩, ?_⟩
  rintro _ _ w1 ⟨e1, v, u, i, rfl, hi, hf⟩
  rw [e1]
  clear e1 w1
  by_cases h12 : i = 12
  · subst h12
    rw [show smallP.drop 12 = [] from rfl, List.find?_nil] at hf
    rw [hf] at k
    simp only at k
    have hnd := List.find?_eq_none.1 hf
    have hbig : 37 < n := by
      have g : ∀ p ∈ smallP, ¬ n % p = 0 := fun p hp => by simpa using hnd p hp
      have hs : ∀ m : Nat, m < 38 → 2 ≤ m → ∃ p ∈ smallP, (m : Int) % p = 0 := by decide +kernel
      obtain ⟨m, rfl⟩ := natN n (by omega)
      by_cases hm : m < 38
      · obtain ⟨p, hp, hp0⟩ := hs m hm (by omega)
        exact absurd hp0 (g p hp)
      · omega
    clear hnd hf
    repeat (any_goals (first
    | (with_reducible ((refine idCond ?_); refine yM ?_))
    | ((with_reducible refine idO ?_); (with_reducible refine oM_gen fun Kv hK=>?_); simp [go_sem]; refine hK _ _ ?_; clear hK; clear Kv)))
    refine ⟨PrJ2 n (w.alloc (Obj.cells #[.int .i64 2, .int .i64 3, .int .i64 5, .int .i64 7, .int .i64 11, .int .i64 13, .int .i64 17, .int .i64 19, .int .i64 23, .int .i64 29, .int .i64 31, .int .i64 37] 215)), prMu, ⟨Below.refl _ _, _, _, 0, rfl, by omega, rfl⟩, ?_⟩
    rintro _ _ w2 ⟨hb2, v2, u2, i, rfl, hi2, hall⟩
    have hb3 := hbW.trans (hb2.mono (by simp))
    have hT2 : DbT w2 := hTW.below hb2 (Nat.le_refl _)
    by_cases hi12 : i = 12
    · subst hi12
      rw [show smallP.drop 12 = [] from rfl, List.all_nil] at hall
      rw [hall] at k
      repeat (any_goals (first
      | (with_reducible ((refine idCond ?_); refine yM ?_))
      | ((with_reducible refine idO ?_); (with_reducible refine oM_gen fun Kv hK=>?_); simp [go_sem]; refine hK _ _ ?_; clear hK; clear Kv)))
      exact k _ hb3
    · obtain ⟨p, hix, hdr, hp2, hp37⟩ := small_at i (by omega)
      unfold smallV at hix
      rw [hdr, List.all_cons] at hall
      have hz2 := hb2.size
      repeat (any_goals (first
      | (with_reducible ((refine idCond ?_); refine yN ?_))
      | ((with_reducible refine idO ?_); (with_reducible refine oM_gen fun Kv hK=>?_); simp [go_sem, hix]; (try simp (disch := omega) only [wrapI64, wrapU8, wrapU32, wrapU64]); refine hK _ _ ?_; clear hK; clear Kv)))
      refine witness_ok n p hn (by omega) ⟨by omega, by omega⟩ hT2 (fun w3 hb4 => ?_)
      cases hps : passes n p with
      | false =>
        rw [hps, Bool.false_and] at hall
        rw [hall] at k
        simp only [Bool.not_false]
        repeat (any_goals (with_reducible ((refine idCond ?_); refine yL ?_)))
        exact k _ (hb3.trans (hb4.mono hb3.size))
      | true =>
        rw [hps, Bool.true_and] at hall
        simp only [Bool.not_true]
        repeat (any_goals (first
        | (with_reducible ((refine idCond ?_); refine yM ?_))
        | ((with_reducible refine idO ?_); (with_reducible refine oM_gen fun Kv hK=>?_); simp [go_sem]; (try simp (disch := omega) only [wrapI64, wrapU8, wrapU32, wrapU64]); refine hK _ _ ?_; clear hK; clear Kv)))
        refine ⟨⟨hb2.trans (hb4.mono hz2), _, _, i + 1, rfl, by omega, hall⟩, ?_⟩
        simp only [prMu_eq]; omega
  · obtain ⟨p, hix, hdr, hp2, hp37⟩ := small_at i (by omega)
    unfold smallV at hix
    rw [hdr] at hf
    have er : n.tmod p = n % p := Int.tmod_eq_emod_of_nonneg (by omega)
    by_cases hd : n % p = 0
    · rw [List.find?_cons_of_pos (by simpa using hd)] at hf
      rw [hf] at k
      have k := k _ hbW
      simp only at k
      repeat (any_goals (first
      | (with_reducible ((refine idCond ?_); first|refine yL ?_|refine yN ?_))
      | ((with_reducible refine idO ?_); (with_reducible refine oM_gen fun Kv hK=>?_); simp [go_sem, hix, er, hd]; (first|refine hK _ _ ?_|refine And.intro (by omega) (hK _ _ ?_)); clear hK; clear Kv)))
      exact k
    · rw [List.find?_cons_of_neg (by simpa using hd)] at hf
      repeat (any_goals (first
      | (with_reducible ((refine idCond ?_); first|refine yM ?_|refine yN ?_))
      | ((with_reducible refine idO ?_); (with_reducible refine oM_gen fun Kv hK=>?_); simp [go_sem, hix, er, hd]; (try simp (disch := omega) only [wrapI64, wrapU8, wrapU32, wrapU64]); (first|refine hK _ _ ?_|refine And.intro (by omega) (hK _ _ ?_)); clear hK; clear Kv)))
      refine ⟨⟨rfl, _, _, i + 1, rfl, by omega, hf⟩, ?_⟩
      simp only [prMu_eq]; omega
end
end Go.Proofs
namespace Go.Proofs
open Go Go.Sh Go.RowKit FdSpec
set_option linter.unusedSimpArgs false
set_option linter.unusedVariables false
set_option maxRecDepth 10000
section
variable {K : Value → World → Prop} {w : World}
@[reducible] def grpV (g : Grp) : Value := .agg #[.int .i64 g.P, .int .i64 g.Q, .int .i64 g.G]
def GrpR (g : Grp) : Prop := I64 g.P ∧ I64 g.Q ∧ I64 g.G
theorem validG_not {g : Grp} (h : g.Q < 5 ∨ 1152921504606846976 ≤ g.Q ∨ g.P ≠ 2 * g.Q + 1 ∨ g.G < 2 ∨ g.P ≤ g.G) : validG g = false := by
  unfold validG; rw [if_pos h]
theorem validG_yes {g : Grp} (h : ¬ (g.Q < 5 ∨ 1152921504606846976 ≤ g.Q ∨ g.P ≠ 2 * g.Q + 1 ∨ g.G < 2 ∨ g.P ≤ g.G)) : validG g = (primeM g.Q && primeM g.P && decide (pw g.P g.G g.Q.toNat = 1)) := by
  unfold validG; rw [if_neg h]
theorem box_grp {T T' : TypeId} (g : Grp) (k : ∀ b W, Below w.heap.size w W → w.heap.size ≤ b → (∀ w', Below W.heap.size W w' → w'.cell? ⟨b, 0, none⟩ = some (.int .i64 g.P)) → (∀ w', Below W.heap.size W w' → w'.cell? ⟨b, 1, none⟩ = some (.int .i64 g.Q)) → (∀ w', Below W.heap.size W w' → w'.cell? ⟨b, 2, none⟩ = some (.int .i64 g.G)) → K (.pointer (some ⟨b, 0, none⟩)) W) : oM Tryz.prog (.box T (.tmp 0)) T' [grpV g] K w :=
  box_in (cs := [.int .i64 g.P, .int .i64 g.Q, .int .i64 g.G]) rfl fun b W h1 h2 hB => k b W h1 h2 (fun w' h => hB w' h 0 _ rfl) (fun w' h => hB w' h 1 _ rfl) (fun w' h => hB w' h 2 _ rfl)
set_option maxHeartbeats 2000000 in
theorem ValidGroup_ok (g : Grp) (hg : GrpR g) (hT : DbT w) (k : ∀ w', Below w.heap.size w w' → K (.bool (validG g)) w') : callM Tryz.prog 138 #[grpV g] K w := by
  apply sh_138_ok
  unfold sh_138
  refine box_grp g fun b W hW hb c0 c1 c2 => ?_
  have n1 := validG_not (g := g)
  have n2 := validG_yes (g := g)
  obtain ⟨P, Q, G⟩ := g
  obtain ⟨hP, hQ, hG⟩ := hg
  unfold I64 at hP hQ hG
  simp only at hP hQ hG n1 n2 c0 c1 c2
  have hr := Below.refl W.heap.size W
  have hTW : DbT W := hT.below hW (Nat.le_refl _)
  have k1 : ∀ w', validG ⟨P, Q, G⟩ = false → Below W.heap.size W w' → K (.bool false) w' := fun w' e hb => by rw [e] at k; exact k w' (hW.on hb)
  have k2 : ∀ w' v, validG ⟨P, Q, G⟩ = v → Below W.heap.size W w' → K (.bool v) w' := fun w' v e hb => by rw [e] at k; exact k w' (hW.on hb)
  clear k
  repeat (any_goals (first
  | (with_reducible first|((refine idGd ?_); first|refine zD ?_|((refine idGdD ?_); first|refine zI ?_|refine zJ ?_|refine zK (fun hg=>?_) fun hg=>?_)|((refine idGdN ?_); first|refine zO ?_|refine zP ?_|refine zQ (fun hg=>?_) fun hg=>?_))|((refine idPick ?_); first|refine yB ?_|refine yD ?_|refine yE ?_|refine yF ?_|refine yG ?_)|((refine idCond ?_); first|refine yL ?_|refine yP (fun hg=>?_) fun hg=>?_))
  | ((with_reducible refine idO ?_); (with_reducible refine oM_gen fun Kv hK=>?_); simp [go_sem, c0, c1, c2, hr]; (try simp (disch := omega) only [wrapI64, wrapU8, wrapU32, wrapU64]); refine hK _ _ ?_; clear hK; clear Kv)))
  all_goals try exact k1 _ (n1 (by omega)) hr
  refine Prime_ok Q hTW (fun w1 h1 => ?_)
  have n2 := n2 (by omega)
  cases hq : primeM Q with
  | false =>
    have n2 : validG ⟨P, Q, G⟩ = false := by rw [n2, hq]; rfl
    repeat (any_goals (with_reducible first|((refine idGd ?_); refine zB ?_)|((refine idPick ?_); refine yC ?_)))
    exact k1 _ n2 h1
  | true =>
    rw [hq, Bool.true_and] at n2
    repeat (any_goals (first
    | (with_reducible ((refine idGd ?_); refine zA ?_))
    | ((with_reducible refine idO ?_); (with_reducible refine oM_gen fun Kv hK=>?_); simp [go_sem, c0, h1]; refine hK _ _ ?_; clear hK; clear Kv)))
    refine Prime_ok P (hTW.below h1 (Nat.le_refl _)) (fun w2 h2 => ?_)
    have h2 := h1.on h2
    cases hp : primeM P with
    | false =>
      have n2 : validG ⟨P, Q, G⟩ = false := by rw [n2, hp]; rfl
      repeat (any_goals (with_reducible first|((refine idGd ?_); refine zB ?_)|((refine idPick ?_); first|refine yB ?_|refine yC ?_)))
      exact k1 _ n2 h2
    | true =>
      rw [hp, Bool.true_and] at n2
      repeat (any_goals (first
      | (with_reducible first|((refine idGd ?_); refine zA ?_)|((refine idPick ?_); refine yB ?_))
      | ((with_reducible refine idO ?_); (with_reducible refine oM_gen fun Kv hK=>?_); simp [go_sem, c0, c1, c2, h2]; refine hK _ _ ?_; clear hK; clear Kv)))
      refine Pow_ok P G Q hQ (fun w3 h3 => ?_)
      have e : powM P G Q = pw P G Q.toNat := by unfold powM; rw [if_pos (by unfold okN; omega), if_pos (by omega)]
      rw [e]
      generalize pw P G Q.toNat = z at *
      have h3 := h2.on h3
      repeat (any_goals (first
      | (with_reducible first|((refine idGd ?_); refine zA ?_)|((refine idPick ?_); refine yB ?_))
      | ((with_reducible refine idO ?_); (with_reducible refine oM_gen fun Kv hK=>?_); simp [go_sem]; refine hK _ _ ?_; clear hK; clear Kv)))
      exact k2 _ _ n2 h3
end
end Go.Proofs
namespace Go.Proofs
open Go Go.Sh Go.RowKit FdSpec
set_option linter.unusedSimpArgs false
set_option linter.unusedVariables false
set_option maxRecDepth 10000
section
variable {K : Value → World → Prop} {w : World}
theorem Element_ok (g : Grp) (x : Int) (hgr : GrpR g) (hT : DbT w) (k : ∀ w', Below w.heap.size w w' → K (.bool (elemG g x)) w') : callM Tryz.prog 176 #[grpV g, .int .i64 x] K w := by
  apply sh_176_ok
  unfold sh_176
  refine box_grp g fun b W hW hb c0 c1 c2 => ?_
  have hr := Below.refl W.heap.size W
  have hTW : DbT W := hT.below hW (Nat.le_refl _)
  have k2 : ∀ w' v, elemG g x = v → Below W.heap.size W w' → K (.bool v) w' := fun w' v e hb => by rw [← e]; exact k w' (hW.on hb)
  have e0 : elemG g x = (decide (1 ≤ x) && decide (x < g.P) && validG g && decide (pw g.P x g.Q.toNat = 1)) := rfl
  clear k
  repeat (any_goals (first
  | (with_reducible first|refine pureM_in ?_|((refine idGd ?_); first|refine zB ?_|((refine idGdD ?_); first|refine zF ?_|refine zG ?_|refine zH (fun hg=>?_) fun hg=>?_))|((refine idPick ?_); first|refine yC ?_|refine yD ?_|refine yE ?_))
  | ((with_reducible refine idO ?_); (with_reducible refine oM_gen fun Kv hK=>?_); simp [go_sem, c0, c1, c2, hr]; refine hK _ _ ?_; clear hK; clear Kv)))
  · refine ValidGroup_ok g hgr hTW (fun w1 h1 => ?_)
    cases hv : validG g with
    | false =>
      repeat (any_goals (with_reducible first|((refine idGd ?_); refine zB ?_)|((refine idPick ?_); first|refine yC ?_|refine yD ?_)))
      exact k2 _ _ (by rw [e0, hv]; simp) h1
    | true =>
      have hv2 := hv
      unfold validG at hv2
      split at hv2
      · cases hv2
      rename_i hn
      repeat (any_goals (first
      | (with_reducible first|refine pureM_in ?_|((refine idGd ?_); refine zA ?_)|((refine idPick ?_); refine yD ?_))
      | ((with_reducible refine idO ?_); (with_reducible refine oM_gen fun Kv hK=>?_); simp [go_sem, c0, c1, h1]; refine hK _ _ ?_; clear hK; clear Kv)))
      refine Pow_ok g.P x g.Q hgr.2.1 (fun w3 h3 => ?_)
      have e : powM g.P x g.Q = pw g.P x g.Q.toNat := by unfold powM; rw [if_pos (by unfold okN; omega), if_pos (by omega)]
      rw [e]
      have e1 : elemG g x = decide (pw g.P x g.Q.toNat = 1) := by rw [e0, hv]; simp; omega
      generalize pw g.P x g.Q.toNat = z at *
      repeat (any_goals (first
      | (with_reducible first|((refine idGd ?_); refine zA ?_)|((refine idPick ?_); refine yB ?_))
      | ((with_reducible refine idO ?_); (with_reducible refine oM_gen fun Kv hK=>?_); simp [go_sem]; refine hK _ _ ?_; clear hK; clear Kv)))
      exact k2 _ _ e1 (h1.on h3)
  · exact k2 _ _ (by rw [e0]; simp; omega) hr
  · exact k2 _ _ (by rw [e0]; simp; omega) hr
theorem Power_ok (g : Grp) (x n : Int) (k : ∀ w', Below w.heap.size w w' → K (.int .i64 (powerG g x n)) w') : callM Tryz.prog 37 #[grpV g, .int .i64 x, .int .i64 n] K w := by
  apply sh_37_ok
  unfold sh_37
  refine box_grp g fun b W hW hb c0 c1 c2 => ?_
  have hr := Below.refl W.heap.size W
  have k2 : ∀ w' v, powerG g x n = v → Below W.heap.size W w' → K (.int .i64 v) w' := fun w' v e hb => by rw [← e]; exact k w' (hW.on hb)
  clear k
  repeat (any_goals ((with_reducible refine idO ?_); (with_reducible refine oM_gen fun Kv hK=>?_); simp [go_sem, c0, c1, c2, hr]; refine hK _ _ ?_; clear hK; clear Kv))
  refine valid_ok g.P ?_
  by_cases hp : okN g.P
  · by_cases hq : okN g.Q
    · repeat (any_goals (first
      | (with_reducible ((refine idGd ?_); ((refine idGdN ?_); refine zO ?_)))
      | ((with_reducible refine idO ?_); (with_reducible refine oM_gen fun Kv hK=>?_); simp [go_sem, c0, c1, c2, hr]; refine hK _ _ ?_; clear hK; clear Kv)))
      refine valid_ok g.Q ?_
      repeat (any_goals (first
      | (with_reducible first|((refine idGd ?_); ((refine idGdN ?_); refine zO ?_))|((refine idPick ?_); refine yG ?_)|((refine idCond ?_); refine yR ?_))
      | ((with_reducible refine idO ?_); (with_reducible refine oM_gen fun Kv hK=>?_); simp [go_sem, c0, c1, c2, hr]; refine hK _ _ ?_; clear hK; clear Kv)))
      refine ⟨Below W.heap.size W, .drawn, ?_⟩
      have hp' := hp
      have hq' := hq
      obtain ⟨h1, h2⟩ := hp'
      obtain ⟨h3, h4⟩ := hq'
      have a1 := Int.emod_nonneg x (b := g.P) (by omega)
      have a2 := Int.emod_lt_of_pos x (b := g.P) (by omega)
      have a3 := Int.emod_nonneg n (b := g.Q) (by omega)
      have a4 := Int.emod_lt_of_pos n (b := g.Q) (by omega)
      have e0 : powerG g x n = pw g.P (x % g.P) (n % g.Q).toNat := by unfold powerG; rw [if_pos ⟨hp, hq⟩, pw_emod]
      obtain ⟨m, hm⟩ := natN (n % g.Q) a3
      rw [hm, Int.toNat_natCast] at e0
      have hr := pw_nonneg g.P (x % g.P) m (by omega)
      repeat (any_goals ((with_reducible refine idOQ ?_); (with_reducible refine oQ_of ⟨_, rfl⟩ (fun W0 hW0 => by (refine oM_gen (fun Kv hK => ?_)); simp [go_sem, c0 _ hW0, c1 _ hW0, c2 _ hW0]; (first | exact hK _ _ ⟨rfl, rfl⟩ | exact ⟨by omega, hK _ _ ⟨rfl, rfl⟩⟩)) ?_)))
      refine callQ_of (fun W0 hW0 => residue_ok g.P x hp ⟨rfl, hW0⟩) ?_
      repeat (any_goals ((with_reducible refine idOQ ?_); (with_reducible refine oQ_of ⟨_, rfl⟩ (fun W0 hW0 => by (refine oM_gen (fun Kv hK => ?_)); simp [go_sem, c0 _ hW0, c1 _ hW0, c2 _ hW0]; (first | exact hK _ _ ⟨rfl, rfl⟩ | exact ⟨by omega, hK _ _ ⟨rfl, rfl⟩⟩)) ?_)))
      refine callQ_of (fun W0 hW0 => residue_ok g.Q n hq ⟨rfl, hW0⟩) ?_
      rw [hm]
      refine callQ_of (fun W0 hW0 => power_ok g.P (x % g.P) m hp ⟨a1, a2⟩ (by omega) (fun w' hw' => ⟨rfl, hW0.on hw'⟩)) ?_
      generalize pw g.P (x % g.P) m = z at *
      have e3 : IntKind.i64.wrap z = z := wrapI64 z (by omega) (by omega)
      repeat (any_goals ((with_reducible refine idOQ ?_); (with_reducible refine oQ_of ⟨_, rfl⟩ (fun W0 hW0 => by (refine oM_gen (fun Kv hK => ?_)); simp [go_sem, e3]; (first | exact hK _ _ ⟨rfl, rfl⟩ | exact ⟨by omega, hK _ _ ⟨rfl, rfl⟩⟩)) ?_)))
      intro w' hw'
      exact k2 _ _ e0 hw'
    · have e0 : powerG g x n = 0 := by unfold powerG; rw [if_neg (fun h => hq h.2)]
      repeat (any_goals (first
      | (with_reducible ((refine idGd ?_); ((refine idGdN ?_); refine zO ?_)))
      | ((with_reducible refine idO ?_); (with_reducible refine oM_gen fun Kv hK=>?_); simp [go_sem, c0, c1, c2, hr]; refine hK _ _ ?_; clear hK; clear Kv)))
      refine valid_ok g.Q ?_
      repeat (any_goals (first
      | (with_reducible first|((refine idGd ?_); ((refine idGdN ?_); refine zO ?_))|((refine idPick ?_); refine yG ?_)|((refine idCond ?_); refine yQ ?_))
      | ((with_reducible refine idO ?_); (with_reducible refine oM_gen fun Kv hK=>?_); simp [go_sem, c0, c1, c2, hr]; refine hK _ _ ?_; clear hK; clear Kv)))
      exact k2 _ _ e0 hr
  · have e0 : powerG g x n = 0 := by unfold powerG; rw [if_neg (fun h => hp h.1)]
    repeat (any_goals (first
    | (with_reducible first|((refine idGd ?_); ((refine idGdN ?_); refine zP ?_))|((refine idPick ?_); refine yF ?_)|((refine idCond ?_); refine yL ?_))
    | ((with_reducible refine idO ?_); (with_reducible refine oM_gen fun Kv hK=>?_); simp [go_sem, c0, c1, c2, hr]; refine hK _ _ ?_; clear hK; clear Kv)))
    exact k2 _ _ e0 hr
theorem Times_ok (g : Grp) (x n : Int) (k : ∀ w', Below w.heap.size w w' → K (.int .i64 (timesG g x n)) w') : callM Tryz.prog 168 #[grpV g, .int .i64 x, .int .i64 n] K w := by
  apply sh_168_ok
  unfold sh_168
  refine box_grp g fun b W hW hb c0 c1 c2 => ?_
  have hr := Below.refl W.heap.size W
  have k2 : ∀ w' v, timesG g x n = v → Below W.heap.size W w' → K (.int .i64 v) w' := fun w' v e hb => by rw [← e]; exact k w' (hW.on hb)
  clear k
  repeat (any_goals ((with_reducible refine idO ?_); (with_reducible refine oM_gen fun Kv hK=>?_); simp [go_sem, c0, c1, c2, hr]; refine hK _ _ ?_; clear hK; clear Kv))
  refine valid_ok g.Q ?_
  by_cases hq : okN g.Q
  · repeat (any_goals (first
    | (with_reducible ((refine idCond ?_); refine yR ?_))
    | ((with_reducible refine idO ?_); (with_reducible refine oM_gen fun Kv hK=>?_); simp [go_sem, c0, c1, c2, hr]; refine hK _ _ ?_; clear hK; clear Kv)))
    refine Mul_ok g.P x n (fun w1 h1 => ?_)
    exact k2 _ _ (by unfold timesG; rw [if_pos hq]) h1
  · repeat (any_goals (first
    | (with_reducible ((refine idCond ?_); refine yQ ?_))
    | ((with_reducible refine idO ?_); (with_reducible refine oM_gen fun Kv hK=>?_); simp [go_sem, c0, c1, c2, hr]; refine hK _ _ ?_; clear hK; clear Kv)))
    exact k2 _ _ (by unfold timesG; rw [if_neg hq]) hr
end
end Go.Proofs
namespace Go.Proofs
open Go Go.Sh Go.RowKit FdSpec
set_option linter.unusedSimpArgs false
set_option linter.unusedVariables false
set_option maxRecDepth 10000
section
variable {K : Value → World → Prop} {w : World}
def PdJ (g : Grp) (R : Int) (ps : List (Int × Int)) (W : World) (l : List Value) (w' : World) : Prop := Below W.heap.size W w' ∧ ∃ (v u : Value) (o : Int) (i : Nat), l = [v, u, .int .i64 o, .int .i64 (i : Int)] ∧ i ≤ ps.length ∧ prodL g o (ps.drop i) = R
def pdMu (n : Nat) (l : List Value) (_ : World) : Nat := match l with | [_, _, _, .int _ i] => n - i.toNat | _ => 0
theorem pdMu_eq (n : Nat) (x y z : Value) (q : IntKind) (i : Int) (w : World) : pdMu n [x, y, z, .int q i] w = n - i.toNat := rfl
theorem zip_drop (a b : List Int) (i : Nat) (h1 : i < a.length) (h2 : i < b.length) : (a.zip b).drop i = (a[i], b[i]) :: (a.zip b).drop (i + 1) := by
  rw [List.drop_eq_getElem_cons (by rw [List.length_zip]; omega), List.getElem_zip]
@[go_sem] theorem oM_index_ints (T : TypeId) (b o n c : Nat) (x : Int) : oM Tryz.prog (.indexAddr 22 (.tmp 0) (.tmp 1)) T [.slice (some ⟨b, o, none⟩) n c, .int .i64 x] = onM (0 ≤ x ∧ x < n) (.pointer (some ⟨b, o + x.toNat, none⟩)) := by
  funext K w
  rw [oM_indexAddr, run_indexAt_slice (h := by kernel_rfl)]
  have hs : (sizeOf (Tryz.prog.elem 22)).run Tryz.prog w = .ok 1 w := by kernel_rfl
  by_cases hi : 0 ≤ x ∧ x < n
  · rw [if_pos hi, hs]
    simp only [Result.andThen, add_none, Nat.mul_one, rM_ok]
    exact propext ⟨fun h => ⟨hi, h⟩, fun h => h.2⟩
  · rw [if_neg hi]
    obtain ⟨e', w', he⟩ := halts Value Tryz.prog .i64 x n .index w
    rw [he]
    exact propext ⟨fun h => h.elim, fun h => hi h.1⟩
theorem Product_ok (g : Grp) {bv ev : Value} {bs es : List Int} (hbs : Ints w bv bs) (hes : Ints w ev es) (k : ∀ w', Below w.heap.size w w' → K (.tuple #[.int .i64 (prodG g bs es).1, .bool (prodG g bs es).2]) w') : callM Tryz.prog 38 #[grpV g, bv, ev] K w := by
  apply sh_38_ok
  unfold sh_38
  refine box_grp g fun b W hW hb c0 c1 c2 => ?_
  have hr := Below.refl W.heap.size W
  have k2 : ∀ w' v, prodG g bs es = v → Below W.heap.size W w' → K (.tuple #[.int .i64 v.1, .bool v.2]) w' := fun w' v e hb => by rw [← e]; exact k w' (hW.on hb)
  clear k
  obtain ⟨bad, bc, rfl⟩ := hbs.isSlice
  obtain ⟨ead, ec, rfl⟩ := hes.isSlice
  have hbs := hbs.next hW
  have hes := hes.next hW
  have l1 := hbs.len
  have l2 := hes.len
  repeat (any_goals ((with_reducible refine idO ?_); (with_reducible refine oM_gen fun Kv hK=>?_); simp [go_sem, c0, c1, c2, hr]; refine hK _ _ ?_; clear hK; clear Kv))
  refine valid_ok g.P ?_
  by_cases hp : okN g.P
  · by_cases hq : okN g.Q
    · repeat (any_goals (first
      | (with_reducible ((refine idGd ?_); ((refine idGdN ?_); refine zO ?_)))
      | ((with_reducible refine idO ?_); (with_reducible refine oM_gen fun Kv hK=>?_); simp [go_sem, c0, c1, c2, hr]; refine hK _ _ ?_; clear hK; clear Kv)))
      refine valid_ok g.Q ?_
      by_cases hl : bs.length = es.length
      · have e1 : (1 : Int).tmod g.P = 1 % g.P := Int.tmod_eq_emod_of_nonneg (by omega)
        have hp0 := hp.1
        have e0 : prodG g bs es = (prodL g (1 % g.P) (bs.zip es), true) := by unfold prodG; rw [if_pos ⟨hp, hq, hl⟩]
        have hzl : (bs.zip es).length = bs.length := by rw [List.length_zip]; omega
        repeat (any_goals (first
        | (with_reducible first|refine pureM_in ?_|((refine idGd ?_); ((refine idGdN ?_); refine zO ?_))|((refine idPick ?_); refine yG ?_)|((refine idCond ?_); refine yM ?_))
        | ((with_reducible refine idO ?_); (with_reducible refine oM_gen fun Kv hK=>?_); simp [go_sem, c0, c1, c2, hr, hl, e1]; (first|refine hK _ _ ?_|refine And.intro (by omega) (hK _ _ ?_)); clear hK; clear Kv)))
        refine ⟨PdJ g (prodL g (1 % g.P) (bs.zip es)) (bs.zip es) W, pdMu es.length, ⟨hr, _, _, _, 0, rfl, by omega, rfl⟩, ?_⟩
        generalize prodL g (1 % g.P) (bs.zip es) = R at *
        rintro _ _ w1 ⟨h1, v, u, o, i, rfl, hi, he⟩
        rw [hzl] at hi
        by_cases hin : i = es.length
        · rw [List.drop_of_length_le (by omega)] at he
          unfold prodL at he
          repeat (any_goals (first
          | (with_reducible ((refine idCond ?_); refine yO ?_))
          | ((with_reducible refine idO ?_); (with_reducible refine oM_gen fun Kv hK=>?_); simp [go_sem]; refine hK _ _ ?_; clear hK; clear Kv)))
          rw [he]
          exact k2 _ _ e0 h1
        · rw [zip_drop bs es i (by omega) (by omega)] at he
          unfold prodL at he
          obtain ⟨b1, o1, rfl, hb1, ca, ra, _⟩ := hbs.at (i := i) (by omega)
          obtain ⟨b2, o2, rfl, hb2, cb, rb, _⟩ := hes.at (i := i) (by omega)
          repeat (any_goals (first
          | (with_reducible ((refine idCond ?_); refine yN ?_))
          | ((with_reducible refine idO ?_); (with_reducible refine oM_gen fun Kv hK=>?_); simp [go_sem, ca _ h1, c0, h1]; (first|refine hK _ _ ?_|refine And.intro (by omega) (hK _ _ ?_)); clear hK; clear Kv)))
          refine ⟨Below W.heap.size W, h1.trans .drawn, ?_⟩
          repeat (any_goals ((with_reducible refine idOQ ?_); (with_reducible refine oQ_of ⟨_, rfl⟩ (fun W0 hW0 => by (refine oM_gen (fun Kv hK => ?_)); simp [go_sem, c0 _ hW0, c1 _ hW0, c2 _ hW0, cb _ hW0]; (first | exact hK _ _ ⟨rfl, rfl⟩ | exact ⟨by omega, hK _ _ ⟨rfl, rfl⟩⟩)) ?_)))
          refine callQ_of (fun W0 hW0 => Power_ok g _ _ (fun w' hw' => ⟨rfl, hW0.on hw'⟩)) ?_
          refine callQ_of (fun W0 hW0 => Mul_ok _ _ _ (fun w' hw' => ⟨rfl, hW0.on hw'⟩)) ?_
          intro w2 h2
          repeat (any_goals ((with_reducible refine idO ?_); (with_reducible refine oM_gen fun Kv hK=>?_); simp [go_sem]; (try simp (disch := omega) only [wrapI64, wrapU8, wrapU32, wrapU64]); refine hK _ _ ?_; clear hK; clear Kv))
          refine ⟨⟨h2, _, _, _, i + 1, rfl, by rw [hzl]; omega, he⟩, ?_⟩
          simp only [pdMu_eq]; omega
      · have e0 : prodG g bs es = (0, false) := by unfold prodG; rw [if_neg (fun h => hl h.2.2)]
        have hl' : ¬ (bs.length : Int) = es.length := by omega
        repeat (any_goals (first
        | (with_reducible first|refine pureM_in ?_|((refine idGd ?_); ((refine idGdN ?_); refine zO ?_))|((refine idPick ?_); refine yG ?_)|((refine idCond ?_); refine yL ?_))
        | ((with_reducible refine idO ?_); (with_reducible refine oM_gen fun Kv hK=>?_); simp [go_sem, c0, c1, c2, hr, hl']; refine hK _ _ ?_; clear hK; clear Kv)))
        exact k2 _ _ e0 hr
    · have e0 : prodG g bs es = (0, false) := by unfold prodG; rw [if_neg (fun h => hq h.2.1)]
      repeat (any_goals (first
      | (with_reducible ((refine idGd ?_); ((refine idGdN ?_); refine zO ?_)))
      | ((with_reducible refine idO ?_); (with_reducible refine oM_gen fun Kv hK=>?_); simp [go_sem, c0, c1, c2, hr]; refine hK _ _ ?_; clear hK; clear Kv)))
      refine valid_ok g.Q ?_
      repeat (any_goals (first
      | (with_reducible first|((refine idGd ?_); ((refine idGdN ?_); first|refine zO ?_|refine zP ?_))|((refine idPick ?_); first|refine yF ?_|refine yG ?_)|((refine idCond ?_); refine yL ?_))
      | ((with_reducible refine idO ?_); (with_reducible refine oM_gen fun Kv hK=>?_); simp [go_sem, c0, c1, c2, hr]; refine hK _ _ ?_; clear hK; clear Kv)))
      exact k2 _ _ e0 hr
  · have e0 : prodG g bs es = (0, false) := by unfold prodG; rw [if_neg (fun h => hp h.1)]
    repeat (any_goals (first
    | (with_reducible first|((refine idGd ?_); first|refine zD ?_|((refine idGdN ?_); refine zP ?_))|((refine idPick ?_); first|refine yB ?_|refine yF ?_)|((refine idCond ?_); refine yL ?_))
    | ((with_reducible refine idO ?_); (with_reducible refine oM_gen fun Kv hK=>?_); simp [go_sem, c0, c1, c2, hr]; refine hK _ _ ?_; clear hK; clear Kv)))
    exact k2 _ _ e0 hr
end
end Go.Proofs
namespace Go.Sh
open Go Go.RowKit
@[reducible] def cellsAre (w : World) : List (Addr × Value) → Prop
  | [] => True
  | p :: l => w.cell? p.1 = some p.2 ∧ cellsAre w l
theorem cellsAre_keep {w w' : World} : ∀ {L : List (Addr × Value)}, cellsAre w L → (∀ (a : Addr), a.block < w.heap.size → w'.cell? a = w.cell? a) → cellsAre w' L
  | [], _, _ => trivial
  | p :: l, h, k => by
    refine ⟨?_, cellsAre_keep h.2 k⟩
    have hlt : p.1.block < w.heap.size := by
      have h1 := h.1
      by_cases hc : p.1.block < w.heap.size
      · exact hc
      · unfold World.cell? at h1
        rw [Array.getElem?_eq_none (by omega)] at h1
        simp at h1
    rw [k _ hlt]; exact h.1
theorem cellsAre_keepBut {w w' : World} {g : Nat} : ∀ {L : List (Addr × Value)}, cellsAre w L → (∀ p ∈ L, p.1.block ≠ g) → (∀ (a : Addr), a.block < w.heap.size → a.block ≠ g → w'.cell? a = w.cell? a) → cellsAre w' L
  | [], _, _, _ => trivial
  | p :: l, h, hn, k => by
    refine ⟨?_, cellsAre_keepBut h.2 (fun q hq => hn q (List.mem_cons_of_mem _ hq)) k⟩
    have hlt : p.1.block < w.heap.size := by
      have h1 := h.1
      by_cases hc : p.1.block < w.heap.size
      · exact hc
      · unfold World.cell? at h1
        rw [Array.getElem?_eq_none (by omega)] at h1
        simp at h1
    rw [k _ hlt (hn p (List.mem_cons_self ..))]; exact h.1
structure Kn (w0 : World) (L : List (Addr × Value)) (w' : World) : Prop where
  below : Below w0.heap.size w0 w'
  cells : cellsAre w' L
namespace Kn
variable {w0 w w' : World} {L : List (Addr × Value)}
theorem start (w : World) : Kn w [] w := ⟨Below.refl _ _, trivial⟩
theorem next (h : Kn w0 L w) (hb : Below w.heap.size w w') : Kn w0 L w' := ⟨h.below.on hb, cellsAre_keep h.cells fun a ha => hb.cell ha⟩
theorem drew (h : Kn w0 L w) : Kn w0 L { w with drawn := w.drawn + 1 } := h.next .drawn
theorem wrote (h : Kn w0 L w) {g : Nat} (hg : w.grownBy w' (some g)) (h0 : w0.heap.size ≤ g) (hn : ∀ p ∈ L, p.1.block ≠ g) : Kn w0 L w' :=
  ⟨h.below.grown hg h.below.size (fun k hk => by cases hk; exact h0),
    cellsAre_keepBut h.cells hn fun a ha hna => World.cell?_of_block (w := w) (hg.block _ ha (fun e => hna (Option.some.inj e)))⟩
theorem less {A : List (Addr × Value)} (h : Kn w0 (A ++ L) w) : Kn w0 L w := ⟨h.below, by
  have := h.cells
  clear h
  induction A with
  | nil => exact this
  | cons a A ih => exact ih this.2⟩
end Kn
@[reducible] def cellsOf (L : List (Addr × Value)) (b : Nat) : Nat → List Value → List (Addr × Value)
  | _, [] => L
  | i, v :: l => (⟨b, i, none⟩, v) :: cellsOf L b (i + 1) l
theorem cellsOf_are {w : World} {b : Nat} {xs : List Value} {L : List (Addr × Value)} (hL : cellsAre w L) (h : ∀ (i : Nat) (v : Value), xs[i]? = some v → w.cell? ⟨b, i, none⟩ = some v) : ∀ (l : List Value) (i : Nat), xs.drop i = l → cellsAre w (cellsOf L b i l)
  | [], _, _ => hL
  | v :: l, i, e => by
    have hv : xs[i]? = some v := by
      have := congrArg (·[0]?) e
      simpa using this
    refine ⟨h i v hv, cellsOf_are hL h l (i + 1) ?_⟩
    have := congrArg List.tail e
    simpa using this
def Mine (w : World) (g : Nat) (n : Nat) : Prop := ∃ cur T, w.heap[g]? = some (.cells cur T (0, 0)) ∧ cur.size = n
theorem Mine.next {w w' : World} {g n : Nat} (h : Mine w g n) (hb : Below w.heap.size w w') : Mine w' g n := by
  obtain ⟨cur, T, h1, h2⟩ := h
  refine ⟨cur, T, ?_, h2⟩
  rw [hb.block g (Array.getElem?_eq_some_iff.1 h1).1]; exact h1
section
variable {P : Program} {w0 w : World} {K : Value → World → Prop} {T T' : TypeId} {L : List (Addr × Value)}
theorem box_kn {x : Value} {cs : List Value} (hx : x.cells = cs.toArray) (hk : Kn w0 L w) (k : ∀ b W, Kn w0 (cellsOf L b 0 cs) W → Below w.heap.size w W → w.heap.size ≤ b → K (.pointer (some ⟨b, 0, none⟩)) W) : oM P (.box T (.tmp 0)) T' [x] K w :=
  box_in hx fun g W h1 h2 h3 => k g W ⟨(hk.next h1).below, cellsOf_are (xs := cs) (hk.next h1).cells (fun i v hi => h3 W (Below.refl _ _) i v hi) cs 0 rfl⟩ h1 h2
end
end Go.Sh
namespace TkSpec
open FdSpec
structure Stp where
  g : Grp
  bases : List Int
  blind : Int
deriving DecidableEq
structure Bld where
  s : Int
  u : Int
  v : Int
  ys : List Int
deriving DecidableEq
structure Tkt where
  mark : Int
  first : Int
  z : Int
  a : Int
  b : Int
  r : Int
deriving DecidableEq
structure Spd where
  dare : Int
  answers : List Int
deriving DecidableEq
structure Off where
  z : Int
  a : Int
  b : Int
deriving DecidableEq
def otherM (g : Grp) (x : Int) : Bool := !decide (x = 1) && elemG g x
def validS (s : Stp) : Bool := validG s.g && decide (2 ≤ s.bases.length) && decide (s.bases.length ≤ 7) && s.bases.all (otherM s.g) && otherM s.g s.blind
def numsM (s : Stp) (least : Int) (l : List Int) : Bool := l.all fun n => decide (least ≤ n) && decide (n < s.g.Q)
def elementsM (s : Stp) (l : List Int) : Bool := l.all (elemG s.g)
def keyM (s : Stp) (k : Int) : Bool := !decide (k = 1) && elementsM s [k]
def genM (s : Stp) (k : Int) : Int := powerG s.g s.g.G k
def timesM (s : Stp) (first : Int) (l : List Int) : Int := l.foldl (fun a x => timesG s.g a x) first
def mulQ (s : Stp) (first : Int) (l : List Int) : Int := l.foldl (fun a x => mulM s.g.Q a x) first
def overQ (s : Stp) (a b : Int) : Int := mulQ s a [powM s.g.Q b (-1)]
def plusQ (s : Stp) (a b : Int) : Int := addM s.g.Q a b
def lessQ (s : Stp) (a b : Int) : Int := subM s.g.Q a b
def expsM (attrs : List Int) : List Int := 1 :: attrs
def markM (s : Stp) (attrs : List Int) : Int × Bool :=
  if validS s && decide (attrs.length + 1 = s.bases.length) && numsM s 0 attrs && !decide (attrs.headD 0 = 0) then ((prodG s.g s.bases (expsM attrs)).1, true) else (0, false)
def usableM (s : Stp) (attrs : List Int) : Int × Bool := ((markM s attrs).1, (markM s attrs).2 && !decide ((markM s attrs).1 = 1))
def publicM (s : Stp) (x : Int) : Int := if validS s && numsM s 1 [x] then genM s x else 0
def proposeM (s : Stp) (x : Int) (attrs : List Int) (w : Int) : Off × Int :=
  if (usableM s attrs).2 && numsM s 1 [x] && numsM s 0 [w] then (⟨powerG s.g (usableM s attrs).1 x, genM s w, powerG s.g (usableM s attrs).1 w⟩, 0) else (⟨0, 0, 0⟩, 1)
def blindsM (s : Stp) (b : Bld) : Bool := numsM s 1 [b.s, b.u] && numsM s 0 [b.v] && decide (b.ys.length = s.bases.length) && numsM s 0 b.ys
def grantM (s : Stp) (x w c : Int) : Int := if validS s && numsM s 1 [x] && numsM s 0 [w, c] then plusQ s (mulQ s c [x]) w else 0
def useM (s : Stp) (attrs : List Int) (b : Bld) (dare : Int) : Spd × Bool :=
  if (usableM s attrs).2 && blindsM s b && numsM s 1 [dare] then (⟨dare, ((expsM attrs).zip b.ys).map fun p => plusQ s p.2 (mulQ s dare [b.s, p.1])⟩, true) else (⟨0, []⟩, false)
def formedM (s : Stp) (t : Tkt) : Bool := validS s && !decide (t.mark = 1) && elementsM s [t.mark, t.first, t.z, t.a, t.b] && numsM s 0 [t.r]
def acceptsM (s : Stp) (t : Tkt) (x : Spd) : Bool :=
  if formedM s t && numsM s 1 [x.dare] && decide (x.answers.length = s.bases.length) && numsM s 0 x.answers then decide ((prodG s.g s.bases x.answers).1 = timesM s (powerG s.g t.mark x.dare) [t.first]) else false
def gapsM (s : Stp) (t : Tkt) (a b : Spd) : List Int × Bool :=
  if decide (a.dare = b.dare) || !acceptsM s t a || !acceptsM s t b then ([], false)
  else ((a.answers.zip b.answers).map fun p => lessQ s p.1 p.2, !decide (((a.answers.zip b.answers).map fun p => lessQ s p.1 p.2).headD 0 = 0))
def traceM (s : Stp) (t : Tkt) (a b : Spd) : List Int × Bool :=
  if (gapsM s t a b).2 then ((gapsM s t a b).1.tail.map fun n => overQ s n ((gapsM s t a b).1.headD 0), true) else ([], false)
def guiltyM (s : Stp) (t : Tkt) (a b : Spd) (attrs : List Int) : Bool :=
  if (gapsM s t a b).2 && decide (attrs.length + 1 = (gapsM s t a b).1.length) && numsM s 0 attrs then
    (attrs.zip (gapsM s t a b).1.tail).all fun p => decide (mulQ s p.1 [(gapsM s t a b).1.headD 0] = p.2)
  else false
def s0 : Stp := ⟨⟨23, 11, 4⟩, [4, 16, 18], 3⟩
def b0 : Bld := ⟨4, 1, 0, [1, 2, 3]⟩
def t0 : Tkt := ⟨8, 18, 9, 16, 13, 0⟩
theorem sane_facts :
    proposeM s0 3 [5, 7] 2 = (⟨9, 16, 13⟩, 0) ∧ useM s0 [5, 7] b0 2 = (⟨2, [9, 9, 4]⟩, true) ∧ useM s0 [5, 7] b0 5 = (⟨5, [10, 3, 0]⟩, true) ∧
    traceM s0 t0 ⟨2, [9, 9, 4]⟩ ⟨5, [10, 3, 0]⟩ = ([5, 7], true) ∧ (traceM s0 t0 ⟨2, [9, 9, 4]⟩ ⟨2, [9, 9, 4]⟩).2 = false ∧
    markM s0 [5, 7] = (6, true) ∧ (usableM s0 [5, 7]).2 = true ∧ (usableM s0 [5, 0]).2 = false ∧ publicM s0 3 = 18 ∧ publicM s0 0 = 0 ∧ grantM s0 3 2 6 = 9 ∧
    acceptsM s0 t0 ⟨2, [9, 9, 4]⟩ = true ∧ acceptsM s0 t0 ⟨5, [10, 3, 0]⟩ = true ∧ acceptsM s0 t0 ⟨3, [9, 9, 4]⟩ = false ∧ guiltyM s0 t0 ⟨2, [9, 9, 4]⟩ ⟨5, [10, 3, 0]⟩ [5, 7] = true := by
  decide +kernel
end TkSpec
namespace Go.Proofs
open Go Go.Sh Go.RowKit FdSpec TkSpec
set_option linter.unusedSimpArgs false
set_option linter.unusedVariables false
set_option maxRecDepth 10000
section
variable {K : Value → World → Prop} {w : World}
@[reducible] def stpV (s : Stp) (v : Value) : Value := .agg #[.int .i64 s.g.P, .int .i64 s.g.Q, .int .i64 s.g.G, v, .int .i64 s.blind]
@[reducible] def stpC (s : Stp) (v : Value) : List Value := [.int .i64 s.g.P, .int .i64 s.g.Q, .int .i64 s.g.G, v, .int .i64 s.blind]
structure SetR (w : World) (s : Stp) (v : Value) : Prop where
  grp : GrpR s.g
  ints : Ints w v s.bases
  blind : I64 s.blind
  db : DbT w
theorem DbT.next {w w' : World} (h : DbT w) (hb : Below w.heap.size w w') : DbT w' := h.below hb (Nat.le_refl _)
theorem SetR.next {w w' : World} {s : Stp} {v : Value} (h : SetR w s v) (hb : Below w.heap.size w w') : SetR w' s v := ⟨h.grp, h.ints.next hb, h.blind, h.db.next hb⟩
theorem other_ok (g : Grp) (x : Int) {b : Nat} (hg : GrpR g) (hT : DbT w) (h0 : w.cell? ⟨b, 0, none⟩ = some (.int .i64 g.P)) (h1 : w.cell? ⟨b, 1, none⟩ = some (.int .i64 g.Q)) (h2 : w.cell? ⟨b, 2, none⟩ = some (.int .i64 g.G))
    (k : ∀ w', Below w.heap.size w w' → K (.bool (otherM g x)) w') : callM Tryz.prog 175 #[.int .i64 x, .pointer (some ⟨b, 0, none⟩)] K w := by
  apply sh_175_ok
  unfold sh_175
  unfold otherM at k
  by_cases hx : x = 1
  · have k := k w (Below.refl _ _)
    repeat (any_goals (first
    | (with_reducible first|((refine idGd ?_); ((refine idGdN ?_); refine zM ?_))|((refine idPick ?_); refine yG ?_))
    | ((with_reducible refine idO ?_); (with_reducible refine oM_gen fun Kv hK=>?_); simp [go_sem, h0, h1, h2]; refine hK _ _ ?_; clear hK; clear Kv)))
    simpa [hx] using k
  · repeat (any_goals (first
    | (with_reducible first|refine pureM_in ?_|((refine idGd ?_); ((refine idGdN ?_); refine zL ?_)))
    | ((with_reducible refine idO ?_); (with_reducible refine oM_gen fun Kv hK=>?_); simp [go_sem, h0, h1, h2]; refine hK _ _ ?_; clear hK; clear Kv)))
    refine Element_ok g x hg hT (fun w' hw => ?_)
    have k := k w' hw
    repeat (any_goals (with_reducible ((refine idPick ?_); refine yF ?_)))
    simpa [hx] using k
def VsJ (s : Stp) (L : List (Addr × Value)) (R : Bool) (w0 : World) (l : List Value) (w' : World) : Prop := Kn w0 L w' ∧ ∃ (v u : Value) (i : Nat), l = [v, u, .int .i64 (i : Int)] ∧ i ≤ s.bases.length ∧ (s.bases.drop i).all (otherM s.g) = R
def vsMu (n : Nat) (l : List Value) (_ : World) : Nat := match l with | [_, _, .int _ i] => n - i.toNat | _ => 0
theorem vsMu_eq (n : Nat) (x y : Value) (q : IntKind) (i : Int) (w : World) : vsMu n [x, y, .int q i] w = n - i.toNat := rfl
theorem ValidSetup_ok (s : Stp) {v : Value} (hs : SetR w s v) (k : ∀ w', Below w.heap.size w w' → K (.bool (validS s)) w') : callM Tryz.prog 135 #[stpV s v] K w := by
  apply sh_135_ok
  unfold sh_135
  obtain ⟨ad, c, rfl⟩ := hs.ints.isSlice
  refine box_kn (cs := stpC s (.slice ad s.bases.length c)) rfl (.start w) fun b W hk hb1 hb => ?_
  have k2 : ∀ w' r, validS s = r → Below w.heap.size w w' → K (.bool r) w' := fun w' r e hb => by rw [← e]; exact k w' hb
  have e0 : validS s = (validG s.g && decide (2 ≤ s.bases.length) && decide (s.bases.length ≤ 7) && s.bases.all (otherM s.g) && otherM s.g s.blind) := rfl
  have hl := hs.ints.len
  clear k
  repeat (any_goals ((with_reducible refine idO ?_); (with_reducible refine oM_gen fun Kv hK=>?_); simp [go_sem, hk.cells]; refine hK _ _ ?_; clear hK; clear Kv))
  refine ValidGroup_ok s.g hs.grp (hs.db.next hk.below) (fun w1 h1 => ?_)
  have hk := hk.next h1
  clear h1 hb1
  cases hv : validG s.g with
  | false =>
    repeat (any_goals (first
    | (with_reducible first|((refine idGd ?_); refine zD ?_)|((refine idPick ?_); refine yB ?_)|((refine idCond ?_); refine yL ?_))
    | ((with_reducible refine idO ?_); (with_reducible refine oM_gen fun Kv hK=>?_); simp [go_sem]; refine hK _ _ ?_; clear hK; clear Kv)))
    exact k2 _ _ (by rw [e0, hv]; simp) hk.below
  | true =>
    repeat (any_goals (first
    | (with_reducible first|((refine idGd ?_); first|refine zC ?_|((refine idGdD ?_); first|refine zI ?_|refine zJ ?_|refine zK (fun hg=>?_) fun hg=>?_))|((refine idPick ?_); first|refine yC ?_|refine yD ?_|refine yE ?_)|((refine idCond ?_); first|refine yL ?_|refine yP (fun hg=>?_) fun hg=>?_))
    | ((with_reducible refine idO ?_); (with_reducible refine oM_gen fun Kv hK=>?_); simp [go_sem, hk.cells]; refine hK _ _ ?_; clear hK; clear Kv)))
    · exact k2 _ _ (by rw [e0]; simp; omega) hk.below
    · exact k2 _ _ (by rw [e0]; simp; omega) hk.below
    have e1 : validS s = (s.bases.all (otherM s.g) && otherM s.g s.blind) := by
      rw [e0, hv, decide_eq_true (by omega : 2 ≤ s.bases.length), decide_eq_true (by omega : s.bases.length ≤ 7)]; rfl
    refine ⟨VsJ s _ (s.bases.all (otherM s.g)) w, vsMu s.bases.length, ⟨hk, _, _, 0, rfl, by omega, rfl⟩, ?_⟩
    generalize s.bases.all (otherM s.g) = R at *
    rintro _ _ w2 ⟨hk, u1, u2, i, rfl, hi, hall⟩
    have hc := hk.cells
    by_cases hin : i = s.bases.length
    · rw [List.drop_of_length_le (by omega), List.all_nil] at hall
      subst hall
      repeat (any_goals (first
      | (with_reducible ((refine idCond ?_); refine yO ?_))
      | ((with_reducible refine idO ?_); (with_reducible refine oM_gen fun Kv hK=>?_); simp [go_sem, hc]; refine hK _ _ ?_; clear hK; clear Kv)))
      refine oM_callv1 (by kernel_rfl) ?_
      refine other_ok s.g s.blind hs.grp (hs.db.next hk.below) hc.1 hc.2.1 hc.2.2.1 (fun w3 h3 => ?_)
      exact k2 _ _ (by rw [e1, Bool.true_and]) (hk.next h3).below
    · rw [List.drop_eq_getElem_cons (by omega), List.all_cons] at hall
      obtain ⟨b1, o1, rfl, hb1, ca, ra, _⟩ := hs.ints.at (i := i) (by omega)
      repeat (any_goals (first
      | (with_reducible ((refine idCond ?_); refine yN ?_))
      | ((with_reducible refine idO ?_); (with_reducible refine oM_gen fun Kv hK=>?_); simp [go_sem, ca _ hk.below]; (first|refine hK _ _ ?_|refine And.intro (by omega) (hK _ _ ?_)); clear hK; clear Kv)))
      refine oM_callv1 (by kernel_rfl) ?_
      refine other_ok s.g _ hs.grp (hs.db.next hk.below) hc.1 hc.2.1 hc.2.2.1 (fun w3 h3 => ?_)
      cases ho : otherM s.g s.bases[i] with
      | false =>
        rw [ho, Bool.false_and] at hall
        subst hall
        repeat (any_goals (first
        | (with_reducible ((refine idCond ?_); refine yL ?_))
        | ((with_reducible refine idO ?_); (with_reducible refine oM_gen fun Kv hK=>?_); simp [go_sem]; refine hK _ _ ?_; clear hK; clear Kv)))
        exact k2 _ _ (by rw [e1, Bool.false_and]) (hk.next h3).below
      | true =>
        rw [ho, Bool.true_and] at hall
        repeat (any_goals (first
        | (with_reducible ((refine idCond ?_); refine yM ?_))
        | ((with_reducible refine idO ?_); (with_reducible refine oM_gen fun Kv hK=>?_); simp [go_sem]; (try simp (disch := omega) only [wrapI64, wrapU8, wrapU32, wrapU64]); refine hK _ _ ?_; clear hK; clear Kv)))
        refine ⟨⟨hk.next h3, _, _, i + 1, rfl, by omega, hall⟩, ?_⟩
        simp only [vsMu_eq]; omega
end
end Go.Proofs
namespace Go.Proofs
open Go Go.Sh Go.RowKit FdSpec TkSpec
set_option linter.unusedSimpArgs false
set_option linter.unusedVariables false
set_option maxRecDepth 10000
section
variable {K : Value → World → Prop} {w w0 : World} {L : List (Addr × Value)}
theorem ints_alloc (w : World) (l : List Int) (T : TypeId) (c : Nat) (hr : ∀ n ∈ l, I64 n) (hl : l.length ≤ 9223372036854775807) : Ints (w.alloc (.cells (l.map (Value.int .i64)).toArray T)) (.slice (some ⟨w.heap.size, 0, none⟩) l.length c) l := by
  refine ⟨⟨_, c, rfl, by simp, ?_⟩, hr, hl⟩
  by_cases h0 : l = []
  · exact .inl h0
  · refine .inr ⟨_, 0, rfl, by simp, fun k x hk => ?_⟩
    rw [flat_int] at hk
    rw [Nat.zero_add]
    have := World.cell?_alloc_at (w := w) (l.map (Value.int .i64)).toArray T w.heap.size k rfl
    rw [this]
    simpa using hk
theorem mk1 {T : TypeId} (x : Int) (hx : I64 x) (k : ∀ v W, Below w.heap.size w W → Ints W v [x] → K v W) : oM Tryz.prog (.buildSlice 22 1 #[(0, .tmp 0)]) T [.int .i64 x] K w := by
  rw [oM_buildSlice1]
  have e : (Instr.buildSlice 22 1 #[(0, .int .i64 x)]).run Tryz.prog w = .ok (.slice (some ⟨w.heap.size, 0, none⟩) 1 1) (w.alloc (.cells #[.int .i64 x] 3)) := by kernel_rfl
  rw [e]
  exact k _ _ ((Below.refl _ w).alloc (Nat.le_refl _) _) (ints_alloc w [x] _ 1 (by simpa using hx) (by simp))
theorem mk2 {T : TypeId} (x y : Int) (hx : I64 x) (hy : I64 y) (k : ∀ v W, Below w.heap.size w W → Ints W v [x, y] → K v W) : oM Tryz.prog (.buildSlice 22 2 #[(0, .tmp 0), (1, .tmp 1)]) T [.int .i64 x, .int .i64 y] K w := by
  rw [oM_buildSlice2]
  have e : (Instr.buildSlice 22 2 #[(0, .int .i64 x), (1, .int .i64 y)]).run Tryz.prog w = .ok (.slice (some ⟨w.heap.size, 0, none⟩) 2 2) (w.alloc (.cells #[.int .i64 x, .int .i64 y] 3)) := by kernel_rfl
  rw [e]
  exact k _ _ ((Below.refl _ w).alloc (Nat.le_refl _) _) (ints_alloc w [x, y] _ 2 (by simp; exact ⟨hx, hy⟩) (by simp))
def IfJ (p : Int → Bool) (l : List Int) (R : Bool) (w0 : World) (vs : List Value) (w' : World) : Prop := Below w0.heap.size w0 w' ∧ ∃ (v u : Value) (i : Nat), vs = [v, u, .int .i64 (i : Int)] ∧ i ≤ l.length ∧ (l.drop i).any p = R
theorem IndexFunc_ok {v F : Value} {l : List Int} (p : Int → Bool) (hl : Ints w v l)
    (hF : ∀ (w' : World) (x : Int) (K' : Value → World → Prop) (T : TypeId), Below w.heap.size w w' → I64 x → (∀ w'', Below w'.heap.size w' w'' → K' (.bool (p x)) w'') → oM Tryz.prog (.call { callee := .value (.tmp 0), args := #[.tmp 1], argTypes := #[3] }) T [F, .int .i64 x] K' w')
    (k : ∀ w' (r : Int), Below w.heap.size w w' → decide (0 ≤ r) = l.any p → K (.int .i64 r) w') : callM Tryz.prog 160 #[v, F] K w := by
  apply sh_160_ok
  unfold sh_160
  obtain ⟨ad, c, rfl⟩ := hl.isSlice
  have hll := hl.len
  repeat (any_goals ((with_reducible refine idO ?_); (with_reducible refine oM_gen fun Kv hK=>?_); simp [go_sem]; refine hK _ _ ?_; clear hK; clear Kv))
  refine ⟨IfJ p l (l.any p) w, vsMu l.length, ⟨Below.refl _ _, _, _, 0, rfl, by omega, rfl⟩, ?_⟩
  generalize l.any p = R at *
  rintro _ _ w1 ⟨h1, u1, u2, i, rfl, hi, ha⟩
  by_cases hin : i = l.length
  · rw [List.drop_of_length_le (by omega), List.any_nil] at ha
    repeat (any_goals (first
    | (with_reducible ((refine idCond ?_); refine yO ?_))
    | ((with_reducible refine idO ?_); (with_reducible refine oM_gen fun Kv hK=>?_); simp [go_sem]; refine hK _ _ ?_; clear hK; clear Kv)))
    exact k _ _ h1 (by rw [← ha]; rfl)
  · rw [List.drop_eq_getElem_cons (by omega), List.any_cons] at ha
    obtain ⟨b1, o1, rfl, hb1, ca, ra, _⟩ := hl.at (i := i) (by omega)
    repeat (any_goals (first
    | (with_reducible ((refine idCond ?_); refine yN ?_))
    | ((with_reducible refine idO ?_); (with_reducible refine oM_gen fun Kv hK=>?_); simp [go_sem, ca _ h1]; (first|refine hK _ _ ?_|refine And.intro (by omega) (hK _ _ ?_)); clear hK; clear Kv)))
    refine hF w1 _ _ _ h1 ra (fun w2 h2 => ?_)
    cases hp : p l[i] with
    | true =>
      rw [hp, Bool.true_or] at ha
      repeat (any_goals (with_reducible ((refine idCond ?_); refine yL ?_)))
      exact k _ _ (h1.on h2) (by rw [← ha]; simp)
    | false =>
      rw [hp, Bool.false_or] at ha
      repeat (any_goals (first
      | (with_reducible ((refine idCond ?_); refine yM ?_))
      | ((with_reducible refine idO ?_); (with_reducible refine oM_gen fun Kv hK=>?_); simp [go_sem]; (try simp (disch := omega) only [wrapI64, wrapU8, wrapU32, wrapU64]); refine hK _ _ ?_; clear hK; clear Kv)))
      refine ⟨⟨h1.on h2, _, _, i + 1, rfl, by omega, ha⟩, ?_⟩
      simp only [vsMu_eq]; omega
theorem ContainsFunc_ok {v F : Value} {l : List Int} (p : Int → Bool) (hl : Ints w v l)
    (hF : ∀ (w' : World) (x : Int) (K' : Value → World → Prop) (T : TypeId), Below w.heap.size w w' → I64 x → (∀ w'', Below w'.heap.size w' w'' → K' (.bool (p x)) w'') → oM Tryz.prog (.call { callee := .value (.tmp 0), args := #[.tmp 1], argTypes := #[3] }) T [F, .int .i64 x] K' w')
    (k : ∀ w', Below w.heap.size w w' → K (.bool (l.any p)) w') : callM Tryz.prog 113 #[v, F] K w := by
  apply sh_113_ok
  unfold sh_113
  refine IndexFunc_ok p hl hF (fun w' r hb hr => ?_)
  repeat (any_goals ((with_reducible refine idO ?_); (with_reducible refine oM_gen fun Kv hK=>?_); simp [go_sem]; refine hK _ _ ?_; clear hK; clear Kv))
  rw [hr]
  exact k _ hb
theorem numsM_any (s : Stp) (least : Int) (l : List Int) : numsM s least l = !(l.any fun n => decide (n < least) || decide (s.g.Q ≤ n)) := by
  unfold numsM
  rw [List.not_any_eq_all_not]
  congr 1
  funext n
  by_cases h1 : n < least <;> by_cases h2 : s.g.Q ≤ n <;> simp [h1, h2] <;> omega
theorem elementsM_any (s : Stp) (l : List Int) : elementsM s l = !(l.any fun n => !elemG s.g n) := by
  unfold elementsM
  rw [List.not_any_eq_all_not]
  congr 1
  funext n
  simp
theorem numsF_ok (s : Stp) (least x : Int) {b d : Nat} (h0 : w.cell? ⟨b, 0, none⟩ = some (.int .i64 least)) (h1 : w.cell? ⟨d, 1, none⟩ = some (.int .i64 s.g.Q)) (h : K (.bool (decide (x < least) || decide (s.g.Q ≤ x))) w) :
    callM Tryz.prog 140 #[.int .i64 x, .pointer (some ⟨b, 0, none⟩), .pointer (some ⟨d, 0, none⟩)] K w := by
  apply sh_140_ok
  unfold sh_140
  by_cases hx : x < least
  · repeat (any_goals (first
    | (with_reducible first|((refine idGd ?_); ((refine idGdD ?_); refine zJ ?_))|((refine idPick ?_); refine yD ?_))
    | ((with_reducible refine idO ?_); (with_reducible refine oM_gen fun Kv hK=>?_); simp [go_sem, h0, h1]; refine hK _ _ ?_; clear hK; clear Kv)))
    simpa [hx] using h
  · repeat (any_goals (first
    | (with_reducible first|refine pureM_in ?_|((refine idGd ?_); ((refine idGdD ?_); refine zI ?_))|((refine idPick ?_); refine yE ?_))
    | ((with_reducible refine idO ?_); (with_reducible refine oM_gen fun Kv hK=>?_); simp [go_sem, h0, h1]; refine hK _ _ ?_; clear hK; clear Kv)))
    simpa [hx] using h
theorem nums_ok (s : Stp) (least : Int) {dv v : Value} {l : List Int} (hs : SetR w s dv) (hl : Ints w v l) (k : ∀ w', Below w.heap.size w w' → K (.bool (numsM s least l)) w') : callM Tryz.prog 72 #[stpV s dv, .int .i64 least, v] K w := by
  apply sh_72_ok
  unfold sh_72
  obtain ⟨ad, c, rfl⟩ := hs.ints.isSlice
  refine box_kn (cs := stpC s (.slice ad s.bases.length c)) rfl (.start w) fun b W hk hb1 hb => ?_
  refine box_kn (cs := [.int .i64 least]) rfl hk fun b2 W2 hk hb2 hbb => ?_
  repeat (any_goals ((with_reducible refine idO ?_); (with_reducible refine oM_gen fun Kv hK=>?_); simp [go_sem]; refine hK _ _ ?_; clear hK; clear Kv))
  refine ContainsFunc_ok (fun n => decide (n < least) || decide (s.g.Q ≤ n)) (hl.next hk.below) ?_ ?_
  · intro w' x K' T hb _ h'
    refine oM_callv1 (by kernel_rfl) ?_
    have hk := (hk.next hb).cells
    exact numsF_ok s least x hk.1 hk.2.2.1 (h' _ (Below.refl _ _))
  · intro w' hb
    repeat (any_goals ((with_reducible refine idO ?_); (with_reducible refine oM_gen fun Kv hK=>?_); simp [go_sem]; refine hK _ _ ?_; clear hK; clear Kv))
    rw [← numsM_any]
    exact k _ (hk.next hb).below
theorem elemF_ok (s : Stp) (x : Int) {d : Nat} (hg : GrpR s.g) (hT : DbT w) (h0 : w.cell? ⟨d, 0, none⟩ = some (.int .i64 s.g.P)) (h1 : w.cell? ⟨d, 1, none⟩ = some (.int .i64 s.g.Q)) (h2 : w.cell? ⟨d, 2, none⟩ = some (.int .i64 s.g.G)) (k : ∀ w', Below w.heap.size w w' → K (.bool (!elemG s.g x)) w') :
    callM Tryz.prog 185 #[.int .i64 x, .pointer (some ⟨d, 0, none⟩)] K w := by
  apply sh_185_ok
  unfold sh_185
  repeat (any_goals ((with_reducible refine idO ?_); (with_reducible refine oM_gen fun Kv hK=>?_); simp [go_sem, h0, h1, h2]; refine hK _ _ ?_; clear hK; clear Kv))
  refine Element_ok s.g x hg hT (fun w' hb => ?_)
  repeat (any_goals ((with_reducible refine idO ?_); (with_reducible refine oM_gen fun Kv hK=>?_); simp [go_sem]; refine hK _ _ ?_; clear hK; clear Kv))
  exact k _ hb
theorem elements_ok (s : Stp) {dv v : Value} {l : List Int} (hs : SetR w s dv) (hl : Ints w v l) (k : ∀ w', Below w.heap.size w w' → K (.bool (elementsM s l)) w') : callM Tryz.prog 146 #[stpV s dv, v] K w := by
  apply sh_146_ok
  unfold sh_146
  obtain ⟨ad, c, rfl⟩ := hs.ints.isSlice
  refine box_kn (cs := stpC s (.slice ad s.bases.length c)) rfl (.start w) fun b W hk hb1 hb => ?_
  repeat (any_goals ((with_reducible refine idO ?_); (with_reducible refine oM_gen fun Kv hK=>?_); simp [go_sem]; refine hK _ _ ?_; clear hK; clear Kv))
  refine ContainsFunc_ok (fun n => !elemG s.g n) (hl.next hk.below) ?_ ?_
  · intro w' x K' T hb _ h'
    refine oM_callv1 (by kernel_rfl) ?_
    have hk := hk.next hb
    have hc := hk.cells
    exact elemF_ok s x hs.grp (hs.db.next hk.below) hc.1 hc.2.1 hc.2.2.1 h'
  · intro w' hb
    repeat (any_goals ((with_reducible refine idO ?_); (with_reducible refine oM_gen fun Kv hK=>?_); simp [go_sem]; refine hK _ _ ?_; clear hK; clear Kv))
    rw [← elementsM_any]
    exact k _ (hk.next hb).below
theorem key_ok (s : Stp) (x : Int) {dv : Value} (hx : I64 x) (hs : SetR w s dv) (k : ∀ w', Below w.heap.size w w' → K (.bool (keyM s x)) w') : callM Tryz.prog 125 #[stpV s dv, .int .i64 x] K w := by
  apply sh_125_ok
  unfold sh_125
  obtain ⟨ad, c, rfl⟩ := hs.ints.isSlice
  refine box_kn (cs := stpC s (.slice ad s.bases.length c)) rfl (.start w) fun b W hk hb1 hb => ?_
  unfold keyM at k
  by_cases hx1 : x = 1
  · have k := k _ hk.below
    repeat (any_goals (first
    | (with_reducible first|((refine idGd ?_); ((refine idGdN ?_); refine zM ?_))|((refine idPick ?_); refine yG ?_))
    | ((with_reducible refine idO ?_); (with_reducible refine oM_gen fun Kv hK=>?_); simp [go_sem]; refine hK _ _ ?_; clear hK; clear Kv)))
    simpa [hx1] using k
  · repeat (any_goals (first
    | ((with_reducible refine mk1 x hx ?_); intro v W2 hb2 hi)
    | (with_reducible first|refine pureM_in ?_|((refine idGd ?_); ((refine idGdN ?_); refine zL ?_)))
    | ((with_reducible refine idO ?_); (with_reducible refine oM_gen fun Kv hK=>?_); simp [go_sem, hk.cells]; refine hK _ _ ?_; clear hK; clear Kv)))
    have hk := hk.next hb2
    refine elements_ok s (hs.next hk.below) hi (fun w3 h3 => ?_)
    have k := k _ (hk.next h3).below
    repeat (any_goals (with_reducible ((refine idPick ?_); refine yF ?_)))
    simpa [hx1] using k
theorem tpower_ok (s : Stp) (x n : Int) {dv : Value} (hs : SetR w s dv) (k : ∀ w', Below w.heap.size w w' → K (.int .i64 (powerG s.g x n)) w') : callM Tryz.prog 76 #[stpV s dv, .int .i64 x, .int .i64 n] K w := by
  apply sh_76_ok
  unfold sh_76
  obtain ⟨ad, c, rfl⟩ := hs.ints.isSlice
  refine box_kn (cs := stpC s (.slice ad s.bases.length c)) rfl (.start w) fun b W hk hb1 hb => ?_
  repeat (any_goals ((with_reducible refine idO ?_); (with_reducible refine oM_gen fun Kv hK=>?_); simp [go_sem, hk.cells]; refine hK _ _ ?_; clear hK; clear Kv))
  refine Power_ok s.g x n (fun w2 h2 => ?_)
  exact k _ (hk.next h2).below
theorem generated_ok (s : Stp) (n : Int) {dv : Value} (hs : SetR w s dv) (k : ∀ w', Below w.heap.size w w' → K (.int .i64 (genM s n)) w') : callM Tryz.prog 77 #[stpV s dv, .int .i64 n] K w := by
  apply sh_77_ok
  unfold sh_77
  obtain ⟨ad, c, rfl⟩ := hs.ints.isSlice
  refine box_kn (cs := stpC s (.slice ad s.bases.length c)) rfl (.start w) fun b W hk hb1 hb => ?_
  repeat (any_goals ((with_reducible refine idO ?_); (with_reducible refine oM_gen fun Kv hK=>?_); simp [go_sem, hk.cells]; refine hK _ _ ?_; clear hK; clear Kv))
  refine tpower_ok s _ n (hs.next hk.below) (fun w2 h2 => ?_)
  exact k _ (hk.next h2).below
theorem plus_ok (s : Stp) (x n : Int) {dv : Value} (hs : SetR w s dv) (k : ∀ w', Below w.heap.size w w' → K (.int .i64 (plusQ s x n)) w') : callM Tryz.prog 74 #[stpV s dv, .int .i64 x, .int .i64 n] K w := by
  apply sh_74_ok
  unfold sh_74
  obtain ⟨ad, c, rfl⟩ := hs.ints.isSlice
  refine box_kn (cs := stpC s (.slice ad s.bases.length c)) rfl (.start w) fun b W hk hb1 hb => ?_
  repeat (any_goals ((with_reducible refine idO ?_); (with_reducible refine oM_gen fun Kv hK=>?_); simp [go_sem, hk.cells]; refine hK _ _ ?_; clear hK; clear Kv))
  refine Add_ok _ x n ?_
  exact k _ hk.below
theorem less_ok (s : Stp) (x n : Int) {dv : Value} (hs : SetR w s dv) (k : ∀ w', Below w.heap.size w w' → K (.int .i64 (lessQ s x n)) w') : callM Tryz.prog 108 #[stpV s dv, .int .i64 x, .int .i64 n] K w := by
  apply sh_108_ok
  unfold sh_108
  obtain ⟨ad, c, rfl⟩ := hs.ints.isSlice
  refine box_kn (cs := stpC s (.slice ad s.bases.length c)) rfl (.start w) fun b W hk hb1 hb => ?_
  repeat (any_goals ((with_reducible refine idO ?_); (with_reducible refine oM_gen fun Kv hK=>?_); simp [go_sem, hk.cells]; refine hK _ _ ?_; clear hK; clear Kv))
  refine Sub_ok _ x n ?_
  exact k _ hk.below
theorem product_t_ok (s : Stp) {dv ev : Value} {es : List Int} (hs : SetR w s dv) (he : Ints w ev es) (k : ∀ w', Below w.heap.size w w' → K (.int .i64 (prodG s.g s.bases es).1) w') : callM Tryz.prog 126 #[stpV s dv, ev] K w := by
  apply sh_126_ok
  unfold sh_126
  have hi := hs.ints
  obtain ⟨ad, c, rfl⟩ := hs.ints.isSlice
  refine box_kn (cs := stpC s (.slice ad s.bases.length c)) rfl (.start w) fun b W hk hb1 hb => ?_
  repeat (any_goals ((with_reducible refine idO ?_); (with_reducible refine oM_gen fun Kv hK=>?_); simp [go_sem, hk.cells]; refine hK _ _ ?_; clear hK; clear Kv))
  refine Product_ok s.g (hi.next hk.below) (he.next hk.below) (fun w2 h2 => ?_)
  repeat (any_goals ((with_reducible refine idO ?_); (with_reducible refine oM_gen fun Kv hK=>?_); simp [go_sem]; refine hK _ _ ?_; clear hK; clear Kv))
  exact k _ (hk.next h2).below
def TmJ (f : Int → Int → Int) (l : List Int) (R : Int) (L : List (Addr × Value)) (w0 : World) (vs : List Value) (w' : World) : Prop := Kn w0 L w' ∧ ∃ (v : Value) (o : Int) (i : Nat), vs = [v, .int .i64 o, .int .i64 (i : Int)] ∧ i ≤ l.length ∧ (l.drop i).foldl f o = R
theorem times_ok (s : Stp) (x : Int) {dv v : Value} {l : List Int} (hs : SetR w s dv) (hl : Ints w v l) (k : ∀ w', Below w.heap.size w w' → K (.int .i64 (timesM s x l)) w') : callM Tryz.prog 127 #[stpV s dv, .int .i64 x, v] K w := by
  apply sh_127_ok
  unfold sh_127
  obtain ⟨ad, c, rfl⟩ := hs.ints.isSlice
  refine box_kn (cs := stpC s (.slice ad s.bases.length c)) rfl (.start w) fun b W hk hb1 hb => ?_
  obtain ⟨ad2, c2, rfl⟩ := hl.isSlice
  have hll := hl.len
  repeat (any_goals ((with_reducible refine idO ?_); (with_reducible refine oM_gen fun Kv hK=>?_); simp [go_sem]; refine hK _ _ ?_; clear hK; clear Kv))
  unfold timesM at k
  refine ⟨TmJ (fun a x => timesG s.g a x) l _ _ w, vsMu l.length, ⟨hk, _, _, 0, rfl, by omega, rfl⟩, ?_⟩
  rintro _ _ w1 ⟨hk, u1, o, i, rfl, hi, ha⟩
  by_cases hin : i = l.length
  · rw [List.drop_of_length_le (by omega), List.foldl_nil] at ha
    repeat (any_goals (first
    | (with_reducible ((refine idCond ?_); refine yO ?_))
    | ((with_reducible refine idO ?_); (with_reducible refine oM_gen fun Kv hK=>?_); simp [go_sem]; refine hK _ _ ?_; clear hK; clear Kv)))
    rw [ha]
    exact k _ hk.below
  · rw [List.drop_eq_getElem_cons (by omega), List.foldl_cons] at ha
    obtain ⟨b1, o1, rfl, hb1, ca, ra, _⟩ := hl.at (i := i) (by omega)
    repeat (any_goals (first
    | (with_reducible ((refine idCond ?_); refine yN ?_))
    | ((with_reducible refine idO ?_); (with_reducible refine oM_gen fun Kv hK=>?_); simp [go_sem, ca _ hk.below, hk.cells]; (first|refine hK _ _ ?_|refine And.intro (by omega) (hK _ _ ?_)); clear hK; clear Kv)))
    refine Times_ok s.g _ _ (fun w2 h2 => ?_)
    repeat (any_goals ((with_reducible refine idO ?_); (with_reducible refine oM_gen fun Kv hK=>?_); simp [go_sem]; (try simp (disch := omega) only [wrapI64, wrapU8, wrapU32, wrapU64]); refine hK _ _ ?_; clear hK; clear Kv))
    refine ⟨⟨hk.next h2, _, _, i + 1, rfl, by omega, ha⟩, ?_⟩
    simp only [vsMu_eq]; omega
theorem mul_ok (s : Stp) (x : Int) {dv v : Value} {l : List Int} (hs : SetR w s dv) (hl : Ints w v l) (k : ∀ w', Below w.heap.size w w' → K (.int .i64 (mulQ s x l)) w') : callM Tryz.prog 75 #[stpV s dv, .int .i64 x, v] K w := by
  apply sh_75_ok
  unfold sh_75
  obtain ⟨ad, c, rfl⟩ := hs.ints.isSlice
  refine box_kn (cs := stpC s (.slice ad s.bases.length c)) rfl (.start w) fun b W hk hb1 hb => ?_
  obtain ⟨ad2, c2, rfl⟩ := hl.isSlice
  have hll := hl.len
  repeat (any_goals ((with_reducible refine idO ?_); (with_reducible refine oM_gen fun Kv hK=>?_); simp [go_sem]; refine hK _ _ ?_; clear hK; clear Kv))
  unfold mulQ at k
  refine ⟨TmJ (fun a x => mulM s.g.Q a x) l _ _ w, vsMu l.length, ⟨hk, _, _, 0, rfl, by omega, rfl⟩, ?_⟩
  rintro _ _ w1 ⟨hk, u1, o, i, rfl, hi, ha⟩
  by_cases hin : i = l.length
  · rw [List.drop_of_length_le (by omega), List.foldl_nil] at ha
    repeat (any_goals (first
    | (with_reducible ((refine idCond ?_); refine yO ?_))
    | ((with_reducible refine idO ?_); (with_reducible refine oM_gen fun Kv hK=>?_); simp [go_sem]; refine hK _ _ ?_; clear hK; clear Kv)))
    rw [ha]
    exact k _ hk.below
  · rw [List.drop_eq_getElem_cons (by omega), List.foldl_cons] at ha
    obtain ⟨b1, o1, rfl, hb1, ca, ra, _⟩ := hl.at (i := i) (by omega)
    repeat (any_goals (first
    | (with_reducible ((refine idCond ?_); refine yN ?_))
    | ((with_reducible refine idO ?_); (with_reducible refine oM_gen fun Kv hK=>?_); simp [go_sem, ca _ hk.below, hk.cells]; (first|refine hK _ _ ?_|refine And.intro (by omega) (hK _ _ ?_)); clear hK; clear Kv)))
    refine Mul_ok _ _ _ (fun w2 h2 => ?_)
    repeat (any_goals ((with_reducible refine idO ?_); (with_reducible refine oM_gen fun Kv hK=>?_); simp [go_sem]; (try simp (disch := omega) only [wrapI64, wrapU8, wrapU32, wrapU64]); refine hK _ _ ?_; clear hK; clear Kv))
    refine ⟨⟨hk.next h2, _, _, i + 1, rfl, by omega, ha⟩, ?_⟩
    simp only [vsMu_eq]; omega
end
end Go.Proofs
namespace Go.Sh
open Go Go.RowKit
theorem cells_lt {w : World} : ∀ {L : List (Addr × Value)}, cellsAre w L → ∀ p ∈ L, p.1.block < w.heap.size
  | p :: l, h, q, hq => by
    rcases List.mem_cons.1 hq with rfl | hq
    · have h1 := h.1
      by_cases hc : q.1.block < w.heap.size
      · exact hc
      · unfold World.cell? at h1
        rw [Array.getElem?_eq_none (by omega)] at h1
        simp at h1
    · exact cells_lt h.2 q hq
structure KnM (w0 : World) (L : List (Addr × Value)) (g n : Nat) (w' : World) : Prop where
  kn : Kn w0 L w'
  mine : Mine w' g n
  base : w0.heap.size ≤ g
  off : ∀ p ∈ L, p.1.block ≠ g
theorem mine_lt {w : World} {g n : Nat} (h : Mine w g n) : g < w.heap.size := by
  obtain ⟨cur, T, h1, _⟩ := h
  exact (Array.getElem?_eq_some_iff.1 h1).1
theorem cellsOf_mem {L : List (Addr × Value)} {b : Nat} : ∀ (cs : List Value) (i : Nat) (p : Addr × Value), p ∈ cellsOf L b i cs → p.1.block = b ∨ p ∈ L
  | [], _, _, h => .inr h
  | _ :: l, i, p, h => by
    rcases List.mem_cons.1 h with rfl | h
    · exact .inl rfl
    · exact cellsOf_mem l (i + 1) p h
namespace KnM
variable {w0 w w' : World} {L : List (Addr × Value)} {g n : Nat}
theorem next (h : KnM w0 L g n w) (hb : Below w.heap.size w w') : KnM w0 L g n w' := ⟨h.kn.next hb, h.mine.next hb, h.base, h.off⟩
theorem drew (h : KnM w0 L g n w) : KnM w0 L g n { w with drawn := w.drawn + 1 } := h.next .drawn
theorem cells (h : KnM w0 L g n w) : cellsAre w L := h.kn.cells
theorem below (h : KnM w0 L g n w) : Below w0.heap.size w0 w := h.kn.below
end KnM
section
variable {P : Program} {w0 w : World} {K : Value → World → Prop} {T T' : TypeId} {L : List (Addr × Value)} {g n : Nat}
theorem alloc_mine {zs : List Value} (hA : ∀ w, (Instr.alloc T true (.tuple #[])).run P w = .ok (.pointer (some ⟨w.heap.size, 0, none⟩)) (w.alloc (.cells zs.toArray T))) (hn : zs.length = n) (hk : Kn w0 L w)
    (k : ∀ g W, KnM w0 L g n W → Below w.heap.size w W → w.heap.size ≤ g → K (.pointer (some ⟨g, 0, none⟩)) W) : oM P (.alloc T) T' [] K w := by
  rw [oM_alloc, hA]
  have hb := (Below.refl w.heap.size w).alloc (Nat.le_refl _) (.cells zs.toArray T)
  refine k _ _ ⟨hk.next hb, ⟨zs.toArray, T, ?_, by simpa using hn⟩, hk.below.size, fun p hp => ?_⟩ hb (Nat.le_refl _)
  · show (w.heap.push _)[w.heap.size]? = _
    simp
  · have := cells_lt hk.cells p hp
    omega
theorem store_run {x : Value} {xs : List Value} {W : World} (hT : ∀ w, (sizeOf T).run P w = .ok n w) (hx : x.cells = xs.toArray) (hl : xs.length = n) (h1 : ∀ u ∈ xs, u.oneCell' = true) (hm : Mine w g n) :
    ∃ W, (Instr.storeAt T (.pointer (some ⟨g, 0, none⟩)) x).run P w = .ok () W ∧ w.grownBy W (some g) ∧ Mine W g n ∧ cellsAre W (cellsOf [] g 0 xs) := by
  obtain ⟨cur, T0, hg, hc⟩ := hm
  have hst := run_storeCells_at P g 0 T0 xs 0 cur w hg (by omega) h1
  have e1 : (cur.toList.take (0 + 0) ++ xs ++ cur.toList.drop (0 + 0 + xs.length)).toArray = xs.toArray := by
    rw [List.drop_of_length_le (by simp; omega)]
    simp
  rw [e1] at hst
  have hh := setRow_heap w g cur xs.toArray T0 (0, 0) hg
  refine ⟨w.setRow g xs.toArray, ?_, grown_setRow _ _ _, ⟨_, _, hh, by simpa using hl⟩, cellsOf_are (xs := xs) (L := []) trivial (fun i v hi => ?_) xs 0 rfl⟩
  · have e2 : x.cells.toList = xs := by rw [hx]
    have e3 : x.cells.size = n := by rw [hx]; simpa using hl
    unfold Instr.storeAt storeVar
    rw [e2, e3]
    simp [hT, go_sem]
    exact hst
  · unfold World.cell?
    rw [hh]
    simpa using hi
theorem store_mine {x : Value} {xs : List Value} (hT : ∀ w, (sizeOf T).run P w = .ok n w) (hx : x.cells = xs.toArray) (hl : xs.length = n) (h1 : ∀ u ∈ xs, u.oneCell' = true) (hk : KnM w0 L g n w)
    (k : ∀ W, KnM w0 L g n W → cellsAre W (cellsOf [] g 0 xs) → K undef W) : oM P (.store T (.tmp 0) (.tmp 1)) T' [.pointer (some ⟨g, 0, none⟩), x] K w := by
  obtain ⟨W, e, hg, hm, hc⟩ := store_run (W := w) hT hx hl h1 hk.mine
  rw [oM_store, e]
  exact k W ⟨hk.kn.wrote hg hk.base hk.off, hm, hk.base, hk.off⟩ hc
theorem local_kn {zs : List Value} {x : Value} {xs : List Value} {T2 : TypeId} {K : Value → World → Prop} (hA : ∀ w, (Instr.alloc T true (.tuple #[])).run P w = .ok (.pointer (some ⟨w.heap.size, 0, none⟩)) (w.alloc (.cells zs.toArray T))) (hn : zs.length = n)
    (hT : ∀ w, (sizeOf T).run P w = .ok n w) (hx : x.cells = xs.toArray) (hl : xs.length = n) (h1 : ∀ u ∈ xs, u.oneCell' = true) (hk : Kn w0 L w)
    (k : ∀ b W, Kn w0 (cellsOf L b 0 xs) W → Below w.heap.size w W → w.heap.size ≤ b → K (.pointer (some ⟨b, 0, none⟩)) W) :
    oM P (.alloc T) T' [] (fun v w => oM P (.store T (.tmp 0) (.tmp 1)) T2 [v, x] (fun _ w => K v w) w) w := by
  refine alloc_mine hA hn hk fun g W hk2 hb hg => ?_
  obtain ⟨W2, e, hgr, hm, hc⟩ := store_run (W := w) hT hx hl h1 hk2.mine
  rw [oM_store, e]
  have hb2 : Below w.heap.size w W2 := hb.grown hgr hb.size (fun k hk => by cases hk; exact hg)
  refine k g W2 ⟨(hk2.kn.wrote hgr hk2.base hk2.off).below, ?_⟩ hb2 hg
  have hL := (hk2.kn.wrote hgr hk2.base hk2.off).cells
  clear e k
  have : ∀ (l : List Value) (i : Nat), cellsAre W2 (cellsOf [] g i l) → cellsAre W2 (cellsOf L g i l) := by
    intro l
    induction l with
    | nil => intro i _; exact hL
    | cons a l ih => intro i h; exact ⟨h.1, ih (i + 1) h.2⟩
  exact this xs 0 hc
theorem local_knm {zs : List Value} {x : Value} {xs : List Value} {T2 : TypeId} {K : Value → World → Prop} {m : Nat} (hA : ∀ w, (Instr.alloc T true (.tuple #[])).run P w = .ok (.pointer (some ⟨w.heap.size, 0, none⟩)) (w.alloc (.cells zs.toArray T))) (hn : zs.length = m)
    (hT : ∀ w, (sizeOf T).run P w = .ok m w) (hx : x.cells = xs.toArray) (hl : xs.length = m) (h1 : ∀ u ∈ xs, u.oneCell' = true) (hk : KnM w0 L g n w)
    (k : ∀ b W, KnM w0 (cellsOf L b 0 xs) g n W → Below w.heap.size w W → w.heap.size ≤ b → K (.pointer (some ⟨b, 0, none⟩)) W) :
    oM P (.alloc T) T' [] (fun v w => oM P (.store T (.tmp 0) (.tmp 1)) T2 [v, x] (fun _ w => K v w) w) w :=
  local_kn hA hn hT hx hl h1 hk.kn fun b W hk' h1 h2 => k b W ⟨hk', hk.mine.next h1, hk.base, fun p hp => (cellsOf_mem xs 0 p hp).elim (fun e => by have := mine_lt hk.mine; omega) (hk.off p)⟩ h1 h2
variable {C : World → Prop} {KQ : Value → Prop} {x y v : Value} {p : Prop} [Decidable p]
theorem idOH {o : Op} {l : List Value} (h : oH P o T l C KQ) : oH P o T l C KQ := h
theorem idGdH {c : Bool} {m : (World → Prop) → (Value → Prop) → Prop} (h : gdH c m C KQ) : gdH c m C KQ := h
theorem gdH_conv {c : Bool} {m : (World → Prop) → (Value → Prop) → Prop} (h : ∀ W0, gdM c (fun K' w => m C (fun v => K' v w)) (fun v _ => KQ v) W0) : gdH c m C KQ := by
  have h := h ⟨#[], default, 0, default, default⟩
  cases c <;> exact h
theorem pickH {b : Bool} (k : KQ (bif b then x else y)) : oH P (.pick (.tmp 0) (.tmp 1) (.tmp 2)) T [.bool b, x, y] C KQ := by
  refine ⟨_, fun w _ => ?_, k⟩
  simp [xop, execOp, evalL, evE, asBool]
theorem pickHT (k : KQ x) : oH P (.pick (.tmp 0) (.tmp 1) (.tmp 2)) T [.bool true, x, y] C KQ := pickH k
theorem pickHF (k : KQ y) : oH P (.pick (.tmp 0) (.tmp 1) (.tmp 2)) T [.bool false, x, y] C KQ := pickH k
theorem vA (k : KQ x) : oH P (.pick (.tmp 0) (.tmp 1) (.tmp 2)) T [.bool true, x, y] C KQ := pickHT k
theorem vB (k : KQ y) : oH P (.pick (.tmp 0) (.tmp 1) (.tmp 2)) T [.bool false, x, y] C KQ := pickHF k
end
end Go.Sh
namespace Go.Proofs
open Go Go.Sh Go.RowKit FdSpec TkSpec
set_option linter.unusedSimpArgs false
set_option linter.unusedVariables false
set_option maxRecDepth 10000
section
variable {K : Value → World → Prop} {w w0 : World} {L : List (Addr × Value)}
theorem sz_desk (w : World) : (sizeOf 111).run Tryz.prog w = .ok 5 w := by kernel_rfl
theorem al_desk (w : World) : (Instr.alloc 111 true (.tuple #[])).run Tryz.prog w = .ok (.pointer (some ⟨w.heap.size, 0, none⟩)) (w.alloc (.cells [.int .i64 0, .int .i64 0, .int .i64 0, .slice none 0 0, .int .i64 0].toArray 111)) := by kernel_rfl
theorem stp_one (s : Stp) (ad : Option Addr) (n c : Nat) : ∀ u ∈ stpC s (.slice ad n c), u.oneCell' = true := by
  intro u hu
  simp only [stpC, List.mem_cons, List.not_mem_nil, or_false] at hu
  rcases hu with rfl | rfl | rfl | rfl | rfl <;> rfl
theorem open_ok (s : Stp) {v : Value} (hs : SetR w s v) (k : ∀ w', Below w.heap.size w w' → K (.tuple #[stpV s v, .bool (validS s)]) w') : callM Tryz.prog 78 #[stpV s v] K w := by
  apply sh_78_ok
  unfold sh_78
  obtain ⟨ad, c, rfl⟩ := hs.ints.isSlice
  refine box_kn (cs := stpC s (.slice ad s.bases.length c)) rfl (.start w) fun b W hk hb1 hb => ?_
  refine alloc_mine al_desk rfl hk fun g W2 hk hb2 hg => ?_
  refine ⟨KnM w _ g 5, hk.drew, ?_⟩
  have hk := hk.drew
  have hone := stp_one s ad s.bases.length c
  repeat (any_goals ((with_reducible refine idOH ?_); (with_reducible refine oH_of ⟨_, rfl⟩ (fun W0 hW0 => by (refine oM_gen (fun Kv hK => ?_)); simp [go_sem, hW0.cells]; (first | exact hK _ _ ⟨rfl, rfl⟩ | exact ⟨by omega, hK _ _ ⟨rfl, rfl⟩⟩)) ?_)))
  refine ⟨?_, ?_⟩
  · repeat (any_goals ((with_reducible refine idO ?_); (with_reducible refine oM_gen fun Kv hK=>?_); simp [go_sem]; refine hK _ _ ?_; clear hK; clear Kv))
    refine ⟨hk, ?_⟩
    refine ValidSetup_ok s (hs.next hk.below) (fun w2 h2 => ?_)
    have hk := hk.next h2
    refine ⟨hk, ?_⟩
    refine store_mine sz_desk rfl rfl hone hk (fun W3 hk hc => ?_)
    exact ⟨hk, hk, _, by simp [go_sem, hc], k _ hk.below⟩
  · refine ValidSetup_ok s (hs.next hk.below) (fun w2 h2 => ?_)
    have hk := hk.next h2
    refine ⟨hk, ?_⟩
    repeat (any_goals ((with_reducible refine idO ?_); (with_reducible refine oM_gen fun Kv hK=>?_); simp [go_sem]; refine hK _ _ ?_; clear hK; clear Kv))
    refine ⟨hk, ?_⟩
    refine store_mine sz_desk rfl rfl hone hk (fun W3 hk hc => ?_)
    exact ⟨hk, hk, _, by simp [go_sem, hc], k _ hk.below⟩
end
end Go.Proofs
set_option linter.all false
namespace Go.Proofs
open Go.Shelf
def Tryz.laysNm2_21_ren : Go.Shelf.Ren := ⟨fun | 21 => 141 | 27 => 182 | 28 => 183 | 35 => 205 | 39 => 223 | n => n, fun | 22 => 22 | 3 => 3 | 4 => 4 | 0 => 0 | n => n, fun | n => n⟩
theorem Tryz.laysNm2_21 : Go.Proofs.Lays2.n21 Tryz.prog Tryz.laysNm2_21_ren := {
  mixed := by kernel_rfl
  f21 := Tryz.func141.trans (congrArg some (by kernel_rfl))
  f27 := Tryz.func182.trans (congrArg some (by kernel_rfl))
  f28 := Tryz.func183.trans (congrArg some (by kernel_rfl))
  f35 := Tryz.func205.trans (congrArg some (by kernel_rfl))
  f39 := Tryz.func223.trans (congrArg some (by kernel_rfl))
  t0 := Tryz.underlying0
  a0 := Tryz.isAgg0
  z0 := Tryz.sizeOf0
  v0 := Tryz.zeroValue0
  t3 := Tryz.underlying3
  a3 := Tryz.isAgg3
  z3 := Tryz.sizeOf3
  v3 := Tryz.zeroValue3
  t4 := Tryz.underlying4
  a4 := Tryz.isAgg4
  z4 := Tryz.sizeOf4
  v4 := Tryz.zeroValue4
  t22 := Tryz.underlying22
  a22 := Tryz.isAgg22
  z22 := Tryz.sizeOf22
  v22 := Tryz.zeroValue22
  i3 := by kernel_rfl }
end Go.Proofs
namespace Go.Proofs
open Go Go.Sh Go.RowKit FdSpec TkSpec
set_option linter.unusedSimpArgs false
set_option linter.unusedVariables false
set_option maxRecDepth 10000
section
variable {K : Value → World → Prop} {w w0 : World} {L : List (Addr × Value)}
theorem eqNil_at {P : Program} {w : World} {K : Value → World → Prop} {t e T : TypeId} {a : Option Addr} {n c : Nat} (ht : P.underlying t = some (.slice e)) (k : K (.bool a.isNone) w) : oM P (.binOp .eql t (.tmp 0) (.const (.slice none 0 0)) t) T [.slice a n c] K w := by
  rw [oM_eqc]
  have := Lib.run_eql_slice_nil (P := P) w t e a n c 0 0 ht
  simp only [Sem.run_bind]
  have h2 : (eqGuard .eql t (.tmp 0) (.const (.slice none 0 0)) (.slice a n c) (.slice none 0 0)).run P w = .ok () w := by
    simp [eqGuard]
  rw [h2, Result.andThen_ok, this]
  exact k
theorem below_set {B : Nat} {a : World} (g : Nat) (hg : B ≤ g) : ∀ (vs : List Value) (o : Nat) (w : World), Below B a w → Below B a (w.setCells g o vs)
  | [], _, _, h => h
  | v :: r, o, w, h => below_set g hg r (o + 1) _ (h.setCell (p := ⟨g, o, none⟩) hg v)
theorem some_set (b : Nat) (vs : List Value) (o : Nat) (w : World) (h : ∀ j, j < vs.length → (w.cell? ⟨b, o + j, none⟩).isSome = true) (k : Nat) (hk : (w.cell? ⟨b, k, none⟩).isSome = true) : ((w.setCells b o vs).cell? ⟨b, k, none⟩).isSome = true := by
  by_cases hin : o ≤ k ∧ k < o + vs.length
  · have := World.cell?_setCells_in b vs o w h (k - o) (by omega)
    rw [show o + (k - o) = k by omega] at this
    rw [this]; rfl
  · rw [World.cell?_setCells_out b vs o w ⟨b, k, none⟩ (fun _ _ => by show k < o ∨ o + vs.length ≤ k; omega)]
    exact hk
theorem shifted1 {w : World} {g : Nat} {x : Value} {cs : List Value} (h : ∀ j, j < cs.length + 1 → (w.cell? ⟨g, j, none⟩).isSome = true) (k : Nat) (v : Value) (hk : (x :: cs)[k]? = some v) : ((w.setCells g 1 cs).setCells g 0 [x]).cell? ⟨g, k, none⟩ = some v := by
  have h1 : ∀ j, j < cs.length → (w.cell? ⟨g, 1 + j, none⟩).isSome = true := fun j hj => h _ (by omega)
  cases k with
  | zero =>
    have := World.cell?_setCells_in g [x] 0 (w.setCells g 1 cs) (fun j hj => by
      have : j = 0 := by simpa using hj
      subst this
      exact some_set g cs 1 w h1 0 (h 0 (by omega))) 0 (by simp)
    rw [this]
    simpa using hk
  | succ k =>
    have hlt : k < cs.length := by
      have := (List.getElem?_eq_some_iff.1 hk).1
      simpa using this
    rw [World.cell?_setCells_out g [x] 0 _ ⟨g, k + 1, none⟩ (fun _ _ => by show k + 1 < 0 ∨ 0 + 1 ≤ k + 1; omega)]
    have := World.cell?_setCells_in g cs 1 w h1 k hlt
    rw [show k + 1 = 1 + k by omega, this, ← hk]
    simp [hlt]
theorem shifted2 {w : World} {g : Nat} {x : Value} {cs : List Value} (h : ∀ j, j < cs.length + 1 → (w.cell? ⟨g, j, none⟩).isSome = true) (k : Nat) (v : Value) (hk : (x :: cs)[k]? = some v) : ((w.setCells g 0 [x]).setCells g 1 cs).cell? ⟨g, k, none⟩ = some v := by
  have h1 : ∀ j, j < [x].length → (w.cell? ⟨g, 0 + j, none⟩).isSome = true := fun j hj => h _ (by simp at hj; omega)
  cases k with
  | zero =>
    rw [World.cell?_setCells_out g cs 1 _ ⟨g, 0, none⟩ (fun _ _ => by show 0 < 1 ∨ 1 + cs.length ≤ 0; omega)]
    have := World.cell?_setCells_in g [x] 0 w h1 0 (by simp)
    rw [this]
    simpa using hk
  | succ k =>
    have hlt : k < cs.length := by
      have := (List.getElem?_eq_some_iff.1 hk).1
      simpa using this
    have := World.cell?_setCells_in g cs 1 (w.setCells g 0 [x]) (fun j hj => some_set g [x] 0 w h1 (1 + j) (h _ (by omega))) k hlt
    rw [show k + 1 = 1 + k by omega, this, ← hk]
    simp [hlt]
theorem Clone_ok {v : Value} {l : List Int} (hr : Ints w v l) (hl : l.length < 1099511627776) (k : ∀ v' w', w'.ownsRow 0 3 1 v' l.length (flat intC l) → Below w.heap.size w w' → (∀ i, v'.ownBlock = some i → w.heap.size ≤ i) → K v' w') : callM Tryz.prog 142 #[v] K w := by
  apply sh_142_ok
  unfold sh_142
  have hi := hr.row
  obtain ⟨ad, c, rfl, h0, hc⟩ := id hi
  refine eqNil_at (e := 3) (by kernel_rfl) ?_
  cases ad with
  | none =>
    obtain ⟨hl0, rfl⟩ := h0 rfl
    obtain rfl : l = [] := List.eq_nil_of_length_eq_zero hl0
    simp only [Option.isNone_none]
    repeat (any_goals (with_reducible ((refine idCond ?_); refine yL ?_)))
    exact k _ _ (World.ownsRow_nil _ _ _ _) (Below.refl _ _) (fun i hi => by cases hi)
  | some a =>
    simp only [Option.isNone_some]
    repeat (any_goals (first
    | (with_reducible ((refine idCond ?_); refine yM ?_))
    | ((with_reducible refine idO ?_); (with_reducible refine oM_gen fun Kv hK=>?_); simp [go_sem]; refine hK _ _ ?_; clear hK; clear Kv)))
    have hr2 : RowR intC 1 (w.alloc (.cells #[] 3)) (.slice (some a) l.length c) l := hi.keep (by rw [alloc_size]; omega) (fun i _ hi => heap_alloc_old _ _ hi)
    refine clone_at 22 22 3 ((Tryz.prog.info? 3).getD default) (.int .i64 0) 1 8 (by kernel_rfl) (by kernel_rfl) (by kernel_rfl) (by kernel_rfl) (by kernel_rfl) (by kernel_rfl) (by omega) (fun _ => rfl) (fun x u hu => by simp [intC] at hu; subst hu; rfl) hr2 (World.ownsRow_lit w #[] 0 (Nat.zero_le _) (Nat.zero_le _) rfl) (B := w.heap.size) (by rw [alloc_size]; omega) (fun i hi => by cases hi; exact Nat.le_refl _) (by omega) (by omega) ?_
    intro v' w' ho hg hv
    exact k v' w' ho (((Below.refl _ _).alloc (Nat.le_refl _) _).grown hg (by rw [alloc_size]; omega) (fun i hi => by cases hi; exact Nat.le_refl _)) hv
theorem Insert_ok {g c : Nat} {l : List Int} {x : Int} {b : Nat} (hne : 0 < l.length) (hl : l.length < 1099511627776) (ho : w.ownsRow 0 3 1 (.slice (some ⟨g, 0, none⟩) l.length c) l.length (flat intC l)) {B : Nat} (hB : B ≤ g) (hBw : B ≤ w.heap.size)
    (hx : w.heap[b]? = some (.cells #[.int .i64 x] 3 (0, 0))) (hbg : b ≠ g) (hr : ∀ n ∈ l, I64 n) (hrx : I64 x) (k : ∀ v' w', Ints w' v' (x :: l) → Below B w w' → (∀ i, Value.inBlock v' = some i → B ≤ i) → K v' w') :
    callM Tryz.prog 141 #[.slice (some ⟨g, 0, none⟩) l.length c, .int .i64 0, .slice (some ⟨b, 0, none⟩) 1 1] K w := by
  obtain ⟨g', cap, cur, hv, hgw, _, hgb, hcs, hcap, hcell⟩ := owns_cells ho hne
  cases hv
  have hxc : ∀ (j : Nat) (v : Value), [Value.int .i64 x][j]? = some v → w.cell? ⟨b, 0 + j, none⟩ = some v := by
    intro j v hj
    rw [cell_of_block hx]
    simpa using hj
  have hcc : ∀ (j : Nat) (v : Value), (flat intC l)[j]? = some v → w.cell? ⟨g, 0 + j, none⟩ = some v := by
    intro j v hj
    rw [Nat.zero_add]
    exact hcell j v hj
  have h1 : ∀ v ∈ flat intC l, v.oneCell' = true := by
    intro v hv
    rw [flat_int] at hv
    obtain ⟨n, _, rfl⟩ := List.mem_map.1 hv
    rfl
  have h1x : ∀ v ∈ [Value.int .i64 x], v.oneCell' = true := by
    intro v hv
    simp at hv
    subst hv
    rfl
  have hfl : (flat intC l).length = l.length := by rw [flat_int]; simp
  have hbw : b < w.heap.size := (Array.getElem?_eq_some_iff.1 hx).1
  have hxx : ∀ n ∈ x :: l, I64 n := by
    intro n hn
    rcases List.mem_cons.1 hn with rfl | hn
    · exact hrx
    · exact hr n hn
  have hlx : (flat intC (x :: l)) = .int .i64 x :: flat intC l := rfl
  have hcm : c ≤ 9223372036854775807 := by
    rcases ho.2 with ⟨h0, _⟩ | ⟨g2, cap2, cur2, hv2, _, _, _, hm2, _⟩
    · cases h0
    · cases hv2
      simp only [maxLen] at hm2
      omega
  by_cases hroom : l.length + 1 ≤ c
  · have hsm : ∀ j, j < l.length + 1 → (w.cell? ⟨g, j, none⟩).isSome = true := by
      intro j hj
      rw [cell_of_block hgb]
      simp
      omega
    have h := Any2.slices_Insert_int_shift Tryz.laysNm2_21 g 0 l.length c 0 b 0 1 1 (flat intC l) [.int .i64 x] w (by omega) (by omega) hroom hcm hbg hfl rfl hcc (fun j hj => by rw [Nat.zero_add]; exact hsm j hj)
      (fun j hj => by unfold World.frozen?; rw [hgb]; simp) hxc h1 h1x 3 3 1 cur.size (by unfold World.shape?; rw [hx]; rfl) (by unfold World.shape?; rw [hgb]) (by omega) (by unfold World.frozen?; rw [hx]; simp) (by unfold World.frozen?; rw [hx]; simp)
    refine Calls.mono h ?_
    rintro e w' ⟨rfl, rfl⟩
    have hb2 : ∀ B' : Nat, B' ≤ g → Below B' w ((w.drew.setCells g (0 + (0 + 1)) (List.drop 0 (flat intC l))).setCells g (0 + 0) [Value.int .i64 x]) := fun B' hB' =>
      below_set g hB' _ _ _ (below_set g hB' _ _ _ (Below.refl _ w).drew)
    refine ⟨_, rfl, k _ _ ⟨⟨_, c, rfl, by simp, .inr ⟨g, 0, rfl, Nat.lt_of_lt_of_le hgw (hb2 0 (Nat.zero_le _)).size, fun j v hj => ?_⟩⟩, hxx, by simp; omega⟩ (hb2 B hB) (fun i hi => by cases hi; exact hB)⟩
    simp only [Nat.zero_add, Nat.add_zero, List.drop_zero]
    rw [hlx] at hj
    exact shifted1 (w := w.drew) (fun j hj => hsm j (by rw [hfl] at hj; exact hj)) j v hj
  · have h := Any2.slices_Insert_int_grow Tryz.laysNm2_21 g 0 l.length c 0 b 0 1 1 (flat intC l) [.int .i64 x] w (by omega) (by omega) (by omega) (by omega) (by omega) hfl rfl hcc hxc h1 h1x
    refine Calls.mono h ?_
    rintro e w' ⟨rfl, rfl⟩
    have hG := grownCap_ge w (l.length + 1) c 3
    have e3 : Tryz.laysNm2_21_ren.t 3 = 3 := rfl
    rw [e3]
    generalize grownCap w (l.length + 1) c 3 = G at *
    simp only [List.take_zero, List.drop_zero, Nat.zero_add, Nat.add_zero, Nat.sub_zero]
    have hsm : ∀ j, j < (flat intC l).length + 1 → ((w.alloc (.cells (([] : List Value).toArray ++ Builtin.zeroCells (Value.int .i64 0).cells (l.length + 1) ++ Builtin.zeroCells (Value.int .i64 0).cells (G - (l.length + 1))) 3)).drew.cell? ⟨w.heap.size, j, none⟩).isSome = true := by
      intro j hj
      rw [hfl] at hj
      have := World.cell?_alloc_at (w := w) (([] : List Value).toArray ++ Builtin.zeroCells (Value.int .i64 0).cells (l.length + 1) ++ Builtin.zeroCells (Value.int .i64 0).cells (G - (l.length + 1))) 3 w.heap.size j rfl
      show (World.cell? _ _).isSome = true
      refine (congrArg Option.isSome this).trans ?_
      rw [Array.getElem?_eq_getElem (by simp [Builtin.zeroCells, Value.cells]; omega)]
      rfl
    generalize hW : w.alloc (.cells (([] : List Value).toArray ++ Builtin.zeroCells (Value.int .i64 0).cells (l.length + 1) ++ Builtin.zeroCells (Value.int .i64 0).cells (G - (l.length + 1))) 3) = W at *
    have hbW : Below w.heap.size w W := by rw [← hW]; exact (Below.refl _ w).alloc (Nat.le_refl _) _
    have hWs : w.heap.size < W.heap.size := by rw [← hW, alloc_size]; omega
    have hb2 : Below w.heap.size w (((W.drew.setCells w.heap.size 0 [Value.int .i64 x]).drew).setCells w.heap.size 1 (flat intC l)) :=
      below_set _ (Nat.le_refl _) _ _ _ (below_set _ (Nat.le_refl _) _ _ _ hbW.drew).drew
    have hs2 : w.heap.size < (((W.drew.setCells w.heap.size 0 [Value.int .i64 x]).drew).setCells w.heap.size 1 (flat intC l)).heap.size :=
      Nat.lt_of_lt_of_le hWs (below_set w.heap.size (Nat.zero_le _) _ _ _ (below_set w.heap.size (Nat.zero_le _) _ _ _ (Below.refl 0 W).drew).drew).size
    refine ⟨_, rfl, k _ _ ⟨⟨_, G, rfl, by simp, .inr ⟨_, 0, rfl, hs2, fun j v hj => ?_⟩⟩, hxx, by simp; omega⟩ (hb2.mono hBw) (fun i hi => by cases hi; exact hBw)⟩
    rw [Nat.zero_add]
    rw [hlx] at hj
    rw [drew_setCells]
    exact shifted2 (w := W.drew.drew) (g := w.heap.size) (x := .int .i64 x) (cs := flat intC l) hsm j v hj
end
end Go.Proofs
namespace Go.Proofs
open Go Go.Sh Go.RowKit FdSpec TkSpec
set_option linter.unusedSimpArgs false
set_option linter.unusedVariables false
set_option maxRecDepth 10000
section
variable {K : Value → World → Prop} {w w0 : World} {L : List (Addr × Value)}
theorem exps_ok {v : Value} {l : List Int} (hl : Ints w v l) (hne : 0 < l.length) (hln : l.length < 1099511627776) (k : ∀ v' w', Ints w' v' (expsM l) → Below w.heap.size w w' → (∀ i, Value.inBlock v' = some i → w.heap.size ≤ i) → K v' w') : callM Tryz.prog 73 #[v] K w := by
  apply sh_73_ok
  unfold sh_73
  refine Clone_ok hl hln (fun v1 w1 ho hb hv => ?_)
  obtain ⟨g, cap, cur, rfl, hgw, _, hgb, hcs, hcap, hcell⟩ := owns_cells ho hne
  have hg := hv g rfl
  have e : (Instr.buildSlice 22 1 #[(0, .int .i64 1)]).run Tryz.prog w1 = .ok (.slice (some ⟨w1.heap.size, 0, none⟩) 1 1) (w1.alloc (.cells #[.int .i64 1] 3)) := by kernel_rfl
  rw [oM_buildSlice1, e, rM_ok]
  have hb2 := (Below.refl w1.heap.size w1).alloc (Nat.le_refl _) (.cells #[.int .i64 1] 3)
  refine Insert_ok (x := 1) (B := w.heap.size) hne hln (ho.alloc _) hg (by rw [alloc_size]; have := hb.size; omega) (b := w1.heap.size) (by show (w1.heap.push _)[w1.heap.size]? = _; exact Array.getElem?_push_size) (by omega) hl.rng (by unfold I64; omega) (fun v' w' hi hbb hff => ?_)
  exact k _ _ hi ((hb.on hb2).trans hbb) hff
theorem markM_no {s : Stp} {l : List Int} (h : validS s = false ∨ l.length + 1 ≠ s.bases.length ∨ numsM s 0 l = false ∨ l.headD 0 = 0) : markM s l = (0, false) := by
  unfold markM
  rw [if_neg]
  intro hc
  simp only [Bool.and_eq_true, decide_eq_true_eq, Bool.not_eq_true', decide_eq_false_iff_not] at hc
  obtain ⟨⟨⟨h1, h2⟩, h3⟩, h4⟩ := hc
  rcases h with h | h | h | h
  · rw [h] at h1; cases h1
  · exact h h2
  · rw [h] at h3; cases h3
  · exact h4 h
theorem markM_yes {s : Stp} {l : List Int} (h1 : validS s = true) (h2 : l.length + 1 = s.bases.length) (h3 : numsM s 0 l = true) (h4 : l.headD 0 ≠ 0) : markM s l = ((prodG s.g s.bases (expsM l)).1, true) := by
  unfold markM
  rw [if_pos]
  simp only [Bool.and_eq_true, decide_eq_true_eq, Bool.not_eq_true', decide_eq_false_iff_not]
  exact ⟨⟨⟨h1, h2⟩, h3⟩, h4⟩
theorem local_desk {K : Value → World → Prop} {T' T2 : TypeId} {g n : Nat} (s : Stp) (ad : Option Addr) (m c : Nat) (hk : KnM w0 L g n w)
    (k : ∀ b W, KnM w0 (cellsOf L b 0 (stpC s (.slice ad m c))) g n W → Below w.heap.size w W → w.heap.size ≤ b → K (.pointer (some ⟨b, 0, none⟩)) W) :
    oM Tryz.prog (.alloc 111) T' [] (fun v w => oM Tryz.prog (.store 111 (.tmp 0) (.tmp 1)) T2 [v, stpV s (.slice ad m c)] (fun _ w => K v w) w) w :=
  local_knm al_desk rfl sz_desk rfl rfl (stp_one s ad m c) hk k
theorem local_desk' {K : Value → World → Prop} {T' T2 : TypeId} (s : Stp) (ad : Option Addr) (m c : Nat) (hk : Kn w0 L w)
    (k : ∀ b W, Kn w0 (cellsOf L b 0 (stpC s (.slice ad m c))) W → Below w.heap.size w W → w.heap.size ≤ b → K (.pointer (some ⟨b, 0, none⟩)) W) :
    oM Tryz.prog (.alloc 111) T' [] (fun v w => oM Tryz.prog (.store 111 (.tmp 0) (.tmp 1)) T2 [v, stpV s (.slice ad m c)] (fun _ w => K v w) w) w :=
  local_kn al_desk rfl sz_desk rfl rfl (stp_one s ad m c) hk k
theorem validS_len {s : Stp} (h : validS s = true) : 2 ≤ s.bases.length ∧ s.bases.length ≤ 7 := by
  unfold validS at h
  simp only [Bool.and_eq_true, decide_eq_true_eq] at h
  exact ⟨h.1.1.1.2, h.1.1.2⟩
theorem store_desk {K : Value → World → Prop} {T' : TypeId} {g : Nat} (s : Stp) (ad : Option Addr) (m c : Nat) (hk : KnM w0 L g 5 w)
    (k : ∀ W, KnM w0 L g 5 W → cellsAre W (cellsOf [] g 0 (stpC s (.slice ad m c))) → K undef W) : oM Tryz.prog (.store 111 (.tmp 0) (.tmp 1)) T' [.pointer (some ⟨g, 0, none⟩), stpV s (.slice ad m c)] K w :=
  store_mine sz_desk rfl rfl (stp_one s ad m c) hk k
theorem _root_.Go.Sh.Ints.headD {w : World} {ad : Option Addr} {n c : Nat} {l : List Int} (h : Ints w (.slice ad n c) l) (hne : 0 < l.length) :
    ∃ b o, ad = some ⟨b, o, none⟩ ∧ (∀ w', Below w.heap.size w w' → w'.cell? ⟨b, o, none⟩ = some (.int .i64 (l.headD 0))) ∧ I64 (l.headD 0) := by
  obtain ⟨b, o, rfl, _, hc, hr, _⟩ := h.at hne
  have e : l[0] = l.headD 0 := by
    cases l with
    | nil => simp at hne
    | cons a l => rfl
  rw [e] at hc hr
  exact ⟨b, o, rfl, fun w' hb => by have := hc w' hb; simpa using this, hr⟩
theorem mark_ok (s : Stp) {v lv : Value} {l : List Int} (hs : SetR w s v) (hl : Ints w lv l) (k : ∀ w', Below w.heap.size w w' → K (.tuple #[stpV s v, .int .i64 (markM s l).1, .bool (markM s l).2]) w') : callM Tryz.prog 95 #[stpV s v, lv] K w := by
  apply sh_95_ok
  unfold sh_95
  obtain ⟨ad, c, rfl⟩ := hs.ints.isSlice
  have hone := stp_one s ad s.bases.length c
  have k2 : ∀ w' r, markM s l = r → Below w.heap.size w w' → K (.tuple #[stpV s (.slice ad s.bases.length c), .int .i64 r.1, .bool r.2]) w' := fun w' r e hb => by rw [← e]; exact k w' hb
  clear k
  refine box_kn (cs := stpC s (.slice ad s.bases.length c)) rfl (.start w) fun b W hk hb1 hb => ?_
  refine alloc_mine al_desk rfl hk fun g W2 hk hb2 hg => ?_
  repeat (any_goals ((with_reducible refine idO ?_); (with_reducible refine oM_gen fun Kv hK=>?_); simp [go_sem, hk.cells]; refine hK _ _ ?_; clear hK; clear Kv))
  refine open_ok s (hs.next hk.below) (fun w2 h2 => ?_)
  have hk := hk.next h2
  clear h2 hb1 hb2
  have hll := hl.len
  have hbl := hs.ints.len
  obtain ⟨lad, lc, rfl⟩ := hl.isSlice
  cases hv : validS s with
  | false =>
    repeat (any_goals (first
    | ((with_reducible refine local_desk s ad s.bases.length c hk ?_); intro b7 W7 hk hb7 hg7)
    | (with_reducible first|((refine idGd ?_); refine zD ?_)|((refine idPick ?_); refine yB ?_)|((refine idCond ?_); refine yL ?_))
    | ((with_reducible refine idO ?_); (with_reducible refine oM_gen fun Kv hK=>?_); simp [go_sem, hk.cells]; refine hK _ _ ?_; clear hK; clear Kv)))
    refine store_desk s ad _ c hk (fun W3 hk hc => ⟨_, by simp [go_sem, hc], k2 _ _ (markM_no (.inl hv)) hk.below⟩)
  | true =>
    have hlen := validS_len hv
    repeat (any_goals (first
    | ((with_reducible refine local_desk s ad s.bases.length c hk ?_); intro b7 W7 hk hb7 hg7)
    | (with_reducible first|refine pureM_in ?_|((refine idGd ?_); first|refine zC ?_|refine zD ?_|((refine idGdN ?_); first|refine zO ?_|refine zP ?_|refine zQ (fun hg=>?_) fun hg=>?_))|((refine idPick ?_); first|refine yB ?_|refine yC ?_|refine yF ?_)|((refine idCond ?_); refine yL ?_))
    | ((with_reducible refine idO ?_); (with_reducible refine oM_gen fun Kv hK=>?_); simp [go_sem, hk.cells]; (try simp (disch := omega) only [wrapI64, wrapU8, wrapU32, wrapU64]); refine hK _ _ ?_; clear hK; clear Kv)))
    · refine nums_ok s 0 (hs.next hk.below) (hl.next hk.below) (fun w3 h3 => ?_)
      have hk := hk.next h3
      obtain ⟨b8, o8, rfl, c8, r8⟩ := hl.headD (by omega)
      obtain ⟨x0, hx0⟩ : ∃ x0, l.headD 0 = x0 := ⟨_, rfl⟩
      rw [hx0] at c8 r8
      cases hn : numsM s 0 l with
      | false =>
        repeat (any_goals (first
        | (with_reducible first|((refine idGd ?_); first|refine zD ?_|((refine idGdN ?_); refine zO ?_))|((refine idPick ?_); first|refine yB ?_|refine yG ?_)|((refine idCond ?_); refine yL ?_))
        | ((with_reducible refine idO ?_); (with_reducible refine oM_gen fun Kv hK=>?_); simp [go_sem, hk.cells]; refine hK _ _ ?_; clear hK; clear Kv)))
        refine store_desk s ad _ c hk (fun W3 hk hc => ⟨_, by simp [go_sem, hc], k2 _ _ (markM_no (.inr (.inr (.inl hn)))) hk.below⟩)
      | true =>
        by_cases h0 : x0 = 0
        · repeat (any_goals (first
          | (with_reducible first|refine pureM_in ?_|((refine idGd ?_); first|refine zC ?_|((refine idGdN ?_); refine zO ?_))|((refine idPick ?_); first|refine yC ?_|refine yG ?_)|((refine idCond ?_); refine yL ?_))
          | ((with_reducible refine idO ?_); (with_reducible refine oM_gen fun Kv hK=>?_); simp [go_sem, hk.cells, c8 _ hk.below, h0]; (first|refine hK _ _ ?_|refine And.intro (by omega) (hK _ _ ?_)); clear hK; clear Kv)))
          refine store_desk s ad _ c hk (fun W3 hk hc => ⟨_, by simp [go_sem, hc], k2 _ _ (markM_no (.inr (.inr (.inr (hx0.trans h0))))) hk.below⟩)
        · repeat (any_goals (first
          | (with_reducible first|refine pureM_in ?_|((refine idGd ?_); first|refine zC ?_|((refine idGdN ?_); refine zO ?_))|((refine idPick ?_); first|refine yC ?_|refine yG ?_)|((refine idCond ?_); refine yM ?_))
          | ((with_reducible refine idO ?_); (with_reducible refine oM_gen fun Kv hK=>?_); simp [go_sem, hk.cells, c8 _ hk.below, h0]; (first|refine hK _ _ ?_|refine And.intro (by omega) (hK _ _ ?_)); clear hK; clear Kv)))
          have em := markM_yes hv (by omega) hn (by rw [hx0]; exact h0)
          refine ⟨KnM w _ g 5, hk.drew, ?_⟩
          have hk := hk.drew
          repeat (any_goals (first
          | (with_reducible refine pureH_in ?_)
          | ((with_reducible refine idOH ?_); (with_reducible refine oH_of ⟨_, rfl⟩ (fun W0 hW0 => by (refine oM_gen (fun Kv hK => ?_)); simp [go_sem, hW0.cells]; (first | exact hK _ _ ⟨rfl, rfl⟩ | exact ⟨by omega, hK _ _ ⟨rfl, rfl⟩⟩)) ?_))))
          refine exps_ok (hl.next hk.below) (by omega) (by omega) (fun ev w4 he h4 _ => ?_)
          have hk := hk.next h4
          refine ⟨hk, ?_⟩
          refine product_t_ok s (hs.next hk.below) he (fun w5 h5 => ?_)
          have hk := hk.next h5
          refine ⟨hk, ?_⟩
          refine store_desk s ad _ c hk (fun W3 hk hc => ⟨hk, hk, hk, _, by simp [go_sem, hc], k2 _ _ em hk.below⟩)
    · refine store_desk s ad _ c hk (fun W3 hk hc => ⟨_, by simp [go_sem, hc], k2 _ _ (markM_no (.inr (.inl (by omega)))) hk.below⟩)
theorem usable_ok (s : Stp) {v lv : Value} {l : List Int} (hs : SetR w s v) (hl : Ints w lv l) (k : ∀ w', Below w.heap.size w w' → K (.tuple #[stpV s v, .int .i64 (usableM s l).1, .bool (usableM s l).2]) w') : callM Tryz.prog 70 #[stpV s v, lv] K w := by
  apply sh_70_ok
  unfold sh_70
  obtain ⟨ad, c, rfl⟩ := hs.ints.isSlice
  refine box_kn (cs := stpC s (.slice ad s.bases.length c)) rfl (.start w) fun b W hk hb1 hb => ?_
  refine alloc_mine al_desk rfl hk fun g W2 hk hb2 hg => ?_
  repeat (any_goals ((with_reducible refine idO ?_); (with_reducible refine oM_gen fun Kv hK=>?_); simp [go_sem, hk.cells]; refine hK _ _ ?_; clear hK; clear Kv))
  refine mark_ok s (hs.next hk.below) (hl.next hk.below) (fun w2 h2 => ?_)
  have hk := hk.next h2
  clear h2 hb1 hb2
  unfold usableM at k
  obtain ⟨⟨m, u⟩, hm⟩ : ∃ x, markM s l = x := ⟨_, rfl⟩
  rw [hm] at k ⊢
  simp only at k ⊢
  cases u with
  | false =>
    repeat (any_goals (first
    | ((with_reducible refine local_desk s ad s.bases.length c hk ?_); intro b7 W7 hk hb7 hg7)
    | (with_reducible first|((refine idGd ?_); refine zB ?_)|((refine idPick ?_); refine yC ?_))
    | ((with_reducible refine idO ?_); (with_reducible refine oM_gen fun Kv hK=>?_); simp [go_sem, hk.cells]; refine hK _ _ ?_; clear hK; clear Kv)))
    refine store_desk s ad _ c hk (fun W3 hk hc => ⟨_, by simp [go_sem, hc], k _ hk.below⟩)
  | true =>
    repeat (any_goals (first
    | ((with_reducible refine local_desk s ad s.bases.length c hk ?_); intro b7 W7 hk hb7 hg7)
    | (with_reducible first|refine pureM_in ?_|((refine idGd ?_); refine zA ?_)|((refine idPick ?_); refine yB ?_))
    | ((with_reducible refine idO ?_); (with_reducible refine oM_gen fun Kv hK=>?_); simp [go_sem, hk.cells]; refine hK _ _ ?_; clear hK; clear Kv)))
    refine store_desk s ad _ c hk (fun W3 hk hc => ⟨stpV s (.slice ad s.bases.length c), by simp [go_sem, hc], by simpa using k _ hk.below⟩)
end
end Go.Proofs
namespace Go.Proofs
open Go Go.Sh Go.RowKit FdSpec TkSpec
set_option linter.unusedSimpArgs false
set_option linter.unusedVariables false
set_option maxRecDepth 10000
theorem I64_of {x n : Int} (h : 0 ≤ x ∧ x < n) (hn : okN n) : I64 x := by unfold I64; unfold okN at hn; omega
theorem I64_0 : I64 0 := by unfold I64; omega
theorem mulM_I64 (n a b : Int) : I64 (mulM n a b) := by
  by_cases hn : okN n
  · exact I64_of (mulM_range n a b hn) hn
  · unfold mulM; rw [if_neg hn]; exact I64_0
theorem addM_I64 (n a b : Int) : I64 (addM n a b) := by
  by_cases hn : okN n
  · exact I64_of (addM_range n a b hn) hn
  · unfold addM; rw [if_neg hn]; exact I64_0
theorem subM_I64 (n a b : Int) : I64 (subM n a b) := by
  by_cases hn : okN n
  · exact I64_of (subM_range n a b hn) hn
  · unfold subM; rw [if_neg hn]; exact I64_0
theorem powM_I64 (n a b : Int) : I64 (powM n a b) := by
  by_cases hn : okN n
  · have h1 : 0 < n := by unfold okN at hn; omega
    unfold powM; rw [if_pos hn]
    split
    · exact I64_of (pw_nonneg n a _ h1) hn
    · split
      · exact I64_of (pw_nonneg n _ _ h1) hn
      · exact I64_0
  · unfold powM; rw [if_neg hn]; exact I64_0
theorem powerG_I64 (g : Grp) (x k : Int) : I64 (powerG g x k) := by
  unfold powerG
  split
  · rename_i h
    exact I64_of (pw_nonneg g.P x _ (by have := h.1; unfold okN at this; omega)) h.1
  · exact I64_0
theorem timesG_I64 (g : Grp) (a b : Int) : I64 (timesG g a b) := by
  unfold timesG
  split
  · exact mulM_I64 _ _ _
  · exact I64_0
theorem mulQ_I64 (s : Stp) (x : Int) (l : List Int) (h : l ≠ []) : I64 (mulQ s x l) := by
  unfold mulQ
  obtain ⟨l', y, rfl⟩ : ∃ l' y, l = l' ++ [y] := ⟨l.dropLast, l.getLast h, (List.dropLast_concat_getLast h).symm⟩
  rw [List.foldl_append]
  exact mulM_I64 _ _ _
section
variable {K : Value → World → Prop} {w w0 : World} {L : List (Addr × Value)}
theorem mk5 {T : TypeId} (a b c d e : Int) (ha : I64 a) (hb : I64 b) (hc : I64 c) (hd : I64 d) (he : I64 e) (k : ∀ v W, Below w.heap.size w W → Ints W v [a, b, c, d, e] → K v W) : oM Tryz.prog (.buildSlice 22 5 #[(0, .tmp 0), (1, .tmp 1), (2, .tmp 2), (3, .tmp 3), (4, .tmp 4)]) T [.int .i64 a, .int .i64 b, .int .i64 c, .int .i64 d, .int .i64 e] K w := by
  rw [rM_of (S := Instr.buildSlice 22 5 #[(0, .int .i64 a), (1, .int .i64 b), (2, .int .i64 c), (3, .int .i64 d), (4, .int .i64 e)]) (by simp [xop, execOp, evalL, evE])]
  have e : (Instr.buildSlice 22 5 #[(0, .int .i64 a), (1, .int .i64 b), (2, .int .i64 c), (3, .int .i64 d), (4, .int .i64 e)]).run Tryz.prog w = .ok (.slice (some ⟨w.heap.size, 0, none⟩) 5 5) (w.alloc (.cells #[.int .i64 a, .int .i64 b, .int .i64 c, .int .i64 d, .int .i64 e] 3)) := by kernel_rfl
  rw [e]
  exact k _ _ ((Below.refl _ w).alloc (Nat.le_refl _) _) (ints_alloc w [a, b, c, d, _] _ 5 (by simp; exact ⟨ha, hb, hc, hd, he⟩) (by simp))
theorem over_ok (s : Stp) (x y : Int) {dv : Value} (hs : SetR w s dv) (k : ∀ w', Below w.heap.size w w' → K (.int .i64 (overQ s x y)) w') : callM Tryz.prog 105 #[stpV s dv, .int .i64 x, .int .i64 y] K w := by
  apply sh_105_ok
  unfold sh_105
  obtain ⟨ad, c, rfl⟩ := hs.ints.isSlice
  refine box_kn (cs := stpC s (.slice ad s.bases.length c)) rfl (.start w) fun b W hk hb1 hb => ?_
  refine ⟨Kn w _, hk.drew, ?_⟩
  have hk := hk.drew
  repeat (any_goals (first
  | (with_reducible refine pureH_in ?_)
  | ((with_reducible refine idOH ?_); (with_reducible refine oH_of ⟨_, rfl⟩ (fun W0 hW0 => by (refine oM_gen (fun Kv hK => ?_)); simp [go_sem, hW0.cells]; (first | exact hK _ _ ⟨rfl, rfl⟩ | exact ⟨by omega, hK _ _ ⟨rfl, rfl⟩⟩)) ?_))))
  refine Pow_ok _ _ _ (by omega) (fun w2 h2 => ?_)
  have hk := hk.next h2
  refine ⟨hk, mk1 _ (powM_I64 _ _ _) (fun v w3 h3 hi => ?_)⟩
  have hk := hk.next h3
  refine ⟨hk, mul_ok s x (hs.next hk.below) hi (fun w4 h4 => ?_)⟩
  have hk := hk.next h4
  exact ⟨hk, hk, k _ hk.below⟩
theorem Mark_ok (s : Stp) {v lv : Value} {l : List Int} (hs : SetR w s v) (hl : Ints w lv l) (k : ∀ w', Below w.heap.size w w' → K (.int .i64 (markM s l).1) w') : callM Tryz.prog 27 #[stpV s v, lv] K w := by
  apply sh_27_ok
  unfold sh_27
  obtain ⟨ad, c, rfl⟩ := hs.ints.isSlice
  refine box_kn (cs := stpC s (.slice ad s.bases.length c)) rfl (.start w) fun b W hk hb1 hb => ?_
  repeat (any_goals ((with_reducible refine idO ?_); (with_reducible refine oM_gen fun Kv hK=>?_); simp [go_sem, hk.cells]; refine hK _ _ ?_; clear hK; clear Kv))
  refine mark_ok s (hs.next hk.below) (hl.next hk.below) (fun w2 h2 => ?_)
  have hk := hk.next h2
  repeat (any_goals (first
  | ((with_reducible refine local_desk' s ad s.bases.length c hk ?_); intro b7 W7 hk hb7 hg7)
  | ((with_reducible refine idO ?_); (with_reducible refine oM_gen fun Kv hK=>?_); simp [go_sem, hk.cells]; refine hK _ _ ?_; clear hK; clear Kv)))
  exact k _ hk.below
theorem Usable_ok (s : Stp) {v lv : Value} {l : List Int} (hs : SetR w s v) (hl : Ints w lv l) (k : ∀ w', Below w.heap.size w w' → K (.bool (usableM s l).2) w') : callM Tryz.prog 29 #[stpV s v, lv] K w := by
  apply sh_29_ok
  unfold sh_29
  obtain ⟨ad, c, rfl⟩ := hs.ints.isSlice
  refine box_kn (cs := stpC s (.slice ad s.bases.length c)) rfl (.start w) fun b W hk hb1 hb => ?_
  repeat (any_goals ((with_reducible refine idO ?_); (with_reducible refine oM_gen fun Kv hK=>?_); simp [go_sem, hk.cells]; refine hK _ _ ?_; clear hK; clear Kv))
  refine usable_ok s (hs.next hk.below) (hl.next hk.below) (fun w2 h2 => ?_)
  have hk := hk.next h2
  repeat (any_goals (first
  | ((with_reducible refine local_desk' s ad s.bases.length c hk ?_); intro b7 W7 hk hb7 hg7)
  | ((with_reducible refine idO ?_); (with_reducible refine oM_gen fun Kv hK=>?_); simp [go_sem, hk.cells]; refine hK _ _ ?_; clear hK; clear Kv)))
  exact k _ hk.below
theorem Public_ok (s : Stp) (x : Int) {v : Value} (hx : I64 x) (hs : SetR w s v) (k : ∀ w', Below w.heap.size w w' → K (.int .i64 (publicM s x)) w') : callM Tryz.prog 19 #[stpV s v, .int .i64 x] K w := by
  apply sh_19_ok
  unfold sh_19
  obtain ⟨ad, c, rfl⟩ := hs.ints.isSlice
  refine box_kn (cs := stpC s (.slice ad s.bases.length c)) rfl (.start w) fun b W hk hb1 hb => ?_
  have k2 : ∀ w' r, publicM s x = r → Below w.heap.size w w' → K (.int .i64 r) w' := fun w' r e hb => by rw [← e]; exact k w' hb
  clear k
  unfold publicM at k2
  repeat (any_goals ((with_reducible refine idO ?_); (with_reducible refine oM_gen fun Kv hK=>?_); simp [go_sem, hk.cells]; refine hK _ _ ?_; clear hK; clear Kv))
  refine open_ok s (hs.next hk.below) (fun w2 h2 => ?_)
  have hk := hk.next h2
  clear hb1 h2
  cases hv : validS s with
  | false =>
    repeat (any_goals (first
    | ((with_reducible refine local_desk' s ad s.bases.length c hk ?_); intro b7 W7 hk hb7 hg7)
    | (with_reducible first|((refine idGd ?_); refine zB ?_)|((refine idPick ?_); refine yC ?_)|((refine idCond ?_); refine yM ?_))
    | ((with_reducible refine idO ?_); (with_reducible refine oM_gen fun Kv hK=>?_); simp [go_sem, hk.cells]; refine hK _ _ ?_; clear hK; clear Kv)))
    exact k2 _ _ (by rw [hv]; rfl) hk.below
  | true =>
    repeat (any_goals (first
    | ((with_reducible refine local_desk' s ad s.bases.length c hk ?_); intro b7 W7 hk hb7 hg7) | ((with_reducible refine mk1 x hx ?_); intro v8 W8 hb8 hi)
    | (with_reducible first|refine pureM_in ?_|((refine idGd ?_); refine zA ?_))
    | ((with_reducible refine idO ?_); (with_reducible refine oM_gen fun Kv hK=>?_); simp [go_sem, hk.cells]; refine hK _ _ ?_; clear hK; clear Kv)))
    have hk := hk.next hb8
    refine nums_ok s 1 (hs.next hk.below) hi (fun w3 h3 => ?_)
    have hk := hk.next h3
    cases hn : numsM s 1 [x] with
    | false =>
      repeat (any_goals (with_reducible first|((refine idPick ?_); refine yB ?_)|((refine idCond ?_); refine yM ?_)))
      exact k2 _ _ (by rw [hv, hn]; rfl) hk.below
    | true =>
      repeat (any_goals (first
      | (with_reducible first|((refine idPick ?_); refine yB ?_)|((refine idCond ?_); refine yL ?_))
      | ((with_reducible refine idO ?_); (with_reducible refine oM_gen fun Kv hK=>?_); simp [go_sem, hk.cells]; refine hK _ _ ?_; clear hK; clear Kv)))
      refine generated_ok s x (hs.next hk.below) (fun w4 h4 => ?_)
      have hk := hk.next h4
      exact k2 _ _ (by rw [hv, hn]; rfl) hk.below
theorem Grant_ok (s : Stp) (x y z : Int) {v : Value} (hx : I64 x) (hy : I64 y) (hz : I64 z) (hs : SetR w s v) (k : ∀ w', Below w.heap.size w w' → K (.int .i64 (grantM s x y z)) w') : callM Tryz.prog 15 #[stpV s v, .int .i64 x, .int .i64 y, .int .i64 z] K w := by
  apply sh_15_ok
  unfold sh_15
  obtain ⟨ad, c, rfl⟩ := hs.ints.isSlice
  refine box_kn (cs := stpC s (.slice ad s.bases.length c)) rfl (.start w) fun b W hk hb1 hb => ?_
  have k2 : ∀ w' r, grantM s x y z = r → Below w.heap.size w w' → K (.int .i64 r) w' := fun w' r e hb => by rw [← e]; exact k w' hb
  clear k
  unfold grantM at k2
  repeat (any_goals ((with_reducible refine idO ?_); (with_reducible refine oM_gen fun Kv hK=>?_); simp [go_sem, hk.cells]; refine hK _ _ ?_; clear hK; clear Kv))
  refine open_ok s (hs.next hk.below) (fun w2 h2 => ?_)
  have hk := hk.next h2
  clear hb1 h2
  cases hv : validS s with
  | false =>
    repeat (any_goals (first
    | ((with_reducible refine local_desk' s ad s.bases.length c hk ?_); intro b7 W7 hk hb7 hg7)
    | (with_reducible first|((refine idGd ?_); refine zB ?_)|((refine idPick ?_); refine yC ?_)|((refine idCond ?_); refine yM ?_))
    | ((with_reducible refine idO ?_); (with_reducible refine oM_gen fun Kv hK=>?_); simp [go_sem, hk.cells]; refine hK _ _ ?_; clear hK; clear Kv)))
    exact k2 _ _ (by rw [hv]; rfl) hk.below
  | true =>
    repeat (any_goals (first
    | ((with_reducible refine local_desk' s ad s.bases.length c hk ?_); intro b7 W7 hk hb7 hg7) | ((with_reducible refine mk1 x hx ?_); intro v8 W8 hb8 hi)
    | (with_reducible first|refine pureM_in ?_|((refine idGd ?_); refine zA ?_))
    | ((with_reducible refine idO ?_); (with_reducible refine oM_gen fun Kv hK=>?_); simp [go_sem, hk.cells]; refine hK _ _ ?_; clear hK; clear Kv)))
    have hk := hk.next hb8
    refine nums_ok s 1 (hs.next hk.below) hi (fun w3 h3 => ?_)
    have hk := hk.next h3
    cases hn : numsM s 1 [x] with
    | false =>
      repeat (any_goals (with_reducible first|((refine idGd ?_); refine zB ?_)|((refine idPick ?_); first|refine yB ?_|refine yC ?_)|((refine idCond ?_); refine yM ?_)))
      exact k2 _ _ (by rw [hv, hn]; rfl) hk.below
    | true =>
      repeat (any_goals (first
      | ((with_reducible refine mk2 y z hy hz ?_); intro v9 W9 hb9 hi)
      | (with_reducible first|refine pureM_in ?_|((refine idGd ?_); refine zA ?_)|((refine idPick ?_); refine yB ?_))
      | ((with_reducible refine idO ?_); (with_reducible refine oM_gen fun Kv hK=>?_); simp [go_sem, hk.cells]; refine hK _ _ ?_; clear hK; clear Kv)))
      have hk := hk.next hb9
      refine nums_ok s 0 (hs.next hk.below) hi (fun w4 h4 => ?_)
      have hk := hk.next h4
      cases hn2 : numsM s 0 [y, z] with
      | false =>
        repeat (any_goals (with_reducible first|((refine idPick ?_); refine yB ?_)|((refine idCond ?_); refine yM ?_)))
        exact k2 _ _ (by rw [hv, hn, hn2]; rfl) hk.below
      | true =>
        repeat (any_goals (with_reducible first|((refine idPick ?_); refine yB ?_)|((refine idCond ?_); refine yL ?_)))
        refine ⟨Kn w _, hk.drew, ?_⟩
        have hk := hk.drew
        repeat (any_goals (first
        | ((with_reducible refine mk1 x hx ?_); intro v9 W9 hb9 hi)
        | (with_reducible refine pureH_in ?_)
        | ((with_reducible refine idOH ?_); (with_reducible refine oH_of ⟨_, rfl⟩ (fun W0 hW0 => by (refine oM_gen (fun Kv hK => ?_)); simp [go_sem, hW0.cells]; (first | exact hK _ _ ⟨rfl, rfl⟩ | exact ⟨by omega, hK _ _ ⟨rfl, rfl⟩⟩)) ?_))))
        have hk := hk.next hb9
        refine ⟨hk, mul_ok s z (hs.next hk.below) hi (fun w5 h5 => ?_)⟩
        have hk := hk.next h5
        refine ⟨hk, plus_ok s _ y (hs.next hk.below) (fun w6 h6 => ?_)⟩
        have hk := hk.next h6
        exact ⟨hk, hk, k2 _ _ (by rw [hv, hn, hn2]; rfl) hk.below⟩
end
end Go.Proofs
namespace Go.Proofs
open Go Go.Sh Go.RowKit FdSpec TkSpec
set_option linter.unusedSimpArgs false
set_option linter.unusedVariables false
set_option maxRecDepth 10000
section
variable {K : Value → World → Prop} {w w0 : World} {L : List (Addr × Value)}
@[reducible] def offV (o : Off) : Value := .agg #[.int .i64 o.z, .int .i64 o.a, .int .i64 o.b]
@[reducible] def tktV (t : Tkt) : Value := .agg #[.int .i64 t.mark, .int .i64 t.first, .int .i64 t.z, .int .i64 t.a, .int .i64 t.b, .int .i64 t.r]
@[reducible] def tktC (t : Tkt) : List Value := [.int .i64 t.mark, .int .i64 t.first, .int .i64 t.z, .int .i64 t.a, .int .i64 t.b, .int .i64 t.r]
@[reducible] def bldV (b : Bld) (v : Value) : Value := .agg #[.int .i64 b.s, .int .i64 b.u, .int .i64 b.v, v]
@[reducible] def bldC (b : Bld) (v : Value) : List Value := [.int .i64 b.s, .int .i64 b.u, .int .i64 b.v, v]
@[reducible] def spdV (x : Spd) (v : Value) : Value := .agg #[.int .i64 x.dare, v]
@[reducible] def spdC (x : Spd) (v : Value) : List Value := [.int .i64 x.dare, v]
structure TktR (t : Tkt) : Prop where
  mark : I64 t.mark
  first : I64 t.first
  z : I64 t.z
  a : I64 t.a
  b : I64 t.b
  r : I64 t.r
structure BldR (w : World) (b : Bld) (bv : Value) : Prop where
  s : I64 b.s
  u : I64 b.u
  v : I64 b.v
  ys : Ints w bv b.ys
structure SpdR (w : World) (x : Spd) (v : Value) : Prop where
  dare : I64 x.dare
  answers : Ints w v x.answers
theorem BldR.next {w w' : World} {b : Bld} {v : Value} (h : BldR w b v) (hb : Below w.heap.size w w') : BldR w' b v := ⟨h.s, h.u, h.v, h.ys.next hb⟩
theorem SpdR.next {w w' : World} {x : Spd} {v : Value} (h : SpdR w x v) (hb : Below w.heap.size w w') : SpdR w' x v := ⟨h.dare, h.answers.next hb⟩
theorem sz_off (w : World) : (sizeOf 39).run Tryz.prog w = .ok 3 w := by kernel_rfl
theorem al_off (w : World) : (Instr.alloc 39 true (.tuple #[])).run Tryz.prog w = .ok (.pointer (some ⟨w.heap.size, 0, none⟩)) (w.alloc (.cells [.int .i64 0, .int .i64 0, .int .i64 0].toArray 39)) := by kernel_rfl
theorem off_one (o : Off) : ∀ u ∈ [Value.int .i64 o.z, .int .i64 o.a, .int .i64 o.b], u.oneCell' = true := by
  intro u hu
  simp only [List.mem_cons, List.not_mem_nil, or_false] at hu
  rcases hu with rfl | rfl | rfl <;> rfl
theorem store_off {K : Value → World → Prop} {T' : TypeId} {g : Nat} (o : Off) (hk : KnM w0 L g 3 w)
    (k : ∀ W, KnM w0 L g 3 W → cellsAre W (cellsOf [] g 0 [.int .i64 o.z, .int .i64 o.a, .int .i64 o.b]) → K undef W) : oM Tryz.prog (.store 39 (.tmp 0) (.tmp 1)) T' [.pointer (some ⟨g, 0, none⟩), offV o] K w :=
  store_mine sz_off rfl rfl (off_one o) hk k
theorem propose_no {s : Stp} {x : Int} {l : List Int} {y : Int} (h : (usableM s l).2 = false ∨ numsM s 1 [x] = false ∨ numsM s 0 [y] = false) : proposeM s x l y = (⟨0, 0, 0⟩, 1) := by
  unfold proposeM
  rw [if_neg]
  rcases h with h | h | h <;> simp [h]
theorem Propose_ok (s : Stp) (x y : Int) {v lv : Value} {l : List Int} (hx : I64 x) (hy : I64 y) (hs : SetR w s v) (hl : Ints w lv l) (k : ∀ w', Below w.heap.size w w' → K (.tuple #[offV (proposeM s x l y).1, .int .i64 (proposeM s x l y).2]) w') : callM Tryz.prog 14 #[stpV s v, .int .i64 x, lv, .int .i64 y] K w := by
  apply sh_14_ok
  unfold sh_14
  obtain ⟨ad, c, rfl⟩ := hs.ints.isSlice
  have k2 : ∀ w' r, proposeM s x l y = r → Below w.heap.size w w' → K (.tuple #[offV r.1, .int .i64 r.2]) w' := fun w' r e hb => by rw [← e]; exact k w' hb
  clear k
  refine box_kn (cs := stpC s (.slice ad s.bases.length c)) rfl (.start w) fun b W hk hb1 hb => ?_
  refine alloc_mine al_off rfl hk fun g W2 hk hb2 hg => ?_
  repeat (any_goals ((with_reducible refine idO ?_); (with_reducible refine oM_gen fun Kv hK=>?_); simp [go_sem, hk.cells]; refine hK _ _ ?_; clear hK; clear Kv))
  refine usable_ok s (hs.next hk.below) (hl.next hk.below) (fun w2 h2 => ?_)
  have hk := hk.next h2
  clear hb1 h2 hb2
  obtain ⟨⟨m, u⟩, hm⟩ : ∃ x, usableM s l = x := ⟨_, rfl⟩
  rw [hm]
  cases u with
  | false =>
    repeat (any_goals (first
    | ((with_reducible refine local_desk s ad s.bases.length c hk ?_); intro b7 W7 hk hb7 hg7)
    | (with_reducible first|((refine idGd ?_); refine zD ?_)|((refine idPick ?_); refine yB ?_)|((refine idCond ?_); refine yL ?_))
    | ((with_reducible refine idO ?_); (with_reducible refine oM_gen fun Kv hK=>?_); simp [go_sem, hk.cells]; refine hK _ _ ?_; clear hK; clear Kv)))
    refine store_off ⟨0, 0, 0⟩ hk (fun W3 hk hc => ⟨_, by simp [go_sem, hc], k2 _ _ (propose_no (.inl (by rw [hm]))) hk.below⟩)
  | true =>
    repeat (any_goals (first
    | ((with_reducible refine local_desk s ad s.bases.length c hk ?_); intro b7 W7 hk hb7 hg7) | ((with_reducible refine mk1 x hx ?_); intro v8 W8 hb8 hi)
    | (with_reducible first|refine pureM_in ?_|((refine idGd ?_); refine zC ?_))
    | ((with_reducible refine idO ?_); (with_reducible refine oM_gen fun Kv hK=>?_); simp [go_sem, hk.cells]; refine hK _ _ ?_; clear hK; clear Kv)))
    have hk := hk.next hb8
    refine nums_ok s 1 (hs.next hk.below) hi (fun w3 h3 => ?_)
    have hk := hk.next h3
    cases hn : numsM s 1 [x] with
    | false =>
      repeat (any_goals (first
      | (with_reducible first|((refine idGd ?_); first|refine zC ?_|refine zD ?_)|((refine idPick ?_); first|refine yB ?_|refine yC ?_)|((refine idCond ?_); refine yL ?_))
      | ((with_reducible refine idO ?_); (with_reducible refine oM_gen fun Kv hK=>?_); simp [go_sem, hk.cells]; refine hK _ _ ?_; clear hK; clear Kv)))
      refine store_off ⟨0, 0, 0⟩ hk (fun W3 hk hc => ⟨_, by simp [go_sem, hc], k2 _ _ (propose_no (.inr (.inl hn))) hk.below⟩)
    | true =>
      repeat (any_goals (first
      | ((with_reducible refine mk1 y hy ?_); intro v9 W9 hb9 hi)
      | (with_reducible first|refine pureM_in ?_|((refine idGd ?_); refine zC ?_)|((refine idPick ?_); refine yC ?_))
      | ((with_reducible refine idO ?_); (with_reducible refine oM_gen fun Kv hK=>?_); simp [go_sem, hk.cells]; refine hK _ _ ?_; clear hK; clear Kv)))
      have hk := hk.next hb9
      refine nums_ok s 0 (hs.next hk.below) hi (fun w4 h4 => ?_)
      have hk := hk.next h4
      cases hn2 : numsM s 0 [y] with
      | false =>
        repeat (any_goals (first
        | (with_reducible first|((refine idGd ?_); refine zC ?_)|((refine idPick ?_); refine yC ?_)|((refine idCond ?_); refine yL ?_))
        | ((with_reducible refine idO ?_); (with_reducible refine oM_gen fun Kv hK=>?_); simp [go_sem, hk.cells]; refine hK _ _ ?_; clear hK; clear Kv)))
        refine store_off ⟨0, 0, 0⟩ hk (fun W3 hk hc => ⟨_, by simp [go_sem, hc], k2 _ _ (propose_no (.inr (.inr hn2))) hk.below⟩)
      | true =>
        have e : proposeM s x l y = (⟨powerG s.g m x, genM s y, powerG s.g m y⟩, 0) := by
          unfold proposeM
          rw [if_pos (by rw [hm, hn, hn2]; rfl), hm]
        repeat (any_goals (first
        | (with_reducible first|((refine idGd ?_); refine zC ?_)|((refine idPick ?_); refine yC ?_)|((refine idCond ?_); refine yM ?_))
        | ((with_reducible refine idO ?_); (with_reducible refine oM_gen fun Kv hK=>?_); simp [go_sem, hk.cells]; refine hK _ _ ?_; clear hK; clear Kv)))
        refine ⟨KnM w _ g 3, hk.drew, ?_⟩
        have hk := hk.drew
        repeat (any_goals (first
        | (with_reducible refine pureH_in ?_)
        | ((with_reducible refine idOH ?_); (with_reducible refine oH_of ⟨_, rfl⟩ (fun W0 hW0 => by (refine oM_gen (fun Kv hK => ?_)); simp [go_sem, hW0.cells]; (first | exact hK _ _ ⟨rfl, rfl⟩ | exact ⟨by omega, hK _ _ ⟨rfl, rfl⟩⟩)) ?_))))
        refine tpower_ok s m x (hs.next hk.below) (fun w5 h5 => ?_)
        have hk := hk.next h5
        refine ⟨hk, generated_ok s y (hs.next hk.below) (fun w6 h6 => ?_)⟩
        have hk := hk.next h6
        refine ⟨hk, tpower_ok s m y (hs.next hk.below) (fun w7 h7 => ?_)⟩
        have hk := hk.next h7
        refine ⟨hk, ?_⟩
        generalize powerG s.g m x = p1 at *
        generalize genM s y = p2 at *
        generalize powerG s.g m y = p3 at *
        repeat (any_goals ((with_reducible refine idO ?_); (with_reducible refine oM_gen fun Kv hK=>?_); simp [go_sem]; refine hK _ _ ?_; clear hK; clear Kv))
        refine ⟨hk, store_off ⟨p1, p2, p3⟩ hk (fun W3 hk hc => ⟨hk, hk, _, by simp [go_sem, hc], k2 _ _ e hk.below⟩)⟩
theorem blinds_ok (s : Stp) (b : Bld) {v bv : Value} (hs : SetR w s v) (hb : BldR w b bv) (k : ∀ w', Below w.heap.size w w' → K (.bool (blindsM s b)) w') : callM Tryz.prog 71 #[stpV s v, bldV b bv] K w := by
  apply sh_71_ok
  unfold sh_71
  obtain ⟨ad, c, rfl⟩ := hs.ints.isSlice
  have hys := hb.ys
  obtain ⟨yad, yc, rfl⟩ := hb.ys.isSlice
  have k2 : ∀ w' r, blindsM s b = r → Below w.heap.size w w' → K (.bool r) w' := fun w' r e hb => by rw [← e]; exact k w' hb
  clear k
  unfold blindsM at k2
  refine box_kn (cs := stpC s (.slice ad s.bases.length c)) rfl (.start w) fun b1 W hk hb1 hbb => ?_
  refine box_kn (cs := bldC b (.slice yad b.ys.length yc)) rfl hk fun b2 W2 hk hb2 hbb => ?_
  repeat (any_goals (first
  | ((with_reducible refine mk2 b.s b.u hb.s hb.u ?_); intro v8 W8 hb8 hi)
  | ((with_reducible refine idO ?_); (with_reducible refine oM_gen fun Kv hK=>?_); simp [go_sem, hk.cells]; refine hK _ _ ?_; clear hK; clear Kv)))
  have hk := hk.next hb8
  refine nums_ok s 1 (hs.next hk.below) hi (fun w3 h3 => ?_)
  have hk := hk.next h3
  cases hn : numsM s 1 [b.s, b.u] with
  | false =>
    repeat (any_goals (with_reducible first|((refine idGd ?_); refine zB ?_)|((refine idPick ?_); refine yC ?_)))
    exact k2 _ _ (by rw [hn]; rfl) hk.below
  | true =>
    repeat (any_goals (first
    | ((with_reducible refine mk1 b.v hb.v ?_); intro v9 W9 hb9 hi)
    | (with_reducible ((refine idGd ?_); refine zA ?_))
    | ((with_reducible refine idO ?_); (with_reducible refine oM_gen fun Kv hK=>?_); simp [go_sem, hk.cells]; refine hK _ _ ?_; clear hK; clear Kv)))
    have hk := hk.next hb9
    refine nums_ok s 0 (hs.next hk.below) hi (fun w4 h4 => ?_)
    have hk := hk.next h4
    cases hn2 : numsM s 0 [b.v] with
    | false =>
      repeat (any_goals (with_reducible first|((refine idGd ?_); refine zB ?_)|((refine idPick ?_); first|refine yB ?_|refine yC ?_)))
      exact k2 _ _ (by rw [hn, hn2]; rfl) hk.below
    | true =>
      by_cases hlen : b.ys.length = s.bases.length
      · repeat (any_goals (first
        | (with_reducible first|((refine idGd ?_); refine zA ?_)|((refine idPick ?_); refine yB ?_))
        | ((with_reducible refine idO ?_); (with_reducible refine oM_gen fun Kv hK=>?_); simp [go_sem, hk.cells, hlen]; refine hK _ _ ?_; clear hK; clear Kv)))
        have hys2 : Ints w (.slice yad s.bases.length yc) b.ys := by rw [← hlen]; exact hys
        refine nums_ok s 0 (hs.next hk.below) (hys2.next hk.below) (fun w5 h5 => ?_)
        have hk := hk.next h5
        repeat (any_goals (with_reducible ((refine idPick ?_); refine yB ?_)))
        exact k2 _ _ (by rw [hn, hn2]; simp [hlen]) hk.below
      · have hl' : ¬ (b.ys.length : Int) = s.bases.length := by omega
        repeat (any_goals (first
        | (with_reducible first|((refine idGd ?_); first|refine zA ?_|refine zB ?_)|((refine idPick ?_); first|refine yB ?_|refine yC ?_))
        | ((with_reducible refine idO ?_); (with_reducible refine oM_gen fun Kv hK=>?_); simp [go_sem, hk.cells, hl']; refine hK _ _ ?_; clear hK; clear Kv)))
        exact k2 _ _ (by rw [hn, hn2]; simp [hlen]) hk.below
end
end Go.Proofs
namespace Go.Proofs
open Go Go.Sh Go.RowKit FdSpec TkSpec
set_option linter.unusedSimpArgs false
set_option linter.unusedVariables false
set_option maxRecDepth 10000
section
variable {K : Value → World → Prop} {w w0 : World} {L : List (Addr × Value)}
theorem formed_ok (s : Stp) (t : Tkt) {v : Value} (ht : TktR t) (hs : SetR w s v) (k : ∀ w', Below w.heap.size w w' → K (.tuple #[stpV s v, .bool (formedM s t)]) w') : callM Tryz.prog 124 #[stpV s v, tktV t] K w := by
  apply sh_124_ok
  unfold sh_124
  obtain ⟨ad, c, rfl⟩ := hs.ints.isSlice
  have k2 : ∀ w' r, formedM s t = r → Below w.heap.size w w' → K (.tuple #[stpV s (.slice ad s.bases.length c), .bool r]) w' := fun w' r e hb => by rw [← e]; exact k w' hb
  clear k
  unfold formedM at k2
  refine box_kn (cs := stpC s (.slice ad s.bases.length c)) rfl (.start w) fun b1 W hk hb1 hbb => ?_
  refine box_kn (cs := tktC t) rfl hk fun b2 W2 hk hb2 hbb => ?_
  refine alloc_mine (n := 5) al_desk rfl hk fun g W2 hk hb2 hg => ?_
  repeat (any_goals ((with_reducible refine idO ?_); (with_reducible refine oM_gen fun Kv hK=>?_); simp [go_sem, hk.cells]; refine hK _ _ ?_; clear hK; clear Kv))
  refine open_ok s (hs.next hk.below) (fun w2 h2 => ?_)
  have hk := hk.next h2
  clear hb1 h2 hb2
  cases hv : validS s with
  | false =>
    repeat (any_goals (first
    | ((with_reducible refine local_desk s ad s.bases.length c hk ?_); intro b7 W7 hk hb7 hg7)
    | ((with_reducible refine idO ?_); (with_reducible refine oM_gen fun Kv hK=>?_); simp [go_sem, hk.cells]; refine hK _ _ ?_; clear hK; clear Kv)))
    refine ⟨KnM w _ g 5, hk.drew, ?_⟩
    have hk := hk.drew
    repeat (any_goals (first
    | (with_reducible refine And.intro hk ?_)
    | (with_reducible first|refine pureH_in ?_|((refine idGdH ?_); refine gdH_conv fun _=>?_)|((refine idGd ?_); refine zB ?_))
    | ((with_reducible refine idOH ?_); first|(with_reducible refine vB ?_)|(with_reducible refine oH_of ⟨_, rfl⟩ (fun W0 hW0 => by (refine oM_gen (fun Kv hK => ?_)); simp [go_sem, hW0.cells]; (first | exact hK _ _ ⟨rfl, rfl⟩ | exact ⟨by omega, hK _ _ ⟨rfl, rfl⟩⟩)) ?_))))
    exact store_desk s ad _ c hk (fun W3 hk hc => ⟨hk, hk, _, by simp [go_sem, hc], k2 _ _ (by rw [hv]; rfl) hk.below⟩)
  | true =>
    repeat (any_goals (first
    | ((with_reducible refine local_desk s ad s.bases.length c hk ?_); intro b7 W7 hk hb7 hg7)
    | ((with_reducible refine idO ?_); (with_reducible refine oM_gen fun Kv hK=>?_); simp [go_sem, hk.cells]; refine hK _ _ ?_; clear hK; clear Kv)))
    refine ⟨KnM w _ g 5, hk.drew, ?_⟩
    have hk := hk.drew
    by_cases hm : t.mark = 1
    · repeat (any_goals (first
      | (with_reducible refine And.intro hk ?_)
      | (with_reducible first|refine pureH_in ?_|((refine idGdH ?_); refine gdH_conv fun _=>?_)|((refine idGd ?_); first|refine zA ?_|refine zB ?_))
      | ((with_reducible refine idOH ?_); first|(with_reducible first|refine vA ?_|refine vB ?_)|(with_reducible refine oH_of ⟨_, rfl⟩ (fun W0 hW0 => by (refine oM_gen (fun Kv hK => ?_)); simp [go_sem, hW0.cells, hm]; (first | exact hK _ _ ⟨rfl, rfl⟩ | exact ⟨by omega, hK _ _ ⟨rfl, rfl⟩⟩)) ?_))))
      exact store_desk s ad _ c hk (fun W3 hk hc => ⟨hk, hk, _, by simp [go_sem, hc], k2 _ _ (by rw [hv, hm]; rfl) hk.below⟩)
    · repeat (any_goals (first
      | (with_reducible refine And.intro hk ?_)
      | ((with_reducible refine mk5 t.mark t.first t.z t.a t.b ht.mark ht.first ht.z ht.a ht.b ?_); intro v8 W8 hb8 hi)
      | (with_reducible first|refine pureH_in ?_|((refine idGdH ?_); refine gdH_conv fun _=>?_)|((refine idGd ?_); refine zA ?_))
      | ((with_reducible refine idOH ?_); first|(with_reducible refine vA ?_)|(with_reducible refine oH_of ⟨_, rfl⟩ (fun W0 hW0 => by (refine oM_gen (fun Kv hK => ?_)); simp [go_sem, hW0.cells, hm]; (first | exact hK _ _ ⟨rfl, rfl⟩ | exact ⟨by omega, hK _ _ ⟨rfl, rfl⟩⟩)) ?_))))
      have hk := hk.next hb8
      refine ⟨hk, elements_ok s (hs.next hk.below) hi (fun w3 h3 => ?_)⟩
      have hk := hk.next h3
      refine ⟨hk, ?_⟩
      cases he : elementsM s [t.mark, t.first, t.z, t.a, t.b] with
      | false =>
        repeat (any_goals (first
        | (with_reducible refine And.intro hk ?_)
        | (with_reducible first|refine pureH_in ?_|((refine idGdH ?_); refine gdH_conv fun _=>?_)|((refine idGd ?_); refine zB ?_))
        | ((with_reducible refine idOH ?_); (with_reducible first|refine vA ?_|refine vB ?_))))
        exact store_desk s ad _ c hk (fun W3 hk hc => ⟨hk, hk, _, by simp [go_sem, hc], k2 _ _ (by rw [hv, he]; simp) hk.below⟩)
      | true =>
        repeat (any_goals (first
        | (with_reducible refine And.intro hk ?_)
        | ((with_reducible refine mk1 t.r ht.r ?_); intro v9 W9 hb9 hi9)
        | (with_reducible first|refine pureH_in ?_|((refine idGdH ?_); refine gdH_conv fun _=>?_)|((refine idGd ?_); refine zA ?_))
        | ((with_reducible refine idOH ?_); first|(with_reducible refine vA ?_)|(with_reducible refine oH_of ⟨_, rfl⟩ (fun W0 hW0 => by (refine oM_gen (fun Kv hK => ?_)); simp [go_sem, hW0.cells]; (first | exact hK _ _ ⟨rfl, rfl⟩ | exact ⟨by omega, hK _ _ ⟨rfl, rfl⟩⟩)) ?_))))
        have hk := hk.next hb9
        refine ⟨hk, nums_ok s 0 (hs.next hk.below) hi9 (fun w4 h4 => ?_)⟩
        have hk := hk.next h4
        refine ⟨hk, ?_⟩
        repeat (any_goals (first
        | (with_reducible refine And.intro hk ?_)
        | ((with_reducible refine idOH ?_); (with_reducible refine vA ?_))))
        exact store_desk s ad _ c hk (fun W3 hk hc => ⟨hk, hk, _, by simp [go_sem, hc], k2 _ _ (by rw [hv, he]; simp [hm]) hk.below⟩)
theorem acceptsM_no {s : Stp} {t : Tkt} {x : Spd} (h : formedM s t = false ∨ numsM s 1 [x.dare] = false ∨ x.answers.length ≠ s.bases.length ∨ numsM s 0 x.answers = false) : acceptsM s t x = false := by
  unfold acceptsM
  rw [if_neg]
  rcases h with h | h | h | h <;> simp [h]
theorem Accepts_ok (s : Stp) (t : Tkt) (x : Spd) {v xv : Value} (ht : TktR t) (hs : SetR w s v) (hx : SpdR w x xv) (k : ∀ w', Below w.heap.size w w' → K (.bool (acceptsM s t x)) w') : callM Tryz.prog 57 #[stpV s v, tktV t, spdV x xv] K w := by
  apply sh_57_ok
  unfold sh_57
  obtain ⟨ad, c, rfl⟩ := hs.ints.isSlice
  have hans := hx.answers
  obtain ⟨xad, xc, rfl⟩ := hx.answers.isSlice
  have k2 : ∀ w' r, acceptsM s t x = r → Below w.heap.size w w' → K (.bool r) w' := fun w' r e hb => by rw [← e]; exact k w' hb
  clear k
  refine box_kn (cs := stpC s (.slice ad s.bases.length c)) rfl (.start w) fun b1 W hk hb1 hbb => ?_
  refine box_kn (cs := tktC t) rfl hk fun b2 W2 hk hb2 hbb => ?_
  refine box_kn (cs := spdC x (.slice xad x.answers.length xc)) rfl hk fun b3 W3 hk hb3 hbb => ?_
  repeat (any_goals ((with_reducible refine idO ?_); (with_reducible refine oM_gen fun Kv hK=>?_); simp [go_sem, hk.cells]; refine hK _ _ ?_; clear hK; clear Kv))
  refine formed_ok s t ht (hs.next hk.below) (fun w2 h2 => ?_)
  have hk := hk.next h2
  clear hb1 h2 hb2 hb3
  cases hv : formedM s t with
  | false =>
    repeat (any_goals (first
    | ((with_reducible refine local_desk' s ad s.bases.length c hk ?_); intro b7 W7 hk hb7 hg7)
    | (with_reducible first|((refine idGd ?_); refine zD ?_)|((refine idPick ?_); refine yB ?_)|((refine idCond ?_); refine yL ?_))
    | ((with_reducible refine idO ?_); (with_reducible refine oM_gen fun Kv hK=>?_); simp [go_sem, hk.cells]; refine hK _ _ ?_; clear hK; clear Kv)))
    exact k2 _ _ (acceptsM_no (.inl hv)) hk.below
  | true =>
    repeat (any_goals (first
    | ((with_reducible refine local_desk' s ad s.bases.length c hk ?_); intro b7 W7 hk hb7 hg7) | ((with_reducible refine mk1 x.dare hx.dare ?_); intro v8 W8 hb8 hi)
    | (with_reducible ((refine idGd ?_); refine zC ?_))
    | ((with_reducible refine idO ?_); (with_reducible refine oM_gen fun Kv hK=>?_); simp [go_sem, hk.cells]; refine hK _ _ ?_; clear hK; clear Kv)))
    have hk := hk.next hb8
    refine nums_ok s 1 (hs.next hk.below) hi (fun w3 h3 => ?_)
    have hk := hk.next h3
    cases hn : numsM s 1 [x.dare] with
    | false =>
      repeat (any_goals (first
      | (with_reducible first|((refine idGd ?_); first|refine zC ?_|refine zD ?_)|((refine idPick ?_); first|refine yB ?_|refine yC ?_)|((refine idCond ?_); refine yL ?_))
      | ((with_reducible refine idO ?_); (with_reducible refine oM_gen fun Kv hK=>?_); simp [go_sem, hk.cells]; refine hK _ _ ?_; clear hK; clear Kv)))
      exact k2 _ _ (acceptsM_no (.inr (.inl hn))) hk.below
    | true =>
      by_cases hlen : x.answers.length = s.bases.length
      · repeat (any_goals (first
        | (with_reducible first|((refine idGd ?_); refine zC ?_)|((refine idPick ?_); refine yC ?_))
        | ((with_reducible refine idO ?_); (with_reducible refine oM_gen fun Kv hK=>?_); simp [go_sem, hk.cells, hlen]; refine hK _ _ ?_; clear hK; clear Kv)))
        have hans2 : Ints w (.slice xad s.bases.length xc) x.answers := by rw [← hlen]; exact hans
        refine nums_ok s 0 (hs.next hk.below) (hans2.next hk.below) (fun w5 h5 => ?_)
        have hk := hk.next h5
        cases hn2 : numsM s 0 x.answers with
        | false =>
          repeat (any_goals (first
          | (with_reducible first|((refine idGd ?_); refine zC ?_)|((refine idPick ?_); refine yC ?_)|((refine idCond ?_); refine yL ?_))
          | ((with_reducible refine idO ?_); (with_reducible refine oM_gen fun Kv hK=>?_); simp [go_sem, hk.cells]; refine hK _ _ ?_; clear hK; clear Kv)))
          exact k2 _ _ (acceptsM_no (.inr (.inr (.inr hn2)))) hk.below
        | true =>
          repeat (any_goals (first
          | (with_reducible first|((refine idGd ?_); refine zC ?_)|((refine idPick ?_); refine yC ?_)|((refine idCond ?_); refine yM ?_))
          | ((with_reducible refine idO ?_); (with_reducible refine oM_gen fun Kv hK=>?_); simp [go_sem, hk.cells]; refine hK _ _ ?_; clear hK; clear Kv)))
          have e : acceptsM s t x = decide ((prodG s.g s.bases x.answers).1 = timesM s (powerG s.g t.mark x.dare) [t.first]) := by
            unfold acceptsM
            rw [if_pos (by rw [hv, hn, hn2]; simp [hlen])]
          refine ⟨Kn w _, hk.drew, ?_⟩
          have hk := hk.drew
          repeat (any_goals ((with_reducible refine idOH ?_); (with_reducible refine oH_of ⟨_, rfl⟩ (fun W0 hW0 => by (refine oM_gen (fun Kv hK => ?_)); simp [go_sem, hW0.cells, hlen]; (first | exact hK _ _ ⟨rfl, rfl⟩ | exact ⟨by omega, hK _ _ ⟨rfl, rfl⟩⟩)) ?_)))
          refine ⟨?_, ?_⟩
          · refine product_t_ok s (hs.next hk.below) (hans2.next hk.below) (fun w6 h6 => ?_)
            have hk := hk.next h6
            refine ⟨hk, ?_, ?_⟩
            · refine tpower_ok s t.mark x.dare (hs.next hk.below) (fun w7 h7 => ?_)
              have hk := hk.next h7
              refine ⟨hk, mk1 t.first ht.first (fun v8 w8 h8 hi => ?_)⟩
              have hk := hk.next h8
              refine ⟨hk, times_ok s _ (hs.next hk.below) hi (fun w9 h9 => ?_)⟩
              have hk := hk.next h9
              refine ⟨hk, ?_⟩
              repeat (any_goals ((with_reducible refine idOH ?_); (with_reducible refine oH_of ⟨_, rfl⟩ (fun W0 hW0 => by (refine oM_gen (fun Kv hK => ?_)); simp [go_sem]; (first | exact hK _ _ ⟨rfl, rfl⟩ | exact ⟨by omega, hK _ _ ⟨rfl, rfl⟩⟩)) ?_)))
              exact ⟨hk, k2 _ _ e hk.below⟩
            · refine mk1 t.first ht.first (fun v8 w8 h8 hi => ?_)
              have hk := hk.next h8
              refine ⟨hk, tpower_ok s t.mark x.dare (hs.next hk.below) (fun w7 h7 => ?_)⟩
              have hk := hk.next h7
              refine ⟨hk, times_ok s _ (hs.next hk.below) (hi.next h7) (fun w9 h9 => ?_)⟩
              have hk := hk.next h9
              refine ⟨hk, ?_⟩
              repeat (any_goals ((with_reducible refine idOH ?_); (with_reducible refine oH_of ⟨_, rfl⟩ (fun W0 hW0 => by (refine oM_gen (fun Kv hK => ?_)); simp [go_sem]; (first | exact hK _ _ ⟨rfl, rfl⟩ | exact ⟨by omega, hK _ _ ⟨rfl, rfl⟩⟩)) ?_)))
              exact ⟨hk, k2 _ _ e hk.below⟩
          · refine mk1 t.first ht.first (fun v8 w8 h8 hi => ?_)
            have hk := hk.next h8
            refine ⟨hk, product_t_ok s (hs.next hk.below) (hans2.next hk.below) (fun w6 h6 => ?_)⟩
            have hk := hk.next h6
            refine ⟨hk, tpower_ok s t.mark x.dare (hs.next hk.below) (fun w7 h7 => ?_)⟩
            have hk := hk.next h7
            refine ⟨hk, times_ok s _ (hs.next hk.below) ((hi.next h6).next h7) (fun w9 h9 => ?_)⟩
            have hk := hk.next h9
            refine ⟨hk, ?_⟩
            repeat (any_goals ((with_reducible refine idOH ?_); (with_reducible refine oH_of ⟨_, rfl⟩ (fun W0 hW0 => by (refine oM_gen (fun Kv hK => ?_)); simp [go_sem]; (first | exact hK _ _ ⟨rfl, rfl⟩ | exact ⟨by omega, hK _ _ ⟨rfl, rfl⟩⟩)) ?_)))
            exact ⟨hk, k2 _ _ e hk.below⟩
      · have hl' : ¬ (x.answers.length : Int) = s.bases.length := by omega
        repeat (any_goals (first
        | (with_reducible first|((refine idGd ?_); first|refine zC ?_|refine zD ?_)|((refine idPick ?_); first|refine yB ?_|refine yC ?_)|((refine idCond ?_); refine yL ?_))
        | ((with_reducible refine idO ?_); (with_reducible refine oM_gen fun Kv hK=>?_); simp [go_sem, hk.cells, hl']; refine hK _ _ ?_; clear hK; clear Kv)))
        exact k2 _ _ (acceptsM_no (.inr (.inr (.inl hlen)))) hk.below
end
end Go.Proofs
namespace Go.Proofs
open Go Go.Sh Go.RowKit FdSpec TkSpec
set_option linter.unusedSimpArgs false
set_option linter.unusedVariables false
set_option maxRecDepth 10000
section
variable {K : Value → World → Prop} {w w0 : World} {L : List (Addr × Value)}
abbrev OwnI (w : World) (B : Nat) (v : Value) (l : List Int) : Prop := w.ownsRow B 3 1 v l.length (flat intC l)
theorem OwnI.ints {B : Nat} {v : Value} {l : List Int} (h : OwnI w B v l) (hr : ∀ n ∈ l, I64 n) (hl : l.length ≤ 9223372036854775807) : Ints w v l := Ints.of_owns h hr hl
theorem owns_up {B C : Nat} {e : TypeId} {sz : Nat} {v : Value} {n : Nat} {xs : List Value} (h : w.ownsRow B e sz v n xs) (hc : ∀ i, v.ownBlock = some i → C ≤ i) : w.ownsRow C e sz v n xs := by
  refine ⟨h.1, h.2.imp id ?_⟩
  rintro ⟨g, cap, cur, rfl, hb, hr⟩
  exact ⟨g, cap, cur, rfl, hc g rfl, hr⟩
theorem OwnI.keep {B : Nat} {v : Value} {l : List Int} {w' : World} (h : OwnI w B v l) (hb : Below w.heap.size w w') : OwnI w' B v l :=
  owns_keep h (fun i hi => hb.block i (owns_own h hi).1)
theorem append1 {B : Nat} {T : TypeId} {v xv : Value} {l : List Int} {x : Int} (ho : OwnI w B v l) (hB : B ≤ w.heap.size) (hx : Ints w xv [x]) (hl : l.length < 1099511627776)
    (k : ∀ v' w', OwnI w' B v' (l ++ [x]) → Below B w w' → K v' w') : oM Tryz.prog (.call { callee := .builtin .append, args := #[.tmp 0, .tmp 1], argTypes := #[22, 22] }) T [v, xv] K w := by
  obtain ⟨⟨ad, c, rfl, h0, hc⟩, hr, _⟩ := hx
  have hc := hc.resolve_left (by simp)
  obtain ⟨b, o, rfl, hlt, hcell⟩ := hc
  refine append_at 22 T 3 ((Tryz.prog.info? 3).getD default) (.int .i64 0) 1 8 (by kernel_rfl) (by kernel_rfl) (by kernel_rfl) (by kernel_rfl) (by kernel_rfl) (by kernel_rfl) (by omega) (owns_base ho (Nat.zero_le _)) [.int .i64 x] (by simp) (by simp) ?_ ?_ (by simp only [maxLen, List.length_singleton]; omega) (by simp only [List.length_singleton]; omega) ?_
  · rintro a ha j u hj
    cases ha
    rw [add_none]
    exact hcell j u hj
  · intro u hu
    simp only [List.mem_singleton] at hu
    subst hu; rfl
  · intro v' w' ho' hg hv
    have hbl : ∀ i, v.ownBlock = some i → B ≤ i := fun i hi => (owns_own ho hi).2.1
    refine k v' w' ?_ ((Below.refl B w).grown hg hB hbl)
    have e1 : (l ++ [x]).length = l.length + [x].length := by simp
    have e2 : flat intC (l ++ [x]) = flat intC l ++ [Value.int .i64 x] := by rw [flat_int, flat_int]; simp
    show w'.ownsRow B 3 1 v' (l ++ [x]).length (flat intC (l ++ [x]))
    rw [e1, e2]
    exact owns_up ho' (fun i hi => (hv i hi).elim (hbl i) (fun h => Nat.le_trans hB h))
theorem Same_ok {v u : Value} {a b : List Int} (ha : Ints w v a) (hb : Ints w u b) (k : ∀ w', Below w.heap.size w w' → K (.bool (decide (a = b))) w') : callM Tryz.prog 59 #[v, u] K w := by
  apply sh_59_ok
  unfold sh_59
  obtain ⟨ad1, c1, rfl⟩ := ha.isSlice
  obtain ⟨ad2, c2, rfl⟩ := hb.isSlice
  have l1 := ha.len
  have l2 := hb.len
  by_cases hl : a.length = b.length
  · repeat (any_goals (first
    | (with_reducible ((refine idCond ?_); refine yM ?_))
    | ((with_reducible refine idO ?_); (with_reducible refine oM_gen fun Kv hK=>?_); simp [go_sem, hl]; refine hK _ _ ?_; clear hK; clear Kv)))
    refine ⟨fun vs w' => Below w.heap.size w w' ∧ ∃ (v : Value) (i : Nat), vs = [v, .int .i64 (i : Int)] ∧ i ≤ a.length ∧ a.take i = b.take i, fun vs _ => match vs with | [_, .int _ i] => b.length - i.toNat | _ => 0, ⟨Below.refl _ _, _, 0, rfl, by omega, rfl⟩, ?_⟩
    rintro _ _ w1 ⟨h1, u1, i, rfl, hi, he⟩
    by_cases hin : i = b.length
    · have e : a = b := by
        rw [List.take_of_length_le (by omega), List.take_of_length_le (by omega)] at he
        exact he
      have k := k _ h1
      rw [decide_eq_true e] at k
      repeat (any_goals (first
      | (with_reducible ((refine idCond ?_); refine yO ?_))
      | ((with_reducible refine idO ?_); (with_reducible refine oM_gen fun Kv hK=>?_); simp [go_sem, hl]; refine hK _ _ ?_; clear hK; clear Kv)))
      exact k
    · obtain ⟨b1, o1, rfl, hb1, ca, ra, _⟩ := ha.at (i := i) (by omega)
      obtain ⟨b2, o2, rfl, hb2, cb, rb, _⟩ := hb.at (i := i) (by omega)
      repeat (any_goals (first
      | (with_reducible ((refine idCond ?_); refine yN ?_))
      | ((with_reducible refine idO ?_); (with_reducible refine oM_gen fun Kv hK=>?_); simp [go_sem, hl]; refine hK _ _ ?_; clear hK; clear Kv)))
      refine ⟨Below w.heap.size w, h1.trans .drawn, ?_⟩
      by_cases hx : a[i] = b[i]
      · repeat (any_goals ((with_reducible refine idOQ ?_); (with_reducible refine oQ_of ⟨_, rfl⟩ (fun W0 hW0 => by (refine oM_gen (fun Kv hK => ?_)); simp [go_sem, ca _ hW0, cb _ hW0, hl, hx]; (first | exact hK _ _ ⟨rfl, rfl⟩ | exact ⟨by omega, hK _ _ ⟨rfl, rfl⟩⟩)) ?_)))
        intro w2 h2
        repeat (any_goals (first
        | (with_reducible ((refine idCond ?_); refine yM ?_))
        | ((with_reducible refine idO ?_); (with_reducible refine oM_gen fun Kv hK=>?_); simp [go_sem, hx]; (try simp (disch := omega) only [wrapI64, wrapU8, wrapU32, wrapU64]); refine hK _ _ ?_; clear hK; clear Kv)))
        refine ⟨⟨h2, _, i + 1, rfl, by omega, ?_⟩, by show b.length - (((i + 1 : Nat) : Int)).toNat < b.length - ((i : Nat) : Int).toNat; omega⟩
        rw [List.take_succ_eq_append_getElem (by omega), List.take_succ_eq_append_getElem (by omega), he, hx]
      · repeat (any_goals ((with_reducible refine idOQ ?_); (with_reducible refine oQ_of ⟨_, rfl⟩ (fun W0 hW0 => by (refine oM_gen (fun Kv hK => ?_)); simp [go_sem, ca _ hW0, cb _ hW0, hl, hx]; (first | exact hK _ _ ⟨rfl, rfl⟩ | exact ⟨by omega, hK _ _ ⟨rfl, rfl⟩⟩)) ?_)))
        intro w2 h2
        have k := k _ h2
        rw [decide_eq_false (by rintro rfl; exact hx rfl)] at k
        repeat (any_goals (with_reducible ((refine idCond ?_); refine yL ?_)))
        exact k
  · have hl' : ¬ (a.length : Int) = b.length := by omega
    have k := k _ (Below.refl _ _)
    rw [decide_eq_false (by rintro rfl; exact hl rfl)] at k
    repeat (any_goals (first
    | (with_reducible ((refine idCond ?_); refine yL ?_))
    | ((with_reducible refine idO ?_); (with_reducible refine oM_gen fun Kv hK=>?_); simp [go_sem, hl']; refine hK _ _ ?_; clear hK; clear Kv)))
    exact k
end
end Go.Proofs
namespace Go.Proofs
open Go Go.Sh Go.RowKit FdSpec TkSpec
set_option linter.unusedSimpArgs false
set_option linter.unusedVariables false
set_option maxRecDepth 10000
section
variable {K : Value → World → Prop} {w w0 : World} {L : List (Addr × Value)}
theorem accepts_len {s : Stp} {t : Tkt} {x : Spd} (h : acceptsM s t x = true) : x.answers.length = s.bases.length ∧ validS s = true := by
  unfold acceptsM at h
  split at h
  · rename_i hc
    simp only [Bool.and_eq_true, decide_eq_true_eq] at hc
    refine ⟨hc.1.2, ?_⟩
    have hf := hc.1.1.1
    unfold formedM at hf
    simp only [Bool.and_eq_true] at hf
    exact hf.1.1.1
  · cases h
def gapL (s : Stp) (a b : Spd) : List Int := (a.answers.zip b.answers).map fun p => lessQ s p.1 p.2
theorem gapL_len {s : Stp} {a b : Spd} {n : Nat} (ha : a.answers.length = n) (hb : b.answers.length = n) : (gapL s a b).length = n := by
  simp [gapL, ha, hb]
theorem gapL_at {s : Stp} {a b : Spd} {i : Nat} (ha : i < a.answers.length) (hb : i < b.answers.length) (hg : i < (gapL s a b).length) : (gapL s a b)[i] = lessQ s a.answers[i] b.answers[i] := by
  simp [gapL]
theorem gapL_rng {s : Stp} {a b : Spd} : ∀ n ∈ gapL s a b, I64 n := by
  intro n hn
  obtain ⟨p, _, rfl⟩ := List.mem_map.1 hn
  exact subM_I64 _ _ _
theorem gapsM_no {s : Stp} {t : Tkt} {a b : Spd} (h : a.dare = b.dare ∨ acceptsM s t a = false ∨ acceptsM s t b = false) : gapsM s t a b = ([], false) := by
  unfold gapsM
  rw [if_pos]
  rcases h with h | h | h <;> simp [h]
theorem gapsM_yes {s : Stp} {t : Tkt} {a b : Spd} (h1 : ¬ a.dare = b.dare) (h2 : acceptsM s t a = true) (h3 : acceptsM s t b = true) : gapsM s t a b = (gapL s a b, !decide ((gapL s a b).headD 0 = 0)) := by
  unfold gapsM
  rw [if_neg (by simp [h1, h2, h3])]
  rfl
theorem _root_.Go.Sh.KnM.add1 {g n : Nat} (h : KnM w0 L g n w) {b o : Nat} {v : Value} (hc : w.cell? ⟨b, o, none⟩ = some v) (hne : b ≠ g) : KnM w0 ((⟨b, o, none⟩, v) :: L) g n w :=
  ⟨⟨h.kn.below, hc, h.kn.cells⟩, h.mine, h.base, fun p hp => (List.mem_cons.1 hp).elim (fun e => by rw [e]; exact hne) (h.off p)⟩
theorem store_desk2 {K : Value → World → Prop} {T' : TypeId} {g : Nat} (s : Stp) (ad : Option Addr) (m c : Nat) (hk : KnM w0 L g 5 w)
    (k : ∀ W, KnM w0 L g 5 W → cellsAre W (cellsOf [] g 0 (stpC s (.slice ad m c))) → w.grownBy W (some g) → K undef W) : oM Tryz.prog (.store 111 (.tmp 0) (.tmp 1)) T' [.pointer (some ⟨g, 0, none⟩), stpV s (.slice ad m c)] K w := by
  obtain ⟨W, e, hg, hm, hc⟩ := store_run (P := Tryz.prog) (W := w) sz_desk (x := stpV s (.slice ad m c)) rfl rfl (stp_one s ad m c) hk.mine
  rw [oM_store, e]
  exact k W ⟨hk.kn.wrote hg hk.base hk.off, hm, hk.base, hk.off⟩ hc hg
@[reducible] def zstp : Stp := ⟨⟨0, 0, 0⟩, [], 0⟩
def GpJ (gl : List Int) (Wl : World) (vs : List Value) (w' : World) : Prop := Below Wl.heap.size Wl w' ∧ ∃ (v u o : Value) (i : Nat), vs = [v, u, o, .int .i64 (i : Int)] ∧ i ≤ gl.length ∧ OwnI w' Wl.heap.size o (gl.take i)
theorem gaps_ok (s : Stp) (t : Tkt) (x y : Spd) {v xv yv : Value} (ht : TktR t) (hs : SetR w s v) (hx : SpdR w x xv) (hy : SpdR w y yv)
    (k : ∀ w' s' ad n c ov, Below w.heap.size w w' → Ints w' ov (gapsM s t x y).1 → (∃ ad n c, ov = .slice ad n c ∧ n ≤ c) → ((gapsM s t x y).2 = true → stpV s' (.slice ad n c) = stpV s v) → K (.tuple #[stpV s' (.slice ad n c), ov, .bool (gapsM s t x y).2]) w') : callM Tryz.prog 120 #[stpV s v, tktV t, spdV x xv, spdV y yv] K w := by
  apply sh_120_ok
  unfold sh_120
  obtain ⟨ad, c, rfl⟩ := hs.ints.isSlice
  have hxa := hx.answers
  have hya := hy.answers
  have hx0 := hx
  have hy0 := hy
  obtain ⟨xad, xc, rfl⟩ := hx.answers.isSlice
  obtain ⟨yad, yc, rfl⟩ := hy.answers.isSlice
  have k0 : ∀ w', gapsM s t x y = ([], false) → Below w.heap.size w w' → K (.tuple #[stpV zstp (.slice none 0 0), .slice none 0 0, .bool false]) w' := fun w' e hb => by
    rw [e] at k
    exact k w' zstp none 0 0 _ hb (Ints.nil _) ⟨_, _, _, rfl, Nat.le_refl _⟩ (by simp)
  have k2 : ∀ w' ov l r, gapsM s t x y = (l, r) → Below w.heap.size w w' → Ints w' ov l → (∃ ad n c, ov = .slice ad n c ∧ n ≤ c) → K (.tuple #[stpV s (.slice ad s.bases.length c), ov, .bool r]) w' := fun w' ov l r e hb hi hcp => by
    rw [e] at k
    exact k w' s _ _ _ ov hb hi hcp (fun _ => rfl)
  clear k
  refine box_kn (cs := stpC s (.slice ad s.bases.length c)) rfl (.start w) fun b1 W hk hb1 hbb => ?_
  refine box_kn (cs := tktC t) rfl hk fun b2 W2 hk hb2 hbb => ?_
  refine box_kn (cs := spdC x (.slice xad x.answers.length xc)) rfl hk fun b3 W3 hk hb3 hbb => ?_
  refine box_kn (cs := spdC y (.slice yad y.answers.length yc)) rfl hk fun b4 W4 hk hb4 hbb => ?_
  refine alloc_mine (n := 5) al_desk rfl hk fun g W2 hk hb2 hg => ?_
  clear hb1 hb2 hb3 hb4
  by_cases hd : x.dare = y.dare
  · repeat (any_goals (first
    | (with_reducible first|((refine idGd ?_); refine zD ?_)|((refine idPick ?_); refine yB ?_)|((refine idCond ?_); refine yL ?_))
    | ((with_reducible refine idO ?_); (with_reducible refine oM_gen fun Kv hK=>?_); simp [go_sem, hk.cells, hd]; refine hK _ _ ?_; clear hK; clear Kv)))
    exact store_desk zstp none 0 0 hk (fun W3 hk hc => ⟨_, by simp [go_sem, hc], k0 _ (gapsM_no (.inl hd)) hk.below⟩)
  repeat (any_goals (first
  | (with_reducible ((refine idGd ?_); refine zC ?_))
  | ((with_reducible refine idO ?_); (with_reducible refine oM_gen fun Kv hK=>?_); simp [go_sem, hk.cells, hd]; refine hK _ _ ?_; clear hK; clear Kv)))
  refine Accepts_ok s t x ht (hs.next hk.below) (hx0.next hk.below) (fun w2 h2 => ?_)
  have hk := hk.next h2
  cases ha : acceptsM s t x with
  | false =>
    repeat (any_goals (first
    | (with_reducible first|((refine idGd ?_); first|refine zC ?_|refine zD ?_)|((refine idPick ?_); first|refine yB ?_|refine yC ?_)|((refine idCond ?_); refine yL ?_))
    | ((with_reducible refine idO ?_); (with_reducible refine oM_gen fun Kv hK=>?_); simp [go_sem, hk.cells]; refine hK _ _ ?_; clear hK; clear Kv)))
    exact store_desk zstp none 0 0 hk (fun W3 hk hc => ⟨_, by simp [go_sem, hc], k0 _ (gapsM_no (.inr (.inl ha))) hk.below⟩)
  | true =>
    repeat (any_goals (first
    | (with_reducible first|((refine idGd ?_); refine zC ?_)|((refine idPick ?_); refine yC ?_))
    | ((with_reducible refine idO ?_); (with_reducible refine oM_gen fun Kv hK=>?_); simp [go_sem, hk.cells]; refine hK _ _ ?_; clear hK; clear Kv)))
    refine Accepts_ok s t y ht (hs.next hk.below) (hy0.next hk.below) (fun w3 h3 => ?_)
    have hk := hk.next h3
    cases hb : acceptsM s t y with
    | false =>
      repeat (any_goals (first
      | (with_reducible first|((refine idGd ?_); refine zC ?_)|((refine idPick ?_); refine yC ?_)|((refine idCond ?_); refine yL ?_))
      | ((with_reducible refine idO ?_); (with_reducible refine oM_gen fun Kv hK=>?_); simp [go_sem, hk.cells]; refine hK _ _ ?_; clear hK; clear Kv)))
      exact store_desk zstp none 0 0 hk (fun W3 hk hc => ⟨_, by simp [go_sem, hc], k0 _ (gapsM_no (.inr (.inr hb))) hk.below⟩)
    | true =>
      have e0 := gapsM_yes hd ha hb
      obtain ⟨l1, hv⟩ := accepts_len ha
      obtain ⟨l2, _⟩ := accepts_len hb
      have hv7 := validS_len hv
      have hgl := gapL_len (s := s) l1 l2
      have hat := fun i h1 h2 h3 => gapL_at (s := s) (a := x) (b := y) (i := i) h1 h2 h3
      have hrng := gapL_rng (s := s) (a := x) (b := y)
      generalize gapL s x y = gl at *
      repeat (any_goals (first
      | ((with_reducible refine local_desk s ad s.bases.length c hk ?_); intro b7 W7 hk hb7 hg7)
      | (with_reducible first|((refine idGd ?_); refine zC ?_)|((refine idPick ?_); refine yC ?_)|((refine idCond ?_); refine yM ?_))
      | ((with_reducible refine idO ?_); (with_reducible refine oM_gen fun Kv hK=>?_); simp [go_sem, hk.cells]; refine hK _ _ ?_; clear hK; clear Kv)))
      have hgW : g < W7.heap.size := mine_lt hk.mine
      have hk0 := hk
      refine ⟨GpJ gl W7, pdMu x.answers.length, ⟨Below.refl _ _, _, _, _, 0, rfl, by omega, World.ownsRow_nil _ _ _ _⟩, ?_⟩
      rintro _ _ w5 ⟨h5, u1, u2, o, i, rfl, hi, ho⟩
      have hk := hk.next h5
      by_cases hin : i = x.answers.length
      · rw [List.take_of_length_le (by omega)] at ho
        have hints := ho.ints hrng (by omega)
        obtain ⟨g', cap, cur, rfl, hlt, hB, _, _, hcp, hcell⟩ := owns_cells ho (by omega)
        obtain ⟨x0, hx0⟩ : ∃ x0, gl.headD 0 = x0 := ⟨_, rfl⟩
        rw [hx0] at e0
        have c8 : w5.cell? ⟨g', 0, none⟩ = some (.int .i64 x0) := hcell 0 _ (by
          rw [flat_int, ← hx0]
          cases hgl2 : gl with
          | nil => rw [hgl2] at hgl; simp at hgl; omega
          | cons a l => rfl)
        have hk := hk.add1 c8 (by omega)
        have hgl8 : 0 < gl.length := by omega
        repeat (any_goals (first
        | (with_reducible ((refine idCond ?_); refine yO ?_))
        | ((with_reducible refine idO ?_); (with_reducible refine oM_gen fun Kv hK=>?_); simp [go_sem]; refine hK _ _ ?_; clear hK; clear Kv)))
        refine ⟨KnM w _ g 5, hk.drew, ?_⟩
        have hints := hints.next .drawn
        have hk := hk.drew
        repeat (any_goals (first
        | (with_reducible refine And.intro hk ?_)
        | (with_reducible refine pureH_in ?_)
        | ((with_reducible refine idOH ?_); (with_reducible refine oH_of ⟨_, rfl⟩ (fun W0 hW0 => by (refine oM_gen (fun Kv hK => ?_)); simp [go_sem, hW0.cells]; (first | exact hK _ _ ⟨rfl, rfl⟩ | exact ⟨by omega, hK _ _ ⟨rfl, rfl⟩⟩)) ?_))))
        refine store_desk2 s ad _ c hk (fun W3 hk hc hgr => ⟨hk, hk, hk, _, by simp [go_sem, hc], k2 _ _ _ _ e0 hk.below ⟨hints.row.keep hgr.size (fun i hi hlt => hgr.block i hlt ?_), hrng, by omega⟩ ⟨_, _, _, rfl, hcp⟩⟩)
        cases hi
        intro e
        have e2 : g' = g := Option.some.inj e
        omega
      · obtain ⟨b1, o1, rfl, hb1, ca, ra, _⟩ := hxa.at (i := i) (by omega)
        obtain ⟨b2, o2, rfl, hb2, cb, rb, _⟩ := hya.at (i := i) (by omega)
        repeat (any_goals (first
        | (with_reducible ((refine idCond ?_); refine yN ?_))
        | ((with_reducible refine idO ?_); (with_reducible refine oM_gen fun Kv hK=>?_); simp [go_sem, ca _ hk.below, hk.cells]; (first|refine hK _ _ ?_|refine And.intro (by omega) (hK _ _ ?_)); clear hK; clear Kv)))
        refine ⟨KnM w _ g 5, hk.drew, ?_⟩
        have h5 := h5.trans (Below.drawn (w := w5))
        have ho := ho.keep (Below.drawn (w := w5))
        have hk := hk.drew
        repeat (any_goals (first
        | (with_reducible refine And.intro hk ?_)
        | (with_reducible refine pureH_in ?_)
        | ((with_reducible refine idOH ?_); (with_reducible refine oH_of ⟨_, rfl⟩ (fun W0 hW0 => by (refine oM_gen (fun Kv hK => ?_)); simp [go_sem, hW0.cells, cb _ hW0.below]; (first | exact hK _ _ ⟨rfl, rfl⟩ | exact ⟨by omega, hK _ _ ⟨rfl, rfl⟩⟩)) ?_))))
        refine less_ok s _ _ (hs.next hk.below) (fun w6 h6 => ?_)
        have hk := hk.next h6
        have ho := ho.keep h6
        have h5 := h5.on h6
        refine ⟨hk, mk1 _ (subM_I64 _ _ _) (fun v7 w7 h7 hi7 => ?_)⟩
        have hk := hk.next h7
        have ho := ho.keep h7
        have h5 := h5.on h7
        refine ⟨hk, append1 ho h5.size hi7 (by simp; omega) (fun v8 w8 ho8 h8 => ?_)⟩
        have h5 := h5.trans h8
        have hk := hk0.next h5
        refine ⟨hk, ?_⟩
        repeat (any_goals (first
        | (with_reducible refine And.intro hk ?_)
        | ((with_reducible refine idO ?_); (with_reducible refine oM_gen fun Kv hK=>?_); simp [go_sem]; (try simp (disch := omega) only [wrapI64, wrapU8, wrapU32, wrapU64]); refine hK _ _ ?_; clear hK; clear Kv)))
        refine ⟨⟨h5, _, _, _, i + 1, rfl, by omega, ?_⟩, ?_⟩
        · rw [List.take_succ_eq_append_getElem (by omega), hat i (by omega) (by omega) (by omega)]
          exact ho8
        · simp only [pdMu_eq]; omega
end
end Go.Proofs
namespace Go.Proofs
open Go Go.Sh Go.RowKit FdSpec TkSpec
set_option linter.unusedSimpArgs false
set_option linter.unusedVariables false
set_option maxRecDepth 10000
section
variable {K : Value → World → Prop} {w w0 : World} {L : List (Addr × Value)}
theorem _root_.Go.Sh.Ints.tail {b o n c : Nat} {l : List Int} (h : Ints w (.slice (some ⟨b, o, none⟩) n c) l) (hne : 0 < l.length) : Ints w (.slice (some ⟨b, o + 1, none⟩) (n - 1) (c - 1)) l.tail := by
  obtain ⟨⟨ad, c', hv, h0, hc⟩, hr, hl⟩ := h
  cases hv
  refine ⟨⟨some ⟨b, o + 1, none⟩, c - 1, by rw [List.length_tail], by simp, ?_⟩, fun n hn => hr n (List.mem_of_mem_tail hn), by rw [List.length_tail]; omega⟩
  rcases hc with rfl | ⟨b', o', hbo, hlt, hcell⟩
  · simp at hne
  · cases hbo
    refine .inr ⟨b, o + 1, rfl, hlt, fun k x hk => ?_⟩
    have := hcell (k + 1) x (by
      rw [flat_int] at hk ⊢
      rw [← hk]
      simp)
    rw [show o + 1 + k = o + (k + 1) by omega]
    exact this
theorem traceM_no {s : Stp} {t : Tkt} {a b : Spd} (h : (gapsM s t a b).2 = false) : traceM s t a b = ([], false) := by
  unfold traceM; rw [if_neg (by simp [h])]
theorem gapsM_len {s : Stp} {t : Tkt} {a b : Spd} (h : (gapsM s t a b).2 = true) : (gapsM s t a b).1.length = s.bases.length ∧ validS s = true := by
  by_cases h1 : a.dare = b.dare
  · rw [gapsM_no (.inl h1)] at h; cases h
  cases h2 : acceptsM s t a with
  | false => rw [gapsM_no (.inr (.inl h2))] at h; cases h
  | true =>
    cases h3 : acceptsM s t b with
    | false => rw [gapsM_no (.inr (.inr h3))] at h; cases h
    | true =>
      rw [gapsM_yes h1 h2 h3]
      obtain ⟨l1, hv⟩ := accepts_len h2
      obtain ⟨l2, _⟩ := accepts_len h3
      exact ⟨gapL_len l1 l2, hv⟩
def TrJ (n : Nat) (tl : List Int) (Wl : World) (vs : List Value) (w' : World) : Prop := Below Wl.heap.size Wl w' ∧ ∃ (v o : Value) (i : Nat), vs = [v, o, .int .i64 (i : Int)] ∧ i ≤ n ∧ OwnI w' Wl.heap.size o (tl.take i)
theorem Trace_ok (s : Stp) (t : Tkt) (x y : Spd) {v xv yv : Value} (ht : TktR t) (hs : SetR w s v) (hx : SpdR w x xv) (hy : SpdR w y yv)
    (k : ∀ w' ov, Below w.heap.size w w' → Ints w' ov (traceM s t x y).1 → K (.tuple #[ov, .bool (traceM s t x y).2]) w') : callM Tryz.prog 48 #[stpV s v, tktV t, spdV x xv, spdV y yv] K w := by
  apply sh_48_ok
  unfold sh_48
  obtain ⟨ad, c, rfl⟩ := hs.ints.isSlice
  have hx0 := hx
  have hy0 := hy
  obtain ⟨xad, xc, rfl⟩ := hx.answers.isSlice
  obtain ⟨yad, yc, rfl⟩ := hy.answers.isSlice
  have k2 : ∀ w' ov r, traceM s t x y = r → Below w.heap.size w w' → Ints w' ov r.1 → K (.tuple #[ov, .bool r.2]) w' := fun w' ov r e hb hi => by
    rw [← e] at hi ⊢
    exact k w' ov hb hi
  clear k
  refine box_kn (cs := stpC s (.slice ad s.bases.length c)) rfl (.start w) fun b1 W hk hb1 hbb => ?_
  refine box_kn (cs := tktC t) rfl hk fun b2 W2 hk hb2 hbb => ?_
  refine box_kn (cs := spdC x (.slice xad x.answers.length xc)) rfl hk fun b3 W3 hk hb3 hbb => ?_
  refine box_kn (cs := spdC y (.slice yad y.answers.length yc)) rfl hk fun b4 W4 hk hb4 hbb => ?_
  clear hb1 hb2 hb3 hb4
  repeat (any_goals ((with_reducible refine idO ?_); (with_reducible refine oM_gen fun Kv hK=>?_); simp [go_sem, hk.cells]; refine hK _ _ ?_; clear hK; clear Kv))
  refine gaps_ok s t x y ht (hs.next hk.below) (hx0.next hk.below) (hy0.next hk.below) (fun w2 s' ad' n' c' ov h2 hgi hcap hds => ?_)
  have hk := hk.next h2
  have hT := traceM_no (s := s) (t := t) (a := x) (b := y)
  have hG := gapsM_len (s := s) (t := t) (a := x) (b := y)
  have eT : (gapsM s t x y).2 = true → traceM s t x y = ((gapsM s t x y).1.tail.map fun n => overQ s n ((gapsM s t x y).1.headD 0), true) := fun h => by unfold traceM; rw [if_pos h]
  obtain ⟨⟨gl, u⟩, hg⟩ : ∃ p, gapsM s t x y = p := ⟨_, rfl⟩
  rw [hg] at hT hG eT hgi hds ⊢
  simp only at hT hG eT hgi hds ⊢
  cases u with
  | false =>
    repeat (any_goals (first
    | ((with_reducible refine local_desk' s' ad' n' c' hk ?_); intro b7 W7 hk hb7 hg7)
    | (with_reducible ((refine idCond ?_); refine yL ?_))
    | ((with_reducible refine idO ?_); (with_reducible refine oM_gen fun Kv hK=>?_); simp [go_sem, hk.cells]; refine hK _ _ ?_; clear hK; clear Kv)))
    exact k2 _ _ _ (hT rfl) hk.below (Ints.nil _)
  | true =>
    have hds := hds rfl
    obtain ⟨hG, hv⟩ := hG rfl
    have hv7 := validS_len hv
    have eT2 := eT rfl
    clear eT
    rw [hds]
    obtain ⟨oad, n0, oc, rfl, hcp⟩ := hcap
    obtain ⟨ob, oo, rfl, c8, r8⟩ := hgi.headD (by omega)
    obtain ⟨oad2, oc2, hoe⟩ := hgi.isSlice
    cases hoe
    obtain ⟨x0, hx0⟩ : ∃ x0, gl.headD 0 = x0 := ⟨_, rfl⟩
    rw [hx0] at c8 r8 eT2
    repeat (any_goals (first
    | ((with_reducible refine local_desk' s ad s.bases.length c hk ?_); intro b7 W7 hk hb7 hg7)
    | (with_reducible ((refine idCond ?_); refine yM ?_))
    | ((with_reducible refine idO ?_); (with_reducible refine oM_gen fun Kv hK=>?_); simp [go_sem, hk.cells]; refine hK _ _ ?_; clear hK; clear Kv)))
    refine sliceFrom_at (by kernel_rfl) (sz := 1) (fun w => by kernel_rfl) 1 (by omega) (by omega) ?_
    have hti := (hgi.tail (by omega)).next hb7
    have c8 := fun w' hb => c8 w' (hb7.on hb)
    have htl : gl.tail.length = gl.length - 1 := List.length_tail
    have hat : ∀ (i : Nat) (y : Int), gl.tail[i]? = some y → (gl.tail.map fun n => overQ s n x0)[i]? = some (overQ s y x0) := fun i y h => by rw [List.getElem?_map, h]; rfl
    have hml : (gl.tail.map fun n => overQ s n x0).length = gl.tail.length := by simp
    have hrng : ∀ n ∈ (gl.tail.map fun n => overQ s n x0), I64 n := by
      intro n hn
      obtain ⟨m, _, rfl⟩ := List.mem_map.1 hn
      exact mulQ_I64 _ _ _ (by simp)
    generalize (gl.tail.map fun n => overQ s n x0) = tl at *
    generalize gl.tail = gt at *
    repeat (any_goals ((with_reducible refine idO ?_); (with_reducible refine oM_gen fun Kv hK=>?_); simp [go_sem]; refine hK _ _ ?_; clear hK; clear Kv))
    refine ⟨TrJ gt.length tl W7, vsMu gt.length, ⟨Below.refl _ _, _, _, 0, rfl, by omega, World.ownsRow_nil _ _ _ _⟩, ?_⟩
    have hk0 := hk
    rintro _ _ w5 ⟨h5, u1, o, i, rfl, hi, ho⟩
    have hk := hk0.next h5
    by_cases hin : i = gt.length
    · rw [List.take_of_length_le (by omega)] at ho
      repeat (any_goals (first
      | (with_reducible ((refine idCond ?_); refine yO ?_))
      | ((with_reducible refine idO ?_); (with_reducible refine oM_gen fun Kv hK=>?_); simp [go_sem]; refine hK _ _ ?_; clear hK; clear Kv)))
      exact k2 _ _ _ eT2 hk.below (ho.ints hrng (by omega))
    · obtain ⟨b1, o1, hbe, hb1, ca, ra, hnn⟩ := hti.at (i := i) (by omega)
      cases hbe
      repeat (any_goals (first
      | (with_reducible ((refine idCond ?_); refine yN ?_))
      | ((with_reducible refine idO ?_); (with_reducible refine oM_gen fun Kv hK=>?_); simp [go_sem, ca _ h5]; (first|refine hK _ _ ?_|refine And.intro (by omega) (hK _ _ ?_)); clear hK; clear Kv)))
      refine ⟨fun w' => Kn w _ w' ∧ Below W7.heap.size W7 w', ⟨hk.drew, h5.trans .drawn⟩, ?_⟩
      have h5 := h5.trans (Below.drawn (w := w5))
      have ho := ho.keep (Below.drawn (w := w5))
      have hk := hk.drew
      have hgl8 : 0 < gl.length := by omega
      repeat (any_goals (first
      | (with_reducible refine pureH_in ?_)
      | ((with_reducible refine idOH ?_); (with_reducible refine oH_of ⟨_, rfl⟩ (fun W0 hW0 => by (refine oM_gen (fun Kv hK => ?_)); simp [go_sem, hW0.1.cells, c8 _ hW0.2]; (first | exact hK _ _ ⟨rfl, rfl⟩ | exact ⟨by omega, hK _ _ ⟨rfl, rfl⟩⟩)) ?_))))
      refine over_ok s _ _ (hs.next hk.below) (fun w6 h6 => ?_)
      have hk := hk.next h6
      have ho := ho.keep h6
      have h5 := h5.on h6
      refine ⟨⟨hk, h5⟩, mk1 _ (mulQ_I64 _ _ _ (by simp)) (fun v7 w7 h7 hi7 => ?_)⟩
      have hk := hk.next h7
      have ho := ho.keep h7
      have h5 := h5.on h7
      refine ⟨⟨hk, h5⟩, append1 ho h5.size hi7 (by simp; omega) (fun v8 w8 ho8 h8 => ?_)⟩
      have h5 := h5.trans h8
      have hk := hk0.next h5
      refine ⟨⟨hk, h5⟩, ⟨hk, h5⟩, ?_⟩
      repeat (any_goals ((with_reducible refine idO ?_); (with_reducible refine oM_gen fun Kv hK=>?_); simp [go_sem]; (try simp (disch := omega) only [wrapI64, wrapU8, wrapU32, wrapU64]); refine hK _ _ ?_; clear hK; clear Kv))
      refine ⟨⟨h5, _, _, i + 1, rfl, by omega, ?_⟩, ?_⟩
      · have e2 : tl.take (i + 1) = tl.take i ++ [overQ s gt[i] x0] := by
          rw [List.take_add_one, hat i _ (List.getElem?_eq_getElem (by omega))]
          rfl
        rw [e2]
        exact ho8
      · simp only [vsMu_eq]; omega
end
end Go.Proofs
namespace Go.Proofs
open Go Go.Sh Go.RowKit FdSpec TkSpec
set_option linter.unusedSimpArgs false
set_option linter.unusedVariables false
set_option maxRecDepth 10000
section
variable {K : Value → World → Prop} {w w0 : World} {L : List (Addr × Value)}
theorem guiltyM_no {s : Stp} {t : Tkt} {a b : Spd} {l : List Int} (h : (gapsM s t a b).2 = false ∨ l.length + 1 ≠ (gapsM s t a b).1.length ∨ numsM s 0 l = false) : guiltyM s t a b l = false := by
  unfold guiltyM
  rw [if_neg]
  rcases h with h | h | h <;> simp [h]
def GuJ (ps : List (Int × Int)) (f : Int × Int → Bool) (R : Bool) (Wl : World) (vs : List Value) (w' : World) : Prop := Below Wl.heap.size Wl w' ∧ ∃ (v u o : Value) (i : Nat), vs = [v, u, o, .int .i64 (i : Int)] ∧ i ≤ ps.length ∧ (ps.drop i).all f = R
theorem Guilty_ok (s : Stp) (t : Tkt) (x y : Spd) {v xv yv lv : Value} {l : List Int} (ht : TktR t) (hs : SetR w s v) (hx : SpdR w x xv) (hy : SpdR w y yv) (hl : Ints w lv l)
    (k : ∀ w', Below w.heap.size w w' → K (.bool (guiltyM s t x y l)) w') : callM Tryz.prog 60 #[stpV s v, tktV t, spdV x xv, spdV y yv, lv] K w := by
  apply sh_60_ok
  unfold sh_60
  obtain ⟨ad, c, rfl⟩ := hs.ints.isSlice
  have hx0 := hx
  have hy0 := hy
  obtain ⟨xad, xc, rfl⟩ := hx.answers.isSlice
  obtain ⟨yad, yc, rfl⟩ := hy.answers.isSlice
  obtain ⟨lad, lc, rfl⟩ := hl.isSlice
  have hll := hl.len
  have k2 : ∀ w' r, guiltyM s t x y l = r → Below w.heap.size w w' → K (.bool r) w' := fun w' r e hb => by
    rw [← e]
    exact k w' hb
  clear k
  refine box_kn (cs := stpC s (.slice ad s.bases.length c)) rfl (.start w) fun b1 W hk hb1 hbb => ?_
  refine box_kn (cs := tktC t) rfl hk fun b2 W2 hk hb2 hbb => ?_
  refine box_kn (cs := spdC x (.slice xad x.answers.length xc)) rfl hk fun b3 W3 hk hb3 hbb => ?_
  refine box_kn (cs := spdC y (.slice yad y.answers.length yc)) rfl hk fun b4 W4 hk hb4 hbb => ?_
  clear hb1 hb2 hb3 hb4
  repeat (any_goals ((with_reducible refine idO ?_); (with_reducible refine oM_gen fun Kv hK=>?_); simp [go_sem, hk.cells]; refine hK _ _ ?_; clear hK; clear Kv))
  refine gaps_ok s t x y ht (hs.next hk.below) (hx0.next hk.below) (hy0.next hk.below) (fun w2 s' ad' n' c' ov h2 hgi hcap hds => ?_)
  have hk := hk.next h2
  have hN := guiltyM_no (s := s) (t := t) (a := x) (b := y) (l := l)
  have hG := gapsM_len (s := s) (t := t) (a := x) (b := y)
  have eT : (gapsM s t x y).2 = true → l.length + 1 = (gapsM s t x y).1.length → numsM s 0 l = true → guiltyM s t x y l = (l.zip (gapsM s t x y).1.tail).all fun p => decide (mulQ s p.1 [(gapsM s t x y).1.headD 0] = p.2) := fun h1 h2 h3 => by
    unfold guiltyM; rw [if_pos (by rw [h1, h3, decide_eq_true h2]; rfl)]
  obtain ⟨⟨gl, u⟩, hg⟩ : ∃ p, gapsM s t x y = p := ⟨_, rfl⟩
  rw [hg] at hN hG eT hgi hds ⊢
  simp only at hN hG eT hgi hds ⊢
  obtain ⟨oad0, oc0, rfl⟩ := hgi.isSlice
  have hgl := hgi.len
  cases u with
  | false =>
    repeat (any_goals (first
    | ((with_reducible refine local_desk' s' ad' n' c' hk ?_); intro b7 W7 hk hb7 hg7)
    | (with_reducible first|((refine idGd ?_); refine zD ?_)|((refine idPick ?_); refine yB ?_)|((refine idCond ?_); refine yL ?_))
    | ((with_reducible refine idO ?_); (with_reducible refine oM_gen fun Kv hK=>?_); simp [go_sem, hk.cells]; refine hK _ _ ?_; clear hK; clear Kv)))
    exact k2 _ _ (hN (.inl rfl)) hk.below
  | true =>
    have hds := hds rfl
    obtain ⟨hG, hv⟩ := hG rfl
    have hv7 := validS_len hv
    rw [hds]
    by_cases hlen : l.length + 1 = gl.length
    · repeat (any_goals (first
      | ((with_reducible refine local_desk' s ad s.bases.length c hk ?_); intro b7 W7 hk hb7 hg7)
      | (with_reducible first|refine pureM_in ?_|((refine idGd ?_); first|refine zC ?_|((refine idGdN ?_); refine zO ?_))|((refine idPick ?_); refine yC ?_))
      | ((with_reducible refine idO ?_); (with_reducible refine oM_gen fun Kv hK=>?_); simp [go_sem, hk.cells]; (try simp (disch := omega) only [wrapI64, wrapU8, wrapU32, wrapU64]); refine hK _ _ ?_; clear hK; clear Kv)))
      have hk0 := hk
      refine nums_ok s 0 (hs.next hk.below) (hl.next hk.below) (fun w3 h3 => ?_)
      have hk := hk.next h3
      cases hn : numsM s 0 l with
      | false =>
        repeat (any_goals (first
        | (with_reducible first|((refine idGd ?_); ((refine idGdN ?_); refine zO ?_))|((refine idPick ?_); refine yG ?_)|((refine idCond ?_); refine yL ?_))
        | ((with_reducible refine idO ?_); (with_reducible refine oM_gen fun Kv hK=>?_); simp [go_sem, hk.cells]; refine hK _ _ ?_; clear hK; clear Kv)))
        exact k2 _ _ (hN (.inr (.inr hn))) hk.below
      | true =>
        have eT2 := eT rfl hlen hn
        obtain ⟨x0, hx0⟩ : ∃ x0, gl.headD 0 = x0 := ⟨_, rfl⟩
        obtain ⟨ob, oo, rfl, c8, r8⟩ := hgi.headD (by omega)
        rw [hx0] at c8 r8 eT2
        have c8 := fun w' hb => c8 w' (hb7.on (h3.on hb))
        have hgi3 := (hgi.next hb7).next h3
        have hzl : (l.zip gl.tail).length = l.length := by simp; omega
        repeat (any_goals (first
        | (with_reducible first|((refine idGd ?_); ((refine idGdN ?_); refine zO ?_))|((refine idPick ?_); refine yG ?_)|((refine idCond ?_); refine yM ?_))
        | ((with_reducible refine idO ?_); (with_reducible refine oM_gen fun Kv hK=>?_); simp [go_sem, hk.cells]; refine hK _ _ ?_; clear hK; clear Kv)))
        refine ⟨GuJ (l.zip gl.tail) (fun p => decide (mulQ s p.1 [x0] = p.2)) _ w3, pdMu l.length, ⟨Below.refl _ _, _, _, _, 0, rfl, by omega, rfl⟩, ?_⟩
        have hk0 := hk
        rintro _ _ w5 ⟨h5, u1, u2, u3, i, rfl, hi, hall⟩
        rw [hzl] at hi
        have hk := hk0.next h5
        by_cases hin : i = l.length
        · rw [List.drop_of_length_le (by omega), List.all_nil] at hall
          repeat (any_goals (first
          | (with_reducible ((refine idCond ?_); refine yO ?_))
          | ((with_reducible refine idO ?_); (with_reducible refine oM_gen fun Kv hK=>?_); simp [go_sem]; refine hK _ _ ?_; clear hK; clear Kv)))
          exact k2 _ _ (eT2.trans hall.symm) hk.below
        · rw [zip_drop l gl.tail i (by omega) (by rw [List.length_tail]; omega), List.all_cons] at hall
          simp only [List.getElem_tail] at hall
          obtain ⟨b1, o1, rfl, hb1, ca, ra, _⟩ := hl.at (i := i) (by omega)
          obtain ⟨b2, o2, hbe, hb2, cb, rb, _⟩ := hgi3.at (i := i + 1) (by omega)
          cases hbe
          repeat (any_goals (first
          | (with_reducible ((refine idCond ?_); refine yN ?_))
          | ((with_reducible refine idO ?_); (with_reducible refine oM_gen fun Kv hK=>?_); simp [go_sem, ca _ hk.below, hk.cells]; (first|refine hK _ _ ?_|refine And.intro (by omega) (hK _ _ ?_)); clear hK; clear Kv)))
          refine ⟨fun w' => Kn w _ w' ∧ Below w3.heap.size w3 w', ⟨hk.drew, h5.trans .drawn⟩, ?_⟩
          have h5 := h5.trans (Below.drawn (w := w5))
          have hk := hk.drew
          have hgl8 : 0 < gl.length := by omega
          have e7 : IntKind.i64.wrap ((i : Int) + 1) = ((i + 1 : Nat) : Int) := by rw [wrapI64 _ (by omega) (by omega)]; omega
          repeat (any_goals (first
          | ((with_reducible refine mk1 x0 r8 ?_); intro v7 w7 h7 hi7)
          | (with_reducible refine pureH_in ?_)
          | ((with_reducible refine idOH ?_); (with_reducible refine oH_of ⟨_, rfl⟩ (fun W0 hW0 => by (refine oM_gen (fun Kv hK => ?_)); simp [go_sem, hW0.1.cells, c8 _ hW0.2, e7, cb _ hW0.2]; (first | exact hK _ _ ⟨rfl, rfl⟩ | exact ⟨by omega, hK _ _ ⟨rfl, rfl⟩⟩)) ?_))))
          have hk := hk.next h7
          have h5 := h5.on h7
          refine ⟨⟨hk, h5⟩, mul_ok s _ (hs.next hk.below) hi7 (fun w8 h8 => ?_)⟩
          have hk := hk.next h8
          have h5 := h5.on h8
          refine ⟨⟨hk, h5⟩, ?_⟩
          by_cases he : mulQ s l[i] [x0] = gl[i + 1]
          · repeat (any_goals ((with_reducible refine idO ?_); (with_reducible refine oM_gen fun Kv hK=>?_); simp [go_sem]; refine hK _ _ ?_; clear hK; clear Kv))
            refine ⟨⟨hk, h5⟩, ?_⟩
            repeat (any_goals (first
            | (with_reducible ((refine idCond ?_); refine yR ?_))
            | ((with_reducible refine idO ?_); (with_reducible refine oM_gen fun Kv hK=>?_); simp [go_sem, he]; (try simp (disch := omega) only [wrapI64, wrapU8, wrapU32, wrapU64]); refine hK _ _ ?_; clear hK; clear Kv)))
            rw [decide_eq_true he, Bool.true_and] at hall
            refine ⟨⟨h5, _, _, _, i + 1, rfl, by omega, hall⟩, ?_⟩
            simp only [pdMu_eq]; omega
          · repeat (any_goals ((with_reducible refine idO ?_); (with_reducible refine oM_gen fun Kv hK=>?_); simp [go_sem]; refine hK _ _ ?_; clear hK; clear Kv))
            refine ⟨⟨hk, h5⟩, ?_⟩
            repeat (any_goals (with_reducible ((refine idCond ?_); refine yQ ?_)))
            rw [decide_eq_false he, Bool.false_and] at hall
            exact k2 _ _ (eT2.trans hall.symm) hk.below
    · repeat (any_goals (first
      | ((with_reducible refine local_desk' s ad s.bases.length c hk ?_); intro b7 W7 hk hb7 hg7)
      | (with_reducible first|refine pureM_in ?_|((refine idGd ?_); first|refine zC ?_|((refine idGdN ?_); refine zP ?_))|((refine idPick ?_); first|refine yC ?_|refine yF ?_)|((refine idCond ?_); refine yL ?_))
      | ((with_reducible refine idO ?_); (with_reducible refine oM_gen fun Kv hK=>?_); simp [go_sem, hk.cells]; (try simp (disch := omega) only [wrapI64, wrapU8, wrapU32, wrapU64]); refine hK _ _ ?_; clear hK; clear Kv)))
      exact k2 _ _ (hN (.inr (.inl hlen))) hk.below
end
end Go.Proofs
namespace Go.Proofs
open Go Go.Sh Go.RowKit FdSpec TkSpec
set_option linter.unusedSimpArgs false
set_option linter.unusedVariables false
set_option maxRecDepth 10000
section
variable {K : Value → World → Prop} {w w0 w1 : World} {L : List (Addr × Value)}
theorem sz_spd (w : World) : (sizeOf 47).run Tryz.prog w = .ok 2 w := by kernel_rfl
theorem sz_ints (w : World) : (sizeOf 22).run Tryz.prog w = .ok 1 w := by kernel_rfl
theorem al_spd (w : World) : (Instr.alloc 47 true (.tuple #[])).run Tryz.prog w = .ok (.pointer (some ⟨w.heap.size, 0, none⟩)) (w.alloc (.cells [.int .i64 0, .slice none 0 0].toArray 47)) := by kernel_rfl
theorem spd_one (x : Spd) (ad : Option Addr) (n c : Nat) : ∀ u ∈ spdC x (.slice ad n c), u.oneCell' = true := by
  intro u hu
  simp only [spdC, List.mem_cons, List.not_mem_nil, or_false] at hu
  rcases hu with rfl | rfl <;> rfl
theorem store_spd {K : Value → World → Prop} {T' : TypeId} {g : Nat} (x : Spd) (ad : Option Addr) (m c : Nat) (hk : KnM w0 L g 2 w)
    (k : ∀ W, KnM w0 L g 2 W → cellsAre W (cellsOf [] g 0 (spdC x (.slice ad m c))) → w.grownBy W (some g) → K undef W) : oM Tryz.prog (.store 47 (.tmp 0) (.tmp 1)) T' [.pointer (some ⟨g, 0, none⟩), spdV x (.slice ad m c)] K w := by
  obtain ⟨W, e, hg, hm, hc⟩ := store_run (P := Tryz.prog) (W := w) sz_spd (x := spdV x (.slice ad m c)) rfl rfl (spd_one x ad m c) hk.mine
  rw [oM_store, e]
  exact k W ⟨hk.kn.wrote hg hk.base hk.off, hm, hk.base, hk.off⟩ hc hg
theorem store_row {P : Program} {T T0 : TypeId} {g o n : Nat} {cur : Array Value} {x : Value} {xs : List Value} (hT : ∀ w, (sizeOf T).run P w = .ok n w) (hx : x.cells = xs.toArray) (hl : xs.length = n) (h1 : ∀ u ∈ xs, u.oneCell' = true) (hg : w.heap[g]? = some (.cells cur T0 (0, 0))) (hfit : o + n ≤ cur.size) :
    (Instr.storeAt T (.pointer (some ⟨g, o, none⟩)) x).run P w = .ok () (w.setRow g (cur.toList.take o ++ xs ++ cur.toList.drop (o + xs.length)).toArray) := by
  have hst := run_storeCells_at P g o T0 xs 0 cur w hg (by omega) h1
  rw [Nat.add_zero] at hst
  unfold Instr.storeAt storeVar
  have e2 : x.cells.toList = xs := by rw [hx]
  have e3 : x.cells.size = n := by rw [hx]; simpa using hl
  rw [e2, e3]
  rw [List.append_assoc] at hst ⊢
  simp [hT, go_sem]
  exact hst
theorem local_spd {K : Value → World → Prop} {T' T2 : TypeId} {g n : Nat} (x : Spd) (hk : KnM w0 L g n w)
    (k : ∀ b W, KnM w0 L g n W → Below w.heap.size w W → w.heap.size ≤ b → W.heap[b]? = some (.cells #[.int .i64 x.dare, .slice none 0 0] 47 (0, 0)) → K (.pointer (some ⟨b, 0, none⟩)) W) :
    oM Tryz.prog (.alloc 47) T' [] (fun v w => oM Tryz.prog (.store 47 (.tmp 0) (.tmp 1)) T2 [v, spdV x (.slice none 0 0)] (fun _ w => K v w) w) w := by
  rw [oM_alloc, al_spd, rM_ok]
  have hb := (Below.refl w.heap.size w).alloc (Nat.le_refl _) (.cells [Value.int .i64 0, .slice none 0 0].toArray 47)
  have hg0 : (w.alloc (.cells [Value.int .i64 0, .slice none 0 0].toArray 47)).heap[w.heap.size]? = some (.cells [Value.int .i64 0, .slice none 0 0].toArray 47 (0, 0)) := Array.getElem?_push_size
  generalize w.alloc (.cells [Value.int .i64 0, .slice none 0 0].toArray 47) = W at *
  have hrun := store_row (P := Tryz.prog) (w := W) (o := 0) sz_spd (x := spdV x (.slice none 0 0)) rfl rfl (spd_one x none 0 0) hg0 (by simp)
  have e1 : ([Value.int .i64 0, .slice none 0 0].toArray.toList.take 0 ++ spdC x (.slice none 0 0) ++ [Value.int .i64 0, .slice none 0 0].toArray.toList.drop (0 + (spdC x (.slice none 0 0)).length)).toArray = #[.int .i64 x.dare, .slice none 0 0] := by simp
  rw [e1] at hrun
  have hh := setRow_heap W w.heap.size _ #[Value.int .i64 x.dare, .slice none 0 0] 47 (0, 0) hg0
  rw [oM_store, hrun]
  have hb2 : Below w.heap.size w (W.setRow w.heap.size #[Value.int .i64 x.dare, .slice none 0 0]) := hb.grown (grown_setRow _ _ _) hb.size (fun k hk => by cases hk; exact Nat.le_refl _)
  exact k _ _ (hk.next hb2) hb2 (Nat.le_refl _) hh
theorem store_second {K : Value → World → Prop} {T' : TypeId} {g : Nat} {ad : Option Addr} {m c : Nat} {a b : Value} (hg : w.heap[g]? = some (.cells #[a, b] 47 (0, 0)))
    (k : ∀ W, w.grownBy W (some g) → W.heap[g]? = some (.cells #[a, .slice ad m c] 47 (0, 0)) → K undef W) : oM Tryz.prog (.store 22 (.tmp 0) (.tmp 1)) T' [.pointer (some ⟨g, 1, none⟩), .slice ad m c] K w := by
  have hrun := store_row (P := Tryz.prog) (o := 1) sz_ints (x := .slice ad m c) rfl rfl (xs := [Value.slice ad m c]) (by intro u hu; simp at hu; subst hu; rfl) hg (by simp)
  have hh := setRow_heap w g _ #[a, .slice ad m c] 47 (0, 0) hg
  have e1 : (#[a, b].toList.take 1 ++ [Value.slice ad m c] ++ #[a, b].toList.drop (1 + [Value.slice ad m c].length)).toArray = #[a, .slice ad m c] := by simp
  rw [e1] at hrun
  rw [oM_store, hrun]
  exact k _ (grown_setRow _ _ _) hh
abbrev FrG (g : Nat) (w w' : World) : Prop := Fr (fun i => i = g) w w'
theorem FrG.next {g : Nat} {w' : World} (h : FrG g w w1) (hb : Below w1.heap.size w1 w') : FrG g w w' :=
  h.trans (S' := fun _ => False) ⟨hb.os, hb.tape, hb.output, hb.size, fun i hi _ => hb.block i hi⟩ (fun _ h => h.elim)
theorem FrG.below {g : Nat} {w' : World} (h0 : Below w.heap.size w w1) (h : FrG g w1 w') (hg : w.heap.size ≤ g) : Below w.heap.size w w' :=
  ⟨h.os.trans h0.os, h.tape.trans h0.tape, h.output.trans h0.output, Nat.le_trans h0.size h.size, fun i hi => (h.block i (Nat.lt_of_lt_of_le hi h0.size) (fun e => by omega)).trans (h0.block i hi)⟩
theorem cellsAre_fr {g : Nat} {w' : World} (hL : cellsAre w L) (h : FrG g w w') (hn : ∀ p ∈ L, p.1.block ≠ g) : cellsAre w' L :=
  cellsAre_keepBut hL hn fun a ha hna => World.cell?_of_block (w := w) (h.block _ ha hna)
theorem _root_.Go.Sh.KnM.fr {g n g' : Nat} {w' : World} (hk : KnM w0 L g n w) (h : FrG g' w w') (hoff : ∀ p ∈ L, p.1.block ≠ g') (hne : g ≠ g') (hb : w0.heap.size ≤ g') : KnM w0 L g n w' := by
  obtain ⟨cur, T, h1, h2⟩ := hk.mine
  exact ⟨⟨FrG.below hk.below h hb, cellsAre_fr hk.cells h hoff⟩, ⟨cur, T, by rw [h.block g (mine_lt hk.mine) hne]; exact h1, h2⟩, hk.base, hk.off⟩
theorem Ints.fr {g : Nat} {w' : World} {v : Value} {l : List Int} (hi : Ints w v l) (h : FrG g w w') (hne : ∀ i, Value.inBlock v = some i → i ≠ g) : Ints w' v l :=
  ⟨hi.row.keep h.size (fun i e hlt => h.block i hlt (hne i e)), hi.rng, hi.len⟩
def UsC (St : World → Prop) (j : Nat) (w' : World) : Prop := j ≤ 4 → St w'
theorem usGet {St : World → Prop} {n : Nat} {w' : World} (h : upto (UsC St) n w') (hn : n ≤ 4) : St w' := by
  obtain ⟨s, hs, hc⟩ := h
  exact hc (Nat.le_trans hs hn)
end
end Go.Proofs
namespace Go.Proofs
open Go Go.Sh Go.RowKit FdSpec TkSpec
set_option linter.unusedSimpArgs false
set_option linter.unusedVariables false
set_option maxRecDepth 10000
section
variable {K : Value → World → Prop} {w w0 w1 : World} {L : List (Addr × Value)}
def ansL (s : Stp) (l : List Int) (b : Bld) (dare : Int) : List Int := ((expsM l).zip b.ys).map fun p => plusQ s p.2 (mulQ s dare [b.s, p.1])
theorem useM_no {s : Stp} {l : List Int} {b : Bld} {dare : Int} (h : (usableM s l).2 = false ∨ blindsM s b = false ∨ numsM s 1 [dare] = false) : useM s l b dare = (⟨0, []⟩, false) := by
  unfold useM
  rw [if_neg]
  rcases h with h | h | h <;> simp [h]
theorem useM_yes {s : Stp} {l : List Int} {b : Bld} {dare : Int} (h1 : (usableM s l).2 = true) (h2 : blindsM s b = true) (h3 : numsM s 1 [dare] = true) : useM s l b dare = (⟨dare, ansL s l b dare⟩, true) := by
  unfold useM
  rw [if_pos (by rw [h1, h2, h3]; rfl)]
  rfl
theorem usable_len {s : Stp} {l : List Int} (h : (usableM s l).2 = true) : l.length + 1 = s.bases.length ∧ validS s = true := by
  unfold usableM at h
  simp only [Bool.and_eq_true] at h
  have h := h.1
  unfold markM at h
  split at h
  · rename_i hc
    simp only [Bool.and_eq_true, decide_eq_true_eq] at hc
    exact ⟨hc.1.1.2, hc.1.1.1⟩
  · cases h
theorem blinds_len {s : Stp} {b : Bld} (h : blindsM s b = true) : b.ys.length = s.bases.length := by
  unfold blindsM at h
  simp only [Bool.and_eq_true, decide_eq_true_eq] at h
  exact h.1.2
def UsJ (al : List Int) (dare : Int) (g13 : Nat) (Wl : World) (vs : List Value) (w' : World) : Prop := FrG g13 Wl w' ∧ ∃ (v u ov : Value) (i : Nat), vs = [v, u, .int .i64 (i : Int)] ∧ i ≤ al.length ∧ OwnI w' Wl.heap.size ov (al.take i) ∧ w'.heap[g13]? = some (.cells #[.int .i64 dare, ov] 47 (0, 0))
theorem Use_ok (s : Stp) (b : Bld) (dare : Int) {v bv lv : Value} {l : List Int} (hd : I64 dare) (hs : SetR w s v) (hl : Ints w lv l) (hb : BldR w b bv)
    (k : ∀ w' ov, Below w.heap.size w w' → Ints w' ov (useM s l b dare).1.answers → K (.tuple #[spdV (useM s l b dare).1 ov, .bool (useM s l b dare).2]) w') : callM Tryz.prog 13 #[stpV s v, lv, bldV b bv, .int .i64 dare] K w := by
  apply sh_13_ok
  unfold sh_13
  obtain ⟨ad, c, rfl⟩ := hs.ints.isSlice
  have hys := hb.ys
  have hb0 := hb
  obtain ⟨yad, yc, rfl⟩ := hb.ys.isSlice
  have k2 : ∀ w' ov r, useM s l b dare = r → Below w.heap.size w w' → Ints w' ov r.1.answers → K (.tuple #[spdV r.1 ov, .bool r.2]) w' := fun w' ov r e hb hi => by
    rw [← e] at hi ⊢
    exact k w' ov hb hi
  clear k
  refine box_kn (cs := stpC s (.slice ad s.bases.length c)) rfl (.start w) fun b1 W hk hb1 hbb => ?_
  refine box_kn (cs := bldC b (.slice yad b.ys.length yc)) rfl hk fun b2 W2 hk hb2 hbb => ?_
  refine alloc_mine (n := 2) al_spd rfl hk fun g W2 hk hb2 hg => ?_
  clear hb1 hb2
  repeat (any_goals ((with_reducible refine idO ?_); (with_reducible refine oM_gen fun Kv hK=>?_); simp [go_sem, hk.cells]; refine hK _ _ ?_; clear hK; clear Kv))
  refine usable_ok s (hs.next hk.below) (hl.next hk.below) (fun w2 h2 => ?_)
  have hk := hk.next h2
  clear h2
  have hno := useM_no (s := s) (l := l) (b := b) (dare := dare)
  cases hu : (usableM s l).2 with
  | false =>
    repeat (any_goals (first
    | ((with_reducible refine local_desk s ad s.bases.length c hk ?_); intro b7 W7 hk hb7 hg7)
    | (with_reducible first|((refine idGd ?_); refine zD ?_)|((refine idPick ?_); refine yB ?_)|((refine idCond ?_); refine yL ?_))
    | ((with_reducible refine idO ?_); (with_reducible refine oM_gen fun Kv hK=>?_); simp [go_sem, hk.cells]; refine hK _ _ ?_; clear hK; clear Kv)))
    exact store_spd ⟨0, []⟩ none 0 0 hk (fun W3 hk hc _ => ⟨_, by simp [go_sem, hc], k2 _ _ _ (hno (.inl hu)) hk.below (Ints.nil _)⟩)
  | true =>
    obtain ⟨hll, hv⟩ := usable_len hu
    have hv7 := validS_len hv
    repeat (any_goals (first
    | ((with_reducible refine local_desk s ad s.bases.length c hk ?_); intro b7 W7 hk hb7 hg7)
    | (with_reducible ((refine idGd ?_); refine zC ?_))
    | ((with_reducible refine idO ?_); (with_reducible refine oM_gen fun Kv hK=>?_); simp [go_sem, hk.cells]; refine hK _ _ ?_; clear hK; clear Kv)))
    refine blinds_ok s b (hs.next hk.below) (hb0.next hk.below) (fun w3 h3 => ?_)
    have hk := hk.next h3
    cases hbl : blindsM s b with
    | false =>
      repeat (any_goals (first
      | (with_reducible first|((refine idGd ?_); first|refine zC ?_|refine zD ?_)|((refine idPick ?_); first|refine yB ?_|refine yC ?_)|((refine idCond ?_); refine yL ?_))
      | ((with_reducible refine idO ?_); (with_reducible refine oM_gen fun Kv hK=>?_); simp [go_sem, hk.cells]; refine hK _ _ ?_; clear hK; clear Kv)))
      exact store_spd ⟨0, []⟩ none 0 0 hk (fun W3 hk hc _ => ⟨_, by simp [go_sem, hc], k2 _ _ _ (hno (.inr (.inl hbl))) hk.below (Ints.nil _)⟩)
    | true =>
      have hyl := blinds_len hbl
      repeat (any_goals (first
      | ((with_reducible refine mk1 dare hd ?_); intro v8 W8 hb8 hi)
      | (with_reducible first|refine pureM_in ?_|((refine idGd ?_); refine zC ?_)|((refine idPick ?_); refine yC ?_))
      | ((with_reducible refine idO ?_); (with_reducible refine oM_gen fun Kv hK=>?_); simp [go_sem, hk.cells]; refine hK _ _ ?_; clear hK; clear Kv)))
      have hk := hk.next hb8
      refine nums_ok s 1 (hs.next hk.below) hi (fun w4 h4 => ?_)
      have hk := hk.next h4
      cases hn : numsM s 1 [dare] with
      | false =>
        repeat (any_goals (first
        | (with_reducible first|((refine idGd ?_); refine zC ?_)|((refine idPick ?_); refine yC ?_)|((refine idCond ?_); refine yL ?_))
        | ((with_reducible refine idO ?_); (with_reducible refine oM_gen fun Kv hK=>?_); simp [go_sem, hk.cells]; refine hK _ _ ?_; clear hK; clear Kv)))
        exact store_spd ⟨0, []⟩ none 0 0 hk (fun W3 hk hc _ => ⟨_, by simp [go_sem, hc], k2 _ _ _ (hno (.inr (.inr hn))) hk.below (Ints.nil _)⟩)
      | true =>
        have ey := useM_yes hu hbl hn
        have hgW : g < w4.heap.size := mine_lt hk.mine
        have hoffL := cells_lt hk.cells
        repeat (any_goals (first
        | ((with_reducible refine local_spd ⟨dare, []⟩ hk ?_); intro g13 W9 hk hb9 hg13 hh13)
        | (with_reducible first|((refine idGd ?_); refine zC ?_)|((refine idPick ?_); refine yC ?_)|((refine idCond ?_); refine yM ?_))
        | ((with_reducible refine idO ?_); (with_reducible refine oM_gen fun Kv hK=>?_); simp [go_sem, hk.cells]; refine hK _ _ ?_; clear hK; clear Kv)))
        refine exps_ok (hl.next hk.below) (by omega) (by omega) (fun ev w5 he h5 hff => ?_)
        have hg13W := (Array.getElem?_eq_some_iff.1 hh13).1
        have hh13 : w5.heap[g13]? = some (.cells #[.int .i64 dare, .slice none 0 0] 47 (0, 0)) := by rw [h5.block g13 hg13W]; exact hh13
        have hk := hk.next h5
        have hel : (expsM l).length = l.length + 1 := rfl
        have hal : (ansL s l b dare).length = l.length + 1 := by simp [ansL, hel]; omega
        have hat : ∀ (i : Nat) (h1 : i < (expsM l).length) (h2 : i < b.ys.length), (ansL s l b dare)[i]? = some (plusQ s b.ys[i] (mulQ s dare [b.s, (expsM l)[i]])) := fun i h1 h2 => by
          simp [ansL, h1, h2, List.getElem?_zip_eq_some]
          exact ⟨_, _, ⟨rfl, rfl⟩, rfl⟩
        have hrng : ∀ n ∈ ansL s l b dare, I64 n := by
          intro n hn
          obtain ⟨m, _, rfl⟩ := List.mem_map.1 hn
          exact addM_I64 _ _ _
        generalize ansL s l b dare = al at *
        obtain ⟨ead, ec, rfl⟩ := he.isSlice
        have hs5 := h5.size
        have hs9 := hb9.size
        have hing : ∀ i, Value.inBlock (.slice ead (expsM l).length ec) = some i → i ≠ g13 := fun i hi => by
          have := hff i hi
          omega
        repeat (any_goals ((with_reducible refine idO ?_); (with_reducible refine oM_gen fun Kv hK=>?_); simp [go_sem]; refine hK _ _ ?_; clear hK; clear Kv))
        refine ⟨UsJ al dare g13 w5, vsMu (expsM l).length, ⟨Fr.refl _ _, _, _, .slice none 0 0, 0, rfl, by omega, World.ownsRow_nil _ _ _ _, hh13⟩, ?_⟩
        have hk0 := hk
        have hgne : g ≠ g13 := by omega
        have hoff13 : ∀ p ∈ cellsOf (cellsOf (cellsOf [] b1 0 (stpC s (.slice ad s.bases.length c))) b2 0 (bldC b (.slice yad b.ys.length yc))) b7 0 (stpC s (.slice ad s.bases.length c)), p.1.block ≠ g13 := fun p hp => by have := hoffL p hp; omega
        have hw13 : w.heap.size ≤ g13 := Nat.le_trans hk0.base (by omega)
        rintro _ _ w6 ⟨h6, u1, u2, ov, i, rfl, hi, ho, hh⟩
        have hk := hk0.fr h6 hoff13 hgne hw13
        by_cases hin : i = (expsM l).length
        · rw [List.take_of_length_le (by omega)] at ho
          have hints := ho.ints hrng (by omega)
          obtain ⟨g', cap, cur, rfl, hlt, hB, _, _, _, hcell⟩ := owns_cells ho (by omega)
          have c0 : w6.cell? ⟨g13, 0, none⟩ = some (.int .i64 dare) := by rw [cell_of_block hh]; rfl
          have c1 : w6.cell? ⟨g13, 1, none⟩ = some (.slice (some ⟨g', 0, none⟩) al.length cap) := by rw [cell_of_block hh]; rfl
          repeat (any_goals (first
          | (with_reducible ((refine idCond ?_); refine yO ?_))
          | ((with_reducible refine idO ?_); (with_reducible refine oM_gen fun Kv hK=>?_); simp [go_sem, c0, c1]; refine hK _ _ ?_; clear hK; clear Kv)))
          refine store_spd ⟨dare, al⟩ _ _ _ hk (fun W3 hk hc hgr => ⟨_, by simp [go_sem, hc], k2 _ _ _ ey hk.below ⟨hints.row.keep hgr.size (fun i hi hlt => hgr.block i hlt ?_), hrng, by show al.length ≤ _; omega⟩⟩)
          cases hi
          intro e
          have e2 : g' = g := Option.some.inj e
          omega
        · have hev := Ints.fr he h6 hing
          have hed := FrG.below hk0.below h6 hw13
          obtain ⟨b8, o8, rfl, hb8', ca, ra, _⟩ := hev.at (i := i) (by omega)
          obtain ⟨b9, o9, rfl, hb9', cb, rb, _⟩ := hys.at (i := i) (by omega)
          have c1 : ∀ w', Below w6.heap.size w6 w' → w'.heap[g13]? = some (.cells #[.int .i64 dare, ov] 47 (0, 0)) := fun w' hw => by rw [hw.block g13 (Array.getElem?_eq_some_iff.1 hh).1]; exact hh
          repeat (any_goals (first
          | (with_reducible ((refine idCond ?_); refine yN ?_))
          | ((with_reducible refine idO ?_); (with_reducible refine oM_gen fun Kv hK=>?_); simp [go_sem, ca _ (Below.refl _ _)]; (first|refine hK _ _ ?_|refine And.intro (by omega) (hK _ _ ?_)); clear hK; clear Kv)))
          refine ⟨UsC (fun w' => KnM w _ g 2 w' ∧ Below w.heap.size w w' ∧ w'.cell? ⟨g13, 1, none⟩ = some ov), fun _ => ⟨hk.drew, hk.drew.below, by rw [cell_of_block (c1 _ .drawn)]; rfl⟩, ?_⟩
          have hk := hk.drew
          have ho := ho.keep (Below.drawn (w := w6))
          have h7 : Below w6.heap.size w6 { w6 with drawn := w6.drawn + 1 } := .drawn
          have hfr := FrG.next h6 h7
          have hh1 := c1 _ h7
          repeat (any_goals (first
          | ((with_reducible refine mk2 b.s _ hb.s ra ?_); intro v10 w10 h10 hi10)
          | (with_reducible refine pureH_in ?_)
          | ((with_reducible refine idOH ?_); (with_reducible refine oH_of ⟨_, rfl⟩ (fun W0 hW0 => by (refine oM_gen (fun Kv hK => ?_)); simp [go_sem, (usGet hW0 (by omega)).1.cells, (usGet hW0 (by omega)).2.2, cb _ (usGet hW0 (by omega)).2.1]; (first | exact hK _ _ ⟨rfl, rfl⟩ | exact ⟨by omega, hK _ _ ⟨rfl, rfl⟩⟩)) ?_))))
          have hk := hk.next h10
          have hh1 : w10.heap[g13]? = _ := (h10.block g13 (Array.getElem?_eq_some_iff.1 hh1).1).trans hh1
          have ho := ho.keep h10
          have hfr := hfr.next h10
          refine ⟨fun _ => ⟨hk, hk.below, by rw [cell_of_block hh1]; rfl⟩, mul_ok s _ (hs.next hk.below) hi10 (fun w11 h11 => ?_)⟩
          have hk := hk.next h11
          have hh1 : w11.heap[g13]? = _ := (h11.block g13 (Array.getElem?_eq_some_iff.1 hh1).1).trans hh1
          have ho := ho.keep h11
          have hfr := hfr.next h11
          refine ⟨fun _ => ⟨hk, hk.below, by rw [cell_of_block hh1]; rfl⟩, plus_ok s _ _ (hs.next hk.below) (fun w12 h12 => ?_)⟩
          have hk := hk.next h12
          have hh1 : w12.heap[g13]? = _ := (h12.block g13 (Array.getElem?_eq_some_iff.1 hh1).1).trans hh1
          have ho := ho.keep h12
          have hfr := hfr.next h12
          refine ⟨fun _ => ⟨hk, hk.below, by rw [cell_of_block hh1]; rfl⟩, mk1 _ (addM_I64 _ _ _) (fun v13 w13 h13 hi13 => ?_)⟩
          have hk := hk.next h13
          have hh1 : w13.heap[g13]? = _ := (h13.block g13 (Array.getElem?_eq_some_iff.1 hh1).1).trans hh1
          have ho := ho.keep h13
          have hfr := hfr.next h13
          refine ⟨fun _ => ⟨hk, hk.below, by rw [cell_of_block hh1]; rfl⟩, append1 ho hfr.size hi13 (by simp; omega) (fun v14 w14 ho h14 => ?_)⟩
          have hg5 : g13 < w5.heap.size := by omega
          have hh1 : w14.heap[g13]? = _ := (h14.block g13 hg5).trans hh1
          have hfr : FrG g13 w5 w14 := hfr.trans (S' := fun i => w5.heap.size ≤ i) ⟨h14.os, h14.tape, h14.output, h14.size, fun i hi hn => h14.block i (by omega)⟩ (fun i h => .inr h)
          refine ⟨fun h => absurd h (by omega), ?_⟩
          have hli : ((al.take i) ++ [plusQ s b.ys[i] (mulQ s dare [b.s, (expsM l)[i]])]) = al.take (i + 1) := by
            rw [List.take_add_one, hat i (by omega) (by omega)]
            rfl
          rw [hli] at ho
          obtain ⟨oad, oc, hov⟩ := owns_len ho
          subst hov
          repeat (any_goals ((with_reducible refine idO ?_); (with_reducible refine oM_gen fun Kv hK=>?_); simp [go_sem]; refine hK _ _ ?_; clear hK; clear Kv))
          refine ⟨fun h => absurd h (by omega), store_second hh1 (fun w15 hgr hh2 => ⟨fun h => absurd h (by omega), ?_⟩)⟩
          have hfr : FrG g13 w5 w15 := hfr.by hgr (fun i e => .inl (Option.some.inj e).symm)
          have ho : OwnI w15 w5.heap.size _ _ := owns_keep ho (fun j hj => hgr.block j (owns_own ho hj).1 (fun e => by have := (owns_own ho hj).2.1; have := Option.some.inj e; omega))
          repeat (any_goals ((with_reducible refine idO ?_); (with_reducible refine oM_gen fun Kv hK=>?_); simp [go_sem]; (try simp (disch := omega) only [wrapI64, wrapU8, wrapU32, wrapU64]); refine hK _ _ ?_; clear hK; clear Kv))
          refine ⟨⟨hfr, _, _, _, i + 1, rfl, by omega, ho, hh2⟩, ?_⟩
          simp only [vsMu_eq]; omega
end
end Go.Proofs
set_option linter.unusedVariables false
set_option maxRecDepth 100000
namespace Go.Proofs
open Go.Sh
def sh_46 (a0 : Value) (K : Value → World → Prop) (w : World) : Prop :=
 oM Tryz.prog (.box 43 (.tmp 0)) 0 [a0] (fun v1_1 w =>
 oM Tryz.prog (.fieldAddr 43 (.tmp 0) 0) 0 [v1_1] (fun v3_2 w =>
 oM Tryz.prog (.load 3 (.tmp 0)) 3 [v3_2] (fun v4_3 w =>
 oM Tryz.prog (.fieldAddr 43 (.tmp 0) 1) 0 [v1_1] (fun v5_4 w =>
 oM Tryz.prog (.load 3 (.tmp 0)) 3 [v5_4] (fun v6_5 w =>
 oM Tryz.prog (.fieldAddr 43 (.tmp 0) 2) 0 [v1_1] (fun v7_6 w =>
 oM Tryz.prog (.load 3 (.tmp 0)) 3 [v7_6] (fun v8_7 w =>
 oM Tryz.prog (.fieldAddr 43 (.tmp 0) 3) 0 [v1_1] (fun v9_8 w =>
 oM Tryz.prog (.load 3 (.tmp 0)) 3 [v9_8] (fun v10_9 w =>
 oM Tryz.prog (.fieldAddr 43 (.tmp 0) 4) 0 [v1_1] (fun v11_10 w =>
 oM Tryz.prog (.load 3 (.tmp 0)) 3 [v11_10] (fun v12_11 w =>
 oM Tryz.prog (.fieldAddr 43 (.tmp 0) 5) 0 [v1_1] (fun v13_12 w =>
 oM Tryz.prog (.load 3 (.tmp 0)) 3 [v13_12] (fun v14_13 w =>
 oM Tryz.prog (.buildSlice 22 6 #[(0, (.tmp 0)), (1, (.tmp 1)), (2, (.tmp 2)), (3, (.tmp 3)), (4, (.tmp 4)), (5, (.tmp 5))]) 22 [v4_3, v6_5, v8_7, v10_9, v12_11, v14_13] (fun v15_14 w =>
 callM Tryz.prog 119 #[v15_14] (fun v16_15 w =>
 K v16_15 w) w) w) w) w) w) w) w) w) w) w) w) w) w) w) w
theorem sh_46_eq (a0 : Value) (K : Value → World → Prop) (w : World) : sh_46 a0 K w = code Tryz.prog (fun _ => 2) 17 (Tryz.f46.body.getD .skip) (slotsAt [a0]) (retK Tryz.prog [.tmp 2] K) w := by kernel_rfl
theorem sh_46_ok {a0 : Value} {K : Value → World → Prop} {w : World} (h : sh_46 a0 K w) : callM Tryz.prog 46 #[a0] K w :=
  calls_of_code (fun _ => 2) (fn := Tryz.f46) (rs := [.tmp 2]) Tryz.func46 rfl rfl (by kernel_rfl) (Nat.le_of_ble_eq_true rfl) ((sh_46_eq a0 K w).mp h)
end Go.Proofs
set_option linter.unusedVariables false
set_option maxRecDepth 100000
namespace Go.Proofs
open Go.Sh
def sh_116 (a0 : Value) (K : Value → World → Prop) (w : World) : Prop :=
 oM Tryz.prog (.build 180 #[(0, (.tmp 0))]) 180 [a0] (fun v4_1 w =>
 oM Tryz.prog (.box 180 (.tmp 0)) 150 [v4_1] (fun v5_2 w =>
 K v5_2 w) w) w
theorem sh_116_eq (a0 : Value) (K : Value → World → Prop) (w : World) : sh_116 a0 K w = code Tryz.prog (fun _ => 0) 6 (Tryz.f116.body.getD .skip) (slotsAt [a0]) (retK Tryz.prog [.tmp 2] K) w := by kernel_rfl
theorem sh_116_ok {a0 : Value} {K : Value → World → Prop} {w : World} (h : sh_116 a0 K w) : callM Tryz.prog 116 #[a0] K w :=
  calls_of_code (fun _ => 0) (fn := Tryz.f116) (rs := [.tmp 2]) Tryz.func116 rfl rfl (by kernel_rfl) (Nat.le_of_ble_eq_true rfl) ((sh_116_eq a0 K w).mp h)
def sh_119 (a0 : Value) (K : Value → World → Prop) (w : World) : Prop :=
 callM Tryz.prog 163 #[a0, (.func (.func 164) #[] #[])] (fun v4_1 w =>
 K v4_1 w) w
theorem sh_119_eq (a0 : Value) (K : Value → World → Prop) (w : World) : sh_119 a0 K w = code Tryz.prog (fun _ => 0) 5 (Tryz.f119.body.getD .skip) (slotsAt [a0]) (retK Tryz.prog [.tmp 2] K) w := by kernel_rfl
theorem sh_119_ok {a0 : Value} {K : Value → World → Prop} {w : World} (h : sh_119 a0 K w) : callM Tryz.prog 119 #[a0] K w :=
  calls_of_code (fun _ => 0) (fn := Tryz.f119) (rs := [.tmp 2]) Tryz.func119 rfl rfl (by kernel_rfl) (Nat.le_of_ble_eq_true rfl) ((sh_119_eq a0 K w).mp h)
def sh_163 (a0 : Value) (a1 : Value) (K : Value → World → Prop) (w : World) : Prop :=
 oM Tryz.prog (.alloc 199) 0 [] (fun v5_1 w =>
 oM Tryz.prog (.call (Go.Call.mk (.builtin .len) #[(.tmp 0)] #[22])) 3 [a0] (fun v9_2 w =>
 callM Tryz.prog 172 #[v9_2] (fun v10_3 w =>
 oM Tryz.prog (.binOp .add 9 (.tmp 0) (.tmp 1) 9) 9 [v10_3, (.string ⟨#[91]⟩)] (fun v11_4 w =>
 callM Tryz.prog 191 #[v5_1, v11_4] (fun v12_5 w =>
 oM Tryz.prog (.call (Go.Call.mk (.builtin .len) #[(.tmp 0)] #[22])) 3 [a0] (fun v14_6 w =>
 loopM [undef, (.int .i64 0)] w (fun J_7 m_8 l_9 u_l_9 w0_l_9 => (fun w => (
 oM Tryz.prog (.binOp .lss 3 (.tmp 0) (.tmp 1) 3) 0 [(l_9.getD 1 undef), v14_6] (fun v16_10 w =>
 condM v16_10
 (oM Tryz.prog (.indexAddr 22 (.tmp 0) (.tmp 1)) 0 [a0, (l_9.getD 1 undef)] (fun v17_11 w =>
 oM Tryz.prog (.load 3 (.tmp 0)) 3 [v17_11] (fun v18_12 w =>
 oM Tryz.prog (.call (Go.Call.mk (.value (.tmp 0)) #[(.tmp 1)] #[3])) 9 [a1, v18_12] (fun v21_13 w =>
 callM Tryz.prog 191 #[v5_1, v21_13] (fun v22_14 w =>
 oM Tryz.prog (.binOp .add 3 (.tmp 0) (.tmp 1) 3) 3 [(l_9.getD 1 undef), (.int .i64 1)] (fun v23_15 w =>
 J_7 [v18_12, v23_15] w ∧ m_8 [v18_12, v23_15] w < m_8 l_9 w0_l_9) w) w) w) w) w)
 (callM Tryz.prog 192 #[v5_1] (fun v24_16 w =>
 oM Tryz.prog (.binOp .add 9 (.tmp 0) (.tmp 1) 9) 9 [v24_16, (.string ⟨#[93]⟩)] (fun v25_17 w =>
 K v25_17 w) w) w)) w)) w0_l_9)) w) w) w) w) w) w
theorem sh_163_eq (a0 : Value) (a1 : Value) (K : Value → World → Prop) (w : World) : sh_163 a0 a1 K w = code Tryz.prog (fun _ => 0) 26 (Tryz.f163.body.getD .skip) (slotsAt [a0, a1]) (retK Tryz.prog [.tmp 4] K) w := by kernel_rfl
theorem sh_163_ok {a0 a1 : Value} {K : Value → World → Prop} {w : World} (h : sh_163 a0 a1 K w) : callM Tryz.prog 163 #[a0, a1] K w :=
  calls_of_code (fun _ => 0) (fn := Tryz.f163) (rs := [.tmp 4]) Tryz.func163 rfl rfl (by kernel_rfl) (Nat.le_of_ble_eq_true rfl) ((sh_163_eq a0 a1 K w).mp h)
def sh_164 (a0 : Value) (K : Value → World → Prop) (w : World) : Prop :=
 callM Tryz.prog 172 #[a0] (fun v4_1 w =>
 oM Tryz.prog (.binOp .add 9 (.tmp 0) (.tmp 1) 9) 9 [v4_1, (.string ⟨#[59]⟩)] (fun v5_2 w =>
 K v5_2 w) w) w
theorem sh_164_eq (a0 : Value) (K : Value → World → Prop) (w : World) : sh_164 a0 K w = code Tryz.prog (fun _ => 0) 6 (Tryz.f164.body.getD .skip) (slotsAt [a0]) (retK Tryz.prog [.tmp 2] K) w := by kernel_rfl
theorem sh_164_ok {a0 : Value} {K : Value → World → Prop} {w : World} (h : sh_164 a0 K w) : callM Tryz.prog 164 #[a0] K w :=
  calls_of_code (fun _ => 0) (fn := Tryz.f164) (rs := [.tmp 2]) Tryz.func164 rfl rfl (by kernel_rfl) (Nat.le_of_ble_eq_true rfl) ((sh_164_eq a0 K w).mp h)
def sh_189 (a0 : Value) (a1 : Value) (a2 : Value) (K : Value → World → Prop) (w : World) : Prop :=
 quietM w (fun C_1 => (oQ Tryz.prog (.nilCheck (.tmp 0)) 0 [a0] C_1 (fun v12_2 =>
 oQ Tryz.prog (.fieldAddr 180 (.tmp 0) 0) 0 [v12_2] C_1 (fun v13_3 =>
 oQ Tryz.prog (.load 9 (.tmp 0)) 9 [v13_3] C_1 (fun v14_4 =>
 oQ Tryz.prog (.nilCheck (.tmp 0)) 0 [a0] C_1 (fun v16_5 =>
 oQ Tryz.prog (.fieldAddr 180 (.tmp 0) 0) 0 [v16_5] C_1 (fun v17_6 =>
 oQ Tryz.prog (.load 9 (.tmp 0)) 9 [v17_6] C_1 (fun v18_7 =>
 oQ Tryz.prog (.call (Go.Call.mk (.builtin .len) #[(.tmp 0)] #[9])) 3 [v18_7] C_1 (fun v19_8 =>
 oQ Tryz.prog (.call (Go.Call.mk (.builtin .min) #[(.tmp 0), (.tmp 1)] #[3, 3])) 3 [v19_8, (.int .i64 21)] C_1 (fun v20_9 =>
 oQ Tryz.prog (.slice 9 (.tmp 0) none (some (.tmp 1)) none) 9 [v14_4, v20_9] C_1 (fun v21_10 =>
 ∀ w, C_1 w → (callM Tryz.prog 209 #[v21_10, a1] (fun v24_11 w =>
 oM Tryz.prog (.binOp .lss 3 (.tmp 0) (.tmp 1) 3) 4 [v24_11, (.int .i64 0)] (fun v26_12 w =>
 condM v26_12
 (callM Tryz.prog 210 #[a0] (fun v28_13 w =>
 K (.int .i64 0) w) w)
 (oM Tryz.prog (.slice 9 (.tmp 0) none (some (.tmp 1)) none) 9 [v21_10, v24_11] (fun v32_14 w =>
 callM Tryz.prog 211 #[v32_14] (fun v33_15 w =>
 oM Tryz.prog (.extract (.tmp 0) 0) 3 [v33_15] (fun v34_16 w =>
 oM Tryz.prog (.extract (.tmp 0) 1) 201 [v33_15] (fun v35_17 w =>
 quietM w (fun C_18 => (oQ Tryz.prog (.binOp .neq 201 (.tmp 0) (.const .nilIface) 201) 4 [v35_17] C_18 (fun v37_19 =>
 gdQ (gd v37_19 false) (pureQ v34_16) C_18 (fun v39_20 =>
 gdQ (gd v37_19 false) (callQ Tryz.prog 172 #[v39_20]) C_18 (fun v40_21 =>
 gdQ (gd v37_19 false) (pureQ v21_10) C_18 (fun v41_22 =>
 gdQ (gd v37_19 false) (pureQ v24_11) C_18 (fun v42_23 =>
 gdQ (gd v37_19 false) (oQ Tryz.prog (.slice 9 (.tmp 0) none (some (.tmp 1)) none) 9 [v41_22, v42_23]) C_18 (fun v43_24 =>
 gdQ (gd v37_19 false) (oQ Tryz.prog (.binOp .neq 9 (.tmp 0) (.tmp 1) 9) 4 [v40_21, v43_24]) C_18 (fun v44_25 =>
 oQ Tryz.prog (.pick (.tmp 0) (.tmp 1) (.tmp 2)) 4 [v37_19, (.bool true), v44_25] C_18 (fun v45_26 =>
 gdQ (gd v45_26 false) (pureQ v34_16) C_18 (fun v47_27 =>
 gdQ (gd v45_26 false) (pureQ a2) C_18 (fun v48_28 =>
 gdQ (gd v45_26 false) (oQ Tryz.prog (.binOp .lss 3 (.tmp 0) (.tmp 1) 3) 4 [v47_27, v48_28]) C_18 (fun v49_29 =>
 oQ Tryz.prog (.pick (.tmp 0) (.tmp 1) (.tmp 2)) 4 [v45_26, (.bool true), v49_29] C_18 (fun v50_30 =>
 ∀ w, C_18 w → (condM v50_30
 (callM Tryz.prog 210 #[a0] (fun v52_31 w =>
 K (.int .i64 0) w) w)
 (oM Tryz.prog (.nilCheck (.tmp 0)) 0 [a0] (fun v55_32 w =>
 oM Tryz.prog (.fieldAddr 180 (.tmp 0) 0) 0 [v55_32] (fun v56_33 w =>
 oM Tryz.prog (.load 9 (.tmp 0)) 9 [v56_33] (fun v57_34 w =>
 oM Tryz.prog (.binOp .add 3 (.tmp 0) (.tmp 1) 3) 3 [v24_11, (.int .i64 1)] (fun v59_35 w =>
 oM Tryz.prog (.slice 9 (.tmp 0) (some (.tmp 1)) none none) 9 [v57_34, v59_35] (fun v60_36 w =>
 oM Tryz.prog (.nilCheck (.tmp 0)) 0 [a0] (fun v61_37 w =>
 oM Tryz.prog (.fieldAddr 180 (.tmp 0) 0) 0 [v61_37] (fun v62_38 w =>
 oM Tryz.prog (.store 9 (.tmp 0) (.tmp 1)) 0 [v62_38, v60_36] (fun _ w =>
 K v34_16 w) w) w) w) w) w) w) w) w))))))))))))))))) w) w) w) w)) w) w))))))))))))
theorem sh_189_eq (a0 : Value) (a1 : Value) (a2 : Value) (K : Value → World → Prop) (w : World) : sh_189 a0 a1 a2 K w = code Tryz.prog (fun _ => 0) 64 (Tryz.f189.body.getD .skip) (slotsAt [a0, a1, a2]) (retK Tryz.prog [.tmp 6] K) w := by kernel_rfl
theorem sh_189_ok {a0 a1 a2 : Value} {K : Value → World → Prop} {w : World} (h : sh_189 a0 a1 a2 K w) : callM Tryz.prog 189 #[a0, a1, a2] K w :=
  calls_of_code (fun _ => 0) (fn := Tryz.f189) (rs := [.tmp 6]) Tryz.func189 rfl rfl (by kernel_rfl) (Nat.le_of_ble_eq_true rfl) ((sh_189_eq a0 a1 a2 K w).mp h)
def sh_191 (a0 : Value) (a1 : Value) (K : Value → World → Prop) (w : World) : Prop :=
 callM Tryz.prog 213 #[a0] (fun v7_1 w =>
 oM Tryz.prog (.nilCheck (.tmp 0)) 0 [a0] (fun v10_2 w =>
 oM Tryz.prog (.fieldAddr 199 (.tmp 0) 1) 0 [v10_2] (fun v11_3 w =>
 oM Tryz.prog (.load 189 (.tmp 0)) 189 [v11_3] (fun v12_4 w =>
 oM Tryz.prog (.call (Go.Call.mk (.builtin .append) #[(.tmp 0), (.tmp 1)] #[189, 9])) 189 [v12_4, a1] (fun v14_5 w =>
 oM Tryz.prog (.nilCheck (.tmp 0)) 0 [a0] (fun v15_6 w =>
 oM Tryz.prog (.fieldAddr 199 (.tmp 0) 1) 0 [v15_6] (fun v16_7 w =>
 oM Tryz.prog (.store 189 (.tmp 0) (.tmp 1)) 0 [v16_7, v14_5] (fun _ w =>
 oM Tryz.prog (.call (Go.Call.mk (.builtin .len) #[(.tmp 0)] #[9])) 3 [a1] (fun v18_8 w =>
 K (.tuple #[v18_8, .nilIface]) w) w) w) w) w) w) w) w) w) w
theorem sh_191_eq (a0 : Value) (a1 : Value) (K : Value → World → Prop) (w : World) : sh_191 a0 a1 K w = code Tryz.prog (fun _ => 0) 19 (Tryz.f191.body.getD .skip) (slotsAt [a0, a1]) (retK Tryz.prog [.tmp 4, .tmp 5] K) w := by kernel_rfl
theorem sh_191_ok {a0 a1 : Value} {K : Value → World → Prop} {w : World} (h : sh_191 a0 a1 K w) : callM Tryz.prog 191 #[a0, a1] K w :=
  calls_of_code (fun _ => 0) (fn := Tryz.f191) (rs := [.tmp 4, .tmp 5]) Tryz.func191 rfl rfl (by kernel_rfl) (Nat.le_of_ble_eq_true rfl) ((sh_191_eq a0 a1 K w).mp h)
def sh_210 (a0 : Value) (K : Value → World → Prop) (w : World) : Prop :=
 oM Tryz.prog (.nilCheck (.tmp 0)) 0 [a0] (fun v4_1 w =>
 oM Tryz.prog (.fieldAddr 180 (.tmp 0) 0) 0 [v4_1] (fun v5_2 w =>
 oM Tryz.prog (.store 9 (.tmp 0) (.tmp 1)) 0 [v5_2, (.string ⟨#[]⟩)] (fun _ w =>
 oM Tryz.prog (.nilCheck (.tmp 0)) 0 [a0] (fun v6_3 w =>
 oM Tryz.prog (.fieldAddr 180 (.tmp 0) 1) 0 [v6_3] (fun v7_4 w =>
 oM Tryz.prog (.store 4 (.tmp 0) (.tmp 1)) 0 [v7_4, (.bool true)] (fun _ w =>
 K (.tuple #[]) w) w) w) w) w) w) w
theorem sh_210_eq (a0 : Value) (K : Value → World → Prop) (w : World) : sh_210 a0 K w = code Tryz.prog (fun _ => 0) 8 (Tryz.f210.body.getD .skip) (slotsAt [a0]) (retK Tryz.prog [] K) w := by kernel_rfl
theorem sh_210_ok {a0 : Value} {K : Value → World → Prop} {w : World} (h : sh_210 a0 K w) : callM Tryz.prog 210 #[a0] K w :=
  calls_of_code (fun _ => 0) (fn := Tryz.f210) (rs := []) Tryz.func210 rfl rfl (by kernel_rfl) (Nat.le_of_ble_eq_true rfl) ((sh_210_eq a0 K w).mp h)
def sh_213 (a0 : Value) (K : Value → World → Prop) (w : World) : Prop :=
 oM Tryz.prog (.nilCheck (.tmp 0)) 0 [a0] (fun v3_1 w =>
 oM Tryz.prog (.fieldAddr 199 (.tmp 0) 0) 0 [v3_1] (fun v4_2 w =>
 oM Tryz.prog (.load 197 (.tmp 0)) 197 [v4_2] (fun v5_3 w =>
 oM Tryz.prog (.binOp .eql 197 (.tmp 0) (.const (.pointer none)) 197) 4 [v5_3] (fun v6_4 w =>
 condM v6_4
 (oM Tryz.prog (.convert 197 232 (.tmp 0)) 232 [a0] (fun v9_5 w =>
 extM Tryz.prog 229 #[v9_5] (fun v10_6 w =>
 oM Tryz.prog (.convert 232 197 (.tmp 0)) 197 [v10_6] (fun v11_7 w =>
 oM Tryz.prog (.nilCheck (.tmp 0)) 0 [a0] (fun v12_8 w =>
 oM Tryz.prog (.fieldAddr 199 (.tmp 0) 0) 0 [v12_8] (fun v13_9 w =>
 oM Tryz.prog (.store 197 (.tmp 0) (.tmp 1)) 0 [v13_9, v11_7] (fun _ w =>
 K (.tuple #[]) w) w) w) w) w) w) w)
 (oM Tryz.prog (.nilCheck (.tmp 0)) 0 [a0] (fun v15_10 w =>
 oM Tryz.prog (.fieldAddr 199 (.tmp 0) 0) 0 [v15_10] (fun v16_11 w =>
 oM Tryz.prog (.load 197 (.tmp 0)) 197 [v16_11] (fun v17_12 w =>
 oM Tryz.prog (.binOp .neq 197 (.tmp 0) (.tmp 1) 197) 4 [v17_12, a0] (fun v19_13 w =>
 condM v19_13
 (False)
 (K (.tuple #[]) w)) w) w) w) w)) w) w) w) w
theorem sh_213_eq (a0 : Value) (K : Value → World → Prop) (w : World) : sh_213 a0 K w = code Tryz.prog (fun _ => 0) 20 (Tryz.f213.body.getD .skip) (slotsAt [a0]) (retK Tryz.prog [] K) w := by kernel_rfl
theorem sh_213_ok {a0 : Value} {K : Value → World → Prop} {w : World} (h : sh_213 a0 K w) : callM Tryz.prog 213 #[a0] K w :=
  calls_of_code (fun _ => 0) (fn := Tryz.f213) (rs := []) Tryz.func213 rfl rfl (by kernel_rfl) (Nat.le_of_ble_eq_true rfl) ((sh_213_eq a0 K w).mp h)
end Go.Proofs
