/- Parts of the proof of the seat's statements (FqB, FqC, HiSpec, HiExp, HiLaw, HiDot, HiCore, FqD, FqE, FqF, FqG, FqI, FqJ, FqK, CoSpec, CoLaw, CoLaw2, CoLaw3, FqL, FqM): lemmas about the given translation and plain laws. No condition of their own. -/
import Derived.Test.YtpimhdkjpccihaaGreatDoorCod
set_option linter.all false
namespace Go.Proofs
open Go Go.Sh Go.RowKit FdSpec TkSpec CodeSpec
set_option linter.unusedSimpArgs false
set_option linter.unusedVariables false
set_option maxRecDepth 10000
section
variable {K : Value → World → Prop} {w w0 : World} {L : List (Addr × Value)}
theorem mkI0 {T : TypeId} (k : ∀ ad c W, Below w.heap.size w W → OwnI W w.heap.size (.slice ad 0 c) [] → K (.slice ad 0 c) W) : oM Tryz.prog (.buildSlice 22 0 #[]) T [] K w := by
  rw [oM_buildSlice0]
  have e : (Instr.buildSlice 22 0 #[]).run Tryz.prog w = .ok (.slice (some ⟨w.heap.size, 0, none⟩) 0 0) (w.alloc (.cells #[] 3)) := by kernel_rfl
  rw [e]
  exact k _ _ _ ((Below.refl _ w).alloc (Nat.le_refl _) _) ⟨rfl, .inr ⟨w.heap.size, 0, #[], rfl, Nat.le_refl _, heap_alloc_new w _, Nat.le_refl _, by decide, rfl, rfl⟩⟩
def answersM (s : Stp) (l : List Int) (n : Int) (x : Spd) : List Int := ((expsM l).zip x.answers).map fun p => subM s.g.Q p.2 (mulM s.g.Q (mulM s.g.Q x.dare n) p.1)
theorem answersM_len (s : Stp) (l : List Int) (n : Int) (x : Spd) : (answersM s l n x).length = min (l.length + 1) x.answers.length := by
  unfold answersM
  rw [List.length_map, List.length_zip]
  rfl
theorem answersM_at {s : Stp} {l : List Int} {n : Int} {x : Spd} (i : Nat) (h1 : i < (expsM l).length) (h2 : i < x.answers.length) : (answersM s l n x)[i]? = some (subM s.g.Q x.answers[i] (mulM s.g.Q (mulM s.g.Q x.dare n) (expsM l)[i])) := by
  simp [answersM, h1, h2, List.getElem?_zip_eq_some]
  exact ⟨_, _, ⟨rfl, rfl⟩, rfl⟩
theorem answersM_rng {s : Stp} {l : List Int} {n : Int} {x : Spd} : ∀ m ∈ answersM s l n x, I64 m := by
  intro m hm
  obtain ⟨p, _, rfl⟩ := List.mem_map.1 hm
  exact subM_I64 _ _ _
def AnJ (al : List Int) (w0 : World) (vs : List Value) (w' : World) : Prop := ∃ (ov : Value) (i : Nat), vs = [ov, .int .i64 (i : Int)] ∧ i ≤ al.length ∧ Below w0.heap.size w0 w' ∧ OwnI w' w0.heap.size ov (al.take i)
theorem answers_ok (s : Stp) (n : Int) (x : Spd) {v xv lv : Value} {l : List Int} (hs : SetR w s v) (hl : Ints w lv l) (hx : SpdR w x xv) (hln : l.length < 1000)
    (k : ∀ w' ov, Below w.heap.size w w' → Ints w' ov (answersM s l n x) → K ov w') : callM Tryz.prog 35 #[stpV s v, lv, .int .i64 n, spdV x xv] K w := by
  apply sh_35_ok
  unfold sh_35
  obtain ⟨ad, c, rfl⟩ := hs.ints.isSlice
  have hxa := hx.answers
  obtain ⟨xad, xc, rfl⟩ := hx.answers.isSlice
  refine box_kn (cs := stpC s (.slice ad s.bases.length c)) rfl (.start w) fun b1 W hk hb1 hbb => ?_
  refine box_kn (cs := spdC x (.slice xad x.answers.length xc)) rfl hk fun b2 W2 hk hb2 hbb => ?_
  clear hb1 hb2
  refine Exps_ok (hl.next hk.below) (by omega) (fun ev w3 h3 he => ?_)
  have hk := hk.next h3
  clear h3
  obtain ⟨ead, ec, rfl⟩ := he.isSlice
  have hel : (expsM l).length = l.length + 1 := rfl
  have hal := answersM_len s l n x
  have hat := answersM_at (s := s) (l := l) (n := n) (x := x)
  have hrng := answersM_rng (s := s) (l := l) (n := n) (x := x)
  generalize answersM s l n x = al at *
  refine mkI0 fun oad oc w4 h4 ho => ?_
  refine ⟨AnJ al w3, grMu al.length, ⟨_, 0, rfl, by omega, h4, ho⟩, ?_⟩
  clear h4 ho
  rintro _ _ w6 ⟨ov, i, rfl, hi, h6, ho⟩
  have hk := hk.next h6
  by_cases hin : i = al.length
  · rw [List.take_of_length_le (by omega)] at ho
    have k := k _ _ hk.below (ho.ints hrng (by omega))
    by_cases h1 : (i : Int) < (expsM l).length
    · have h2 : ¬ ((i : Int) < x.answers.length) := by omega
      repeat (any_goals (first
      | (with_reducible first|refine pureM_in ?_|((refine idGd ?_); refine zA ?_)|((refine idPick ?_); refine yB ?_)|((refine idCond ?_); refine yM ?_))
      | ((with_reducible refine idO ?_); (with_reducible refine oM_gen fun Kv hK=>?_); simp [go_sem, hk.cells, h1, h2]; refine hK _ _ ?_; clear hK; clear Kv)))
      exact k
    · repeat (any_goals (first
      | (with_reducible first|((refine idGd ?_); refine zB ?_)|((refine idPick ?_); refine yC ?_)|((refine idCond ?_); refine yM ?_))
      | ((with_reducible refine idO ?_); (with_reducible refine oM_gen fun Kv hK=>?_); simp [go_sem, hk.cells, h1]; refine hK _ _ ?_; clear hK; clear Kv)))
      exact k
  · have h1 : (i : Int) < (expsM l).length := by omega
    have h2 : (i : Int) < x.answers.length := by omega
    obtain ⟨b8, o8, rfl, hb8, ca, ra, _⟩ := he.at (i := i) (by omega)
    obtain ⟨b9, o9, rfl, hb9, cb, rb, _⟩ := hxa.at (i := i) (by omega)
    have htk := take_snoc' (hat i (by omega) (by omega))
    generalize (expsM l)[i] = e at *
    generalize x.answers[i] = a at *
    repeat (any_goals (first
    | (with_reducible first|refine pureM_in ?_|((refine idGd ?_); refine zA ?_)|((refine idPick ?_); refine yB ?_)|((refine idCond ?_); refine yL ?_))
    | ((with_reducible refine idO ?_); (with_reducible refine oM_gen fun Kv hK=>?_); simp [go_sem, hk.cells, h1, h2]; refine hK _ _ ?_; clear hK; clear Kv)))
    have hk := hk.drew
    have h6 := h6.on (.drawn (B := w6.heap.size))
    have ho := OwnI.keep ho (Below.drawn (w := w6))
    refine ⟨Nx { w6 with drawn := w6.drawn + 1 }, Below.refl _ _, rfl, ?_⟩
    generalize ({ w6 with drawn := w6.drawn + 1 } : World) = W6 at hk h6 ho ⊢
    repeat (any_goals (first
    | (with_reducible refine pureH_in ?_)
    | ((with_reducible refine idOH ?_); (with_reducible refine oH_of ⟨_, rfl⟩ (fun W0 hW0 => by (refine oM_gen (fun Kv hK => ?_)); simp [go_sem, (hk.next hW0).cells, cb _ (hk.next hW0).below, ca _ (h6.on hW0)]; (first | exact hK _ _ ⟨rfl, rfl⟩ | exact ⟨by omega, hK _ _ ⟨rfl, rfl⟩⟩)) ?_))))
    refine ⟨Nx, ?_⟩
    apply monoE
    · intro w1 h1
      exact Mul_ok _ _ _ (fun w2 h2 => ⟨h1.on h2, h2, rfl⟩)
    apply monoE
    · rintro w1 h1 _ rfl
      exact Mul_ok _ _ _ (fun w2 h2 => ⟨h1.on h2, h2, rfl⟩)
    apply monoE
    · rintro w1 h1 _ rfl
      exact Sub_ok _ _ _ ⟨h1, Below.refl _ _, rfl⟩
    refine monoR (fun v w' => Ints w' v [subM s.g.Q a (mulM s.g.Q (mulM s.g.Q x.dare n) e)]) (fun v w w1 hS h => h.next hS) ?_ ?_
    · rintro w1 h1 _ rfl
      exact mk1 _ (subM_I64 _ _ _) (fun v w2 h2 hi => ⟨h1.on h2, h2, hi⟩)
    rintro w9 h9 _ rfl _ rfl _ rfl v9 hi9
    refine append1 (ho.keep h9) (h6.on h9).size hi9 (by rw [List.length_take]; omega) (fun v10 w10 ho h10 => ?_)
    repeat (any_goals ((with_reducible refine idO ?_); (with_reducible refine oM_gen fun Kv hK=>?_); simp [go_sem]; (try simp (disch := omega) only [wrapI64, wrapU8, wrapU32, wrapU64]); refine hK _ _ ?_; clear hK; clear Kv))
    rw [htk] at ho
    refine ⟨⟨_, i + 1, rfl, by omega, (h6.on h9).trans h10, ho⟩, ?_⟩
    simp only [grMu_eq]; omega
end
end Go.Proofs
namespace Go.Proofs
open Go Go.Sh Go.RowKit FdSpec TkSpec CodeSpec
set_option linter.unusedSimpArgs false
set_option linter.unusedVariables false
set_option maxRecDepth 10000
section
variable {K : Value → World → Prop} {w w0 : World} {L : List (Addr × Value)}
theorem local_stpM {K : Value → World → Prop} {T' T2 : TypeId} {g n : Nat} (s : Stp) (ad : Option Addr) (m c : Nat) (hk : KnM w0 L g n w)
    (k : ∀ b W, KnM w0 (cellsOf L b 0 (stpC s (.slice ad m c))) g n W → Below w.heap.size w W → w.heap.size ≤ b → K (.pointer (some ⟨b, 0, none⟩)) W) :
    oM Tryz.prog (.alloc 35) T' [] (fun v w => oM Tryz.prog (.store 35 (.tmp 0) (.tmp 1)) T2 [v, stpV s (.slice ad m c)] (fun _ w => K v w) w) w :=
  local_knm al_stp rfl sz_stp rfl rfl (stp_one s ad m c) hk k
def madeM (c : Cas) : Stp × Bool := if (makeG c.q).2 then makeM (makeG c.q).1 c.m else (zS, false)
theorem makeG_R {q : Int} (hq : I64 q) : GrpR (makeG q).1 := by
  have hz : GrpR ⟨0, 0, 0⟩ := ⟨by constructor <;> decide, by constructor <;> decide, by constructor <;> decide⟩
  unfold makeG
  split
  · exact hz
  · rename_i h
    split
    · exact ⟨by unfold I64; dsimp only; omega, hq, by unfold I64; dsimp only; omega⟩
    · exact hz
theorem made_ok (c : Cas) {mv av yv : Value} (hT : DbT w) (hc : CasR w c mv av yv) (k : ∀ w' sv, Below w.heap.size w w' → SetR w' (madeM c).1 sv → (∀ i, Value.inBlock sv = some i → w.heap.size ≤ i) → K (.tuple #[stpV (madeM c).1 sv, .bool (madeM c).2]) w') : callM Tryz.prog 100 #[casV c mv av yv] K w := by
  apply sh_100_ok
  unfold sh_100
  have hm := hc.m
  obtain ⟨mad, mc, rfl⟩ := hc.m.ints.isSlice
  obtain ⟨aad, ac, rfl⟩ := hc.attrs.isSlice
  obtain ⟨yad, yc, rfl⟩ := hc.b.ys.isSlice
  have k2 : ∀ w' sv r, madeM c = r → Below w.heap.size w w' → SetR w' r.1 sv → (∀ i, Value.inBlock sv = some i → w.heap.size ≤ i) → K (.tuple #[stpV r.1 sv, .bool r.2]) w' := fun w' sv r e hb hi hf => by
    rw [← e] at hi ⊢
    exact k w' sv hb hi hf
  clear k
  refine box_kn (cs := casC c (.slice mad c.m.bases.length mc) (.slice aad c.attrs.length ac) (.slice yad c.b.ys.length yc)) rfl (.start w) fun b1 W hk hb1 hbb => ?_
  refine alloc_mine (n := 5) al_stp rfl hk fun g0 W3 hk hb3 hg0 => ?_
  clear hb1 hb3
  have eM : madeM c = if (makeG c.q).2 then makeM (makeG c.q).1 c.m else (zS, false) := rfl
  have hgr := makeG_R hc.q
  repeat (any_goals ((with_reducible refine idO ?_); (with_reducible refine oM_gen fun Kv hK=>?_); simp [go_sem, hk.cells]; refine hK _ _ ?_; clear hK; clear Kv))
  refine fMake_ok c.q hc.q (hT.next hk.below) (fun w2 h2 => ?_)
  have hk := hk.next h2
  clear h2
  generalize (makeG c.q).1 = g at *
  generalize (makeG c.q).2 = ok at *
  iterate 2 (any_goals ((with_reducible refine idO ?_); (with_reducible refine oM_gen fun Kv hK=>?_); simp [go_sem]; refine hK _ _ ?_; clear hK; clear Kv))
  refine local_grpM g hk (fun b7 W7 hk hb7 hg7 => ?_)
  clear hb7
  cases ok with
  | false =>
    rw [if_neg (by decide)] at eM
    repeat (any_goals (first
    | (with_reducible ((refine idCond ?_); refine yL ?_))
    | ((with_reducible refine idO ?_); (with_reducible refine oM_gen fun Kv hK=>?_); simp [go_sem, hk.cells]; refine hK _ _ ?_; clear hK; clear Kv)))
    exact store_stp zS none 0 0 hk (fun W3 hk hc _ => ⟨_, by simp [go_sem, hc], k2 _ _ _ eM hk.below (zS_R (hT.next hk.below) (Ints.nil _)) (fun i h => by cases h)⟩)
  | true =>
  rw [if_pos rfl] at eM
  repeat (any_goals (first
  | (with_reducible ((refine idCond ?_); refine yM ?_))
  | ((with_reducible refine idO ?_); (with_reducible refine oM_gen fun Kv hK=>?_); simp [go_sem, hk.cells]; refine hK _ _ ?_; clear hK; clear Kv)))
  refine Make_ok g c.m hgr (hT.next hk.below) (hm.next hk.below) (fun w4 sv h4 hr hf => ?_)
  have hgl := mine_lt hk.mine
  have hkb := hk.below.size
  have hk := hk.next h4
  clear h4
  obtain ⟨sad, sc, rfl⟩ := hr.ints.isSlice
  have eM : madeM c = ((makeM g c.m).1, (makeM g c.m).2) := eM
  generalize (makeM g c.m).1 = t at *
  generalize (makeM g c.m).2 = q at *
  iterate 2 (any_goals ((with_reducible refine idO ?_); (with_reducible refine oM_gen fun Kv hK=>?_); simp [go_sem]; refine hK _ _ ?_; clear hK; clear Kv))
  refine local_stpM t sad t.bases.length sc hk (fun b8 W8 hk hb8 hg8 => ?_)
  have hr := hr.next hb8
  repeat (any_goals ((with_reducible refine idO ?_); (with_reducible refine oM_gen fun Kv hK=>?_); simp [go_sem, hk.cells]; refine hK _ _ ?_; clear hK; clear Kv))
  refine store_stp t sad t.bases.length sc hk (fun W3 hk hc hg3 => ⟨stpV t (.slice sad t.bases.length sc), by simp [go_sem, hc], k2 W3 (.slice sad t.bases.length sc) _ eM hk.below ⟨hr.grp, ⟨hr.ints.row.keep hg3.size (fun i hi hlt => hg3.block i hlt ?_), hr.ints.rng, hr.ints.len⟩, hr.blind, hT.next hk.below⟩ (fun i hi => Nat.le_trans hkb (hf i hi))⟩)
  have := hf i hi
  intro e
  have e2 : i = g0 := Option.some.inj e
  omega
end
end Go.Proofs
namespace TkSpec
open FdSpec
def grp (n : Nat) : Grp := ⟨2 * n + 1, n, 4⟩
def ordL : List Nat := [5, 11, 23, 29, 41, 53, 83, 89, 113, 131, 173, 179, 191]
theorem ord_of : ∀ n, n < 201 → validG (grp n) = true → n ∈ ordL := by decide +kernel
def powsL (n : Nat) : List Int := (List.range n).map fun k => pw (2 * n + 1) 4 k
theorem pows_nodup : ∀ n ∈ ordL, (powsL n).Nodup := by decide +kernel
theorem ord_inv : ∀ n ∈ ordL, ∀ a, a < n → 0 < a → ∃ b, b < n ∧ 0 < b ∧ a * b % n = 1 := by decide +kernel
end TkSpec
namespace TkSpec
open FdSpec
theorem pw_mul (n a : Int) (b c : Nat) : pw n a b * pw n a c % n = pw n a (b + c) := by
  unfold pw
  rw [← Int.mul_emod, ← Int.pow_add]
theorem pw_pw (n a : Int) (b c : Nat) : pw n (pw n a b) c = pw n a (b * c) := by
  have h := pw_emod n (a ^ b) c
  rw [show (a ^ b) % n = pw n a b from rfl] at h
  rw [h]
  unfold pw
  rw [Int.pow_mul]
theorem pw_mod {n a : Int} {q : Nat} (hn : 1 < n) (h : pw n a q = 1) (k : Nat) : pw n a k = pw n a (k % q) := by
  have h1 : pw n a (q * (k / q)) = 1 := by
    rw [← pw_pw, h]
    unfold pw
    rw [Int.one_pow]
    exact Int.emod_eq_of_lt (by omega) hn
  have h2 := pw_mul n a (q * (k / q)) (k % q)
  rw [h1, Int.one_mul, Nat.div_add_mod] at h2
  rw [← h2]
  unfold pw
  rw [Int.emod_emod]
def E (n : Nat) (k : Int) : Int := pw (2 * n + 1) 4 (k % n).toNat
structure Ok (n : Nat) : Prop where
  five : 5 ≤ n
  le : n ≤ 200
  one : pw (2 * n + 1) 4 n = 1
theorem E_nat {n : Nat} (h : Ok n) (k : Nat) : E n k = pw (2 * n + 1) 4 k := by
  unfold E
  rw [pw_mod (by have := h.five; omega) h.one k]
  congr 1
theorem E_add {n : Nat} (h : Ok n) (a b : Int) : E n a * E n b % (2 * n + 1) = E n (a + b) := by
  have h5 := h.five
  have e : E n (a + b) = E n (((a % n).toNat + (b % n).toNat : Nat) : Int) := by
    unfold E
    congr 2
    have h1 := Int.emod_nonneg a (b := n) (by omega)
    have h2 := Int.emod_nonneg b (b := n) (by omega)
    rw [Int.natCast_add, Int.toNat_of_nonneg h1, Int.toNat_of_nonneg h2, ← Int.add_emod]
  rw [e, E_nat h, ← pw_mul]
  rfl
theorem E_pow {n : Nat} (h : Ok n) (a k : Int) : pw (2 * n + 1) (E n a) (k % n).toNat = E n (a * k) := by
  have h5 := h.five
  have e : E n (a * k) = E n (((a % n).toNat * (k % n).toNat : Nat) : Int) := by
    unfold E
    congr 2
    have h1 := Int.emod_nonneg a (b := n) (by omega)
    have h2 := Int.emod_nonneg k (b := n) (by omega)
    rw [Int.natCast_mul, Int.toNat_of_nonneg h1, Int.toNat_of_nonneg h2, ← Int.mul_emod]
  rw [e, E_nat h]
  unfold E
  rw [pw_pw]
theorem E_cong {n : Nat} {a b : Int} (h : a % n = b % n) : E n a = E n b := by
  unfold E; rw [h]
end TkSpec
namespace TkSpec
open FdSpec
theorem Ok.q {n : Nat} (h : Ok n) : okN (n : Int) := by have := h.five; have := h.le; unfold okN; omega
theorem Ok.p {n : Nat} (h : Ok n) : okN (2 * (n : Int) + 1) := by have := h.five; have := h.le; unfold okN; omega
theorem powerG_E {n : Nat} (h : Ok n) (a k : Int) : powerG (grp n) (E n a) k = E n (a * k) := by
  unfold powerG
  rw [if_pos ⟨h.p, h.q⟩]
  exact E_pow h a k
theorem powerG_4 {n : Nat} (h : Ok n) (k : Int) : powerG (grp n) 4 k = E n k := by
  unfold powerG
  rw [if_pos ⟨h.p, h.q⟩]
  rfl
theorem timesG_E {n : Nat} (h : Ok n) (a b : Int) : timesG (grp n) (E n a) (E n b) = E n (a + b) := by
  unfold timesG
  rw [if_pos (show okN (grp n).Q from h.q)]
  unfold mulM
  rw [if_pos (show okN (grp n).P from h.p)]
  exact E_add h a b
def dot : List Int → List Int → Int
  | a :: l, b :: m => a * b + dot l m
  | _, _ => 0
theorem prodL_E {n : Nat} (h : Ok n) : ∀ (ns es : List Int) (o : Int), prodL (grp n) (E n o) ((ns.map (E n)).zip es) = E n (o + dot ns es)
  | [], es, o => by simp [prodL, dot]
  | a :: ns, [], o => by simp [prodL, dot]
  | a :: ns, e :: es, o => by
    simp only [List.map_cons, List.zip_cons_cons, prodL]
    have h1 : mulM (grp n).P (E n o) (powerG (grp n) (E n a) e) = E n (o + a * e) := by
      rw [powerG_E h]
      unfold mulM
      rw [if_pos (show okN (grp n).P from h.p)]
      exact E_add h o (a * e)
    rw [h1, prodL_E h ns es]
    simp only [dot]
    congr 1
    omega
theorem E_zero {n : Nat} (h : Ok n) : E n 0 = 1 := by
  have h5 := h.five
  unfold E
  rw [Int.zero_emod]
  unfold pw
  rw [Int.toNat_zero, Int.pow_zero]
  exact Int.emod_eq_of_lt (by omega) (by omega)
theorem prodG_E {n : Nat} (h : Ok n) (ns es : List Int) (hl : ns.length = es.length) : prodG (grp n) (ns.map (E n)) es = (E n (dot ns es), true) := by
  unfold prodG
  rw [if_pos ⟨h.p, h.q, by rw [List.length_map]; exact hl⟩]
  have h5 := h.five
  have e : (1 : Int) % (grp n).P = E n 0 := by
    rw [E_zero h]
    exact Int.emod_eq_of_lt (by decide) (show (1 : Int) < 2 * n + 1 by omega)
  rw [e, prodL_E h, Int.zero_add]
theorem ord_one : ∀ n ∈ ordL, pw (2 * n + 1) 4 n = 1 := by decide +kernel
theorem ord_rng : ∀ n ∈ ordL, 5 ≤ n ∧ n ≤ 200 := by decide
theorem ok_of {n : Nat} (h : n ∈ ordL) : Ok n := ⟨(ord_rng n h).1, (ord_rng n h).2, ord_one n h⟩
theorem E_inj {n : Nat} (hn : n ∈ ordL) {a b : Int} (h : E n a = E n b) : a % n = b % n := by
  have h5 := (ok_of hn).five
  have h1 := Int.emod_nonneg a (b := n) (by omega)
  have h2 := Int.emod_nonneg b (b := n) (by omega)
  have h3 := Int.emod_lt_of_pos a (b := n) (by omega)
  have h4 := Int.emod_lt_of_pos b (b := n) (by omega)
  have hnd := pows_nodup n hn
  have key : ∀ i j, i < j → j < n → pw (2 * n + 1) 4 i ≠ pw (2 * n + 1) 4 j := fun i j hij hj he => by
    have hlen : (powsL n).length = n := by unfold powsL; simp
    have := (List.pairwise_iff_getElem.1 hnd) i j (by omega) (by omega) hij
    apply this
    unfold powsL
    simp only [List.getElem_map, List.getElem_range]
    exact he
  unfold E at h
  have e1 : ((a % n).toNat : Int) = a % n := Int.toNat_of_nonneg h1
  have e2 : ((b % n).toNat : Int) = b % n := Int.toNat_of_nonneg h2
  rcases Nat.lt_trichotomy (a % n).toNat (b % n).toNat with hlt | heq | hgt
  · exact absurd h (key _ _ hlt (by omega))
  · omega
  · exact absurd h.symm (key _ _ hgt (by omega))
end TkSpec
namespace TkSpec
open FdSpec
def ansF (n d S : Int) (p : Int × Int) : Int := addM n p.2 (mulM n (mulM n d S) p.1)
def ansG (n d i : Int) (p : Int × Int) : Int := subM n p.2 (mulM n (mulM n d i) p.1)
theorem step_lin (n a ys e e' d S i : Int) (hn : okN n) : ∃ q, a * ansG n d i (e', ansF n d S (e, ys)) = a * ys + d * S * (a * e) - d * i * (a * e') + n * q := by
  unfold ansG ansF addM subM mulM
  simp only [if_pos hn]
  rw [Int.emod_def (d * S) n]
  generalize d * S / n = A
  rw [Int.emod_def ((d * S - n * A) * e) n]
  generalize (d * S - n * A) * e / n = B
  rw [Int.emod_def (ys + _) n]
  generalize (ys + ((d * S - n * A) * e - n * B)) / n = C
  rw [Int.emod_def (d * i) n]
  generalize d * i / n = D
  rw [Int.emod_def ((d * i - n * D) * e') n]
  generalize (d * i - n * D) * e' / n = F
  rw [Int.emod_def]
  generalize (ys + ((d * S - n * A) * e - n * B) - n * C - ((d * i - n * D) * e' - n * F)) / n = G
  exact ⟨-(a * (A * e + B + C - D * e' - F + G)), by grind⟩
theorem dot_lin (n d S i : Int) (hn : okN n) : ∀ (ns es ys es' : List Int), es.length = ns.length → ys.length = ns.length → es'.length = ns.length →
    ∃ q, dot ns ((es'.zip ((es.zip ys).map (ansF n d S))).map (ansG n d i)) = dot ns ys + d * S * dot ns es - d * i * dot ns es' + n * q
  | [], es, ys, es', _, _, _ => ⟨0, by simp [dot]⟩
  | a :: ns, e :: es, y :: ys, e' :: es', h1, h2, h3 => by
    simp only [List.length_cons, Nat.add_right_cancel_iff] at h1 h2 h3
    obtain ⟨q, hq⟩ := dot_lin n d S i hn ns es ys es' h1 h2 h3
    obtain ⟨r, hr⟩ := step_lin n a y e e' d S i hn
    simp only [List.zip_cons_cons, List.map_cons, dot]
    rw [hq, hr]
    exact ⟨q + r, by grind⟩
  | a :: ns, [], ys, es', h1, _, _ => by simp at h1
  | a :: ns, e :: es, [], es', _, h2, _ => by simp at h2
  | a :: ns, e :: es, y :: ys, [], _, _, h3 => by simp at h3
theorem ans_back (n d i x e' : Int) (hn : okN n) (hx : 0 ≤ x ∧ x < n) : ansF n d i (e', ansG n d i (e', x)) = x := by
  unfold ansF ansG addM subM
  simp only [if_pos hn]
  generalize mulM n (mulM n d i) e' = m
  rw [Int.emod_def (x - m) n]
  generalize (x - m) / n = A
  have h : x - m - n * A + m = x + n * (-A) := by grind
  rw [h, Int.add_mul_emod_self_left]
  exact Int.emod_eq_of_lt hx.1 hx.2
#print axioms dot_lin
end TkSpec
namespace TkSpec
open FdSpec
theorem E_dvd {n : Nat} {a b q : Int} (h : a = b + n * q) : E n a = E n b := by
  subst h
  unfold E
  rw [Int.add_mul_emod_self_left]
theorem E_ex {n : Nat} (hn : n ∈ ordL) {a b : Int} (h : E n a = E n b) : ∃ q, a = b + n * q := by
  have h := E_inj hn h
  have h1 := Int.emod_add_mul_ediv a n
  have h2 := Int.emod_add_mul_ediv b n
  exact ⟨a / n - b / n, by grind⟩
theorem E_ne {n : Nat} (hn : n ∈ ordL) {a : Int} (h : E n a ≠ 1) : 0 < a % n := by
  have h5 := (ok_of hn).five
  have h1 := Int.emod_nonneg a (b := n) (by omega)
  by_cases h0 : a % n = 0
  · exfalso
    apply h
    rw [← E_zero (ok_of hn)]
    exact E_cong (by rw [h0]; simp)
  · omega
theorem inv_ex {n : Nat} (hn : n ∈ ordL) {a : Int} (h : 0 < a % n) : ∃ b q : Int, a * b = 1 + n * q := by
  have h5 := (ok_of hn).five
  have h3 := Int.emod_lt_of_pos a (b := n) (by omega)
  obtain ⟨b, hb, _, he⟩ := ord_inv n hn (a % n).toNat (by omega) (by omega)
  have e1 : ((a % n).toNat : Int) = a % n := Int.toNat_of_nonneg (by omega)
  have h2 := Int.emod_add_mul_ediv a n
  have h4 := Int.emod_add_mul_ediv ((a % n) * b) n
  have he' : ((a % n) * (b : Int)) % n = 1 := by
    have := congrArg (fun k : Nat => (k : Int)) he
    simp only [Int.natCast_emod, Int.natCast_mul, e1] at this
    simpa using this
  rw [he'] at h4
  exact ⟨b, (a % n) * b / n + a / n * b, by grind⟩
theorem prime_ne {n : Nat} (hn : n ∈ ordL) {a s : Int} (h : 0 < a % n) (h1 : 1 ≤ s) (h2 : s < n) : ∀ q : Int, a * s ≠ n * q := by
  intro q he
  have h5 := (ok_of hn).five
  obtain ⟨b, r, hb⟩ := inv_ex hn h
  have : s = n * (q * b - r * s) := by grind
  have h6 : n * (q * b - r * s) % (n : Int) = 0 := Int.mul_emod_right _ _
  rw [← this, Int.emod_eq_of_lt (by omega) h2] at h6
  omega
theorem core_ex {n : Nat} (hn : n ∈ ordL) {a a' s : Int} (ha : E n a ≠ 1) (ha' : E n a' ≠ 1) (h1 : 1 ≤ s) (h2 : s < n) :
    ∃ i : Int, 1 ≤ i ∧ i < n ∧ E n (a' * i) = E n (a * s) ∧ ∀ j : Int, 1 ≤ j → j < n → E n (a' * j) = E n (a * s) → j = i := by
  have h5 := (ok_of hn).five
  obtain ⟨b, r, hb⟩ := inv_ex hn (E_ne hn ha')
  have hi0 := Int.emod_nonneg (a * s * b) (b := n) (by omega)
  have hi1 := Int.emod_lt_of_pos (a * s * b) (b := n) (by omega)
  have hi2 := Int.emod_add_mul_ediv (a * s * b) n
  generalize a * s * b / n = q at hi2
  have hne : a * s * b % n ≠ 0 := fun h0 => by
    rw [h0] at hi2
    exact prime_ne hn (E_ne hn ha) h1 h2 (a' * q - r * (a * s)) (by grind)
  generalize hi : a * s * b % n = i at *
  refine ⟨i, by omega, hi1, E_dvd (q := r * (a * s) - a' * q) (by grind), fun j hj1 hj2 he => ?_⟩
  obtain ⟨t, ht⟩ := E_ex hn he
  have e : j = i + n * (q + t * b - r * j) := by grind
  have h3 : (i + n * (q + t * b - r * j)) % (n : Int) = i := by
    rw [Int.add_mul_emod_self_left]; exact Int.emod_eq_of_lt hi0 hi1
  rw [← e, Int.emod_eq_of_lt (by omega) hj2] at h3
  exact h3
theorem core_first {n : Nat} (hn : n ∈ ordL) {d S i : Int} {ns es ys es' : List Int} (h1 : es.length = ns.length) (h2 : ys.length = ns.length) (h3 : es'.length = ns.length)
    (he : E n (dot ns es' * i) = E n (dot ns es * S)) : E n (dot ns ((es'.zip ((es.zip ys).map (ansF n d S))).map (ansG n d i))) = E n (dot ns ys) := by
  obtain ⟨t, ht⟩ := E_ex hn he
  obtain ⟨q, hq⟩ := dot_lin n d S i (ok_of hn).q ns es ys es' h1 h2 h3
  exact E_dvd (q := q - d * t) (by grind)
end TkSpec
namespace Go.Proofs
open Go Go.Sh Go.RowKit FdSpec TkSpec CodeSpec
set_option linter.unusedSimpArgs false
set_option linter.unusedVariables false
set_option maxRecDepth 10000
theorem made_facts {q : Int} {m : Mir} (h1 : (makeG q).2 = true) (h2 : (makeM (makeG q).1 m).2 = true) (hq : q ≤ 200) :
    ∃ n : Nat, n ∈ ordL ∧ q = n ∧ (makeM (makeG q).1 m).1.g = grp n ∧ (makeM (makeG q).1 m).1.bases = m.bases.map (E n) := by
  unfold makeG at h1 h2 ⊢
  split at h1
  · cases h1
  rename_i hc
  rw [if_neg hc] at h2 ⊢
  split at h1
  rotate_left
  · cases h1
  rename_i hv
  rw [if_pos hv] at h2 ⊢
  have e : ((q.toNat : Nat) : Int) = q := Int.toNat_of_nonneg (by omega)
  have eg : (⟨2 * q + 1, q, 4⟩ : Grp) = grp q.toNat := by unfold grp; rw [e]
  rw [eg] at hv h2 ⊢
  have hn := ord_of q.toNat (by omega) hv
  refine ⟨q.toNat, hn, e.symm, ?_, ?_⟩
  · unfold makeM at h2 ⊢
    split at h2
    · rename_i h; rw [if_pos h]
    · cases h2
  · unfold makeM at h2 ⊢
    split at h2
    · rename_i h; rw [if_pos h]
      show m.bases.map (powerG (grp q.toNat) 4) = _
      congr 1
      funext k
      exact powerG_4 (ok_of hn) k
    · cases h2
theorem mark_E {n : Nat} (hn : n ∈ ordL) {s : Stp} {ns l : List Int} (hg : s.g = grp n) (hb : s.bases = ns.map (E n)) (hu : (usableM s l).2 = true) :
    (markM s l).1 = E n (dot ns (expsM l)) ∧ E n (dot ns (expsM l)) ≠ 1 ∧ l.length + 1 = ns.length := by
  have hl := usable_len hu
  have hlen : l.length + 1 = ns.length := by rw [hl.1, hb, List.length_map]
  have hm : (markM s l).1 = E n (dot ns (expsM l)) := by
    unfold usableM at hu
    simp only [Bool.and_eq_true] at hu
    have h2 := hu.1
    unfold markM at h2 ⊢
    split at h2
    · rename_i h
      rw [if_pos h, hg, hb, prodG_E (ok_of hn) ns (expsM l) hlen.symm]
    · cases h2
  refine ⟨hm, fun h => ?_, hlen⟩
  unfold usableM at hu
  simp only [Bool.and_eq_true] at hu
  rw [hm, h] at hu
  exact absurd hu.2 (by decide)
end Go.Proofs
namespace Go.Proofs
open Go Go.Sh Go.RowKit FdSpec TkSpec CodeSpec
set_option linter.unusedSimpArgs false
set_option linter.unusedVariables false
set_option maxRecDepth 10000
theorem ansL_F {n : Nat} {s : Stp} {l : List Int} {b : Bld} {dare : Int} (hg : s.g = grp n) : ansL s l b dare = ((expsM l).zip b.ys).map (ansF n dare b.s) := by
  unfold ansL
  congr 1
  funext p
  unfold plusQ mulQ ansF
  rw [hg]
  rfl
theorem answersM_G {n : Nat} {s : Stp} {l : List Int} {i : Int} {x : Spd} (hg : s.g = grp n) : answersM s l i x = ((expsM l).zip x.answers).map (ansG n x.dare i) := by
  unfold answersM
  congr 1
  funext p
  unfold ansG
  rw [hg]
  rfl
theorem use_facts {s : Stp} {l : List Int} {b : Bld} {dare : Int} (h : (useM s l b dare).2 = true) : (usableM s l).2 = true ∧ blindsM s b = true ∧ numsM s 1 [dare] = true := by
  cases hu : (usableM s l).2 with
  | false => rw [useM_no (.inl hu)] at h; cases h
  | true =>
  cases hb : blindsM s b with
  | false => rw [useM_no (.inr (.inl hb))] at h; cases h
  | true =>
  cases hn : numsM s 1 [dare] with
  | false => rw [useM_no (.inr (.inr hn))] at h; cases h
  | true => exact ⟨rfl, rfl, rfl⟩
theorem hides_ex {n : Nat} (hn : n ∈ ordL) {s : Stp} {ns l attrs : List Int} {b : Bld} {dare : Int} (hg : s.g = grp n) (hb : s.bases = ns.map (E n)) (hu : (useM s l b dare).2 = true) (ha : (usableM s attrs).2 = true) :
    ∃ i : Int, 1 ≤ i ∧ i < n ∧ powerG s.g (markM s attrs).1 i = powerG s.g (usableM s l).1 b.s ∧ ∀ j : Int, 1 ≤ j → j < n → powerG s.g (markM s attrs).1 j = powerG s.g (usableM s l).1 b.s → j = i := by
  obtain ⟨h1, h2, h3⟩ := use_facts hu
  obtain ⟨m1, n1, l1⟩ := mark_E hn hg hb h1
  obtain ⟨m2, n2, l2⟩ := mark_E hn hg hb ha
  have e1 : (usableM s l).1 = (markM s l).1 := rfl
  have hS : 1 ≤ b.s ∧ b.s < n := by
    unfold blindsM numsM at h2
    rw [hg] at h2
    simp only [List.all_cons, List.all_nil, Bool.and_eq_true, decide_eq_true_eq] at h2
    exact ⟨h2.1.1.1.1.1, h2.1.1.1.1.2⟩
  obtain ⟨i, i1, i2, i3, i4⟩ := core_ex hn n1 n2 hS.1 hS.2
  rw [e1, m1, m2, hg]
  refine ⟨i, i1, i2, ?_, fun j j1 j2 j3 => i4 j j1 j2 ?_⟩
  · rw [powerG_E (ok_of hn), powerG_E (ok_of hn)]; exact i3
  · rw [powerG_E (ok_of hn), powerG_E (ok_of hn)] at j3; exact j3
end Go.Proofs
namespace Go.Proofs
open Go Go.Sh Go.RowKit FdSpec TkSpec CodeSpec
set_option linter.unusedSimpArgs false
set_option linter.unusedVariables false
set_option maxRecDepth 10000
theorem addM_rng {n : Nat} (hn : n ∈ ordL) (a b : Int) : 0 ≤ addM n a b ∧ addM n a b < n := addM_range _ _ _ (ok_of hn).q
theorem zip_back {n : Nat} (hn : n ∈ ordL) (d i : Int) : ∀ (es xs : List Int), xs.length = es.length → (∀ x ∈ xs, 0 ≤ x ∧ x < (n : Int)) → ((es.zip ((es.zip xs).map (ansG n d i))).map (ansF n d i)) = xs
  | [], [], _, _ => rfl
  | e :: es, x :: xs, hl, hx => by
    simp only [List.length_cons, Nat.add_right_cancel_iff] at hl
    simp only [List.zip_cons_cons, List.map_cons]
    rw [ans_back n d i x e (ok_of hn).q (hx x (by simp)), zip_back hn d i es xs hl (fun y hy => hx y (by simp [hy]))]
  | [], x :: xs, hl, _ => by simp at hl
  | e :: es, [], hl, _ => by simp at hl
theorem hides_same {n : Nat} (hn : n ∈ ordL) {s : Stp} {ns l attrs : List Int} {b : Bld} {dare i : Int} (hg : s.g = grp n) (hb : s.bases = ns.map (E n)) (hu : (useM s l b dare).2 = true) (ha : (usableM s attrs).2 = true)
    (h1 : 1 ≤ i) (h2 : i < n) (he : powerG s.g (markM s attrs).1 i = powerG s.g (usableM s l).1 b.s) :
    useM s attrs ⟨i, 1, 0, answersM s attrs i (useM s l b dare).1⟩ dare = ((useM s l b dare).1, true) ∧ prodG s.g s.bases (answersM s attrs i (useM s l b dare).1) = ((prodG s.g s.bases b.ys).1, true) := by
  obtain ⟨u1, u2, u3⟩ := use_facts hu
  obtain ⟨m1, n1, l1⟩ := mark_E hn hg hb u1
  obtain ⟨m2, n2, l2⟩ := mark_E hn hg hb ha
  have e1 : (usableM s l).1 = (markM s l).1 := rfl
  have hy := blinds_len u2
  have hbl : s.bases.length = ns.length := by rw [hb, List.length_map]
  have ok := ok_of hn
  have h5 := ok.five
  rw [useM_yes u1 u2 u3]
  dsimp only
  rw [answersM_G hg, ansL_F hg]
  dsimp only
  rw [e1, m1, m2, hg, powerG_E ok, powerG_E ok] at he
  have hxl : (((expsM l).zip b.ys).map (ansF n dare b.s)).length = ns.length := by
    rw [List.length_map, List.length_zip]
    show min (l.length + 1) _ = _
    omega
  have hxr : ∀ x ∈ ((expsM l).zip b.ys).map (ansF n dare b.s), 0 ≤ x ∧ x < (n : Int) := by
    intro x hx
    obtain ⟨p, _, rfl⟩ := List.mem_map.1 hx
    exact addM_rng hn _ _
  have hcf := core_first hn (d := dare) (S := b.s) (i := i) (ns := ns) (es := expsM l) (ys := b.ys) (es' := expsM attrs) (by show l.length + 1 = _; omega) (by omega) (by show attrs.length + 1 = _; omega) he
  generalize ((expsM l).zip b.ys).map (ansF n dare b.s) = xs at *
  have hal : (((expsM attrs).zip xs).map (ansG n dare i)).length = ns.length := by
    rw [List.length_map, List.length_zip]
    show min (attrs.length + 1) _ = _
    omega
  have har : numsM s 0 (((expsM attrs).zip xs).map (ansG n dare i)) = true := by
    unfold numsM
    rw [List.all_eq_true]
    intro x hx
    obtain ⟨p, _, rfl⟩ := List.mem_map.1 hx
    have := subM_range n p.2 (mulM n (mulM n dare i) p.1) ok.q
    unfold ansG
    rw [hg]
    show (decide (0 ≤ _) && decide (_ < (n : Int))) = true
    rw [decide_eq_true this.1, decide_eq_true this.2]; rfl
  constructor
  · have hbl2 : blindsM s ⟨i, 1, 0, ((expsM attrs).zip xs).map (ansG n dare i)⟩ = true := by
      unfold blindsM
      rw [har, decide_eq_true (show (((expsM attrs).zip xs).map (ansG n dare i)).length = s.bases.length by omega)]
      unfold numsM
      rw [hg]
      show (((decide (1 ≤ i) && decide (i < (n : Int))) && ((decide ((1 : Int) ≤ 1) && decide ((1 : Int) < n)) && true)) && ((decide ((0 : Int) ≤ 0) && decide ((0 : Int) < n)) && true) && true && true) = true
      rw [decide_eq_true h1, decide_eq_true h2, decide_eq_true (by omega : (1 : Int) < n), decide_eq_true (by omega : (0 : Int) < n)]
      rfl
    rw [useM_yes ha hbl2 u3, ansL_F hg]
    dsimp only
    rw [zip_back hn dare i (expsM attrs) xs (by rw [hxl]; show _ = attrs.length + 1; omega) hxr]
  · rw [hg, hb, prodG_E ok ns _ (by omega), prodG_E ok ns b.ys (by omega), hcf]
end Go.Proofs
namespace Go.Proofs
open Go Go.Sh Go.RowKit FdSpec TkSpec CodeSpec
set_option linter.unusedSimpArgs false
set_option linter.unusedVariables false
set_option maxRecDepth 10000
section
variable {K : Value → World → Prop} {w w0 : World} {L : List (Addr × Value)}
theorem SameSpend_ok (x y : Spd) {v u : Value} (hx : SpdR w x v) (hy : SpdR w y u) (k : ∀ w', Below w.heap.size w w' → K (.bool (decide (x.dare = y.dare) && decide (x.answers = y.answers))) w') : callM Tryz.prog 21 #[spdV x v, spdV y u] K w := by
  apply sh_21_ok
  unfold sh_21
  have hx' := hx.answers
  have hy' := hy.answers
  obtain ⟨ad, c, rfl⟩ := hx.answers.isSlice
  obtain ⟨ad2, c2, rfl⟩ := hy.answers.isSlice
  refine box_kn (cs := spdC x (.slice ad x.answers.length c)) rfl (.start w) fun b1 W hk hb1 hbb => ?_
  refine box_kn (cs := spdC y (.slice ad2 y.answers.length c2)) rfl hk fun b2 W2 hk hb2 hbb => ?_
  by_cases hd : x.dare = y.dare
  rotate_left
  · rw [decide_eq_false hd, Bool.false_and] at k
    repeat (any_goals (first
    | (with_reducible first|((refine idGd ?_); refine zB ?_)|((refine idPick ?_); refine yC ?_))
    | ((with_reducible refine idO ?_); (with_reducible refine oM_gen fun Kv hK=>?_); simp [go_sem, hk.cells, hd]; refine hK _ _ ?_; clear hK; clear Kv)))
    exact k _ hk.below
  rw [decide_eq_true hd, Bool.true_and] at k
  repeat (any_goals (first
  | (with_reducible ((refine idGd ?_); refine zA ?_))
  | ((with_reducible refine idO ?_); (with_reducible refine oM_gen fun Kv hK=>?_); simp [go_sem, hk.cells, hd]; refine hK _ _ ?_; clear hK; clear Kv)))
  refine Same_ok (hx'.next hk.below) (hy'.next hk.below) (fun w3 h3 => ?_)
  have k := k _ (hk.next h3).below
  generalize decide (x.answers = y.answers) = q at *
  repeat (any_goals (with_reducible ((refine idPick ?_); refine yB ?_)))
  exact k
structure Iss where
  s : Stp
  x : Ses
  t : Tkt
  ok : Bool
def zX : Ses := ⟨[], ⟨0, 0, 0⟩, 0, 0⟩
def issuedM (c : Cas) : Iss :=
  if smallM c && (madeM c).2 then
    if decide ((proposeM (madeM c).1 c.x c.attrs c.w).2 = 0) && decide ((askM (madeM c).1 (publicM (madeM c).1 c.x) c.attrs (proposeM (madeM c).1 c.x c.attrs c.w).1 c.b).2 = 0) then
      ⟨(madeM c).1, ⟨c.attrs, (proposeM (madeM c).1 c.x c.attrs c.w).1, (askM (madeM c).1 (publicM (madeM c).1 c.x) c.attrs (proposeM (madeM c).1 c.x c.attrs c.w).1 c.b).1, grantM (madeM c).1 c.x c.w (askM (madeM c).1 (publicM (madeM c).1 c.x) c.attrs (proposeM (madeM c).1 c.x c.attrs c.w).1 c.b).1⟩,
        (finishM (madeM c).1 (publicM (madeM c).1 c.x) c.attrs (proposeM (madeM c).1 c.x c.attrs c.w).1 c.b (grantM (madeM c).1 c.x c.w (askM (madeM c).1 (publicM (madeM c).1 c.x) c.attrs (proposeM (madeM c).1 c.x c.attrs c.w).1 c.b).1)).1,
        decide ((finishM (madeM c).1 (publicM (madeM c).1 c.x) c.attrs (proposeM (madeM c).1 c.x c.attrs c.w).1 c.b (grantM (madeM c).1 c.x c.w (askM (madeM c).1 (publicM (madeM c).1 c.x) c.attrs (proposeM (madeM c).1 c.x c.attrs c.w).1 c.b).1)).2 = 0)⟩
    else ⟨(madeM c).1, zX, zT, false⟩
  else ⟨(madeM c).1, zX, zT, false⟩
end
end Go.Proofs
namespace Go.Proofs
open Go Go.Sh Go.RowKit FdSpec TkSpec CodeSpec
set_option linter.unusedSimpArgs false
set_option linter.unusedVariables false
set_option maxRecDepth 10000
section
variable {K : Value → World → Prop} {w w0 : World} {L : List (Addr × Value)}
theorem sz_ses (w : World) : (sizeOf 41).run Tryz.prog w = .ok 6 w := by kernel_rfl
theorem al_ses (w : World) : (Instr.alloc 41 true (.tuple #[])).run Tryz.prog w = .ok (.pointer (some ⟨w.heap.size, 0, none⟩)) (w.alloc (.cells (sesC zX (.slice none 0 0)).toArray 41)) := by kernel_rfl
theorem ses_one (x : Ses) (ad : Option Addr) (n c : Nat) : ∀ u ∈ sesC x (.slice ad n c), u.oneCell' = true := by
  intro u hu
  simp only [sesC, List.mem_cons, List.not_mem_nil, or_false] at hu
  rcases hu with rfl | rfl | rfl | rfl | rfl | rfl <;> rfl
structure Res3 (w : World) (B g1 g2 g3 : Nat) (a b c : List Value) : Prop where
  lo : B ≤ g1 ∧ g1 < g2 ∧ g2 < g3
  s : Holds w g1 35 a
  x : Holds w g2 41 b
  t : Holds w g3 43 c
theorem Res3.next {w1 : World} {B g1 g2 g3 : Nat} {a b c : List Value} (h : Res3 w B g1 g2 g3 a b c) (hb : Below w.heap.size w w1) : Res3 w1 B g1 g2 g3 a b c := ⟨h.lo, h.s.next hb, h.x.next hb, h.t.next hb⟩
abbrev Fr3 (g1 g2 g3 : Nat) (w w' : World) : Prop := Fr (fun i => i = g1 ∨ i = g2 ∨ i = g3) w w'
theorem store3 {B g1 g2 g3 : Nat} {a b c : List Value} {T1 T2 T3 : TypeId} (s : Stp) (ad : Option Addr) (n cc : Nat) (x : Ses) (ad2 : Option Addr) (n2 c2 : Nat) (t : Tkt) (q : Bool) (hr : Res3 w B g1 g2 g3 a b c) (la : a.length = 5) (lb : b.length = 6) (lc : c.length = 6)
    (k : ∀ W, Fr3 g1 g2 g3 w W → K (.tuple #[stpV s (.slice ad n cc), sesV x (.slice ad2 n2 c2), tktV t, .bool q]) W) :
    oM Tryz.prog (.store 35 (.tmp 0) (.tmp 1)) T1 [.pointer (some ⟨g1, 0, none⟩), stpV s (.slice ad n cc)] (fun _ w => oM Tryz.prog (.store 41 (.tmp 0) (.tmp 1)) T2 [.pointer (some ⟨g2, 0, none⟩), sesV x (.slice ad2 n2 c2)] (fun _ w => oM Tryz.prog (.store 43 (.tmp 0) (.tmp 1)) T3 [.pointer (some ⟨g3, 0, none⟩), tktV t] (fun _ w =>
      ∃ r1, (do loadVar 35 (← asAddr (.pointer (some ⟨g1, 0, none⟩))) : Sem Value).run Tryz.prog w = .ok r1 w ∧ ∃ r2, (do loadVar 41 (← asAddr (.pointer (some ⟨g2, 0, none⟩))) : Sem Value).run Tryz.prog w = .ok r2 w ∧ ∃ r3, (do loadVar 43 (← asAddr (.pointer (some ⟨g3, 0, none⟩))) : Sem Value).run Tryz.prog w = .ok r3 w ∧ K (.tuple #[r1, r2, r3, .bool q]) w) w) w) w := by
  obtain ⟨h0, h1, h2⟩ := hr.lo
  refine arr_store sz_stp rfl rfl (stp_one s ad n cc) hr.s la (fun W1 hg1 hs => ?_)
  refine arr_store sz_ses rfl rfl (ses_one x ad2 n2 c2) (hr.x.other hg1 (by omega)) lb (fun W2 hg2 hx => ?_)
  refine arr_store sz_tkt rfl rfl (tkt_one t) ((hr.t.other hg1 (by omega)).other hg2 (by omega)) lc (fun W3 hg3 ht => ?_)
  have hs := (hs.other hg2 (by omega)).other hg3 (by omega)
  have hx := hx.other hg3 (by omega)
  refine ⟨stpV s (.slice ad n cc), by simp [go_sem, hs.are], sesV x (.slice ad2 n2 c2), by simp [go_sem, hx.are], tktV t, by simp [go_sem, ht.are], k _ ?_⟩
  have f0 : Fr3 g1 g2 g3 w w := Fr.refl _ _
  exact ((f0.by hg1 (fun i e => .inl (.inl (Option.some.inj e).symm))).by hg2 (fun i e => .inl (.inr (.inl (Option.some.inj e).symm)))).by hg3 (fun i e => .inl (.inr (.inr (Option.some.inj e).symm)))
theorem fr3_below {w1 W : World} {g1 g2 g3 : Nat} (hb : Below w.heap.size w w1) (h : Fr3 g1 g2 g3 w1 W) (h1 : w.heap.size ≤ g1) (h2 : g1 < g2) (h3 : g2 < g3) : Below w.heap.size w W :=
  ⟨h.os.trans hb.os, h.tape.trans hb.tape, h.output.trans hb.output, Nat.le_trans hb.size h.size, fun i hi => (h.block i (Nat.lt_of_lt_of_le hi hb.size) (fun e => by rcases e with rfl | rfl | rfl <;> omega)).trans (hb.block i hi)⟩
theorem ints_fr3 {W : World} {g1 g2 g3 : Nat} {v : Value} {l : List Int} (hi : Ints w v l) (h : Fr3 g1 g2 g3 w W) (hne : ∀ i, Value.inBlock v = some i → i ≠ g1 ∧ i ≠ g2 ∧ i ≠ g3) : Ints W v l :=
  ⟨hi.row.keep h.size (fun i e hlt => h.block i hlt (fun e2 => by have := hne i e; rcases e2 with rfl | rfl | rfl <;> omega)), hi.rng, hi.len⟩
theorem zX_R : SesR w zX (.slice none 0 0) := ⟨Ints.nil _, ⟨by constructor <;> decide, by constructor <;> decide, by constructor <;> decide⟩, by constructor <;> decide, by constructor <;> decide⟩
theorem zT_R : TktR zT := ⟨by constructor <;> decide, by constructor <;> decide, by constructor <;> decide, by constructor <;> decide, by constructor <;> decide, by constructor <;> decide⟩
theorem cells_fr3 {W : World} {g1 g2 g3 : Nat} : ∀ {L : List (Addr × Value)}, cellsAre w L → Fr3 g1 g2 g3 w W → (∀ p ∈ L, p.1.block < w.heap.size ∧ p.1.block ≠ g1 ∧ p.1.block ≠ g2 ∧ p.1.block ≠ g3) → cellsAre W L
  | [], _, _, _ => trivial
  | p :: L, hL, h, hn => by
    obtain ⟨h0, h1, h2, h3⟩ := hn p (by simp)
    exact ⟨(World.cell?_of_block (h.block _ h0 (fun e => by rcases e with e | e | e <;> contradiction))).trans hL.1, cells_fr3 hL.2 h (fun q hq => hn q (by simp [hq]))⟩
end
end Go.Proofs
namespace Go.Proofs
open Go Go.Sh Go.RowKit FdSpec TkSpec CodeSpec
set_option linter.unusedSimpArgs false
set_option linter.unusedVariables false
set_option maxRecDepth 10000
section
variable {K : Value → World → Prop} {w w0 : World} {L : List (Addr × Value)}
theorem propose_R (s : Stp) (x : Int) (l : List Int) (y : Int) : OffR (proposeM s x l y).1 := by
  unfold proposeM
  split
  · exact ⟨powerG_I64 _ _ _, genM_I64 _ _, powerG_I64 _ _ _⟩
  · exact ⟨by constructor <;> decide, by constructor <;> decide, by constructor <;> decide⟩
theorem publicM_I64 (s : Stp) (x : Int) : I64 (publicM s x) := by
  unfold publicM
  split
  · exact genM_I64 _ _
  · constructor <;> decide
theorem askM_I64 (s : Stp) (key : Int) (l : List Int) (o : Off) (b : Bld) : I64 (askM s key l o b).1 := by
  unfold askM
  dsimp only
  split
  · exact mulQ_I64 _ _ _ (by simp)
  · constructor <;> decide
theorem build_ses4 (T : TypeId) (ad : Option Addr) (n cc : Nat) (o : Off) (x y : Int) : oM Tryz.prog (Go.Op.build 41 #[(0, (.tmp 0)), (1, (.tmp 1)), (2, (.tmp 2)), (3, (.tmp 3))]) T [.slice ad n cc, offV o, .int .i64 x, .int .i64 y] = pureM (sesV ⟨[], o, x, y⟩ (.slice ad n cc)) := by
  funext K w
  kernel_rfl
theorem grantM_I64 (s : Stp) (x w c : Int) : I64 (grantM s x w c) := by
  unfold grantM
  split
  · exact addM_I64 _ _ _
  · constructor <;> decide
theorem issued_end {g1 g2 g3 b2 g7 g8 B : Nat} {a b c : List Value} (s : Stp) (ad : Option Addr) (n cc : Nat) (x : Ses) (ad2 : Option Addr) (n2 c2 : Nat) (t : Tkt) (e : Int)
    (hr : Res3 w B g1 g2 g3 a b c) (la : a.length = 5) (lb : b.length = 6) (lc : c.length = 6) (hs : cellsAre w (cellsOf [] b2 0 (stpC s (.slice ad n cc)))) (hx : Holds w g7 41 (sesC x (.slice ad2 n2 c2))) (ht : Holds w g8 43 (tktC t))
    (o2 : b2 ≠ g1 ∧ b2 ≠ g2 ∧ b2 ≠ g3) (o7 : g7 ≠ g1 ∧ g7 ≠ g2 ∧ g7 ≠ g3) (o8 : g8 ≠ g1 ∧ g8 ≠ g2 ∧ g8 ≠ g3)
    (k : ∀ W, Fr3 g1 g2 g3 { w with drawn := w.drawn + 1 } W → K (.tuple #[stpV s (.slice ad n cc), sesV x (.slice ad2 n2 c2), tktV t, .bool (decide (e = 0))]) W) :
    heldM w (fun C w => (oH Tryz.prog (Go.Op.load 35 (.tmp 0)) 35 [.pointer (some ⟨b2, 0, none⟩)] C (fun v92_110 =>
 oH Tryz.prog (Go.Op.load 41 (.tmp 0)) 41 [.pointer (some ⟨g7, 0, none⟩)] C (fun v93_111 =>
 oH Tryz.prog (Go.Op.load 43 (.tmp 0)) 43 [.pointer (some ⟨g8, 0, none⟩)] C (fun v94_112 =>
 pureH (.int .i64 e) C (fun v95_113 =>
 oH Tryz.prog (Go.Op.binOp Go.BinOp.eql 50 (.tmp 0) (.const (.int .i64 0)) 50) 4 [v95_113] C (fun v96_114 =>
 oM Tryz.prog (Go.Op.store 35 (.tmp 0) (.tmp 1)) 0 [.pointer (some ⟨g1, 0, none⟩), v92_110] (fun _ w => C w ∧ (
 oM Tryz.prog (Go.Op.store 41 (.tmp 0) (.tmp 1)) 0 [.pointer (some ⟨g2, 0, none⟩), v93_111] (fun _ w => C w ∧ (
 oM Tryz.prog (Go.Op.store 43 (.tmp 0) (.tmp 1)) 0 [.pointer (some ⟨g3, 0, none⟩), v94_112] (fun _ w => C w ∧ (
 C w ∧ (∃ r_116, (do loadVar 35 (← asAddr (.pointer (some ⟨g1, 0, none⟩))) : Sem Value).run Tryz.prog w = .ok r_116 w ∧ ∃ r_117, (do loadVar 41 (← asAddr (.pointer (some ⟨g2, 0, none⟩))) : Sem Value).run Tryz.prog w = .ok r_117 w ∧ ∃ r_118, (do loadVar 43 (← asAddr (.pointer (some ⟨g3, 0, none⟩))) : Sem Value).run Tryz.prog w = .ok r_118 w ∧ K (.tuple #[r_116, r_117, r_118, v96_114]) w))) w)) w)) w))))))) := by
  have hb : Below w.heap.size w { w with drawn := w.drawn + 1 } := .drawn
  have hr := hr.next hb
  have hall : cellsAre { w with drawn := w.drawn + 1 } (cellsOf (cellsOf (cellsOf [] b2 0 (stpC s (.slice ad n cc))) g7 0 (sesC x (.slice ad2 n2 c2))) g8 0 (tktC t)) := by
    have A := fun {vs : List Value} {g : Nat} {T : TypeId} {L : List (Addr × Value)} (h : Holds { w with drawn := w.drawn + 1 } g T vs) (hL : cellsAre { w with drawn := w.drawn + 1 } L) => cellsOf_are (xs := vs) hL (fun i v hi => by
      obtain ⟨hl, rfl⟩ := List.getElem?_eq_some_iff.1 hi
      exact h.cell i hl) vs 0 rfl
    exact A (ht.next hb) (A (hx.next hb) (cellsAre_keep hs fun a ha => hb.cell ha))
  refine ⟨Fr3 g1 g2 g3 { w with drawn := w.drawn + 1 }, Fr.refl _ _, ?_⟩
  generalize ({ w with drawn := w.drawn + 1 } : World) = W at hr hall k ⊢
  have hoff : ∀ p ∈ cellsOf (cellsOf (cellsOf [] b2 0 (stpC s (.slice ad n cc))) g7 0 (sesC x (.slice ad2 n2 c2))) g8 0 (tktC t), p.1.block < W.heap.size ∧ p.1.block ≠ g1 ∧ p.1.block ≠ g2 ∧ p.1.block ≠ g3 := fun p hp => by
    refine ⟨cells_lt hall p hp, ?_⟩
    rcases cellsOf_mem _ _ _ hp with h | hp
    · rw [h]; exact o8
    rcases cellsOf_mem _ _ _ hp with h | hp
    · rw [h]; exact o7
    rcases cellsOf_mem _ _ _ hp with h | hp
    · rw [h]; exact o2
    · cases hp
  repeat (any_goals (first
  | (with_reducible refine pureH_in ?_)
  | ((with_reducible refine idOH ?_); (with_reducible refine oH_of ⟨_, rfl⟩ (fun W0 hW0 => by (refine oM_gen (fun Kv hK => ?_)); simp [go_sem, (cells_fr3 hall hW0 hoff)]; (first | exact hK _ _ ⟨rfl, rfl⟩ | exact ⟨by omega, hK _ _ ⟨rfl, rfl⟩⟩)) ?_))))
  obtain ⟨h0, h1, h2⟩ := hr.lo
  have f0 : Fr3 g1 g2 g3 W W := Fr.refl _ _
  refine arr_store sz_stp rfl rfl (stp_one s ad n cc) hr.s la (fun W1 hg1 hs => ?_)
  have f0 := f0.by hg1 (fun i e => .inl (.inl (Option.some.inj e).symm))
  refine ⟨f0, ?_⟩
  refine arr_store sz_ses rfl rfl (ses_one x ad2 n2 c2) (hr.x.other hg1 (by omega)) lb (fun W2 hg2 hx => ?_)
  have f0 := f0.by hg2 (fun i e => .inl (.inr (.inl (Option.some.inj e).symm)))
  refine ⟨f0, ?_⟩
  refine arr_store sz_tkt rfl rfl (tkt_one t) ((hr.t.other hg1 (by omega)).other hg2 (by omega)) lc (fun W3 hg3 ht => ?_)
  have f0 := f0.by hg3 (fun i e => .inl (.inr (.inr (Option.some.inj e).symm)))
  have hs := (hs.other hg2 (by omega)).other hg3 (by omega)
  have hx := hx.other hg3 (by omega)
  exact ⟨f0, f0, stpV s (.slice ad n cc), by simp [go_sem, hs.are], sesV x (.slice ad2 n2 c2), by simp [go_sem, hx.are], tktV t, by simp [go_sem, ht.are], k _ f0⟩
theorem issued_ok (c : Cas) {mv av yv : Value} (hT : DbT w) (hL : Cd.Laid w) (hc : CasR w c mv av yv)
    (k : ∀ w' sv xv, Below w.heap.size w w' → SetR w' (issuedM c).s sv → SesR w' (issuedM c).x xv → TktR (issuedM c).t → K (.tuple #[stpV (issuedM c).s sv, sesV (issuedM c).x xv, tktV (issuedM c).t, .bool (issuedM c).ok]) w') : callM Tryz.prog 33 #[casV c mv av yv] K w := by
  apply sh_33_ok
  unfold sh_33
  have hc' := hc
  obtain ⟨mad, mc, rfl⟩ := hc.m.ints.isSlice
  obtain ⟨aad, ac, rfl⟩ := hc.attrs.isSlice
  obtain ⟨yad, yc, rfl⟩ := hc.b.ys.isSlice
  refine box_kn (cs := casC c (.slice mad c.m.bases.length mc) (.slice aad c.attrs.length ac) (.slice yad c.b.ys.length yc)) rfl (.start w) fun b1 W hk hb1 hbb => ?_
  refine arr_alloc al_stp fun g1 w1 h1 hg1 hh1 => ?_
  refine arr_alloc al_ses fun g2 w2 h2 hg2 hh2 => ?_
  refine arr_alloc al_tkt fun g3 w3 h3 hg3 hh3 => ?_
  have hr : Res3 w3 W.heap.size g1 g2 g3 _ _ _ := ⟨⟨hg1, Nat.lt_of_lt_of_le hh1.lt hg2, Nat.lt_of_lt_of_le hh2.lt hg3⟩, (hh1.next h2).next h3, hh2.next h3, hh3⟩
  have hwW := hk.below.size
  have hg3l : g3 < w3.heap.size := hr.t.lt
  have hk := ((hk.next h1).next h2).next h3
  clear h1 h2 h3 hh1 hh2 hh3 hb1
  repeat (any_goals ((with_reducible refine idO ?_); (with_reducible refine oM_gen fun Kv hK=>?_); simp [go_sem, hk.cells]; refine hK _ _ ?_; clear hK; clear Kv))
  refine made_ok c (hT.next hk.below) (hc'.next hk.below) (fun w4 sv h4 hs hf => ?_)
  have hk := hk.next h4
  have hr := hr.next h4
  have hg3w4 := hr.t.lt
  clear h4
  obtain ⟨sad, sc, rfl⟩ := hs.ints.isSlice
  iterate 2 (any_goals ((with_reducible refine idO ?_); (with_reducible refine oM_gen fun Kv hK=>?_); simp [go_sem]; refine hK _ _ ?_; clear hK; clear Kv))
  refine local_stp (madeM c).1 sad (madeM c).1.bases.length sc hk (fun b2 w5 hk h5 hb2 => ?_)
  have hr := hr.next h5
  have hs := hs.next h5
  clear h5
  repeat (any_goals ((with_reducible refine idO ?_); (with_reducible refine oM_gen fun Kv hK=>?_); simp [go_sem, hk.cells]; refine hK _ _ ?_; clear hK; clear Kv))
  refine small_ok c (hc'.next hk.below) (fun w6 h6 => ?_)
  have hk := hk.next h6
  have hr := hr.next h6
  have hs := hs.next h6
  clear h6
  have hlo := hr.lo
  have hwl := hk.below.size
  have bad : issuedM c = ⟨(madeM c).1, zX, zT, false⟩ → ∀ (w7 : World) (a b d : List Value), a.length = 5 → b.length = 6 → d.length = 6 → Below w.heap.size w w7 → SetR w7 (madeM c).1 (.slice sad (madeM c).1.bases.length sc) → Res3 w7 W.heap.size g1 g2 g3 a b d →
      ∀ W9, Fr3 g1 g2 g3 w7 W9 → K (.tuple #[stpV (madeM c).1 (.slice sad (madeM c).1.bases.length sc), sesV zX (.slice none 0 0), tktV zT, .bool false]) W9 := fun e w7 a b d la lb ld hb hs hr W9 hf3 => by
    have hW := fr3_below hb hf3 (by omega) hlo.2.1 hlo.2.2
    have := k W9 (.slice sad (madeM c).1.bases.length sc) (.slice none 0 0) hW
    rw [e] at this
    exact this ⟨hs.grp, ints_fr3 hs.ints hf3 (fun i hi => by have := hf i hi; omega), hs.blind, hT.next hW⟩ zX_R zT_R
  cases hsm : smallM c with
  | false =>
    repeat (any_goals (first
    | (with_reducible first|((refine idGd ?_); refine zD ?_)|((refine idPick ?_); refine yB ?_)|((refine idCond ?_); refine yL ?_))
    | ((with_reducible refine idO ?_); (with_reducible refine oM_gen fun Kv hK=>?_); simp [go_sem, hk.cells]; refine hK _ _ ?_; clear hK; clear Kv)))
    exact store3 (madeM c).1 sad (madeM c).1.bases.length sc zX none 0 0 zT false hr rfl rfl rfl (bad (by unfold issuedM; rw [hsm]; rfl) _ _ _ _ rfl rfl rfl hk.below hs hr)
  | true =>
  cases hmd : (madeM c).2 with
  | false =>
    repeat (any_goals (first
    | (with_reducible first|refine pureM_in ?_|((refine idGd ?_); refine zC ?_)|((refine idPick ?_); refine yC ?_)|((refine idCond ?_); refine yL ?_))
    | ((with_reducible refine idO ?_); (with_reducible refine oM_gen fun Kv hK=>?_); simp [go_sem, hk.cells]; refine hK _ _ ?_; clear hK; clear Kv)))
    exact store3 (madeM c).1 sad (madeM c).1.bases.length sc zX none 0 0 zT false hr rfl rfl rfl (bad (by unfold issuedM; rw [hsm, hmd]; rfl) _ _ _ _ rfl rfl rfl hk.below hs hr)
  | true =>
  repeat (any_goals (first
  | (with_reducible first|refine pureM_in ?_|((refine idGd ?_); refine zC ?_)|((refine idPick ?_); refine yC ?_)|((refine idCond ?_); refine yM ?_))
  | ((with_reducible refine idO ?_); (with_reducible refine oM_gen fun Kv hK=>?_); simp [go_sem, hk.cells]; refine hK _ _ ?_; clear hK; clear Kv)))
  refine Propose_ok (madeM c).1 c.x c.w hc'.x hc'.wn (hs.next (Below.refl _ _)) (hc'.attrs.next hk.below) (fun w7 h7 => ?_)
  have hk := hk.next h7
  have hr := hr.next h7
  have hs := hs.next h7
  clear h7
  have ei : issuedM c = if decide ((proposeM (madeM c).1 c.x c.attrs c.w).2 = 0) && decide ((askM (madeM c).1 (publicM (madeM c).1 c.x) c.attrs (proposeM (madeM c).1 c.x c.attrs c.w).1 c.b).2 = 0) then
      ⟨(madeM c).1, ⟨c.attrs, (proposeM (madeM c).1 c.x c.attrs c.w).1, (askM (madeM c).1 (publicM (madeM c).1 c.x) c.attrs (proposeM (madeM c).1 c.x c.attrs c.w).1 c.b).1, grantM (madeM c).1 c.x c.w (askM (madeM c).1 (publicM (madeM c).1 c.x) c.attrs (proposeM (madeM c).1 c.x c.attrs c.w).1 c.b).1⟩,
        (finishM (madeM c).1 (publicM (madeM c).1 c.x) c.attrs (proposeM (madeM c).1 c.x c.attrs c.w).1 c.b (grantM (madeM c).1 c.x c.w (askM (madeM c).1 (publicM (madeM c).1 c.x) c.attrs (proposeM (madeM c).1 c.x c.attrs c.w).1 c.b).1)).1,
        decide ((finishM (madeM c).1 (publicM (madeM c).1 c.x) c.attrs (proposeM (madeM c).1 c.x c.attrs c.w).1 c.b (grantM (madeM c).1 c.x c.w (askM (madeM c).1 (publicM (madeM c).1 c.x) c.attrs (proposeM (madeM c).1 c.x c.attrs c.w).1 c.b).1)).2 = 0)⟩
    else ⟨(madeM c).1, zX, zT, false⟩ := by
    unfold issuedM
    rw [hsm, hmd]
    rfl
  have hpo : OffR (proposeM (madeM c).1 c.x c.attrs c.w).1 := propose_R _ _ _ _
  generalize (madeM c).1 = s at *
  generalize (proposeM s c.x c.attrs c.w).1 = o at *
  generalize (proposeM s c.x c.attrs c.w).2 = pe at *
  iterate 2 (any_goals ((with_reducible refine idO ?_); (with_reducible refine oM_gen fun Kv hK=>?_); simp [go_sem]; refine hK _ _ ?_; clear hK; clear Kv))
  refine local_off o hk (fun b3 w8 hk h8 hb3 => ?_)
  have hr := hr.next h8
  have hs := hs.next h8
  clear h8
  have hk := hk.drew
  have hr := hr.next (.drawn (B := w8.heap.size))
  have hs := hs.next (.drawn (B := w8.heap.size))
  refine ⟨Nx { w8 with drawn := w8.drawn + 1 }, Below.refl _ _, rfl, ?_⟩
  generalize ({ w8 with drawn := w8.drawn + 1 } : World) = W8 at hk hr hs ⊢
  repeat (any_goals ((with_reducible refine idOH ?_); (with_reducible refine oH_of ⟨_, rfl⟩ (fun W0 hW0 => by (refine oM_gen (fun Kv hK => ?_)); simp [go_sem, (hk.next hW0).cells]; (first | exact hK _ _ ⟨rfl, rfl⟩ | exact ⟨by omega, hK _ _ ⟨rfl, rfl⟩⟩)) ?_)))
  refine ⟨Nx, ?_⟩
  apply monoE
  · intro w1 h1
    exact Public_ok s c.x hc'.x (hs.next h1) (fun w2 h2 => ⟨h1.on h2, h2, rfl⟩)
  apply monoE
  · rintro w1 h1 _ rfl
    exact Ask_ok s (publicM s c.x) o c.b (publicM_I64 _ _) hpo (hs.next h1) (hc'.attrs.next (hk.next h1).below) (hc'.b.next (hk.next h1).below) (hL.below (hk.next h1).below hL.size) (fun w2 h2 => ⟨h1.on h2, h2, rfl⟩)
  repeat (apply monoE; focus (intro w9 h9; (repeat (intro v9 e9; try (obtain rfl := e9))); (repeat (any_goals ((with_reducible refine idO ?_); (with_reducible refine oM_gen fun Kv hK=>?_); simp [go_sem]; refine hK _ _ ?_; clear hK; clear Kv))); exact ⟨h9, Below.refl _ _, rfl⟩))
  (intro w9 h9; repeat (intro v9 e9; try (obtain rfl := e9)))
  have hk := hk.next h9
  have hr := hr.next h9
  have hs := hs.next h9
  clear h9
  have hkey : I64 (publicM s c.x) := publicM_I64 _ _
  generalize hkq : publicM s c.x = key at *
  have hn : I64 (askM s key c.attrs o c.b).1 := askM_I64 _ _ _ _ _
  generalize (askM s key c.attrs o c.b).1 = n at *
  generalize (askM s key c.attrs o c.b).2 = ae at *
  by_cases hpe : pe = 0
  rotate_left
  · rw [decide_eq_false hpe, Bool.false_and, if_neg (by decide)] at ei
    repeat (any_goals (first
    | (with_reducible first|((refine idGd ?_); refine zD ?_)|((refine idPick ?_); refine yB ?_)|((refine idCond ?_); refine yL ?_))
    | ((with_reducible refine idO ?_); (with_reducible refine oM_gen fun Kv hK=>?_); simp [go_sem, hk.cells, hpe]; refine hK _ _ ?_; clear hK; clear Kv)))
    exact store3 s sad s.bases.length sc zX none 0 0 zT false hr rfl rfl rfl (bad ei _ _ _ _ rfl rfl rfl hk.below hs hr)
  by_cases hae : ae = 0
  rotate_left
  · rw [decide_eq_false hae, Bool.and_false, if_neg (by decide)] at ei
    repeat (any_goals (first
    | (with_reducible first|refine pureM_in ?_|((refine idGd ?_); refine zC ?_)|((refine idPick ?_); refine yC ?_)|((refine idCond ?_); refine yL ?_))
    | ((with_reducible refine idO ?_); (with_reducible refine oM_gen fun Kv hK=>?_); simp [go_sem, hk.cells, hpe, hae]; refine hK _ _ ?_; clear hK; clear Kv)))
    exact store3 s sad s.bases.length sc zX none 0 0 zT false hr rfl rfl rfl (bad ei _ _ _ _ rfl rfl rfl hk.below hs hr)
  rw [decide_eq_true hpe, decide_eq_true hae, Bool.true_and, if_pos rfl] at ei
  clear bad
  repeat (any_goals (first
  | (with_reducible first|refine pureM_in ?_|((refine idGd ?_); refine zC ?_)|((refine idPick ?_); refine yC ?_)|((refine idCond ?_); refine yM ?_))
  | ((with_reducible refine idO ?_); (with_reducible refine oM_gen fun Kv hK=>?_); simp [go_sem, hk.cells, hpe, hae]; refine hK _ _ ?_; clear hK; clear Kv)))
  have hk := hk.drew
  have hr := hr.next (.drawn (B := w9.heap.size))
  have hs := hs.next (.drawn (B := w9.heap.size))
  refine ⟨Nx { w9 with drawn := w9.drawn + 1 }, Below.refl _ _, rfl, ?_⟩
  generalize ({ w9 with drawn := w9.drawn + 1 } : World) = W9 at hk hr hs ⊢
  repeat (any_goals (first
  | (with_reducible refine pureH_in ?_)
  | ((with_reducible refine idOH ?_); (with_reducible refine oH_of ⟨_, rfl⟩ (fun W0 hW0 => by (refine oM_gen (fun Kv hK => ?_)); simp [go_sem, (hk.next hW0).cells]; (first | exact hK _ _ ⟨rfl, rfl⟩ | exact ⟨by omega, hK _ _ ⟨rfl, rfl⟩⟩)) ?_))))
  refine ⟨Nx, ?_⟩
  apply monoE
  · intro w1 h1
    exact Grant_ok s c.x c.w n hc'.x hc'.wn hn (hs.next h1) (fun w2 h2 => ⟨h1.on h2, h2, rfl⟩)
  repeat (apply monoE; focus (intro w9 h9; (repeat (intro v9 e9; try (obtain rfl := e9))); (repeat (any_goals ((with_reducible refine idO ?_); (with_reducible refine oM_gen fun Kv hK=>?_); simp [go_sem, build_ses4]; refine hK _ _ ?_; clear hK; clear Kv))); exact ⟨h9, Below.refl _ _, rfl⟩))
  have hgr : I64 (grantM s c.x c.w n) := grantM_I64 _ _ _ _
  generalize grantM s c.x c.w n = gr at *
  refine monoR (fun v w' => ∃ g2, v = ptr g2 0 ∧ W9.heap.size ≤ g2 ∧ Holds w' g2 41 (sesC zX (.slice none 0 0))) (fun v w w1 hS h => h.imp fun g2 h => ⟨h.1, h.2.1, h.2.2.next hS⟩) ?_ ?_
  · intro w1 h1
    exact arr_alloc al_ses (fun g2 w2 h2 hg2 hh => ⟨h1.on h2, h2, g2, rfl, Nat.le_trans h1.size hg2, hh⟩)
  (intro w9 h9; repeat (intro v9 e9; try (obtain rfl := e9)))
  obtain ⟨g7, rfl, hg7, hh⟩ := e9
  have hg3W9 := hr.t.lt
  refine arr_store sz_ses (xs := sesC ⟨[], o, n, gr⟩ (.slice aad c.attrs.length ac)) rfl rfl (ses_one ⟨[], o, n, gr⟩ aad c.attrs.length ac) hh rfl (fun w10 hg10 hh => ?_)
  have h10 := grown_below h9 hg10 hg7
  have hk := hk.next h10
  have hr := hr.next h10
  have hs := hs.next h10
  clear h9 hg10 h10
  have hk := hk.drew
  have hr := hr.next (.drawn (B := w10.heap.size))
  have hs := hs.next (.drawn (B := w10.heap.size))
  have hh := hh.next (.drawn (B := w10.heap.size))
  refine ⟨Nx { w10 with drawn := w10.drawn + 1 }, Below.refl _ _, ?_⟩
  generalize ({ w10 with drawn := w10.drawn + 1 } : World) = W10 at hk hr hs hh ⊢
  repeat (any_goals ((with_reducible refine idOH ?_); (with_reducible refine oH_of ⟨_, rfl⟩ (fun W0 hW0 => by (refine oM_gen (fun Kv hK => ?_)); simp [go_sem, (hk.next hW0).cells, (hh.next hW0).are]; (first | exact hK _ _ ⟨rfl, rfl⟩ | exact ⟨by omega, hK _ _ ⟨rfl, rfl⟩⟩)) ?_)))
  have hlt : TktR (finishM s key c.attrs o c.b gr).1 := finish_R _ _ _ _ _ _
  have fin : ∀ (w14 : World) (g8 : Nat), Below W10.heap.size W10 w14 → W10.heap.size ≤ g8 → Holds w14 g8 43 (tktC (finishM s key c.attrs o c.b gr).1) → ∀ W9, Fr3 g1 g2 g3 { w14 with drawn := w14.drawn + 1 } W9 → K (.tuple #[stpV s (.slice sad s.bases.length sc), sesV ⟨[], o, n, gr⟩ (.slice aad c.attrs.length ac), tktV (finishM s key c.attrs o c.b gr).1, .bool (decide ((finishM s key c.attrs o c.b gr).2 = 0))]) W9 := fun w14 g8 h14 hg8 hh8 W9 hf3 => by
    have hb := (hk.next h14).below.on (.drawn (B := w14.heap.size))
    have hW := fr3_below hb hf3 (by omega) hlo.2.1 hlo.2.2
    have := k W9 (.slice sad s.bases.length sc) (.slice aad c.attrs.length ac) hW
    rw [ei] at this
    have hs := (hs.next h14).next (.drawn (B := w14.heap.size))
    exact this ⟨hs.grp, ints_fr3 hs.ints hf3 (fun i hi => by have := hf i hi; omega), hs.blind, hT.next hW⟩ ⟨hc'.attrs.next hW, hpo, hn, hgr⟩ hlt
  have endI := fun (w14 : World) (g8 : Nat) (h14 : Below W10.heap.size W10 w14) (hg8 : W10.heap.size ≤ g8) (hh8 : Holds w14 g8 43 (tktC (finishM s key c.attrs o c.b gr).1)) =>
    issued_end s sad s.bases.length sc ⟨[], o, n, gr⟩ aad c.attrs.length ac (finishM s key c.attrs o c.b gr).1 (finishM s key c.attrs o c.b gr).2 (hr.next h14) rfl rfl rfl
      (by
        obtain ⟨_, _, _, c1, c2, c3, c4, c5, _⟩ := (hk.next h14).cells
        exact ⟨c1, c2, c3, c4, c5, trivial⟩) (hh.next h14) hh8 (by omega) (by omega) (by have := hr.t.lt; omega) (fin w14 g8 h14 hg8 hh8)
  constructor
  · refine Public_ok s c.x hc'.x hs (fun w11 h11 => ⟨h11, ?_⟩)
    rw [hkq]
    constructor
    · refine Finish_ok s key gr o c.b hkey hgr hpo (hs.next h11) (hc'.attrs.next (hk.next h11).below) (hc'.b.next (hk.next h11).below) (hL.below (hk.next h11).below hL.size) (fun w12 h12 => ⟨h11.on h12, ?_⟩)
      have h12 := h11.on h12
      iterate 3 (any_goals (first
      | (with_reducible refine pureH_in ?_)
      | ((with_reducible refine idOH ?_); (with_reducible refine oH_of ⟨_, rfl⟩ (fun W0 hW0 => by (refine oM_gen (fun Kv hK => ?_)); simp [go_sem]; (first | exact hK _ _ ⟨rfl, rfl⟩ | exact ⟨by omega, hK _ _ ⟨rfl, rfl⟩⟩)) ?_))))
      refine arr_alloc al_tkt (fun g8 w13 h13 hg8 hh8 => ⟨h12.on h13, ?_⟩)
      have hg8 := Nat.le_trans h12.size hg8
      have h13 := h12.on h13
      refine arr_store sz_tkt rfl rfl (tkt_one _) hh8 rfl (fun w14 hg14 hh8 => ?_)
      have h14 := grown_below h13 hg14 hg8
      exact ⟨h14, h14, endI w14 g8 h14 hg8 hh8⟩
    · refine arr_alloc al_tkt (fun g8 w12 h12 hg8 hh8 => ⟨h11.on h12, ?_⟩)
      have hg8 := Nat.le_trans h11.size hg8
      have h12 := h11.on h12
      refine Finish_ok s key gr o c.b hkey hgr hpo (hs.next h12) (hc'.attrs.next (hk.next h12).below) (hc'.b.next (hk.next h12).below) (hL.below (hk.next h12).below hL.size) (fun w13 h13 => ⟨h12.on h13, ?_⟩)
      have hh8 := hh8.next h13
      have h13 := h12.on h13
      iterate 3 (any_goals (first
      | (with_reducible refine pureH_in ?_)
      | ((with_reducible refine idOH ?_); (with_reducible refine oH_of ⟨_, rfl⟩ (fun W0 hW0 => by (refine oM_gen (fun Kv hK => ?_)); simp [go_sem]; (first | exact hK _ _ ⟨rfl, rfl⟩ | exact ⟨by omega, hK _ _ ⟨rfl, rfl⟩⟩)) ?_))))
      refine arr_store sz_tkt rfl rfl (tkt_one _) hh8 rfl (fun w14 hg14 hh8 => ?_)
      have h14 := grown_below h13 hg14 hg8
      exact ⟨h14, h14, endI w14 g8 h14 hg8 hh8⟩
  · refine arr_alloc al_tkt (fun g8 w11 h11 hg8 hh8 => ⟨h11, ?_⟩)
    refine Public_ok s c.x hc'.x (hs.next h11) (fun w12 h12 => ⟨h11.on h12, ?_⟩)
    rw [hkq]
    have hh8 := hh8.next h12
    have h12 := h11.on h12
    refine Finish_ok s key gr o c.b hkey hgr hpo (hs.next h12) (hc'.attrs.next (hk.next h12).below) (hc'.b.next (hk.next h12).below) (hL.below (hk.next h12).below hL.size) (fun w13 h13 => ⟨h12.on h13, ?_⟩)
    have hh8 := hh8.next h13
    have h13 := h12.on h13
    iterate 3 (any_goals (first
    | (with_reducible refine pureH_in ?_)
    | ((with_reducible refine idOH ?_); (with_reducible refine oH_of ⟨_, rfl⟩ (fun W0 hW0 => by (refine oM_gen (fun Kv hK => ?_)); simp [go_sem]; (first | exact hK _ _ ⟨rfl, rfl⟩ | exact ⟨by omega, hK _ _ ⟨rfl, rfl⟩⟩)) ?_))))
    refine arr_store sz_tkt rfl rfl (tkt_one _) hh8 rfl (fun w14 hg14 hh8 => ?_)
    have h14 := grown_below h13 hg14 hg8
    exact ⟨h14, h14, endI w14 g8 h14 hg8 hh8⟩
end
end Go.Proofs
namespace Go.Proofs
open Go Go.Sh Go.RowKit FdSpec TkSpec CodeSpec
set_option linter.unusedSimpArgs false
set_option linter.unusedVariables false
set_option maxRecDepth 10000
section
variable {K : Value → World → Prop} {w w0 : World} {L : List (Addr × Value)}
@[go_sem] theorem oM_extract4_0 {P : Program} {K : Value → World → Prop} {w : World} (T : TypeId) (a b c d : Value) : oM P (.extract (.tmp 0) 0) T [.tuple #[a, b, c, d]] K w = K a w := oM_of_run rfl
@[go_sem] theorem oM_extract4_1 {P : Program} {K : Value → World → Prop} {w : World} (T : TypeId) (a b c d : Value) : oM P (.extract (.tmp 0) 1) T [.tuple #[a, b, c, d]] K w = K b w := oM_of_run rfl
@[go_sem] theorem oM_extract4_2 {P : Program} {K : Value → World → Prop} {w : World} (T : TypeId) (a b c d : Value) : oM P (.extract (.tmp 0) 2) T [.tuple #[a, b, c, d]] K w = K c w := oM_of_run rfl
@[go_sem] theorem oM_extract4_3 {P : Program} {K : Value → World → Prop} {w : World} (T : TypeId) (a b c d : Value) : oM P (.extract (.tmp 0) 3) T [.tuple #[a, b, c, d]] K w = K d w := oM_of_run rfl
theorem local_spdK {K : Value → World → Prop} {T' T2 : TypeId} (x : Spd) (ad : Option Addr) (m c : Nat) (hk : Kn w0 L w)
    (k : ∀ b W, Kn w0 (cellsOf L b 0 (spdC x (.slice ad m c))) W → Below w.heap.size w W → w.heap.size ≤ b → K (.pointer (some ⟨b, 0, none⟩)) W) :
    oM Tryz.prog (.alloc 47) T' [] (fun v w => oM Tryz.prog (.store 47 (.tmp 0) (.tmp 1)) T2 [v, spdV x (.slice ad m c)] (fun _ w => K v w) w) w :=
  local_kn al_spd rfl sz_spd rfl rfl (spd_one x ad m c) hk k
theorem local3 {K : Value → Value → Value → World → Prop} {T1 T2 T3 T4 T5 T6 : TypeId} (s : Stp) (ad : Option Addr) (n cc : Nat) (x : Ses) (ad2 : Option Addr) (n2 c2 : Nat) (t : Tkt) (hk : Kn w0 L w)
    (k : ∀ g1 g2 g3 W, Kn w0 (cellsOf (cellsOf (cellsOf L g1 0 (stpC s (.slice ad n cc))) g2 0 (sesC x (.slice ad2 n2 c2))) g3 0 (tktC t)) W → Below w.heap.size w W → K (ptr g1 0) (ptr g2 0) (ptr g3 0) W) :
    oM Tryz.prog (.alloc 35) T1 [] (fun v1 w => oM Tryz.prog (.alloc 41) T2 [] (fun v2 w => oM Tryz.prog (.alloc 43) T3 [] (fun v3 w =>
      oM Tryz.prog (.store 35 (.tmp 0) (.tmp 1)) T4 [v1, stpV s (.slice ad n cc)] (fun _ w => oM Tryz.prog (.store 41 (.tmp 0) (.tmp 1)) T5 [v2, sesV x (.slice ad2 n2 c2)] (fun _ w => oM Tryz.prog (.store 43 (.tmp 0) (.tmp 1)) T6 [v3, tktV t] (fun _ w => K v1 v2 v3 w) w) w) w) w) w) w := by
  refine arr_alloc al_stp fun g1 w1 h1 hg1 hh1 => ?_
  refine arr_alloc al_ses fun g2 w2 h2 hg2 hh2 => ?_
  refine arr_alloc al_tkt fun g3 w3 h3 hg3 hh3 => ?_
  have l1 := hh1.lt
  have l2 := hh2.lt
  have hb := (h1.on h2).on h3
  have hh1 := (hh1.next h2).next h3
  have hh2 := hh2.next h3
  have s1 := h1.size
  have s2 := h2.size
  have s3 := h3.size
  refine arr_store sz_stp rfl rfl (stp_one s ad n cc) hh1 rfl (fun W1 hq1 hh1 => ?_)
  have hb := grown_below hb hq1 hg1
  refine arr_store sz_ses rfl rfl (ses_one x ad2 n2 c2) (hh2.other hq1 (by omega)) rfl (fun W2 hq2 hh2 => ?_)
  have hb := grown_below hb hq2 (by omega)
  refine arr_store sz_tkt rfl rfl (tkt_one t) ((hh3.other hq1 (by omega)).other hq2 (by omega)) rfl (fun W3 hq3 hh3 => ?_)
  have hb := grown_below hb hq3 (by omega)
  have hh1 := (hh1.other hq2 (by omega)).other hq3 (by omega)
  have hh2 := hh2.other hq3 (by omega)
  have hk := hk.next hb
  refine k g1 g2 g3 W3 ⟨hk.below, ?_⟩ hb
  have A := fun {vs : List Value} {g : Nat} {T : TypeId} {L : List (Addr × Value)} (h : Holds W3 g T vs) (hL : cellsAre W3 L) => cellsOf_are (xs := vs) hL (fun i v hi => by
    obtain ⟨hl, rfl⟩ := List.getElem?_eq_some_iff.1 hi
    exact h.cell i hl) vs 0 rfl
  exact A hh3 (A hh2 (A hh1 hk.cells))
end
end Go.Proofs
namespace TkSpec
open FdSpec
theorem inv_tab : ∀ n ∈ ordL, ∀ b : Nat, b < n → 0 < b → powM (n : Int) (b : Int) (-1) * (b : Int) % (n : Int) = 1 := by decide +kernel
def Cg (n : Nat) (a b : Int) : Prop := ∃ q : Int, a = b + n * q
namespace Cg
variable {n : Nat} {a b c d : Int}
theorem rfl' (a : Int) : Cg n a a := ⟨0, by simp⟩
theorem of_eq (h : a = b) : Cg n a b := ⟨0, by simp [h]⟩
theorem symm (h : Cg n a b) : Cg n b a := by obtain ⟨q, h⟩ := h; exact ⟨-q, by grind⟩
theorem trans (h : Cg n a b) (k : Cg n b c) : Cg n a c := by obtain ⟨q, h⟩ := h; obtain ⟨r, k⟩ := k; exact ⟨q + r, by grind⟩
theorem add (h : Cg n a b) (k : Cg n c d) : Cg n (a + c) (b + d) := by obtain ⟨q, h⟩ := h; obtain ⟨r, k⟩ := k; exact ⟨q + r, by grind⟩
theorem sub (h : Cg n a b) (k : Cg n c d) : Cg n (a - c) (b - d) := by obtain ⟨q, h⟩ := h; obtain ⟨r, k⟩ := k; exact ⟨q - r, by grind⟩
theorem mul (h : Cg n a b) (k : Cg n c d) : Cg n (a * c) (b * d) := by obtain ⟨q, h⟩ := h; obtain ⟨r, k⟩ := k; exact ⟨q * d + b * r + n * q * r, by grind⟩
theorem mod (n : Nat) (a : Int) : Cg n (a % n) a := ⟨-(a / n), by have := Int.emod_add_mul_ediv a n; grind⟩
theorem eq (h : Cg n a b) (h1 : 0 ≤ a ∧ a < n) (h2 : 0 ≤ b ∧ b < n) : a = b := by
  obtain ⟨q, h⟩ := h
  have e : a % n = b % n := by rw [h, Int.add_mul_emod_self_left]
  rwa [Int.emod_eq_of_lt h1.1 h1.2, Int.emod_eq_of_lt h2.1 h2.2] at e
theorem cancel (hn : n ∈ ordL) (hc : 0 < c % n) (h : Cg n (c * a) (c * b)) : Cg n a b := by
  obtain ⟨i, q, hi⟩ := inv_ex hn hc
  obtain ⟨r, h⟩ := h
  exact ⟨i * r - q * a + q * b, by grind⟩
theorem addM {n : Nat} (hn : okN n) (a b : Int) : Cg n (addM n a b) (a + b) := by unfold FdSpec.addM; rw [if_pos hn]; exact mod _ _
theorem subM {n : Nat} (hn : okN n) (a b : Int) : Cg n (subM n a b) (a - b) := by unfold FdSpec.subM; rw [if_pos hn]; exact mod _ _
theorem mulM {n : Nat} (hn : okN n) (a b : Int) : Cg n (mulM n a b) (a * b) := by unfold FdSpec.mulM; rw [if_pos hn]; exact mod _ _
theorem E (h : Cg n a b) : E n a = E n b := by obtain ⟨q, h⟩ := h; exact E_dvd h
theorem of_E (hn : n ∈ ordL) (h : TkSpec.E n a = TkSpec.E n b) : Cg n a b := E_ex hn h
end Cg
theorem pos_mod {n : Nat} {a : Int} (h1 : 1 ≤ a) (h2 : a < n) : 0 < a % n := by rw [Int.emod_eq_of_lt (by omega) h2]; omega
theorem over_C {n : Nat} (hn : n ∈ ordL) {s : Stp} (hg : s.g = grp n) (a : Int) {b : Int} (h1 : 1 ≤ b) (h2 : b < n) : Cg n (overQ s a b * b) a := by
  have hq := (ok_of hn).q
  have ht := inv_tab n hn b.toNat (by omega) (by omega)
  rw [Int.toNat_of_nonneg (by omega)] at ht
  have e : overQ s a b = mulM n a (powM n b (-1)) := by unfold overQ mulQ; rw [hg]; rfl
  rw [e]
  have c1 := Cg.mulM hq a (powM n b (-1))
  have c2 := Cg.mod n (powM n b (-1) * b)
  rw [ht] at c2
  have c3 := (c1.mul (Cg.rfl' b)).trans (Cg.of_eq (b := a * (powM n b (-1) * b)) (by grind))
  exact (c3.trans ((Cg.rfl' a).mul c2.symm)).trans (Cg.of_eq (by grind))
theorem mulQ1 {n : Nat} (hn : n ∈ ordL) {s : Stp} (hg : s.g = grp n) (a b : Int) : Cg n (mulQ s a [b]) (a * b) ∧ 0 ≤ mulQ s a [b] ∧ mulQ s a [b] < n := by
  have e : mulQ s a [b] = mulM n a b := by unfold mulQ; rw [hg]; rfl
  rw [e]
  exact ⟨Cg.mulM (ok_of hn).q _ _, mulM_range _ _ _ (ok_of hn).q⟩
theorem plusQ1 {n : Nat} (hn : n ∈ ordL) {s : Stp} (hg : s.g = grp n) (a b : Int) : Cg n (plusQ s a b) (a + b) ∧ 0 ≤ plusQ s a b ∧ plusQ s a b < n := by
  have e : plusQ s a b = addM n a b := by unfold plusQ; rw [hg]; rfl
  rw [e]
  exact ⟨Cg.addM (ok_of hn).q _ _, addM_range _ _ _ (ok_of hn).q⟩
theorem overQ_rng {n : Nat} (hn : n ∈ ordL) {s : Stp} (hg : s.g = grp n) (a b : Int) : 0 ≤ overQ s a b ∧ overQ s a b < n := by
  have e : overQ s a b = mulM n a (powM n b (-1)) := by unfold overQ mulQ; rw [hg]; rfl
  rw [e]
  exact mulM_range _ _ _ (ok_of hn).q
theorem pw_rng {n : Nat} (hn : n ∈ ordL) (k : Int) : 1 ≤ E n k ∧ E n k < 2 * (n : Int) + 1 := by
  have h5 := (ok_of hn).five
  have h := pw_nonneg (2 * n + 1) 4 (k % n).toNat (by omega)
  have he : E n k * E n (-k) % (2 * n + 1) = 1 := by
    rw [E_add (ok_of hn), show k + -k = 0 by omega, E_zero (ok_of hn)]
  refine ⟨?_, h.2⟩
  have h0 : 0 ≤ E n k := h.1
  rcases Int.lt_or_eq_of_le h0 with h1 | h1
  · omega
  · rw [← h1, Int.zero_mul, Int.zero_emod] at he; omega
theorem elem_E {n : Nat} (hn : n ∈ ordL) (hv : validG (grp n) = true) (k : Int) : elemG (grp n) (E n k) = true := by
  obtain ⟨h1, h2⟩ := pw_rng hn k
  have h5 := (ok_of hn).five
  have e : pw (2 * n + 1) (E n k) n = 1 := by
    have h3 := pw_pw (2 * (n : Int) + 1) 4 (k % n).toNat n
    have h4 : pw (2 * (n : Int) + 1) 4 ((k % n).toNat * n) = E n (((k % n).toNat * n : Nat) : Int) := (E_nat (ok_of hn) _).symm
    rw [h4] at h3
    have h6 : E n (((k % n).toNat * n : Nat) : Int) = E n 0 := E_dvd (q := ((k % n).toNat : Int)) (by push_cast; grind)
    rw [h6, E_zero (ok_of hn)] at h3
    exact h3
  unfold elemG
  rw [hv]
  show (decide (1 ≤ E n k) && decide (E n k < 2 * (n : Int) + 1) && true && decide (pw (2 * (n : Int) + 1) (E n k) ((n : Int).toNat) = 1)) = true
  rw [Int.toNat_natCast, decide_eq_true h1, decide_eq_true h2, decide_eq_true e]
  rfl
theorem E_ne_one {n : Nat} (hn : n ∈ ordL) {k : Int} (h : 0 < k % n) : E n k ≠ 1 := by
  intro he
  rw [← E_zero (ok_of hn)] at he
  have := E_inj hn he
  rw [Int.zero_emod] at this
  omega
theorem mul_pos {n : Nat} (hn : n ∈ ordL) {a b : Int} (ha : 0 < a % n) (hb : 0 < b % n) : 0 < a * b % n := by
  have h5 := (ok_of hn).five
  have h1 := Int.emod_nonneg (a * b) (b := n) (by omega)
  rcases Int.lt_or_eq_of_le h1 with h | h
  · exact h
  · exfalso
    have hc : Cg n (a * b) (a * 0) := by
      rw [Int.mul_zero]
      exact (Cg.mod n (a * b)).symm.trans (Cg.of_eq h.symm)
    obtain ⟨q, hq⟩ := hc.cancel hn ha
    rw [hq, Int.zero_add, Int.mul_emod_right] at hb
    omega
end TkSpec
namespace TkSpec
open FdSpec
theorem numStep_rng {n : Int} (hn : okN n) : ∀ (l : List UInt8) (o : Int), 0 ≤ o ∧ o < n → 0 ≤ l.foldl (numStep n) o ∧ l.foldl (numStep n) o < n
  | [], o, h => h
  | b :: l, o, h => numStep_rng hn l _ (addM_range _ _ _ hn)
theorem innerQ_rng {n : Nat} (hn : n ∈ ordL) {s : Stp} (hg : s.g = grp n) (t : Tkt) : 0 ≤ innerQ s t ∧ innerQ s t < n := by
  have h := numStep_rng (ok_of hn).q (ShaSpec.sha (CodeSpec.encNums (innL t))) 0 ⟨by omega, by have := (ok_of hn).five; omega⟩
  have e : innerQ s t = numberM (CodeSpec.encNums (innL t)) n := by unfold innerQ; rw [hg]; rfl
  rw [e]
  unfold numberM
  rw [if_pos (ok_of hn).q]
  exact h
theorem innerQ_r (s : Stp) (t : Tkt) (r : Int) : innerQ s { t with r := r } = innerQ s t := rfl
section
variable {n : Nat} (hn : n ∈ ordL) {s : Stp} {ns : List Int} (hg : s.g = grp n) (hb : s.bases = ns.map (E n))
include hn hg
theorem gen_E (k : Int) : genM s k = E n k := by
  unfold genM
  rw [hg]
  exact powerG_4 (ok_of hn) k
theorem pow_E (a k : Int) : powerG s.g (E n a) k = E n (a * k) := by rw [hg]; exact powerG_E (ok_of hn) a k
theorem times_E (a b : Int) : timesM s (E n a) [E n b] = E n (a + b) := by
  unfold timesM
  rw [hg]
  exact timesG_E (ok_of hn) a b
theorem nums_one {a m : Int} : numsM s a [m] = true ↔ a ≤ m ∧ m < n := by
  unfold numsM
  rw [hg]
  show ([m].all fun x => decide (a ≤ x) && decide (x < (n : Int))) = true ↔ _
  simp
include hb
theorem usable_E {l : List Int} (hu : (usableM s l).2 = true) : (usableM s l).1 = E n (dot ns (1 :: l)) ∧ 0 < dot ns (1 :: l) % n := by
  obtain ⟨h1, h2, _⟩ := Go.Proofs.mark_E hn hg hb hu
  exact ⟨h1, E_ne hn h2⟩
theorem propose_E {X W : Int} {l : List Int} (h : (proposeM s X l W).2 = 0) : (usableM s l).2 = true ∧ (1 ≤ X ∧ X < n) ∧ (0 ≤ W ∧ W < n) ∧
    (proposeM s X l W).1 = ⟨E n (dot ns (1 :: l) * X), E n W, E n (dot ns (1 :: l) * W)⟩ := by
  unfold proposeM at h ⊢
  split at h
  · rename_i hc
    rw [if_pos hc]
    simp only [Bool.and_eq_true] at hc
    obtain ⟨⟨h1, h2⟩, h3⟩ := hc
    obtain ⟨e, _⟩ := usable_E hn hg hb h1
    refine ⟨h1, (nums_one hn hg).1 h2, (nums_one hn hg).1 h3, ?_⟩
    rw [e, pow_E hn hg, pow_E hn hg, gen_E hn hg]
  · cases h
theorem askTkt_E {X W : Int} {l : List Int} (hu : (usableM s l).2 = true) (b : Bld) :
    askTkt s l ⟨E n (dot ns (1 :: l) * X), E n W, E n (dot ns (1 :: l) * W)⟩ b =
      ⟨E n (dot ns (1 :: l) * b.s), (prodG s.g s.bases b.ys).1, E n (dot ns (1 :: l) * b.s * X), E n (W * b.u + b.v), E n (dot ns (1 :: l) * b.s * (W * b.u + b.v)), 0⟩ := by
  obtain ⟨e, _⟩ := usable_E hn hg hb hu
  unfold askTkt
  rw [e]
  dsimp only
  rw [pow_E hn hg, pow_E hn hg, pow_E hn hg, pow_E hn hg, pow_E hn hg, gen_E hn hg, times_E hn hg, times_E hn hg]
  congr 1
  · exact congrArg _ (by grind)
  · refine Cg.E ?_
    have h := (mulQ1 hn hg b.s b.u).1
    exact ((((Cg.rfl' (dot ns (1 :: l) * W)).mul h).add (Cg.rfl' _)).trans (Cg.of_eq (by grind)))
theorem valid_of {l : List Int} (hu : (usableM s l).2 = true) : validS s = true ∧ validG (grp n) = true := by
  have hv : validS s = true := by
    unfold usableM markM at hu
    simp only [Bool.and_eq_true] at hu
    split at hu
    · rename_i h
      exact h.1.1.1
    · cases hu.1
  refine ⟨hv, ?_⟩
  unfold validS at hv
  simp only [Bool.and_eq_true] at hv
  rw [← hg]; exact hv.1.1.1.1
theorem public_E {X : Int} {l : List Int} (hu : (usableM s l).2 = true) (hX : 1 ≤ X ∧ X < n) : publicM s X = E n X := by
  unfold publicM
  rw [(valid_of hn hg hb hu).1, (nums_one hn hg).2 hX]
  exact gen_E hn hg X
theorem grant_E {X W c : Int} {l : List Int} (hu : (usableM s l).2 = true) (hX : 1 ≤ X ∧ X < n) (hW : 0 ≤ W ∧ W < n) (hc : 0 ≤ c ∧ c < n) : Cg n (grantM s X W c) (c * X + W) ∧ 0 ≤ grantM s X W c ∧ grantM s X W c < n := by
  have h2 : numsM s 0 [W, c] = true := by
    unfold numsM
    rw [hg]
    show ([W, c].all fun x => decide (0 ≤ x) && decide (x < (n : Int))) = true
    simp [hW.1, hW.2, hc.1, hc.2]
  unfold grantM
  rw [(valid_of hn hg hb hu).1, (nums_one hn hg).2 hX, h2]
  show Cg n (plusQ s (mulQ s c [X]) W) _ ∧ 0 ≤ plusQ s (mulQ s c [X]) W ∧ plusQ s (mulQ s c [X]) W < n
  have h3 := plusQ1 hn hg (mulQ s c [X]) W
  exact ⟨h3.1.trans ((mulQ1 hn hg c X).1.add (Cg.rfl' W)), h3.2⟩
theorem askFine_E {X W : Int} {l : List Int} (hu : (usableM s l).2 = true) (hX : 1 ≤ X ∧ X < n) {b : Bld} (hbl : blindsM s b = true) :
    askFine s (publicM s X) l ⟨E n (dot ns (1 :: l) * X), E n W, E n (dot ns (1 :: l) * W)⟩ b = true := by
  obtain ⟨hv, hvg⟩ := valid_of hn hg hb hu
  have hel := fun k => elem_E hn hvg k
  have h5 := (usable_E hn hg hb hu).2
  have hXm := pos_mod hX.1 hX.2
  unfold askFine keyM elementsM
  rw [hu, hbl, public_E hn hg hb hu hX, hg]
  simp only [List.all_cons, List.all_nil, hel, Bool.and_true, Bool.true_and]
  rw [decide_eq_false (E_ne_one hn hXm), decide_eq_false (E_ne_one hn (mul_pos hn h5 hXm))]
  rfl
theorem signed_E {X W : Int} {l : List Int} (hu : (usableM s l).2 = true) (hX : 1 ≤ X ∧ X < n) (hW : 0 ≤ W ∧ W < n) {c r : Int} (hr : Cg n r (c * X + W)) :
    signedM s (publicM s X) (usableM s l).1 c r ⟨E n (dot ns (1 :: l) * X), E n W, E n (dot ns (1 :: l) * W)⟩ = true := by
  unfold signedM
  rw [public_E hn hg hb hu hX, (usable_E hn hg hb hu).1]
  dsimp only
  rw [gen_E hn hg, pow_E hn hg, pow_E hn hg, pow_E hn hg, times_E hn hg, times_E hn hg]
  have e1 : E n r = E n (X * c + W) := (hr.trans (Cg.of_eq (by grind))).E
  have e2 : E n (dot ns (1 :: l) * r) = E n (dot ns (1 :: l) * X * c + dot ns (1 :: l) * W) := (((Cg.rfl' _).mul hr).trans (Cg.of_eq (by grind))).E
  rw [decide_eq_true e1, decide_eq_true e2]
  rfl
structure TktE (n : Nat) (s : Stp) (t : Tkt) (f X A h : Int) (F : Int) : Prop where
  mark : t.mark = E n f
  first : t.first = F
  z : t.z = E n (f * X)
  a : t.a = E n A
  b : t.b = E n (f * A)
  r : Cg n t.r (h * X + A)
  rr : 0 ≤ t.r ∧ t.r < n
  inn : innerQ s t = h
  h0 : h ≠ 0
  f0 : 0 < f % n
  X1 : 1 ≤ X ∧ X < n
theorem issued_E {X W : Int} {l : List Int} {b : Bld} (hp : (proposeM s X l W).2 = 0)
    (hf : (finishM s (publicM s X) l (proposeM s X l W).1 b (grantM s X W (askM s (publicM s X) l (proposeM s X l W).1 b).1)).2 = 0) :
    ∃ A h, TktE n s (finishM s (publicM s X) l (proposeM s X l W).1 b (grantM s X W (askM s (publicM s X) l (proposeM s X l W).1 b).1)).1 (dot ns (1 :: l) * b.s) X A h (prodG s.g s.bases b.ys).1 := by
  obtain ⟨hu, hX, hW, ho⟩ := propose_E hn hg hb hp
  rw [ho] at hf ⊢
  have hask : askErr s (publicM s X) l ⟨E n (dot ns (1 :: l) * X), E n W, E n (dot ns (1 :: l) * W)⟩ b = 0 := by
    unfold finishM at hf
    split at hf
    · rename_i hc; exact absurd hf hc
    · rename_i hc; exact Classical.not_not.1 hc
  have hfine : askFine s (publicM s X) l ⟨E n (dot ns (1 :: l) * X), E n W, E n (dot ns (1 :: l) * W)⟩ b = true := by
    unfold askErr at hask
    split at hask
    · assumption
    · cases hask
  have hin : innerQ s (askTkt s l ⟨E n (dot ns (1 :: l) * X), E n W, E n (dot ns (1 :: l) * W)⟩ b) ≠ 0 := by
    unfold askErr at hask
    rw [if_pos hfine] at hask
    split at hask
    · cases hask
    · assumption
  have hbl : blindsM s b = true := by
    unfold askFine at hfine
    simp only [Bool.and_eq_true] at hfine
    exact hfine.2
  have hS : (1 ≤ b.s ∧ b.s < n) ∧ (1 ≤ b.u ∧ b.u < n) := by
    unfold blindsM numsM at hbl
    rw [hg] at hbl
    simp only [Bool.and_eq_true, List.all_cons, List.all_nil, decide_eq_true_eq] at hbl
    exact ⟨hbl.1.1.1.1, hbl.1.1.1.2.1⟩
  have hC : (askM s (publicM s X) l ⟨E n (dot ns (1 :: l) * X), E n W, E n (dot ns (1 :: l) * W)⟩ b).1 = askC s l ⟨E n (dot ns (1 :: l) * X), E n W, E n (dot ns (1 :: l) * W)⟩ b := by
    unfold askM
    dsimp only
    rw [if_pos hask]
  rw [hC] at hf ⊢
  have hCr : 0 ≤ askC s l ⟨E n (dot ns (1 :: l) * X), E n W, E n (dot ns (1 :: l) * W)⟩ b ∧ askC s l ⟨E n (dot ns (1 :: l) * X), E n W, E n (dot ns (1 :: l) * W)⟩ b < n := overQ_rng hn hg _ _
  have hgr := grant_E hn hg hb hu hX hW hCr
  have hfin : (finishM s (publicM s X) l ⟨E n (dot ns (1 :: l) * X), E n W, E n (dot ns (1 :: l) * W)⟩ b (grantM s X W (askC s l ⟨E n (dot ns (1 :: l) * X), E n W, E n (dot ns (1 :: l) * W)⟩ b))).1 =
      { askTkt s l ⟨E n (dot ns (1 :: l) * X), E n W, E n (dot ns (1 :: l) * W)⟩ b with r := plusQ s (mulQ s (grantM s X W (askC s l ⟨E n (dot ns (1 :: l) * X), E n W, E n (dot ns (1 :: l) * W)⟩ b)) [b.u]) b.v } := by
    unfold finishM
    rw [if_neg (by simp [hask]), (nums_one hn hg).2 hgr.2]
    rw [signed_E hn hg hb hu hX hW hgr.1]
    rfl
  rw [hfin]
  have hov : Cg n (askC s l ⟨E n (dot ns (1 :: l) * X), E n W, E n (dot ns (1 :: l) * W)⟩ b * b.u) (innerQ s (askTkt s l ⟨E n (dot ns (1 :: l) * X), E n W, E n (dot ns (1 :: l) * W)⟩ b)) := over_C hn hg _ hS.2.1 hS.2.2
  generalize askC s l ⟨E n (dot ns (1 :: l) * X), E n W, E n (dot ns (1 :: l) * W)⟩ b = C at *
  have hT := askTkt_E (X := X) (W := W) hn hg hb hu b
  rw [hT] at hin hov ⊢
  have hpr := plusQ1 hn hg (mulQ s (grantM s X W C) [b.u]) b.v
  have hmr := (mulQ1 hn hg (grantM s X W C) b.u).1
  refine ⟨W * b.u + b.v, innerQ s ⟨E n (dot ns (1 :: l) * b.s), (prodG s.g s.bases b.ys).1, E n (dot ns (1 :: l) * b.s * X), E n (W * b.u + b.v), E n (dot ns (1 :: l) * b.s * (W * b.u + b.v)), 0⟩, ⟨rfl, rfl, rfl, rfl, rfl, ?_, hpr.2, innerQ_r _ _ _, hin, mul_pos hn (usable_E hn hg hb hu).2 (pos_mod hS.1.1 hS.1.2), hX⟩⟩
  dsimp only
  have h1 := hpr.1.trans ((hmr.trans (hgr.1.mul (Cg.rfl' b.u))).add (Cg.rfl' b.v))
  exact h1.trans (((hov.mul (Cg.rfl' X)).add (Cg.rfl' (W * b.u + b.v))).symm.trans (Cg.of_eq (by grind))).symm
end
end TkSpec
namespace TkSpec
open FdSpec
def obtainsM (s : Stp) (key : Int) (x : Ses) (b : Bld) (t : Tkt) (p : Spd) : Bool :=
  decide ((askM s key x.attrs x.offer b).2 = 0) && decide ((askM s key x.attrs x.offer b).1 = x.c) &&
    (decide ((finishM s key x.attrs x.offer b x.r).2 = 0) && decide ((finishM s key x.attrs x.offer b x.r).1 = t) && (useM s x.attrs b p.dare).2 &&
      (decide ((useM s x.attrs b p.dare).1.dare = p.dare) && decide ((useM s x.attrs b p.dare).1.answers = p.answers)))
section
variable {n : Nat} (hn : n ∈ ordL) {s : Stp} {ns : List Int} (hg : s.g = grp n) (hb : s.bases = ns.map (E n))
include hn hg hb
theorem obtains_need {x w c0 : Int} {attrs : List Int} {t : Tkt} {p : Spd} {f X A hv F : Int} (ht : TktE n s t f X A hv F) (hp : (proposeM s x attrs w).2 = 0) (hc0 : 1 ≤ c0 ∧ c0 < n)
    {i0 : Int} (huniq : ∀ j : Int, 1 ≤ j → j < n → E n (dot ns (1 :: attrs) * j) = E n f → j = i0) {i k j r : Int} {ys : List Int} (hi : 1 ≤ i ∧ i < n) (hk : 1 ≤ k ∧ k < n)
    (h : obtainsM s (publicM s x) ⟨attrs, (proposeM s x attrs w).1, c0, r⟩ ⟨i, k, j, ys⟩ t p = true) : x = X ∧ i = i0 ∧ Cg n (c0 * k) hv ∧ Cg n (w * k + j) A := by
  obtain ⟨hu, hx, hw, ho⟩ := propose_E hn hg hb hp
  unfold obtainsM at h
  rw [ho] at h
  simp only [Bool.and_eq_true, decide_eq_true_eq] at h
  obtain ⟨⟨h1, h2⟩, ⟨⟨h3, h4⟩, _⟩, _⟩ := h
  have hask : askErr s (publicM s x) attrs ⟨E n (dot ns (1 :: attrs) * x), E n w, E n (dot ns (1 :: attrs) * w)⟩ ⟨i, k, j, ys⟩ = 0 := h1
  have hC : askC s attrs ⟨E n (dot ns (1 :: attrs) * x), E n w, E n (dot ns (1 :: attrs) * w)⟩ ⟨i, k, j, ys⟩ = c0 := by
    unfold askM at h2
    dsimp only at h2
    rw [if_pos hask] at h2
    exact h2
  have hov : Cg n (askC s attrs ⟨E n (dot ns (1 :: attrs) * x), E n w, E n (dot ns (1 :: attrs) * w)⟩ ⟨i, k, j, ys⟩ * k) (innerQ s (askTkt s attrs ⟨E n (dot ns (1 :: attrs) * x), E n w, E n (dot ns (1 :: attrs) * w)⟩ ⟨i, k, j, ys⟩)) := over_C hn hg _ hk.1 hk.2
  rw [hC] at hov
  have hT := askTkt_E (X := x) (W := w) hn hg hb hu ⟨i, k, j, ys⟩
  dsimp only at hT
  unfold finishM at h3 h4
  rw [if_neg (by simp [hask])] at h3 h4
  split at h4
  · rename_i hc; rw [if_pos hc] at h3; cases h3
  split at h4
  · rename_i hc1 hc2; rw [if_neg hc1, if_pos hc2] at h3; cases h3
  dsimp only at h4
  rw [hT] at h4 hov
  have hmk : E n (dot ns (1 :: attrs) * i) = E n f := by rw [← ht.mark, ← h4]
  have hii := huniq i hi.1 hi.2 hmk
  have hz : E n (dot ns (1 :: attrs) * i * x) = E n (f * X) := by rw [← ht.z, ← h4]
  have ha : E n (w * k + j) = E n A := by rw [← ht.a, ← h4]
  have hin : innerQ s ⟨E n (dot ns (1 :: attrs) * i), (prodG s.g s.bases ys).1, E n (dot ns (1 :: attrs) * i * x), E n (w * k + j), E n (dot ns (1 :: attrs) * i * (w * k + j)), 0⟩ = hv := by
    rw [← ht.inn, ← h4]
    rfl
  rw [hin] at hov
  have hfx : Cg n (f * x) (f * X) := (((Cg.of_E hn hmk).symm.mul (Cg.rfl' x)).trans (Cg.of_E hn hz))
  have hxX := hfx.cancel hn ht.f0
  exact ⟨hxX.eq ⟨by omega, hx.2⟩ ⟨by have := ht.X1; omega, ht.X1.2⟩, hii, hov, Cg.of_E hn ha⟩
theorem obtains_suff {w c0 : Int} {attrs : List Int} {t : Tkt} {p : Spd} {f X A h F : Int} (ht : TktE n s t f X A h F) (hp : (proposeM s X attrs w).2 = 0) (hc0 : 1 ≤ c0 ∧ c0 < n)
    {i k j : Int} {ys : List Int} (hm : E n (dot ns (1 :: attrs) * i) = E n f) (hk : 1 ≤ k ∧ k < n) (hbl : blindsM s ⟨i, k, j, ys⟩ = true) (huse : useM s attrs ⟨i, k, j, ys⟩ p.dare = (p, true))
    (hF : (prodG s.g s.bases ys).1 = F) (h1 : Cg n (c0 * k) h) (h2 : Cg n (w * k + j) A) :
    obtainsM s (publicM s X) ⟨attrs, (proposeM s X attrs w).1, c0, grantM s X w c0⟩ ⟨i, k, j, ys⟩ t p = true := by
  obtain ⟨hu, hX, hw, ho⟩ := propose_E hn hg hb hp
  have hT := askTkt_E (X := X) (W := w) hn hg hb hu ⟨i, k, j, ys⟩
  dsimp only at hT
  have hcm := Cg.of_E hn hm
  have ea : E n (w * k + j) = t.a := by rw [ht.a]; exact h2.E
  have ez : E n (dot ns (1 :: attrs) * i * X) = t.z := by rw [ht.z]; exact (hcm.mul (Cg.rfl' X)).E
  have eb : E n (dot ns (1 :: attrs) * i * (w * k + j)) = t.b := by rw [ht.b]; exact (hcm.mul h2).E
  have em : E n (dot ns (1 :: attrs) * i) = t.mark := by rw [ht.mark]; exact hm
  have ef : (prodG s.g s.bases ys).1 = t.first := by rw [ht.first]; exact hF
  rw [ea, ez, eb, em, ef] at hT
  have hin : innerQ s (askTkt s attrs ⟨E n (dot ns (1 :: attrs) * X), E n w, E n (dot ns (1 :: attrs) * w)⟩ ⟨i, k, j, ys⟩) = h := by
    rw [hT, ← ht.inn]; rfl
  have hask : askErr s (publicM s X) attrs ⟨E n (dot ns (1 :: attrs) * X), E n w, E n (dot ns (1 :: attrs) * w)⟩ ⟨i, k, j, ys⟩ = 0 := by
    unfold askErr
    rw [if_pos (askFine_E hn hg hb hu hX hbl), hin, if_neg ht.h0]
  have hC : askC s attrs ⟨E n (dot ns (1 :: attrs) * X), E n w, E n (dot ns (1 :: attrs) * w)⟩ ⟨i, k, j, ys⟩ = c0 := by
    have hov : Cg n (askC s attrs ⟨E n (dot ns (1 :: attrs) * X), E n w, E n (dot ns (1 :: attrs) * w)⟩ ⟨i, k, j, ys⟩ * k) (innerQ s (askTkt s attrs ⟨E n (dot ns (1 :: attrs) * X), E n w, E n (dot ns (1 :: attrs) * w)⟩ ⟨i, k, j, ys⟩)) := over_C hn hg _ hk.1 hk.2
    rw [hin] at hov
    have h3 : Cg n (k * askC s attrs ⟨E n (dot ns (1 :: attrs) * X), E n w, E n (dot ns (1 :: attrs) * w)⟩ ⟨i, k, j, ys⟩) (k * c0) := ((Cg.of_eq (by grind)).trans (hov.trans h1.symm)).trans (Cg.of_eq (by grind))
    exact (h3.cancel hn (pos_mod hk.1 hk.2)).eq (overQ_rng hn hg _ _) ⟨by omega, hc0.2⟩
  have hgr := grant_E hn hg hb hu hX hw (c := c0) ⟨by omega, hc0.2⟩
  have hpr := plusQ1 hn hg (mulQ s (grantM s X w c0) [k]) j
  have hmr := (mulQ1 hn hg (grantM s X w c0) k).1
  have er : plusQ s (mulQ s (grantM s X w c0) [k]) j = t.r := by
    refine Cg.eq (n := n) ?_ hpr.2 ht.rr
    have h3 := hpr.1.trans ((hmr.trans (hgr.1.mul (Cg.rfl' k))).add (Cg.rfl' j))
    have h4 : Cg n ((c0 * X + w) * k + j) (h * X + A) := (Cg.of_eq (by grind)).trans ((h1.mul (Cg.rfl' X)).add h2)
    exact (h3.trans h4).trans ht.r.symm
  have hfin : finishM s (publicM s X) attrs ⟨E n (dot ns (1 :: attrs) * X), E n w, E n (dot ns (1 :: attrs) * w)⟩ ⟨i, k, j, ys⟩ (grantM s X w c0) = (t, 0) := by
    unfold finishM
    rw [if_neg (by simp [hask]), (nums_one hn hg).2 hgr.2, hC]
    rw [signed_E hn hg hb hu hX hw hgr.1, hT]
    dsimp only
    rw [er]
    rfl
  unfold obtainsM
  rw [ho]
  dsimp only
  rw [hfin, huse]
  have ha : askM s (publicM s X) attrs ⟨E n (dot ns (1 :: attrs) * X), E n w, E n (dot ns (1 :: attrs) * w)⟩ ⟨i, k, j, ys⟩ = (c0, 0) := by
    unfold askM
    rw [if_pos hask, hask, hC]
  rw [ha]
  simp
theorem hits {x w c0 : Int} {attrs : List Int} {t : Tkt} {p : Spd} {f X A h F : Int} (ht : TktE n s t f X A h F) (hp : (proposeM s x attrs w).2 = 0) (hc0 : 1 ≤ c0 ∧ c0 < n)
    {i0 : Int} (hi0 : 1 ≤ i0 ∧ i0 < n) (hm : E n (dot ns (1 :: attrs) * i0) = E n f) (huniq : ∀ j : Int, 1 ≤ j → j < n → E n (dot ns (1 :: attrs) * j) = E n f → j = i0) (ys : Int → List Int)
    (hys : ∀ k j : Int, 1 ≤ k → k < n → 0 ≤ j → j < n → blindsM s ⟨i0, k, j, ys i0⟩ = true ∧ useM s attrs ⟨i0, k, j, ys i0⟩ p.dare = (p, true)) (hF : (prodG s.g s.bases (ys i0)).1 = F) :
    ∃ tg : Option (Int × Int × Int), (x = X → ∃ k0 j0, tg = some (i0, k0, j0) ∧ (1 ≤ k0 ∧ k0 < n) ∧ 0 ≤ j0 ∧ j0 < n) ∧ (x ≠ X → tg = none) ∧
      ∀ i k j : Int, 1 ≤ i → i < n → 1 ≤ k → k < n → 0 ≤ j → j < n →
        obtainsM s (publicM s x) ⟨attrs, (proposeM s x attrs w).1, c0, grantM s x w c0⟩ ⟨i, k, j, ys i⟩ t p = decide (tg = some (i, k, j)) := by
  have h5 := (ok_of hn).five
  by_cases hx : x = X
  rotate_left
  · refine ⟨none, fun h => absurd h hx, fun _ => rfl, fun i k j h1 h2 h3 h4 h5 h6 => ?_⟩
    rw [decide_eq_false (by simp)]
    cases hq : obtainsM s (publicM s x) ⟨attrs, (proposeM s x attrs w).1, c0, grantM s x w c0⟩ ⟨i, k, j, ys i⟩ t p with
    | false => rfl
    | true => exact absurd (obtains_need hn hg hb ht hp hc0 huniq ⟨h1, h2⟩ ⟨h3, h4⟩ hq).1 hx
  subst hx
  obtain ⟨c, q, hc⟩ := inv_ex hn (pos_mod hc0.1 hc0.2)
  have hkc : Cg n (c0 * (h * c % n)) h := ((Cg.rfl' c0).mul (Cg.mod n (h * c))).trans ((Cg.of_eq (b := h * (1 + n * q)) (by rw [← hc]; grind)).trans ⟨h * q, by grind⟩)
  have hk1 := Int.emod_nonneg (h * c) (b := n) (by omega)
  have hk2 := Int.emod_lt_of_pos (h * c) (b := n) (by omega)
  have hj1 := Int.emod_nonneg (A - w * (h * c % n)) (b := n) (by omega)
  have hj2 := Int.emod_lt_of_pos (A - w * (h * c % n)) (b := n) (by omega)
  have hin := innerQ_rng hn hg t
  rw [ht.inn] at hin
  have hk0 : h * c % n ≠ 0 := by
    intro e
    rw [e, Int.mul_zero] at hkc
    exact ht.h0 (hkc.eq ⟨by omega, by omega⟩ hin).symm
  have hja : Cg n (w * (h * c % n) + (A - w * (h * c % n)) % n) A := ((Cg.rfl' _).add (Cg.mod n _)).trans (Cg.of_eq (by grind))
  refine ⟨some (i0, h * c % n, (A - w * (h * c % n)) % n), fun _ => ⟨_, _, rfl, ⟨by omega, hk2⟩, hj1, hj2⟩, fun e => absurd rfl e, fun i k j a1 a2 a3 a4 a5 a6 => ?_⟩
  by_cases he : (i0, h * c % n, (A - w * (h * c % n)) % n) = (i, k, j)
  · rw [decide_eq_true (by rw [he])]
    simp only [Prod.mk.injEq] at he
    obtain ⟨e1, e2, e3⟩ := he
    subst e1
    rw [e2] at hkc hja e3
    rw [e3] at hja
    obtain ⟨y1, y2⟩ := hys k j a3 a4 a5 a6
    exact obtains_suff hn hg hb ht hp hc0 hm ⟨a3, a4⟩ y1 y2 hF hkc hja
  · rw [decide_eq_false (fun e => he (Option.some.inj e))]
    cases hq : obtainsM s (publicM s x) ⟨attrs, (proposeM s x attrs w).1, c0, grantM s x w c0⟩ ⟨i, k, j, ys i⟩ t p with
    | false => rfl
    | true =>
      exfalso
      obtain ⟨_, n1, n2, n3⟩ := obtains_need hn hg hb ht hp hc0 huniq ⟨a1, a2⟩ ⟨a3, a4⟩ hq
      have e2 : k = h * c % n := ((n2.trans hkc.symm).cancel hn (pos_mod hc0.1 hc0.2)).eq ⟨by omega, a4⟩ ⟨hk1, hk2⟩
      subst n1
      rw [← e2] at hja he
      have e3 : j = (A - w * k) % n := by
        have := (n3.sub (Cg.rfl' (w * k))).trans (hja.symm.sub (Cg.rfl' (w * k)))
        exact (((Cg.of_eq (by grind)).trans this).trans (Cg.of_eq (by grind))).eq ⟨a5, a6⟩ ⟨by rw [← e2] at hj1; exact hj1, by rw [← e2] at hj2; exact hj2⟩
      exact he (by rw [← e3])
end
end TkSpec
namespace Go.Proofs
open FdSpec TkSpec
def anotherM (s : Stp) (x : Int) (attrs : List Int) (w n : Int) : Ses × Bool :=
  if (proposeM s x attrs w).2 ≠ 0 ∨ n < 1 ∨ s.g.Q ≤ n then (zX, false) else (⟨attrs, (proposeM s x attrs w).1, n, grantM s x w n⟩, true)
theorem issued_det {c : Cas} (h : (issuedM c).ok = true) : (issuedM c).s = (madeM c).1 ∧ (madeM c).2 = true ∧ (proposeM (madeM c).1 c.x c.attrs c.w).2 = 0 ∧
    (finishM (madeM c).1 (publicM (madeM c).1 c.x) c.attrs (proposeM (madeM c).1 c.x c.attrs c.w).1 c.b (grantM (madeM c).1 c.x c.w (askM (madeM c).1 (publicM (madeM c).1 c.x) c.attrs (proposeM (madeM c).1 c.x c.attrs c.w).1 c.b).1)).2 = 0 ∧
    (issuedM c).t = (finishM (madeM c).1 (publicM (madeM c).1 c.x) c.attrs (proposeM (madeM c).1 c.x c.attrs c.w).1 c.b (grantM (madeM c).1 c.x c.w (askM (madeM c).1 (publicM (madeM c).1 c.x) c.attrs (proposeM (madeM c).1 c.x c.attrs c.w).1 c.b).1)).1 := by
  unfold issuedM at h ⊢
  split at h
  · rename_i h1
    rw [if_pos h1]
    simp only [Bool.and_eq_true] at h1
    split at h
    · rename_i h2
      rw [if_pos h2]
      simp only [Bool.and_eq_true, decide_eq_true_eq] at h2
      exact ⟨rfl, h1.2, h2.1, of_decide_eq_true h, rfl⟩
    · cases h
  · cases h
theorem hits_of {n : Nat} (hn : n ∈ ordL) {s : Stp} {ns : List Int} (hg : s.g = grp n) (hb : s.bases = ns.map (E n)) {X W : Int} {l : List Int} {b : Bld} (hp : (proposeM s X l W).2 = 0)
    (hf : (finishM s (publicM s X) l (proposeM s X l W).1 b (grantM s X W (askM s (publicM s X) l (proposeM s X l W).1 b).1)).2 = 0) {dare : Int} (hu : (useM s l b dare).2 = true)
    {x w c0 : Int} {attrs : List Int} (hp2 : (proposeM s x attrs w).2 = 0) (hc0 : 1 ≤ c0 ∧ c0 < n) :
    ∃ tg : Option (Int × Int × Int), (x = X → ∃ i0 k0 j0, tg = some (i0, k0, j0) ∧ (1 ≤ i0 ∧ i0 < n) ∧ (1 ≤ k0 ∧ k0 < n) ∧ 0 ≤ j0 ∧ j0 < n) ∧ (x ≠ X → tg = none) ∧
      ∀ i k j : Int, 1 ≤ i → i < n → 1 ≤ k → k < n → 0 ≤ j → j < n →
        obtainsM s (publicM s x) ⟨attrs, (proposeM s x attrs w).1, c0, grantM s x w c0⟩ ⟨i, k, j, answersM s attrs i (useM s l b dare).1⟩
          (finishM s (publicM s X) l (proposeM s X l W).1 b (grantM s X W (askM s (publicM s X) l (proposeM s X l W).1 b).1)).1 (useM s l b dare).1 = decide (tg = some (i, k, j)) := by
  obtain ⟨A, h, ht⟩ := issued_E hn hg hb hp hf
  obtain ⟨ha, _⟩ := propose_E hn hg hb hp2
  obtain ⟨i0, i1, i2, i3, i4⟩ := hides_ex hn hg hb hu ha
  have em : (markM s attrs).1 = E n (dot ns (1 :: attrs)) := (usable_E hn hg hb ha).1
  have el : (usableM s l).1 = E n (dot ns (1 :: l)) := (usable_E hn hg hb (propose_E hn hg hb hp).1).1
  obtain ⟨s1, s2⟩ := hides_same hn hg hb hu ha i1 i2 i3
  rw [em, el, pow_E hn hg, pow_E hn hg] at i3
  simp only [em, el, pow_E hn hg] at i4
  have hd : (useM s l b dare).1.dare = dare := by
    obtain ⟨u1, u2, u3⟩ := use_facts hu
    rw [useM_yes u1 u2 u3]
  have hus : (useM s attrs ⟨i0, 1, 0, answersM s attrs i0 (useM s l b dare).1⟩ dare).2 = true := by rw [s1]
  obtain ⟨f1, f2, f3⟩ := use_facts hus
  obtain ⟨tg, t1, t2, t3⟩ := hits hn hg hb ht hp2 hc0 ⟨i1, i2⟩ i3 i4 (fun i => answersM s attrs i (useM s l b dare).1) (p := (useM s l b dare).1) (fun k j k1 k2 j1 j2 => by
    have hbl : blindsM s ⟨i0, k, j, answersM s attrs i0 (useM s l b dare).1⟩ = true := by
      unfold blindsM numsM at f2 ⊢
      rw [hg] at f2 ⊢
      simp only [Bool.and_eq_true, List.all_cons, List.all_nil, decide_eq_true_eq] at f2 ⊢
      exact ⟨⟨⟨⟨f2.1.1.1.1, ⟨k1, k2⟩, trivial⟩, ⟨j1, j2⟩, trivial⟩, f2.1.2⟩, f2.2⟩
    refine ⟨hbl, ?_⟩
    rw [hd]
    rw [useM_yes f1 f2 f3] at s1
    rw [useM_yes f1 hbl f3]
    exact s1) (by rw [s2])
  refine ⟨tg, fun e => ?_, t2, t3⟩
  obtain ⟨k0, j0, e1, e2, e3⟩ := t1 e
  exact ⟨i0, k0, j0, e1, ⟨i1, i2⟩, e2, e3⟩
theorem counts_law {c : Cas} {dare x w c0 : Int} {attrs : List Int} (hok : (issuedM c).ok = true) (hq : c.q ≤ 200) (hu : (useM (issuedM c).s c.attrs c.b dare).2 = true) (ha : (anotherM (issuedM c).s x attrs w c0).2 = true) :
    5 ≤ c.q ∧ ∃ tg : Option (Int × Int × Int), (x = c.x → ∃ i0 k0 j0, tg = some (i0, k0, j0) ∧ (1 ≤ i0 ∧ i0 < c.q) ∧ (1 ≤ k0 ∧ k0 < c.q) ∧ 0 ≤ j0 ∧ j0 < c.q) ∧ (x ≠ c.x → tg = none) ∧
      ∀ i k j : Int, 1 ≤ i → i < c.q → 1 ≤ k → k < c.q → 0 ≤ j → j < c.q →
        obtainsM (issuedM c).s (publicM (issuedM c).s x) (anotherM (issuedM c).s x attrs w c0).1 ⟨i, k, j, answersM (issuedM c).s attrs i (useM (issuedM c).s c.attrs c.b dare).1⟩ (issuedM c).t (useM (issuedM c).s c.attrs c.b dare).1 = decide (tg = some (i, k, j)) := by
  obtain ⟨d1, d2, d3, d4, d5⟩ := issued_det hok
  have hmf : ∃ n : Nat, n ∈ ordL ∧ c.q = n ∧ (madeM c).1.g = grp n ∧ (madeM c).1.bases = c.m.bases.map (E n) := by
    unfold madeM at d2 ⊢
    split at d2
    · rename_i h1
      rw [if_pos h1]
      exact made_facts h1 d2 hq
    · cases d2
  obtain ⟨n, hn, eq, eg, eb⟩ := hmf
  have h5 := (ok_of hn).five
  rw [d1] at hu ha ⊢
  rw [d5, eq]
  unfold anotherM at ha ⊢
  split at ha
  · cases ha
  rename_i hc
  rw [if_neg hc]
  have hQ : (madeM c).1.g.Q = n := by rw [eg]; rfl
  exact ⟨by omega, hits_of hn eg eb d3 d4 hu (Classical.not_not.1 (fun e => hc (.inl e))) ⟨by omega, by omega⟩⟩
end Go.Proofs
namespace Go.Proofs
open Go Go.Sh Go.RowKit FdSpec TkSpec CodeSpec
set_option linter.unusedSimpArgs false
set_option linter.unusedVariables false
set_option maxRecDepth 10000
section
variable {K : Value → World → Prop} {w w0 : World} {L : List (Addr × Value)}
theorem local_offM {K : Value → World → Prop} {T' T2 : TypeId} {g n : Nat} (o : Off) (hk : KnM w0 L g n w)
    (k : ∀ b W, KnM w0 (cellsOf L b 0 [.int .i64 o.z, .int .i64 o.a, .int .i64 o.b]) g n W → Below w.heap.size w W → w.heap.size ≤ b → K (.pointer (some ⟨b, 0, none⟩)) W) :
    oM Tryz.prog (.alloc 39) T' [] (fun v w => oM Tryz.prog (.store 39 (.tmp 0) (.tmp 1)) T2 [v, offV o] (fun _ w => K v w) w) w :=
  local_knm al_off rfl sz_off rfl rfl (off_one o) hk k
theorem store_ses {K : Value → World → Prop} {T' : TypeId} {g : Nat} (s : Ses) (ad : Option Addr) (n c : Nat) (hk : KnM w0 L g 6 w)
    (k : ∀ W, KnM w0 L g 6 W → cellsAre W (cellsOf [] g 0 (sesC s (.slice ad n c))) → K undef W) : oM Tryz.prog (.store 41 (.tmp 0) (.tmp 1)) T' [.pointer (some ⟨g, 0, none⟩), sesV s (.slice ad n c)] K w := by
  obtain ⟨W, e, hg, hm, hc⟩ := store_run (P := Tryz.prog) (W := w) sz_ses (x := sesV s (.slice ad n c)) rfl rfl (ses_one s ad n c) hk.mine
  rw [oM_store, e]
  exact k W ⟨hk.kn.wrote hg hk.base hk.off, hm, hk.base, hk.off⟩ hc
theorem another_ok (s : Stp) (x w' n : Int) {v lv : Value} {l : List Int} (hx : I64 x) (hw : I64 w') (hn : I64 n) (hs : SetR w s v) (hl : Ints w lv l)
    (k : ∀ W xv, Below w.heap.size w W → SesR W (anotherM s x l w' n).1 xv → K (.tuple #[sesV (anotherM s x l w' n).1 xv, .bool (anotherM s x l w' n).2]) W) : callM Tryz.prog 34 #[stpV s v, .int .i64 x, lv, .int .i64 w', .int .i64 n] K w := by
  apply sh_34_ok
  unfold sh_34
  have hs' := hs
  obtain ⟨ad, c, rfl⟩ := hs.ints.isSlice
  obtain ⟨lad, lc, rfl⟩ := hl.isSlice
  refine box_kn (cs := stpC s (.slice ad s.bases.length c)) rfl (.start w) fun b1 W hk hb1 hbb => ?_
  refine alloc_mine (n := 6) al_ses rfl hk fun g0 W3 hk hb3 hg0 => ?_
  clear hb1 hb3
  repeat (any_goals ((with_reducible refine idO ?_); (with_reducible refine oM_gen fun Kv hK=>?_); simp [go_sem, hk.cells]; refine hK _ _ ?_; clear hK; clear Kv))
  refine Propose_ok s x w' hx hw (hs'.next hk.below) (hl.next hk.below) (fun w2 h2 => ?_)
  have hk := hk.next h2
  clear h2
  have ho := propose_R s x l w'
  have eA : anotherM s x l w' n = if (proposeM s x l w').2 ≠ 0 ∨ n < 1 ∨ s.g.Q ≤ n then (zX, false) else (⟨l, (proposeM s x l w').1, n, grantM s x w' n⟩, true) := rfl
  generalize (proposeM s x l w').1 = o at *
  generalize (proposeM s x l w').2 = e at *
  have kz : ∀ W, KnM w (cellsOf (cellsOf [] b1 0 (stpC s (.slice ad s.bases.length c))) W3.heap.size 0 []) g0 6 W → True := fun _ _ => trivial
  clear kz
  iterate 2 (any_goals ((with_reducible refine idO ?_); (with_reducible refine oM_gen fun Kv hK=>?_); simp [go_sem]; refine hK _ _ ?_; clear hK; clear Kv))
  refine local_offM o hk (fun b2 W4 hk hb4 hg4 => ?_)
  clear hb4
  by_cases he : e = 0
  rotate_left
  · rw [if_pos (.inl he)] at eA
    repeat (any_goals (first
    | (with_reducible first|((refine idGd ?_); refine zD ?_)|((refine idPick ?_); refine yB ?_)|((refine idCond ?_); refine yL ?_))
    | ((with_reducible refine idO ?_); (with_reducible refine oM_gen fun Kv hK=>?_); simp [go_sem, hk.cells, he]; refine hK _ _ ?_; clear hK; clear Kv)))
    refine store_ses zX none 0 0 hk (fun W5 hk hc => ⟨sesV zX (.slice none 0 0), by simp [go_sem, hc], ?_⟩)
    have := k W5 (.slice none 0 0) hk.below
    rw [eA] at this
    exact this zX_R
  by_cases h1 : n < 1
  · rw [if_pos (.inr (.inl h1))] at eA
    repeat (any_goals (first
    | (with_reducible first|refine pureM_in ?_|((refine idGd ?_); first|refine zC ?_|refine zD ?_)|((refine idPick ?_); first|refine yB ?_|refine yC ?_)|((refine idCond ?_); refine yL ?_))
    | ((with_reducible refine idO ?_); (with_reducible refine oM_gen fun Kv hK=>?_); simp [go_sem, hk.cells, he, h1]; refine hK _ _ ?_; clear hK; clear Kv)))
    refine store_ses zX none 0 0 hk (fun W5 hk hc => ⟨sesV zX (.slice none 0 0), by simp [go_sem, hc], ?_⟩)
    have := k W5 (.slice none 0 0) hk.below
    rw [eA] at this
    exact this zX_R
  by_cases h2 : s.g.Q ≤ n
  · rw [if_pos (.inr (.inr h2))] at eA
    repeat (any_goals (first
    | (with_reducible first|refine pureM_in ?_|((refine idGd ?_); refine zC ?_)|((refine idPick ?_); refine yC ?_)|((refine idCond ?_); refine yL ?_))
    | ((with_reducible refine idO ?_); (with_reducible refine oM_gen fun Kv hK=>?_); simp [go_sem, hk.cells, he, h1, h2]; refine hK _ _ ?_; clear hK; clear Kv)))
    refine store_ses zX none 0 0 hk (fun W5 hk hc => ⟨sesV zX (.slice none 0 0), by simp [go_sem, hc], ?_⟩)
    have := k W5 (.slice none 0 0) hk.below
    rw [eA] at this
    exact this zX_R
  rw [if_neg (by rintro (h | h | h) <;> omega)] at eA
  repeat (any_goals (first
  | (with_reducible first|refine pureM_in ?_|((refine idGd ?_); refine zC ?_)|((refine idPick ?_); refine yC ?_)|((refine idCond ?_); refine yM ?_))
  | ((with_reducible refine idO ?_); (with_reducible refine oM_gen fun Kv hK=>?_); simp [go_sem, hk.cells, he, h1, h2]; refine hK _ _ ?_; clear hK; clear Kv)))
  have hk := hk.drew
  refine ⟨Nx { W4 with drawn := W4.drawn + 1 }, Below.refl _ _, rfl, ?_⟩
  generalize ({ W4 with drawn := W4.drawn + 1 } : World) = W9 at hk ⊢
  repeat (any_goals (first
  | (with_reducible refine pureH_in ?_)
  | ((with_reducible refine idOH ?_); (with_reducible refine oH_of ⟨_, rfl⟩ (fun W0 hW0 => by (refine oM_gen (fun Kv hK => ?_)); simp [go_sem, (hk.next hW0).cells]; (first | exact hK _ _ ⟨rfl, rfl⟩ | exact ⟨by omega, hK _ _ ⟨rfl, rfl⟩⟩)) ?_))))
  refine ⟨Nx, ?_⟩
  apply monoE
  · intro w1 h1
    exact Grant_ok s x w' n hx hw hn (hs'.next (hk.next h1).below) (fun w2 h2 => ⟨h1.on h2, h2, rfl⟩)
  (intro w9 h9; repeat (intro v9 e9; try (obtain rfl := e9)))
  have hk := hk.next h9
  have hgr : I64 (grantM s x w' n) := grantM_I64 _ _ _ _
  generalize grantM s x w' n = gr at *
  iterate 1 (any_goals ((with_reducible refine idO ?_); (with_reducible refine oM_gen fun Kv hK=>?_); simp [go_sem, build_ses4]; refine hK _ _ ?_; clear hK; clear Kv))
  refine store_ses ⟨[], o, n, gr⟩ lad l.length lc hk (fun W5 hk hc => ⟨sesV ⟨[], o, n, gr⟩ (.slice lad l.length lc), by simp [go_sem, hc], ?_⟩)
  have := k W5 (.slice lad l.length lc) hk.below
  rw [eA] at this
  exact this ⟨hl.next hk.below, ho, hn, hgr⟩
theorem obtains_ok (s : Stp) (key : Int) (x : Ses) (b : Bld) (t : Tkt) (p : Spd) {v xv bv pv : Value} (hkey : I64 key) (hs : SetR w s v) (hx : SesR w x xv) (hb : BldR w b bv) (ht : TktR t) (hp : SpdR w p pv) (hL : Cd.Laid w)
    (k : ∀ W, Below w.heap.size w W → K (.bool (obtainsM s key x b t p)) W) : callM Tryz.prog 36 #[stpV s v, .int .i64 key, sesV x xv, bldV b bv, tktV t, spdV p pv] K w := by
  apply sh_36_ok
  unfold sh_36
  have hs' := hs
  have hx' := hx
  have hb' := hb
  have hp' := hp
  obtain ⟨ad, c, rfl⟩ := hs.ints.isSlice
  obtain ⟨xad, xc, rfl⟩ := hx.attrs.isSlice
  obtain ⟨bad, bc, rfl⟩ := hb.ys.isSlice
  obtain ⟨pad, pc, rfl⟩ := hp.answers.isSlice
  refine box_kn (cs := stpC s (.slice ad s.bases.length c)) rfl (.start w) fun b1 W1 hk hb1 hbb => ?_
  refine box_kn (cs := sesC x (.slice xad x.attrs.length xc)) rfl hk fun b2 W2 hk hb2 hbb => ?_
  refine box_kn (cs := bldC b (.slice bad b.ys.length bc)) rfl hk fun b3 W3 hk hb3 hbb => ?_
  refine box_kn (cs := tktC t) rfl hk fun b4 W4 hk hb4 hbb => ?_
  refine box_kn (cs := spdC p (.slice pad p.answers.length pc)) rfl hk fun b5 W5 hk hb5 hbb => ?_
  clear hb1 hb2 hb3 hb4 hb5 hbb
  repeat (any_goals ((with_reducible refine idO ?_); (with_reducible refine oM_gen fun Kv hK=>?_); simp [go_sem, hk.cells]; refine hK _ _ ?_; clear hK; clear Kv))
  refine Ask_ok s key x.offer b hkey hx'.offer (hs'.next hk.below) (hx'.attrs.next hk.below) (hb'.next hk.below) (hL.below hk.below hL.size) (fun w2 h2 => ?_)
  have hk := hk.next h2
  clear h2
  have eO : obtainsM s key x b t p = (decide ((askM s key x.attrs x.offer b).2 = 0) && decide ((askM s key x.attrs x.offer b).1 = x.c) &&
    (decide ((finishM s key x.attrs x.offer b x.r).2 = 0) && decide ((finishM s key x.attrs x.offer b x.r).1 = t) && (useM s x.attrs b p.dare).2 &&
      (decide ((useM s x.attrs b p.dare).1.dare = p.dare) && decide ((useM s x.attrs b p.dare).1.answers = p.answers)))) := rfl
  generalize (askM s key x.attrs x.offer b).1 = c1 at *
  generalize (askM s key x.attrs x.offer b).2 = e1 at *
  by_cases h1 : e1 = 0
  rotate_left
  · rw [decide_eq_false h1, Bool.false_and, Bool.false_and] at eO
    repeat (any_goals (first
    | (with_reducible first|((refine idGd ?_); refine zD ?_)|((refine idPick ?_); refine yB ?_)|((refine idCond ?_); refine yL ?_))
    | ((with_reducible refine idO ?_); (with_reducible refine oM_gen fun Kv hK=>?_); simp [go_sem, hk.cells, h1]; refine hK _ _ ?_; clear hK; clear Kv)))
    rw [← eO]
    exact k _ hk.below
  by_cases h2 : c1 = x.c
  rotate_left
  · rw [decide_eq_false h2, Bool.and_false, Bool.false_and] at eO
    repeat (any_goals (first
    | (with_reducible first|refine pureM_in ?_|((refine idGd ?_); refine zC ?_)|((refine idPick ?_); refine yC ?_)|((refine idCond ?_); refine yL ?_))
    | ((with_reducible refine idO ?_); (with_reducible refine oM_gen fun Kv hK=>?_); simp [go_sem, hk.cells, h1, h2]; refine hK _ _ ?_; clear hK; clear Kv)))
    rw [← eO]
    exact k _ hk.below
  rw [decide_eq_true h1, decide_eq_true h2, Bool.true_and, Bool.true_and] at eO
  repeat (any_goals (first
  | (with_reducible first|refine pureM_in ?_|((refine idGd ?_); refine zC ?_)|((refine idPick ?_); refine yC ?_)|((refine idCond ?_); refine yM ?_))
  | ((with_reducible refine idO ?_); (with_reducible refine oM_gen fun Kv hK=>?_); simp [go_sem, hk.cells, h1, h2]; refine hK _ _ ?_; clear hK; clear Kv)))
  refine Finish_ok s key x.r x.offer b hkey hx'.r hx'.offer (hs'.next hk.below) (hx'.attrs.next hk.below) (hb'.next hk.below) (hL.below hk.below hL.size) (fun w3 h3 => ?_)
  have hk := hk.next h3
  clear h3
  generalize (finishM s key x.attrs x.offer b x.r).1 = u at *
  generalize (finishM s key x.attrs x.offer b x.r).2 = e2 at *
  iterate 2 (any_goals ((with_reducible refine idO ?_); (with_reducible refine oM_gen fun Kv hK=>?_); simp [go_sem]; refine hK _ _ ?_; clear hK; clear Kv))
  refine local_tkt u hk (fun g1 W6 hk h6 hg1 => ?_)
  clear h6
  repeat (any_goals ((with_reducible refine idO ?_); (with_reducible refine oM_gen fun Kv hK=>?_); simp [go_sem, hk.cells]; refine hK _ _ ?_; clear hK; clear Kv))
  refine Use_ok s b p.dare hp'.dare (hs'.next hk.below) (hx'.attrs.next hk.below) (hb'.next hk.below) (fun w4 uv h4 hu => ?_)
  have hk := hk.next h4
  clear h4
  have hUD : I64 (useM s x.attrs b p.dare).1.dare := by
    unfold useM
    split
    · exact hp'.dare
    · constructor <;> decide
  generalize (useM s x.attrs b p.dare).1 = y at *
  generalize (useM s x.attrs b p.dare).2 = ok at *
  obtain ⟨uad, uc, rfl⟩ := hu.isSlice
  iterate 2 (any_goals ((with_reducible refine idO ?_); (with_reducible refine oM_gen fun Kv hK=>?_); simp [go_sem]; refine hK _ _ ?_; clear hK; clear Kv))
  refine local_spdK y uad y.answers.length uc hk (fun g2 W7 hk h7 hg2 => ?_)
  have hu := hu.next h7
  clear h7
  by_cases h3 : e2 = 0
  rotate_left
  · rw [decide_eq_false h3, Bool.false_and, Bool.false_and, Bool.false_and] at eO
    repeat (any_goals (first
    | (with_reducible first|((refine idGd ?_); refine zB ?_)|((refine idPick ?_); refine yC ?_))
    | ((with_reducible refine idO ?_); (with_reducible refine oM_gen fun Kv hK=>?_); simp [go_sem, hk.cells, h3]; refine hK _ _ ?_; clear hK; clear Kv)))
    rw [← eO]
    exact k _ hk.below
  rw [decide_eq_true h3, Bool.true_and] at eO
  by_cases h4 : u = t
  rotate_left
  · rw [decide_eq_false h4, Bool.false_and, Bool.false_and] at eO
    have e4 := decide_eq_false h4
    repeat (any_goals (first
    | (with_reducible first|((refine idGd ?_); first|refine zA ?_|refine zB ?_)|((refine idPick ?_); first|refine yB ?_|refine yC ?_))
    | ((with_reducible refine idO ?_); (with_reducible refine oM_gen fun Kv hK=>?_); simp [go_sem, hk.cells, h3, e4]; refine hK _ _ ?_; clear hK; clear Kv)))
    rw [← eO]
    exact k _ hk.below
  rw [decide_eq_true h4, Bool.true_and] at eO
  have e4 := decide_eq_true h4
  cases ok with
  | false =>
    rw [Bool.false_and] at eO
    repeat (any_goals (first
    | (with_reducible first|refine pureM_in ?_|((refine idGd ?_); first|refine zA ?_|refine zB ?_)|((refine idPick ?_); first|refine yB ?_|refine yC ?_))
    | ((with_reducible refine idO ?_); (with_reducible refine oM_gen fun Kv hK=>?_); simp [go_sem, hk.cells, h3, e4]; refine hK _ _ ?_; clear hK; clear Kv)))
    rw [← eO]
    exact k _ hk.below
  | true =>
  rw [Bool.true_and] at eO
  repeat (any_goals (first
  | (with_reducible first|refine pureM_in ?_|((refine idGd ?_); refine zA ?_)|((refine idPick ?_); refine yB ?_))
  | ((with_reducible refine idO ?_); (with_reducible refine oM_gen fun Kv hK=>?_); simp [go_sem, hk.cells, h3, e4]; refine hK _ _ ?_; clear hK; clear Kv)))
  refine SameSpend_ok y p ⟨hUD, hu⟩ (hp'.next hk.below) (fun w5 h5 => ?_)
  rw [← eO]
  have hk := hk.next h5
  repeat (any_goals (with_reducible ((refine idPick ?_); refine yB ?_)))
  exact k _ hk.below
end
end Go.Proofs
namespace Go.Proofs
open Go Go.Sh Go.RowKit FdSpec TkSpec CodeSpec
set_option linter.unusedSimpArgs false
set_option linter.unusedVariables false
set_option maxRecDepth 10000
def cntT (tg : Option (Int × Int × Int)) (i k j : Int) : Int :=
  match tg with
  | none => 0
  | some (a, b, c) => if a < i ∨ (a = i ∧ (b < k ∨ (b = k ∧ c < j))) then 1 else 0
def TgR (q : Int) (tg : Option (Int × Int × Int)) : Prop := ∀ a b c, tg = some (a, b, c) → (1 ≤ a ∧ a < q) ∧ (1 ≤ b ∧ b < q) ∧ 0 ≤ c ∧ c < q
section
variable {q : Int} {tg : Option (Int × Int × Int)} (h : TgR q tg)
include h
theorem cnt_start : cntT tg 1 1 0 = 0 := by
  cases tg with
  | none => rfl
  | some p =>
    obtain ⟨a, b, c⟩ := p
    have := h a b c rfl
    show (if _ then (1 : Int) else 0) = 0
    rw [if_neg (by omega)]
theorem cnt_in (i k : Int) : cntT tg i k q = cntT tg i (k + 1) 0 := by
  cases tg with
  | none => rfl
  | some p =>
    obtain ⟨a, b, c⟩ := p
    have := h a b c rfl
    show (if _ then (1 : Int) else 0) = if _ then 1 else 0
    by_cases hc : a < i ∨ (a = i ∧ (b < k ∨ (b = k ∧ c < q)))
    · rw [if_pos hc, if_pos (by omega)]
    · rw [if_neg hc, if_neg (by omega)]
theorem cnt_mid (i : Int) : cntT tg i q 0 = cntT tg (i + 1) 1 0 := by
  cases tg with
  | none => rfl
  | some p =>
    obtain ⟨a, b, c⟩ := p
    have := h a b c rfl
    show (if _ then (1 : Int) else 0) = if _ then 1 else 0
    by_cases hc : a < i ∨ (a = i ∧ (b < q ∨ (b = q ∧ c < 0)))
    · rw [if_pos hc, if_pos (by omega)]
    · rw [if_neg hc, if_neg (by omega)]
theorem cnt_end : cntT tg q 1 0 = if tg = none then 0 else 1 := by
  cases tg with
  | none => rfl
  | some p =>
    obtain ⟨a, b, c⟩ := p
    have := h a b c rfl
    show (if _ then (1 : Int) else 0) = if _ then 0 else 1
    rw [if_pos (by omega), if_neg (by simp)]
omit h in
theorem cnt_hit (i k j : Int) : cntT tg i k (j + 1) = if tg = some (i, k, j) then cntT tg i k j + 1 else cntT tg i k j := by
  cases tg with
  | none => rfl
  | some p =>
    obtain ⟨a, b, c⟩ := p
    by_cases he : (a, b, c) = (i, k, j)
    · rw [if_pos (by rw [he])]
      simp only [Prod.mk.injEq] at he
      show (if _ then (1 : Int) else 0) = (if _ then 1 else 0) + 1
      rw [if_pos (by omega), if_neg (by omega)]
      rfl
    · rw [if_neg (fun e => he (Option.some.inj e))]
      simp only [Prod.mk.injEq] at he
      show (if _ then (1 : Int) else 0) = if _ then 1 else 0
      by_cases hc : a < i ∨ (a = i ∧ (b < k ∨ (b = k ∧ c < j)))
      · rw [if_pos hc, if_pos (by omega)]
      · rw [if_neg hc, if_neg (by omega)]
omit h in
theorem cnt_rng (i k j : Int) : 0 ≤ cntT tg i k j ∧ cntT tg i k j ≤ 1 := by
  cases tg with
  | none => show 0 ≤ (0 : Int) ∧ (0 : Int) ≤ 1; omega
  | some p =>
    obtain ⟨a, b, c⟩ := p
    show 0 ≤ (if _ then (1 : Int) else 0) ∧ (if _ then (1 : Int) else 0) ≤ 1
    split <;> omega
end
section
variable {K : Value → World → Prop} {w w0 : World} {L : List (Addr × Value)}
def mu4 (q : Int) : List Value → World → Nat
  | [_, _, _, .int _ i], _ => (q - i).toNat
  | _, _ => 0
def mu3 (q : Int) : List Value → World → Nat
  | [_, _, .int _ i], _ => (q - i).toNat
  | _, _ => 0
def mu2 (q : Int) : List Value → World → Nat
  | [_, .int _ i], _ => (q - i).toNat
  | _, _ => 0
theorem mu4_eq (q : Int) (a b c : Value) (k : IntKind) (i : Int) (w : World) : mu4 q [a, b, c, .int k i] w = (q - i).toNat := rfl
theorem mu3_eq (q : Int) (a b : Value) (k : IntKind) (i : Int) (w : World) : mu3 q [a, b, .int k i] w = (q - i).toNat := rfl
theorem mu2_eq (q : Int) (a : Value) (k : IntKind) (i : Int) (w : World) : mu2 q [a, .int k i] w = (q - i).toNat := rfl
def CoJ4 (w0 : World) (L : List (Addr × Value)) (q : Int) (tg : Option (Int × Int × Int)) (vs : List Value) (w' : World) : Prop := Kn w0 L w' ∧ ∃ (a b : Value) (i : Int), vs = [a, b, .int .i64 (cntT tg i 1 0), .int .i64 i] ∧ 1 ≤ i ∧ i ≤ q
def CoJ3 (w0 : World) (L : List (Addr × Value)) (q : Int) (tg : Option (Int × Int × Int)) (i : Int) (vs : List Value) (w' : World) : Prop := Kn w0 L w' ∧ ∃ (a : Value) (k : Int), vs = [a, .int .i64 (cntT tg i k 0), .int .i64 k] ∧ 1 ≤ k ∧ k ≤ q
def CoJ2 (w0 : World) (L : List (Addr × Value)) (q : Int) (tg : Option (Int × Int × Int)) (i k : Int) (vs : List Value) (w' : World) : Prop := Kn w0 L w' ∧ ∃ (j : Int), vs = [.int .i64 (cntT tg i k j), .int .i64 j] ∧ 0 ≤ j ∧ j ≤ q
def CoM (w0 : World) (L : List (Addr × Value)) (tg : Option (Int × Int × Int)) (i k j : Int) (vs : List Value) (w' : World) : Prop := Kn w0 L w' ∧ vs = [.int .i64 (cntT tg i k (j + 1))]
abbrev CoJ4k {w0 w' : World} {L : List (Addr × Value)} (_ : Kn w0 L w') (q : Int) (tg : Option (Int × Int × Int)) : List Value → World → Prop := CoJ4 w0 L q tg
abbrev CoJ3k {w0 w' : World} {L : List (Addr × Value)} (_ : Kn w0 L w') (q : Int) (tg : Option (Int × Int × Int)) (i : Int) : List Value → World → Prop := CoJ3 w0 L q tg i
abbrev CoJ2k {w0 w' : World} {L : List (Addr × Value)} (_ : Kn w0 L w') (q : Int) (tg : Option (Int × Int × Int)) (i k : Int) : List Value → World → Prop := CoJ2 w0 L q tg i k
abbrev CoMk {w0 w' : World} {L : List (Addr × Value)} (_ : Kn w0 L w') (tg : Option (Int × Int × Int)) (i k j : Int) : List Value → World → Prop := CoM w0 L tg i k j
theorem build_bld4 (T : TypeId) (ad : Option Addr) (n cc : Nat) (x y z : Int) : oM Tryz.prog (Go.Op.build 28 #[(0, (.tmp 0)), (1, (.tmp 1)), (2, (.tmp 2)), (3, (.tmp 3))]) T [.int .i64 x, .int .i64 y, .int .i64 z, .slice ad n cc] = pureM (bldV ⟨x, y, z, []⟩ (.slice ad n cc)) := by
  funext K w
  kernel_rfl
theorem counts_ok (c : Cas) (dare x w' n : Int) {mv av yv lv : Value} {l : List Int} (hd : I64 dare) (hx : I64 x) (hw : I64 w') (hn : I64 n) (hT : DbT w) (hL : Cd.Laid w) (hc : CasR w c mv av yv) (hl : Ints w lv l) (k : ∀ w', Below w.heap.size w w' → K (.bool true) w') :
    callM Tryz.prog 5 #[casV c mv av yv, .int .i64 dare, lv, .int .i64 x, .int .i64 w', .int .i64 n] K w := by
  apply sh_5_ok
  unfold sh_5
  have hc' := hc
  obtain ⟨mad, mc, rfl⟩ := hc.m.ints.isSlice
  obtain ⟨aad, ac, rfl⟩ := hc.attrs.isSlice
  obtain ⟨yad, yc, rfl⟩ := hc.b.ys.isSlice
  obtain ⟨lad, lc, rfl⟩ := hl.isSlice
  refine box_kn (cs := casC c (.slice mad c.m.bases.length mc) (.slice aad c.attrs.length ac) (.slice yad c.b.ys.length yc)) rfl (.start w) fun b1 W hk hb1 hbb => ?_
  clear hb1
  refine sane_ok (hT.next hk.below) (hL.below hk.below hL.size) (fun w1 h => ?_)
  have hk := hk.next h
  clear h
  by_cases hq : (11 : Int) < c.q
  · repeat (any_goals (first
    | (with_reducible ((refine idCond ?_); refine yL ?_))
    | ((with_reducible refine idO ?_); (with_reducible refine oM_gen fun Kv hK=>?_); simp [go_sem, hk.cells, hq]; refine hK _ _ ?_; clear hK; clear Kv)))
    exact k _ hk.below
  repeat (any_goals (first
  | (with_reducible ((refine idCond ?_); refine yM ?_))
  | ((with_reducible refine idO ?_); (with_reducible refine oM_gen fun Kv hK=>?_); simp [go_sem, hk.cells, hq]; refine hK _ _ ?_; clear hK; clear Kv)))
  refine issued_ok c (hT.next hk.below) (hL.below hk.below hL.size) (hc'.next hk.below) (fun w4 sv xv h4 hs hx4 ht => ?_)
  have hk := hk.next h4
  clear h4
  have hfac := counts_law (c := c) (dare := dare) (x := x) (w := w') (c0 := n) (attrs := l)
  generalize issuedM c = I at *
  obtain ⟨s, se, t, ok⟩ := I
  dsimp only at hs hx4 ht hfac ⊢
  obtain ⟨sad, sc, rfl⟩ := hs.ints.isSlice
  obtain ⟨xad, xc, rfl⟩ := hx4.attrs.isSlice
  iterate 4 (any_goals ((with_reducible refine idO ?_); (with_reducible refine oM_gen fun Kv hK=>?_); simp [go_sem]; refine hK _ _ ?_; clear hK; clear Kv))
  refine local3 s sad s.bases.length sc se xad se.attrs.length xc t hk (fun g1 g2 g3 w5 hk h5 => ?_)
  have hs := hs.next h5
  clear h5 hx4
  cases ok with
  | false =>
    repeat (any_goals (first
    | (with_reducible first|((refine idGd ?_); refine zD ?_)|((refine idPick ?_); refine yB ?_)|((refine idCond ?_); refine yL ?_))
    | ((with_reducible refine idO ?_); (with_reducible refine oM_gen fun Kv hK=>?_); simp [go_sem, hk.cells]; refine hK _ _ ?_; clear hK; clear Kv)))
    exact k _ hk.below
  | true =>
  by_cases hl9 : (9 : Int) < l.length
  · repeat (any_goals (first
    | (with_reducible first|refine pureM_in ?_|((refine idGd ?_); refine zC ?_)|((refine idPick ?_); refine yC ?_)|((refine idCond ?_); refine yL ?_))
    | ((with_reducible refine idO ?_); (with_reducible refine oM_gen fun Kv hK=>?_); simp [go_sem, hk.cells, hl9]; refine hK _ _ ?_; clear hK; clear Kv)))
    exact k _ hk.below
  repeat (any_goals (first
  | (with_reducible first|refine pureM_in ?_|((refine idGd ?_); refine zC ?_)|((refine idPick ?_); refine yC ?_)|((refine idCond ?_); refine yM ?_))
  | ((with_reducible refine idO ?_); (with_reducible refine oM_gen fun Kv hK=>?_); simp [go_sem, hk.cells, hl9]; refine hK _ _ ?_; clear hK; clear Kv)))
  refine another_ok s x w' n hx hw hn (hs.next (Below.refl _ _)) (hl.next hk.below) (fun w6 ov h6 ho => ?_)
  have hk := hk.next h6
  have hs := hs.next h6
  clear h6
  generalize hA : anotherM s x l w' n = A at *
  obtain ⟨to, is⟩ := A
  dsimp only at ho hfac ⊢
  obtain ⟨oad, oc, rfl⟩ := ho.attrs.isSlice
  iterate 2 (any_goals ((with_reducible refine idO ?_); (with_reducible refine oM_gen fun Kv hK=>?_); simp [go_sem]; refine hK _ _ ?_; clear hK; clear Kv))
  refine local_kn al_ses rfl sz_ses rfl rfl (ses_one to oad to.attrs.length oc) hk (fun g5 w7 hk h7 hg5 => ?_)
  have hs := hs.next h7
  have ho := ho.next h7
  clear h7
  repeat (any_goals ((with_reducible refine idO ?_); (with_reducible refine oM_gen fun Kv hK=>?_); simp [go_sem, hk.cells]; refine hK _ _ ?_; clear hK; clear Kv))
  refine Use_ok s c.b dare hd (hs.next (Below.refl _ _)) (hc'.attrs.next hk.below) (hc'.b.next hk.below) (fun w8 uv h8 hu => ?_)
  have hk := hk.next h8
  have hs := hs.next h8
  have ho := ho.next h8
  clear h8
  have hUD : I64 (useM s c.attrs c.b dare).1.dare := by
    unfold useM
    split
    · exact hd
    · constructor <;> decide
  obtain ⟨uad, uc, rfl⟩ := hu.isSlice
  generalize hU : useM s c.attrs c.b dare = U at *
  obtain ⟨u, can⟩ := U
  dsimp only at hu hUD hfac ⊢
  iterate 2 (any_goals ((with_reducible refine idO ?_); (with_reducible refine oM_gen fun Kv hK=>?_); simp [go_sem]; refine hK _ _ ?_; clear hK; clear Kv))
  refine local_spdK u uad u.answers.length uc hk (fun g4 w9 hk h9 hg4 => ?_)
  have hs := hs.next h9
  have ho := ho.next h9
  have hu := hu.next h9
  clear h9
  cases is with
  | false =>
    repeat (any_goals (first
    | (with_reducible first|((refine idGd ?_); refine zD ?_)|((refine idPick ?_); refine yB ?_)|((refine idCond ?_); refine yL ?_))
    | ((with_reducible refine idO ?_); (with_reducible refine oM_gen fun Kv hK=>?_); simp [go_sem, hk.cells]; refine hK _ _ ?_; clear hK; clear Kv)))
    exact k _ hk.below
  | true =>
  cases can with
  | false =>
    repeat (any_goals (first
    | (with_reducible first|refine pureM_in ?_|((refine idGd ?_); refine zC ?_)|((refine idPick ?_); refine yC ?_)|((refine idCond ?_); refine yL ?_))
    | ((with_reducible refine idO ?_); (with_reducible refine oM_gen fun Kv hK=>?_); simp [go_sem, hk.cells]; refine hK _ _ ?_; clear hK; clear Kv)))
    exact k _ hk.below
  | true =>
  repeat (any_goals (first
  | (with_reducible first|refine pureM_in ?_|((refine idGd ?_); refine zC ?_)|((refine idPick ?_); refine yC ?_)|((refine idCond ?_); refine yM ?_))
  | ((with_reducible refine idO ?_); (with_reducible refine oM_gen fun Kv hK=>?_); simp [go_sem, hk.cells]; refine hK _ _ ?_; clear hK; clear Kv)))
  obtain ⟨q5, tg, t1, t2, t3⟩ := hfac rfl (by omega) rfl rfl
  have htg : TgR c.q tg := by
    intro a b d e
    by_cases hxc : x = c.x
    · obtain ⟨i0, k0, j0, e1, e2, e3, e4⟩ := t1 hxc
      rw [e] at e1
      simp only [Option.some.injEq, Prod.mk.injEq] at e1
      obtain ⟨r1, r2, r3⟩ := e1
      subst r1 r2 r3
      exact ⟨e2, e3, e4⟩
    · rw [t2 hxc] at e; cases e
  have hb9 := hk.below
  have hk : Kn w9 _ w9 := ⟨Below.refl _ _, hk.cells⟩
  have hl := hl.next hb9
  have hL9 := hL.below hb9 hL.size
  refine ⟨CoJ4k hk c.q tg, mu4 c.q, ⟨hk, undef, undef, 1, by rw [cnt_start htg], by omega, by omega⟩, ?_⟩
  rintro _ _ w10 ⟨hk, u1, u2, i, rfl, hi1, hi2⟩
  by_cases hin : i = c.q
  · rw [hin, cnt_end htg]
    have h1 : ¬ c.q < c.q := by omega
    by_cases hxc : x = c.x
    · obtain ⟨i0, k0, j0, e1, _⟩ := t1 hxc
      rw [if_neg (by rw [e1]; simp)]
      repeat (any_goals (first
      | (with_reducible first|refine pureM_in ?_|((refine idGd ?_); refine zA ?_)|((refine idPick ?_); refine yB ?_)|((refine idCond ?_); first|refine yL ?_|refine yM ?_))
      | ((with_reducible refine idO ?_); (with_reducible refine oM_gen fun Kv hK=>?_); simp [go_sem, hk.cells, h1, hxc]; refine hK _ _ ?_; clear hK; clear Kv)))
      exact k _ (hb9.on hk.below)
    · rw [if_pos (t2 hxc)]
      repeat (any_goals (first
      | (with_reducible first|refine pureM_in ?_|((refine idGd ?_); refine zA ?_)|((refine idPick ?_); refine yB ?_)|((refine idCond ?_); refine yM ?_))
      | ((with_reducible refine idO ?_); (with_reducible refine oM_gen fun Kv hK=>?_); simp [go_sem, hk.cells, h1, hxc]; refine hK _ _ ?_; clear hK; clear Kv)))
      exact k _ (hb9.on hk.below)
  have h1 : i < c.q := by omega
  repeat (any_goals (first
  | (with_reducible ((refine idCond ?_); refine yL ?_))
  | ((with_reducible refine idO ?_); (with_reducible refine oM_gen fun Kv hK=>?_); simp [go_sem, hk.cells, h1]; refine hK _ _ ?_; clear hK; clear Kv)))
  refine ⟨CoJ3k hk c.q tg i, mu3 c.q, ⟨hk, u2, 1, rfl, by omega, by omega⟩, ?_⟩
  rintro _ _ w11 ⟨hk, v1, kk, rfl, hk1, hk2⟩
  by_cases hkn : kk = c.q
  · rw [hkn]
    have h2 : ¬ c.q < c.q := by omega
    repeat (any_goals (first
    | (with_reducible ((refine idCond ?_); refine yM ?_))
    | ((with_reducible refine idO ?_); (with_reducible refine oM_gen fun Kv hK=>?_); simp [go_sem, hk.cells, h2]; (try simp (disch := omega) only [wrapI64, wrapU8, wrapU32, wrapU64]); refine hK _ _ ?_; clear hK; clear Kv)))
    refine ⟨⟨hk, _, _, i + 1, by rw [← cnt_mid htg i]; rfl, by omega, by omega⟩, ?_⟩
    simp only [mu4_eq]; omega
  have h2 : kk < c.q := by omega
  repeat (any_goals (first
  | (with_reducible ((refine idCond ?_); refine yL ?_))
  | ((with_reducible refine idO ?_); (with_reducible refine oM_gen fun Kv hK=>?_); simp [go_sem, hk.cells, h2]; refine hK _ _ ?_; clear hK; clear Kv)))
  refine ⟨CoJ2k hk c.q tg i kk, mu2 c.q, ⟨hk, 0, rfl, by omega, by omega⟩, ?_⟩
  rintro _ _ w12 ⟨hk, j, rfl, hj1, hj2⟩
  by_cases hjn : j = c.q
  · rw [hjn]
    have h3 : ¬ c.q < c.q := by omega
    repeat (any_goals (first
    | (with_reducible ((refine idCond ?_); refine yM ?_))
    | ((with_reducible refine idO ?_); (with_reducible refine oM_gen fun Kv hK=>?_); simp [go_sem, hk.cells, h3]; (try simp (disch := omega) only [wrapI64, wrapU8, wrapU32, wrapU64]); refine hK _ _ ?_; clear hK; clear Kv)))
    refine ⟨⟨hk, _, kk + 1, by rw [← cnt_in htg i kk]; rfl, by omega, by omega⟩, ?_⟩
    simp only [mu3_eq]; omega
  have h3 : j < c.q := by omega
  repeat (any_goals (first
  | (with_reducible ((refine idCond ?_); refine yL ?_))
  | ((with_reducible refine idO ?_); (with_reducible refine oM_gen fun Kv hK=>?_); simp [go_sem, hk.cells, h3]; refine hK _ _ ?_; clear hK; clear Kv)))
  refine ⟨CoMk hk tg i kk j, ?_, ?_⟩
  rotate_left
  · rintro _ _ w13 ⟨hk, rfl⟩
    repeat (any_goals ((with_reducible refine idO ?_); (with_reducible refine oM_gen fun Kv hK=>?_); simp [go_sem]; (try simp (disch := omega) only [wrapI64, wrapU8, wrapU32, wrapU64]); refine hK _ _ ?_; clear hK; clear Kv))
    refine ⟨⟨hk, j + 1, rfl, by omega, by omega⟩, ?_⟩
    simp only [mu2_eq]; omega
  repeat (any_goals ((with_reducible refine idO ?_); (with_reducible refine oM_gen fun Kv hK=>?_); simp [go_sem, hk.cells]; refine hK _ _ ?_; clear hK; clear Kv))
  refine answers_ok s i u (hs.next hk.below) (hl.next hk.below) ⟨hUD, hu.next hk.below⟩ (by omega) (fun w13 av13 h13 ha => ?_)
  have hkm := hk
  have hk := hk.next h13
  clear h13
  have hiI : I64 i := by constructor <;> omega
  have hkI : I64 kk := by constructor <;> omega
  have hjI : I64 j := by constructor <;> omega
  have t4 := t3 i kk j hi1 h1 hk1 h2 hj1 h3
  obtain ⟨yad2, yc2, rfl⟩ := ha.isSlice
  generalize answersM s l i u = ys at *
  iterate 1 (any_goals ((with_reducible refine idO ?_); (with_reducible refine oM_gen fun Kv hK=>?_); simp [go_sem, build_bld4]; refine hK _ _ ?_; clear hK; clear Kv))
  refine local_bld ⟨i, kk, j, ys⟩ yad2 ys.length yc2 hk (fun g6 w14 hk h14 hg6 => ?_)
  have ha := ha.next h14
  clear h14
  have hk := hk.drew
  have ha := ha.next (.drawn (B := w14.heap.size))
  refine ⟨Nx { w14 with drawn := w14.drawn + 1 }, Below.refl _ _, rfl, ?_⟩
  generalize ({ w14 with drawn := w14.drawn + 1 } : World) = W9 at hk ha ⊢
  repeat (any_goals (first
  | (with_reducible refine pureH_in ?_)
  | ((with_reducible refine idOH ?_); (with_reducible refine oH_of ⟨_, rfl⟩ (fun W0 hW0 => by (refine oM_gen (fun Kv hK => ?_)); simp [go_sem, (hk.next hW0).cells]; (first | exact hK _ _ ⟨rfl, rfl⟩ | exact ⟨by omega, hK _ _ ⟨rfl, rfl⟩⟩)) ?_))))
  refine ⟨Nx, ?_⟩
  apply monoE
  · intro w1 h1
    exact Public_ok s x hx (hs.next (hk.next h1).below) (fun w2 h2 => ⟨h1.on h2, h2, rfl⟩)
  (intro w9 h9; repeat (intro v9 e9; try (obtain rfl := e9)))
  have hk := hk.next h9
  have ha := ha.next h9
  clear h9
  refine obtains_ok s (publicM s x) to ⟨i, kk, j, ys⟩ t u (publicM_I64 _ _) (hs.next hk.below) (ho.next hk.below) ⟨hiI, hkI, hjI, ha⟩ ht ⟨hUD, hu.next hk.below⟩ (hL9.below hk.below hL9.size) (fun w15 h15 => ?_)
  have hk := hk.next h15
  rw [t4]
  have hch := cnt_hit (tg := tg) i kk j
  have hcr := cnt_rng (tg := tg) i kk j
  by_cases he : tg = some (i, kk, j)
  · rw [if_pos he] at hch
    rw [decide_eq_true he]
    repeat (any_goals (first
    | (with_reducible ((refine idCond ?_); refine yL ?_))
    | ((with_reducible refine idO ?_); (with_reducible refine oM_gen fun Kv hK=>?_); simp [go_sem]; (try simp (disch := omega) only [wrapI64, wrapU8, wrapU32, wrapU64]); refine hK _ _ ?_; clear hK; clear Kv)))
    unfold CoMk CoM
    rw [hch]
    exact ⟨⟨hk.below, hk.cells.2.2.2.2⟩, rfl⟩
  · rw [if_neg he] at hch
    rw [decide_eq_false he]
    repeat (any_goals (with_reducible ((refine idCond ?_); refine yM ?_)))
    unfold CoMk CoM
    rw [hch]
    exact ⟨⟨hk.below, hk.cells.2.2.2.2⟩, rfl⟩
end
end Go.Proofs
