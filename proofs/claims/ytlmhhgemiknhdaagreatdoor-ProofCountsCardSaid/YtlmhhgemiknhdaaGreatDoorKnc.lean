/- Parts of the proof of the seat's statements (FdF, FdG, FdH, FdI, FdJ, FdK, FdL, ShKn, TkSpec, TkA, TkB, ShaSpec, ShW, SaA, ShKn2, ShArr, SaB, SaC, ShMn, SaD, SaE, TkSpec2, TkSpec3, FdPoly, FdInv, FdThr, PrUnit, GrLaw, PrSpec, PwA, ClA, ClB, ClC, ShApp, ShGr, HPt, PrFill, PrCom, PrLaw, PrLaw2, PrLaw3, PrLaw4, PrLaw5, PrLaw6, PrSign, PrText, PrCode, PrRange, LsSpec): lemmas about the given translation and plain laws. No condition of their own. -/
import Derived.Test.YtlmhhgemiknhdaaGreatDoorKnb
import Derived.Lib.TrailingZeros
import Derived.Laws.StructEq
import Derived.Deep.Upon
import Derived.Test.YtlmhhgemiknhdaaGreatDoorProg
set_option linter.all false
set_option maxRecDepth 100000
namespace Go.Proofs
open Go Go.Sh Go.RowKit FdSpec
section
variable {K:Value → World → Prop} {w:World}
def InJ (n:Int) (E:Int × Int) (w:World) (l:List Value) (w':World):Prop:=Below w.heap.size w w' ∧ ∃ (v:Value) (r s x y:Int),l = [v,.int .i64 r,.int .i64 s,.int .i64 x,.int .i64 y] ∧ (0 ≤ s ∧ s < n) ∧ (0 ≤ r ∧ r ≤ n) ∧ (0 ≤ x ∧ x < 2305843009213693952) ∧ (0 ≤ y ∧ y < 2305843009213693952) ∧ eucAll n r s x y = E
def inMu (l:List Value) (_:World):Nat:=match l with | [_,_,.int _ s,_,_]=>s.toNat | _=>0
theorem inMu_eq (v r x y:Value) (k:IntKind) (s:Int) (w:World):inMu [v,r,.int k s,x,y] w = s.toNat:=rfl
theorem eucAll_zero (n r x y:Int):eucAll n r 0 x y = (r,x):=euc_zero n _ r x y
theorem Inv_ok (n a:Int) (k:∀ w',Below w.heap.size w w' → K (.tuple #[.int .i64 ((invM n a).getD 0),.bool (invM n a).isSome]) w'):callM Tryz.prog 143 #[.int .i64 n,.int .i64 a] K w:=by
 apply sh_143_ok
 unfold sh_143
 refine valid_ok n ?_
 by_cases hn:okN n
 ·have hn':=hn
  obtain ⟨h1,h2⟩:=hn'
  have ha:=Int.emod_nonneg a (b:=n) (by omega)
  have ha2:=Int.emod_lt_of_pos a (b:=n) (by omega)
  have kk:∀ r x w',(r,x) = eucAll n n (a % n) 0 1 → Below w.heap.size w w' → K (.tuple #[.int .i64 (if r = 1 then x % n else 0),.bool (decide (r = 1))]) w':=fun r x w' e hb=>by
   have k:=k w' hb
   unfold invM at k
   rw [if_pos hn,← e] at k
   by_cases hr:r = 1
   ·simpa [hr] using k
   ·simpa [hr] using k
  clear k
  repeat (any_goals (first
  | (with_reducible refine yM ?_)
  | ((with_reducible refine oM_gen fun Kv hK=>?_); simp [go_sem,hn]; refine hK _ _ ?_; clear hK Kv)))
  refine residue_ok n a hn ?_
  generalize a % n = s0 at *
  generalize hE:eucAll n n s0 0 1 = E at *
  repeat (any_goals ((with_reducible refine oM_gen fun Kv hK=>?_); simp [go_sem]; (try simp (disch:=omega) only [wrapI64,wrapU8,wrapU32,wrapU64]); refine hK _ _ ?_; clear hK Kv))
  refine ⟨InJ n E w,inMu,⟨Below.refl _ _,_,n,s0,0,1,rfl,⟨ha,ha2⟩,⟨by omega,by omega⟩,⟨by omega,by omega⟩,⟨by omega,by omega⟩,hE⟩,?_⟩
  clear hE ha ha2 s0
  rintro _ _ w1 ⟨hb1,v,r,s,x,y,rfl,hs,hr,hx,hy,he⟩
  have hz:=hb1.size
  by_cases h0:s = 0
  ·subst h0
   rw [eucAll_zero] at he
   have kk:=kk r x w1 he hb1
   have e1:x.tmod n = x % n:=Int.tmod_eq_emod_of_nonneg hx.1
   by_cases hr1:r = 1
   ·simp only [hr1] at kk
    repeat (any_goals (first
    | (with_reducible refine yM ?_)
    | ((with_reducible refine oM_gen fun Kv hK=>?_); simp [go_sem,hr1,e1]; (first|refine hK _ _ ?_|refine And.intro (by omega) (hK _ _ ?_)); clear hK Kv)))
    simpa using kk
   ·simp only [hr1] at kk
    repeat (any_goals (first
    | (with_reducible ((refine idCond ?_); first|refine yL ?_|refine yM ?_))
    | ((with_reducible refine oM_gen fun Kv hK=>?_); simp [go_sem,hr1]; refine hK _ _ ?_; clear hK Kv)))
    simpa using kk
  ·rw [euc_step n r s x y (by omega)] at he
   have q1:r.tdiv s = r / s:=Int.tdiv_eq_ediv_of_nonneg hr.1
   have q2:=Int.emod_add_mul_ediv r s
   have q3:=Int.emod_nonneg r (b:=s) (by omega)
   have q4:=Int.emod_lt_of_pos r (b:=s) (by omega)
   have q5:0 ≤ r / s:=Int.ediv_nonneg hr.1 hs.1
   have q6:r / s ≤ r:=Int.ediv_le_self _ hr.1
   have q7:r / s * s = r - r % s:=by rw [Int.mul_comm]; omega
   have m1:=mulM_range n (r / s) y hn
   have m2:=subM_range n x (mulM n (r / s) y) hn
   generalize r % s = t at *
   generalize r / s = q at *
   clear q2
   have q8:r - (r - t) = t:=by omega
   repeat (any_goals (first
   | (with_reducible refine yQ ?_)
   | ((with_reducible refine oM_gen fun Kv hK=>?_); simp [go_sem,q1,q7,q8]; (try simp (disch:=omega) only [wrapI64,wrapU8,wrapU32,wrapU64]); (first|refine hK _ _ ?_|refine And.intro (by omega) (hK _ _ ?_)); clear hK Kv)))
   refine Mul_ok n q y (fun w2 hb2=>?_)
   refine Sub_ok n x _ ?_
   generalize subM n x (mulM n q y) = z at *
   skip
   refine ⟨⟨hb1.trans (hb2.mono hz),_,s,t,y,z,rfl,⟨q3,by omega⟩,⟨hs.1,by omega⟩,hy,⟨m2.1,by omega⟩,he⟩,?_⟩
   simp only [inMu_eq]
   omega
 ·have k:=k _ (Below.refl _ _)
  unfold invM at k
  rw [if_neg hn] at k
  repeat (any_goals (first
  | (with_reducible refine yL ?_)
  | ((with_reducible refine oM_gen fun Kv hK=>?_); simp [go_sem,hn]; refine hK _ _ ?_; clear hK Kv)))
  exact k
theorem Pow_ok (n a b:Int) (hbr:-9223372036854775808 ≤ b ∧ b < 9223372036854775808) (k:∀ w',Below w.heap.size w w' → K (.int .i64 (powM n a b)) w'):callM Tryz.prog 170 #[.int .i64 n,.int .i64 a,.int .i64 b] K w:=by
 apply sh_170_ok
 unfold sh_170
 refine valid_ok n ?_
 unfold powM at k
 by_cases hn:okN n
 ·have hn':=hn
  obtain ⟨h1,h2⟩:=hn'
  rw [if_pos hn] at k
  by_cases h0:0 ≤ b
  ·rw [if_pos h0] at k
   have ha:=Int.emod_nonneg a (b:=n) (by omega)
   have ha2:=Int.emod_lt_of_pos a (b:=n) (by omega)
   obtain ⟨c,rfl⟩:=natN b h0
   rw [Int.toNat_natCast,← pw_emod] at k
   repeat (any_goals (first
   | (with_reducible ((refine idCond ?_); first|refine yL ?_|refine yM ?_))
   | ((with_reducible refine oM_gen fun Kv hK=>?_); simp [go_sem,hn]; refine hK _ _ ?_; clear hK Kv)))
   refine residue_ok n a hn ?_
   generalize a % n = x at *
   repeat (any_goals ((with_reducible refine oM_gen fun Kv hK=>?_); simp [go_sem]; (try simp (disch:=omega) only [wrapI64,wrapU8,wrapU32,wrapU64]); refine hK _ _ ?_; clear hK Kv))
   refine power_ok n x c hn ⟨ha,ha2⟩ (by omega) (fun w1 hb1=>?_)
   have hr:=pw_nonneg n x c (by omega)
   have k:=k w1 hb1
   generalize pw n x c = z at *
   repeat (any_goals ((with_reducible refine oM_gen fun Kv hK=>?_); simp [go_sem]; (try simp (disch:=omega) only [wrapI64,wrapU8,wrapU32,wrapU64]); refine hK _ _ ?_; clear hK Kv))
   exact k
  ·rw [if_neg h0] at k
   repeat (any_goals (first
   | (with_reducible ((refine idCond ?_); first|refine yM ?_|refine yO ?_))
   | ((with_reducible refine oM_gen fun Kv hK=>?_); simp [go_sem,hn]; refine hK _ _ ?_; clear hK Kv)))
   refine Inv_ok n a (fun w1 hb1=>?_)
   have hz:=hb1.size
   cases hi:invM n a with
   | none=>
    rw [hi] at k
    have k:=k w1 hb1
    repeat (any_goals (first
    | (with_reducible refine yL ?_)
    | ((with_reducible refine oM_gen fun Kv hK=>?_); simp [go_sem]; refine hK _ _ ?_; clear hK Kv)))
    exact k
   | some x=>
    rw [hi] at k
    have hx:0 ≤ x ∧ x < n:=by
     unfold invM at hi
     rw [if_pos hn] at hi
     split at hi
     ·cases hi; exact ⟨Int.emod_nonneg _ (by omega),Int.emod_lt_of_pos _ (by omega)⟩
     ·cases hi
    obtain ⟨c,hc⟩:=natN (-b) (by omega)
    rw [hc,Int.toNat_natCast] at k
    have hw:IntKind.u64.wrap (-(IntKind.u64.wrap b)) = (c:Int):=by
     simp only [IntKind.wrap_u64]; omega
    have hw2:b % 18446744073709551616 = b + 18446744073709551616:=by omega
    simp only [Option.getD_some,Option.isSome_some]
    repeat (any_goals (first
    | (with_reducible refine yM ?_)
    | ((with_reducible refine oM_gen fun Kv hK=>?_); simp [go_sem,hw]; (try simp (disch:=omega) only [wrapI64,wrapU8,wrapU32,wrapU64]); refine hK _ _ ?_; clear hK Kv)))
    refine power_ok n x c hn hx (by omega) (fun w2 hb2=>?_)
    have hr:=pw_nonneg n x c (by omega)
    have k:K (.int .i64 (pw n x c)) w2:=k w2 (hb1.trans (hb2.mono hz))
    generalize pw n x c = z at *
    repeat (any_goals ((with_reducible refine oM_gen fun Kv hK=>?_); simp [go_sem]; (try simp (disch:=omega) only [wrapI64,wrapU8,wrapU32,wrapU64]); refine hK _ _ ?_; clear hK Kv))
    exact k
 ·rw [if_neg hn] at k
  repeat (any_goals (first
  | (with_reducible refine yL ?_)
  | ((with_reducible refine oM_gen fun Kv hK=>?_); simp [go_sem,hn]; refine hK _ _ ?_; clear hK Kv)))
  exact k _ (Below.refl _ _)
end
end Go.Proofs
namespace Go.Proofs
open Go Go.Sh Go.RowKit FdSpec
section
variable {K:Value → World → Prop} {w:World}
def DbT (w:World):Prop:=2 < w.heap.size ∧ ∀ j,j < 64 → w.cell? ⟨2,j,none⟩ = some (.int .u8 (Lib.deBruijn64tab.getD j 0:Nat))
theorem DbT.below {w w':World} {B:Nat} (h:DbT w) (hb:Below B w w') (hB:w.heap.size ≤ B):DbT w':=
 ⟨Nat.lt_of_lt_of_le h.1 hb.size,fun j hj=>by rw [hb.cell (show 2 < B from Nat.lt_of_lt_of_le h.1 hB)]; exact h.2 j hj⟩
theorem tz_ctz (k m:Nat):tz k m = Lib.ctzFrom k m:=by
 induction k generalizing m with
 | zero=>rfl
 | succ k ih=>
  unfold tz Lib.ctzFrom
  rw [ih]
  by_cases h:m % 2 = 0
  ·rw [if_pos h,if_neg (by omega),Nat.add_comm]
  ·rw [if_neg h,if_pos (by omega)]
theorem tz_key (q:Nat):IntKind.u64.wrap ((q:Int) * 285870213051353865) / 288230376151711744 = ((q * 285870213051353865 % 18446744073709551616 / 288230376151711744:Nat):Int):=by
 rw [IntKind.wrap_u64]; omega
theorem idx_tab {j:Nat} (hj:j < 64) (w:World):(Instr.indexAt 244 (.pointer (some ⟨2,0,none⟩)) (.int .u64 j)).run Tryz.prog w = .ok (.pointer (some ⟨2,j,none⟩)) w:=by
 rw [run_indexAt_array (h:=by kernel_rfl)]
 have hs:(sizeOf (Tryz.prog.elem 244)).run Tryz.prog w = .ok 1 w:=by kernel_rfl
 have hl:Tryz.prog.arrayLen 244 = 64:=by kernel_rfl
 rw [hl,if_pos (by omega),hs]
 simp only [Result.andThen,Int.toNat_natCast,add_none,Nat.zero_add,Nat.mul_one]
theorem tz64_ok (x:Nat) (hx0:0 < x) (hx:x < 18446744073709551616) (hT:DbT w) (h:K (.int .i64 (tz 64 x:Nat)) w):callM Tryz.prog 220 #[.int .u64 (x:Int)] K w:=by
 apply sh_220_ok
 unfold sh_220
 obtain ⟨hlow,hk⟩:=Lib.lowest_bit 64 x (by omega) (by omega)
 obtain ⟨hi,htab⟩:=Lib.deBruijn64_at _ hk
 have e0:Lib.ctz 64 x = tz 64 x:=by rw [tz_ctz,Lib.ctz,if_neg (by omega)]
 rw [e0] at hlow htab hi
 have e1:IntKind.u64.wrap (-(x:Int)) = ((18446744073709551616 - x:Nat):Int):=by rw [IntKind.wrap_u64]; omega
 have e2:bits .and .u64 (x:Int) ((18446744073709551616 - x:Nat):Int) = ((2 ^ tz 64 x:Nat):Int):=by
  rw [bits_and64 _ _ (by omega) (by omega),Int.toNat_natCast,Int.toNat_natCast]
  exact congrArg _ hlow
 have e3:=tz_key (2 ^ tz 64 x)
 have hc:=hT.2 _ hi
 rw [htab] at hc
 have hix:=idx_tab hi w
 generalize 2 ^ tz 64 x * 285870213051353865 % 18446744073709551616 / 288230376151711744 = j at *
 generalize (2 ^ tz 64 x:Nat) = q at *
 have hk2:tz 64 x < 64:=by rw [← e0]; exact hk
 generalize tz 64 x = t at *
 repeat (any_goals (first
 | (rw [oM_indexAddr,hix,rM_ok])
 | (with_reducible refine yO ?_)
 | ((with_reducible refine oM_gen fun Kv hK=>?_); simp [go_sem,e1,e2,e3,hc]; (try simp (disch:=omega) only [wrapI64,wrapU8,wrapU32,wrapU64]); refine hK _ _ ?_; clear hK Kv)))
 exact h
end
end Go.Proofs
namespace Go.Proofs
open Go Go.Sh Go.RowKit FdSpec
section
variable {K:Value → World → Prop} {w:World}
def WiJ (n:Int) (k:Nat) (R:Bool) (w:World) (l:List Value) (w':World):Prop:=Below w.heap.size w w' ∧ ∃ (v:Value) (x:Int) (i:Nat),l = [v,.int .u64 x,.int .i64 (i:Int)] ∧ i ≤ k ∧ (0 ≤ x ∧ x < n) ∧ mrUp n (k - i) x = R
def wiMu (k:Nat) (l:List Value) (_:World):Nat:=match l with | [_,_,.int _ i]=>k - i.toNat | _=>0
theorem wiMu_eq (k:Nat) (x y:Value) (q:IntKind) (i:Int) (w:World):wiMu k [x,y,.int q i] w = k - i.toNat:=rfl
theorem witness_ok (n b:Int) (hn:okN n) (h2:2 ≤ n) (hb:0 ≤ b ∧ b < n) (hT:DbT w) (k:∀ w',Below w.heap.size w w' → K (.bool (!passes n b)) w'):callM Tryz.prog 202 #[.int .i64 n,.int .u64 b] K w:=by
 apply sh_202_ok
 unfold sh_202
 have hn':=hn
 obtain ⟨h1,h3⟩:=hn'
 obtain ⟨m,hm⟩:=natN (n - 1) (by omega)
 have hm2:(n - 1).toNat = m:=by omega
 have ht:=tz_lt 64 m (by omega) (by omega)
 obtain ⟨t,htt⟩:∃ t,t = tz 64 m:=⟨_,rfl⟩
 have ht64:t < 64:=by rw [htt]; exact ht.1
 clear ht
 have hsh:((m:Int)) / 2 ^ t = ((m / 2 ^ t:Nat):Int):=by rw [Int.natCast_ediv,Int.natCast_pow]; rfl
 have hdl:=Nat.div_le_self m (2 ^ t)
 have rr:=fun x=>oM_shr64 (P:=Tryz.prog) 150 3 150 .i64 x (t:Int) (by omega) (by omega)
 simp only [Int.toNat_natCast] at rr
 repeat (any_goals ((with_reducible refine oM_gen fun Kv hK=>?_); simp [go_sem,hm]; (try simp (disch:=omega) only [wrapI64,wrapU8,wrapU32,wrapU64]); refine hK _ _ ?_; clear hK Kv))
 refine tz64_ok m (by omega) (by omega) hT ?_
 rw [← htt]
 obtain ⟨d,hd⟩:∃ d,d = m / 2 ^ t:=⟨_,rfl⟩
 rw [← hd] at hsh hdl
 have k:∀ w',Below w.heap.size w w' → K (.bool (!(if pw n b d = 1 then true else mrUp n t (pw n b d)))) w':=by
  rw [hd,htt,← hm2]; exact k
 have hp:=pw_nonneg n b d (by omega)
 repeat (any_goals ((with_reducible refine oM_gen fun Kv hK=>?_); simp [go_sem,hm,rr,hsh]; (try simp (disch:=omega) only [wrapI64,wrapU8,wrapU32,wrapU64]); refine hK _ _ ?_; clear hK Kv))
 refine power_ok n b d hn hb (by omega) (fun w1 hb1=>?_)
 generalize pw n b d = x at *
 have hz:=hb1.size
 by_cases hx1:x = 1
 ·have k:K (.bool false) w1:=by
   have k:=k w1 hb1
   rw [if_pos hx1] at k
   exact k
  rw [hx1]
  clear rr hsh hdl
  repeat (any_goals (first
  | (with_reducible refine yL ?_)
  | ((with_reducible refine oM_gen fun Kv hK=>?_); simp [go_sem]; refine hK _ _ ?_; clear hK Kv)))
  exact k
 ·have k:∀ w',Below w.heap.size w w' → K (.bool (!mrUp n t x)) w':=fun w' hb=>by
   have k:=k w' hb
   rw [if_neg hx1] at k
   exact k
  clear rr hsh hdl
  repeat (any_goals (first
  | (with_reducible refine yM ?_)
  | ((with_reducible refine oM_gen fun Kv hK=>?_); simp [go_sem,hx1]; refine hK _ _ ?_; clear hK Kv)))
  refine ⟨WiJ n t (mrUp n t x) w,wiMu t,⟨hb1,_,x,0,rfl,by omega,hp,rfl⟩,?_⟩
  generalize mrUp n t x = R at *
  clear hp hx1 hb1 hz w1
  rintro _ _ w1 ⟨hb1,v,y,i,rfl,hi,hx,hR⟩
  have hz:=hb1.size
  by_cases hit:i = t
  ·subst hit
   rw [Nat.sub_self] at hR
   have hR2:R = false:=by rw [← hR]; rfl
   subst hR2
   repeat (any_goals (first
   | (with_reducible refine yM ?_)
   | ((with_reducible refine oM_gen fun Kv hK=>?_); simp [go_sem]; refine hK _ _ ?_; clear hK Kv)))
   exact k _ hb1
  ·obtain ⟨j,hj⟩:∃ j,t - i = j + 1:=⟨t - i - 1,by omega⟩
   rw [hj] at hR
   unfold mrUp at hR
   by_cases hxn:y = n - 1
   ·rw [if_pos hxn] at hR
    subst hR
    have k:=k _ hb1
    rw [hm] at hxn
    repeat (any_goals (first
    | (with_reducible ((refine idCond ?_); first|refine yL ?_|refine yN ?_))
    | ((with_reducible refine oM_gen fun Kv hK=>?_); simp [go_sem,hm,hxn]; (try simp (disch:=omega) only [wrapI64,wrapU8,wrapU32,wrapU64]); refine hK _ _ ?_; clear hK Kv)))
    simpa using k
   ·rw [if_neg hxn] at hR
    rw [hm] at hxn
    repeat (any_goals (first
    | (with_reducible ((refine idCond ?_); first|refine yM ?_|refine yN ?_))
    | ((with_reducible refine oM_gen fun Kv hK=>?_); simp [go_sem,hm,hxn]; (try simp (disch:=omega) only [wrapI64,wrapU8,wrapU32,wrapU64]); refine hK _ _ ?_; clear hK Kv)))
    refine product_ok n y y hn hx hx (fun w2 hb2=>?_)
    repeat (any_goals ((with_reducible refine oM_gen fun Kv hK=>?_); simp [go_sem]; (try simp (disch:=omega) only [wrapI64,wrapU8,wrapU32,wrapU64]); refine hK _ _ ?_; clear hK Kv))
    refine ⟨⟨hb1.trans (hb2.mono hz),_,_,i + 1,rfl,by omega,⟨Int.emod_nonneg _ (by omega),Int.emod_lt_of_pos _ (by omega)⟩,?_⟩,?_⟩
    ·rw [show t - (i + 1) = j by omega]; exact hR
    ·simp only [wiMu_eq]; omega
end
end Go.Proofs
namespace Go.Proofs
open Go Go.Sh Go.RowKit FdSpec
section
variable {K:Value → World → Prop} {w:World}
def smallV:Array Value:=#[.int .i64 2,.int .i64 3,.int .i64 5,.int .i64 7,.int .i64 11,.int .i64 13,.int .i64 17,.int .i64 19,.int .i64 23,.int .i64 29,.int .i64 31,.int .i64 37]
def PrJ (n:Int) (W:World) (l:List Value) (w':World):Prop:=w' = W ∧ ∃ (v u:Value) (i:Nat),l = [v,u,.int .i64 (i:Int)] ∧ i ≤ 12 ∧ smallP.find? (fun p=>decide (n % p = 0)) = (smallP.drop i).find? (fun p=>decide (n % p = 0))
def PrJ2 (n:Int) (W:World) (l:List Value) (w':World):Prop:=Below W.heap.size W w' ∧ ∃ (v u:Value) (i:Nat),l = [v,u,.int .i64 (i:Int)] ∧ i ≤ 12 ∧ smallP.all (fun p=>passes n p) = (smallP.drop i).all (fun p=>passes n p)
def prMu (l:List Value) (_:World):Nat:=match l with | [_,_,.int _ i]=>12 - i.toNat | _=>0
theorem prMu_eq (x y:Value) (q:IntKind) (i:Int) (w:World):prMu [x,y,.int q i] w = 12 - i.toNat:=rfl
theorem small_at (i:Nat) (hi:i < 12):∃ p,(∀ w,(Instr.index 208 (.agg smallV) (.int .i64 (i:Int))).run Tryz.prog w = .ok (.int .i64 p) w) ∧ smallP.drop i = p :: smallP.drop (i + 1) ∧ 2 ≤ p ∧ p ≤ 37:=by
 rcases i with _ | _ | _ | _ | _ | _ | _ | _ | _ | _ | _ | _ | i
 ·exact ⟨2,fun w=>by kernel_rfl,rfl,by decide,by decide⟩
 ·exact ⟨3,fun w=>by kernel_rfl,rfl,by decide,by decide⟩
 ·exact ⟨5,fun w=>by kernel_rfl,rfl,by decide,by decide⟩
 ·exact ⟨7,fun w=>by kernel_rfl,rfl,by decide,by decide⟩
 ·exact ⟨11,fun w=>by kernel_rfl,rfl,by decide,by decide⟩
 ·exact ⟨13,fun w=>by kernel_rfl,rfl,by decide,by decide⟩
 ·exact ⟨17,fun w=>by kernel_rfl,rfl,by decide,by decide⟩
 ·exact ⟨19,fun w=>by kernel_rfl,rfl,by decide,by decide⟩
 ·exact ⟨23,fun w=>by kernel_rfl,rfl,by decide,by decide⟩
 ·exact ⟨29,fun w=>by kernel_rfl,rfl,by decide,by decide⟩
 ·exact ⟨31,fun w=>by kernel_rfl,rfl,by decide,by decide⟩
 ·exact ⟨37,fun w=>by kernel_rfl,rfl,by decide,by decide⟩
 ·omega
theorem build_small:oM Tryz.prog (Go.Op.build 208 #[(0,(.tmp 0)),(1,(.tmp 1)),(2,(.tmp 2)),(3,(.tmp 3)),(4,(.tmp 4)),(5,(.tmp 5)),(6,(.tmp 6)),(7,(.tmp 7)),(8,(.tmp 8)),(9,(.tmp 9)),(10,(.tmp 10)),(11,(.tmp 11))]) 208 smallV.toList = pureM (.agg smallV):=by
 funext K w
 kernel_rfl
theorem Prime_ok (n:Int) (hT:DbT w) (k:∀ w',Below w.heap.size w w' → K (.bool (primeM n)) w'):callM Tryz.prog 169 #[.int .i64 n] K w:=by
 apply sh_169_ok
 unfold sh_169
 unfold primeM at k
 by_cases h1:n < 2
 ·rw [if_pos (.inl h1)] at k
  repeat (any_goals (first
  | (with_reducible first|refine zD ?_|refine yB ?_|refine yL ?_)
  | ((with_reducible refine oM_gen fun Kv hK=>?_); simp [go_sem,h1]; refine hK _ _ ?_; clear hK Kv)))
  exact k _ (Below.refl _ _)
 by_cases h2:2305843009213693952 ≤ n
 ·rw [if_pos (.inr h2)] at k
  repeat (any_goals (first
  | (with_reducible first|refine pureM_in ?_|refine zC ?_|refine yC ?_|refine yL ?_)
  | ((with_reducible refine oM_gen fun Kv hK=>?_); simp [go_sem,h1,h2]; refine hK _ _ ?_; clear hK Kv)))
  exact k _ (Below.refl _ _)
 rw [if_neg (by omega)] at k
 have hn:okN n:=⟨by omega,by omega⟩
 repeat (any_goals (first
 | (with_reducible first|refine pureM_in ?_|refine zC ?_|refine yC ?_|refine yM ?_)
 | ((with_reducible refine oM_gen fun Kv hK=>?_); simp [go_sem,h1,h2]; refine hK _ _ ?_; clear hK Kv)))
 have bs:=build_small
 unfold smallV at bs
 simp only at bs
 repeat (any_goals ((with_reducible refine oM_gen fun Kv hK=>?_); simp [go_sem,bs]; refine hK _ _ ?_; clear hK Kv))
 clear bs
 have hbW:Below w.heap.size w (w.alloc (Obj.cells #[.int .i64 2,.int .i64 3,.int .i64 5,.int .i64 7,.int .i64 11,.int .i64 13,.int .i64 17,.int .i64 19,.int .i64 23,.int .i64 29,.int .i64 31,.int .i64 37] 208)):=(Below.refl _ _).alloc (Nat.le_refl _) _
 have hTW:DbT (w.alloc (Obj.cells #[.int .i64 2,.int .i64 3,.int .i64 5,.int .i64 7,.int .i64 11,.int .i64 13,.int .i64 17,.int .i64 19,.int .i64 23,.int .i64 29,.int .i64 31,.int .i64 37] 208)):=hT.below hbW (Nat.le_refl _)
 refine ⟨PrJ n (w.alloc (Obj.cells #[.int .i64 2,.int .i64 3,.int .i64 5,.int .i64 7,.int .i64 11,.int .i64 13,.int .i64 17,.int .i64 19,.int .i64 23,.int .i64 29,.int .i64 31,.int .i64 37] 208)),prMu,⟨rfl,_,_,0,rfl,by omega,rfl⟩,?_⟩
 rintro _ _ w1 ⟨e1,v,u,i,rfl,hi,hf⟩
 rw [e1]
 clear e1 w1
 by_cases h12:i = 12
 ·subst h12
  rw [show smallP.drop 12 = [] from rfl,List.find?_nil] at hf
  rw [hf] at k
  simp only at k
  have hnd:=List.find?_eq_none.1 hf
  have hbig:37 < n:=by
   have g:∀ p ∈ smallP,¬ n % p = 0:=fun p hp=>by simpa using hnd p hp
   have hs:∀ m:Nat,m < 38 → 2 ≤ m → ∃ p ∈ smallP,(m:Int) % p = 0:=by decide +kernel
   obtain ⟨m,rfl⟩:=natN n (by omega)
   by_cases hm:m < 38
   ·obtain ⟨p,hp,hp0⟩:=hs m hm (by omega)
    exact absurd hp0 (g p hp)
   ·omega
  clear hnd hf
  repeat (any_goals (first
  | (with_reducible refine yM ?_)
  | ((with_reducible refine oM_gen fun Kv hK=>?_); simp [go_sem]; refine hK _ _ ?_; clear hK Kv)))
  refine ⟨PrJ2 n (w.alloc (Obj.cells #[.int .i64 2,.int .i64 3,.int .i64 5,.int .i64 7,.int .i64 11,.int .i64 13,.int .i64 17,.int .i64 19,.int .i64 23,.int .i64 29,.int .i64 31,.int .i64 37] 208)),prMu,⟨Below.refl _ _,_,_,0,rfl,by omega,rfl⟩,?_⟩
  rintro _ _ w2 ⟨hb2,v2,u2,i,rfl,hi2,hall⟩
  have hb3:=hbW.trans (hb2.mono (by simp))
  have hT2:DbT w2:=hTW.below hb2 (Nat.le_refl _)
  by_cases hi12:i = 12
  ·subst hi12
   rw [show smallP.drop 12 = [] from rfl,List.all_nil] at hall
   rw [hall] at k
   repeat (any_goals (first
   | (with_reducible refine yM ?_)
   | ((with_reducible refine oM_gen fun Kv hK=>?_); simp [go_sem]; refine hK _ _ ?_; clear hK Kv)))
   exact k _ hb3
  ·obtain ⟨p,hix,hdr,hp2,hp37⟩:=small_at i (by omega)
   unfold smallV at hix
   rw [hdr,List.all_cons] at hall
   have hz2:=hb2.size
   repeat (any_goals (first
   | (with_reducible refine yN ?_)
   | ((with_reducible refine oM_gen fun Kv hK=>?_); simp [go_sem,hix]; (try simp (disch:=omega) only [wrapI64,wrapU8,wrapU32,wrapU64]); refine hK _ _ ?_; clear hK Kv)))
   refine witness_ok n p hn (by omega) ⟨by omega,by omega⟩ hT2 (fun w3 hb4=>?_)
   cases hps:passes n p with
   | false=>
    rw [hps,Bool.false_and] at hall
    rw [hall] at k
    simp only [Bool.not_false]
    repeat (any_goals (with_reducible refine yL ?_))
    exact k _ (hb3.trans (hb4.mono hb3.size))
   | true=>
    rw [hps,Bool.true_and] at hall
    simp only [Bool.not_true]
    repeat (any_goals (first
    | (with_reducible refine yM ?_)
    | ((with_reducible refine oM_gen fun Kv hK=>?_); simp [go_sem]; (try simp (disch:=omega) only [wrapI64,wrapU8,wrapU32,wrapU64]); refine hK _ _ ?_; clear hK Kv)))
    refine ⟨⟨hb2.trans (hb4.mono hz2),_,_,i + 1,rfl,by omega,hall⟩,?_⟩
    simp only [prMu_eq]; omega
 ·obtain ⟨p,hix,hdr,hp2,hp37⟩:=small_at i (by omega)
  unfold smallV at hix
  rw [hdr] at hf
  have er:n.tmod p = n % p:=Int.tmod_eq_emod_of_nonneg (by omega)
  by_cases hd:n % p = 0
  ·rw [List.find?_cons_of_pos (by simpa using hd)] at hf
   rw [hf] at k
   have k:=k _ hbW
   simp only at k
   repeat (any_goals (first
   | (with_reducible ((refine idCond ?_); first|refine yL ?_|refine yN ?_))
   | ((with_reducible refine oM_gen fun Kv hK=>?_); simp [go_sem,hix,er,hd]; (first|refine hK _ _ ?_|refine And.intro (by omega) (hK _ _ ?_)); clear hK Kv)))
   exact k
  ·rw [List.find?_cons_of_neg (by simpa using hd)] at hf
   repeat (any_goals (first
   | (with_reducible ((refine idCond ?_); first|refine yM ?_|refine yN ?_))
   | ((with_reducible refine oM_gen fun Kv hK=>?_); simp [go_sem,hix,er,hd]; (try simp (disch:=omega) only [wrapI64,wrapU8,wrapU32,wrapU64]); (first|refine hK _ _ ?_|refine And.intro (by omega) (hK _ _ ?_)); clear hK Kv)))
   refine ⟨⟨rfl,_,_,i + 1,rfl,by omega,hf⟩,?_⟩
   simp only [prMu_eq]; omega
end
end Go.Proofs
namespace Go.Proofs
open Go Go.Sh Go.RowKit FdSpec
section
variable {K:Value → World → Prop} {w:World}
@[reducible] def grpV (g:Grp):Value:=.agg #[.int .i64 g.P,.int .i64 g.Q,.int .i64 g.G]
def GrpR (g:Grp):Prop:=I64 g.P ∧ I64 g.Q ∧ I64 g.G
theorem validG_not {g:Grp} (h:g.Q < 5 ∨ 1152921504606846976 ≤ g.Q ∨ g.P ≠ 2 * g.Q + 1 ∨ g.G < 2 ∨ g.P ≤ g.G):validG g = false:=by
 unfold validG; rw [if_pos h]
theorem validG_yes {g:Grp} (h:¬ (g.Q < 5 ∨ 1152921504606846976 ≤ g.Q ∨ g.P ≠ 2 * g.Q + 1 ∨ g.G < 2 ∨ g.P ≤ g.G)):validG g = (primeM g.Q && primeM g.P && decide (pw g.P g.G g.Q.toNat = 1)):=by
 unfold validG; rw [if_neg h]
theorem box_grp {T T':TypeId} (g:Grp) (k:∀ b W,Below w.heap.size w W → w.heap.size ≤ b → (∀ w',Below W.heap.size W w' → w'.cell? ⟨b,0,none⟩ = some (.int .i64 g.P)) → (∀ w',Below W.heap.size W w' → w'.cell? ⟨b,1,none⟩ = some (.int .i64 g.Q)) → (∀ w',Below W.heap.size W w' → w'.cell? ⟨b,2,none⟩ = some (.int .i64 g.G)) → K (.pointer (some ⟨b,0,none⟩)) W):oM Tryz.prog (.box T (.tmp 0)) T' [grpV g] K w:=
 box_in (cs:=[.int .i64 g.P,.int .i64 g.Q,.int .i64 g.G]) rfl fun b W h1 h2 hB=>k b W h1 h2 (fun w' h=>hB w' h 0 _ rfl) (fun w' h=>hB w' h 1 _ rfl) (fun w' h=>hB w' h 2 _ rfl)
set_option maxHeartbeats 2000000 in
theorem ValidGroup_ok (g:Grp) (hg:GrpR g) (hT:DbT w) (k:∀ w',Below w.heap.size w w' → K (.bool (validG g)) w'):callM Tryz.prog 107 #[grpV g] K w:=by
 apply sh_107_ok
 unfold sh_107
 refine box_grp g fun b W hW hb c0 c1 c2=>?_
 have n1:=validG_not (g:=g)
 have n2:=validG_yes (g:=g)
 obtain ⟨P,Q,G⟩:=g
 obtain ⟨hP,hQ,hG⟩:=hg
 unfold I64 at hP hQ hG
 simp only at hP hQ hG n1 n2 c0 c1 c2
 have hr:=Below.refl W.heap.size W
 have hTW:DbT W:=hT.below hW (Nat.le_refl _)
 have k1:∀ w',validG ⟨P,Q,G⟩ = false → Below W.heap.size W w' → K (.bool false) w':=fun w' e hb=>by rw [e] at k; exact k w' (hW.on hb)
 have k2:∀ w' v,validG ⟨P,Q,G⟩ = v → Below W.heap.size W w' → K (.bool v) w':=fun w' v e hb=>by rw [e] at k; exact k w' (hW.on hb)
 clear k
 repeat (any_goals (first
 | (with_reducible first|((refine idGd ?_); first|refine zD ?_|((refine idGdD ?_); first|refine zI ?_|refine zJ ?_|refine zK (fun hg=>?_) fun hg=>?_)|((refine idGdN ?_); first|refine zO ?_|refine zP ?_|refine zQ (fun hg=>?_) fun hg=>?_))|((refine idPick ?_); first|refine yB ?_|refine yD ?_|refine yE ?_|refine yF ?_|refine yG ?_)|((refine idCond ?_); first|refine yL ?_|refine yP (fun hg=>?_) fun hg=>?_))
 | ((with_reducible refine oM_gen fun Kv hK=>?_); simp [go_sem,c0,c1,c2,hr]; (try simp (disch:=omega) only [wrapI64,wrapU8,wrapU32,wrapU64]); refine hK _ _ ?_; clear hK Kv)))
 all_goals try exact k1 _ (n1 (by omega)) hr
 refine Prime_ok Q hTW (fun w1 h1=>?_)
 have n2:=n2 (by omega)
 cases hq:primeM Q with
 | false=>
  have n2:validG ⟨P,Q,G⟩ = false:=by rw [n2,hq]; rfl
  repeat (any_goals (with_reducible first|refine zB ?_|refine yC ?_))
  exact k1 _ n2 h1
 | true=>
  rw [hq,Bool.true_and] at n2
  repeat (any_goals (first
  | (with_reducible refine zA ?_)
  | ((with_reducible refine oM_gen fun Kv hK=>?_); simp [go_sem,c0,h1]; refine hK _ _ ?_; clear hK Kv)))
  refine Prime_ok P (hTW.below h1 (Nat.le_refl _)) (fun w2 h2=>?_)
  have h2:=h1.on h2
  cases hp:primeM P with
  | false=>
   have n2:validG ⟨P,Q,G⟩ = false:=by rw [n2,hp]; rfl
   repeat (any_goals (with_reducible first|refine zB ?_|((refine idPick ?_); first|refine yB ?_|refine yC ?_)))
   exact k1 _ n2 h2
  | true=>
   rw [hp,Bool.true_and] at n2
   repeat (any_goals (first
   | (with_reducible first|refine zA ?_|refine yB ?_)
   | ((with_reducible refine oM_gen fun Kv hK=>?_); simp [go_sem,c0,c1,c2,h2]; refine hK _ _ ?_; clear hK Kv)))
   refine Pow_ok P G Q hQ (fun w3 h3=>?_)
   have e:powM P G Q = pw P G Q.toNat:=by unfold powM; rw [if_pos (by unfold okN; omega),if_pos (by omega)]
   rw [e]
   generalize pw P G Q.toNat = z at *
   have h3:=h2.on h3
   repeat (any_goals (first
   | (with_reducible first|refine zA ?_|refine yB ?_)
   | ((with_reducible refine oM_gen fun Kv hK=>?_); simp [go_sem]; refine hK _ _ ?_; clear hK Kv)))
   exact k2 _ _ n2 h3
end
end Go.Proofs
namespace Go.Proofs
open Go Go.Sh Go.RowKit FdSpec
section
variable {K:Value → World → Prop} {w:World}
theorem Element_ok (g:Grp) (x:Int) (hgr:GrpR g) (hT:DbT w) (k:∀ w',Below w.heap.size w w' → K (.bool (elemG g x)) w'):callM Tryz.prog 109 #[grpV g,.int .i64 x] K w:=by
 apply sh_109_ok
 unfold sh_109
 refine box_grp g fun b W hW hb c0 c1 c2=>?_
 have hr:=Below.refl W.heap.size W
 have hTW:DbT W:=hT.below hW (Nat.le_refl _)
 have k2:∀ w' v,elemG g x = v → Below W.heap.size W w' → K (.bool v) w':=fun w' v e hb=>by rw [← e]; exact k w' (hW.on hb)
 have e0:elemG g x = (decide (1 ≤ x) && decide (x < g.P) && validG g && decide (pw g.P x g.Q.toNat = 1)):=rfl
 clear k
 repeat (any_goals (first
 | (with_reducible first|refine pureM_in ?_|((refine idGd ?_); first|refine zB ?_|((refine idGdD ?_); first|refine zF ?_|refine zG ?_|refine zH (fun hg=>?_) fun hg=>?_))|((refine idPick ?_); first|refine yC ?_|refine yD ?_|refine yE ?_))
 | ((with_reducible refine oM_gen fun Kv hK=>?_); simp [go_sem,c0,c1,c2,hr]; refine hK _ _ ?_; clear hK Kv)))
 ·refine ValidGroup_ok g hgr hTW (fun w1 h1=>?_)
  cases hv:validG g with
  | false=>
   repeat (any_goals (with_reducible first|refine zB ?_|((refine idPick ?_); first|refine yC ?_|refine yD ?_)))
   exact k2 _ _ (by rw [e0,hv]; simp) h1
  | true=>
   have hv2:=hv
   unfold validG at hv2
   split at hv2
   ·cases hv2
   rename_i hn
   repeat (any_goals (first
   | (with_reducible first|refine pureM_in ?_|refine zA ?_|refine yD ?_)
   | ((with_reducible refine oM_gen fun Kv hK=>?_); simp [go_sem,c0,c1,h1]; refine hK _ _ ?_; clear hK Kv)))
   refine Pow_ok g.P x g.Q hgr.2.1 (fun w3 h3=>?_)
   have e:powM g.P x g.Q = pw g.P x g.Q.toNat:=by unfold powM; rw [if_pos (by unfold okN; omega),if_pos (by omega)]
   rw [e]
   have e1:elemG g x = decide (pw g.P x g.Q.toNat = 1):=by rw [e0,hv]; simp; omega
   generalize pw g.P x g.Q.toNat = z at *
   repeat (any_goals (first
   | (with_reducible first|refine zA ?_|refine yB ?_)
   | ((with_reducible refine oM_gen fun Kv hK=>?_); simp [go_sem]; refine hK _ _ ?_; clear hK Kv)))
   exact k2 _ _ e1 (h1.on h3)
 ·exact k2 _ _ (by rw [e0]; simp; omega) hr
 ·exact k2 _ _ (by rw [e0]; simp; omega) hr
theorem Power_ok (g:Grp) (x n:Int) (k:∀ w',Below w.heap.size w w' → K (.int .i64 (powerG g x n)) w'):callM Tryz.prog 46 #[grpV g,.int .i64 x,.int .i64 n] K w:=by
 apply sh_46_ok
 unfold sh_46
 refine box_grp g fun b W hW hb c0 c1 c2=>?_
 have hr:=Below.refl W.heap.size W
 have k2:∀ w' v,powerG g x n = v → Below W.heap.size W w' → K (.int .i64 v) w':=fun w' v e hb=>by rw [← e]; exact k w' (hW.on hb)
 clear k
 repeat (any_goals ((with_reducible refine oM_gen fun Kv hK=>?_); simp [go_sem,c0,c1,c2,hr]; refine hK _ _ ?_; clear hK Kv))
 refine valid_ok g.P ?_
 by_cases hp:okN g.P
 ·by_cases hq:okN g.Q
  ·repeat (any_goals (first
   | (with_reducible ((refine idGd ?_); ((refine idGdN ?_); refine zO ?_)))
   | ((with_reducible refine oM_gen fun Kv hK=>?_); simp [go_sem,c0,c1,c2,hr]; refine hK _ _ ?_; clear hK Kv)))
   refine valid_ok g.Q ?_
   repeat (any_goals (first
   | (with_reducible first|((refine idGd ?_); ((refine idGdN ?_); refine zO ?_))|refine yG ?_|refine yR ?_)
   | ((with_reducible refine oM_gen fun Kv hK=>?_); simp [go_sem,c0,c1,c2,hr]; refine hK _ _ ?_; clear hK Kv)))
   refine ⟨Below W.heap.size W,.drawn,?_⟩
   have hp':=hp
   have hq':=hq
   obtain ⟨h1,h2⟩:=hp'
   obtain ⟨h3,h4⟩:=hq'
   have a1:=Int.emod_nonneg x (b:=g.P) (by omega)
   have a2:=Int.emod_lt_of_pos x (b:=g.P) (by omega)
   have a3:=Int.emod_nonneg n (b:=g.Q) (by omega)
   have a4:=Int.emod_lt_of_pos n (b:=g.Q) (by omega)
   have e0:powerG g x n = pw g.P (x % g.P) (n % g.Q).toNat:=by unfold powerG; rw [if_pos ⟨hp,hq⟩,pw_emod]
   obtain ⟨m,hm⟩:=natN (n % g.Q) a3
   rw [hm,Int.toNat_natCast] at e0
   have hr:=pw_nonneg g.P (x % g.P) m (by omega)
   repeat (any_goals ((with_reducible refine idOQ ?_); (with_reducible refine oQ_of ⟨_,rfl⟩ (fun W0 hW0=>by (refine oM_gen (fun Kv hK=>?_)); simp [go_sem,c0 _ hW0,c1 _ hW0,c2 _ hW0]; (first | exact hK _ _ ⟨rfl,rfl⟩ | exact ⟨by omega,hK _ _ ⟨rfl,rfl⟩⟩)) ?_)))
   refine callQ_of (fun W0 hW0=>residue_ok g.P x hp ⟨rfl,hW0⟩) ?_
   repeat (any_goals ((with_reducible refine idOQ ?_); (with_reducible refine oQ_of ⟨_,rfl⟩ (fun W0 hW0=>by (refine oM_gen (fun Kv hK=>?_)); simp [go_sem,c0 _ hW0,c1 _ hW0,c2 _ hW0]; (first | exact hK _ _ ⟨rfl,rfl⟩ | exact ⟨by omega,hK _ _ ⟨rfl,rfl⟩⟩)) ?_)))
   refine callQ_of (fun W0 hW0=>residue_ok g.Q n hq ⟨rfl,hW0⟩) ?_
   rw [hm]
   refine callQ_of (fun W0 hW0=>power_ok g.P (x % g.P) m hp ⟨a1,a2⟩ (by omega) (fun w' hw'=>⟨rfl,hW0.on hw'⟩)) ?_
   generalize pw g.P (x % g.P) m = z at *
   have e3:IntKind.i64.wrap z = z:=wrapI64 z (by omega) (by omega)
   repeat (any_goals ((with_reducible refine idOQ ?_); (with_reducible refine oQ_of ⟨_,rfl⟩ (fun W0 hW0=>by (refine oM_gen (fun Kv hK=>?_)); simp [go_sem,e3]; (first | exact hK _ _ ⟨rfl,rfl⟩ | exact ⟨by omega,hK _ _ ⟨rfl,rfl⟩⟩)) ?_)))
   intro w' hw'
   exact k2 _ _ e0 hw'
  ·have e0:powerG g x n = 0:=by unfold powerG; rw [if_neg (fun h=>hq h.2)]
   repeat (any_goals (first
   | (with_reducible ((refine idGd ?_); ((refine idGdN ?_); refine zO ?_)))
   | ((with_reducible refine oM_gen fun Kv hK=>?_); simp [go_sem,c0,c1,c2,hr]; refine hK _ _ ?_; clear hK Kv)))
   refine valid_ok g.Q ?_
   repeat (any_goals (first
   | (with_reducible first|((refine idGd ?_); ((refine idGdN ?_); refine zO ?_))|refine yG ?_|refine yQ ?_)
   | ((with_reducible refine oM_gen fun Kv hK=>?_); simp [go_sem,c0,c1,c2,hr]; refine hK _ _ ?_; clear hK Kv)))
   exact k2 _ _ e0 hr
 ·have e0:powerG g x n = 0:=by unfold powerG; rw [if_neg (fun h=>hp h.1)]
  repeat (any_goals (first
  | (with_reducible first|((refine idGd ?_); ((refine idGdN ?_); refine zP ?_))|refine yF ?_|refine yL ?_)
  | ((with_reducible refine oM_gen fun Kv hK=>?_); simp [go_sem,c0,c1,c2,hr]; refine hK _ _ ?_; clear hK Kv)))
  exact k2 _ _ e0 hr
theorem Times_ok (g:Grp) (x n:Int) (k:∀ w',Below w.heap.size w w' → K (.int .i64 (timesG g x n)) w'):callM Tryz.prog 178 #[grpV g,.int .i64 x,.int .i64 n] K w:=by
 apply sh_178_ok
 unfold sh_178
 refine box_grp g fun b W hW hb c0 c1 c2=>?_
 have hr:=Below.refl W.heap.size W
 have k2:∀ w' v,timesG g x n = v → Below W.heap.size W w' → K (.int .i64 v) w':=fun w' v e hb=>by rw [← e]; exact k w' (hW.on hb)
 clear k
 repeat (any_goals ((with_reducible refine oM_gen fun Kv hK=>?_); simp [go_sem,c0,c1,c2,hr]; refine hK _ _ ?_; clear hK Kv))
 refine valid_ok g.Q ?_
 by_cases hq:okN g.Q
 ·repeat (any_goals (first
  | (with_reducible refine yR ?_)
  | ((with_reducible refine oM_gen fun Kv hK=>?_); simp [go_sem,c0,c1,c2,hr]; refine hK _ _ ?_; clear hK Kv)))
  refine Mul_ok g.P x n (fun w1 h1=>?_)
  exact k2 _ _ (by unfold timesG; rw [if_pos hq]) h1
 ·repeat (any_goals (first
  | (with_reducible refine yQ ?_)
  | ((with_reducible refine oM_gen fun Kv hK=>?_); simp [go_sem,c0,c1,c2,hr]; refine hK _ _ ?_; clear hK Kv)))
  exact k2 _ _ (by unfold timesG; rw [if_neg hq]) hr
end
end Go.Proofs
namespace Go.Proofs
open Go Go.Sh Go.RowKit FdSpec
section
variable {K:Value → World → Prop} {w:World}
def PdJ (g:Grp) (R:Int) (ps:List (Int × Int)) (W:World) (l:List Value) (w':World):Prop:=Below W.heap.size W w' ∧ ∃ (v u:Value) (o:Int) (i:Nat),l = [v,u,.int .i64 o,.int .i64 (i:Int)] ∧ i ≤ ps.length ∧ prodL g o (ps.drop i) = R
def pdMu (n:Nat) (l:List Value) (_:World):Nat:=match l with | [_,_,_,.int _ i]=>n - i.toNat | _=>0
theorem pdMu_eq (n:Nat) (x y z:Value) (q:IntKind) (i:Int) (w:World):pdMu n [x,y,z,.int q i] w = n - i.toNat:=rfl
theorem zip_drop (a b:List Int) (i:Nat) (h1:i < a.length) (h2:i < b.length):(a.zip b).drop i = (a[i],b[i]) :: (a.zip b).drop (i + 1):=by
 rw [List.drop_eq_getElem_cons (by rw [List.length_zip]; omega),List.getElem_zip]
@[go_sem] theorem oM_index_ints (T:TypeId) (b o n c:Nat) (x:Int):oM Tryz.prog (.indexAddr 24 (.tmp 0) (.tmp 1)) T [.slice (some ⟨b,o,none⟩) n c,.int .i64 x] = onM (0 ≤ x ∧ x < n) (.pointer (some ⟨b,o + x.toNat,none⟩)):=by
 funext K w
 rw [oM_indexAddr,run_indexAt_slice (h:=by kernel_rfl)]
 have hs:(sizeOf (Tryz.prog.elem 24)).run Tryz.prog w = .ok 1 w:=by kernel_rfl
 by_cases hi:0 ≤ x ∧ x < n
 ·rw [if_pos hi,hs]
  simp only [Result.andThen,add_none,Nat.mul_one,rM_ok]
  exact propext ⟨fun h=>⟨hi,h⟩,fun h=>h.2⟩
 ·rw [if_neg hi]
  obtain ⟨e',w',he⟩:=halts Value Tryz.prog .i64 x n .index w
  rw [he]
  exact propext ⟨fun h=>h.elim,fun h=>hi h.1⟩
theorem Product_ok (g:Grp) {bv ev:Value} {bs es:List Int} (hbs:Ints w bv bs) (hes:Ints w ev es) (k:∀ w',Below w.heap.size w w' → K (.tuple #[.int .i64 (prodG g bs es).1,.bool (prodG g bs es).2]) w'):callM Tryz.prog 126 #[grpV g,bv,ev] K w:=by
 apply sh_126_ok
 unfold sh_126
 refine box_grp g fun b W hW hb c0 c1 c2=>?_
 have hr:=Below.refl W.heap.size W
 have k2:∀ w' v,prodG g bs es = v → Below W.heap.size W w' → K (.tuple #[.int .i64 v.1,.bool v.2]) w':=fun w' v e hb=>by rw [← e]; exact k w' (hW.on hb)
 clear k
 obtain ⟨bad,bc,rfl⟩:=hbs.isSlice
 obtain ⟨ead,ec,rfl⟩:=hes.isSlice
 have hbs:=hbs.next hW
 have hes:=hes.next hW
 have l1:=hbs.len
 have l2:=hes.len
 repeat (any_goals ((with_reducible refine oM_gen fun Kv hK=>?_); simp [go_sem,c0,c1,c2,hr]; refine hK _ _ ?_; clear hK Kv))
 refine valid_ok g.P ?_
 by_cases hp:okN g.P
 ·by_cases hq:okN g.Q
  ·repeat (any_goals (first
   | (with_reducible ((refine idGd ?_); ((refine idGdN ?_); refine zO ?_)))
   | ((with_reducible refine oM_gen fun Kv hK=>?_); simp [go_sem,c0,c1,c2,hr]; refine hK _ _ ?_; clear hK Kv)))
   refine valid_ok g.Q ?_
   by_cases hl:bs.length = es.length
   ·have e1:(1:Int).tmod g.P = 1 % g.P:=Int.tmod_eq_emod_of_nonneg (by omega)
    have hp0:=hp.1
    have e0:prodG g bs es = (prodL g (1 % g.P) (bs.zip es),true):=by unfold prodG; rw [if_pos ⟨hp,hq,hl⟩]
    have hzl:(bs.zip es).length = bs.length:=by rw [List.length_zip]; omega
    repeat (any_goals (first
    | (with_reducible first|refine pureM_in ?_|((refine idGd ?_); ((refine idGdN ?_); refine zO ?_))|refine yG ?_|refine yM ?_)
    | ((with_reducible refine oM_gen fun Kv hK=>?_); simp [go_sem,c0,c1,c2,hr,hl,e1]; (first|refine hK _ _ ?_|refine And.intro (by omega) (hK _ _ ?_)); clear hK Kv)))
    refine ⟨PdJ g (prodL g (1 % g.P) (bs.zip es)) (bs.zip es) W,pdMu es.length,⟨hr,_,_,_,0,rfl,by omega,rfl⟩,?_⟩
    generalize prodL g (1 % g.P) (bs.zip es) = R at *
    rintro _ _ w1 ⟨h1,v,u,o,i,rfl,hi,he⟩
    rw [hzl] at hi
    by_cases hin:i = es.length
    ·rw [List.drop_of_length_le (by omega)] at he
     unfold prodL at he
     repeat (any_goals (first
     | (with_reducible refine yO ?_)
     | ((with_reducible refine oM_gen fun Kv hK=>?_); simp [go_sem]; refine hK _ _ ?_; clear hK Kv)))
     rw [he]
     exact k2 _ _ e0 h1
    ·rw [zip_drop bs es i (by omega) (by omega)] at he
     unfold prodL at he
     obtain ⟨b1,o1,rfl,hb1,ca,ra,_⟩:=hbs.at (i:=i) (by omega)
     obtain ⟨b2,o2,rfl,hb2,cb,rb,_⟩:=hes.at (i:=i) (by omega)
     repeat (any_goals (first
     | (with_reducible refine yN ?_)
     | ((with_reducible refine oM_gen fun Kv hK=>?_); simp [go_sem,ca _ h1,c0,h1]; (first|refine hK _ _ ?_|refine And.intro (by omega) (hK _ _ ?_)); clear hK Kv)))
     refine ⟨Below W.heap.size W,h1.trans .drawn,?_⟩
     repeat (any_goals ((with_reducible refine idOQ ?_); (with_reducible refine oQ_of ⟨_,rfl⟩ (fun W0 hW0=>by (refine oM_gen (fun Kv hK=>?_)); simp [go_sem,c0 _ hW0,c1 _ hW0,c2 _ hW0,cb _ hW0]; (first | exact hK _ _ ⟨rfl,rfl⟩ | exact ⟨by omega,hK _ _ ⟨rfl,rfl⟩⟩)) ?_)))
     refine callQ_of (fun W0 hW0=>Power_ok g _ _ (fun w' hw'=>⟨rfl,hW0.on hw'⟩)) ?_
     refine callQ_of (fun W0 hW0=>Mul_ok _ _ _ (fun w' hw'=>⟨rfl,hW0.on hw'⟩)) ?_
     intro w2 h2
     repeat (any_goals ((with_reducible refine oM_gen fun Kv hK=>?_); simp [go_sem]; (try simp (disch:=omega) only [wrapI64,wrapU8,wrapU32,wrapU64]); refine hK _ _ ?_; clear hK Kv))
     refine ⟨⟨h2,_,_,_,i + 1,rfl,by rw [hzl]; omega,he⟩,?_⟩
     simp only [pdMu_eq]; omega
   ·have e0:prodG g bs es = (0,false):=by unfold prodG; rw [if_neg (fun h=>hl h.2.2)]
    have hl':¬ (bs.length:Int) = es.length:=by omega
    repeat (any_goals (first
    | (with_reducible first|refine pureM_in ?_|((refine idGd ?_); ((refine idGdN ?_); refine zO ?_))|refine yG ?_|refine yL ?_)
    | ((with_reducible refine oM_gen fun Kv hK=>?_); simp [go_sem,c0,c1,c2,hr,hl']; refine hK _ _ ?_; clear hK Kv)))
    exact k2 _ _ e0 hr
  ·have e0:prodG g bs es = (0,false):=by unfold prodG; rw [if_neg (fun h=>hq h.2.1)]
   repeat (any_goals (first
   | (with_reducible ((refine idGd ?_); ((refine idGdN ?_); refine zO ?_)))
   | ((with_reducible refine oM_gen fun Kv hK=>?_); simp [go_sem,c0,c1,c2,hr]; refine hK _ _ ?_; clear hK Kv)))
   refine valid_ok g.Q ?_
   repeat (any_goals (first
   | (with_reducible first|((refine idGd ?_); ((refine idGdN ?_); first|refine zO ?_|refine zP ?_))|((refine idPick ?_); first|refine yF ?_|refine yG ?_)|refine yL ?_)
   | ((with_reducible refine oM_gen fun Kv hK=>?_); simp [go_sem,c0,c1,c2,hr]; refine hK _ _ ?_; clear hK Kv)))
   exact k2 _ _ e0 hr
 ·have e0:prodG g bs es = (0,false):=by unfold prodG; rw [if_neg (fun h=>hp h.1)]
  repeat (any_goals (first
  | (with_reducible first|((refine idGd ?_); first|refine zD ?_|((refine idGdN ?_); refine zP ?_))|((refine idPick ?_); first|refine yB ?_|refine yF ?_)|refine yL ?_)
  | ((with_reducible refine oM_gen fun Kv hK=>?_); simp [go_sem,c0,c1,c2,hr]; refine hK _ _ ?_; clear hK Kv)))
  exact k2 _ _ e0 hr
end
end Go.Proofs
namespace Go.Sh
open Go Go.RowKit
@[reducible] def cellsAre (w:World):List (Addr × Value) → Prop
 | []=>True
 | p :: l=>w.cell? p.1 = some p.2 ∧ cellsAre w l
theorem cellsAre_keep {w w':World}:∀ {L:List (Addr × Value)},cellsAre w L → (∀ (a:Addr),a.block < w.heap.size → w'.cell? a = w.cell? a) → cellsAre w' L
 | [],_,_=>trivial
 | p :: l,h,k=>by
  refine ⟨?_,cellsAre_keep h.2 k⟩
  have hlt:p.1.block < w.heap.size:=by
   have h1:=h.1
   by_cases hc:p.1.block < w.heap.size
   ·exact hc
   ·unfold World.cell? at h1
    rw [Array.getElem?_eq_none (by omega)] at h1
    simp at h1
  rw [k _ hlt]; exact h.1
theorem cellsAre_keepBut {w w':World} {g:Nat}:∀ {L:List (Addr × Value)},cellsAre w L → (∀ p ∈ L,p.1.block ≠ g) → (∀ (a:Addr),a.block < w.heap.size → a.block ≠ g → w'.cell? a = w.cell? a) → cellsAre w' L
 | [],_,_,_=>trivial
 | p :: l,h,hn,k=>by
  refine ⟨?_,cellsAre_keepBut h.2 (fun q hq=>hn q (List.mem_cons_of_mem _ hq)) k⟩
  have hlt:p.1.block < w.heap.size:=by
   have h1:=h.1
   by_cases hc:p.1.block < w.heap.size
   ·exact hc
   ·unfold World.cell? at h1
    rw [Array.getElem?_eq_none (by omega)] at h1
    simp at h1
  rw [k _ hlt (hn p (List.mem_cons_self ..))]; exact h.1
structure Kn (w0:World) (L:List (Addr × Value)) (w':World):Prop where
 below:Below w0.heap.size w0 w'
 cells:cellsAre w' L
namespace Kn
variable {w0 w w':World} {L:List (Addr × Value)}
theorem start (w:World):Kn w [] w:=⟨Below.refl _ _,trivial⟩
theorem next (h:Kn w0 L w) (hb:Below w.heap.size w w'):Kn w0 L w':=⟨h.below.on hb,cellsAre_keep h.cells fun a ha=>hb.cell ha⟩
theorem drew (h:Kn w0 L w):Kn w0 L { w with drawn:=w.drawn + 1 }:=h.next .drawn
theorem wrote (h:Kn w0 L w) {g:Nat} (hg:w.grownBy w' (some g)) (h0:w0.heap.size ≤ g) (hn:∀ p ∈ L,p.1.block ≠ g):Kn w0 L w':=
 ⟨h.below.grown hg h.below.size (fun k hk=>by cases hk; exact h0),
  cellsAre_keepBut h.cells hn fun a ha hna=>World.cell?_of_block (w:=w) (hg.block _ ha (fun e=>hna (Option.some.inj e)))⟩
theorem less {A:List (Addr × Value)} (h:Kn w0 (A ++ L) w):Kn w0 L w:=⟨h.below,by
 have:=h.cells
 clear h
 induction A with
 | nil=>exact this
 | cons a A ih=>exact ih this.2⟩
end Kn
@[reducible] def cellsOf (L:List (Addr × Value)) (b:Nat):Nat → List Value → List (Addr × Value)
 | _,[]=>L
 | i,v :: l=>(⟨b,i,none⟩,v) :: cellsOf L b (i + 1) l
theorem cellsOf_are {w:World} {b:Nat} {xs:List Value} {L:List (Addr × Value)} (hL:cellsAre w L) (h:∀ (i:Nat) (v:Value),xs[i]? = some v → w.cell? ⟨b,i,none⟩ = some v):∀ (l:List Value) (i:Nat),xs.drop i = l → cellsAre w (cellsOf L b i l)
 | [],_,_=>hL
 | v :: l,i,e=>by
  have hv:xs[i]? = some v:=by
   have:=congrArg (·[0]?) e
   simpa using this
  refine ⟨h i v hv,cellsOf_are hL h l (i + 1) ?_⟩
  have:=congrArg List.tail e
  simpa using this
def Mine (w:World) (g:Nat) (n:Nat):Prop:=∃ cur T,w.heap[g]? = some (.cells cur T (0,0)) ∧ cur.size = n
theorem Mine.next {w w':World} {g n:Nat} (h:Mine w g n) (hb:Below w.heap.size w w'):Mine w' g n:=by
 obtain ⟨cur,T,h1,h2⟩:=h
 refine ⟨cur,T,?_,h2⟩
 rw [hb.block g (Array.getElem?_eq_some_iff.1 h1).1]; exact h1
section
variable {P:Program} {w0 w:World} {K:Value → World → Prop} {T T':TypeId} {L:List (Addr × Value)}
theorem box_kn {x:Value} {cs:List Value} (hx:x.cells = cs.toArray) (hk:Kn w0 L w) (k:∀ b W,Kn w0 (cellsOf L b 0 cs) W → Below w.heap.size w W → w.heap.size ≤ b → K (.pointer (some ⟨b,0,none⟩)) W):oM P (.box T (.tmp 0)) T' [x] K w:=
 box_in hx fun g W h1 h2 h3=>k g W ⟨(hk.next h1).below,cellsOf_are (xs:=cs) (hk.next h1).cells (fun i v hi=>h3 W (Below.refl _ _) i v hi) cs 0 rfl⟩ h1 h2
end
end Go.Sh
namespace TkSpec
open FdSpec
structure Stp where
 g:Grp
 bases:List Int
 blind:Int
deriving DecidableEq
structure Bld where
 s:Int
 u:Int
 v:Int
 ys:List Int
deriving DecidableEq
structure Tkt where
 mark:Int
 first:Int
 z:Int
 a:Int
 b:Int
 r:Int
deriving DecidableEq
structure Spd where
 dare:Int
 answers:List Int
deriving DecidableEq
structure Off where
 z:Int
 a:Int
 b:Int
deriving DecidableEq
def otherM (g:Grp) (x:Int):Bool:=!decide (x = 1) && elemG g x
def validS (s:Stp):Bool:=validG s.g && decide (2 ≤ s.bases.length) && decide (s.bases.length ≤ 7) && s.bases.all (otherM s.g) && otherM s.g s.blind
def genM (s:Stp) (k:Int):Int:=powerG s.g s.g.G k
def timesM (s:Stp) (first:Int) (l:List Int):Int:=l.foldl (fun a x=>timesG s.g a x) first
def mulQ (s:Stp) (first:Int) (l:List Int):Int:=l.foldl (fun a x=>mulM s.g.Q a x) first
def plusQ (s:Stp) (a b:Int):Int:=addM s.g.Q a b
def expsM (attrs:List Int):List Int:=1 :: attrs
def s0:Stp:=⟨⟨23,11,4⟩,[4,16,18],3⟩
def b0:Bld:=⟨4,1,0,[1,2,3]⟩
def t0:Tkt:=⟨8,18,9,16,13,0⟩
end TkSpec
namespace Go.Proofs
open Go Go.Sh Go.RowKit FdSpec TkSpec
section
variable {K:Value → World → Prop} {w:World}
@[reducible] def stpV (s:Stp) (v:Value):Value:=.agg #[.int .i64 s.g.P,.int .i64 s.g.Q,.int .i64 s.g.G,v,.int .i64 s.blind]
@[reducible] def stpC (s:Stp) (v:Value):List Value:=[.int .i64 s.g.P,.int .i64 s.g.Q,.int .i64 s.g.G,v,.int .i64 s.blind]
structure SetR (w:World) (s:Stp) (v:Value):Prop where
 grp:GrpR s.g
 ints:Ints w v s.bases
 blind:I64 s.blind
 db:DbT w
theorem DbT.next {w w':World} (h:DbT w) (hb:Below w.heap.size w w'):DbT w':=h.below hb (Nat.le_refl _)
theorem SetR.next {w w':World} {s:Stp} {v:Value} (h:SetR w s v) (hb:Below w.heap.size w w'):SetR w' s v:=⟨h.grp,h.ints.next hb,h.blind,h.db.next hb⟩
theorem other_ok (g:Grp) (x:Int) {b:Nat} (hg:GrpR g) (hT:DbT w) (h0:w.cell? ⟨b,0,none⟩ = some (.int .i64 g.P)) (h1:w.cell? ⟨b,1,none⟩ = some (.int .i64 g.Q)) (h2:w.cell? ⟨b,2,none⟩ = some (.int .i64 g.G))
  (k:∀ w',Below w.heap.size w w' → K (.bool (otherM g x)) w'):callM Tryz.prog 108 #[.int .i64 x,.pointer (some ⟨b,0,none⟩)] K w:=by
 apply sh_108_ok
 unfold sh_108
 unfold otherM at k
 by_cases hx:x = 1
 ·have k:=k w (Below.refl _ _)
  repeat (any_goals (first
  | (with_reducible first|((refine idGd ?_); ((refine idGdN ?_); refine zM ?_))|refine yG ?_)
  | ((with_reducible refine oM_gen fun Kv hK=>?_); simp [go_sem,h0,h1,h2]; refine hK _ _ ?_; clear hK Kv)))
  simpa [hx] using k
 ·repeat (any_goals (first
  | (with_reducible first|refine pureM_in ?_|((refine idGd ?_); ((refine idGdN ?_); refine zL ?_)))
  | ((with_reducible refine oM_gen fun Kv hK=>?_); simp [go_sem,h0,h1,h2]; refine hK _ _ ?_; clear hK Kv)))
  refine Element_ok g x hg hT (fun w' hw=>?_)
  have k:=k w' hw
  repeat (any_goals (with_reducible refine yF ?_))
  simpa [hx] using k
def VsJ (s:Stp) (L:List (Addr × Value)) (R:Bool) (w0:World) (l:List Value) (w':World):Prop:=Kn w0 L w' ∧ ∃ (v u:Value) (i:Nat),l = [v,u,.int .i64 (i:Int)] ∧ i ≤ s.bases.length ∧ (s.bases.drop i).all (otherM s.g) = R
def vsMu (n:Nat) (l:List Value) (_:World):Nat:=match l with | [_,_,.int _ i]=>n - i.toNat | _=>0
theorem vsMu_eq (n:Nat) (x y:Value) (q:IntKind) (i:Int) (w:World):vsMu n [x,y,.int q i] w = n - i.toNat:=rfl
theorem ValidSetup_ok (s:Stp) {v:Value} (hs:SetR w s v) (k:∀ w',Below w.heap.size w w' → K (.bool (validS s)) w'):callM Tryz.prog 21 #[stpV s v] K w:=by
 apply sh_21_ok
 unfold sh_21
 obtain ⟨ad,c,rfl⟩:=hs.ints.isSlice
 refine box_kn (cs:=stpC s (.slice ad s.bases.length c)) rfl (.start w) fun b W hk hb1 hb=>?_
 have k2:∀ w' r,validS s = r → Below w.heap.size w w' → K (.bool r) w':=fun w' r e hb=>by rw [← e]; exact k w' hb
 have e0:validS s = (validG s.g && decide (2 ≤ s.bases.length) && decide (s.bases.length ≤ 7) && s.bases.all (otherM s.g) && otherM s.g s.blind):=rfl
 have hl:=hs.ints.len
 clear k
 repeat (any_goals ((with_reducible refine oM_gen fun Kv hK=>?_); simp [go_sem,hk.cells]; refine hK _ _ ?_; clear hK Kv))
 refine ValidGroup_ok s.g hs.grp (hs.db.next hk.below) (fun w1 h1=>?_)
 have hk:=hk.next h1
 clear h1 hb1
 cases hv:validG s.g with
 | false=>
  repeat (any_goals (first
  | (with_reducible first|refine zD ?_|refine yB ?_|refine yL ?_)
  | ((with_reducible refine oM_gen fun Kv hK=>?_); simp [go_sem]; refine hK _ _ ?_; clear hK Kv)))
  exact k2 _ _ (by rw [e0,hv]; simp) hk.below
 | true=>
  repeat (any_goals (first
  | (with_reducible first|((refine idGd ?_); first|refine zC ?_|((refine idGdD ?_); first|refine zI ?_|refine zJ ?_|refine zK (fun hg=>?_) fun hg=>?_))|((refine idPick ?_); first|refine yC ?_|refine yD ?_|refine yE ?_)|((refine idCond ?_); first|refine yL ?_|refine yP (fun hg=>?_) fun hg=>?_))
  | ((with_reducible refine oM_gen fun Kv hK=>?_); simp [go_sem,hk.cells]; refine hK _ _ ?_; clear hK Kv)))
  ·exact k2 _ _ (by rw [e0]; simp; omega) hk.below
  ·exact k2 _ _ (by rw [e0]; simp; omega) hk.below
  have e1:validS s = (s.bases.all (otherM s.g) && otherM s.g s.blind):=by
   rw [e0,hv,decide_eq_true (by omega:2 ≤ s.bases.length),decide_eq_true (by omega:s.bases.length ≤ 7)]; rfl
  refine ⟨VsJ s _ (s.bases.all (otherM s.g)) w,vsMu s.bases.length,⟨hk,_,_,0,rfl,by omega,rfl⟩,?_⟩
  generalize s.bases.all (otherM s.g) = R at *
  rintro _ _ w2 ⟨hk,u1,u2,i,rfl,hi,hall⟩
  have hc:=hk.cells
  by_cases hin:i = s.bases.length
  ·rw [List.drop_of_length_le (by omega),List.all_nil] at hall
   subst hall
   repeat (any_goals (first
   | (with_reducible refine yO ?_)
   | ((with_reducible refine oM_gen fun Kv hK=>?_); simp [go_sem,hc]; refine hK _ _ ?_; clear hK Kv)))
   refine oM_callv1 (by kernel_rfl) ?_
   refine other_ok s.g s.blind hs.grp (hs.db.next hk.below) hc.1 hc.2.1 hc.2.2.1 (fun w3 h3=>?_)
   exact k2 _ _ (by rw [e1,Bool.true_and]) (hk.next h3).below
  ·rw [List.drop_eq_getElem_cons (by omega),List.all_cons] at hall
   obtain ⟨b1,o1,rfl,hb1,ca,ra,_⟩:=hs.ints.at (i:=i) (by omega)
   repeat (any_goals (first
   | (with_reducible refine yN ?_)
   | ((with_reducible refine oM_gen fun Kv hK=>?_); simp [go_sem,ca _ hk.below]; (first|refine hK _ _ ?_|refine And.intro (by omega) (hK _ _ ?_)); clear hK Kv)))
   refine oM_callv1 (by kernel_rfl) ?_
   refine other_ok s.g _ hs.grp (hs.db.next hk.below) hc.1 hc.2.1 hc.2.2.1 (fun w3 h3=>?_)
   cases ho:otherM s.g s.bases[i] with
   | false=>
    rw [ho,Bool.false_and] at hall
    subst hall
    repeat (any_goals (first
    | (with_reducible refine yL ?_)
    | ((with_reducible refine oM_gen fun Kv hK=>?_); simp [go_sem]; refine hK _ _ ?_; clear hK Kv)))
    exact k2 _ _ (by rw [e1,Bool.false_and]) (hk.next h3).below
   | true=>
    rw [ho,Bool.true_and] at hall
    repeat (any_goals (first
    | (with_reducible refine yM ?_)
    | ((with_reducible refine oM_gen fun Kv hK=>?_); simp [go_sem]; (try simp (disch:=omega) only [wrapI64,wrapU8,wrapU32,wrapU64]); refine hK _ _ ?_; clear hK Kv)))
    refine ⟨⟨hk.next h3,_,_,i + 1,rfl,by omega,hall⟩,?_⟩
    simp only [vsMu_eq]; omega
end
end Go.Proofs
namespace Go.Proofs
open Go Go.Sh Go.RowKit FdSpec TkSpec
section
variable {K:Value → World → Prop} {w w0:World} {L:List (Addr × Value)}
theorem ints_alloc (w:World) (l:List Int) (T:TypeId) (c:Nat) (hr:∀ n ∈ l,I64 n) (hl:l.length ≤ 9223372036854775807):Ints (w.alloc (.cells (l.map (Value.int .i64)).toArray T)) (.slice (some ⟨w.heap.size,0,none⟩) l.length c) l:=by
 refine ⟨⟨_,c,rfl,by simp,?_⟩,hr,hl⟩
 by_cases h0:l = []
 ·exact .inl h0
 ·refine .inr ⟨_,0,rfl,by simp,fun k x hk=>?_⟩
  rw [flat_int] at hk
  rw [Nat.zero_add]
  have:=World.cell?_alloc_at (w:=w) (l.map (Value.int .i64)).toArray T w.heap.size k rfl
  rw [this]
  simpa using hk
theorem mk1 {T:TypeId} (x:Int) (hx:I64 x) (k:∀ v W,Below w.heap.size w W → Ints W v [x] → K v W):oM Tryz.prog (.buildSlice 24 1 #[(0,.tmp 0)]) T [.int .i64 x] K w:=by
 rw [oM_buildSlice1]
 have e:(Instr.buildSlice 24 1 #[(0,.int .i64 x)]).run Tryz.prog w = .ok (.slice (some ⟨w.heap.size,0,none⟩) 1 1) (w.alloc (.cells #[.int .i64 x] 3)):=by kernel_rfl
 rw [e]
 exact k _ _ ((Below.refl _ w).alloc (Nat.le_refl _) _) (ints_alloc w [x] _ 1 (by simpa using hx) (by simp))
theorem mk2 {T:TypeId} (x y:Int) (hx:I64 x) (hy:I64 y) (k:∀ v W,Below w.heap.size w W → Ints W v [x,y] → K v W):oM Tryz.prog (.buildSlice 24 2 #[(0,.tmp 0),(1,.tmp 1)]) T [.int .i64 x,.int .i64 y] K w:=by
 rw [oM_buildSlice2]
 have e:(Instr.buildSlice 24 2 #[(0,.int .i64 x),(1,.int .i64 y)]).run Tryz.prog w = .ok (.slice (some ⟨w.heap.size,0,none⟩) 2 2) (w.alloc (.cells #[.int .i64 x,.int .i64 y] 3)):=by kernel_rfl
 rw [e]
 exact k _ _ ((Below.refl _ w).alloc (Nat.le_refl _) _) (ints_alloc w [x,y] _ 2 (by simp; exact ⟨hx,hy⟩) (by simp))
def IfJ (p:Int → Bool) (l:List Int) (R:Bool) (w0:World) (vs:List Value) (w':World):Prop:=Below w0.heap.size w0 w' ∧ ∃ (v u:Value) (i:Nat),vs = [v,u,.int .i64 (i:Int)] ∧ i ≤ l.length ∧ (l.drop i).any p = R
theorem IndexFunc_ok {v F:Value} {l:List Int} (p:Int → Bool) (hl:Ints w v l)
  (hF:∀ (w':World) (x:Int) (K':Value → World → Prop) (T:TypeId),Below w.heap.size w w' → I64 x → (∀ w'',Below w'.heap.size w' w'' → K' (.bool (p x)) w'') → oM Tryz.prog (.call { callee:=.value (.tmp 0),args:=#[.tmp 1],argTypes:=#[3] }) T [F,.int .i64 x] K' w')
  (k:∀ w' (r:Int),Below w.heap.size w w' → decide (0 ≤ r) = l.any p → K (.int .i64 r) w'):callM Tryz.prog 186 #[v,F] K w:=by
 apply sh_186_ok
 unfold sh_186
 obtain ⟨ad,c,rfl⟩:=hl.isSlice
 have hll:=hl.len
 repeat (any_goals ((with_reducible refine oM_gen fun Kv hK=>?_); simp [go_sem]; refine hK _ _ ?_; clear hK Kv))
 refine ⟨IfJ p l (l.any p) w,vsMu l.length,⟨Below.refl _ _,_,_,0,rfl,by omega,rfl⟩,?_⟩
 generalize l.any p = R at *
 rintro _ _ w1 ⟨h1,u1,u2,i,rfl,hi,ha⟩
 by_cases hin:i = l.length
 ·rw [List.drop_of_length_le (by omega),List.any_nil] at ha
  repeat (any_goals (first
  | (with_reducible refine yO ?_)
  | ((with_reducible refine oM_gen fun Kv hK=>?_); simp [go_sem]; refine hK _ _ ?_; clear hK Kv)))
  exact k _ _ h1 (by rw [← ha]; rfl)
 ·rw [List.drop_eq_getElem_cons (by omega),List.any_cons] at ha
  obtain ⟨b1,o1,rfl,hb1,ca,ra,_⟩:=hl.at (i:=i) (by omega)
  repeat (any_goals (first
  | (with_reducible refine yN ?_)
  | ((with_reducible refine oM_gen fun Kv hK=>?_); simp [go_sem,ca _ h1]; (first|refine hK _ _ ?_|refine And.intro (by omega) (hK _ _ ?_)); clear hK Kv)))
  refine hF w1 _ _ _ h1 ra (fun w2 h2=>?_)
  cases hp:p l[i] with
  | true=>
   rw [hp,Bool.true_or] at ha
   repeat (any_goals (with_reducible refine yL ?_))
   exact k _ _ (h1.on h2) (by rw [← ha]; simp)
  | false=>
   rw [hp,Bool.false_or] at ha
   repeat (any_goals (first
   | (with_reducible refine yM ?_)
   | ((with_reducible refine oM_gen fun Kv hK=>?_); simp [go_sem]; (try simp (disch:=omega) only [wrapI64,wrapU8,wrapU32,wrapU64]); refine hK _ _ ?_; clear hK Kv)))
   refine ⟨⟨h1.on h2,_,_,i + 1,rfl,by omega,ha⟩,?_⟩
   simp only [vsMu_eq]; omega
theorem ContainsFunc_ok {v F:Value} {l:List Int} (p:Int → Bool) (hl:Ints w v l)
  (hF:∀ (w':World) (x:Int) (K':Value → World → Prop) (T:TypeId),Below w.heap.size w w' → I64 x → (∀ w'',Below w'.heap.size w' w'' → K' (.bool (p x)) w'') → oM Tryz.prog (.call { callee:=.value (.tmp 0),args:=#[.tmp 1],argTypes:=#[3] }) T [F,.int .i64 x] K' w')
  (k:∀ w',Below w.heap.size w w' → K (.bool (l.any p)) w'):callM Tryz.prog 136 #[v,F] K w:=by
 apply sh_136_ok
 unfold sh_136
 refine IndexFunc_ok p hl hF (fun w' r hb hr=>?_)
 repeat (any_goals ((with_reducible refine oM_gen fun Kv hK=>?_); simp [go_sem]; refine hK _ _ ?_; clear hK Kv))
 rw [hr]
 exact k _ hb
end
end Go.Proofs
namespace ShaSpec
abbrev W:=BitVec 32
def rotr (x:W) (k:Nat):W:=x >>> k ||| x <<< (32 - k)
theorem rotl_rotr (x:W) (k:Nat):x <<< (32 - k) ||| x >>> k = rotr x k:=BitVec.or_comm _ _
def ch (e f g:W):W:=g ^^^ (e &&& (f ^^^ g))
def maj (a b c:W):W:=(a &&& b) ||| (c &&& (a ||| b))
def w8 (b:UInt8):W:=BitVec.ofNat 32 b.toNat
def word (b:List UInt8) (k:Nat):W:=w8 (b.getD (4 * k) 0) <<< 24 ||| w8 (b.getD (4 * k + 1) 0) <<< 16 ||| w8 (b.getD (4 * k + 2) 0) <<< 8 ||| w8 (b.getD (4 * k + 3) 0)
def sig0 (x:W):W:=rotr x 7 ^^^ rotr x 18 ^^^ x >>> 3
def sig1 (y:W):W:=rotr y 17 ^^^ rotr y 19 ^^^ y >>> 10
def at' (l:List W) (k:Nat):W:=l.getD k 0
def nextW (b:List UInt8) (l:List W) (k:Nat):W:=
 if k < 16 then word b k else at' l (k - 16) + sig0 (at' l (k - 15)) + at' l (k - 7) + sig1 (at' l (k - 2))
def sched (b:List UInt8):Nat → List W
 | 0=>[]
 | n + 1=>sched b n ++ [nextW b (sched b n) n]
theorem sched_length (b:List UInt8) (n:Nat):(sched b n).length = n:=by
 induction n with
 | zero=>rfl
 | succ n ih=>simp [sched,ih]
structure St where
 a:W
 b:W
 c:W
 d:W
 e:W
 f:W
 g:W
 h:W
def St.list (s:St):List W:=[s.a,s.b,s.c,s.d,s.e,s.f,s.g,s.h]
def round (s:St) (k w:W):St:=
 let t1:=s.h + (rotr s.e 6 ^^^ rotr s.e 11 ^^^ rotr s.e 25) + ch s.e s.f s.g + k + w
 ⟨t1 + (rotr s.a 2 ^^^ rotr s.a 13 ^^^ rotr s.a 22) + maj s.a s.b s.c,s.a,s.b,s.c,s.d + t1,s.e,s.f,s.g⟩
def consts:List W:=[
 0x428a2f98,0x71374491,0xb5c0fbcf,0xe9b5dba5,0x3956c25b,0x59f111f1,0x923f82a4,0xab1c5ed5,
 0xd807aa98,0x12835b01,0x243185be,0x550c7dc3,0x72be5d74,0x80deb1fe,0x9bdc06a7,0xc19bf174,
 0xe49b69c1,0xefbe4786,0x0fc19dc6,0x240ca1cc,0x2de92c6f,0x4a7484aa,0x5cb0a9dc,0x76f988da,
 0x983e5152,0xa831c66d,0xb00327c8,0xbf597fc7,0xc6e00bf3,0xd5a79147,0x06ca6351,0x14292967,
 0x27b70a85,0x2e1b2138,0x4d2c6dfc,0x53380d13,0x650a7354,0x766a0abb,0x81c2c92e,0x92722c85,
 0xa2bfe8a1,0xa81a664b,0xc24b8b70,0xc76c51a3,0xd192e819,0xd6990624,0xf40e3585,0x106aa070,
 0x19a4c116,0x1e376c08,0x2748774c,0x34b0bcb5,0x391c0cb3,0x4ed8aa4a,0x5b9cca4f,0x682e6ff3,
 0x748f82ee,0x78a5636f,0x84c87814,0x8cc70208,0x90befffa,0xa4506ceb,0xbef9a3f7,0xc67178f2]
theorem consts_length:consts.length = 64:=by decide
def rounds (b:List UInt8) (s:St):Nat → St
 | 0=>s
 | n + 1=>round (rounds b s n) (at' consts n) (at' (sched b 64) n)
def mix (s:St) (b:List UInt8):St:=
 let v:=rounds b s 64
 ⟨v.a + s.a,v.b + s.b,v.c + s.c,v.d + s.d,v.e + s.e,v.f + s.f,v.g + s.g,v.h + s.h⟩
def first:St:=⟨0x6a09e667,0xbb67ae85,0x3c6ef372,0xa54ff53a,0x510e527f,0x9b05688c,0x1f83d9ab,0x5be0cd19⟩
def lenBytes (n:Nat):List UInt8:=[7,6,5,4,3,2,1,0].map fun k=>UInt8.ofNat (8 * n / 2 ^ (8 * k))
def zeros (n:Nat):Nat:=(119 - n % 64) % 64
def padded (s:List UInt8):List UInt8:=s ++ [128] ++ List.replicate (zeros s.length) 0 ++ lenBytes s.length
theorem lenBytes_length (n:Nat):(lenBytes n).length = 8:=rfl
theorem padded_length (s:List UInt8):(padded s).length % 64 = 0:=by
 simp only [padded,zeros,List.length_append,List.length_replicate,lenBytes_length,List.length_singleton]
 omega
def blocks:Nat → St → List UInt8 → St
 | 0,s,_=>s
 | n + 1,s,b=>blocks n (mix s (b.take 64)) (b.drop 64)
def out1 (w:W):List UInt8:=[UInt8.ofNat (w.toNat / 16777216),UInt8.ofNat (w.toNat / 65536),UInt8.ofNat (w.toNat / 256),UInt8.ofNat w.toNat]
def sha (s:List UInt8):List UInt8:=((blocks ((padded s).length / 64) first (padded s)).list.map out1).flatten
theorem sha_length (s:List UInt8):(sha s).length = 32:=by
 simp [sha,St.list,out1]
end ShaSpec
namespace Go.Sh
open Go Go.RowKit
def w32 (x:BitVec 32):Value:=.int .u32 (x.toNat:Int)
theorem w32_wrap (n:Nat):IntKind.u32.wrap (n:Int) = ((BitVec.ofNat 32 n).toNat:Int):=by
 rw [IntKind.wrap_u32,BitVec.toNat_ofNat]; omega
theorem w32_ofInt (x:BitVec 32):BitVec.ofInt 32 (x.toNat:Int) = x:=by
 rw [BitVec.ofInt_natCast,BitVec.ofNat_toNat,BitVec.setWidth_eq]
theorem bits32_and (x y:BitVec 32):bits .and .u32 (x.toNat:Int) (y.toNat:Int) = ((x &&& y).toNat:Int):=by
 show IntKind.u32.wrap (((BitVec.ofInt 32 (x.toNat:Int) &&& BitVec.ofInt 32 (y.toNat:Int)).toNat:Nat):Int) = _
 rw [w32_ofInt,w32_ofInt,w32_wrap,BitVec.ofNat_toNat,BitVec.setWidth_eq]
theorem bits32_or (x y:BitVec 32):bits .or .u32 (x.toNat:Int) (y.toNat:Int) = ((x ||| y).toNat:Int):=by
 show IntKind.u32.wrap (((BitVec.ofInt 32 (x.toNat:Int) ||| BitVec.ofInt 32 (y.toNat:Int)).toNat:Nat):Int) = _
 rw [w32_ofInt,w32_ofInt,w32_wrap,BitVec.ofNat_toNat,BitVec.setWidth_eq]
theorem bits32_xor (x y:BitVec 32):bits .xor .u32 (x.toNat:Int) (y.toNat:Int) = ((x ^^^ y).toNat:Int):=by
 show IntKind.u32.wrap (((BitVec.ofInt 32 (x.toNat:Int) ^^^ BitVec.ofInt 32 (y.toNat:Int)).toNat:Nat):Int) = _
 rw [w32_ofInt,w32_ofInt,w32_wrap,BitVec.ofNat_toNat,BitVec.setWidth_eq]
section
variable {P:Program} {K:Value → World → Prop} {w:World}
theorem wadd (t t' T:TypeId) (x y:BitVec 32):oM P (.binOp .add t (.tmp 0) (.tmp 1) t') T [w32 x,w32 y] = pureM (w32 (x + y)):=by
 have e:IntKind.u32.wrap ((x.toNat:Int) + (y.toNat:Int)) = ((x + y).toNat:Int):=by
  rw [← Int.natCast_add,w32_wrap]
  congr 1
 unfold w32
 rw [oM_add',e]
theorem wand (t t' T:TypeId) (x y:BitVec 32):oM P (.binOp .and t (.tmp 0) (.tmp 1) t') T [w32 x,w32 y] = pureM (w32 (x &&& y)):=by
 funext K w
 unfold w32
 rw [← bits32_and]
 simp [oM,opM,xop,execOp,evalL,evE,binOp,go_sem]
theorem wor (t t' T:TypeId) (x y:BitVec 32):oM P (.binOp .or t (.tmp 0) (.tmp 1) t') T [w32 x,w32 y] = pureM (w32 (x ||| y)):=by
 funext K w
 unfold w32
 rw [← bits32_or]
 simp [oM,opM,xop,execOp,evalL,evE,binOp,go_sem]
theorem wxor (t t' T:TypeId) (x y:BitVec 32):oM P (.binOp .xor t (.tmp 0) (.tmp 1) t') T [w32 x,w32 y] = pureM (w32 (x ^^^ y)):=by
 funext K w
 unfold w32
 rw [← bits32_xor]
 simp [oM,opM,xop,execOp,evalL,evE,binOp,go_sem]
theorem wshr (t t' T:TypeId) (yk:IntKind) (x:BitVec 32) (n:Nat) (h:n ≤ 32):oM P (.binOp .shr t (.tmp 0) (.tmp 1) t') T [w32 x,.int yk (n:Int)] = pureM (w32 (x >>> n)):=by
 unfold w32
 rw [oM_shr32 t t' T yk _ _ (by omega) (by omega)]
 congr 2
 rw [BitVec.toNat_ushiftRight,Nat.shiftRight_eq_div_pow,Int.toNat_natCast,Int.natCast_ediv,Int.natCast_pow]
 rfl
theorem wshl (t t' T:TypeId) (yk:IntKind) (x:BitVec 32) (n:Nat) (h:n ≤ 32):oM P (.binOp .shl t (.tmp 0) (.tmp 1) t') T [w32 x,.int yk (n:Int)] = pureM (w32 (x <<< n)):=by
 unfold w32
 rw [oM_shl32 t t' T yk _ _ (by omega) (by omega)]
 congr 2
 rw [BitVec.toNat_shiftLeft,Nat.shiftLeft_eq,Int.toNat_natCast,Int.natCast_emod,Int.natCast_mul,Int.natCast_pow]
 rfl
end
end Go.Sh
namespace Go.Proofs
open Go Go.Sh Go.RowKit ShaSpec
section
variable {K:Value → World → Prop} {w:World}
theorem rotl_ok (x:W) (r:Nat) (h0:0 < r) (h1:r < 32) (h:K (w32 (rotr x r)) w):callM Tryz.prog 230 #[w32 x,.int .i64 (-(r:Int))] K w:=by
 apply sh_230_ok
 unfold sh_230
 have e1:IntKind.u64.wrap (-(r:Int)) = 18446744073709551616 - (r:Int):=by rw [IntKind.wrap_u64]; omega
 have e2:bits .and .u64 (18446744073709551616 - (r:Int)) 31 = ((32 - r:Nat):Int):=by
  rw [mask64 5 _ 31 (by omega) (by decide) (by omega)]; omega
 have e3:IntKind.u64.wrap (32 - ((32 - r:Nat):Int)) = (r:Int):=by rw [IntKind.wrap_u64]; omega
 have s1:=fun t t' T=>wshl (P:=Tryz.prog) t t' T .u64 x (32 - r) (by omega)
 have s2:=fun t t' T=>wshr (P:=Tryz.prog) t t' T .u64 x r (by omega)
 rw [← rotl_rotr] at h
 obtain ⟨m,hm⟩:∃ m,m = 32 - r:=⟨_,rfl⟩
 rw [← hm] at e2 e3 s1 h
 repeat (any_goals ((with_reducible refine oM_gen fun Kv hK=>?_); simp [go_sem,e1,e2,e3,s1,s2,wor]; refine hK _ _ ?_; clear hK Kv))
 exact h
end
end Go.Proofs
namespace Go.Sh
open Go Go.RowKit
theorem cells_lt {w:World}:∀ {L:List (Addr × Value)},cellsAre w L → ∀ p ∈ L,p.1.block < w.heap.size
 | p :: l,h,q,hq=>by
  rcases List.mem_cons.1 hq with rfl | hq
  ·have h1:=h.1
   by_cases hc:q.1.block < w.heap.size
   ·exact hc
   ·unfold World.cell? at h1
    rw [Array.getElem?_eq_none (by omega)] at h1
    simp at h1
  ·exact cells_lt h.2 q hq
structure KnM (w0:World) (L:List (Addr × Value)) (g n:Nat) (w':World):Prop where
 kn:Kn w0 L w'
 mine:Mine w' g n
 base:w0.heap.size ≤ g
 off:∀ p ∈ L,p.1.block ≠ g
theorem mine_lt {w:World} {g n:Nat} (h:Mine w g n):g < w.heap.size:=by
 obtain ⟨cur,T,h1,_⟩:=h
 exact (Array.getElem?_eq_some_iff.1 h1).1
theorem cellsOf_mem {L:List (Addr × Value)} {b:Nat}:∀ (cs:List Value) (i:Nat) (p:Addr × Value),p ∈ cellsOf L b i cs → p.1.block = b ∨ p ∈ L
 | [],_,_,h=>.inr h
 | _ :: l,i,p,h=>by
  rcases List.mem_cons.1 h with rfl | h
  ·exact .inl rfl
  ·exact cellsOf_mem l (i + 1) p h
namespace KnM
variable {w0 w w':World} {L:List (Addr × Value)} {g n:Nat}
theorem next (h:KnM w0 L g n w) (hb:Below w.heap.size w w'):KnM w0 L g n w':=⟨h.kn.next hb,h.mine.next hb,h.base,h.off⟩
theorem drew (h:KnM w0 L g n w):KnM w0 L g n { w with drawn:=w.drawn + 1 }:=h.next .drawn
theorem cells (h:KnM w0 L g n w):cellsAre w L:=h.kn.cells
theorem below (h:KnM w0 L g n w):Below w0.heap.size w0 w:=h.kn.below
end KnM
section
variable {P:Program} {w0 w:World} {K:Value → World → Prop} {T T':TypeId} {L:List (Addr × Value)} {g n:Nat}
theorem alloc_mine {zs:List Value} (hA:∀ w,(Instr.alloc T true (.tuple #[])).run P w = .ok (.pointer (some ⟨w.heap.size,0,none⟩)) (w.alloc (.cells zs.toArray T))) (hn:zs.length = n) (hk:Kn w0 L w)
  (k:∀ g W,KnM w0 L g n W → Below w.heap.size w W → w.heap.size ≤ g → K (.pointer (some ⟨g,0,none⟩)) W):oM P (.alloc T) T' [] K w:=by
 rw [oM_alloc,hA]
 have hb:=(Below.refl w.heap.size w).alloc (Nat.le_refl _) (.cells zs.toArray T)
 refine k _ _ ⟨hk.next hb,⟨zs.toArray,T,?_,by simpa using hn⟩,hk.below.size,fun p hp=>?_⟩ hb (Nat.le_refl _)
 ·show (w.heap.push _)[w.heap.size]? = _
  simp
 ·have:=cells_lt hk.cells p hp
  omega
theorem store_run {x:Value} {xs:List Value} {W:World} (hT:∀ w,(sizeOf T).run P w = .ok n w) (hx:x.cells = xs.toArray) (hl:xs.length = n) (h1:∀ u ∈ xs,u.oneCell' = true) (hm:Mine w g n) :
  ∃ W,(Instr.storeAt T (.pointer (some ⟨g,0,none⟩)) x).run P w = .ok () W ∧ w.grownBy W (some g) ∧ Mine W g n ∧ cellsAre W (cellsOf [] g 0 xs):=by
 obtain ⟨cur,T0,hg,hc⟩:=hm
 have hst:=run_storeCells_at P g 0 T0 xs 0 cur w hg (by omega) h1
 have e1:(cur.toList.take (0 + 0) ++ xs ++ cur.toList.drop (0 + 0 + xs.length)).toArray = xs.toArray:=by
  rw [List.drop_of_length_le (by simp; omega)]
  simp
 rw [e1] at hst
 have hh:=setRow_heap w g cur xs.toArray T0 (0,0) hg
 refine ⟨w.setRow g xs.toArray,?_,grown_setRow _ _ _,⟨_,_,hh,by simpa using hl⟩,cellsOf_are (xs:=xs) (L:=[]) trivial (fun i v hi=>?_) xs 0 rfl⟩
 ·have e2:x.cells.toList = xs:=by rw [hx]
  have e3:x.cells.size = n:=by rw [hx]; simpa using hl
  unfold Instr.storeAt storeVar
  rw [e2,e3]
  simp [hT,go_sem]
  exact hst
 ·unfold World.cell?
  rw [hh]
  simpa using hi
theorem store_mine {x:Value} {xs:List Value} (hT:∀ w,(sizeOf T).run P w = .ok n w) (hx:x.cells = xs.toArray) (hl:xs.length = n) (h1:∀ u ∈ xs,u.oneCell' = true) (hk:KnM w0 L g n w)
  (k:∀ W,KnM w0 L g n W → cellsAre W (cellsOf [] g 0 xs) → K undef W):oM P (.store T (.tmp 0) (.tmp 1)) T' [.pointer (some ⟨g,0,none⟩),x] K w:=by
 obtain ⟨W,e,hg,hm,hc⟩:=store_run (W:=w) hT hx hl h1 hk.mine
 rw [oM_store,e]
 exact k W ⟨hk.kn.wrote hg hk.base hk.off,hm,hk.base,hk.off⟩ hc
theorem local_kn {zs:List Value} {x:Value} {xs:List Value} {T2:TypeId} {K:Value → World → Prop} (hA:∀ w,(Instr.alloc T true (.tuple #[])).run P w = .ok (.pointer (some ⟨w.heap.size,0,none⟩)) (w.alloc (.cells zs.toArray T))) (hn:zs.length = n)
  (hT:∀ w,(sizeOf T).run P w = .ok n w) (hx:x.cells = xs.toArray) (hl:xs.length = n) (h1:∀ u ∈ xs,u.oneCell' = true) (hk:Kn w0 L w)
  (k:∀ b W,Kn w0 (cellsOf L b 0 xs) W → Below w.heap.size w W → w.heap.size ≤ b → K (.pointer (some ⟨b,0,none⟩)) W) :
  oM P (.alloc T) T' [] (fun v w=>oM P (.store T (.tmp 0) (.tmp 1)) T2 [v,x] (fun _ w=>K v w) w) w:=by
 refine alloc_mine hA hn hk fun g W hk2 hb hg=>?_
 obtain ⟨W2,e,hgr,hm,hc⟩:=store_run (W:=w) hT hx hl h1 hk2.mine
 rw [oM_store,e]
 have hb2:Below w.heap.size w W2:=hb.grown hgr hb.size (fun k hk=>by cases hk; exact hg)
 refine k g W2 ⟨(hk2.kn.wrote hgr hk2.base hk2.off).below,?_⟩ hb2 hg
 have hL:=(hk2.kn.wrote hgr hk2.base hk2.off).cells
 clear e k
 have:∀ (l:List Value) (i:Nat),cellsAre W2 (cellsOf [] g i l) → cellsAre W2 (cellsOf L g i l):=by
  intro l
  induction l with
  | nil=>intro i _; exact hL
  | cons a l ih=>intro i h; exact ⟨h.1,ih (i + 1) h.2⟩
 exact this xs 0 hc
theorem local_knm {zs:List Value} {x:Value} {xs:List Value} {T2:TypeId} {K:Value → World → Prop} {m:Nat} (hA:∀ w,(Instr.alloc T true (.tuple #[])).run P w = .ok (.pointer (some ⟨w.heap.size,0,none⟩)) (w.alloc (.cells zs.toArray T))) (hn:zs.length = m)
  (hT:∀ w,(sizeOf T).run P w = .ok m w) (hx:x.cells = xs.toArray) (hl:xs.length = m) (h1:∀ u ∈ xs,u.oneCell' = true) (hk:KnM w0 L g n w)
  (k:∀ b W,KnM w0 (cellsOf L b 0 xs) g n W → Below w.heap.size w W → w.heap.size ≤ b → K (.pointer (some ⟨b,0,none⟩)) W) :
  oM P (.alloc T) T' [] (fun v w=>oM P (.store T (.tmp 0) (.tmp 1)) T2 [v,x] (fun _ w=>K v w) w) w:=
 local_kn hA hn hT hx hl h1 hk.kn fun b W hk' h1 h2=>k b W ⟨hk',hk.mine.next h1,hk.base,fun p hp=>(cellsOf_mem xs 0 p hp).elim (fun e=>by have:=mine_lt hk.mine; omega) (hk.off p)⟩ h1 h2
variable {C:World → Prop} {KQ:Value → Prop} {x y v:Value} {p:Prop} [Decidable p]
theorem idOH {o:Op} {l:List Value} (h:oH P o T l C KQ):oH P o T l C KQ:=h
end
end Go.Sh
namespace Go.Sh
open Go Go.RowKit
@[reducible] def ptr (g i:Nat):Value:=.pointer (some ⟨g,i,none⟩)
def Holds (w:World) (g:Nat) (T:TypeId) (vs:List Value):Prop:=w.heap[g]? = some (.cells vs.toArray T (0,0))
theorem Holds.lt {w:World} {g:Nat} {T:TypeId} {vs:List Value} (h:Holds w g T vs):g < w.heap.size:=(Array.getElem?_eq_some_iff.1 h).1
theorem Holds.next {w w':World} {g:Nat} {T:TypeId} {vs:List Value} (h:Holds w g T vs) (hb:Below w.heap.size w w'):Holds w' g T vs:=by
 unfold Holds
 rw [hb.block g h.lt]; exact h
theorem Holds.other {w w':World} {g g':Nat} {T:TypeId} {vs:List Value} (h:Holds w g T vs) (hg:w.grownBy w' (some g')) (hne:g ≠ g'):Holds w' g T vs:=by
 unfold Holds
 rw [hg.block g h.lt (fun e=>hne (by cases e; rfl))]; exact h
theorem Holds.cell {w:World} {g:Nat} {T:TypeId} {vs:List Value} (h:Holds w g T vs) (i:Nat) (hi:i < vs.length):w.cell? ⟨g,i,none⟩ = some vs[i]:=by
 unfold World.cell?
 rw [h]
 simp [hi]
theorem Holds.are {w:World} {g:Nat} {T:TypeId} {vs:List Value} (h:Holds w g T vs):cellsAre w (cellsOf [] g 0 vs):=
 cellsOf_are (xs:=vs) (L:=[]) trivial (fun i v hi=>by
  obtain ⟨hl,rfl⟩:=List.getElem?_eq_some_iff.1 hi
  exact h.cell i hl) vs 0 rfl
section
variable {P:Program} {w:World} {K:Value → World → Prop} {T T' T0:TypeId} {g n:Nat}
theorem arr_alloc {zs:List Value} (hA:∀ w,(Instr.alloc T true (.tuple #[])).run P w = .ok (.pointer (some ⟨w.heap.size,0,none⟩)) (w.alloc (.cells zs.toArray T)))
  (k:∀ g W,Below w.heap.size w W → w.heap.size ≤ g → Holds W g T zs → K (ptr g 0) W):oM P (.alloc T) T' [] K w:=by
 rw [oM_alloc,hA]
 refine k _ _ ((Below.refl w.heap.size w).alloc (Nat.le_refl _) _) (Nat.le_refl _) ?_
 show (w.heap.push _)[w.heap.size]? = _
 simp
theorem arr_box {x:Value} {cs:List Value} (hx:x.cells = cs.toArray) (k:∀ g W,Below w.heap.size w W → w.heap.size ≤ g → Holds W g T cs → K (ptr g 0) W):oM P (.box T (.tmp 0)) T' [x] K w:=by
 rw [oM_box]
 have e:(Instr.box T x).run P w = .ok (.pointer (some ⟨w.heap.size,0,none⟩)) (w.alloc (.cells cs.toArray T)):=by
  rw [← hx]; rfl
 rw [e]
 refine k _ _ ((Below.refl w.heap.size w).alloc (Nat.le_refl _) _) (Nat.le_refl _) ?_
 show (w.heap.push _)[w.heap.size]? = _
 simp
theorem arr_storeRow {o m:Nat} {cur xs:List Value} {x:Value} (hT:∀ w,(sizeOf T).run P w = .ok m w) (hx:x.cells = xs.toArray) (hl:xs.length = m) (h1:∀ u ∈ xs,u.oneCell' = true) (hg:Holds w g T0 cur) (hfit:o + m ≤ cur.length)
  (k:∀ W,w.grownBy W (some g) → Holds W g T0 (cur.take o ++ xs ++ cur.drop (o + m)) → K undef W):oM P (.store T (.tmp 0) (.tmp 1)) T' [ptr g o,x] K w:=by
 have hst:=run_storeCells_at P g o T0 xs 0 cur.toArray w hg (by simp; omega) h1
 rw [Nat.add_zero] at hst
 have e2:x.cells.toList = xs:=by rw [hx]
 have e3:x.cells.size = m:=by rw [hx]; simpa using hl
 have hrun:(Instr.storeAt T (ptr g o) x).run P w = .ok () (w.setRow g (cur.take o ++ xs ++ cur.drop (o + xs.length)).toArray):=by
  unfold Instr.storeAt storeVar
  rw [e2,e3]
  simp only [List.append_assoc] at hst ⊢
  simp [hT,go_sem]
  exact hst
 rw [oM_store,hrun]
 rw [hl] at *
 exact k _ (grown_setRow _ _ _) (setRow_heap w g _ _ T0 (0,0) hg)
theorem arr_store {cur xs:List Value} {x:Value} (hT:∀ w,(sizeOf T).run P w = .ok n w) (hx:x.cells = xs.toArray) (hl:xs.length = n) (h1:∀ u ∈ xs,u.oneCell' = true) (hg:Holds w g T0 cur) (hc:cur.length = n)
  (k:∀ W,w.grownBy W (some g) → Holds W g T0 xs → K undef W):oM P (.store T (.tmp 0) (.tmp 1)) T' [ptr g 0,x] K w:=by
 refine arr_storeRow hT hx hl h1 hg (by omega) (fun W h2 h3=>k W h2 ?_)
 rw [Nat.zero_add,List.take_zero,List.nil_append,List.drop_of_length_le (by omega),List.append_nil] at h3
 exact h3
theorem arr_set {cur:List Value} {x:Value} {i:Nat} (hT:∀ w,(sizeOf T).run P w = .ok 1 w) (hx:x.cells = #[x]) (h1:x.oneCell' = true) (hg:Holds w g T0 cur) (hi:i < cur.length)
  (k:∀ W,w.grownBy W (some g) → Holds W g T0 (cur.set i x) → K undef W):oM P (.store T (.tmp 0) (.tmp 1)) T' [ptr g i,x] K w:=by
 refine arr_storeRow (xs:=[x]) hT hx rfl (by intro u hu; rw [List.mem_singleton] at hu; subst hu; exact h1) hg (by omega) (fun W h2 h3=>k W h2 ?_)
 rw [List.set_eq_take_append_cons_drop,if_pos hi]
 simpa [List.append_assoc] using h3
theorem arr_load {cs:List Value} {d:TypeDesc} (hg:Holds w g T0 cs) (hu:P.underlying T = some d) (hd:(match d with | .struct _ | .array _ _=>true | _=>false) = true) (hi:(P.info? T).map (·.size) = some cs.length) (k:K (.agg cs.toArray) w) :
  oM P (.load T (.tmp 0)) T' [ptr g 0] K w:=by
 rw [oM_load]
 have:=run_loadVar_row (P:=P) w g T0 T cs.toArray (0,0) d hg hu hd (by simpa using hi)
 have e:(Instr.loadAt T (ptr g 0)).run P w = (loadVar T ⟨g,0,none⟩).run P w:=rfl
 rw [e,this]
 exact k
theorem arr_ret {cs:List Value} {d:TypeDesc} (hg:Holds w g T0 cs) (hu:P.underlying T = some d) (hd:(match d with | .struct _ | .array _ _=>true | _=>false) = true) (hi:(P.info? T).map (·.size) = some cs.length) (k:K (.agg cs.toArray) w) :
  ∃ r,(do loadVar T (← asAddr (ptr g 0)):Sem Value).run P w = .ok r w ∧ K r w:=by
 have:=run_loadVar_row (P:=P) w g T0 T cs.toArray (0,0) d hg hu hd (by simpa using hi)
 exact ⟨_,this,k⟩
theorem oM_idx_arr {N:Nat} (t:TypeId) (hu:P.underlying t = some (.array (P.arrayLen t) (P.elem t))) (hN:P.arrayLen t = N) (h2:2 ≤ N) (hs:∀ w,(sizeOf (P.elem t)).run P w = .ok 1 w) (T:TypeId) (b o:Nat) (x:Int) :
  oM P (.indexAddr t (.tmp 0) (.tmp 1)) T [.pointer (some ⟨b,o,none⟩),.int .i64 x] = onM (0 ≤ x ∧ x < N) (.pointer (some ⟨b,o + x.toNat,none⟩)):=by
 funext K w
 rw [oM_indexAddr,run_indexAt_array (h:=hu),hN]
 by_cases hi:0 ≤ x ∧ x < N
 ·rw [if_pos hi,hs]
  simp only [Result.andThen,add_none,Nat.mul_one,rM_ok]
  exact propext ⟨fun h=>⟨hi,h⟩,fun h=>h.2⟩
 ·rw [if_neg hi,if_neg (by omega)]
  obtain ⟨e',w',he⟩:=halts Value P .i64 x N .index w
  rw [he]
  exact propext ⟨fun h=>h.elim,fun h=>hi h.1⟩
theorem grown_below {w0 w':World} (h0:Below w0.heap.size w0 w) (hg:w.grownBy w' (some g)) (h:w0.heap.size ≤ g):Below w0.heap.size w0 w':=
 h0.grown hg h0.size (fun k hk=>by cases hk; exact h)
end
end Go.Sh
namespace Go.Proofs
open Go Go.Sh Go.RowKit ShaSpec
section
variable {K:Value → World → Prop} {w:World}
@[reducible] def ws (l:List W):List Value:=l.map w32
theorem ws_one (l:List W):∀ u ∈ ws l,u.oneCell' = true:=by
 intro u hu
 obtain ⟨x,_,rfl⟩:=List.mem_map.1 hu
 rfl
@[reducible] def stV (s:St):Value:=.agg (ws s.list).toArray
theorem sz_words (w:World):(sizeOf 225).run Tryz.prog w = .ok 8 w:=by kernel_rfl
theorem sz_64 (w:World):(sizeOf 238).run Tryz.prog w = .ok 64 w:=by kernel_rfl
theorem sz_u32 (w:World):(sizeOf 223).run Tryz.prog w = .ok 1 w:=by kernel_rfl
theorem al_words (w:World):(Instr.alloc 225 true (.tuple #[])).run Tryz.prog w = .ok (.pointer (some ⟨w.heap.size,0,none⟩)) (w.alloc (.cells (ws (List.replicate 8 0)).toArray 225)):=by kernel_rfl
theorem al_64 (w:World):(Instr.alloc 238 true (.tuple #[])).run Tryz.prog w = .ok (.pointer (some ⟨w.heap.size,0,none⟩)) (w.alloc (.cells (ws (List.replicate 64 0)).toArray 238)):=by kernel_rfl
theorem un_words:Tryz.prog.underlying 225 = some (.array (Tryz.prog.arrayLen 225) (Tryz.prog.elem 225)):=by kernel_rfl
theorem un_64:Tryz.prog.underlying 238 = some (.array (Tryz.prog.arrayLen 238) (Tryz.prog.elem 238)):=by kernel_rfl
@[go_sem] theorem idx_words (T:TypeId) (b o:Nat) (x:Int):oM Tryz.prog (.indexAddr 225 (.tmp 0) (.tmp 1)) T [.pointer (some ⟨b,o,none⟩),.int .i64 x] = onM (0 ≤ x ∧ x < (8:Nat)) (.pointer (some ⟨b,o + x.toNat,none⟩)):=
 oM_idx_arr _ un_words (by kernel_rfl) (by decide) (fun w=>by kernel_rfl) T b o x
@[go_sem] theorem idx_64 (T:TypeId) (b o:Nat) (x:Int):oM Tryz.prog (.indexAddr 238 (.tmp 0) (.tmp 1)) T [.pointer (some ⟨b,o,none⟩),.int .i64 x] = onM (0 ≤ x ∧ x < (64:Nat)) (.pointer (some ⟨b,o + x.toNat,none⟩)):=
 oM_idx_arr _ un_64 (by kernel_rfl) (by decide) (fun w=>by kernel_rfl) T b o x
theorem build_first:oM Tryz.prog (Go.Op.build 225 #[(0,(.tmp 0)),(1,(.tmp 1)),(2,(.tmp 2)),(3,(.tmp 3)),(4,(.tmp 4)),(5,(.tmp 5)),(6,(.tmp 6)),(7,(.tmp 7))]) 225 [(.int .u32 1779033703),(.int .u32 3144134277),(.int .u32 1013904242),(.int .u32 2773480762),(.int .u32 1359893119),(.int .u32 2600822924),(.int .u32 528734635),(.int .u32 1541459225)] = pureM (stV first):=by
 funext K w
 kernel_rfl
theorem first_ok (k:∀ w',Below w.heap.size w w' → K (stV first) w'):callM Tryz.prog 213 #[] K w:=by
 apply sh_213_ok
 unfold sh_213
 refine arr_alloc al_words fun g W hb hg hh=>?_
 rw [build_first]
 refine pureM_in ?_
 refine arr_store sz_words (xs:=ws first.list) rfl rfl (ws_one _) hh rfl (fun W2 hg2 hh=>?_)
 exact arr_ret hh un_words rfl (by kernel_rfl) (k _ (grown_below hb hg2 hg))
theorem build_table:∀ K w,oM Tryz.prog (Go.Op.build 238 ((List.range 64).map fun i=>(i,Operand.tmp i)).toArray) 238 (ws consts) K w = pureM (.agg (ws consts).toArray) K w:=by
 intro K w
 kernel_rfl
theorem table_ok (k:∀ w',Below w.heap.size w w' → K (.agg (ws consts).toArray) w'):callM Tryz.prog 229 #[] K w:=by
 apply sh_229_ok
 unfold sh_229
 refine arr_alloc al_64 fun g W hb hg hh=>?_
 refine (build_table _ W).symm ▸ ?_
 refine pureM_in ?_
 refine arr_store sz_64 (xs:=ws consts) rfl rfl (ws_one _) hh rfl (fun W2 hg2 hh=>?_)
 exact arr_ret hh un_64 rfl (by kernel_rfl) (k _ (grown_below hb hg2 hg))
def ByR (w:World) (b o:Nat) (l:List UInt8):Prop:=b < w.heap.size ∧ ∀ i,i < l.length → w.cell? ⟨b,o + i,none⟩ = some (.int .u8 ((l.getD i 0).toNat:Int))
theorem ByR.next {w w':World} {b o:Nat} {l:List UInt8} (h:ByR w b o l) (hb:Below w.heap.size w w'):ByR w' b o l:=
 ⟨Nat.lt_of_lt_of_le h.1 hb.size,fun i hi=>by rw [hb.cell h.1]; exact h.2 i hi⟩
theorem conv_u8 (T:TypeId) (x:UInt8):oM Tryz.prog (.convert 5 223 (.tmp 0)) T [.int .u8 (x.toNat:Int)] = pureM (w32 (w8 x)):=by
 funext K w
 have e:IntKind.u32.wrap (x.toNat:Int) = ((w8 x).toNat:Int):=by
  have:=x.toNat_lt
  rw [IntKind.wrap_u32]
  unfold w8
  rw [BitVec.toNat_ofNat]
  omega
 have e2:(convert 5 223 (.int .u8 (x.toNat:Int))).run Tryz.prog w = .ok (.int .u32 (IntKind.u32.wrap (x.toNat:Int))) w:=by kernel_rfl
 rw [oM_convert,e2,e]
 rfl
end
end Go.Proofs
namespace Go.Proofs
open Go Go.Sh Go.RowKit ShaSpec
section
variable {K:Value → World → Prop} {w:World}
@[go_sem] theorem idx_bytes (T:TypeId) (b o n c:Nat) (x:Int):oM Tryz.prog (.indexAddr 202 (.tmp 0) (.tmp 1)) T [.slice (some ⟨b,o,none⟩) n c,.int .i64 x] = onM (0 ≤ x ∧ x < n) (.pointer (some ⟨b,o + x.toNat,none⟩)):=by
 funext K w
 rw [oM_indexAddr,run_indexAt_slice (h:=by kernel_rfl)]
 have hs:(sizeOf (Tryz.prog.elem 202)).run Tryz.prog w = .ok 1 w:=by kernel_rfl
 by_cases hi:0 ≤ x ∧ x < n
 ·rw [if_pos hi,hs]
  simp only [Result.andThen,add_none,Nat.mul_one,rM_ok]
  exact propext ⟨fun h=>⟨hi,h⟩,fun h=>h.2⟩
 ·rw [if_neg hi]
  obtain ⟨e',w',he⟩:=halts Value Tryz.prog .i64 x n .index w
  rw [he]
  exact propext ⟨fun h=>h.elim,fun h=>hi h.1⟩
theorem shl24 (t t' T:TypeId) (x:W):oM Tryz.prog (.binOp .shl t (.tmp 0) (.tmp 1) t') T [w32 x,.int .u64 24] = pureM (w32 (x <<< 24)):=wshl t t' T .u64 x 24 (by omega)
theorem shl16 (t t' T:TypeId) (x:W):oM Tryz.prog (.binOp .shl t (.tmp 0) (.tmp 1) t') T [w32 x,.int .u64 16] = pureM (w32 (x <<< 16)):=wshl t t' T .u64 x 16 (by omega)
theorem shl8 (t t' T:TypeId) (x:W):oM Tryz.prog (.binOp .shl t (.tmp 0) (.tmp 1) t') T [w32 x,.int .u64 8] = pureM (w32 (x <<< 8)):=wshl t t' T .u64 x 8 (by omega)
theorem shr3 (t t' T:TypeId) (x:W):oM Tryz.prog (.binOp .shr t (.tmp 0) (.tmp 1) t') T [w32 x,.int .u64 3] = pureM (w32 (x >>> 3)):=wshr t t' T .u64 x 3 (by omega)
theorem shr10 (t t' T:TypeId) (x:W):oM Tryz.prog (.binOp .shr t (.tmp 0) (.tmp 1) t') T [w32 x,.int .u64 10] = pureM (w32 (x >>> 10)):=wshr t t' T .u64 x 10 (by omega)
theorem shr24 (t t' T:TypeId) (x:W):oM Tryz.prog (.binOp .shr t (.tmp 0) (.tmp 1) t') T [w32 x,.int .u64 24] = pureM (w32 (x >>> 24)):=wshr t t' T .u64 x 24 (by omega)
theorem shr16 (t t' T:TypeId) (x:W):oM Tryz.prog (.binOp .shr t (.tmp 0) (.tmp 1) t') T [w32 x,.int .u64 16] = pureM (w32 (x >>> 16)):=wshr t t' T .u64 x 16 (by omega)
theorem shr8 (t t' T:TypeId) (x:W):oM Tryz.prog (.binOp .shr t (.tmp 0) (.tmp 1) t') T [w32 x,.int .u64 8] = pureM (w32 (x >>> 8)):=wshr t t' T .u64 x 8 (by omega)
theorem rot6 (x:W) (h:K (w32 (rotr x 6)) w):callM Tryz.prog 230 #[w32 x,.int .i64 (-6)] K w:=rotl_ok x 6 (by omega) (by omega) h
theorem rot11 (x:W) (h:K (w32 (rotr x 11)) w):callM Tryz.prog 230 #[w32 x,.int .i64 (-11)] K w:=rotl_ok x 11 (by omega) (by omega) h
theorem rot25 (x:W) (h:K (w32 (rotr x 25)) w):callM Tryz.prog 230 #[w32 x,.int .i64 (-25)] K w:=rotl_ok x 25 (by omega) (by omega) h
theorem rot2 (x:W) (h:K (w32 (rotr x 2)) w):callM Tryz.prog 230 #[w32 x,.int .i64 (-2)] K w:=rotl_ok x 2 (by omega) (by omega) h
theorem rot13 (x:W) (h:K (w32 (rotr x 13)) w):callM Tryz.prog 230 #[w32 x,.int .i64 (-13)] K w:=rotl_ok x 13 (by omega) (by omega) h
theorem rot22 (x:W) (h:K (w32 (rotr x 22)) w):callM Tryz.prog 230 #[w32 x,.int .i64 (-22)] K w:=rotl_ok x 22 (by omega) (by omega) h
theorem rot7 (x:W) (h:K (w32 (rotr x 7)) w):callM Tryz.prog 230 #[w32 x,.int .i64 (-7)] K w:=rotl_ok x 7 (by omega) (by omega) h
theorem rot18 (x:W) (h:K (w32 (rotr x 18)) w):callM Tryz.prog 230 #[w32 x,.int .i64 (-18)] K w:=rotl_ok x 18 (by omega) (by omega) h
theorem rot17 (x:W) (h:K (w32 (rotr x 17)) w):callM Tryz.prog 230 #[w32 x,.int .i64 (-17)] K w:=rotl_ok x 17 (by omega) (by omega) h
theorem rot19 (x:W) (h:K (w32 (rotr x 19)) w):callM Tryz.prog 230 #[w32 x,.int .i64 (-19)] K w:=rotl_ok x 19 (by omega) (by omega) h
def schL (b:List UInt8) (k:Nat):List W:=sched b k ++ List.replicate (64 - k) 0
theorem schL_length (b:List UInt8) (k:Nat) (hk:k ≤ 64):(schL b k).length = 64:=by simp [schL,sched_length]; omega
theorem schL_next (b:List UInt8) (k:Nat) (hk:k < 64):(schL b k).set k (nextW b (sched b k) k) = schL b (k + 1):=by
 unfold schL
 rw [List.set_append_right _ _ (by rw [sched_length]; omega),sched_length,Nat.sub_self]
 obtain ⟨m,hm⟩:∃ m,64 - k = m + 1:=⟨63 - k,by omega⟩
 rw [hm,List.replicate_succ,List.set_cons_zero,show 64 - (k + 1) = m by omega]
 simp [sched]
structure SchI (b:List UInt8) (g:Nat) (w0:World) (k:Nat) (w':World):Prop where
 below:Below w0.heap.size w0 w'
 holds:Holds w' g 238 (ws (schL b k))
structure SchC (b:List UInt8) (g:Nat) (w0:World) (k:Nat) (w':World):Prop where
 one:Below w0.heap.size w0 w'
 two:∀ j,j < k → w'.cell? ⟨g,j,none⟩ = some (w32 (at' (sched b k) j))
theorem SchC.less {b:List UInt8} {g:Nat} {w0 w':World} {k:Nat} (h:SchC b g w0 (k + 1) w'):SchC b g w0 k w':=by
 refine ⟨h.one,fun j hj=>?_⟩
 rw [h.two j (by omega)]
 have e:at' (sched b (k + 1)) j = at' (sched b k) j:=by
  show (sched b k ++ [nextW b (sched b k) k]).getD j 0 = (sched b k).getD j 0
  rw [List.getD_eq_getElem?_getD,List.getElem?_append_left (by rw [sched_length]; omega),← List.getD_eq_getElem?_getD]
 rw [e]
theorem schL_at (b:List UInt8) (k j:Nat) (hj:j < k):(schL b k).getD j 0 = at' (sched b k) j:=by
 unfold schL at'
 rw [List.getD_eq_getElem?_getD,List.getElem?_append_left (by rw [sched_length]; omega),← List.getD_eq_getElem?_getD]
theorem SchI.c {b:List UInt8} {g:Nat} {w0 w':World} {k:Nat} (hk:k ≤ 64) (h:SchI b g w0 k w'):SchC b g w0 k w':=by
 refine ⟨h.below,fun j hj=>?_⟩
 have hl:=schL_length b k hk
 rw [h.holds.cell j (by simp [hl]; omega),← schL_at b k j hj]
 simp [List.getD_eq_getElem?_getD,hl,show j < 64 by omega]
def SchJ (b:List UInt8) (g:Nat) (w0:World) (l:List Value) (w':World):Prop:=∃ (v0 v1 v2 v3 v4:Value) (k:Nat),l = [v0,v1,v2,v3,v4,.int .i64 (k:Int)] ∧ k ≤ 64 ∧ SchI b g w0 k w'
def schMu (l:List Value) (_:World):Nat:=match l with | [_,_,_,_,_,.int _ i]=>64 - i.toNat | _=>0
theorem schMu_eq (a b c d e:Value) (q:IntKind) (i:Int) (w:World):schMu [a,b,c,d,e,.int q i] w = 64 - i.toNat:=rfl
theorem SchI.drew {b:List UInt8} {g:Nat} {w0 w':World} {k:Nat} (h:SchI b g w0 k w'):SchI b g w0 k { w' with drawn:=w'.drawn + 1 }:=
 ⟨h.below.on .drawn,h.holds.next .drawn⟩
theorem SchI.set {b:List UInt8} {g:Nat} {w0 w' W:World} {k:Nat} (h:SchI b g w0 k w') (h0:w0.heap.size ≤ g) (hk:k < 64) (hg:w'.grownBy W (some g)) (hh:Holds W g 238 ((ws (schL b k)).set k (w32 (nextW b (sched b k) k)))):SchI b g w0 (k + 1) W:=by
 refine ⟨grown_below h.below hg h0,?_⟩
 rw [← schL_next b k hk]
 unfold ws at hh ⊢
 rw [List.map_set]
 exact hh
theorem schedule_ok (b:List UInt8) {B o c:Nat} (hl:b.length = 64) (hb:ByR w B o b) (k:∀ w',Below w.heap.size w w' → K (.agg (ws (sched b 64)).toArray) w'):callM Tryz.prog 228 #[.slice (some ⟨B,o,none⟩) 64 c] K w:=by
 apply sh_228_ok
 unfold sh_228
 refine arr_alloc al_64 fun g W hbW hgW hh=>?_
 refine ⟨SchJ b g w,schMu,⟨_,_,_,_,_,0,rfl,by omega,hbW,hh⟩,?_⟩
 clear hh hbW W
 rintro _ _ w1 ⟨v0,v1,v2,v3,v4,i,rfl,hi,hI⟩
 have hc:=(hI.c hi)
 by_cases hi64:i < 64
 ·repeat (any_goals (first
  | (with_reducible refine yN ?_)
  | ((with_reducible refine oM_gen fun Kv hK=>?_); simp [go_sem]; refine hK _ _ ?_; clear hK Kv)))
  refine ⟨fun _ w'=>SchI b g w (i + 1) w',?_,?_⟩
  ·by_cases h16:i < 16
   ·repeat (any_goals (first
    | (with_reducible refine yN ?_)
    | ((with_reducible refine oM_gen fun Kv hK=>?_); simp [go_sem]; refine hK _ _ ?_; clear hK Kv)))
    refine ⟨fun w'=>Below w.heap.size w w',hI.drew.below,?_⟩
    have hI:=hI.drew
    have cb:∀ j,j < 64 → ∀ w',Below w.heap.size w w' → w'.cell? ⟨B,o + j,none⟩ = some (.int .u8 ((b.getD j 0).toNat:Int)):=fun j hj w' hw=>(hb.next hw).2 j (by omega)
    have t1:(4 * (i:Int)).toNat = 4 * i:=by omega
    have t2:(4 * (i:Int) + 1).toNat = 4 * i + 1:=by omega
    have t3:(4 * (i:Int) + 2).toNat = 4 * i + 2:=by omega
    have t4:(4 * (i:Int) + 3).toNat = 4 * i + 3:=by omega
    have c1:=cb (4 * i) (by omega)
    have c2:=cb (4 * i + 1) (by omega)
    have c3:=cb (4 * i + 2) (by omega)
    have c4:=cb (4 * i + 3) (by omega)
    have w1:IntKind.i64.wrap (4 * (i:Int)) = 4 * i:=wrapI64 _ (by omega) (by omega)
    have w2:IntKind.i64.wrap (4 * (i:Int) + 1) = 4 * i + 1:=wrapI64 _ (by omega) (by omega)
    have w3:IntKind.i64.wrap (4 * (i:Int) + 2) = 4 * i + 2:=wrapI64 _ (by omega) (by omega)
    have w4:IntKind.i64.wrap (4 * (i:Int) + 3) = 4 * i + 3:=wrapI64 _ (by omega) (by omega)
    repeat (any_goals (first
    | (with_reducible refine pureH_in ?_)
    | ((with_reducible refine idOH ?_); (with_reducible refine oH_of ⟨_,rfl⟩ (fun W0 hW0=>by (refine oM_gen (fun Kv hK=>?_)); simp [go_sem,w1,w2,w3,w4,t1,t2,t3,t4,c1 _ hW0,c2 _ hW0,c3 _ hW0,c4 _ hW0,conv_u8,shl24,shl16,shl8,wor]; (first | exact hK _ _ ⟨rfl,rfl⟩ | exact ⟨by omega,hK _ _ ⟨rfl,rfl⟩⟩)) ?_))))
    have en:nextW b (sched b i) i = w8 (b[4 * i]?.getD 0) <<< 24 ||| w8 (b[4 * i + 1]?.getD 0) <<< 16 ||| w8 (b[4 * i + 2]?.getD 0) <<< 8 ||| w8 (b[4 * i + 3]?.getD 0):=by
     unfold nextW word
     rw [if_pos h16]
     simp only [List.getD_eq_getElem?_getD]
    rw [← en]
    refine arr_set sz_u32 rfl rfl hI.holds (by simp [schL_length b i hi,hi64]) (fun W hg2 hh=>?_)
    have hI2:=hI.set hgW hi64 hg2 hh
    exact ⟨hI2.below,hI2⟩
   ·repeat (any_goals (first
    | (with_reducible refine yO ?_)
    | ((with_reducible refine oM_gen fun Kv hK=>?_); simp [go_sem]; refine hK _ _ ?_; clear hK Kv)))
    have hI:=hI.drew
    refine ⟨fun w'=>w' = { w1 with drawn:=w1.drawn + 1 },rfl,?_⟩
    generalize ({ w1 with drawn:=w1.drawn + 1 }:World) = w2 at hI ⊢
    have hc:=hI.c hi
    have w1:IntKind.i64.wrap ((i:Int) - 15) = (i:Int) - 15:=wrapI64 _ (by omega) (by omega)
    have w2:IntKind.i64.wrap ((i:Int) - 2) = (i:Int) - 2:=wrapI64 _ (by omega) (by omega)
    have w3:IntKind.i64.wrap ((i:Int) - 16) = (i:Int) - 16:=wrapI64 _ (by omega) (by omega)
    have w4:IntKind.i64.wrap ((i:Int) - 7) = (i:Int) - 7:=wrapI64 _ (by omega) (by omega)
    have t1:((i:Int) - 15).toNat = i - 15:=by omega
    have t2:((i:Int) - 2).toNat = i - 2:=by omega
    have t3:((i:Int) - 16).toNat = i - 16:=by omega
    have t4:((i:Int) - 7).toNat = i - 7:=by omega
    have c1:=hc.two (i - 15) (by omega)
    have c2:=hc.two (i - 2) (by omega)
    repeat (any_goals (first
    | (with_reducible first|refine And.intro (Eq.refl (α:=World) _) ?_|refine forall_one ?_)
    | ((with_reducible refine idOQ ?_); ((with_reducible refine oQ_one ?_ ?_); exact ⟨_,rfl⟩))
    | ((with_reducible refine oM_gen fun Kv hK=>?_); simp [go_sem,t1,t2,c1,c2]; (try simp (disch:=omega) only [wrapI64,wrapU8,wrapU32,wrapU64]); (first|refine hK _ _ ?_|refine And.intro (by omega) (hK _ _ ?_)); clear hK Kv)))
    repeat (any_goals (first
    | (with_reducible refine rot7 _ ?_) | (with_reducible refine rot18 _ ?_) | (with_reducible refine rot17 _ ?_) | (with_reducible refine rot19 _ ?_)
    | ((with_reducible refine oM_gen fun Kv hK=>?_); simp [go_sem,shr3,shr10,wxor]; refine hK _ _ ?_; clear hK Kv)))
    refine ⟨SchC b g w i,hI.drew.c hi,?_⟩
    have hI:=hI.drew
    repeat (any_goals (first
    | (with_reducible refine pureH_in ?_)
    | ((with_reducible refine idOH ?_); (with_reducible refine oH_of ⟨_,rfl⟩ (fun W0 hW0=>by (refine oM_gen (fun Kv hK=>?_)); simp [go_sem,w3,w4,t3,t4,hW0.two (i - 16) (by omega),hW0.two (i - 7) (by omega),wadd]; (first | exact hK _ _ ⟨rfl,rfl⟩ | exact ⟨by omega,hK _ _ ⟨rfl,rfl⟩⟩)) ?_))))
    have en:nextW b (sched b i) i = at' (sched b i) (i - 16) + sig0 (at' (sched b i) (i - 15)) + at' (sched b i) (i - 7) + sig1 (at' (sched b i) (i - 2)):=by
     unfold nextW
     rw [if_neg h16]
    unfold sig0 sig1 at en
    rw [← en]
    refine arr_set sz_u32 rfl rfl hI.holds (by simp [schL_length b i hi,hi64]) (fun W hg2 hh=>?_)
    have hI2:=hI.set hgW hi64 hg2 hh
    exact ⟨(hI2.c hi64).less,hI2⟩
  ·rintro l u w2 hI2
   repeat (any_goals ((with_reducible refine oM_gen fun Kv hK=>?_); simp [go_sem]; (try simp (disch:=omega) only [wrapI64,wrapU8,wrapU32,wrapU64]); refine hK _ _ ?_; clear hK Kv))
   refine ⟨⟨_,_,_,_,_,i + 1,rfl,hi64,hI2⟩,?_⟩
   simp only [schMu_eq]; omega
 ·obtain rfl:i = 64:=by omega
  repeat (any_goals (first
  | (with_reducible refine yM ?_)
  | ((with_reducible refine oM_gen fun Kv hK=>?_); simp [go_sem]; refine hK _ _ ?_; clear hK Kv)))
  have hh:=hI.holds
  have e64:schL b 64 = sched b 64:=by simp [schL]
  rw [e64] at hh
  have hl64:=sched_length b 64
  generalize sched b 64 = sl at *
  refine arr_load hh un_64 rfl (by rw [List.length_map,hl64]; kernel_rfl) ?_
  refine arr_store sz_64 (xs:=ws sl) rfl (by rw [List.length_map,hl64]) (ws_one _) hh (by rw [List.length_map,hl64]) (fun W hg2 hh=>?_)
  exact arr_ret hh un_64 rfl (by rw [List.length_map,hl64]; kernel_rfl) (k _ (grown_below hI.below hg2 hgW))
end
end Go.Proofs
namespace Go.Sh
open Go Go.RowKit
abbrev Nx (w w':World):Prop:=Below w.heap.size w w'
variable {S:World → World → Prop} {A N:(Value → World → Prop) → Prop}
theorem monoE {x:Value} (h:A (fun v _=>v = x)) (n:N (fun v _=>v = x)):∃ R:Value → World → Prop,(∀ v w w1,S w w1 → R v w → R v w1) ∧ A R ∧ N R:=⟨_,fun _ _ _ _ h=>h,h,n⟩
theorem monoR (R:Value → World → Prop) (hs:∀ v w w1,S w w1 → R v w → R v w1) (h:A R) (n:N R):∃ R:Value → World → Prop,(∀ v w w1,S w w1 → R v w → R v w1) ∧ A R ∧ N R:=⟨R,hs,h,n⟩
end Go.Sh
namespace Go.Proofs
open Go Go.Sh Go.RowKit ShaSpec
section
variable {K:Value → World → Prop} {w:World}
theorem build8 (T:TypeId) (a b c d e f g h:W):oM Tryz.prog (Go.Op.build 225 #[(0,(.tmp 0)),(1,(.tmp 1)),(2,(.tmp 2)),(3,(.tmp 3)),(4,(.tmp 4)),(5,(.tmp 5)),(6,(.tmp 6)),(7,(.tmp 7))]) T [w32 a,w32 b,w32 c,w32 d,w32 e,w32 f,w32 g,w32 h] = pureM (stV ⟨a,b,c,d,e,f,g,h⟩):=by
 funext K w
 kernel_rfl
structure MixI (w0:World) (gh gr gs gt gv:Nat) (s:St) (sl:List W) (v:List W) (w':World):Prop where
 below:Below w0.heap.size w0 w'
 h:Holds w' gh 225 (ws s.list)
 r:∃ zs,zs.length = 8 ∧ Holds w' gr 225 zs
 sch:Holds w' gs 238 (ws sl)
 tab:Holds w' gt 238 (ws consts)
 v:Holds w' gv 225 (ws v)
variable {w0 w':World} {gh gr gs gt gv:Nat} {s:St} {sl v:List W}
theorem MixI.next {w2:World} (h:MixI w0 gh gr gs gt gv s sl v w') (hb:Below w'.heap.size w' w2):MixI w0 gh gr gs gt gv s sl v w2:=
 ⟨h.below.on hb,h.h.next hb,h.r.imp fun _ h=>⟨h.1,h.2.next hb⟩,h.sch.next hb,h.tab.next hb,h.v.next hb⟩
theorem MixI.drew (h:MixI w0 gh gr gs gt gv s sl v w'):MixI w0 gh gr gs gt gv s sl v { w' with drawn:=w'.drawn + 1 }:=h.next .drawn
structure Apart (n gh gr gs gt gv:Nat):Prop where
 h:gh ≠ gv
 r:gr ≠ gv
 s:gs ≠ gv
 t:gt ≠ gv
 v:n ≤ gv
 r0:n ≤ gr
theorem MixI.wrote {W2:World} {u:List W} (ha:Apart w0.heap.size gh gr gs gt gv) (h:MixI w0 gh gr gs gt gv s sl v w') (hg:w'.grownBy W2 (some gv)) (hh:Holds W2 gv 225 (ws u)):MixI w0 gh gr gs gt gv s sl u W2:=
 ⟨grown_below h.below hg ha.v,h.h.other hg ha.h,h.r.imp fun _ h=>⟨h.1,h.2.other hg ha.r⟩,h.sch.other hg ha.s,h.tab.other hg ha.t,hh⟩
theorem holds_at {g:Nat} {T:TypeId} {l:List W} (h:Holds w' g T (ws l)) (i:Nat) (hi:i < l.length):w'.cell? ⟨g,i,none⟩ = some (w32 (at' l i)):=by
 rw [h.cell i (by simpa using hi)]
 simp [at',List.getD_eq_getElem?_getD,hi]
def MixJ (w0:World) (gh gr gs gt gv:Nat) (s:St) (b:List UInt8) (sl:List W) (l:List Value) (w':World):Prop:=∃ (v0 v1 v2 v3 v4:Value) (k:Nat),l = [v0,v1,v2,v3,v4,.int .i64 (k:Int)] ∧ k ≤ 64 ∧ MixI w0 gh gr gs gt gv s sl (rounds b s k).list w'
def adL (v s:St) (i:Nat):List W:=(List.range 8).map fun j=>if j < i then at' v.list j + at' s.list j else at' v.list j
theorem adL_length (v s:St) (i:Nat):(adL v s i).length = 8:=by simp [adL]
theorem adL_at (v s:St) {i:Nat} (hi:i < 8):at' (adL v s i) i = at' v.list i:=by
 unfold adL
 conv=>lhs; unfold at'
 rw [List.getD_eq_getElem?_getD,List.getElem?_map,List.getElem?_range hi]
 simp [at',List.getD_eq_getElem?_getD]
theorem adL_set (v s:St) {i:Nat} (hi:i < 8):(adL v s i).set i (at' v.list i + at' s.list i) = adL v s (i + 1):=by
 unfold adL
 apply List.ext_getElem
 ·simp
 ·intro j h1 h2
  rw [List.getElem_set]
  simp only [List.getElem_map,List.getElem_range]
  by_cases hji:i = j
  ·subst hji; simp
  ·rw [if_neg hji]
   by_cases hlt:j < i
   ·rw [if_pos hlt,if_pos (by omega)]
   ·rw [if_neg hlt,if_neg (by omega)]
def AdJ (w0:World) (gh gr gs gt gv:Nat) (s:St) (sl:List W) (v:St) (l:List Value) (w':World):Prop:=∃ (v0:Value) (k:Nat),l = [v0,.int .i64 (k:Int)] ∧ k ≤ 8 ∧ MixI w0 gh gr gs gt gv s sl (adL v s k) w'
def adMu (l:List Value) (_:World):Nat:=match l with | [_,.int _ i]=>8 - i.toNat | _=>0
theorem adMu_eq (a:Value) (q:IntKind) (i:Int) (w:World):adMu [a,.int q i] w = 8 - i.toNat:=rfl
theorem rotQ6 {C:World → Prop} {KQ:Value → Prop} (x:W) (u:Unit) (k:KQ (w32 (rotr x 6))):callQ Tryz.prog 230 #[w32 x,.int .i64 (-6)] C KQ:=callQ_of (v:=w32 (rotr x 6)) (fun w hw=>rot6 x ⟨rfl,hw⟩) k
theorem rotQ11 {C:World → Prop} {KQ:Value → Prop} (x:W) (u:Unit) (k:KQ (w32 (rotr x 11))):callQ Tryz.prog 230 #[w32 x,.int .i64 (-11)] C KQ:=callQ_of (v:=w32 (rotr x 11)) (fun w hw=>rot11 x ⟨rfl,hw⟩) k
theorem rotQ25 {C:World → Prop} {KQ:Value → Prop} (x:W) (u:Unit) (k:KQ (w32 (rotr x 25))):callQ Tryz.prog 230 #[w32 x,.int .i64 (-25)] C KQ:=callQ_of (v:=w32 (rotr x 25)) (fun w hw=>rot25 x ⟨rfl,hw⟩) k
theorem rotQ2 {C:World → Prop} {KQ:Value → Prop} (x:W) (u:Unit) (k:KQ (w32 (rotr x 2))):callQ Tryz.prog 230 #[w32 x,.int .i64 (-2)] C KQ:=callQ_of (v:=w32 (rotr x 2)) (fun w hw=>rot2 x ⟨rfl,hw⟩) k
theorem rotQ13 {C:World → Prop} {KQ:Value → Prop} (x:W) (u:Unit) (k:KQ (w32 (rotr x 13))):callQ Tryz.prog 230 #[w32 x,.int .i64 (-13)] C KQ:=callQ_of (v:=w32 (rotr x 13)) (fun w hw=>rot13 x ⟨rfl,hw⟩) k
theorem rotQ22 {C:World → Prop} {KQ:Value → Prop} (x:W) (u:Unit) (k:KQ (w32 (rotr x 22))):callQ Tryz.prog 230 #[w32 x,.int .i64 (-22)] C KQ:=callQ_of (v:=w32 (rotr x 22)) (fun w hw=>rot22 x ⟨rfl,hw⟩) k
theorem schedule_ok' (b:List UInt8) {B o c:Nat} (hl:b.length = 64) (hb:ByR w B o b) (k:∀ sl w',sl = sched b 64 → Below w.heap.size w w' → K (.agg (ws sl).toArray) w'):callM Tryz.prog 228 #[.slice (some ⟨B,o,none⟩) 64 c] K w:=
 schedule_ok b hl hb fun w' h=>k _ w' rfl h
theorem mix_ok (s:St) (b:List UInt8) {B o c:Nat} (hl:b.length = 64) (hb:ByR w B o b) (k:∀ w',Below w.heap.size w w' → K (stV (mix s b)) w'):callM Tryz.prog 214 #[stV s,.slice (some ⟨B,o,none⟩) 64 c] K w:=by
 apply sh_214_ok
 unfold sh_214
 refine arr_box (cs:=ws s.list) rfl fun gh w1 hb1 hg1 h1=>?_
 refine arr_alloc al_words fun gr w2 hb2 hg2 h2=>?_
 refine schedule_ok' b hl ((hb.next hb1).next hb2) fun sl w3 hsl hb3=>?_
 refine table_ok fun w4 hb4=>?_
 refine arr_alloc al_64 fun gs w5 hb5 hg5 h5=>?_
 refine arr_alloc al_64 fun gt w6 hb6 hg6 h6=>?_
 have hl64:sl.length = 64:=by rw [hsl]; exact sched_length b 64
 refine arr_store sz_64 (xs:=ws (sl)) rfl (by rw [List.length_map,hl64]) (ws_one _) (h5.next hb6) rfl (fun w7 hg7 h7=>?_)
 have l5:=h5.lt
 have l2:=h2.lt
 have l1:=h1.lt
 have z2:=hb2.size
 have z3:=hb3.size
 have z4:=hb4.size
 have z5:=hb5.size
 have z6:=hb6.size
 have h6':=h6.other hg7 (show gt ≠ gs by omega)
 have z7:=hg7.size
 have l6:=h6.lt
 refine arr_store sz_64 (xs:=ws consts) rfl rfl (ws_one _) h6' rfl (fun w8 hg8 h8=>?_)
 have z8:=hg8.size
 have h7':=h7.other hg8 (show gs ≠ gt by omega)
 have q1:Holds w8 gh 225 (ws s.list):=(((((((h1.next hb2).next hb3).next hb4).next hb5).next hb6).other hg7 (by omega)).other hg8 (by omega))
 have q2:Holds w8 gr 225 (ws (List.replicate 8 0)):=((((((h2.next hb3).next hb4).next hb5).next hb6).other hg7 (by omega)).other hg8 (by omega))
 have qb:Below w.heap.size w w8:=grown_below (grown_below (((((hb1.on hb2).on hb3).on hb4).on hb5).on hb6) hg7 (by have:=hb1.size; omega)) hg8 (by have:=hb1.size; omega)
 refine arr_load q1 un_words rfl (by kernel_rfl) ?_
 refine arr_alloc al_words fun gv w9 hb9 hg9 h9=>?_
 refine arr_store sz_words (xs:=ws s.list) rfl rfl (ws_one _) h9 rfl (fun w10 hg10 h10=>?_)
 have hA:Apart w.heap.size gh gr gs gt gv:=by
  have:=hb1.size
  constructor <;> omega
 have hI:MixI w gh gr gs gt gv s (sl) s.list w10:=
  ⟨grown_below (qb.on hb9) hg10 hA.v,(q1.next hb9).other hg10 hA.h,⟨_,rfl,(q2.next hb9).other hg10 hA.r⟩,(h7'.next hb9).other hg10 hA.s,(h8.next hb9).other hg10 hA.t,h10⟩
 refine ⟨MixJ w gh gr gs gt gv s b sl,schMu,⟨_,_,_,_,_,0,rfl,by omega,hI⟩,?_⟩
 clear hI h10 hg10 h9 hb9 qb q2 q1 h7' z8 h8 hg8 l6 z7 h6' z6 z5 z4 z3 z2 l1 l2 l5 h7 hg7 h6 hb6 h5 hb5 hb4 hb3 h2 hb2 h1 hb1
 rintro _ _ w1 ⟨v0,v1,v2,v3,v4,i,rfl,hi,hI⟩
 by_cases hi64:i < 64
 ·have e1:rounds b s (i + 1) = round (rounds b s i) (at' consts i) (at' sl i):=by rw [hsl]; rfl
  obtain ⟨v',e2⟩:∃ v',v' = rounds b s (i + 1):=⟨_,rfl⟩
  rw [← e2] at e1
  generalize rounds b s i = v at *
  repeat (any_goals (first
  | (with_reducible refine yN ?_)
  | ((with_reducible refine oM_gen fun Kv hK=>?_); simp [go_sem]; refine hK _ _ ?_; clear hK Kv)))
  refine ⟨fun w'=>w' = { w1 with drawn:=w1.drawn + 1 },rfl,?_⟩
  have hI:=hI.drew
  generalize ({ w1 with drawn:=w1.drawn + 1 }:World) = w2 at hI ⊢
  have c4:w2.cell? ⟨gv,4,none⟩ = some (w32 v.e):=holds_at hI.v 4 (show (4:Nat) < 8 by decide)
  repeat (any_goals (first
  | (with_reducible refine rotQ6 _ () ?_) | (with_reducible refine rotQ11 _ () ?_) | (with_reducible refine rotQ25 _ () ?_) | (with_reducible refine rotQ2 _ () ?_) | (with_reducible refine rotQ13 _ () ?_) | (with_reducible refine rotQ22 _ () ?_)
  | (with_reducible first|refine And.intro (Eq.refl (α:=World) _) ?_|refine forall_one ?_)
  | ((with_reducible refine idOQ ?_); ((with_reducible refine oQ_one ?_ ?_); exact ⟨_,rfl⟩))
  | ((with_reducible refine oM_gen fun Kv hK=>?_); simp [go_sem,c4,wxor]; refine hK _ _ ?_; clear hK Kv)))
  have hI:=hI.drew
  clear c4
  refine ⟨fun w'=>w' = { w2 with drawn:=w2.drawn + 1 },rfl,?_⟩
  generalize ({ w2 with drawn:=w2.drawn + 1 }:World) = w3 at hI ⊢
  have c4:w3.cell? ⟨gv,4,none⟩ = some (w32 v.e):=holds_at hI.v 4 (show (4:Nat) < 8 by decide)
  have c5:w3.cell? ⟨gv,5,none⟩ = some (w32 v.f):=holds_at hI.v 5 (show (5:Nat) < 8 by decide)
  have c6:w3.cell? ⟨gv,6,none⟩ = some (w32 v.g):=holds_at hI.v 6 (show (6:Nat) < 8 by decide)
  have c7:w3.cell? ⟨gv,7,none⟩ = some (w32 v.h):=holds_at hI.v 7 (show (7:Nat) < 8 by decide)
  have ck:=holds_at hI.tab i (by rw [consts_length]; exact hi64)
  have cs:=holds_at hI.sch i (by rw [hl64]; exact hi64)
  repeat (any_goals (first
  | (with_reducible first|refine And.intro (Eq.refl (α:=World) _) ?_|refine forall_one ?_)
  | ((with_reducible refine idOQ ?_); ((with_reducible refine oQ_one ?_ ?_); exact ⟨_,rfl⟩))
  | ((with_reducible refine oM_gen fun Kv hK=>?_); simp [go_sem,c4,c5,c6,c7,ck,cs,wxor,wadd,wand]; (first|refine hK _ _ ?_|refine And.intro (by omega) (hK _ _ ?_)); clear hK Kv)))
  clear c4 c5 c6 c7 ck cs
  have hI:=hI.drew
  refine ⟨fun w'=>w' = { w3 with drawn:=w3.drawn + 1 },rfl,?_⟩
  generalize ({ w3 with drawn:=w3.drawn + 1 }:World) = w4 at hI ⊢
  have c0:w4.cell? ⟨gv,0,none⟩ = some (w32 v.a):=holds_at hI.v 0 (show (0:Nat) < 8 by decide)
  have c1:w4.cell? ⟨gv,1,none⟩ = some (w32 v.b):=holds_at hI.v 1 (show (1:Nat) < 8 by decide)
  have c2:w4.cell? ⟨gv,2,none⟩ = some (w32 v.c):=holds_at hI.v 2 (show (2:Nat) < 8 by decide)
  have c3:w4.cell? ⟨gv,3,none⟩ = some (w32 v.d):=holds_at hI.v 3 (show (3:Nat) < 8 by decide)
  have c4:w4.cell? ⟨gv,4,none⟩ = some (w32 v.e):=holds_at hI.v 4 (show (4:Nat) < 8 by decide)
  have c5:w4.cell? ⟨gv,5,none⟩ = some (w32 v.f):=holds_at hI.v 5 (show (5:Nat) < 8 by decide)
  have c6:w4.cell? ⟨gv,6,none⟩ = some (w32 v.g):=holds_at hI.v 6 (show (6:Nat) < 8 by decide)
  repeat (any_goals (first
  | (with_reducible refine rotQ6 _ () ?_) | (with_reducible refine rotQ11 _ () ?_) | (with_reducible refine rotQ25 _ () ?_) | (with_reducible refine rotQ2 _ () ?_) | (with_reducible refine rotQ13 _ () ?_) | (with_reducible refine rotQ22 _ () ?_)
  | (with_reducible first|refine And.intro (Eq.refl (α:=World) _) ?_|refine forall_one ?_)
  | ((with_reducible refine idOQ ?_); ((with_reducible refine oQ_one ?_ ?_); exact ⟨_,rfl⟩))
  | ((with_reducible refine oM_gen fun Kv hK=>?_); simp [go_sem,c0,c1,c2,c3,c4,c5,c6,wxor,wadd,wand,wor,build8]; refine hK _ _ ?_; clear hK Kv)))
  refine arr_store sz_words (xs:=ws v'.list) (by rw [e1]; rfl) rfl (ws_one _) hI.v rfl (fun w5 hg5 h5=>?_)
  have hI:=hI.wrote hA hg5 h5
  repeat (any_goals ((with_reducible refine oM_gen fun Kv hK=>?_); simp [go_sem]; (try simp (disch:=omega) only [wrapI64,wrapU8,wrapU32,wrapU64]); refine hK _ _ ?_; clear hK Kv))
  refine ⟨⟨_,_,_,_,_,i + 1,rfl,hi64,by rw [← e2]; exact hI⟩,?_⟩
  simp only [schMu_eq]; omega
 ·obtain rfl:i = 64:=by omega
  have em:stV (mix s b) = .agg (ws (adL (rounds b s 64) s 8)).toArray:=rfl
  rw [em] at k
  clear em
  generalize rounds b s 64 = v at *
  repeat (any_goals (first
  | (with_reducible refine yM ?_)
  | ((with_reducible refine oM_gen fun Kv hK=>?_); simp [go_sem]; refine hK _ _ ?_; clear hK Kv)))
  refine ⟨AdJ w gh gr gs gt gv s sl v,adMu,⟨_,0,rfl,by omega,hI⟩,?_⟩
  clear hI
  rintro _ _ w2 ⟨v0,j,rfl,hj,hI⟩
  by_cases hj8:j < 8
  ·repeat (any_goals (first
   | (with_reducible refine yN ?_)
   | ((with_reducible refine oM_gen fun Kv hK=>?_); simp [go_sem]; refine hK _ _ ?_; clear hK Kv)))
   have hI:=hI.drew
   refine ⟨Nx { w2 with drawn:=w2.drawn + 1 },Below.refl _ _,rfl,?_⟩
   generalize ({ w2 with drawn:=w2.drawn + 1 }:World) = w3 at hI ⊢
   have cv:∀ w',Nx w3 w' → w'.cell? ⟨gv,j,none⟩ = some (w32 (at' v.list j)):=fun w' h=>by rw [holds_at (hI.next h).v j (by rw [adL_length]; exact hj8),adL_at v s hj8]
   have ch:∀ w',Nx w3 w' → w'.cell? ⟨gh,j,none⟩ = some (w32 (at' s.list j)):=fun w' h=>holds_at (hI.next h).h j (show j < 8 from hj8)
   repeat (any_goals (first
   | (with_reducible refine pureH_in ?_)
   | ((with_reducible refine idOH ?_); (with_reducible refine oH_of ⟨_,rfl⟩ (fun W0 hW0=>by (refine oM_gen (fun Kv hK=>?_)); simp [go_sem,cv _ hW0,ch _ hW0,wadd]; (first | exact hK _ _ ⟨rfl,rfl⟩ | exact ⟨by omega,hK _ _ ⟨rfl,rfl⟩⟩)) ?_))))
   refine ⟨Nx,fun w9 h9=>?_⟩
   have hI:=hI.next h9
   refine arr_set sz_u32 rfl rfl hI.v (by simp [adL,hj8]) (fun W hg2 hh=>?_)
   have hI:=hI.wrote hA hg2 (u:=adL v s (j + 1)) (by rw [← adL_set v s hj8]; unfold ws at hh ⊢; rw [List.map_set]; exact hh)
   repeat (any_goals ((with_reducible refine oM_gen fun Kv hK=>?_); simp [go_sem]; (try simp (disch:=omega) only [wrapI64,wrapU8,wrapU32,wrapU64]); refine hK _ _ ?_; clear hK Kv))
   refine ⟨⟨_,j + 1,rfl,hj8,hI⟩,?_⟩
   simp only [adMu_eq]; omega
  ·obtain rfl:j = 8:=by omega
   repeat (any_goals (first
   | (with_reducible refine yM ?_)
   | ((with_reducible refine oM_gen fun Kv hK=>?_); simp [go_sem]; refine hK _ _ ?_; clear hK Kv)))
   refine arr_load hI.v un_words rfl (by kernel_rfl) ?_
   obtain ⟨zs,hz,hr⟩:=hI.r
   refine arr_store sz_words (xs:=ws (adL v s 8)) rfl rfl (ws_one _) hr hz (fun W hg2 hh=>?_)
   exact arr_ret hh un_words rfl (by kernel_rfl) (k _ (grown_below hI.below hg2 hA.r0))
end
end Go.Proofs
namespace Go.Proofs
open Go Go.Sh Go.RowKit ShaSpec
section
variable {K:Value → World → Prop} {w w0:World}
structure Buf (w0:World) (v:Value) (l:List UInt8) (w:World):Prop where
 below:Below w0.heap.size w0 w
 row:BufM w 5 v l
 own:∀ i,v.ownBlock = some i → w0.heap.size ≤ i
theorem Buf.next {v:Value} {l:List UInt8} {w':World} (h:Buf w0 v l w) (hb:Below w.heap.size w w'):Buf w0 v l w':=by
 refine ⟨h.below.on hb,h.row.keep (fun i hi=>?_),h.own⟩
 obtain ⟨g,c,rfl,hlt⟩:=h.row.shape
 cases hi
 exact hb.block g hlt
def lo8 (x:W):UInt8:=UInt8.ofNat x.toNat
theorem conv_w8 (T:TypeId) (x:W):oM Tryz.prog (.convert 223 5 (.tmp 0)) T [w32 x] = pureM (.int .u8 ((lo8 x).toNat:Int)):=by
 unfold lo8
 funext K w
 have e:IntKind.u8.wrap (x.toNat:Int) = ((UInt8.ofNat x.toNat).toNat:Int):=by
  rw [IntKind.wrap_u8,UInt8.toNat_ofNat']
  omega
 have e2:(convert 223 5 (w32 x)).run Tryz.prog w = .ok (.int .u8 (IntKind.u8.wrap (x.toNat:Int))) w:=by kernel_rfl
 rw [oM_convert,e2,e]
 rfl
theorem idx_st (T:TypeId) (s:St) (i:Nat) (hi:i < 8):oM Tryz.prog (.index 225 (.tmp 0) (.tmp 1)) T [stV s,.int .i64 (i:Int)] = pureM (w32 (at' s.list i)):=by
 have e:∀ w,(Instr.index 225 (stV s) (.int .i64 (i:Int))).run Tryz.prog w = .ok (w32 (at' s.list i)) w:=by
  intro w
  rcases i with _ | _ | _ | _ | _ | _ | _ | _ | i
  all_goals first | omega | kernel_rfl
 funext K w
 rw [rM_of (S:=Instr.index 225 (stV s) (.int .i64 (i:Int))) rfl,e]
 rfl
theorem mkB4 {T:TypeId} (a b c d:UInt8) (k:∀ g W,Below w.heap.size w W → (∀ j u,(Lib.byteCells [a,b,c,d])[j]? = some u → W.cell? ⟨g,j,none⟩ = some u) → K (.slice (some ⟨g,0,none⟩) 4 4) W) :
  oM Tryz.prog (.buildSlice 202 4 #[(0,.tmp 0),(1,.tmp 1),(2,.tmp 2),(3,.tmp 3)]) T [.int .u8 (a.toNat:Int),.int .u8 (b.toNat:Int),.int .u8 (c.toNat:Int),.int .u8 (d.toNat:Int)] K w:=by
 have e:(Instr.buildSlice 202 4 #[(0,.int .u8 (a.toNat:Int)),(1,.int .u8 (b.toNat:Int)),(2,.int .u8 (c.toNat:Int)),(3,.int .u8 (d.toNat:Int))]).run Tryz.prog w = .ok (.slice (some ⟨w.heap.size,0,none⟩) 4 4) (w.alloc (.cells (Lib.byteCells [a,b,c,d]).toArray 5)):=by kernel_rfl
 rw [rM_of (S:=Instr.buildSlice 202 4 #[(0,.int .u8 (a.toNat:Int)),(1,.int .u8 (b.toNat:Int)),(2,.int .u8 (c.toNat:Int)),(3,.int .u8 (d.toNat:Int))]) (by simp [xop,execOp,evalL,evE]),e]
 refine k _ _ ((Below.refl _ w).alloc (Nat.le_refl _) _) (fun j u hj=>?_)
 have:=World.cell?_alloc_at (w:=w) (Lib.byteCells [a,b,c,d]).toArray 5 w.heap.size j rfl
 rw [this]
 simpa using hj
abbrev OwnB (w:World) (B:Nat) (v:Value) (l:List UInt8):Prop:=w.ownsRow B 5 1 v l.length (Lib.byteCells l)
theorem pushW {B:Nat} {T T':TypeId} {v:Value} {l:List UInt8} (a b c d:UInt8) (ho:OwnB w B v l) (hB:B ≤ w.heap.size) (hl:l.length < 1099511627776) (k:∀ v' w',OwnB w' B v' (l ++ [a,b,c,d]) → Below B w w' → K v' w') :
  oM Tryz.prog (.buildSlice 202 4 #[(0,.tmp 0),(1,.tmp 1),(2,.tmp 2),(3,.tmp 3)]) T [.int .u8 (a.toNat:Int),.int .u8 (b.toNat:Int),.int .u8 (c.toNat:Int),.int .u8 (d.toNat:Int)] (fun u w=>oM Tryz.prog (.call { callee:=.builtin .append,args:=#[.tmp 0,.tmp 1],argTypes:=#[202,202] }) T' [v,u] K w) w:=by
 refine mkB4 a b c d fun g W hb hc=>?_
 have ho2:OwnB W B v l:=owns_keep ho (fun i hi=>hb.block i (owns_own ho hi).1)
 refine append_at 202 T' 5 ((Tryz.prog.info? 5).getD default) (.int .u8 0) 1 1 (by kernel_rfl) (by kernel_rfl) (by kernel_rfl) (by kernel_rfl) (by kernel_rfl) (by kernel_rfl) (by omega) (owns_base ho2 (Nat.zero_le _)) (Lib.byteCells [a,b,c,d]) rfl (by simp) ?_ ?_ (by simp only [maxLen]; omega) (by omega) ?_
 ·rintro ad ha j u hj
  cases ha
  rw [add_none,Nat.zero_add]
  exact hc j u hj
 ·intro u hu
  simp only [Lib.byteCells,List.mem_map] at hu
  obtain ⟨x,_,rfl⟩:=hu
  rfl
 ·intro v' w' ho' hg hv
  have hbl:∀ i,v.ownBlock = some i → B ≤ i:=fun i hi=>(owns_own ho hi).2.1
  have hBW:=Nat.le_trans hB hb.size
  refine k v' w' ?_ ((hb.mono hB).grown hg hBW hbl)
  have e2:Lib.byteCells (l ++ [a,b,c,d]) = Lib.byteCells l ++ Lib.byteCells [a,b,c,d]:=by simp [Lib.byteCells]
  show w'.ownsRow B 5 1 v' (l ++ [a,b,c,d]).length (Lib.byteCells (l ++ [a,b,c,d]))
  rw [List.length_append,e2]
  refine ⟨ho'.1,ho'.2.imp id ?_⟩
  rintro ⟨g,cap,cur,rfl,hb',hr⟩
  exact ⟨g,cap,cur,rfl,(hv g rfl).elim (hbl g) (fun h=>Nat.le_trans hBW h),hr⟩
theorem toStrB {B:Nat} {T:TypeId} {v:Value} {l:List UInt8} (ho:OwnB w B v l) (hne:0 < l.length) (k:K (.string ⟨l.toArray⟩) w):oM Tryz.prog (.convert 202 9 (.tmp 0)) T [v] K w:=by
 obtain ⟨g,cap,cur,rfl,hlt,_,_,_,_,hc⟩:=owns_cells ho hne
 have:=run_convert_bytes_back (P:=Tryz.prog) w 202 9 5 ⟨g,0,none⟩ cap l (by kernel_rfl) (by kernel_rfl) (by kernel_rfl) (fun j hj=>by
  rw [add_none,Nat.zero_add]
  exact hc j _ (by simp [Lib.byteCells,hj]))
 rw [rM_of (S:=convert 202 9 (.slice (some ⟨g,0,none⟩) l.length cap)) rfl,this]
 exact k
theorem sliceTo64 {T:TypeId} {a:Option Addr} {n c:Nat} (hc:64 ≤ c) (k:K (.slice a 64 c) w):oM Tryz.prog (.slice 202 (.tmp 0) none (some (.tmp 1)) none) T [.slice a n c,.int .i64 64] K w:=
 sliceTo_at (by kernel_rfl) (sz:=1) (fun w=>by kernel_rfl) 64 hc k
theorem sliceFrom64 {T:TypeId} {g o n c:Nat} (hn:64 ≤ n) (hc:n ≤ c) (k:∀ ad,(64 < c → ad = some ⟨g,o + 64,none⟩) → K (.slice ad (n - 64) (c - 64)) w):oM Tryz.prog (.slice 202 (.tmp 0) (some (.tmp 1)) none none) T [.slice (some ⟨g,o,none⟩) n c,.int .i64 64] K w:=by
 have hs:∀ w,(sizeOf (Tryz.prog.elem 202)).run Tryz.prog w = .ok 1 w:=fun w=>by kernel_rfl
 rw [oM_sliceFrom,run_sliceAt_slice w 202 _ _ _ _ (by kernel_rfl),run_slice_l w 202 _ n c (by kernel_rfl) .i64 64 (by omega) (by omega),hs]
 simp only [Result.andThen_ok,sliced]
 refine k _ (fun h=>?_)
 rw [if_neg (show ¬ c = (64:Int).toNat by show ¬ c = 64; omega)]
 rfl
theorem ofStr (l:List UInt8) {T:TypeId} (k:∀ v w',Buf w v l w' → K v w'):oM Tryz.prog (.convert 9 202 (.tmp 0)) T [.string ⟨l.toArray⟩] K w:=by
 refine ofStr_at (e:=5) (by kernel_rfl) (by kernel_rfl) (by kernel_rfl) l (fun v w' hb hg ho hs=>k v w' ⟨(Below.refl _ _).grown hg (Nat.le_refl _) (fun i hi=>by cases hi),hb,fun i hi=>?_⟩)
 rw [ho] at hi
 cases hi
 exact Nat.le_refl _
theorem mkB1 {T:TypeId} (x:UInt8) (k:∀ g W,Below w.heap.size w W → W.cell? ⟨g,0,none⟩ = some (.int .u8 (x.toNat:Int)) → K (.slice (some ⟨g,0,none⟩) 1 1) W):oM Tryz.prog (.buildSlice 202 1 #[(0,.tmp 0)]) T [.int .u8 (x.toNat:Int)] K w:=by
 rw [oM_buildSlice1]
 have e:(Instr.buildSlice 202 1 #[(0,.int .u8 (x.toNat:Int))]).run Tryz.prog w = .ok (.slice (some ⟨w.heap.size,0,none⟩) 1 1) (w.alloc (.cells #[.int .u8 (x.toNat:Int)] 5)):=by kernel_rfl
 rw [e]
 refine k _ _ ((Below.refl _ w).alloc (Nat.le_refl _) _) ?_
 have:=World.cell?_alloc_at (w:=w) #[.int .u8 (x.toNat:Int)] 5 w.heap.size 0 rfl
 rw [this]
 rfl
theorem push {T T':TypeId} {v:Value} {l:List UInt8} (x:UInt8) {n:Int} (hx:n = (x.toNat:Int)) (h:Buf w0 v l w) (hl:l.length + 1 ≤ 1099511627776) (k:∀ v' w',Buf w0 v' (l ++ [x]) w' → K v' w') :
  oM Tryz.prog (.buildSlice 202 1 #[(0,.tmp 0)]) T [.int .u8 n] (fun u w=>oM Tryz.prog (.call { callee:=.builtin .append,args:=#[.tmp 0,.tmp 1],argTypes:=#[202,202] }) T' [v,u] K w) w:=by
 subst hx
 refine mkB1 x fun g W hb hc=>?_
 have h:=h.next hb
 refine pushB_at (e:=5) (i:=(Tryz.prog.info? 5).getD default) (by kernel_rfl) (by kernel_rfl) (by kernel_rfl) (by kernel_rfl) (by kernel_rfl) h.row hc hl (fun v' w' hb' hg hv=>k v' w' ⟨h.below.grown hg h.below.size h.own,hb',fun i hi=>?_⟩)
 rcases hv with hv | ⟨g',hv,hlt⟩
 ·exact h.own i (by rw [← hv]; exact hi)
 ·rw [hv] at hi
  cases hi
  exact Nat.le_trans h.below.size hlt
theorem bufByR {g n c:Nat} {l:List UInt8} (h:BufM w 5 (.slice (some ⟨g,0,none⟩) n c) l):ByR w g 0 l:=by
 obtain ⟨g',cap,cur,fz,hv,hg,hfz,hcs,hlc,hcell⟩:=h
 cases hv
 refine ⟨(Array.getElem?_eq_some_iff.1 hg).1,fun i hi=>?_⟩
 rw [Nat.zero_add,cell_of_block hg,hcell i hi]
 simp [List.getD_eq_getElem?_getD,hi]
theorem bufCap {g n c:Nat} {l:List UInt8} {v:Value} (h:BufM w 5 v l) (e:v = .slice (some ⟨g,0,none⟩) n c):l.length ≤ c:=by
 obtain ⟨g',cap,cur,fz,hv,hg,hfz,hcs,hlc,hcell⟩:=h
 rw [e] at hv
 cases hv
 exact hlc
theorem ByR.other {b o g:Nat} {l:List UInt8} {w':World} (h:ByR w b o l) (hg:w.grownBy w' (some g)) (hne:b ≠ g):ByR w' b o l:=
 ⟨Nat.lt_of_lt_of_le h.1 hg.size,fun i hi=>by
  rw [← h.2 i hi]
  unfold World.cell?
  rw [hg.block b h.1 (fun e=>hne (by cases e; rfl))]⟩
theorem ByR.part {b o:Nat} {l:List UInt8} (h:ByR w b o l) (i n:Nat) (hn:i + n ≤ l.length):ByR w b (o + i) ((l.drop i).take n):=by
 refine ⟨h.1,fun j hj=>?_⟩
 have hj':j < n:=by rw [List.length_take,List.length_drop] at hj; omega
 rw [Nat.add_assoc,h.2 (i + j) (by omega)]
 congr 3
 rw [List.getD_eq_getElem?_getD,List.getD_eq_getElem?_getD,List.getElem?_take_of_lt hj',List.getElem?_drop]
def BkJ (w0:World) (g gb:Nat) (p:List UInt8) (m:Nat) (R:St) (l:List Value) (w':World):Prop:=
 ∃ (ad:Option Addr) (c t:Nat) (st:St),l = [.slice ad (64 * (m - t)) c] ∧ t ≤ m ∧ 64 * (m - t) ≤ c ∧ (t < m → ad = some ⟨gb,64 * t,none⟩) ∧ Below w0.heap.size w0 w' ∧ ByR w' gb 0 p ∧ Holds w' g 225 (ws st.list) ∧ blocks (m - t) st (p.drop (64 * t)) = R
def bkMu (l:List Value) (_:World):Nat:=match l with | [.slice _ m _]=>m | _=>0
theorem bkMu_eq (m c:Nat) (a:Option Addr) (w:World):bkMu [.slice a m c] w = m:=rfl
def outL (st:St) (i:Nat):List UInt8:=((st.list.take i).map out1).flatten
theorem outL_length (st:St) (i:Nat) (hi:i ≤ 8):(outL st i).length = 4 * i:=by
 unfold outL St.list
 rcases i with _ | _ | _ | _ | _ | _ | _ | _ | _ | i
 all_goals first | omega | rfl
theorem out1_eq (x:W):out1 x = [lo8 (x >>> 24),lo8 (x >>> 16),lo8 (x >>> 8),lo8 x]:=by
 simp only [out1,lo8,BitVec.toNat_ushiftRight,Nat.shiftRight_eq_div_pow]
theorem outL_next (st:St) (i:Nat) (hi:i < 8):outL st (i + 1) = outL st i ++ [lo8 (at' st.list i >>> 24),lo8 (at' st.list i >>> 16),lo8 (at' st.list i >>> 8),lo8 (at' st.list i)]:=by
 rw [← out1_eq]
 unfold outL
 have hl:i < st.list.length:=hi
 rw [List.take_add_one,List.getElem?_eq_getElem hl,List.map_append,List.flatten_append]
 simp [at',List.getD_eq_getElem?_getD,hl]
def OutJ (w0:World) (st:St) (l:List Value) (w':World):Prop:=∃ (u v:Value) (i:Nat),l = [u,v,.int .i64 (i:Int)] ∧ i ≤ 8 ∧ OwnB w' w0.heap.size v (outL st i) ∧ Below w0.heap.size w0 w'
def outMu (l:List Value) (_:World):Nat:=match l with | [_,_,.int _ i]=>8 - i.toNat | _=>0
theorem outMu_eq (a b:Value) (q:IntKind) (i:Int) (w:World):outMu [a,b,.int q i] w = 8 - i.toNat:=rfl
def ZeJ (w0:World) (s:List UInt8) (l:List Value) (w':World):Prop:=∃ v j,l = [v] ∧ j ≤ zeros s.length ∧ Buf w0 v (s ++ [128] ++ List.replicate j 0) w'
theorem sha_len (s:List UInt8) (j:Nat):(s ++ [(128:UInt8)] ++ List.replicate j 0).length = s.length + 1 + j:=by simp; omega
def zeMu (n:Nat) (l:List Value) (_:World):Nat:=match l with | [.slice _ m _]=>n - m | _=>0
theorem zeMu_eq (n m c:Nat) (a:Option Addr) (w:World):zeMu n [.slice a m c] w = n - m:=rfl
def LeJ (w0:World) (s:List UInt8) (l:List Value) (w':World):Prop:=∃ (v:Value) (j:Nat),l = [v,.int .i64 (56 - 8 * (j:Int))] ∧ j ≤ 8 ∧ Buf w0 v (s ++ [128] ++ List.replicate (zeros s.length) 0 ++ (lenBytes s.length).take j) w'
def leMu (l:List Value) (_:World):Nat:=match l with | [_,.int _ i]=>(i + 8).toNat | _=>0
theorem leMu_eq (a:Value) (q:IntKind) (i:Int) (w:World):leMu [a,.int q i] w = (i + 8).toNat:=rfl
theorem lenByte (n j:Nat) (hj:j < 8) (hn:n < 1099511627776):(IntKind.u8.wrap (8 * (n:Int) / 2 ^ (56 - 8 * (j:Int)).toNat)) = (((lenBytes n).getD j 0).toNat:Int):=by
 have e1:8 * (n:Int) = ((8 * n:Nat):Int):=by omega
 have e2:(56 - 8 * (j:Int)).toNat = 8 * (7 - j):=by omega
 have e3:(lenBytes n).getD j 0 = UInt8.ofNat (8 * n / 2 ^ (8 * (7 - j))):=by
  unfold lenBytes
  rcases j with _ | _ | _ | _ | _ | _ | _ | _ | j <;> first | rfl | omega
 rw [e1,e2,e3,IntKind.wrap_u8,UInt8.toNat_ofNat']
 generalize 8 * (7 - j) = q
 have:((8 * n:Nat):Int) / 2 ^ q = ((8 * n / 2 ^ q:Nat):Int):=by
  rw [Int.natCast_ediv,Int.natCast_pow]; rfl
 rw [this]
 omega
theorem take_next (l:List UInt8) (j:Nat) (hj:j < l.length):l.take (j + 1) = l.take j ++ [l.getD j 0]:=by
 rw [List.take_add_one,List.getD_eq_getElem?_getD,List.getElem?_eq_getElem hj]
 rfl
theorem Sha_ok (s:List UInt8) (hs:s.length ≤ 1000000000) (k:∀ w',Below w.heap.size w w' → K (.string ⟨(sha s).toArray⟩) w'):callM Tryz.prog 195 #[.string ⟨s.toArray⟩] K w:=by
 apply sh_195_ok
 unfold sh_195
 refine ofStr s fun v1 w1 h1=>?_
 refine push 128 rfl h1 (by omega) (fun v2 w2 h2=>?_)
 refine ⟨ZeJ w s,zeMu (s.length + 1 + zeros s.length),⟨_,0,rfl,by omega,by simpa using h2⟩,?_⟩
 clear h2 w2 v2 h1 w1 v1
 rintro _ _ w1 ⟨v1,j,rfl,hj,h1⟩
 obtain ⟨g1,c1,rfl,hlt1⟩:=h1.row.shape
 have hz:zeros s.length < 64:=by unfold zeros; omega
 by_cases hjz:j < zeros s.length
 ·have hm:¬ ((s.length:Int) + 1 + (j:Int)).tmod 64 = 56:=by
   rw [Int.tmod_eq_emod_of_nonneg (by omega)]; unfold zeros at hjz; omega
  rw [sha_len] at *
  repeat (any_goals (first
  | ((with_reducible refine push 0 rfl h1 (by rw [sha_len]; omega) ?_); intro v2 w2 h2)
  | (with_reducible refine yL ?_)
  | ((with_reducible refine oM_gen fun Kv hK=>?_); simp [go_sem,hm]; refine hK _ _ ?_; clear hK Kv)))
  have e:s ++ [(128:UInt8)] ++ List.replicate j 0 ++ [0] = s ++ [128] ++ List.replicate (j + 1) 0:=by
   simp [List.replicate_succ',List.append_assoc]
  rw [e] at h2
  obtain ⟨g2,c2,rfl,hlt2⟩:=h2.row.shape
  refine ⟨⟨_,j + 1,rfl,hjz,h2⟩,?_⟩
  rw [sha_len]
  simp only [zeMu_eq]; omega
 ·obtain rfl:j = zeros s.length:=by omega
  have hm:((s.length:Int) + 1 + (zeros s.length:Int)).tmod 64 = 56:=by
   rw [Int.tmod_eq_emod_of_nonneg (by omega)]; unfold zeros; omega
  rw [sha_len] at *
  repeat (any_goals (first
  | (with_reducible refine yM ?_)
  | ((with_reducible refine oM_gen fun Kv hK=>?_); simp [go_sem,hm]; refine hK _ _ ?_; clear hK Kv)))
  refine ⟨LeJ w s,leMu,⟨_,0,rfl,by omega,by simpa using h1⟩,?_⟩
  clear h1 hlt1 hm
  rintro _ _ w1 ⟨v1,j,rfl,hj,h1⟩
  have hle:(s ++ [(128:UInt8)] ++ List.replicate (zeros s.length) 0 ++ (lenBytes s.length).take j).length = s.length + 1 + zeros s.length + j:=by
   rw [List.length_append,sha_len,List.length_take,lenBytes_length]; omega
  by_cases hj8:j < 8
  ·have hq:IntKind.u64.wrap (s.length:Int) = (s.length:Int):=wrapU64 _ (by omega) (by omega)
   have hsh:=fun t t' T x=>oM_shr64 (P:=Tryz.prog) t t' T .i64 x (56 - 8 * (j:Int)) (by omega) (by omega)
   repeat (any_goals (first
   | ((with_reducible refine push ((lenBytes s.length).getD j 0) (lenByte _ _ hj8 (by omega)) h1 (by omega) ?_); intro v2 w2 h2)
   | (with_reducible refine yN ?_)
   | ((with_reducible refine oM_gen fun Kv hK=>?_); simp [go_sem,hq,hsh]; (try simp (disch:=omega) only [wrapI64,wrapU8,wrapU32,wrapU64]); refine hK _ _ ?_; clear hK Kv)))
   refine ⟨⟨_,j + 1,by rw [show 56 - 8 * (j:Int) - 8 = 56 - 8 * ((j + 1:Nat):Int) by omega],hj8,?_⟩,?_⟩
   ·rw [take_next _ _ (by rw [lenBytes_length]; exact hj8),← List.append_assoc]
    exact h2
   ·simp only [leMu_eq]; omega
  ·obtain rfl:j = 8:=by omega
   rw [List.take_of_length_le (by rw [lenBytes_length]; omega)] at h1 hle
   have hpad:s ++ [(128:UInt8)] ++ List.replicate (zeros s.length) 0 ++ lenBytes s.length = padded s:=rfl
   rw [hpad] at h1 hle
   have hp64:=padded_length s
   obtain ⟨m,hm⟩:∃ m,(padded s).length = 64 * m:=⟨(padded s).length / 64,by omega⟩
   repeat (any_goals (first
   | (with_reducible refine yM ?_)
   | ((with_reducible refine oM_gen fun Kv hK=>?_); simp [go_sem]; refine hK _ _ ?_; clear hK Kv)))
   refine first_ok fun w2 hb2=>?_
   have h2:=h1.next hb2
   refine arr_alloc al_words fun g w3 hb3 hg3 h3=>?_
   have h4:=h2.next hb3
   obtain ⟨gb,c,rfl,hlt⟩:=h2.row.shape
   refine arr_store sz_words (xs:=ws first.list) rfl rfl (ws_one _) h3 rfl (fun w4 hg4 hh=>?_)
   have zb:=h1.below.size
   have hby:=(bufByR h4.row).other hg4 (by omega)
   have hbw:Below w.heap.size w w4:=grown_below h4.below hg4 (by have:=hb2.size; have:=h2.below.size; omega)
   have ef:sha s = ((blocks m first (padded s)).list.map out1).flatten:=by
    unfold sha
    rw [hm,Nat.mul_div_cancel_left m (by omega)]
   refine ⟨BkJ w g gb (padded s) m (blocks m first (padded s)),bkMu,⟨_,_,0,first,by rw [hm]; rfl,by omega,by have:=bufCap h4.row rfl; omega,fun _=>rfl,hbw,hby,hh,rfl⟩,?_⟩
   have hgw:w.heap.size ≤ g:=Nat.le_trans h2.below.size hg3
   have hgb:gb ≠ g:=by omega
   clear hh hby hbw hg4 h4 hlt h3 hg3 hb3 h2 hb2 h1 zb w4 w3 w2
   rintro _ _ w2 ⟨ad,c,t,st,rfl,ht,hc,had,hbw,hby,hh,hbl⟩
   by_cases htm:t < m
   ·obtain ⟨r,hr⟩:∃ r,m - t = r + 1:=⟨m - t - 1,by omega⟩
    obtain rfl:=had htm
    rw [hr] at hbl hc ⊢
    repeat (any_goals (first
    | (with_reducible refine yN ?_)
    | ((with_reducible refine oM_gen fun Kv hK=>?_); simp [go_sem]; refine hK _ _ ?_; clear hK Kv)))
    refine ⟨Nx { w2 with drawn:=w2.drawn + 1 },Below.refl _ _,rfl,?_⟩
    have hh:=hh.next (.drawn (B:=w2.heap.size))
    have hby:=hby.next (.drawn (B:=w2.heap.size))
    have hbw:=hbw.on (.drawn (B:=w2.heap.size))
    generalize ({ w2 with drawn:=w2.drawn + 1 }:World) = w3 at hh hby hbw ⊢
    refine oH_of (v:=stV st) ⟨_,rfl⟩ (fun W0 hW0=>arr_load (hh.next hW0) un_words rfl (by kernel_rfl) ⟨rfl,rfl⟩) ?_
    refine pureH_in ?_
    refine oH_of (v:=.slice (some ⟨gb,64 * t,none⟩) 64 c) ⟨_,rfl⟩ (fun W0 hW0=>sliceTo64 (by omega) ⟨rfl,rfl⟩) ?_
    refine ⟨Nx,fun w9 h9=>?_⟩
    have hh:=hh.next h9
    have hby:=hby.next h9
    have hbw:=hbw.on h9
    have hpart:=hby.part (64 * t) 64 (by omega)
    rw [Nat.zero_add] at hpart
    refine mix_ok st _ (by rw [List.length_take,List.length_drop]; omega) hpart (fun w4 hb4=>?_)
    refine arr_store sz_words (xs:=ws (mix st _).list) rfl rfl (ws_one _) (hh.next hb4) rfl (fun w5 hg5 hh5=>?_)
    refine sliceFrom64 (by omega) (by omega) (fun ad' had'=>?_)
    have e1:64 * (r + 1) - 64 = 64 * (m - (t + 1)):=by omega
    rw [e1]
    refine ⟨⟨ad',c - 64,t + 1,_,rfl,by omega,by omega,fun h=>had' (by omega),grown_below (hbw.on hb4) hg5 hgw,(hby.next hb4).other hg5 hgb,hh5,?_⟩,?_⟩
    ·rw [show m - (t + 1) = r by omega,← hbl]
     show _ = blocks r (mix st ((List.drop (64 * t) (padded s)).take 64)) ((List.drop (64 * t) (padded s)).drop 64)
     rw [List.drop_drop,show 64 * t + 64 = 64 * (t + 1) by omega]
    ·simp only [bkMu_eq]; omega
   ·obtain rfl:t = m:=by omega
    rw [Nat.sub_self] at hbl ⊢
    repeat (any_goals (first
    | (with_reducible refine yM ?_)
    | ((with_reducible refine oM_gen fun Kv hK=>?_); simp [go_sem]; refine hK _ _ ?_; clear hK Kv)))
    refine arr_load hh un_words rfl (by kernel_rfl) ?_
    have hst:st = blocks t first (padded s):=hbl
    rw [← hst] at ef
    refine ⟨OutJ w st,outMu,⟨_,_,0,rfl,by omega,⟨rfl,.inl ⟨rfl,rfl⟩⟩,hbw⟩,?_⟩
    rintro _ _ w3 ⟨u3,v3,i,rfl,hi,ho,hb3⟩
    by_cases hi8:i < 8
    ·have hix:=fun T=>idx_st T st i hi8
     repeat (any_goals (first
     | ((with_reducible refine pushW _ _ _ _ ho hb3.size (by have:=outL_length st i hi; omega) ?_); intro v4 w4 ho4 hb4)
     | (with_reducible refine yN ?_)
     | ((with_reducible refine oM_gen fun Kv hK=>?_); simp [go_sem,hix,shr24,shr16,shr8,conv_w8]; (try simp (disch:=omega) only [wrapI64,wrapU8,wrapU32,wrapU64]); refine hK _ _ ?_; clear hK Kv)))
     rw [← outL_next st i hi8] at ho4
     refine ⟨⟨_,_,i + 1,rfl,hi8,ho4,hb3.trans hb4⟩,?_⟩
     simp only [outMu_eq]; omega
    ·obtain rfl:i = 8:=by omega
     have e8:outL st 8 = sha s:=by rw [ef]; rfl
     repeat (any_goals (first
     | ((with_reducible refine toStrB ho (by rw [outL_length st 8 (by omega)]; omega) ?_))
     | (with_reducible refine yM ?_)
     | ((with_reducible refine oM_gen fun Kv hK=>?_); simp [go_sem]; refine hK _ _ ?_; clear hK Kv)))
     rw [e8]
     exact k _ hb3
end
end Go.Proofs
namespace TkSpec
open FdSpec CodeSpec
def numStep (n:Int) (out:Int) (b:UInt8):Int:=addM n (mulM n out 256) (b.toNat:Int)
def numberM (s:List UInt8) (n:Int):Int:=if okN n then (ShaSpec.sha s).foldl (numStep n) 0 else 0
def signedM (s:Stp) (key m c r:Int) (o:Off):Bool:=
 decide (genM s r = timesM s (powerG s.g key c) [o.a]) && decide (powerG s.g m r = timesM s (powerG s.g o.z c) [o.b])
end TkSpec
namespace TkSpec
open FdSpec CodeSpec
structure Mir where
 bases:List Int
 blind:Int
def logM (s:Stp) (m:Mir) (attrs:List Int):Int:=((expsM attrs).zip m.bases).foldl (fun o p=>plusQ s o (mulQ s p.1 [p.2])) 0
def zB:Bld:=⟨0,0,0,[]⟩
end TkSpec
namespace FdPoly
def ev:List Int → Int → Int
 | [],_=>0
 | c :: p,x=>c + x * ev p x
def U (q a:Int):Prop:=∃ u,q ∣ u * a - 1
theorem U.cancel {q a b:Int} (h:U q a) (hd:q ∣ a * b):q ∣ b:=by
 obtain ⟨u,k,hk⟩:=h
 obtain ⟨m,hm⟩:=hd
 exact ⟨u * m - k * b,by grind⟩
def Z (q:Int) (p:List Int):Prop:=∀ c ∈ p,q ∣ c
theorem Z.ev {q:Int}:∀ {p:List Int},Z q p → ∀ x,q ∣ FdPoly.ev p x
 | [],_,_=>Int.dvd_zero q
 | c :: p,h,x=>by
  have h1:=h c (by simp)
  have h2:=Z.ev (p:=p) (fun d hd=>h d (by simp [hd])) x
  exact Int.dvd_add h1 (Int.dvd_mul_of_dvd_right h2)
def Apart (q:Int):List Int → Prop
 | []=>True
 | a :: xs=>(∀ x ∈ xs,U q (x - a)) ∧ Apart q xs
def addL:List Int → List Int → List Int
 | [],p=>p
 | p,[]=>p
 | c :: p,d :: r=>(c + d) :: addL p r
def scl (k:Int) (p:List Int):List Int:=p.map (fun c=>k * c)
theorem addL_ev (x:Int):∀ p r:List Int,ev (addL p r) x = ev p x + ev r x
 | [],r=>by simp [addL,ev]
 | c :: p,[]=>by simp [addL,ev]
 | c :: p,d :: r=>by
  simp only [addL,ev,addL_ev x p r]
  grind
theorem addL_len:∀ p r:List Int,(addL p r).length = max p.length r.length
 | [],r=>by simp [addL]
 | c :: p,[]=>by simp [addL]
 | c :: p,d :: r=>by simp only [addL,List.length_cons,addL_len p r]; omega
theorem addL_get:∀ (p r:List Int) (i:Nat),(addL p r).getD i 0 = p.getD i 0 + r.getD i 0
 | [],r,i=>by simp [addL]
 | c :: p,[],i=>by simp [addL]
 | c :: p,d :: r,0=>by simp [addL]
 | c :: p,d :: r,i + 1=>by
  have:=addL_get p r i
  simpa [addL] using this
theorem scl_ev (k x:Int) (p:List Int):ev (scl k p) x = k * ev p x:=by
 induction p with
 | nil=>simp [scl,ev]
 | cons c p ih=>
  have e:scl k (c :: p) = (k * c) :: scl k p:=rfl
  rw [e]
  simp only [ev,ih]
  grind
theorem scl_len (k:Int) (p:List Int):(scl k p).length = p.length:=by simp [scl]
theorem scl_get (k:Int) (p:List Int) (i:Nat):(scl k p).getD i 0 = k * p.getD i 0:=by
 induction p generalizing i with
 | nil=>simp [scl]
 | cons c p ih=>
  cases i with
  | zero=>simp [scl]
  | succ i=>simpa [scl] using ih i
def lin (a:Int) (p:List Int):List Int:=addL (0 :: p) (scl (-a) p)
theorem lin_ev (a x:Int) (p:List Int):ev (lin a p) x = (x - a) * ev p x:=by
 unfold lin
 rw [addL_ev,scl_ev]
 simp only [ev]
 grind
theorem lin_len (a:Int) (p:List Int):(lin a p).length = p.length + 1:=by
 unfold lin
 rw [addL_len,scl_len,List.length_cons]; omega
theorem lin_top (a:Int) (p:List Int):(lin a p).getD p.length 0 = p.getD (p.length - 1) 0:=by
 unfold lin
 rw [addL_get,scl_get]
 have h1:p.getD p.length 0 = 0:=by simp [List.getD]
 rw [h1]
 cases p with
 | nil=>simp
 | cons c p=>simp
structure Ip (q:Int) (X Y:Nat → Int) (i n:Nat) (p:List Int) (t:Int):Prop where
 len:p.length = n + 1
 val:∀ j,i ≤ j → j ≤ i + n → q ∣ ev p (X j) - Y j
 top:q ∣ p.getD n 0 - t
theorem Ip.step {q:Int} {X Y:Nat → Int} {i n:Nat} {p r:List Int} {t s u:Int} (h:Ip q X Y i n p t) (h':Ip q X Y (i + 1) n r s) (hu:q ∣ u * (X (i + n + 1) - X i) - 1) :
  Ip q X Y i (n + 1) (scl u (addL (lin (X i) r) (scl (-1) (lin (X (i + n + 1)) p)))) ((s - t) * u):=by
 refine ⟨?_,fun j h1 h2=>?_,?_⟩
 ·rw [scl_len,addL_len,scl_len,lin_len,lin_len,h.len,h'.len]; omega
 ·rw [scl_ev,addL_ev,scl_ev,lin_ev,lin_ev]
  obtain ⟨k,hk⟩:=hu
  by_cases hj:j = i
  ·subst hj
   obtain ⟨a,ha⟩:=h.val j (Nat.le_refl _) (by omega)
   generalize ev p (X j) = P at *
   generalize ev r (X j) = R at *
   generalize X (j + n + 1) = xn at *
   generalize X j = xj at *
   generalize Y j = y at *
   exact ⟨u * (xn - xj) * a + k * y,by grind⟩
  ·by_cases hj2:j = i + n + 1
   ·subst hj2
    obtain ⟨a,ha⟩:=h'.val (i + n + 1) (by omega) (by omega)
    generalize ev p (X (i + n + 1)) = P at *
    generalize ev r (X (i + n + 1)) = R at *
    generalize X (i + n + 1) = xn at *
    generalize X i = xj at *
    generalize Y (i + n + 1) = y at *
    exact ⟨u * (xn - xj) * a + k * y,by grind⟩
   ·obtain ⟨a,ha⟩:=h.val j (by omega) (by omega)
    obtain ⟨b,hb⟩:=h'.val j (by omega) (by omega)
    generalize ev p (X j) = P at *
    generalize ev r (X j) = R at *
    generalize X (i + n + 1) = xn at *
    generalize X i = xi at *
    generalize X j = xj at *
    generalize Y j = y at *
    exact ⟨u * (xj - xi) * b - u * (xj - xn) * a + k * y,by grind⟩
 ·rw [scl_get,addL_get,scl_get]
  have e1:(lin (X i) r).getD (n + 1) 0 = r.getD n 0:=by have:=lin_top (X i) r; rw [h'.len] at this; exact this
  have e2:(lin (X (i + n + 1)) p).getD (n + 1) 0 = p.getD n 0:=by have:=lin_top (X (i + n + 1)) p; rw [h.len] at this; exact this
  rw [e1,e2]
  obtain ⟨a,ha⟩:=h.top
  obtain ⟨b,hb⟩:=h'.top
  exact ⟨u * b - u * a,by grind⟩
theorem Ip.one (q:Int) (X Y:Nat → Int) (i:Nat):Ip q X Y i 0 [Y i] (Y i):=
 ⟨rfl,fun j h1 h2=>by
  have:j = i:=by omega
  subst this
  simp [ev],by simp⟩
def pr (X:Nat → Int):Nat → List Int
 | 0=>[1]
 | n + 1=>lin (X n) (pr X n)
end FdPoly
namespace FdPoly
open FdSpec
theorem addM_dvd {n a b:Int} (hn:okN n):n ∣ addM n a b - (a + b):=by
 unfold addM; rw [if_pos hn]
 have:=Int.emod_add_mul_ediv (a + b) n
 exact ⟨-((a + b) / n),by grind⟩
theorem subM_dvd {n a b:Int} (hn:okN n):n ∣ subM n a b - (a - b):=by
 unfold subM; rw [if_pos hn]
 have:=Int.emod_add_mul_ediv (a - b) n
 exact ⟨-((a - b) / n),by grind⟩
theorem mulM_dvd {n a b:Int} (hn:okN n):n ∣ mulM n a b - a * b:=by
 unfold mulM; rw [if_pos hn]
 have:=Int.emod_add_mul_ediv (a * b) n
 exact ⟨-(a * b / n),by grind⟩
theorem mod_dvd (n a:Int):n ∣ a % n - a:=by
 have:=Int.emod_add_mul_ediv a n
 exact ⟨-(a / n),by grind⟩
theorem euc_inv {n a:Int} (hn:okN n):∀ (m:Nat) (r s x y α β:Int),s.toNat ≤ m → 0 ≤ r → 0 ≤ s → α * r + β * s = 1 → n ∣ x * a - r → n ∣ y * a - s → (eucAll n r s x y).1 = 1 ∧ n ∣ (eucAll n r s x y).2 * a - 1
 | m,r,s,x,y,α,β,hm,hr,hs,hb,hx,hy=>by
  by_cases h0:s = 0
  ·subst h0
   have e:eucAll n r 0 x y = (r,x):=euc_zero n _ r x y
   rw [e]
   have h1:α * r = 1:=by omega
   have h2:r = 1:=by
    have:r ∣ 1:=⟨α,by rw [Int.mul_comm]; exact h1.symm⟩
    have:=Int.le_of_dvd (by omega) this
    by_cases h3:r = 0
    ·rw [h3] at h1; omega
    ·omega
   subst h2
   exact ⟨rfl,hx⟩
  ·have hs':0 < s:=by omega
   rw [euc_step n r s x y hs']
   have h1:=Int.emod_nonneg r h0
   have h2:=Int.emod_lt_of_pos r hs'
   have h3:=Int.emod_add_mul_ediv r s
   have h4:n ∣ subM n x (mulM n (r / s) y) * a - r % s:=by
    obtain ⟨k1,e1⟩:=subM_dvd (a:=x) (b:=mulM n (r / s) y) hn
    obtain ⟨k2,e2⟩:=mulM_dvd (a:=r / s) (b:=y) hn
    obtain ⟨k3,e3⟩:=hx
    obtain ⟨k4,e4⟩:=hy
    generalize subM n x (mulM n (r / s) y) = A at *
    generalize mulM n (r / s) y = B at *
    generalize r / s = d at *
    generalize r % s = e at *
    exact ⟨k1 * a - k2 * a + k3 - d * k4,by grind⟩
   cases m with
   | zero=>omega
   | succ m=>exact euc_inv hn m s (r % s) y _ (β + α * (r / s)) α (by omega) hs h1 (by generalize r / s = d at *; generalize r % s = e at *; grind) hy h4
theorem invM_some {n a:Int} (hn:okN n) (h:U n a):∃ x,invM n a = some x ∧ n ∣ x * a - 1 ∧ 0 ≤ x ∧ x < n:=by
 obtain ⟨u,k,hk⟩:=h
 have hp:0 < n:=by have:=hn.1; omega
 have h1:=Int.emod_nonneg a (b:=n) (by omega)
 have h3:=Int.emod_add_mul_ediv a n
 obtain ⟨e1,e2⟩:=euc_inv (a:=a) hn _ n (a % n) 0 1 (u * (a / n) - k) u (Nat.le_refl _) (by omega) h1 (by generalize a / n = d at *; generalize a % n = e at *; grind) ⟨-1,by omega⟩ (by
  obtain ⟨m,hm⟩:=mod_dvd n a
  exact ⟨-m,by grind⟩)
 refine ⟨(eucAll n n (a % n) 0 1).2 % n,?_,?_,Int.emod_nonneg _ (by omega),Int.emod_lt_of_pos _ hp⟩
 ·unfold invM
  rw [if_pos hn,if_pos e1]
 ·obtain ⟨m,hm⟩:=mod_dvd n (eucAll n n (a % n) 0 1).2
  obtain ⟨l,hl⟩:=e2
  generalize (eucAll n n (a % n) 0 1).2 = z at *
  generalize z % n = zz at *
  exact ⟨m * a + l,by grind⟩
end FdPoly
namespace FdPoly
open FdSpec
def invO (q a:Int):Int:=(invM q a).getD 0
theorem res_eq {q a b:Int} (h:q ∣ a - b) (ha:0 ≤ a ∧ a < q) (hb:0 ≤ b ∧ b < q):a = b:=by
 obtain ⟨k,hk⟩:=h
 have h1:k < 1:=by
  refine Classical.byContradiction fun hn=>?_
  have:q * 1 ≤ q * k:=Int.mul_le_mul_of_nonneg_left (by omega) (by omega)
  omega
 have h2:-1 < k:=by
  refine Classical.byContradiction fun hn=>?_
  have:q * k ≤ q * (-1):=Int.mul_le_mul_of_nonneg_left (by omega) (by omega)
  omega
 have:k = 0:=by omega
 subst this
 omega
theorem getD_set (l:List Int) (j i:Nat) (v:Int) (hj:j < l.length):(l.set j v).getD i 0 = if i = j then v else l.getD i 0:=by
 rw [List.getD_eq_getElem?_getD,List.getElem?_set]
 by_cases h:j = i
 ·subst h
  rw [if_pos rfl,if_pos hj,if_pos rfl]; rfl
 ·rw [if_neg h,if_neg (fun e=>h e.symm),List.getD_eq_getElem?_getD]
theorem Ip.cong {q:Int} {X Y:Nat → Int} {i n:Nat} {p:List Int} {t s:Int} (h:Ip q X Y i n p t) (e:q ∣ t - s):Ip q X Y i n p s:=by
 refine ⟨h.len,h.val,?_⟩
 have:=Int.dvd_add h.top e
 have e2:p.getD n 0 - t + (t - s) = p.getD n 0 - s:=by omega
 rwa [e2] at this
theorem U.cong {q a b:Int} (h:U q a) (e:q ∣ b - a):U q b:=by
 obtain ⟨u,k,hk⟩:=h
 obtain ⟨m,hm⟩:=e
 exact ⟨u,k + u * m,by grind⟩
section
variable {q:Int} {xs ys:List Int}
def d0 (q:Int) (ys:List Int):List Int:=ys.map (fun y=>y % q)
end
def hNew (q x d:Int) (o:List Int) (n:Nat):Int:=if n = 0 then addM q (subM q 0 (mulM q (o.getD 0 0) x)) d else addM q (subM q 0 (mulM q (o.getD n 0) x)) (o.getD (n - 1) 0)
def hStep (q x d:Int) (o:List Int):List Int:=(List.range o.length).map (hNew q x d o)
theorem hStep_get (q x d:Int) (o:List Int) (n:Nat):(hStep q x d o).getD n 0 = if n < o.length then hNew q x d o n else 0:=by
 unfold hStep
 rw [List.getD_eq_getElem?_getD,List.getElem?_map]
 by_cases h:n < o.length
 ·rw [List.getElem?_range h,if_pos h]; rfl
 ·rw [if_neg h,List.getElem?_eq_none (by simp; omega)]; rfl
def Zr (c:Nat) (o:List Int):Prop:=∀ n,c ≤ n → o.getD n 0 = 0
theorem mul0 {q x:Int} (hq:okN q):mulM q 0 x = 0:=by unfold mulM; rw [if_pos hq]; simp
theorem sub0 {q:Int} (hq:okN q):subM q 0 0 = 0:=by unfold subM; rw [if_pos hq]; simp
theorem add0 {q:Int} (hq:okN q):addM q 0 0 = 0:=by unfold addM; rw [if_pos hq]; simp
theorem Zr.step {q x d:Int} (hq:okN q) {c:Nat} {o:List Int} (h:Zr c o):Zr (c + 1) (hStep q x d o):=by
 intro n hn
 rw [hStep_get]
 split
 ·unfold hNew
  rw [if_neg (by omega),h n (by omega),h (n - 1) (by omega),mul0 hq,sub0 hq,add0 hq]
 ·rfl
end FdPoly
namespace FdPoly
open FdSpec
theorem U.mul {q a b:Int} (ha:U q a) (hb:U q b):U q (a * b):=by
 obtain ⟨u,k,hk⟩:=ha
 obtain ⟨v,m,hm⟩:=hb
 exact ⟨u * v,v * b * k + m,by grind⟩
theorem U.neg {q a:Int} (ha:U q a):U q (-a):=by
 obtain ⟨u,k,hk⟩:=ha
 exact ⟨-u,k,by grind⟩
theorem U.one (q:Int):U q 1:=⟨1,0,by omega⟩
theorem U.list {q:Int} (l:List Int) (h:∀ x ∈ l,U q x) {d:Int} (hd:d = l.foldr (· * ·) 1):U q d:=by
 subst hd
 induction l with
 | nil=>exact U.one q
 | cons x l ih=>exact (h x (by simp)).mul (ih (fun y hy=>h y (by simp [hy])))
end FdPoly
namespace GrLaw
open FdSpec FdPoly TkSpec
def Cg (P a b:Int):Prop:=P ∣ a - b
section
variable {P a b c d x y:Int}
theorem Cg.refl (P a:Int):Cg P a a:=⟨0,by omega⟩
theorem Cg.symm (h:Cg P a b):Cg P b a:=by obtain ⟨k,hk⟩:=h; exact ⟨-k,by grind⟩
theorem Cg.trans (h:Cg P a b) (h2:Cg P b c):Cg P a c:=by obtain ⟨k,hk⟩:=h; obtain ⟨m,hm⟩:=h2; exact ⟨k + m,by grind⟩
theorem Cg.mul (h:Cg P a b) (h2:Cg P c d):Cg P (a * c) (b * d):=by obtain ⟨k,hk⟩:=h; obtain ⟨m,hm⟩:=h2; exact ⟨k * c + b * m,by grind⟩
theorem Cg.pow (h:Cg P a b):∀ n:Nat,Cg P (a ^ n) (b ^ n)
 | 0=>by rw [Int.pow_zero,Int.pow_zero]; exact Cg.refl _ _
 | n + 1=>by rw [Int.pow_succ,Int.pow_succ]; exact (Cg.pow h n).mul h
theorem Cg.mod (P a:Int):Cg P (a % P) a:=mod_dvd P a
theorem Cg.emod (h:Cg P a b):a % P = b % P:=by
 obtain ⟨k,hk⟩:=h
 have:a = b + P * k:=by omega
 rw [this,Int.add_mul_emod_self_left]
theorem Cg.of_emod (h:a % P = b % P):Cg P a b:=(Cg.mod P a).symm.trans (by rw [h]; exact Cg.mod P b)
theorem Cg.eq (h:Cg P a b) (ha:0 ≤ a ∧ a < P) (hb:0 ≤ b ∧ b < P):a = b:=res_eq h ha hb
theorem U.of_cg (h:Cg P (b * a) 1):U P a:=⟨b,h⟩
theorem U.cg (h:U P a) (e:Cg P b a):U P b:=h.cong e
theorem Cg.cancel (hu:U P c) (h:Cg P (a * c) (b * c)):Cg P a b:=by
 refine hu.cancel ?_
 obtain ⟨k,hk⟩:=h
 exact ⟨k,by grind⟩
theorem pow_mod {n:Nat} (h:Cg P (x ^ n) 1) (k:Nat):Cg P (x ^ k) (x ^ (k % n)):=by
 have e:x ^ k = (x ^ n) ^ (k / n) * x ^ (k % n):=by
  rw [← Int.pow_mul,← Int.pow_add,Nat.div_add_mod]
 rw [e]
 have h1:=h.pow (k / n)
 rw [Int.one_pow] at h1
 have:=h1.mul (Cg.refl P (x ^ (k % n)))
 rwa [Int.one_mul] at this
theorem pow_same {n:Nat} (h:Cg P (x ^ n) 1) {j k:Nat} (e:j % n = k % n):Cg P (x ^ j) (x ^ k):=by
 have h1:=pow_mod h j
 rw [e] at h1
 exact h1.trans (pow_mod h k).symm
end
structure Gv (g:Grp):Prop where
 q0:5 ≤ g.Q
 q1:g.Q < 1152921504606846976
 p:g.P = 2 * g.Q + 1
 g0:2 ≤ g.G
 g1:g.G < g.P
 pq:primeM g.Q = true
 gq:pw g.P g.G g.Q.toNat = 1
theorem gv_of {g:Grp} (h:validG g = true):Gv g:=by
 unfold validG at h
 split at h
 ·cases h
 ·simp only [Bool.and_eq_true,decide_eq_true_eq] at h
  exact ⟨by omega,by omega,by omega,by omega,by omega,h.1.1,h.2⟩
def Ex (g:Grp) (x k:Int):Int:=x ^ (k % g.Q).toNat
def El (g:Grp) (x:Int):Prop:=Cg g.P (x ^ g.Q.toNat) 1
section
variable {g:Grp} {x y a b:Int}
theorem Gv.okP (h:Gv g):okN g.P:=by have:=h.q0; have:=h.q1; have:=h.p; exact ⟨by omega,by omega⟩
theorem Gv.okQ (h:Gv g):okN g.Q:=by have:=h.q0; have:=h.q1; exact ⟨by omega,by omega⟩
theorem El.of_pw (h:Gv g) (hx:pw g.P x g.Q.toNat = 1):El g x:=by
 refine Cg.of_emod ?_
 have e:x ^ g.Q.toNat % g.P = 1:=hx
 rw [e,Int.emod_eq_of_lt (by omega) (by have:=h.q0; have:=h.p; omega)]
theorem El.gen (h:Gv g):El g g.G:=El.of_pw h h.gq
theorem El.mul (hx:El g x) (hy:El g y):El g (x * y):=by
 unfold El
 rw [Int.mul_pow]
 have:=Cg.mul hx hy
 rwa [Int.one_mul] at this
theorem El.cg (hx:El g x) (h:Cg g.P y x):El g y:=(h.pow _).trans hx
theorem El.pow (hx:El g x) (n:Nat):El g (x ^ n):=by
 unfold El
 rw [← Int.pow_mul,Nat.mul_comm,Int.pow_mul]
 have:=Cg.pow hx n
 rwa [Int.one_pow] at this
theorem El.unit (h:Gv g) (hx:El g x):U g.P x:=by
 refine U.of_cg (b:=x ^ (g.Q.toNat - 1)) ?_
 have e:x ^ (g.Q.toNat - 1) * x = x ^ g.Q.toNat:=by
  rw [← Int.pow_succ]; congr 1; have:=h.q0; omega
 rw [e]; exact hx
theorem toNat_mod {Q k:Int} (hQ:0 < Q):(((k % Q).toNat:Nat):Int) = k % Q:=Int.toNat_of_nonneg (Int.emod_nonneg _ (by omega))
theorem nat_mod {Q:Int} (hQ:0 < Q) {m n:Nat} (h:(m:Int) % Q = (n:Int) % Q):m % Q.toNat = n % Q.toNat:=by
 have hq:((Q.toNat:Nat):Int) = Q:=Int.toNat_of_nonneg (by omega)
 have:((m % Q.toNat:Nat):Int) = ((n % Q.toNat:Nat):Int):=by
  rw [Int.natCast_emod,Int.natCast_emod,hq]; exact h
 omega
theorem Ex_add (h:Gv g) (hx:El g x) (a b:Int):Cg g.P (Ex g x (a + b)) (Ex g x a * Ex g x b):=by
 unfold Ex
 rw [← Int.pow_add]
 have hQ:0 < g.Q:=by have:=h.q0; omega
 refine pow_same hx (nat_mod hQ ?_)
 push_cast
 rw [toNat_mod hQ,toNat_mod hQ,toNat_mod hQ]
 rw [Int.emod_emod_of_dvd _ (Int.dvd_refl _),← Int.add_emod]
theorem Ex_mul (h:Gv g) (hx:El g x) (a b:Int):Cg g.P (Ex g x (a * b)) (Ex g x a ^ (b % g.Q).toNat):=by
 unfold Ex
 rw [← Int.pow_mul]
 have hQ:0 < g.Q:=by have:=h.q0; omega
 refine pow_same hx (nat_mod hQ ?_)
 push_cast
 rw [toNat_mod hQ,toNat_mod hQ,toNat_mod hQ]
 rw [Int.emod_emod_of_dvd _ (Int.dvd_refl _),← Int.mul_emod]
theorem Ex_cong (e:a % g.Q = b % g.Q):Ex g x a = Ex g x b:=by unfold Ex; rw [e]
theorem Ex_zero (x:Int):Ex g x 0 = 1:=by simp [Ex]
theorem Ex_cg (h:Cg g.P x y) (a:Int):Cg g.P (Ex g x a) (Ex g y a):=h.pow _
theorem El.ex (hx:El g x) (a:Int):El g (Ex g x a):=hx.pow _
theorem powerG_eq (h:Gv g) (x k:Int):powerG g x k = Ex g x k % g.P:=by
 unfold powerG
 rw [if_pos ⟨h.okP,h.okQ⟩]; rfl
theorem powerG_cg (h:Gv g) (x k:Int):Cg g.P (powerG g x k) (Ex g x k):=by rw [powerG_eq h]; exact Cg.mod _ _
theorem powerG_range (h:Gv g) (x k:Int):0 ≤ powerG g x k ∧ powerG g x k < g.P:=by
 rw [powerG_eq h]
 have:=h.okP.1
 exact ⟨Int.emod_nonneg _ (by omega),Int.emod_lt_of_pos _ (by omega)⟩
theorem timesG_cg (h:Gv g) (a b:Int):Cg g.P (timesG g a b) (a * b):=by
 unfold timesG
 rw [if_pos h.okQ]
 exact mulM_dvd h.okP
theorem timesG_range (h:Gv g) (a b:Int):0 ≤ timesG g a b ∧ timesG g a b < g.P:=by
 unfold timesG
 rw [if_pos h.okQ]
 exact mulM_range _ _ _ h.okP
theorem overG_cg (h:Gv g) (a:Int) (hb:U g.P b):Cg g.P (overG g a b * b) a:=by
 obtain ⟨x,e,hx,_⟩:=invM_some h.okP hb
 unfold overG
 have e1:powM g.P b (-1) = x % g.P:=by
  unfold powM
  rw [if_pos h.okP,if_neg (by omega),e]
  show pw g.P x (-(-1:Int)).toNat = _
  have:(-(-1:Int)).toNat = 1:=by decide
  rw [this]
  unfold pw
  rw [Int.pow_succ,Int.pow_zero,Int.one_mul]
 rw [e1]
 have h1:=timesG_cg h a (x % g.P)
 have h2:Cg g.P (timesG g a (x % g.P) * b) (a * x * b):=(h1.trans ((Cg.refl _ a).mul (Cg.mod _ x))).mul (Cg.refl _ b)
 refine h2.trans ?_
 obtain ⟨k,hk⟩:=hx
 exact ⟨a * k,by grind⟩
theorem overG_range (h:Gv g) (a b:Int):0 ≤ overG g a b ∧ overG g a b < g.P:=timesG_range h _ _
def PX (g:Grp):List (Int × Int) → Int
 | []=>1
 | (b,e) :: l=>Ex g b e * PX g l
theorem prodL_cg (h:Gv g):∀ (l:List (Int × Int)) (out:Int),Cg g.P (prodL g out l) (out * PX g l)
 | [],out=>by simp [prodL,PX]; exact Cg.refl _ _
 | (b,e) :: l,out=>by
  rw [prodL,PX]
  refine (prodL_cg h l _).trans ?_
  have h1:Cg g.P (mulM g.P out (powerG g b e)) (out * Ex g b e):=(show Cg g.P _ _ from mulM_dvd h.okP).trans ((Cg.refl _ out).mul (powerG_cg h b e))
  have:=h1.mul (Cg.refl g.P (PX g l))
  have e2:out * Ex g b e * PX g l = out * (Ex g b e * PX g l):=Int.mul_assoc _ _ _
  rwa [e2] at this
theorem prodL_range (h:Gv g):∀ (l:List (Int × Int)) (out:Int),0 ≤ out ∧ out < g.P → 0 ≤ prodL g out l ∧ prodL g out l < g.P
 | [],out,ho=>ho
 | (b,e) :: l,out,_=>by rw [prodL]; exact prodL_range h l _ (mulM_range _ _ _ h.okP)
end
end GrLaw
namespace PrSpec
open FdSpec TkSpec CodeSpec FdPoly
structure Trm where
 var:Int
 base:Int
deriving DecidableEq
structure Eqn where
 target:Int
 terms:List Trm
deriving DecidableEq
structure Clm where
 vars:Int
 eqs:List Eqn
deriving DecidableEq
structure Cls where
 need:Int
 claims:List Clm
deriving DecidableEq
structure Knw where
 has:Bool
 values:List Int
deriving DecidableEq
def exponentM (s:Stp) (n:Int):Bool:=decide (0 ≤ n) && decide (n < s.g.Q)
def exponentsM (s:Stp) (l:List Int) (n:Int):Bool:=decide ((l.length:Int) = n) && !(l.any fun x=>!exponentM s x)
def trmFine (s:Stp) (vars:Int) (t:Trm):Bool:=decide (0 ≤ t.var) && decide (t.var < vars) && elemG s.g t.base
def eqnFine (s:Stp) (vars:Int) (e:Eqn):Bool:=elemG s.g e.target && decide (e.terms.length ≤ 80) && e.terms.all (trmFine s vars)
def claimM (s:Stp) (c:Clm):Bool:=decide (0 ≤ c.vars) && decide (c.vars ≤ 120) && decide (1 ≤ c.eqs.length) && decide (c.eqs.length ≤ 60) && c.eqs.all (eqnFine s c.vars)
def leftM (s:Stp) (e:Eqn) (vs:List Int):Int:=(prodG s.g (e.terms.map fun t=>t.base) (e.terms.map fun t=>vs.getD t.var.toNat 0)).1
def holdsM (s:Stp) (c:Clm) (vs:List Int):Bool:=exponentsM s vs c.vars && !(c.eqs.any fun e=>!decide (leftM s e vs = e.target))
def HoldsM (s:Stp) (c:Clm) (vs:List Int):Bool:=validS s && claimM s c && holdsM s c vs
def clsFine (s:Stp) (c:Cls):Bool:=decide (1 ≤ c.claims.length) && decide (c.claims.length ≤ 16) && decide ((c.claims.length:Int) < s.g.Q) && decide (1 ≤ c.need) && decide (c.need ≤ c.claims.length)
def goalM (s:Stp) (goal:List Cls):Bool:=validS s && decide (1 ≤ goal.length) && decide (goal.length ≤ 300) && goal.all (clsFine s) && goal.all (fun c=>c.claims.all (claimM s))
end PrSpec
namespace Go.Proofs
open Go Go.Sh Go.RowKit FdSpec TkSpec CodeSpec
section
variable {K:Value → World → Prop} {w w0 w1:World} {L:List (Addr × Value)}
theorem I64_of {x n:Int} (h:0 ≤ x ∧ x < n) (hn:okN n):I64 x:=by unfold I64; unfold okN at hn; omega
theorem I64_0:I64 0:=by unfold I64; omega
theorem mulM_I64 (n a b:Int):I64 (mulM n a b):=by
 by_cases hn:okN n
 ·exact I64_of (mulM_range n a b hn) hn
 ·unfold mulM; rw [if_neg hn]; exact I64_0
theorem powerG_I64 (g:Grp) (x k:Int):I64 (powerG g x k):=by
 unfold powerG
 split
 ·rename_i h
  exact I64_of (pw_nonneg g.P x _ (by have:=h.1; unfold okN at this; omega)) h.1
 ·exact I64_0
theorem stp_one (s:Stp) (ad:Option Addr) (n c:Nat):∀ u ∈ stpC s (.slice ad n c),u.oneCell' = true:=by
 intro u hu
 simp only [stpC,List.mem_cons,List.not_mem_nil,or_false] at hu
 rcases hu with rfl | rfl | rfl | rfl | rfl <;> rfl
theorem eqNil_at {P:Program} {w:World} {K:Value → World → Prop} {t e T:TypeId} {a:Option Addr} {n c:Nat} (ht:P.underlying t = some (.slice e)) (k:K (.bool a.isNone) w):oM P (.binOp .eql t (.tmp 0) (.const (.slice none 0 0)) t) T [.slice a n c] K w:=by
 rw [oM_eqc]
 have:=Lib.run_eql_slice_nil (P:=P) w t e a n c 0 0 ht
 simp only [Sem.run_bind]
 have h2:(eqGuard .eql t (.tmp 0) (.const (.slice none 0 0)) (.slice a n c) (.slice none 0 0)).run P w = .ok () w:=by
  simp [eqGuard]
 rw [h2,Result.andThen_ok,this]
 exact k
theorem Clone_ok {v:Value} {l:List Int} (hr:Ints w v l) (hl:l.length < 1099511627776) (k:∀ v' w',w'.ownsRow 0 3 1 v' l.length (flat intC l) → Below w.heap.size w w' → (∀ i,v'.ownBlock = some i → w.heap.size ≤ i) → K v' w'):callM Tryz.prog 96 #[v] K w:=by
 apply sh_96_ok
 unfold sh_96
 have hi:=hr.row
 obtain ⟨ad,c,rfl,h0,hc⟩:=id hi
 refine eqNil_at (e:=3) (by kernel_rfl) ?_
 cases ad with
 | none=>
  obtain ⟨hl0,rfl⟩:=h0 rfl
  obtain rfl:l = []:=List.eq_nil_of_length_eq_zero hl0
  simp only [Option.isNone_none]
  repeat (any_goals (with_reducible refine yL ?_))
  exact k _ _ (World.ownsRow_nil _ _ _ _) (Below.refl _ _) (fun i hi=>by cases hi)
 | some a=>
  simp only [Option.isNone_some]
  repeat (any_goals (first
  | (with_reducible refine yM ?_)
  | ((with_reducible refine oM_gen fun Kv hK=>?_); simp [go_sem]; refine hK _ _ ?_; clear hK Kv)))
  have hr2:RowR intC 1 (w.alloc (.cells #[] 3)) (.slice (some a) l.length c) l:=hi.keep (by rw [alloc_size]; omega) (fun i _ hi=>heap_alloc_old _ _ hi)
  refine clone_at 24 24 3 ((Tryz.prog.info? 3).getD default) (.int .i64 0) 1 8 (by kernel_rfl) (by kernel_rfl) (by kernel_rfl) (by kernel_rfl) (by kernel_rfl) (by kernel_rfl) (by omega) (fun _=>rfl) (fun x u hu=>by simp [intC] at hu; subst hu; rfl) hr2 (World.ownsRow_lit w #[] 0 (Nat.zero_le _) (Nat.zero_le _) rfl) (B:=w.heap.size) (by rw [alloc_size]; omega) (fun i hi=>by cases hi; exact Nat.le_refl _) (by omega) (by omega) ?_
  intro v' w' ho hg hv
  exact k v' w' ho (((Below.refl _ _).alloc (Nat.le_refl _) _).grown hg (by rw [alloc_size]; omega) (fun i hi=>by cases hi; exact Nat.le_refl _)) hv
abbrev OwnI (w:World) (B:Nat) (v:Value) (l:List Int):Prop:=w.ownsRow B 3 1 v l.length (flat intC l)
theorem OwnI.ints {B:Nat} {v:Value} {l:List Int} (h:OwnI w B v l) (hr:∀ n ∈ l,I64 n) (hl:l.length ≤ 9223372036854775807):Ints w v l:=Ints.of_owns h hr hl
theorem owns_up {B C:Nat} {e:TypeId} {sz:Nat} {v:Value} {n:Nat} {xs:List Value} (h:w.ownsRow B e sz v n xs) (hc:∀ i,v.ownBlock = some i → C ≤ i):w.ownsRow C e sz v n xs:=by
 refine ⟨h.1,h.2.imp id ?_⟩
 rintro ⟨g,cap,cur,rfl,hb,hr⟩
 exact ⟨g,cap,cur,rfl,hc g rfl,hr⟩
theorem OwnI.keep {B:Nat} {v:Value} {l:List Int} {w':World} (h:OwnI w B v l) (hb:Below w.heap.size w w'):OwnI w' B v l:=
 owns_keep h (fun i hi=>hb.block i (owns_own h hi).1)
theorem append1 {B:Nat} {T:TypeId} {v xv:Value} {l:List Int} {x:Int} (ho:OwnI w B v l) (hB:B ≤ w.heap.size) (hx:Ints w xv [x]) (hl:l.length < 1099511627776)
  (k:∀ v' w',OwnI w' B v' (l ++ [x]) → Below B w w' → K v' w'):oM Tryz.prog (.call { callee:=.builtin .append,args:=#[.tmp 0,.tmp 1],argTypes:=#[24,24] }) T [v,xv] K w:=by
 obtain ⟨⟨ad,c,rfl,h0,hc⟩,hr,_⟩:=hx
 have hc:=hc.resolve_left (by simp)
 obtain ⟨b,o,rfl,hlt,hcell⟩:=hc
 refine append_at 24 T 3 ((Tryz.prog.info? 3).getD default) (.int .i64 0) 1 8 (by kernel_rfl) (by kernel_rfl) (by kernel_rfl) (by kernel_rfl) (by kernel_rfl) (by kernel_rfl) (by omega) (owns_base ho (Nat.zero_le _)) [.int .i64 x] (by simp) (by simp) ?_ ?_ (by simp only [maxLen,List.length_singleton]; omega) (by simp only [List.length_singleton]; omega) ?_
 ·rintro a ha j u hj
  cases ha
  rw [add_none]
  exact hcell j u hj
 ·intro u hu
  simp only [List.mem_singleton] at hu
  subst hu; rfl
 ·intro v' w' ho' hg hv
  have hbl:∀ i,v.ownBlock = some i → B ≤ i:=fun i hi=>(owns_own ho hi).2.1
  refine k v' w' ?_ ((Below.refl B w).grown hg hB hbl)
  have e1:(l ++ [x]).length = l.length + [x].length:=by simp
  have e2:flat intC (l ++ [x]) = flat intC l ++ [Value.int .i64 x]:=by rw [flat_int,flat_int]; simp
  show w'.ownsRow B 3 1 v' (l ++ [x]).length (flat intC (l ++ [x]))
  rw [e1,e2]
  exact owns_up ho' (fun i hi=>(hv i hi).elim (hbl i) (fun h=>Nat.le_trans hB h))
theorem sz_ints (w:World):(sizeOf 24).run Tryz.prog w = .ok 1 w:=by kernel_rfl
abbrev FrG (g:Nat) (w w':World):Prop:=Fr (fun i=>i = g) w w'
theorem FrG.next {g:Nat} {w':World} (h:FrG g w w1) (hb:Below w1.heap.size w1 w'):FrG g w w':=
 h.trans (S':=fun _=>False) ⟨hb.os,hb.tape,hb.output,hb.size,fun i hi _=>hb.block i hi⟩ (fun _ h=>h.elim)
theorem FrG.below {g:Nat} {w':World} (h0:Below w.heap.size w w1) (h:FrG g w1 w') (hg:w.heap.size ≤ g):Below w.heap.size w w':=
 ⟨h.os.trans h0.os,h.tape.trans h0.tape,h.output.trans h0.output,Nat.le_trans h0.size h.size,fun i hi=>(h.block i (Nat.lt_of_lt_of_le hi h0.size) (fun e=>by omega)).trans (h0.block i hi)⟩
theorem cellsAre_fr {g:Nat} {w':World} (hL:cellsAre w L) (h:FrG g w w') (hn:∀ p ∈ L,p.1.block ≠ g):cellsAre w' L:=
 cellsAre_keepBut hL hn fun a ha hna=>World.cell?_of_block (w:=w) (h.block _ ha hna)
theorem _root_.Go.Sh.KnM.fr {g n g':Nat} {w':World} (hk:KnM w0 L g n w) (h:FrG g' w w') (hoff:∀ p ∈ L,p.1.block ≠ g') (hne:g ≠ g') (hb:w0.heap.size ≤ g'):KnM w0 L g n w':=by
 obtain ⟨cur,T,h1,h2⟩:=hk.mine
 exact ⟨⟨FrG.below hk.below h hb,cellsAre_fr hk.cells h hoff⟩,⟨cur,T,by rw [h.block g (mine_lt hk.mine) hne]; exact h1,h2⟩,hk.base,hk.off⟩
theorem Ints.fr {g:Nat} {w':World} {v:Value} {l:List Int} (hi:Ints w v l) (h:FrG g w w') (hne:∀ i,Value.inBlock v = some i → i ≠ g):Ints w' v l:=
 ⟨hi.row.keep h.size (fun i e hlt=>h.block i hlt (hne i e)),hi.rng,hi.len⟩
theorem sz_stp (w:World):(sizeOf 26).run Tryz.prog w = .ok 5 w:=by kernel_rfl
theorem al_stp (w:World):(Instr.alloc 26 true (.tuple #[])).run Tryz.prog w = .ok (.pointer (some ⟨w.heap.size,0,none⟩)) (w.alloc (.cells [.int .i64 0,.int .i64 0,.int .i64 0,.slice none 0 0,.int .i64 0].toArray 26)):=by kernel_rfl
theorem local_stp {K:Value → World → Prop} {T' T2:TypeId} (s:Stp) (ad:Option Addr) (m c:Nat) (hk:Kn w0 L w)
  (k:∀ b W,Kn w0 (cellsOf L b 0 (stpC s (.slice ad m c))) W → Below w.heap.size w W → w.heap.size ≤ b → K (.pointer (some ⟨b,0,none⟩)) W) :
  oM Tryz.prog (.alloc 26) T' [] (fun v w=>oM Tryz.prog (.store 26 (.tmp 0) (.tmp 1)) T2 [v,stpV s (.slice ad m c)] (fun _ w=>K v w) w) w:=
 local_kn al_stp rfl sz_stp rfl rfl (stp_one s ad m c) hk k
theorem i64lit {n:Int} (h:-9223372036854775808 ≤ n ∧ n < 9223372036854775808:=by decide):I64 n:=h
@[reducible] def x0:Spd:=⟨2,[9,9,4]⟩
@[reducible] def y0:Spd:=⟨5,[10,3,0]⟩
@[reducible] def z0:Spd:=⟨3,[9,9,4]⟩
def NuJ (n R:Int) (d:List UInt8) (w0:World) (l:List Value) (w':World):Prop:=Below w0.heap.size w0 w' ∧ ∃ (v:Value) (o:Int) (i:Nat),l = [v,.int .i64 o,.int .i64 (i:Int)] ∧ i ≤ d.length ∧ (d.drop i).foldl (numStep n) o = R
theorem Number_ok (s:List UInt8) (n:Int) (hs:s.length ≤ 1000000000) (k:∀ w',Below w.heap.size w w' → K (.int .i64 (numberM s n)) w'):callM Tryz.prog 159 #[.string ⟨s.toArray⟩,.int .i64 n] K w:=by
 apply sh_159_ok
 unfold sh_159
 unfold numberM at k
 refine valid_ok n ?_
 by_cases hn:okN n
 ·rw [if_pos hn] at k
  repeat (any_goals (first
  | (with_reducible refine yR ?_)
  | ((with_reducible refine oM_gen fun Kv hK=>?_); simp [go_sem]; refine hK _ _ ?_; clear hK Kv)))
  refine Sha_ok s hs (fun w1 h1=>?_)
  have hl:=ShaSpec.sha_length s
  generalize ShaSpec.sha s = d at *
  refine ofStr d fun v w2 h2=>?_
  obtain ⟨g,c,rfl,hlt⟩:=h2.row.shape
  have hby:=bufByR h2.row
  have hb:=h1.on h2.below
  repeat (any_goals ((with_reducible refine oM_gen fun Kv hK=>?_); simp [go_sem]; refine hK _ _ ?_; clear hK Kv))
  refine ⟨NuJ n (d.foldl (numStep n) 0) d w2,vsMu d.length,⟨Below.refl _ _,_,_,0,rfl,by omega,rfl⟩,?_⟩
  rintro _ _ w3 ⟨h3,v,o,i,rfl,hi,hf⟩
  by_cases hin:i < d.length
  ·have hc:=(hby.next h3).2 i hin
   rw [Nat.zero_add] at hc
   have e1:d[i]?.getD 0 = d[i]:=by simp [hin]
   have hu:=(d[i]).toNat_lt
   rw [List.getD_eq_getElem?_getD,e1] at hc
   repeat (any_goals (first
   | (with_reducible refine yN ?_)
   | ((with_reducible refine oM_gen fun Kv hK=>?_); simp [go_sem,hc]; (first|refine hK _ _ ?_|refine And.intro (by omega) (hK _ _ ?_)); clear hK Kv)))
   refine Mul_ok n o 256 (fun w4 h4=>?_)
   repeat (any_goals ((with_reducible refine oM_gen fun Kv hK=>?_); simp [go_sem]; (try simp (disch:=omega) only [wrapI64,wrapU8,wrapU32,wrapU64]); refine hK _ _ ?_; clear hK Kv))
   refine Add_ok n _ _ ?_
   repeat (any_goals ((with_reducible refine oM_gen fun Kv hK=>?_); simp [go_sem]; (try simp (disch:=omega) only [wrapI64,wrapU8,wrapU32,wrapU64]); refine hK _ _ ?_; clear hK Kv))
   rw [List.drop_eq_getElem_cons hin,List.foldl_cons] at hf
   refine ⟨⟨h3.on h4,_,_,i + 1,rfl,by omega,hf⟩,?_⟩
   simp only [vsMu_eq]; omega
  ·rw [List.drop_of_length_le (by omega),List.foldl_nil] at hf
   repeat (any_goals (first
   | (with_reducible refine yO ?_)
   | ((with_reducible refine oM_gen fun Kv hK=>?_); simp [go_sem]; refine hK _ _ ?_; clear hK Kv)))
   rw [hf]
   exact k _ (hb.on h3)
 ·rw [if_neg hn] at k
  repeat (any_goals (first
  | (with_reducible refine yQ ?_)
  | ((with_reducible refine oM_gen fun Kv hK=>?_); simp [go_sem]; refine hK _ _ ?_; clear hK Kv)))
  exact k _ (Below.refl _ _)
structure GrI (Wl w:World) (g:Nat) (T:TypeId) (cs:List Value) (ov:Value) (l:List Int):Prop where
 lt:g < Wl.heap.size
 fr:FrG g Wl w
 own:OwnI w Wl.heap.size ov l
 holds:Holds w g T cs
theorem GrI.next {Wl w1:World} {g:Nat} {T:TypeId} {cs:List Value} {ov:Value} {l:List Int} (h:GrI Wl w g T cs ov l) (hb:Below w.heap.size w w1):GrI Wl w1 g T cs ov l:=
 ⟨h.lt,h.fr.next hb,h.own.keep hb,h.holds.next hb⟩
theorem GrI.start {g:Nat} {T:TypeId} {cs:List Value} (hg:g < w.heap.size) (hh:Holds w g T cs):GrI w w g T cs (.slice none 0 0) []:=⟨hg,Fr.refl _ _,World.ownsRow_nil _ _ _ _,hh⟩
def grMu (n:Nat) (l:List Value) (_:World):Nat:=match l with | [_,.int _ i]=>n - i.toNat | _=>0
theorem grMu_eq (n:Nat) (u:Value) (k:IntKind) (i:Int) (w:World):grMu n [u,.int k i] w = n - i.toNat:=rfl
@[reducible] def mirV (m:Mir) (v:Value):Value:=.agg #[v,.int .i64 m.blind]
@[reducible] def mirC (m:Mir) (v:Value):List Value:=[v,.int .i64 m.blind]
structure MirR (w:World) (m:Mir) (v:Value):Prop where
 ints:Ints w v m.bases
 blind:I64 m.blind
theorem MirR.next {w1:World} {m:Mir} {v:Value} (h:MirR w m v) (hb:Below w.heap.size w w1):MirR w1 m v:=⟨h.ints.next hb,h.blind⟩
@[reducible] def zS:Stp:=⟨⟨0,0,0⟩,[],0⟩
theorem store_stp {K:Value → World → Prop} {T':TypeId} {g:Nat} (s:Stp) (ad:Option Addr) (n c:Nat) (hk:KnM w0 L g 5 w)
  (k:∀ W,KnM w0 L g 5 W → cellsAre W (cellsOf [] g 0 (stpC s (.slice ad n c))) → w.grownBy W (some g) → K undef W):oM Tryz.prog (.store 26 (.tmp 0) (.tmp 1)) T' [.pointer (some ⟨g,0,none⟩),stpV s (.slice ad n c)] K w:=by
 obtain ⟨W,e,hg,hm,hc⟩:=store_run (P:=Tryz.prog) (W:=w) sz_stp (x:=stpV s (.slice ad n c)) rfl rfl (stp_one s ad n c) hk.mine
 rw [oM_store,e]
 exact k W ⟨hk.kn.wrote hg hk.base hk.off,hm,hk.base,hk.off⟩ hc hg
end
end Go.Proofs
namespace Go.Proofs.Cd
open Go Go.Sh Go.RowKit Go.Lib CodeSpec
theorem pText_ok (s:List UInt8) (hs:s.length < 2^60) {K:Value → World → Prop} {w:World} (hl:Laid w) (k:∀ w',Below w.heap.size w w' → K (.string ⟨(encText s).toArray⟩) w'):callM Tryz.prog 160 #[.string ⟨s.toArray⟩] K w:=by
 apply sh_160_ok
 unfold sh_160
 have hin:InR (s.length:Nat):=⟨by omega,by omega⟩
 have hi:=itoa_len _ hin
 repeat (any_goals ((with_reducible refine oM_gen fun Kv hK=>?_); simp [go_sem]; refine hK _ _ ?_; clear hK Kv))
 refine itoa_ok _ hin hl (fun w1 hb1=>?_)
 repeat (any_goals ((with_reducible refine oM_gen fun Kv hK=>?_); simp [go_sem]; refine And.intro (by omega) (hK _ _ ?_); clear hK Kv))
 exact K_eq (k _ hb1) (by simp [encText])
end Go.Proofs.Cd
namespace Go.Proofs
open Go Go.Sh Go.RowKit FdSpec TkSpec CodeSpec PrSpec
structure SRow {α:Type} (n:Nat) (At:World → Nat → Nat → α → Prop) (w:World) (v:Value) (l:List α):Prop where
 row:∃ ad c,v = .slice ad l.length c ∧ (l = [] ∨ ∃ b o,ad = some ⟨b,o,none⟩ ∧ b < w.heap.size ∧ ∀ (i:Nat) (h:i < l.length),At w b (o + i * n) l[i])
 len:l.length ≤ 9223372036854775807
def Stay {α:Type} (At:World → Nat → Nat → α → Prop):Prop:=∀ (w w':World) (b p:Nat) (x:α),At w b p x → b < w.heap.size → Below w.heap.size w w' → At w' b p x
section
variable {α:Type} {n:Nat} {At:World → Nat → Nat → α → Prop} {w w':World} {v:Value} {l:List α}
theorem SRow.next (h:SRow n At w v l) (hs:Stay At) (hb:Below w.heap.size w w'):SRow n At w' v l:=by
 obtain ⟨⟨ad,c,rfl,h1⟩,h2⟩:=h
 refine ⟨⟨ad,c,rfl,h1.imp id ?_⟩,h2⟩
 rintro ⟨b,o,rfl,hlt,hc⟩
 exact ⟨b,o,rfl,Nat.lt_of_lt_of_le hlt hb.size,fun i hi=>hs _ _ _ _ _ (hc i hi) hlt hb⟩
theorem SRow.isSlice (h:SRow n At w v l):∃ ad c,v = .slice ad l.length c:=by
 obtain ⟨⟨ad,c,rfl,_⟩,_⟩:=h; exact ⟨ad,c,rfl⟩
theorem SRow.at {ad:Option Addr} {m c:Nat} (h:SRow n At w (.slice ad m c) l) {i:Nat} (hi:i < l.length):∃ b o,ad = some ⟨b,o,none⟩ ∧ b < w.heap.size ∧ At w b (o + i * n) l[i]:=by
 obtain ⟨⟨ad',c',hv,h1⟩,_⟩:=h
 cases hv
 rcases h1 with rfl | ⟨b,o,rfl,hlt,hc⟩
 ·simp at hi
 ·exact ⟨b,o,rfl,hlt,hc i hi⟩
end
theorem idx_row {P:Program} {K:Value → World → Prop} {n:Nat} (t T:TypeId) (hu:P.underlying t = some (.slice (P.elem t))) (hs:∀ w,(sizeOf (P.elem t)).run P w = .ok n w) (b o m c:Nat) (x:Int) :
  oM P (.indexAddr t (.tmp 0) (.tmp 1)) T [.slice (some ⟨b,o,none⟩) m c,.int .i64 x] = onM (0 ≤ x ∧ x < m) (.pointer (some ⟨b,o + x.toNat * n,none⟩)):=by
 funext K w
 rw [oM_indexAddr,run_indexAt_slice (h:=hu)]
 by_cases hi:0 ≤ x ∧ x < m
 ·rw [if_pos hi,hs]
  simp only [Result.andThen,add_none,rM_ok]
  exact propext ⟨fun h=>⟨hi,h⟩,fun h=>h.2⟩
 ·rw [if_neg hi]
  obtain ⟨e',w',he⟩:=halts Value P .i64 x m .index w
  rw [he]
  exact propext ⟨fun h=>h.elim,fun h=>hi h.1⟩
@[reducible] def trmC (t:Trm):List Value:=[.int .i64 t.var,.int .i64 t.base]
@[reducible] def trmV (t:Trm):Value:=.agg #[.int .i64 t.var,.int .i64 t.base]
@[reducible] def eqnC (e:Eqn) (v:Value):List Value:=[.int .i64 e.target,v]
@[reducible] def eqnV (e:Eqn) (v:Value):Value:=.agg #[.int .i64 e.target,v]
@[reducible] def clmC (c:Clm) (v:Value):List Value:=[.int .i64 c.vars,v]
@[reducible] def clmV (c:Clm) (v:Value):Value:=.agg #[.int .i64 c.vars,v]
def TrmAt (w:World) (b p:Nat) (t:Trm):Prop:=w.cell? ⟨b,p,none⟩ = some (.int .i64 t.var) ∧ w.cell? ⟨b,p + 1,none⟩ = some (.int .i64 t.base) ∧ I64 t.var ∧ I64 t.base
theorem trm_stay:Stay TrmAt:=fun w w' b p x h hlt hb=>by
 have e:∀ k,w'.cell? ⟨b,k,none⟩ = w.cell? ⟨b,k,none⟩:=fun k=>by rw [hb.cell hlt]
 unfold TrmAt at h ⊢
 simp only [e]
 exact h
def EqnAt (w:World) (b p:Nat) (e:Eqn):Prop:=∃ v,w.cell? ⟨b,p,none⟩ = some (.int .i64 e.target) ∧ w.cell? ⟨b,p + 1,none⟩ = some v ∧ SRow 2 TrmAt w v e.terms ∧ I64 e.target
theorem eqn_stay:Stay EqnAt:=fun w w' b p x h hlt hb=>by
 have e:∀ k,w'.cell? ⟨b,k,none⟩ = w.cell? ⟨b,k,none⟩:=fun k=>by rw [hb.cell hlt]
 obtain ⟨v,h1,h2,h3,h4⟩:=h
 exact ⟨v,by rw [e]; exact h1,by rw [e]; exact h2,h3.next trm_stay hb,h4⟩
structure ClmR (w:World) (c:Clm) (v:Value):Prop where
 vars:I64 c.vars
 eqs:SRow 2 EqnAt w v c.eqs
theorem ClmR.next {w w':World} {c:Clm} {v:Value} (h:ClmR w c v) (hb:Below w.heap.size w w'):ClmR w' c v:=⟨h.vars,h.eqs.next eqn_stay hb⟩
@[go_sem] theorem idx_trm (T:TypeId) (b o n c:Nat) (x:Int):oM Tryz.prog (.indexAddr 142 (.tmp 0) (.tmp 1)) T [.slice (some ⟨b,o,none⟩) n c,.int .i64 x] = onM (0 ≤ x ∧ x < n) (.pointer (some ⟨b,o + x.toNat * 2,none⟩)):=
 idx_row (K:=fun _ _=>True) _ T (by kernel_rfl) (fun w=>by kernel_rfl) b o n c x
@[go_sem] theorem idx_eqn (T:TypeId) (b o n c:Nat) (x:Int):oM Tryz.prog (.indexAddr 67 (.tmp 0) (.tmp 1)) T [.slice (some ⟨b,o,none⟩) n c,.int .i64 x] = onM (0 ≤ x ∧ x < n) (.pointer (some ⟨b,o + x.toNat * 2,none⟩)):=
 idx_row (K:=fun _ _=>True) _ T (by kernel_rfl) (fun w=>by kernel_rfl) b o n c x
theorem sz_trm (w:World):(sizeOf 146).run Tryz.prog w = .ok 2 w:=by kernel_rfl
theorem al_trm (w:World):(Instr.alloc 146 true (.tuple #[])).run Tryz.prog w = .ok (.pointer (some ⟨w.heap.size,0,none⟩)) (w.alloc (.cells [.int .i64 0,.int .i64 0].toArray 146)):=by kernel_rfl
theorem trm_one (t:Trm):∀ u ∈ trmC t,u.oneCell' = true:=by
 intro u hu
 simp only [trmC,List.mem_cons,List.not_mem_nil,or_false] at hu
 rcases hu with rfl | rfl <;> rfl
theorem sz_eqn (w:World):(sizeOf 144).run Tryz.prog w = .ok 2 w:=by kernel_rfl
theorem al_eqn (w:World):(Instr.alloc 144 true (.tuple #[])).run Tryz.prog w = .ok (.pointer (some ⟨w.heap.size,0,none⟩)) (w.alloc (.cells [.int .i64 0,.slice none 0 0].toArray 144)):=by kernel_rfl
theorem eqn_one (e:Eqn) (ad:Option Addr) (n c:Nat):∀ u ∈ eqnC e (.slice ad n c),u.oneCell' = true:=by
 intro u hu
 simp only [eqnC,List.mem_cons,List.not_mem_nil,or_false] at hu
 rcases hu with rfl | rfl <;> rfl
section
variable {K:Value → World → Prop} {w w0:World} {L:List (Addr × Value)}
theorem local_trm {K:Value → World → Prop} {T' T2:TypeId} (t:Trm) (hk:Kn w0 L w)
  (k:∀ b W,Kn w0 (cellsOf L b 0 (trmC t)) W → Below w.heap.size w W → w.heap.size ≤ b → K (.pointer (some ⟨b,0,none⟩)) W) :
  oM Tryz.prog (.alloc 146) T' [] (fun v w=>oM Tryz.prog (.store 146 (.tmp 0) (.tmp 1)) T2 [v,trmV t] (fun _ w=>K v w) w) w:=
 local_kn al_trm rfl sz_trm rfl rfl (trm_one t) hk k
theorem local_eqn {K:Value → World → Prop} {T' T2:TypeId} (e:Eqn) (ad:Option Addr) (m c:Nat) (hk:Kn w0 L w)
  (k:∀ b W,Kn w0 (cellsOf L b 0 (eqnC e (.slice ad m c))) W → Below w.heap.size w W → w.heap.size ≤ b → K (.pointer (some ⟨b,0,none⟩)) W) :
  oM Tryz.prog (.alloc 144) T' [] (fun v w=>oM Tryz.prog (.store 144 (.tmp 0) (.tmp 1)) T2 [v,eqnV e (.slice ad m c)] (fun _ w=>K v w) w) w:=
 local_kn al_eqn rfl sz_eqn rfl rfl (eqn_one e ad m c) hk k
def AlJ {α:Type} (w0:World) (L:List (Addr × Value)) (p:α → Bool) (l:List α) (R:Bool) (vs:List Value) (w':World):Prop:=Kn w0 L w' ∧ ∃ (u:Value) (i:Nat),vs = [u,.int .i64 (i:Int)] ∧ i ≤ l.length ∧ (l.drop i).all p = R
abbrev AlJk {α:Type} {w0 w':World} {L:List (Addr × Value)} (_:Kn w0 L w') (p:α → Bool) (l:List α) (R:Bool):List Value → World → Prop:=AlJ w0 L p l R
theorem exponent_ok (s:Stp) (n:Int) {v:Value} (hs:SetR w s v) (k:∀ w',Below w.heap.size w w' → K (.bool (exponentM s n)) w'):callM Tryz.prog 127 #[stpV s v,.int .i64 n] K w:=by
 apply sh_127_ok
 unfold sh_127
 obtain ⟨ad,c,rfl⟩:=hs.ints.isSlice
 refine box_kn (cs:=stpC s (.slice ad s.bases.length c)) rfl (.start w) fun b1 W hk hb1 hbb=>?_
 unfold exponentM at k
 by_cases h:0 ≤ n
 ·rw [decide_eq_true h,Bool.true_and] at k
  repeat (any_goals (first
  | (with_reducible first|refine pureM_in ?_|refine zA ?_|refine yB ?_)
  | ((with_reducible refine oM_gen fun Kv hK=>?_); simp [go_sem,hk.cells,h]; refine hK _ _ ?_; clear hK Kv)))
  exact k _ hk.below
 ·rw [decide_eq_false h,Bool.false_and] at k
  repeat (any_goals (first
  | (with_reducible first|refine zB ?_|refine yC ?_)
  | ((with_reducible refine oM_gen fun Kv hK=>?_); simp [go_sem,hk.cells,h]; refine hK _ _ ?_; clear hK Kv)))
  exact k _ hk.below
theorem exponents_ok (s:Stp) (n:Int) {v lv:Value} {l:List Int} (hs:SetR w s v) (hl:Ints w lv l) (k:∀ w',Below w.heap.size w w' → K (.bool (exponentsM s l n)) w'):callM Tryz.prog 140 #[stpV s v,lv,.int .i64 n] K w:=by
 apply sh_140_ok
 unfold sh_140
 have hs':=hs
 obtain ⟨ad,c,rfl⟩:=hs.ints.isSlice
 have hl':=hl
 obtain ⟨lad,lc,rfl⟩:=hl.isSlice
 refine box_kn (cs:=stpC s (.slice ad s.bases.length c)) rfl (.start w) fun b1 W hk hb1 hbb=>?_
 unfold exponentsM at k
 by_cases h:(l.length:Int) = n
 ·rw [decide_eq_true h,Bool.true_and] at k
  repeat (any_goals (first
  | (with_reducible first|refine pureM_in ?_|refine zA ?_)
  | ((with_reducible refine oM_gen fun Kv hK=>?_); simp [go_sem,hk.cells,h]; refine hK _ _ ?_; clear hK Kv)))
  refine ContainsFunc_ok (fun x=>!exponentM s x) (hl'.next hk.below) ?_ ?_
  ·intro w' x K' T hb hx h'
   refine oM_callv1 (by kernel_rfl) ?_
   have hk:=hk.next hb
   apply sh_187_ok
   unfold sh_187
   repeat (any_goals ((with_reducible refine oM_gen fun Kv hK=>?_); simp [go_sem,hk.cells]; refine hK _ _ ?_; clear hK Kv))
   refine exponent_ok s x (hs'.next hk.below) (fun w2 h2=>?_)
   repeat (any_goals ((with_reducible refine oM_gen fun Kv hK=>?_); simp [go_sem]; refine hK _ _ ?_; clear hK Kv))
   exact h' _ h2
  ·intro w3 h3
   have hk:=hk.next h3
   generalize (l.any fun x=>!exponentM s x) = q at *
   repeat (any_goals (first
   | (with_reducible first|refine zA ?_|refine yB ?_)
   | ((with_reducible refine oM_gen fun Kv hK=>?_); simp [go_sem]; refine hK _ _ ?_; clear hK Kv)))
   exact k _ hk.below
 ·rw [decide_eq_false h,Bool.false_and] at k
  repeat (any_goals (first
  | (with_reducible first|refine zB ?_|refine yC ?_)
  | ((with_reducible refine oM_gen fun Kv hK=>?_); simp [go_sem,hk.cells,h]; refine hK _ _ ?_; clear hK Kv)))
  exact k _ hk.below
theorem validClaim_ok (s:Stp) (c:Clm) {v cv:Value} (hs:SetR w s v) (hc:ClmR w c cv) (k:∀ w',Below w.heap.size w w' → K (.bool (claimM s c)) w'):callM Tryz.prog 112 #[stpV s v,clmV c cv] K w:=by
 apply sh_112_ok
 unfold sh_112
 have hs':=hs
 have hc':=hc
 obtain ⟨ad,ca,rfl⟩:=hs.ints.isSlice
 obtain ⟨ead,ec,rfl⟩:=hc.eqs.isSlice
 refine box_kn (cs:=stpC s (.slice ad s.bases.length ca)) rfl (.start w) fun b1 W1 hk hb1 hbb=>?_
 refine box_kn (cs:=clmC c (.slice ead c.eqs.length ec)) rfl hk fun b2 W2 hk hb2 hbb=>?_
 clear hb1 hb2 hbb
 have eC:claimM s c = (decide (0 ≤ c.vars) && decide (c.vars ≤ 120) && decide (1 ≤ c.eqs.length) && decide (c.eqs.length ≤ 60) && c.eqs.all (eqnFine s c.vars)):=rfl
 by_cases h1:c.vars < 0
 ·rw [decide_eq_false (by omega),Bool.false_and,Bool.false_and,Bool.false_and,Bool.false_and] at eC
  rw [eC] at k
  repeat (any_goals (first
  | (with_reducible first|refine zD ?_|refine yB ?_|refine yL ?_)
  | ((with_reducible refine oM_gen fun Kv hK=>?_); simp [go_sem,hk.cells,h1]; refine hK _ _ ?_; clear hK Kv)))
  exact k _ hk.below
 by_cases h2:120 < c.vars
 ·rw [decide_eq_false (by omega:¬ c.vars ≤ 120),Bool.and_false,Bool.false_and,Bool.false_and,Bool.false_and] at eC
  rw [eC] at k
  repeat (any_goals (first
  | (with_reducible first|((refine idGd ?_); first|refine zC ?_|refine zD ?_)|((refine idPick ?_); first|refine yB ?_|refine yC ?_)|refine yL ?_)
  | ((with_reducible refine oM_gen fun Kv hK=>?_); simp [go_sem,hk.cells,h1,h2]; refine hK _ _ ?_; clear hK Kv)))
  exact k _ hk.below
 by_cases h3:(c.eqs.length:Int) < 1
 ·rw [decide_eq_false (by omega:¬ 1 ≤ c.eqs.length),Bool.and_false,Bool.false_and,Bool.false_and] at eC
  rw [eC] at k
  repeat (any_goals (first
  | (with_reducible first|((refine idGd ?_); first|refine zC ?_|refine zD ?_)|((refine idPick ?_); first|refine yB ?_|refine yC ?_)|refine yL ?_)
  | ((with_reducible refine oM_gen fun Kv hK=>?_); simp [go_sem,hk.cells,h1,h2,h3]; refine hK _ _ ?_; clear hK Kv)))
  exact k _ hk.below
 by_cases h4:(60:Int) < c.eqs.length
 ·rw [decide_eq_false (by omega:¬ c.eqs.length ≤ 60),Bool.and_false,Bool.false_and] at eC
  rw [eC] at k
  repeat (any_goals (first
  | (with_reducible first|refine zC ?_|refine yC ?_|refine yL ?_)
  | ((with_reducible refine oM_gen fun Kv hK=>?_); simp [go_sem,hk.cells,h1,h2,h3,h4]; refine hK _ _ ?_; clear hK Kv)))
  exact k _ hk.below
 rw [decide_eq_true (by omega),decide_eq_true (by omega:c.vars ≤ 120),decide_eq_true (by omega:1 ≤ c.eqs.length),decide_eq_true (by omega:c.eqs.length ≤ 60)] at eC
 simp only [Bool.true_and] at eC
 rw [eC] at k
 clear eC
 repeat (any_goals (first
 | (with_reducible first|refine zC ?_|refine yC ?_|refine yM ?_)
 | ((with_reducible refine oM_gen fun Kv hK=>?_); simp [go_sem,hk.cells,h1,h2,h3,h4]; refine hK _ _ ?_; clear hK Kv)))
 refine ⟨AlJk hk (eqnFine s c.vars) c.eqs (c.eqs.all (eqnFine s c.vars)),grMu c.eqs.length,⟨hk,_,0,rfl,by omega,by rw [List.drop_zero]⟩,?_⟩
 generalize c.eqs.all (eqnFine s c.vars) = R at *
 rintro _ _ w3 ⟨hk,u,i,rfl,hi,ha⟩
 by_cases hin:i = c.eqs.length
 ·rw [List.drop_of_length_le (by omega),List.all_nil] at ha
  repeat (any_goals (first
  | (with_reducible refine yO ?_)
  | ((with_reducible refine oM_gen fun Kv hK=>?_); simp [go_sem]; refine hK _ _ ?_; clear hK Kv)))
  rw [ha]
  exact k _ hk.below
 rw [List.drop_eq_getElem_cons (by omega),List.all_cons] at ha
 obtain ⟨b3,o3,rfl,hb3,tv,c0,c1,htr,hti⟩:=(hc'.eqs.next eqn_stay hk.below).at (i:=i) (by omega)
 generalize c.eqs[i] = e at *
 obtain ⟨tad,tc,rfl⟩:=htr.isSlice
 repeat (any_goals (first
 | ((with_reducible refine local_eqn e tad e.terms.length tc hk ?_); intro g13 W13 hk hb13 hg13)
 | (with_reducible refine yN ?_)
 | ((with_reducible refine oM_gen fun Kv hK=>?_); simp [go_sem,c0,c1]; (first|refine hK _ _ ?_|refine And.intro (by omega) (hK _ _ ?_)); clear hK Kv)))
 have htr:=htr.next trm_stay hb13
 clear hb13 c0 c1
 repeat (any_goals ((with_reducible refine oM_gen fun Kv hK=>?_); simp [go_sem,hk.cells]; refine hK _ _ ?_; clear hK Kv))
 refine Element_ok s.g e.target hs'.grp (hs'.db.next hk.below) (fun w4 h4=>?_)
 have hk:=hk.next h4
 have htr:=htr.next trm_stay h4
 clear h4
 have eE:eqnFine s c.vars e = (elemG s.g e.target && decide (e.terms.length ≤ 80) && e.terms.all (trmFine s c.vars)):=rfl
 cases hel:elemG s.g e.target with
 | false=>
  rw [hel,Bool.false_and,Bool.false_and] at eE
  rw [eE,Bool.false_and] at ha
  repeat (any_goals (first
  | (with_reducible first|refine zD ?_|refine yB ?_|refine yL ?_)
  | ((with_reducible refine oM_gen fun Kv hK=>?_); simp [go_sem,hk.cells]; refine hK _ _ ?_; clear hK Kv)))
  rw [ha]
  exact k _ hk.below
 | true=>
 rw [hel,Bool.true_and] at eE
 by_cases h8:(80:Int) < e.terms.length
 ·rw [decide_eq_false (by omega:¬ e.terms.length ≤ 80),Bool.false_and] at eE
  rw [eE,Bool.false_and] at ha
  repeat (any_goals (first
  | (with_reducible first|refine zC ?_|refine yC ?_|refine yL ?_)
  | ((with_reducible refine oM_gen fun Kv hK=>?_); simp [go_sem,hk.cells,h8]; refine hK _ _ ?_; clear hK Kv)))
  rw [ha]
  exact k _ hk.below
 rw [decide_eq_true (by omega:e.terms.length ≤ 80),Bool.true_and] at eE
 rw [eE] at ha
 clear eE
 have htl:=htr.len
 repeat (any_goals (first
 | (with_reducible first|refine zC ?_|refine yC ?_|refine yM ?_)
 | ((with_reducible refine oM_gen fun Kv hK=>?_); simp [go_sem,hk.cells,h8]; refine hK _ _ ?_; clear hK Kv)))
 have hkk:=hk
 have htw:Kn w4 _ w4:=⟨Below.refl _ _,hk.cells⟩
 refine ⟨AlJk htw (trmFine s c.vars) e.terms (e.terms.all (trmFine s c.vars)),grMu e.terms.length,⟨htw,_,0,rfl,by omega,by rw [List.drop_zero]⟩,?_⟩
 generalize e.terms.all (trmFine s c.vars) = R2 at *
 rintro _ _ w5 ⟨hk2,u2,j,rfl,hj,hb⟩
 have hk:Kn w _ w5:=⟨hkk.below.on hk2.below,hk2.cells⟩
 by_cases hjn:j = e.terms.length
 ·rw [List.drop_of_length_le (by omega),List.all_nil] at hb
  rw [← hb,Bool.true_and] at ha
  repeat (any_goals (first
  | (with_reducible refine yO ?_)
  | ((with_reducible refine oM_gen fun Kv hK=>?_); simp [go_sem]; (try simp (disch:=omega) only [wrapI64,wrapU8,wrapU32,wrapU64]); refine hK _ _ ?_; clear hK Kv)))
  refine ⟨⟨⟨hk.below,hk.cells.2.2⟩,_,i + 1,rfl,by omega,ha⟩,?_⟩
  simp only [grMu_eq]; omega
 rw [List.drop_eq_getElem_cons (by omega),List.all_cons] at hb
 obtain ⟨b4,o4,rfl,hb4,d0,d1,di0,di1⟩:=(htr.next trm_stay hk2.below).at (i:=j) (by omega)
 generalize e.terms[j] = t at *
 repeat (any_goals (first
 | ((with_reducible refine local_trm t hk ?_); intro g14 W14 hk hb14 hg14)
 | (with_reducible refine yN ?_)
 | ((with_reducible refine oM_gen fun Kv hK=>?_); simp [go_sem,d0,d1]; (first|refine hK _ _ ?_|refine And.intro (by omega) (hK _ _ ?_)); clear hK Kv)))
 have eT:trmFine s c.vars t = (decide (0 ≤ t.var) && decide (t.var < c.vars) && elemG s.g t.base):=rfl
 have hno:trmFine s c.vars t = false → K (.bool false) = K (.bool R):=fun h=>by
  rw [h,Bool.false_and] at hb
  rw [← hb,Bool.false_and] at ha
  rw [ha]
 by_cases g1:t.var < 0
 ·rw [decide_eq_false (by omega),Bool.false_and,Bool.false_and] at eT
  repeat (any_goals (first
  | (with_reducible first|refine zD ?_|refine yB ?_|refine yL ?_)
  | ((with_reducible refine oM_gen fun Kv hK=>?_); simp [go_sem,hk.cells,g1]; refine hK _ _ ?_; clear hK Kv)))
  rw [hno eT]
  exact k _ hk.below
 rw [decide_eq_true (by omega),Bool.true_and] at eT
 by_cases g2:c.vars ≤ t.var
 ·rw [decide_eq_false (by omega),Bool.false_and] at eT
  repeat (any_goals (first
  | (with_reducible first|((refine idGd ?_); first|refine zC ?_|refine zD ?_)|((refine idPick ?_); first|refine yB ?_|refine yC ?_)|refine yL ?_)
  | ((with_reducible refine oM_gen fun Kv hK=>?_); simp [go_sem,hk.cells,g1,g2]; refine hK _ _ ?_; clear hK Kv)))
  rw [hno eT]
  exact k _ hk.below
 rw [decide_eq_true (by omega),Bool.true_and] at eT
 repeat (any_goals (first
 | (with_reducible first|refine zC ?_|refine yC ?_)
 | ((with_reducible refine oM_gen fun Kv hK=>?_); simp [go_sem,hk.cells,g1,g2]; refine hK _ _ ?_; clear hK Kv)))
 refine Element_ok s.g t.base hs'.grp (hs'.db.next hk.below) (fun w6 h6=>?_)
 have hk:=hk.next h6
 cases hel2:elemG s.g t.base with
 | false=>
  rw [hel2] at eT
  repeat (any_goals (first
  | (with_reducible first|refine zC ?_|refine yC ?_|refine yL ?_)
  | ((with_reducible refine oM_gen fun Kv hK=>?_); simp [go_sem,hk.cells]; refine hK _ _ ?_; clear hK Kv)))
  rw [hno eT]
  exact k _ hk.below
 | true=>
 rw [hel2] at eT
 rw [eT,Bool.true_and] at hb
 repeat (any_goals (first
 | (with_reducible first|refine zC ?_|refine yC ?_|refine yM ?_)
 | ((with_reducible refine oM_gen fun Kv hK=>?_); simp [go_sem,hk.cells]; (try simp (disch:=omega) only [wrapI64,wrapU8,wrapU32,wrapU64]); refine hK _ _ ?_; clear hK Kv)))
 refine ⟨⟨⟨hk2.below.on (hb14.on h6),hk.cells.2.2⟩,_,j + 1,rfl,by omega,hb⟩,?_⟩
 simp only [grMu_eq]; omega
end
end Go.Proofs
namespace Go.Proofs
open Go Go.Sh Go.RowKit FdSpec TkSpec CodeSpec PrSpec
section
variable {K:Value → World → Prop} {w w0:World} {L:List (Addr × Value)}
theorem take_snoc' {al:List Int} {i:Nat} {x:Int} (h:al[i]? = some x):al.take i ++ [x] = al.take (i + 1):=by
 rw [List.take_add_one,h]; rfl
theorem append1g {B:Nat} {T:TypeId} {v xv:Value} {l:List Int} {x:Int} (ho:OwnI w B v l) (hB:B ≤ w.heap.size) (hx:Ints w xv [x]) (hl:l.length < 1099511627776)
  (k:∀ v' w',OwnI w' B v' (l ++ [x]) → w.grownBy w' v.ownBlock → (∀ i,v'.ownBlock = some i → v.ownBlock = some i ∨ w.heap.size ≤ i) → K v' w'):oM Tryz.prog (.call { callee:=.builtin .append,args:=#[.tmp 0,.tmp 1],argTypes:=#[24,24] }) T [v,xv] K w:=by
 obtain ⟨⟨ad,c,rfl,h0,hc⟩,hr,_⟩:=hx
 have hc:=hc.resolve_left (by simp)
 obtain ⟨b,o,rfl,hlt,hcell⟩:=hc
 refine append_at 24 T 3 ((Tryz.prog.info? 3).getD default) (.int .i64 0) 1 8 (by kernel_rfl) (by kernel_rfl) (by kernel_rfl) (by kernel_rfl) (by kernel_rfl) (by kernel_rfl) (by omega) (owns_base ho (Nat.zero_le _)) [.int .i64 x] (by simp) (by simp) ?_ ?_ (by simp only [maxLen,List.length_singleton]; omega) (by simp only [List.length_singleton]; omega) ?_
 ·rintro a ha j u hj
  cases ha
  rw [add_none]
  exact hcell j u hj
 ·intro u hu
  simp only [List.mem_singleton] at hu
  subst hu; rfl
 ·intro v' w' ho' hg hv
  have hbl:∀ i,v.ownBlock = some i → B ≤ i:=fun i hi=>(owns_own ho hi).2.1
  refine k v' w' ?_ hg hv
  have e1:(l ++ [x]).length = l.length + [x].length:=by simp
  have e2:flat intC (l ++ [x]) = flat intC l ++ [Value.int .i64 x]:=by rw [flat_int,flat_int]; simp
  show w'.ownsRow B 3 1 v' (l ++ [x]).length (flat intC (l ++ [x]))
  rw [e1,e2]
  exact owns_up ho' (fun i hi=>(hv i hi).elim (hbl i) (fun h=>Nat.le_trans hB h))
theorem cells_fr {S:Nat → Prop} {W:World}:∀ {L:List (Addr × Value)},cellsAre w L → Fr S w W → (∀ p ∈ L,p.1.block < w.heap.size ∧ ¬ S p.1.block) → cellsAre W L
 | [],_,_,_=>trivial
 | p :: L,hL,h,hn=>by
  obtain ⟨h0,h1⟩:=hn p (by simp)
  exact ⟨(World.cell?_of_block (h.block _ h0 h1)).trans hL.1,cells_fr hL.2 h (fun q hq=>hn q (by simp [hq]))⟩
theorem own_none {B:Nat}:OwnI w B (.slice none 0 0) []:=⟨rfl,.inl ⟨rfl,rfl⟩⟩
def apart (u v:Value):Prop:=∀ i,u.ownBlock = some i → v.ownBlock ≠ some i
theorem mk1g {T:TypeId} (x:Int) (hx:I64 x) (k:∀ v W,Below w.heap.size w W → Ints W v [x] → Value.inBlock v = some w.heap.size → K v W):oM Tryz.prog (.buildSlice 24 1 #[(0,.tmp 0)]) T [.int .i64 x] K w:=by
 rw [oM_buildSlice1]
 have e:(Instr.buildSlice 24 1 #[(0,.int .i64 x)]).run Tryz.prog w = .ok (.slice (some ⟨w.heap.size,0,none⟩) 1 1) (w.alloc (.cells #[.int .i64 x] 3)):=by kernel_rfl
 rw [e]
 exact k _ _ ((Below.refl _ w).alloc (Nat.le_refl _) _) (ints_alloc w [x] _ 1 (by simpa using hx) (by simp)) rfl
theorem ints_grown {w':World} {v:Value} {l:List Int} {b:Option Nat} (h:Ints w v l) (hg:w.grownBy w' b) (hne:∀ i,Value.inBlock v = some i → b ≠ some i):Ints w' v l:=
 ⟨h.row.keep hg.size (fun i e hlt=>hg.block i hlt (fun e2=>hne i e (by first | exact e2 | exact e2.symm))),h.rng,h.len⟩
structure Two (B:Nat) (W:World) (bv xv:Value) (w:World) (bv' xv':Value) (bs es:List Int):Prop where
 fr:Fr (fun i=>bv.ownBlock = some i ∨ xv.ownBlock = some i) W w
 ob:OwnI w B bv' bs
 oe:OwnI w B xv' es
 ap:apart bv' xv'
 lb:∀ i,bv'.ownBlock = some i → bv.ownBlock = some i ∨ W.heap.size ≤ i
 le:∀ i,xv'.ownBlock = some i → xv.ownBlock = some i ∨ W.heap.size ≤ i
 B:B ≤ W.heap.size
theorem Fr.of_below {S:Nat → Prop} {w1:World} (h:Below w.heap.size w w1):Fr S w w1:=⟨h.os,h.tape,h.output,h.size,fun i hi _=>h.block i hi⟩
theorem Two.start {B:Nat} {bv xv:Value} {bs es:List Int} (ob:OwnI w B bv bs) (oe:OwnI w B xv es) (ap:apart bv xv) (hB:B ≤ w.heap.size):Two B w bv xv w bv xv bs es:=⟨Fr.refl _ _,ob,oe,ap,fun _ h=>.inl h,fun _ h=>.inl h,hB⟩
theorem Two.next {B:Nat} {W w1:World} {bv xv bv' xv':Value} {bs es:List Int} (h:Two B W bv xv w bv' xv' bs es) (hb:Below w.heap.size w w1):Two B W bv xv w1 bv' xv' bs es:=
 ⟨h.fr.trans (S':=fun _=>False) (Fr.of_below hb) (fun _ h=>h.elim),h.ob.keep hb,h.oe.keep hb,h.ap,h.lb,h.le,h.B⟩
theorem Two.addB {B:Nat} {W:World} {bv xv bv' xv' yv:Value} {bs es:List Int} {y:Int} {T:TypeId} (h:Two B W bv xv w bv' xv' bs es) (hy:Ints w yv [y]) (hl:bs.length < 1099511627776)
  (k:∀ v w',Two B W bv xv w' v xv' (bs ++ [y]) es → w.grownBy w' bv'.ownBlock → K v w'):oM Tryz.prog (.call { callee:=.builtin .append,args:=#[.tmp 0,.tmp 1],argTypes:=#[24,24] }) T [bv',yv] K w:=by
 refine append1g h.ob (Nat.le_trans h.B h.fr.size) hy hl (fun v w' ho hg hv=>k v w' ⟨h.fr.by hg (fun i e=>(h.lb i e).imp .inl id),ho,owns_keep h.oe (fun i hi=>hg.block i (owns_own h.oe hi).1 (fun e=>h.ap i (by first | exact e | exact e.symm) hi)),?_,?_,h.le,h.B⟩ hg)
 ·intro i e1 e2
  rcases hv i e1 with h1 | h1
  ·exact h.ap i h1 e2
  ·have:=(owns_own h.oe e2).1
   omega
 ·intro i e1
  rcases hv i e1 with h1 | h1
  ·exact h.lb i h1
  ·exact .inr (Nat.le_trans h.fr.size h1)
theorem Two.addE {B:Nat} {W:World} {bv xv bv' xv' yv:Value} {bs es:List Int} {y:Int} {T:TypeId} (h:Two B W bv xv w bv' xv' bs es) (hy:Ints w yv [y]) (hl:es.length < 1099511627776)
  (k:∀ v w',Two B W bv xv w' bv' v bs (es ++ [y]) → w.grownBy w' xv'.ownBlock → K v w'):oM Tryz.prog (.call { callee:=.builtin .append,args:=#[.tmp 0,.tmp 1],argTypes:=#[24,24] }) T [xv',yv] K w:=by
 refine append1g h.oe (Nat.le_trans h.B h.fr.size) hy hl (fun v w' ho hg hv=>k v w' ⟨h.fr.by hg (fun i e=>(h.le i e).imp .inr id),owns_keep h.ob (fun i hi=>hg.block i (owns_own h.ob hi).1 (fun e=>h.ap i hi (by first | exact e | exact e.symm))),ho,?_,h.lb,?_,h.B⟩ hg)
 ·intro i e1 e2
  rcases hv i e2 with h1 | h1
  ·exact h.ap i e1 h1
  ·have:=(owns_own h.ob e1).1
   omega
 ·intro i e1
  rcases hv i e1 with h1 | h1
  ·exact h.le i h1
  ·exact .inr (Nat.le_trans h.fr.size h1)
theorem Two.below {B:Nat} {W:World} {bv xv bv' xv':Value} {bs es bs0 es0:List Int} (h:Two B W bv xv w bv' xv' bs es) (h0:Below B w0 W) (ob:OwnI W B bv bs0) (oe:OwnI W B xv es0) (hB:B ≤ w0.heap.size):Below B w0 w:=
 ⟨h.fr.os.trans h0.os,h.fr.tape.trans h0.tape,h.fr.output.trans h0.output,Nat.le_trans h0.size h.fr.size,fun i hi=>(h.fr.block i (by have:=h.B; omega) (fun e=>by
  rcases e with e | e
  ·have:=(owns_own ob e).2.1; omega
  ·have:=(owns_own oe e).2.1; omega)).trans (h0.block i hi)⟩
theorem Two.lit {B:Nat} {W:World} {bv xv bv' xv':Value} {bs es:List Int} (h:Two B W bv xv w bv' xv' bs es):(∀ i,bv'.ownBlock = some i → i < w.heap.size) ∧ (∀ i,xv'.ownBlock = some i → i < w.heap.size):=
 ⟨fun i e=>(owns_own h.ob e).1,fun i e=>(owns_own h.oe e).1⟩
def LfJ (w0:World) (bs es:List Int) (vs:List Value) (w':World):Prop:=Below w0.heap.size w0 w' ∧ ∃ (bv ev:Value) (i:Nat),vs = [bv,ev,.int .i64 (i:Int)] ∧ i ≤ bs.length ∧ OwnI w' w0.heap.size bv (bs.take i) ∧ OwnI w' w0.heap.size ev (es.take i) ∧ apart bv ev
theorem left_ok (s:Stp) (e:Eqn) (vs:List Int) {v ev lv:Value} (hs:SetR w s v) (he:SRow 2 TrmAt w ev e.terms) (hti:I64 e.target) (hl:Ints w lv vs) (hlen:e.terms.length < 1000) (hv:∀ t ∈ e.terms,0 ≤ t.var ∧ t.var < vs.length)
  (k:∀ w',Below w.heap.size w w' → K (.int .i64 (leftM s e vs)) w'):callM Tryz.prog 181 #[stpV s v,eqnV e ev,lv] K w:=by
 apply sh_181_ok
 unfold sh_181
 have hs':=hs
 have he':=he
 have hl':=hl
 obtain ⟨ad,c,rfl⟩:=hs.ints.isSlice
 obtain ⟨ead,ec,rfl⟩:=he.isSlice
 obtain ⟨lad,lc,rfl⟩:=hl.isSlice
 refine box_kn (cs:=stpC s (.slice ad s.bases.length c)) rfl (.start w) fun b1 W1 hk hb1 hbb=>?_
 refine box_kn (cs:=eqnC e (.slice ead e.terms.length ec)) rfl hk fun b2 W2 hk hb2 hbb=>?_
 clear hb1 hb2 hbb
 repeat (any_goals ((with_reducible refine oM_gen fun Kv hK=>?_); simp [go_sem,hk.cells]; refine hK _ _ ?_; clear hK Kv))
 have eL:leftM s e vs = (prodG s.g (e.terms.map fun t=>t.base) (e.terms.map fun t=>vs.getD t.var.toNat 0)).1:=rfl
 rw [eL] at k
 clear eL
 have hbsl:(e.terms.map fun t=>t.base).length = e.terms.length:=by simp
 have hesl:(e.terms.map fun t=>vs.getD t.var.toNat 0).length = e.terms.length:=by simp
 refine ⟨LfJ W2 (e.terms.map fun t=>t.base) (e.terms.map fun t=>vs.getD t.var.toNat 0),vsMu e.terms.length,⟨Below.refl _ _,_,_,0,rfl,by omega,own_none,own_none,fun i h=>by cases h⟩,?_⟩
 rintro _ _ w3 ⟨hb3,bv,xv,i,rfl,hi,hob,hoe,hap⟩
 have hk3:=hk.next hb3
 by_cases hin:i = e.terms.length
 ·rw [List.take_of_length_le (by omega)] at hob hoe
  have hbi:∀ n ∈ (e.terms.map fun t=>t.base),I64 n:=fun n hn=>by
   obtain ⟨t,ht,rfl⟩:=List.mem_map.1 hn
   obtain ⟨j,hj,rfl⟩:=List.getElem_of_mem ht
   obtain ⟨_,_,_,_,_,_,_,h⟩:=he'.at hj
   exact h
  have hei:∀ n ∈ (e.terms.map fun t=>vs.getD t.var.toNat 0),I64 n:=fun n hn=>by
   obtain ⟨t,ht,rfl⟩:=List.mem_map.1 hn
   obtain ⟨h1,h2⟩:=hv t ht
   have hlt:t.var.toNat < vs.length:=by omega
   rw [List.getD_eq_getElem?_getD,List.getElem?_eq_getElem hlt]
   exact hl'.rng _ (List.getElem_mem hlt)
  repeat (any_goals (first
  | (with_reducible refine yO ?_)
  | ((with_reducible refine oM_gen fun Kv hK=>?_); simp [go_sem,hk3.cells]; refine hK _ _ ?_; clear hK Kv)))
  refine Product_ok s.g (hob.ints hbi (by omega)) (hoe.ints hei (by omega)) (fun w4 h4=>?_)
  have hk:=hk3.next h4
  repeat (any_goals ((with_reducible refine oM_gen fun Kv hK=>?_); simp [go_sem]; refine hK _ _ ?_; clear hK Kv))
  exact k _ hk.below
 ·obtain ⟨b4,o4,rfl,hb4,d0,d1,di0,di1⟩:=(he'.next trm_stay hk3.below).at (i:=i) (by omega)
  have ht:=hv e.terms[i] (List.getElem_mem (by omega))
  have e1:(e.terms.map fun t=>t.base).take i ++ [e.terms[i].base] = (e.terms.map fun t=>t.base).take (i + 1):=take_snoc' (by simp [List.getElem?_eq_getElem (show i < e.terms.length by omega)])
  have e2:(e.terms.map fun t=>vs.getD t.var.toNat 0).take i ++ [vs.getD e.terms[i].var.toNat 0] = (e.terms.map fun t=>vs.getD t.var.toNat 0).take (i + 1):=take_snoc' (by simp [List.getElem?_eq_getElem (show i < e.terms.length by omega)])
  have htb:I64 e.terms[i].base:=di1
  have hlt:e.terms[i].var.toNat < vs.length:=by omega
  obtain ⟨b5,o5,rfl,hb5,cv,rv,_⟩:=hl'.at (i:=e.terms[i].var.toNat) hlt
  have hgd:vs.getD e.terms[i].var.toNat 0 = vs[e.terms[i].var.toNat]:=by rw [List.getD_eq_getElem?_getD,List.getElem?_eq_getElem hlt]; rfl
  rw [hgd] at e2
  have cv:=cv _ hk3.below
  generalize vs[e.terms[i].var.toNat] = val at *
  generalize e.terms[i] = t at *
  have hkx:Kn w3 [] w3:=.start w3
  repeat (any_goals (first
  | ((with_reducible refine local_trm t hkx ?_); intro g14 W14 hk14 hb14 hg14)
  | (with_reducible refine yN ?_)
  | ((with_reducible refine oM_gen fun Kv hK=>?_); simp [go_sem,d0,d1]; (first|refine hK _ _ ?_|refine And.intro (by omega) (hK _ _ ?_)); clear hK Kv)))
  have cvl:b5 < w3.heap.size:=Nat.lt_of_lt_of_le hb5 hk3.below.size
  have cw:cellsAre W14 ((⟨b5,o5 + t.var.toNat,none⟩,Value.int .i64 val) :: cellsOf [] g14 0 (trmC t)):=⟨by rw [hb14.cell cvl]; exact cv,hk14.cells⟩
  have hoB:=fun i (e:bv.ownBlock = some i)=>owns_own hob e
  have hoE:=fun i (e:xv.ownBlock = some i)=>owns_own hoe e
  have htwo:=Two.start (hob.keep (hb14.on .drawn)) (hoe.keep (hb14.on .drawn)) hap (w:={ W14 with drawn:=W14.drawn + 1 }) (by have:=hb3.size; have:=hb14.size; show W2.heap.size ≤ W14.heap.size; omega)
  have hbW:Below W2.heap.size W2 { W14 with drawn:=W14.drawn + 1 }:=hb3.on (hb14.on .drawn)
  have hobW:=hob.keep (hb14.on (.drawn (w:=W14) (B:=W14.heap.size)))
  have hoeW:=hoe.keep (hb14.on (.drawn (w:=W14) (B:=W14.heap.size)))
  have cW:cellsAre { W14 with drawn:=W14.drawn + 1 } ((⟨b5,o5 + t.var.toNat,none⟩,Value.int .i64 val) :: cellsOf [] g14 0 (trmC t)):=cw
  have hoff:∀ p ∈ ((⟨b5,o5 + t.var.toNat,none⟩,Value.int .i64 val) :: cellsOf [] g14 0 (trmC t):List (Addr × Value)),p.1.block < ({ W14 with drawn:=W14.drawn + 1 }:World).heap.size ∧ ¬ (bv.ownBlock = some p.1.block ∨ xv.ownBlock = some p.1.block):=fun p hp=>by
   refine ⟨cells_lt cW p hp,?_⟩
   rcases List.mem_cons.1 hp with rfl | hp
   ·rintro (e | e)
    ·have h1:W2.heap.size ≤ b5:=(hoB _ e).2.1; have h2:=hk.below.size; omega
    ·have h1:W2.heap.size ≤ b5:=(hoE _ e).2.1; have h2:=hk.below.size; omega
   ·rcases cellsOf_mem _ _ _ hp with h | hp
    ·rintro (e | e)
     ·have:=(hoB _ e).1; omega
     ·have:=(hoE _ e).1; omega
    ·cases hp
  refine ⟨Fr (fun i=>bv.ownBlock = some i ∨ xv.ownBlock = some i) { W14 with drawn:=W14.drawn + 1 },Fr.refl _ _,?_⟩
  generalize ({ W14 with drawn:=W14.drawn + 1 }:World) = W at htwo hbW hobW hoeW cW hoff ⊢
  clear cw cv d0 d1
  have hti:(t.var:Int) < vs.length:=ht.2
  have hti0:=ht.1
  have etn:((t.var.toNat:Nat):Int) = t.var:=Int.toNat_of_nonneg ht.1
  repeat (any_goals (first
  | (with_reducible refine pureH_in ?_)
  | ((with_reducible refine idOH ?_); (with_reducible refine oH_of ⟨_,rfl⟩ (fun W0 hW0=>by (refine oM_gen (fun Kv hK=>?_)); simp [go_sem,(cells_fr cW hW0 hoff)]; (first | exact hK _ _ ⟨rfl,rfl⟩ | exact ⟨by omega,hK _ _ ⟨rfl,rfl⟩⟩)) ?_))))
  have fin:∀ (w':World) (v' u':Value),Two W2.heap.size W bv xv w' v' u' ((e.terms.map fun t=>t.base).take i ++ [t.base]) ((e.terms.map fun t=>vs.getD t.var.toNat 0).take i ++ [val]) →
    LfJ W2 (e.terms.map fun t=>t.base) (e.terms.map fun t=>vs.getD t.var.toNat 0) [v',u',.int .i64 ((i:Int) + 1)] w' ∧ vsMu e.terms.length [v',u',.int .i64 ((i:Int) + 1)] w' < vsMu e.terms.length [bv,xv,.int .i64 (i:Int)] w3:=fun w' v' u' h=>by
   refine ⟨⟨h.below hbW hobW hoeW (Nat.le_refl _),v',u',i + 1,rfl,by omega,by rw [← e1]; exact h.ob,by rw [← e2]; exact h.oe,h.ap⟩,?_⟩
   simp only [vsMu_eq]; omega
  have hn1:((e.terms.map fun t=>t.base).take i).length < 1099511627776:=by rw [List.length_take]; omega
  have hn2:((e.terms.map fun t=>vs.getD t.var.toNat 0).take i).length < 1099511627776:=by rw [List.length_take]; omega
  have hWb:∀ i,bv.ownBlock = some i → i < W.heap.size:=htwo.lit.1
  constructor
  ·refine mk1g t.base htb (fun y7 w7 h7 hy7 hb7=>?_)
   have t7:=htwo.next h7
   refine ⟨t7.fr,?_⟩
   constructor
   ·refine t7.addB hy7 hn1 (fun v8 w8 t8 hg8=>⟨t8.fr,?_⟩)
    refine mk1g val rv (fun y9 w9 h9 hy9 hb9=>?_)
    have t9:=t8.next h9
    refine ⟨t9.fr,?_⟩
    refine t9.addE hy9 hn2 (fun v10 w10 t10 hg10=>⟨t10.fr,t10.fr,t10.fr,?_⟩)
    repeat (any_goals ((with_reducible refine oM_gen fun Kv hK=>?_); simp [go_sem]; (try simp (disch:=omega) only [wrapI64,wrapU8,wrapU32,wrapU64]); refine hK _ _ ?_; clear hK Kv))
    exact fin _ _ _ t10
   ·refine mk1g val rv (fun y8 w8 h8 hy8 hb8=>?_)
    have t8:=t7.next h8
    refine ⟨t8.fr,?_⟩
    refine t8.addB (hy7.next h8) hn1 (fun v9 w9 t9 hg9=>⟨t9.fr,?_⟩)
    have hy8:=ints_grown hy8 hg9 (fun i e1 e2=>by have:=hWb i e2; have:=h7.size; rw [hb8] at e1; cases e1; omega)
    refine t9.addE hy8 hn2 (fun v10 w10 t10 hg10=>⟨t10.fr,t10.fr,t10.fr,?_⟩)
    repeat (any_goals ((with_reducible refine oM_gen fun Kv hK=>?_); simp [go_sem]; (try simp (disch:=omega) only [wrapI64,wrapU8,wrapU32,wrapU64]); refine hK _ _ ?_; clear hK Kv))
    exact fin _ _ _ t10
  ·refine mk1g val rv (fun y7 w7 h7 hy7 hb7=>?_)
   have t7:=htwo.next h7
   refine ⟨t7.fr,?_⟩
   refine mk1g t.base htb (fun y8 w8 h8 hy8 hb8=>?_)
   have t8:=t7.next h8
   refine ⟨t8.fr,?_⟩
   refine t8.addB hy8 hn1 (fun v9 w9 t9 hg9=>⟨t9.fr,?_⟩)
   have hy7:=ints_grown (hy7.next h8) hg9 (fun i e1 e2=>by have:=hWb i e2; rw [hb7] at e1; cases e1; omega)
   refine t9.addE hy7 hn2 (fun v10 w10 t10 hg10=>⟨t10.fr,t10.fr,t10.fr,?_⟩)
   repeat (any_goals ((with_reducible refine oM_gen fun Kv hK=>?_); simp [go_sem]; (try simp (disch:=omega) only [wrapI64,wrapU8,wrapU32,wrapU64]); refine hK _ _ ?_; clear hK Kv))
   exact fin _ _ _ t10
end
end Go.Proofs
namespace Go.Proofs
open Go Go.Sh Go.RowKit FdSpec TkSpec CodeSpec PrSpec
section
variable {K:Value → World → Prop} {w w0:World} {L:List (Addr × Value)}
def IeJ (p:Eqn → Bool) (l:List Eqn) (R:Bool) (w0:World) (vs:List Value) (w':World):Prop:=Below w0.heap.size w0 w' ∧ ∃ (v u:Value) (i:Nat),vs = [v,u,.int .i64 (i:Int)] ∧ i ≤ l.length ∧ (l.drop i).any p = R
theorem IndexEq_ok {v F:Value} {l:List Eqn} (p:Eqn → Bool) (hl:SRow 2 EqnAt w v l)
  (hF:∀ (w':World) (x:Eqn) (xv:Value) (K':Value → World → Prop) (T:TypeId),Below w.heap.size w w' → x ∈ l → SRow 2 TrmAt w' xv x.terms → I64 x.target → (∀ w'',Below w'.heap.size w' w'' → K' (.bool (p x)) w'') → oM Tryz.prog (.call { callee:=.value (.tmp 0),args:=#[.tmp 1],argTypes:=#[144] }) T [F,eqnV x xv] K' w')
  (k:∀ w' (r:Int),Below w.heap.size w w' → decide (0 ≤ r) = l.any p → K (.int .i64 r) w'):callM Tryz.prog 207 #[v,F] K w:=by
 apply sh_207_ok
 unfold sh_207
 obtain ⟨ad,c,rfl⟩:=hl.isSlice
 have hll:=hl.len
 repeat (any_goals ((with_reducible refine oM_gen fun Kv hK=>?_); simp [go_sem]; refine hK _ _ ?_; clear hK Kv))
 refine ⟨IeJ p l (l.any p) w,vsMu l.length,⟨Below.refl _ _,_,_,0,rfl,by omega,rfl⟩,?_⟩
 generalize l.any p = R at *
 rintro _ _ w1 ⟨h1,u1,u2,i,rfl,hi,ha⟩
 by_cases hin:i = l.length
 ·rw [List.drop_of_length_le (by omega),List.any_nil] at ha
  repeat (any_goals (first
  | (with_reducible refine yO ?_)
  | ((with_reducible refine oM_gen fun Kv hK=>?_); simp [go_sem]; refine hK _ _ ?_; clear hK Kv)))
  exact k _ _ h1 (by rw [← ha]; rfl)
 ·rw [List.drop_eq_getElem_cons (by omega),List.any_cons] at ha
  obtain ⟨b1,o1,rfl,hb1,tv,c0,c1,htr,hti⟩:=(hl.next eqn_stay h1).at (i:=i) (by omega)
  have hm:=List.getElem_mem (show i < l.length by omega)
  generalize l[i] = e at *
  obtain ⟨tad,tc,rfl⟩:=htr.isSlice
  repeat (any_goals (first
  | (with_reducible refine yN ?_)
  | ((with_reducible refine oM_gen fun Kv hK=>?_); simp [go_sem,c0,c1]; (first|refine hK _ _ ?_|refine And.intro (by omega) (hK _ _ ?_)); clear hK Kv)))
  refine hF w1 e _ _ _ h1 hm htr hti (fun w2 h2=>?_)
  cases hp:p e with
  | true=>
   rw [hp,Bool.true_or] at ha
   repeat (any_goals (with_reducible refine yL ?_))
   exact k _ _ (h1.on h2) (by rw [← ha]; simp)
  | false=>
   rw [hp,Bool.false_or] at ha
   repeat (any_goals (first
   | (with_reducible refine yM ?_)
   | ((with_reducible refine oM_gen fun Kv hK=>?_); simp [go_sem]; (try simp (disch:=omega) only [wrapI64,wrapU8,wrapU32,wrapU64]); refine hK _ _ ?_; clear hK Kv)))
   refine ⟨⟨h1.on h2,_,_,i + 1,rfl,by omega,ha⟩,?_⟩
   simp only [vsMu_eq]; omega
theorem ContainsEq_ok {v F:Value} {l:List Eqn} (p:Eqn → Bool) (hl:SRow 2 EqnAt w v l)
  (hF:∀ (w':World) (x:Eqn) (xv:Value) (K':Value → World → Prop) (T:TypeId),Below w.heap.size w w' → x ∈ l → SRow 2 TrmAt w' xv x.terms → I64 x.target → (∀ w'',Below w'.heap.size w' w'' → K' (.bool (p x)) w'') → oM Tryz.prog (.call { callee:=.value (.tmp 0),args:=#[.tmp 1],argTypes:=#[144] }) T [F,eqnV x xv] K' w')
  (k:∀ w',Below w.heap.size w w' → K (.bool (l.any p)) w'):callM Tryz.prog 179 #[v,F] K w:=by
 apply sh_179_ok
 unfold sh_179
 refine IndexEq_ok p hl hF (fun w' r hb hr=>?_)
 repeat (any_goals ((with_reducible refine oM_gen fun Kv hK=>?_); simp [go_sem]; refine hK _ _ ?_; clear hK Kv))
 rw [hr]
 exact k _ hb
theorem holds_ok (s:Stp) (c:Clm) (l:List Int) {v cv lv:Value} (hs:SetR w s v) (hc:ClmR w c cv) (hl:Ints w lv l) (hfit:∀ e ∈ c.eqs,e.terms.length < 1000 ∧ ∀ t ∈ e.terms,0 ≤ t.var ∧ t.var < c.vars)
  (k:∀ w',Below w.heap.size w w' → K (.bool (holdsM s c l)) w'):callM Tryz.prog 122 #[stpV s v,clmV c cv,lv] K w:=by
 apply sh_122_ok
 unfold sh_122
 have hs':=hs
 have hc':=hc
 have hl':=hl
 obtain ⟨ad,ca,rfl⟩:=hs.ints.isSlice
 obtain ⟨ead,ec,rfl⟩:=hc.eqs.isSlice
 obtain ⟨lad,lc,rfl⟩:=hl.isSlice
 refine box_kn (cs:=stpC s (.slice ad s.bases.length ca)) rfl (.start w) fun b1 W1 hk hb1 hbb=>?_
 refine box_kn (cs:=clmC c (.slice ead c.eqs.length ec)) rfl hk fun b2 W2 hk hb2 hbb=>?_
 refine box_kn (cs:=[.slice lad l.length lc]) rfl hk fun b3 W3 hk hb3 hbb=>?_
 clear hb1 hb2 hb3 hbb
 repeat (any_goals ((with_reducible refine oM_gen fun Kv hK=>?_); simp [go_sem,hk.cells]; refine hK _ _ ?_; clear hK Kv))
 refine exponents_ok s c.vars (hs'.next hk.below) (hl'.next hk.below) (fun w4 h4=>?_)
 have hk:=hk.next h4
 clear h4
 have eH:holdsM s c l = (exponentsM s l c.vars && !(c.eqs.any fun e=>!decide (leftM s e l = e.target))):=rfl
 cases hx:exponentsM s l c.vars with
 | false=>
  rw [hx,Bool.false_and] at eH
  rw [eH] at k
  repeat (any_goals (first
  | (with_reducible refine yL ?_)
  | ((with_reducible refine oM_gen fun Kv hK=>?_); simp [go_sem,hk.cells]; refine hK _ _ ?_; clear hK Kv)))
  exact k _ hk.below
 | true=>
 rw [hx,Bool.true_and] at eH
 rw [eH] at k
 have hln:(l.length:Int) = c.vars:=by
  unfold exponentsM at hx
  simp only [Bool.and_eq_true,decide_eq_true_eq] at hx
  exact hx.1
 repeat (any_goals (first
 | (with_reducible refine yM ?_)
 | ((with_reducible refine oM_gen fun Kv hK=>?_); simp [go_sem,hk.cells]; refine hK _ _ ?_; clear hK Kv)))
 refine ContainsEq_ok (fun e=>!decide (leftM s e l = e.target)) (hc'.eqs.next eqn_stay hk.below) ?_ ?_
 ·intro w' x xv K' T hb hx htr hti h'
  refine oM_callv1 (by kernel_rfl) ?_
  have hk:=hk.next hb
  show callM Tryz.prog 180 #[eqnV x xv,.pointer (some ⟨b1,0,none⟩),.pointer (some ⟨b3,0,none⟩)] K' w'
  apply sh_180_ok
  unfold sh_180
  obtain ⟨xad,xc,rfl⟩:=htr.isSlice
  refine box_kn (cs:=eqnC x (.slice xad x.terms.length xc)) rfl (.start w') fun b5 W5 hk5 hb5 hbb=>?_
  have hk:=hk.next hb5
  have htr:=htr.next trm_stay hb5
  have hk6:=hk5.drew
  have hk:=hk.drew
  have htr:=htr.next trm_stay (.drawn (B:=W5.heap.size))
  refine ⟨Nx { W5 with drawn:=W5.drawn + 1 },Below.refl _ _,rfl,?_⟩
  generalize ({ W5 with drawn:=W5.drawn + 1 }:World) = W9 at hk hk6 htr ⊢
  repeat (any_goals ((with_reducible refine idOH ?_); (with_reducible refine oH_of ⟨_,rfl⟩ (fun W0 hW0=>by (refine oM_gen (fun Kv hK=>?_)); simp [go_sem,(hk.next hW0).cells,(hk6.next hW0).cells]; (first | exact hK _ _ ⟨rfl,rfl⟩ | exact ⟨by omega,hK _ _ ⟨rfl,rfl⟩⟩)) ?_)))
  refine ⟨Nx,?_⟩
  apply monoE
  ·intro w1 h1
   exact left_ok s x l (hs'.next (hk.next h1).below) (htr.next trm_stay h1) hti (hl'.next (hk.next h1).below) (hfit x hx).1 (fun t ht=>by have:=(hfit x hx).2 t ht; omega) (fun w2 h2=>⟨h1.on h2,h2,rfl⟩)
  (intro w9 h9; repeat (intro v9 e9; try (obtain rfl:=e9)))
  have hk6:=hk6.next h9
  repeat (any_goals ((with_reducible refine oM_gen fun Kv hK=>?_); simp [go_sem,hk6.cells]; refine hK _ _ ?_; clear hK Kv))
  exact h' _ hk6.below
 ·intro w3 h3
  have hk:=hk.next h3
  generalize (c.eqs.any fun e=>!decide (leftM s e l = e.target)) = q at *
  repeat (any_goals ((with_reducible refine oM_gen fun Kv hK=>?_); simp [go_sem]; refine hK _ _ ?_; clear hK Kv))
  exact k _ hk.below
theorem claim_fit {s:Stp} {c:Clm} (h:claimM s c = true):∀ e ∈ c.eqs,e.terms.length < 1000 ∧ ∀ t ∈ e.terms,0 ≤ t.var ∧ t.var < c.vars:=by
 unfold claimM at h
 simp only [Bool.and_eq_true] at h
 intro e he
 have:=List.all_eq_true.1 h.2 e he
 unfold eqnFine at this
 simp only [Bool.and_eq_true,decide_eq_true_eq] at this
 refine ⟨by omega,fun t ht=>?_⟩
 have:=List.all_eq_true.1 this.2 t ht
 unfold trmFine at this
 simp only [Bool.and_eq_true,decide_eq_true_eq] at this
 exact this.1
theorem Holds_ok (s:Stp) (c:Clm) (l:List Int) {v cv lv:Value} (hs:SetR w s v) (hc:ClmR w c cv) (hl:Ints w lv l)
  (k:∀ w',Below w.heap.size w w' → K (.bool (HoldsM s c l)) w'):callM Tryz.prog 41 #[stpV s v,clmV c cv,lv] K w:=by
 apply sh_41_ok
 unfold sh_41
 have hs':=hs
 have hc':=hc
 obtain ⟨ad,ca,rfl⟩:=hs.ints.isSlice
 obtain ⟨ead,ec,rfl⟩:=hc.eqs.isSlice
 refine box_kn (cs:=stpC s (.slice ad s.bases.length ca)) rfl (.start w) fun b1 W1 hk hb1 hbb=>?_
 refine box_kn (cs:=clmC c (.slice ead c.eqs.length ec)) rfl hk fun b2 W2 hk hb2 hbb=>?_
 clear hb1 hb2 hbb
 have eH:HoldsM s c l = (validS s && claimM s c && holdsM s c l):=rfl
 repeat (any_goals ((with_reducible refine oM_gen fun Kv hK=>?_); simp [go_sem,hk.cells]; refine hK _ _ ?_; clear hK Kv))
 refine ValidSetup_ok s (hs'.next hk.below) (fun w4 h4=>?_)
 have hk:=hk.next h4
 clear h4
 cases hv:validS s with
 | false=>
  rw [hv,Bool.false_and,Bool.false_and] at eH
  rw [eH] at k
  repeat (any_goals (with_reducible first|refine zB ?_|refine yC ?_))
  exact k _ hk.below
 | true=>
 rw [hv,Bool.true_and] at eH
 repeat (any_goals (first
 | (with_reducible refine zA ?_)
 | ((with_reducible refine oM_gen fun Kv hK=>?_); simp [go_sem,hk.cells]; refine hK _ _ ?_; clear hK Kv)))
 refine validClaim_ok s c (hs'.next hk.below) (hc'.next hk.below) (fun w5 h5=>?_)
 have hk:=hk.next h5
 clear h5
 cases hcl:claimM s c with
 | false=>
  rw [hcl,Bool.false_and] at eH
  rw [eH] at k
  repeat (any_goals (with_reducible first|refine zB ?_|((refine idPick ?_); first|refine yB ?_|refine yC ?_)))
  exact k _ hk.below
 | true=>
 rw [hcl,Bool.true_and] at eH
 rw [eH] at k
 repeat (any_goals (first
 | (with_reducible first|refine pureM_in ?_|refine zA ?_|refine yB ?_)
 | ((with_reducible refine oM_gen fun Kv hK=>?_); simp [go_sem,hk.cells]; refine hK _ _ ?_; clear hK Kv)))
 refine holds_ok s c l (hs'.next hk.below) (hc'.next hk.below) (hl.next hk.below) (claim_fit hcl) (fun w6 h6=>?_)
 have hk:=hk.next h6
 repeat (any_goals (with_reducible refine yB ?_))
 exact k _ hk.below
end
end Go.Proofs
namespace Go.Sh
open Go Go.RowKit
section
variable {P:Program} {w w':World} {K:Value → World → Prop}
theorem owns_up {B C:Nat} {e:TypeId} {sz:Nat} {v:Value} {n:Nat} {xs:List Value} (h:w.ownsRow B e sz v n xs) (hv:∀ i,v.ownBlock = some i → C ≤ i):w.ownsRow C e sz v n xs:=
 ⟨h.1,h.2.imp id (fun ⟨g,cap,cur,a,b,r⟩=>⟨g,cap,cur,a,hv g (by rw [a]; rfl),r⟩)⟩
end
end Go.Sh
namespace Go.Sh
open Go Go.RowKit
section
variable {w w':World} {D E:Nat → Prop} {p q:World → Prop}
def FP (D:Nat → Prop) (w:World) (p:World → Prop):Prop:=∀ w':World,w'.os = w.os → w'.tape = w.tape → w'.output = w.output → w.heap.size ≤ w'.heap.size → (∀ i,D i → w'.heap[i]? = w.heap[i]?) → p w'
theorem FP.here (h:FP D w p):p w:=h w rfl rfl rfl (Nat.le_refl _) (fun _ _=>rfl)
theorem FP.mono (h:FP D w p) (hd:∀ i,D i → E i):FP E w p:=fun w' a b c d e=>h w' a b c d (fun i hi=>e i (hd i hi))
theorem FP.imp (h:FP D w p) (hp:∀ w',p w' → q w'):FP D w q:=fun w' a b c d e=>hp w' (h w' a b c d e)
theorem FP.and (h:FP D w p) (k:FP E w q):FP (fun i=>D i ∨ E i) w (fun w=>p w ∧ q w):=fun w' a b c d e=>⟨h w' a b c d (fun i hi=>e i (.inl hi)),k w' a b c d (fun i hi=>e i (.inr hi))⟩
theorem FP.both (h:FP D w p) (k:FP D w q):FP D w (fun w=>p w ∧ q w):=fun w' a b c d e=>⟨h w' a b c d e,k w' a b c d e⟩
theorem FP.all {α:Type} {P:α → World → Prop} (h:∀ x,FP D w (P x)):FP D w (fun w=>∀ x,P x w):=fun w' a b c d e x=>h x w' a b c d e
theorem FP.pure {p:Prop} (h:p):FP D w (fun _=>p):=fun _ _ _ _ _ _=>h
theorem FP.fr {S:Nat → Prop} (h:FP D w p) (hf:Fr S w w') (hD:∀ i,D i → i < w.heap.size ∧ ¬ S i):FP D w' p:=fun w2 a b c d e=>
 h w2 (a.trans hf.os) (b.trans hf.tape) (c.trans hf.output) (Nat.le_trans hf.size d) (fun i hi=>(e i hi).trans (hf.block i (hD i hi).1 (hD i hi).2))
theorem FP.by {b:Option Nat} (h:FP D w p) (hf:w.grownBy w' b) (hD:∀ i,D i → i < w.heap.size ∧ b ≠ some i):FP D w' p:=fun w2 a b c d e=>
 h w2 (a.trans hf.os) (b.trans hf.tape) (c.trans hf.output) (Nat.le_trans hf.size d) (fun i hi=>(e i hi).trans (hf.block i (hD i hi).1 (fun x=>(hD i hi).2 (by first | exact x | exact x.symm))))
theorem FP.next (h:FP D w p) (hb:Below w.heap.size w w') (hD:∀ i,D i → i < w.heap.size):FP D w' p:=fun w2 a b c d e=>
 h w2 (a.trans hb.os) (b.trans hb.tape) (c.trans hb.output) (Nat.le_trans hb.size d) (fun i hi=>(e i hi).trans (hb.block i (hD i hi)))
theorem Ints.fp {v:Value} {l:List Int} (h:Ints w v l):FP (fun i=>Value.inBlock v = some i ∧ i < w.heap.size) w (fun w=>Ints w v l):=fun w' _ _ _ d e=>
 ⟨h.row.keep d (fun i hi hlt=>e i ⟨hi,hlt⟩),h.rng,h.len⟩
end
abbrev Cl (n:Nat):={c:List Value // c.length = n}
def Cl.cs {n:Nat} (c:Cl n):List Value:=c.1
def AtOf {α:Type} (n:Nat) (V:World → List Value → α → Prop) (w:World) (b p:Nat) (x:α):Prop:=∃ c:List Value,c.length = n ∧ (∀ (j:Nat) (u:Value),c[j]? = some u → w.cell? ⟨b,p + j,none⟩ = some u) ∧ V w c x
def VStay {α:Type} (V:World → List Value → α → Prop):Prop:=∀ (w w':World) (c:List Value) (x:α),V w c x → Below w.heap.size w w' → V w' c x
def VOne {α:Type} (R:World → Value → α → Prop) (w:World) (c:List Value) (x:α):Prop:=∃ v,c = [v] ∧ R w v x
def Cols {α:Type} (n:Nat) (V:World → List Value → α → Prop) (w:World) (cs:List (Cl n)) (l:List α):Prop:=cs.length = l.length ∧ ∀ (i:Nat) (c:Cl n) (x:α),cs[i]? = some c → l[i]? = some x → V w c.1 x
structure GRow {α:Type} (n:Nat) (e:TypeId) (V:World → List Value → α → Prop) (B:Nat) (D:Nat → Prop) (w:World) (v:Value) (l:List α):Prop where
 ex:∃ cs:List (Cl n),w.ownsRow B e n v l.length (flat Cl.cs cs) ∧ FP D w (fun w=>Cols n V w cs l)
section
variable {α:Type} {n:Nat} {e:TypeId} {V:World → List Value → α → Prop} {B:Nat} {D E:Nat → Prop} {w w':World} {v:Value} {l:List α}
theorem GRow.nil:GRow n e V B D w (.slice none 0 0) []:=⟨[],⟨by simp [flat],.inl ⟨rfl,rfl⟩⟩,fun _ _ _ _ _ _=>⟨rfl,fun _ _ _ h=>by simp at h⟩⟩
theorem GRow.mono (h:GRow n e V B D w v l) (hd:∀ i,D i → E i):GRow n e V B E w v l:=by
 obtain ⟨cs,h1,h2⟩:=h.ex
 exact ⟨cs,h1,h2.mono hd⟩
theorem GRow.own (h:GRow n e V B D w v l) {i:Nat} (hi:v.ownBlock = some i):i < w.heap.size ∧ B ≤ i:=by
 obtain ⟨cs,h1,_⟩:=h.ex
 exact ⟨(owns_own h1 hi).1,(owns_own h1 hi).2.1⟩
theorem GRow.isSlice (h:GRow n e V B D w v l):∃ ad c,v = .slice ad l.length c:=by
 obtain ⟨cs,h1,_⟩:=h.ex
 exact owns_len h1
theorem GRow.keep (h:GRow n e V B D w v l) {S:Nat → Prop} (hf:Fr S w w') (hD:∀ i,D i → i < w.heap.size ∧ ¬ S i) (hv:∀ i,v.ownBlock = some i → ¬ S i):GRow n e V B D w' v l:=by
 obtain ⟨cs,h1,h2⟩:=h.ex
 exact ⟨cs,owns_keep h1 (fun i hi=>hf.block i (owns_own h1 hi).1 (hv i hi)),h2.fr hf hD⟩
theorem Fr.of_below' {S:Nat → Prop} (h:Below w.heap.size w w'):Fr S w w':=⟨h.os,h.tape,h.output,h.size,fun i hi _=>h.block i hi⟩
theorem Fr.of_by (h:w.grownBy w' (some B)):Fr (fun i=>i = B) w w':=⟨h.os,h.tape,h.output,h.size,fun i hi hn=>h.block i hi (fun x=>hn (by first | exact Option.some.inj x | exact (Option.some.inj x).symm))⟩
theorem Fr.of_by' {b:Option Nat} (h:w.grownBy w' b):Fr (fun i=>b = some i) w w':=⟨h.os,h.tape,h.output,h.size,fun i hi hn=>h.block i hi (fun x=>hn (by first | exact x | exact x.symm))⟩
theorem GRow.next (h:GRow n e V B D w v l) (hb:Below w.heap.size w w') (hD:∀ i,D i → i < w.heap.size):GRow n e V B D w' v l:=
 h.keep (S:=fun _=>False) (Fr.of_below' hb) (fun i hi=>⟨hD i hi,id⟩) (fun _ _=>id)
theorem grow_append {P:Program} {K:Value → World → Prop} (t T:TypeId) (i:TypeInfo) (z:Value) (bytes:Nat) (ht:P.underlying t = some (.slice e)) (hi:P.info? e = some i) (hz:i.zero = some z)
  (hsize:i.size = n) (hby:i.bytes = bytes) (hzs:z.cells.size = n) (hn:0 < n) (hbb:bytes ≤ 64)
  (h:GRow n e V B D w v l) (hB:B ≤ w.heap.size) {b o c:Nat} {x:α} {xs:List Value} (hxl:xs.length = n) (hcell:∀ (j:Nat) (u:Value),xs[j]? = some u → w.cell? ⟨b,o + j,none⟩ = some u) (h1:∀ u ∈ xs,u.oneCell' = true)
  (hx:FP D w (fun w=>V w xs x)) (hD:∀ i,D i → i < w.heap.size ∧ v.ownBlock ≠ some i) (hl:l.length < 1099511627776)
  (k:∀ v' w',GRow n e V B D w' v' (l ++ [x]) → w.grownBy w' v.ownBlock → (∀ i,v'.ownBlock = some i → v.ownBlock = some i ∨ w.heap.size ≤ i) → (∀ i,D i → i < w'.heap.size ∧ v'.ownBlock ≠ some i) → K v' w') :
  oM P (.call { callee:=.builtin .append,args:=#[.tmp 0,.tmp 1],argTypes:=#[t,t] }) T [v,.slice (some ⟨b,o,none⟩) 1 c] K w:=by
 obtain ⟨cs,ho,hf⟩:=h.ex
 refine append_at t T e i z n bytes ht hi hz hsize hby hzs hn (owns_base ho (Nat.zero_le _)) xs (by omega) (by simp) ?_ h1 (by simp only [maxLen]; omega) (by have:(l.length + 1) * bytes ≤ 1099511627776 * 64:=Nat.mul_le_mul (by omega) hbb; omega) ?_
 ·rintro a ha j u hj
  cases ha
  rw [add_none]
  exact hcell j u hj
 ·intro v' w' ho' hg hv
  have hf':=hf.by hg hD
  refine k v' w' ⟨cs ++ [⟨xs,hxl⟩],?_,?_⟩ hg hv ?_
  ·have e2:flat Cl.cs (cs ++ [(⟨xs,hxl⟩:Cl n)]) = flat Cl.cs cs ++ xs:=by rw [flat_snoc]; rfl
   have e1:(l ++ [x]).length = l.length + 1:=by simp
   rw [e1,e2]
   exact owns_up ho' (fun i hi=>(hv i hi).elim (fun h=>(owns_own ho h).2.1) (fun h=>Nat.le_trans hB h))
  ·have hx':=hx.by hg hD
   refine (hf'.both hx').imp ?_
   rintro w2 ⟨⟨hc1,hc2⟩,hx2⟩
   refine ⟨by simp [hc1],fun i c y hi hy=>?_⟩
   by_cases hlt:i < cs.length
   ·rw [List.getElem?_append_left hlt] at hi
    rw [List.getElem?_append_left (by omega)] at hy
    exact hc2 i c y hi hy
   ·rw [List.getElem?_append_right (by omega)] at hi
    rw [List.getElem?_append_right (by omega)] at hy
    have:i - cs.length = 0:=by
     have:=(List.getElem?_eq_some_iff.1 hi).1
     simp at this
     omega
    rw [this] at hi
    rw [show i - l.length = 0 by omega] at hy
    simp at hi hy
    subst hi; subst hy
    exact hx2
  ·intro i hi
   obtain ⟨h2,h3⟩:=hD i hi
   refine ⟨Nat.lt_of_lt_of_le h2 hg.size,fun e=>?_⟩
   rcases hv i e with h4 | h4
   ·exact h3 h4
   ·omega
end
end Go.Sh
namespace Go.Sh
open Go Go.RowKit
def Fresh (W w:World) (p:World → Prop):Prop:=FP (fun i=>W.heap.size ≤ i ∧ i < w.heap.size) w p
section
variable {W W' w w':World} {p q:World → Prop}
theorem Fresh.next (h:Fresh W w p) (hb:Below w.heap.size w w'):Fresh W w' p:=(FP.next h hb (fun i hi=>hi.2)).mono (fun i hi=>⟨hi.1,Nat.lt_of_lt_of_le hi.2 hb.size⟩)
theorem Fresh.up (h:Fresh W w p) (hs:W'.heap.size ≤ W.heap.size):Fresh W' w p:=FP.mono h (fun i hi=>⟨Nat.le_trans hs hi.1,hi.2⟩)
theorem Fresh.here (h:Fresh W w p):p w:=FP.here h
theorem Fresh.imp (h:Fresh W w p) (hp:∀ w',p w' → q w'):Fresh W w q:=FP.imp h hp
theorem Fresh.both (h:Fresh W w p) (k:Fresh W w q):Fresh W w (fun w=>p w ∧ q w):=FP.both h k
theorem Fresh.pure {p:Prop} (h:p):Fresh W w (fun _=>p):=FP.pure h
theorem Holds.fp {g:Nat} {T:TypeId} {vs:List Value} (h:Holds w g T vs):FP (fun i=>i = g) w (fun w=>Holds w g T vs):=fun w' _ _ _ _ e=>(e g rfl).trans h
theorem Holds.fresh {g:Nat} {T:TypeId} {vs:List Value} (h:Holds w g T vs) (hg:W.heap.size ≤ g):Fresh W w (fun w=>Holds w g T vs):=h.fp.mono (fun i hi=>by subst hi; exact ⟨hg,h.lt⟩)
theorem Ints.fresh {v:Value} {l:List Int} (h:Ints w v l) (hg:∀ i,Value.inBlock v = some i → W.heap.size ≤ i):Fresh W w (fun w=>Ints w v l):=h.fp.mono (fun i hi=>⟨hg i hi.1,hi.2⟩)
theorem lit_run {K:Value → World → Prop} {r:Result Value} {e:TypeId} {n:Nat} {xs:List Value} (hr:r = .ok (.slice (some ⟨w.heap.size,0,none⟩) n n) (w.alloc (.cells xs.toArray e)))
  (k:∀ g W,Below w.heap.size w W → w.heap.size ≤ g → Holds W g e xs → K (.slice (some ⟨g,0,none⟩) n n) W):rM r K:=by
 rw [hr]
 refine k _ _ ((Below.refl _ w).alloc (Nat.le_refl _) _) (Nat.le_refl _) ?_
 have:=heap_alloc_new w (.cells xs.toArray e)
 exact this
end
end Go.Sh
namespace Go.Proofs
open Go.Sh Tryz
def sh_44 (a0 a1 a2:Value) (K:Value → World → Prop) (w:World):Prop:=
 oM prog (.box 26 (.tmp 0)) 0 [a0] (fun v3 w=>
 oM prog (.load 26 (.tmp 0)) 26 [v3] (fun v9 w=>
 callM prog 21 #[v9] (fun v10 w=>
 oM prog (.unOp .not 4 (.tmp 0)) 4 [v10] (fun v11 w=>
 condM v11
 (K (.int .i64 0) w)
 (oM prog (.fieldAddr 26 (.tmp 0) 0) 0 [v3] (fun v13 w=>
 oM prog (.load 23 (.tmp 0)) 23 [v13] (fun v14 w=>
 oM prog (.fieldAddr 26 (.tmp 0) 0) 0 [v3] (fun v15 w=>
 oM prog (.fieldAddr 23 (.tmp 0) 2) 0 [v15] (fun v16 w=>
 oM prog (.load 3 (.tmp 0)) 3 [v16] (fun v17 w=>
 oM prog (.fieldAddr 26 (.tmp 0) 2) 0 [v3] (fun v18 w=>
 oM prog (.load 3 (.tmp 0)) 3 [v18] (fun v19 w=>
 oM prog (.buildSlice 24 2 #[(0,(.tmp 0)),(1,(.tmp 1))]) 24 [v17,v19] (fun v20 w=>
 oM prog (.buildSlice 24 2 #[(0,(.tmp 0)),(1,(.tmp 1))]) 24 [a1,a2] (fun v23 w=>
 callM prog 126 #[v14,v20,v23] (fun v24 w=>
 oM prog (.extract (.tmp 0) 0) 3 [v24] (fun v25 w=>
 oM prog (.extract (.tmp 0) 1) 4 [v24] (fun v26 w=>
 K v25 w) w) w) w) w) w) w) w) w) w) w) w) w)) w) w) w) w
theorem sh_44_ok {a0 a1 a2:Value} {K:Value → World → Prop} {w:World} (h:sh_44 a0 a1 a2 K w):callM prog 44 #[a0,a1,a2] K w:=
 calls_of_code (fun _=>0) (fn:=Tryz.f44) (rs:=[.tmp 6]) Tryz.func44 rfl rfl (by kernel_rfl) (Nat.le_of_ble_eq_true rfl) (Eq.mp (by kernel_rfl) h)
def sh_74 (a0 a1:Value) (K:Value → World → Prop) (w:World):Prop:=
 oM prog (.box 26 (.tmp 0)) 0 [a0] (fun v2 w=>
 oM prog (.load 26 (.tmp 0)) 26 [v2] (fun v9 w=>
 callM prog 21 #[v9] (fun v10 w=>
 oM prog (.unOp .not 4 (.tmp 0)) 4 [v10] (fun v11 w=>
 gdM (gd v11 false) (pureM a1) (fun v13 w=>
 gdM (gd v11 false) (oM prog (.call (Go.Call.mk (.builtin .len) #[(.tmp 0)] #[24])) 3 [v13]) (fun v14 w=>
 gdM (gd v11 false) (oM prog (.binOp .lss 3 (.tmp 0) (.tmp 1) 3) 4 [v14,(.int .i64 1)]) (fun v15 w=>
 oM prog (.pick (.tmp 0) (.tmp 1) (.tmp 2)) 4 [v11,(.bool true),v15] (fun v16 w=>
 gdM (gd v16 false) (pureM a1) (fun v18 w=>
 gdM (gd v16 false) (oM prog (.call (Go.Call.mk (.builtin .len) #[(.tmp 0)] #[24])) 3 [v18]) (fun v19 w=>
 gdM (gd v16 false) (oM prog (.binOp .gtr 3 (.tmp 0) (.tmp 1) 3) 4 [v19,(.int .i64 60)]) (fun v20 w=>
 oM prog (.pick (.tmp 0) (.tmp 1) (.tmp 2)) 4 [v16,(.bool true),v20] (fun v21 w=>
 condM v21
 (K (.tuple #[(.int .i64 0),(.bool false)]) w)
 (oM prog (.call (Go.Call.mk (.builtin .len) #[(.tmp 0)] #[24])) 3 [a1] (fun v23 w=>
 loopM [undef,undef,(.int .i64 0),(.bool false),(.slice none 0 0),(.int .i64 0)] w (fun J_14 m_15 l_16 u_l_16 w0_l_16=>(fun w=>(
 oM prog (.binOp .lss 3 (.tmp 0) (.tmp 1) 3) 0 [(l_16.getD 5 undef),v23] (fun v25 w=>
 condM v25
 (oM prog (.indexAddr 24 (.tmp 0) (.tmp 1)) 0 [a1,(l_16.getD 5 undef)] (fun v27 w=>
 oM prog (.load 3 (.tmp 0)) 3 [v27] (fun v28 w=>
 oM prog (.fieldAddr 26 (.tmp 0) 0) 0 [v2] (fun v29 w=>
 oM prog (.load 23 (.tmp 0)) 23 [v29] (fun v30 w=>
 callM prog 109 #[v30,v28] (fun v32 w=>
 oM prog (.unOp .not 4 (.tmp 0)) 4 [v32] (fun v33 w=>
 condM v33
 (K (.tuple #[(.int .i64 0),(.bool false)]) w)
 (oM prog (.binOp .shl 3 (.tmp 0) (.tmp 1) 3) 3 [(.int .i64 1),(l_16.getD 5 undef)] (fun v36 w=>
 oM prog (.buildSlice 24 1 #[(0,(.tmp 0))]) 24 [v36] (fun v37 w=>
 oM prog (.call (Go.Call.mk (.builtin .append) #[(.tmp 0),(.tmp 1)] #[24,24])) 24 [(l_16.getD 4 undef),v37] (fun v38 w=>
 oM prog (.binOp .add 3 (.tmp 0) (.tmp 1) 3) 3 [(l_16.getD 5 undef),(.int .i64 1)] (fun v39 w=>
 J_14 [(l_16.getD 5 undef),v28,(l_16.getD 2 undef),(l_16.getD 3 undef),v38,v39] w ∧ m_15 [(l_16.getD 5 undef),v28,(l_16.getD 2 undef),(l_16.getD 3 undef),v38,v39] w < m_15 l_16 w0_l_16) w) w) w) w)) w) w) w) w) w) w)
 (oM prog (.fieldAddr 26 (.tmp 0) 0) 0 [v2] (fun v40 w=>
 oM prog (.load 23 (.tmp 0)) 23 [v40] (fun v41 w=>
 callM prog 126 #[v41,a1,(l_16.getD 4 undef)] (fun v44 w=>
 oM prog (.extract (.tmp 0) 0) 3 [v44] (fun v45 w=>
 oM prog (.extract (.tmp 0) 1) 4 [v44] (fun v46 w=>
 K (.tuple #[v45,v46]) w) w) w) w) w) w)) w)) w0_l_16)) w)) w) w) w) w) w) w) w) w) w) w) w) w
theorem sh_74_ok {a0 a1:Value} {K:Value → World → Prop} {w:World} (h:sh_74 a0 a1 K w):callM prog 74 #[a0,a1] K w:=
 calls_of_code (fun _=>0) (fn:=Tryz.f74) (rs:=[.tmp 4,.tmp 5]) Tryz.func74 rfl rfl (by kernel_rfl) (Nat.le_of_ble_eq_true rfl) (Eq.mp (by kernel_rfl) h)
def sh_120 (a0 a1:Value) (K:Value → World → Prop) (w:World):Prop:=
 oM prog (.box 26 (.tmp 0)) 0 [a0] (fun v2 w=>
 oM prog (.alloc 69) 0 [] (fun v4 w=>
 oM prog (.fieldAddr 26 (.tmp 0) 2) 0 [v2] (fun v6 w=>
 oM prog (.load 3 (.tmp 0)) 3 [v6] (fun v7 w=>
 oM prog (.build 146 #[(0,(.tmp 0)),(1,(.tmp 1))]) 146 [(.int .i64 0),v7] (fun v8 w=>
 oM prog (.buildSlice 142 1 #[(0,(.tmp 0))]) 142 [v8] (fun v9 w=>
 oM prog (.build 144 #[(0,(.tmp 0)),(1,(.tmp 1))]) 144 [a1,v9] (fun v10 w=>
 oM prog (.buildSlice 67 1 #[(0,(.tmp 0))]) 67 [v10] (fun v11 w=>
 oM prog (.build 69 #[(0,(.tmp 0)),(1,(.tmp 1))]) 69 [(.int .i64 1),v11] (fun v12 w=>
 oM prog (.store 69 (.tmp 0) (.tmp 1)) 0 [v4,v12] (fun _ w=>
 ∃ r_10,(do loadVar 69 (← asAddr v4):Sem Value).run prog w = .ok r_10 w ∧ K r_10 w) w) w) w) w) w) w) w) w) w) w
theorem sh_120_ok {a0 a1:Value} {K:Value → World → Prop} {w:World} (h:sh_120 a0 a1 K w):callM prog 120 #[a0,a1] K w:=
 calls_of_code (fun _=>0) (fn:=Tryz.f120) (rs:=[.cell 4 69]) Tryz.func120 rfl rfl (by kernel_rfl) (Nat.le_of_ble_eq_true rfl) (Eq.mp (by kernel_rfl) h)
def sh_68 (a0 a1:Value) (K:Value → World → Prop) (w:World):Prop:=
 oM prog (.box 26 (.tmp 0)) 0 [a0] (fun v2 w=>
 oM prog (.load 26 (.tmp 0)) 26 [v2] (fun v11 w=>
 callM prog 74 #[v11,a1] (fun v13 w=>
 oM prog (.extract (.tmp 0) 0) 3 [v13] (fun v14 w=>
 oM prog (.extract (.tmp 0) 1) 4 [v13] (fun v15 w=>
 oM prog (.unOp .not 4 (.tmp 0)) 4 [v15] (fun v17 w=>
 condM v17
 (K (.slice none 0 0) w)
 (oM prog (.call (Go.Call.mk (.builtin .len) #[(.tmp 0)] #[24])) 3 [a1] (fun v19 w=>
 loopM [undef,(.slice none 0 0),(.int .i64 0)] w (fun J_8 m_9 l_10 u_l_10 w0_l_10=>(fun w=>(
 oM prog (.binOp .lss 3 (.tmp 0) (.tmp 1) 3) 0 [(l_10.getD 2 undef),v19] (fun v21 w=>
 condM v21
 (oM prog (.indexAddr 24 (.tmp 0) (.tmp 1)) 0 [a1,(l_10.getD 2 undef)] (fun v22 w=>
 oM prog (.load 3 (.tmp 0)) 3 [v22] (fun v23 w=>
 heldM w (fun C_14 w=>(((true:Bool) = true) ∧ (pureH (l_10.getD 1 undef) C_14 (fun v24=>
 oH prog (.load 26 (.tmp 0)) 26 [v2] C_14 (fun v25=>
 pureH v23 C_14 (fun v26=>
 oH prog (.load 26 (.tmp 0)) 26 [v2] C_14 (fun v28=>
 oH prog (.fieldAddr 26 (.tmp 0) 0) 0 [v2] C_14 (fun v29=>
 oH prog (.load 23 (.tmp 0)) 23 [v29] C_14 (fun v30=>
 pureH v23 C_14 (fun v31=>
 oH prog (.fieldAddr 26 (.tmp 0) 0) 0 [v2] C_14 (fun v32=>
 oH prog (.fieldAddr 23 (.tmp 0) 2) 0 [v32] C_14 (fun v33=>
 oH prog (.load 3 (.tmp 0)) 3 [v33] C_14 (fun v34=>
 ∃ S_25:World → World → Prop,∃ R_26:Value → World → Prop,(∀ v w w_1,S_25 w w_1 → R_26 v w → R_26 v w_1) ∧
 (∀ w,C_14 w → (callM prog 120 #[v25,v26] (fun v w_1=>C_14 w_1 ∧ S_25 w w_1 ∧ R_26 v w_1) w)) ∧
 (∃ R_27:Value → World → Prop,(∀ v w w_1,S_25 w w_1 → R_27 v w → R_27 v w_1) ∧
 (∀ w,C_14 w → (callM prog 121 #[v30,v31,v34] (fun v w_1=>C_14 w_1 ∧ S_25 w w_1 ∧ R_27 v w_1) w)) ∧
 (∃ R_28:Value → World → Prop,(∀ v w w_1,S_25 w w_1 → R_28 v w → R_28 v w_1) ∧
 (∀ w,C_14 w → ∀ v35,R_27 v35 w → (callM prog 120 #[v28,v35] (fun v w_1=>C_14 w_1 ∧ S_25 w w_1 ∧ R_28 v w_1) w)) ∧
 (∃ R_30:Value → World → Prop,(∀ v w w_1,S_25 w w_1 → R_30 v w → R_30 v w_1) ∧
 (∀ w,C_14 w → ∀ v27,R_26 v27 w → ∀ v36,R_28 v36 w → (oM prog (.buildSlice 63 2 #[(0,(.tmp 0)),(1,(.tmp 1))]) 63 [v27,v36] (fun v w_1=>C_14 w_1 ∧ S_25 w w_1 ∧ R_30 v w_1) w)) ∧
 (∃ R_33:Value → World → Prop,(∀ v w w_1,S_25 w w_1 → R_33 v w → R_33 v w_1) ∧
 (∀ w,C_14 w → ∀ v37,R_30 v37 w → (oM prog (.build 65 #[(0,(.tmp 0)),(1,(.tmp 1))]) 65 [(.int .i64 1),v37] (fun v w_1=>C_14 w_1 ∧ S_25 w w_1 ∧ R_33 v w_1) w)) ∧
 (∃ R_35:Value → World → Prop,(∀ v w w_1,S_25 w w_1 → R_35 v w → R_35 v w_1) ∧
 (∀ w,C_14 w → ∀ v38,R_33 v38 w → (oM prog (.buildSlice 27 1 #[(0,(.tmp 0))]) 27 [v38] (fun v w_1=>C_14 w_1 ∧ S_25 w w_1 ∧ R_35 v w_1) w)) ∧
 (∀ w,C_14 w → ∀ v27,R_26 v27 w → ∀ v35,R_27 v35 w → ∀ v36,R_28 v36 w → ∀ v37,R_30 v37 w → ∀ v38,R_33 v38 w → ∀ v39,R_35 v39 w → (
 oM prog (.call (Go.Call.mk (.builtin .append) #[(.tmp 0),(.tmp 1)] #[27,27])) 27 [v24,v39] (fun v40 w=>
 oM prog (.binOp .add 3 (.tmp 0) (.tmp 1) 3) 3 [(l_10.getD 2 undef),(.int .i64 1)] (fun v41 w=>
 J_8 [v23,v40,v41] w ∧ m_9 [v23,v40,v41] w < m_9 l_10 w0_l_10) w) w))))))))))))))))))))) w) w)
 (K (l_10.getD 1 undef) w)) w)) w0_l_10)) w)) w) w) w) w) w) w
theorem sh_68_ok {a0 a1:Value} {K:Value → World → Prop} {w:World} (h:sh_68 a0 a1 K w):callM prog 68 #[a0,a1] K w:=
 calls_of_code (fun _=>.free [0,1,2,4,5,6,7,8,9,10] [3,11,12,13,14,15] [16,17]) (fn:=Tryz.f68) (rs:=[.tmp 4]) Tryz.func68 rfl rfl (by kernel_rfl) (Nat.le_of_ble_eq_true rfl) (Eq.mp (by kernel_rfl) h)
def sh_40 (a0 a1 a2:Value) (K:Value → World → Prop) (w:World):Prop:=
 oM prog (.box 26 (.tmp 0)) 0 [a0] (fun v3 w=>
 oM prog (.load 26 (.tmp 0)) 26 [v3] (fun v10 w=>
 callM prog 74 #[v10,a2] (fun v12 w=>
 oM prog (.extract (.tmp 0) 0) 3 [v12] (fun v13 w=>
 oM prog (.extract (.tmp 0) 1) 4 [v12] (fun v14 w=>
 oM prog (.unOp .not 4 (.tmp 0)) 4 [v14] (fun v16 w=>
 gdM (gd v16 false) (oM prog (.fieldAddr 26 (.tmp 0) 0) 0 [v3]) (fun v18 w=>
 gdM (gd v16 false) (oM prog (.load 23 (.tmp 0)) 23 [v18]) (fun v19 w=>
 gdM (gd v16 false) (pureM a1) (fun v20 w=>
 gdM (gd v16 false) (callM prog 109 #[v19,v20]) (fun v21 w=>
 gdM (gd v16 false) (oM prog (.unOp .not 4 (.tmp 0)) 4 [v21]) (fun v22 w=>
 oM prog (.pick (.tmp 0) (.tmp 1) (.tmp 2)) 4 [v16,(.bool true),v22] (fun v23 w=>
 condM v23
 (K (.slice none 0 0) w)
 (heldM w (fun C_13 w=>(((true:Bool) = true) ∧ (oH prog (.load 26 (.tmp 0)) 26 [v3] C_13 (fun v24=>
 pureH a2 C_13 (fun v25=>
 oH prog (.load 26 (.tmp 0)) 26 [v3] C_13 (fun v27=>
 oH prog (.fieldAddr 26 (.tmp 0) 0) 0 [v3] C_13 (fun v28=>
 oH prog (.load 23 (.tmp 0)) 23 [v28] C_13 (fun v29=>
 pureH a1 C_13 (fun v30=>
 pureH v13 C_13 (fun v31=>
 ∃ S_21:World → World → Prop,∃ R_22:Value → World → Prop,(∀ v w w_1,S_21 w w_1 → R_22 v w → R_22 v w_1) ∧
 (∀ w,C_13 w → (callM prog 68 #[v24,v25] (fun v w_1=>C_13 w_1 ∧ S_21 w w_1 ∧ R_22 v w_1) w)) ∧
 (∃ R_23:Value → World → Prop,(∀ v w w_1,S_21 w w_1 → R_23 v w → R_23 v w_1) ∧
 (∀ w,C_13 w → (callM prog 121 #[v29,v30,v31] (fun v w_1=>C_13 w_1 ∧ S_21 w w_1 ∧ R_23 v w_1) w)) ∧
 (∀ w,C_13 w → ∀ v26,R_22 v26 w → ∀ v32,R_23 v32 w → (
 callM prog 120 #[v27,v32] (fun v33 w=>
 oM prog (.buildSlice 63 1 #[(0,(.tmp 0))]) 63 [v33] (fun v34 w=>
 oM prog (.build 65 #[(0,(.tmp 0)),(1,(.tmp 1))]) 65 [(.int .i64 1),v34] (fun v35 w=>
 oM prog (.buildSlice 27 1 #[(0,(.tmp 0))]) 27 [v35] (fun v36 w=>
 oM prog (.call (Go.Call.mk (.builtin .append) #[(.tmp 0),(.tmp 1)] #[27,27])) 27 [v26,v36] (fun v37 w=>
 K v37 w) w) w) w) w) w))))))))))))))) w) w) w) w) w) w) w) w) w) w) w) w
theorem sh_40_ok {a0 a1 a2:Value} {K:Value → World → Prop} {w:World} (h:sh_40 a0 a1 a2 K w):callM prog 40 #[a0,a1,a2] K w:=
 calls_of_code (fun _=>.free [0,1,3,4,5,6,7] [2,8] [9,10,11,12,13,14]) (fn:=Tryz.f40) (rs:=[.tmp 6]) Tryz.func40 rfl rfl (by kernel_rfl) (Nat.le_of_ble_eq_true rfl) (Eq.mp (by kernel_rfl) h)
def sh_76 (a0 a1 a2:Value) (K:Value → World → Prop) (w:World):Prop:=
 oM prog (.box 26 (.tmp 0)) 0 [a0] (fun v3 w=>
 oM prog (.call (Go.Call.mk (.builtin .len) #[(.tmp 0)] #[24])) 3 [a2] (fun v17 w=>
 oM prog (.load 26 (.tmp 0)) 26 [v3] (fun v18 w=>
 callM prog 21 #[v18] (fun v19 w=>
 oM prog (.unOp .not 4 (.tmp 0)) 4 [v19] (fun v20 w=>
 gdM (gd v20 false) (pureM v17) (fun v22 w=>
 gdM (gd v20 false) (oM prog (.binOp .lss 3 (.tmp 0) (.tmp 1) 3) 4 [v22,(.int .i64 1)]) (fun v23 w=>
 oM prog (.pick (.tmp 0) (.tmp 1) (.tmp 2)) 4 [v20,(.bool true),v23] (fun v24 w=>
 gdM (gd v24 false) (pureM v17) (fun v26 w=>
 gdM (gd v24 false) (oM prog (.binOp .gtr 3 (.tmp 0) (.tmp 1) 3) 4 [v26,(.int .i64 60)]) (fun v27 w=>
 oM prog (.pick (.tmp 0) (.tmp 1) (.tmp 2)) 4 [v24,(.bool true),v27] (fun v28 w=>
 gdM (gd v28 false) (oM prog (.load 26 (.tmp 0)) 26 [v3]) (fun v30 w=>
 gdM (gd v28 false) (pureM a2) (fun v31 w=>
 gdM (gd v28 false) (pureM v17) (fun v32 w=>
 gdM (gd v28 false) (callM prog 140 #[v30,v31,v32]) (fun v33 w=>
 gdM (gd v28 false) (oM prog (.unOp .not 4 (.tmp 0)) 4 [v33]) (fun v34 w=>
 oM prog (.pick (.tmp 0) (.tmp 1) (.tmp 2)) 4 [v28,(.bool true),v34] (fun v35 w=>
 gdM (gd v35 false) (pureM a1) (fun v37 w=>
 gdM (gd v35 false) (oM prog (.binOp .lss 3 (.tmp 0) (.tmp 1) 3) 4 [v37,(.int .i64 0)]) (fun v38 w=>
 oM prog (.pick (.tmp 0) (.tmp 1) (.tmp 2)) 4 [v35,(.bool true),v38] (fun v39 w=>
 gdM (gd v39 false) (pureM a1) (fun v41 w=>
 gdM (gd v39 false) (pureM v17) (fun v42 w=>
 gdM (gd v39 false) (oM prog (.binOp .shl 3 (.tmp 0) (.tmp 1) 3) 3 [(.int .i64 1),v42]) (fun v43 w=>
 gdM (gd v39 false) (oM prog (.binOp .geq 3 (.tmp 0) (.tmp 1) 3) 4 [v41,v43]) (fun v44 w=>
 oM prog (.pick (.tmp 0) (.tmp 1) (.tmp 2)) 4 [v39,(.bool true),v44] (fun v45 w=>
 condM v45
 (K (.tuple #[(.slice none 0 0),(.slice none 0 0),(.bool false)]) w)
 (oM prog (.call (Go.Call.mk (.builtin .len) #[(.tmp 0)] #[24])) 3 [a2] (fun v47 w=>
 loopM [undef,undef,undef,undef,(.slice none 0 0),(.slice none 0 0),(.int .i64 0)] w (fun J_27 m_28 l_29 u_l_29 w0_l_29=>(fun w=>(
 oM prog (.binOp .lss 3 (.tmp 0) (.tmp 1) 3) 0 [(l_29.getD 6 undef),v47] (fun v49 w=>
 condM v49
 (oM prog (.indexAddr 24 (.tmp 0) (.tmp 1)) 0 [a2,(l_29.getD 6 undef)] (fun v51 w=>
 oM prog (.load 3 (.tmp 0)) 3 [v51] (fun v52 w=>
 oM prog (.binOp .shr 3 (.tmp 0) (.tmp 1) 3) 3 [a1,(l_29.getD 6 undef)] (fun v55 w=>
 oM prog (.binOp .and 3 (.tmp 0) (.tmp 1) 3) 3 [v55,(.int .i64 1)] (fun v56 w=>
 oM prog (.makeSlice 114 (.tmp 0) (.tmp 1)) 114 [(.int .i64 2),(.int .i64 2)] (fun v57 w=>
 oM prog (.buildSlice 24 1 #[(0,(.tmp 0))]) 24 [v52] (fun v61 w=>
 oM prog (.build 113 #[(0,(.tmp 0)),(1,(.tmp 1))]) 113 [(.bool true),v61] (fun v62 w=>
 oM prog (.indexAddr 114 (.tmp 0) (.tmp 1)) 0 [v57,v56] (fun v63 w=>
 oM prog (.store 113 (.tmp 0) (.tmp 1)) 0 [v63,v62] (fun _ w=>
 oM prog (.load 26 (.tmp 0)) 26 [v3] (fun v65 w=>
 callM prog 44 #[v65,v56,v52] (fun v68 w=>
 oM prog (.buildSlice 24 1 #[(0,(.tmp 0))]) 24 [v68] (fun v69 w=>
 oM prog (.call (Go.Call.mk (.builtin .append) #[(.tmp 0),(.tmp 1)] #[24,24])) 24 [(l_29.getD 4 undef),v69] (fun v70 w=>
 oM prog (.buildSlice 28 1 #[(0,(.tmp 0))]) 28 [v57] (fun v73 w=>
 oM prog (.call (Go.Call.mk (.builtin .append) #[(.tmp 0),(.tmp 1)] #[28,28])) 28 [(l_29.getD 5 undef),v73] (fun v74 w=>
 oM prog (.binOp .add 3 (.tmp 0) (.tmp 1) 3) 3 [(l_29.getD 6 undef),(.int .i64 1)] (fun v75 w=>
 J_27 [(l_29.getD 6 undef),v52,v56,v57,v70,v74,v75] w ∧ m_28 [(l_29.getD 6 undef),v52,v56,v57,v70,v74,v75] w < m_28 l_29 w0_l_29) w) w) w) w) w) w) w) w) w) w) w) w) w) w) w) w)
 (K (.tuple #[(l_29.getD 4 undef),(l_29.getD 5 undef),(.bool true)]) w)) w)) w0_l_29)) w)) w) w) w) w) w) w) w) w) w) w) w) w) w) w) w) w) w) w) w) w) w) w) w) w) w
theorem sh_76_ok {a0 a1 a2:Value} {K:Value → World → Prop} {w:World} (h:sh_76 a0 a1 a2 K w):callM prog 76 #[a0,a1,a2] K w:=
 calls_of_code (fun _=>0) (fn:=Tryz.f76) (rs:=[.tmp 6,.tmp 7,.tmp 8]) Tryz.func76 rfl rfl (by kernel_rfl) (Nat.le_of_ble_eq_true rfl) (Eq.mp (by kernel_rfl) h)
def sh_71 (a0 a1 a2:Value) (K:Value → World → Prop) (w:World):Prop:=
 oM prog (.box 26 (.tmp 0)) 0 [a0] (fun v3 w=>
 oM prog (.load 26 (.tmp 0)) 26 [v3] (fun v11 w=>
 callM prog 21 #[v11] (fun v12 w=>
 oM prog (.unOp .not 4 (.tmp 0)) 4 [v12] (fun v13 w=>
 gdM (gd v13 false) (pureM a2) (fun v15 w=>
 gdM (gd v13 false) (oM prog (.call (Go.Call.mk (.builtin .len) #[(.tmp 0)] #[24])) 3 [v15]) (fun v16 w=>
 gdM (gd v13 false) (oM prog (.binOp .gtr 3 (.tmp 0) (.tmp 1) 3) 4 [v16,(.int .i64 60)]) (fun v17 w=>
 oM prog (.pick (.tmp 0) (.tmp 1) (.tmp 2)) 4 [v13,(.bool true),v17] (fun v18 w=>
 condM v18
 (K (.int .i64 0) w)
 (oM prog (.fieldAddr 26 (.tmp 0) 0) 0 [v3] (fun v19 w=>
 oM prog (.fieldAddr 23 (.tmp 0) 1) 0 [v19] (fun v20 w=>
 oM prog (.load 3 (.tmp 0)) 3 [v20] (fun v21 w=>
 callM prog 42 #[v21,a1,(.int .i64 0)] (fun v24 w=>
 oM prog (.call (Go.Call.mk (.builtin .len) #[(.tmp 0)] #[24])) 3 [a2] (fun v26 w=>
 loopM [undef,undef,v24,(.int .i64 0)] w (fun J_14 m_15 l_16 u_l_16 w0_l_16=>(fun w=>(
 oM prog (.binOp .lss 3 (.tmp 0) (.tmp 1) 3) 0 [(l_16.getD 3 undef),v26] (fun v28 w=>
 condM v28
 (oM prog (.indexAddr 24 (.tmp 0) (.tmp 1)) 0 [a2,(l_16.getD 3 undef)] (fun v30 w=>
 oM prog (.load 3 (.tmp 0)) 3 [v30] (fun v31 w=>
 oM prog (.binOp .shl 3 (.tmp 0) (.tmp 1) 3) 3 [(.int .i64 1),(l_16.getD 3 undef)] (fun v37 w=>
 callM prog 43 #[v21,v31,v37] (fun v38 w=>
 callM prog 48 #[v21,(l_16.getD 2 undef),v38] (fun v39 w=>
 oM prog (.binOp .add 3 (.tmp 0) (.tmp 1) 3) 3 [(l_16.getD 3 undef),(.int .i64 1)] (fun v40 w=>
 J_14 [(l_16.getD 3 undef),v31,v39,v40] w ∧ m_15 [(l_16.getD 3 undef),v31,v39,v40] w < m_15 l_16 w0_l_16) w) w) w) w) w) w)
 (K (l_16.getD 2 undef) w)) w)) w0_l_16)) w) w) w) w) w)) w) w) w) w) w) w) w) w
theorem sh_71_ok {a0 a1 a2:Value} {K:Value → World → Prop} {w:World} (h:sh_71 a0 a1 a2 K w):callM prog 71 #[a0,a1,a2] K w:=
 calls_of_code (fun _=>0) (fn:=Tryz.f71) (rs:=[.tmp 6]) Tryz.func71 rfl rfl (by kernel_rfl) (Nat.le_of_ble_eq_true rfl) (Eq.mp (by kernel_rfl) h)
def sh_128 (a0 a1 a2 a3:Value) (K:Value → World → Prop) (w:World):Prop:=
 oM prog (.box 26 (.tmp 0)) 0 [a0] (fun v4 w=>
 heldM w (fun C_2 w=>(((true:Bool) = true) ∧ (pureH a3 C_2 (fun v9=>
 pureH a1 C_2 (fun v11=>
 pureH a2 C_2 (fun v12=>
 oH prog (.fieldAddr 26 (.tmp 0) 0) 0 [v4] C_2 (fun v16=>
 oH prog (.fieldAddr 23 (.tmp 0) 1) 0 [v16] C_2 (fun v17=>
 oH prog (.load 3 (.tmp 0)) 3 [v17] C_2 (fun v18=>
 ∃ S_9:World → World → Prop,∃ R_10:Value → World → Prop,(∀ v w w_1,S_9 w w_1 → R_10 v w → R_10 v w_1) ∧
 (∀ w,C_2 w → (callM prog 160 #[v9] (fun v w_1=>C_2 w_1 ∧ S_9 w w_1 ∧ R_10 v w_1) w)) ∧
 (∃ R_11:Value → World → Prop,(∀ v w w_1,S_9 w w_1 → R_11 v w → R_11 v w_1) ∧
 (∀ w,C_2 w → (oM prog (.buildSlice 24 2 #[(0,(.tmp 0)),(1,(.tmp 1))]) 24 [v11,v12] (fun v w_1=>C_2 w_1 ∧ S_9 w w_1 ∧ R_11 v w_1) w)) ∧
 (∃ R_12:Value → World → Prop,(∀ v w w_1,S_9 w w_1 → R_12 v w → R_12 v w_1) ∧
 (∀ w,C_2 w → ∀ v13,R_11 v13 w → (callM prog 114 #[v13] (fun v w_1=>C_2 w_1 ∧ S_9 w w_1 ∧ R_12 v w_1) w)) ∧
 (∃ R_14:Value → World → Prop,(∀ v w w_1,S_9 w w_1 → R_14 v w → R_14 v w_1) ∧
 (∀ w,C_2 w → ∀ v10,R_10 v10 w → ∀ v14,R_12 v14 w → (oM prog (.binOp .add 9 (.tmp 0) (.tmp 1) 9) 9 [v10,v14] (fun v w_1=>C_2 w_1 ∧ S_9 w w_1 ∧ R_14 v w_1) w)) ∧
 (∀ w,C_2 w → ∀ v10,R_10 v10 w → ∀ v13,R_11 v13 w → ∀ v14,R_12 v14 w → ∀ v15,R_14 v15 w → (
 callM prog 159 #[v15,v18] (fun v19 w=>
 K v19 w) w))))))))))))))) w
theorem sh_128_ok {a0 a1 a2 a3:Value} {K:Value → World → Prop} {w:World} (h:sh_128 a0 a1 a2 a3 K w):callM prog 128 #[a0,a1,a2,a3] K w:=
 calls_of_code (fun _=>.free [0,2,3,7,8,9] [1,4,5,6] [10,11]) (fn:=Tryz.f128) (rs:=[.tmp 8]) Tryz.func128 rfl rfl (by kernel_rfl) (Nat.le_of_ble_eq_true rfl) (Eq.mp (by kernel_rfl) h)
def sh_45 (a0 a1 a2 a3:Value) (K:Value → World → Prop) (w:World):Prop:=
 oM prog (.box 26 (.tmp 0)) 0 [a0] (fun v4 w=>
 oM prog (.alloc 74) 0 [] (fun v8 w=>
 oM prog (.load 26 (.tmp 0)) 26 [v4] (fun v12 w=>
 callM prog 21 #[v12] (fun v13 w=>
 oM prog (.unOp .not 4 (.tmp 0)) 4 [v13] (fun v14 w=>
 gdM (gd v14 false) (oM prog (.load 26 (.tmp 0)) 26 [v4]) (fun v16 w=>
 gdM (gd v14 false) (pureM a1) (fun v17 w=>
 gdM (gd v14 false) (callM prog 127 #[v16,v17]) (fun v18 w=>
 gdM (gd v14 false) (oM prog (.unOp .not 4 (.tmp 0)) 4 [v18]) (fun v19 w=>
 oM prog (.pick (.tmp 0) (.tmp 1) (.tmp 2)) 4 [v14,(.bool true),v19] (fun v20 w=>
 gdM (gd v20 false) (oM prog (.load 26 (.tmp 0)) 26 [v4]) (fun v22 w=>
 gdM (gd v20 false) (pureM a2) (fun v23 w=>
 gdM (gd v20 false) (callM prog 127 #[v22,v23]) (fun v24 w=>
 gdM (gd v20 false) (oM prog (.unOp .not 4 (.tmp 0)) 4 [v24]) (fun v25 w=>
 oM prog (.pick (.tmp 0) (.tmp 1) (.tmp 2)) 4 [v20,(.bool true),v25] (fun v26 w=>
 condM v26
 (oM prog (.build 74 #[]) 74 [] (fun v27 w=>
 oM prog (.store 74 (.tmp 0) (.tmp 1)) 0 [v8,v27] (fun _ w=>
 ∃ r_17,(do loadVar 74 (← asAddr v8):Sem Value).run prog w = .ok r_17 w ∧ K (.tuple #[r_17,(.bool false)]) w) w) w)
 (oM prog (.fieldAddr 26 (.tmp 0) 0) 0 [v4] (fun v28 w=>
 oM prog (.load 23 (.tmp 0)) 23 [v28] (fun v29 w=>
 oM prog (.alloc 23) 0 [] (fun v10 w=>
 oM prog (.store 23 (.tmp 0) (.tmp 1)) 0 [v10,v29] (fun _ w=>
 heldM w (fun C_21 w=>(((true:Bool) = true) ∧ (oH prog (.load 26 (.tmp 0)) 26 [v4] C_21 (fun v30=>
 oH prog (.load 23 (.tmp 0)) 23 [v10] C_21 (fun v31=>
 oH prog (.fieldAddr 23 (.tmp 0) 2) 0 [v10] C_21 (fun v32=>
 oH prog (.load 3 (.tmp 0)) 3 [v32] C_21 (fun v33=>
 pureH a1 C_21 (fun v34=>
 oH prog (.load 23 (.tmp 0)) 23 [v10] C_21 (fun v36=>
 oH prog (.fieldAddr 23 (.tmp 0) 2) 0 [v10] C_21 (fun v37=>
 oH prog (.load 3 (.tmp 0)) 3 [v37] C_21 (fun v38=>
 pureH a2 C_21 (fun v39=>
 pureH a3 C_21 (fun v41=>
 ∃ S_32:World → World → Prop,∃ R_33:Value → World → Prop,(∀ v w w_1,S_32 w w_1 → R_33 v w → R_33 v w_1) ∧
 (∀ w,C_21 w → (callM prog 46 #[v31,v33,v34] (fun v w_1=>C_21 w_1 ∧ S_32 w w_1 ∧ R_33 v w_1) w)) ∧
 (∃ R_34:Value → World → Prop,(∀ v w w_1,S_32 w w_1 → R_34 v w → R_34 v w_1) ∧
 (∀ w,C_21 w → (callM prog 46 #[v36,v38,v39] (fun v w_1=>C_21 w_1 ∧ S_32 w w_1 ∧ R_34 v w_1) w)) ∧
 (∀ w,C_21 w → ∀ v35,R_33 v35 w → ∀ v40,R_34 v40 w → (
 callM prog 128 #[v30,v35,v40,v41] (fun v42 w=>
 heldM w (fun C_38 w=>(((true:Bool) = true) ∧ (pureH v42 C_38 (fun v43=>
 oH prog (.fieldAddr 23 (.tmp 0) 1) 0 [v10] C_38 (fun v44=>
 oH prog (.load 3 (.tmp 0)) 3 [v44] C_38 (fun v45=>
 pureH a2 C_38 (fun v46=>
 oH prog (.fieldAddr 23 (.tmp 0) 1) 0 [v10] C_38 (fun v47=>
 oH prog (.load 3 (.tmp 0)) 3 [v47] C_38 (fun v48=>
 pureH v42 C_38 (fun v49=>
 pureH a1 C_38 (fun v50=>
 ∃ S_47:World → World → Prop,∃ R_48:Value → World → Prop,(∀ v w w_1,S_47 w w_1 → R_48 v w → R_48 v w_1) ∧
 (∀ w,C_38 w → (callM prog 43 #[v48,v49,v50] (fun v w_1=>C_38 w_1 ∧ S_47 w w_1 ∧ R_48 v w_1) w)) ∧
 (∃ R_49:Value → World → Prop,(∀ v w w_1,S_47 w w_1 → R_49 v w → R_49 v w_1) ∧
 (∀ w,C_38 w → ∀ v51,R_48 v51 w → (callM prog 42 #[v45,v46,v51] (fun v w_1=>C_38 w_1 ∧ S_47 w w_1 ∧ R_49 v w_1) w)) ∧
 (∀ w,C_38 w → ∀ v51,R_48 v51 w → ∀ v52,R_49 v52 w → (
 oM prog (.build 74 #[(0,(.tmp 0)),(1,(.tmp 1))]) 74 [v43,v52] (fun v53 w=>
 oM prog (.store 74 (.tmp 0) (.tmp 1)) 0 [v8,v53] (fun _ w=>
 ∃ r_54,(do loadVar 74 (← asAddr v8):Sem Value).run prog w = .ok r_54 w ∧ K (.tuple #[r_54,(.bool true)]) w) w) w))))))))))))))) w))))))))))))))))) w) w) w) w)) w) w) w) w) w) w) w) w) w) w) w) w) w) w) w
theorem sh_45_ok {a0 a1 a2 a3:Value} {K:Value → World → Prop} {w:World} (h:sh_45 a0 a1 a2 a3 K w):callM prog 45 #[a0,a1,a2,a3] K w:=
 calls_of_code (fun i=>bif Nat.beq i 4 then .free [0,1,2,3,4,6,7,8,9,11] [5,10] [12,13] else bif Nat.beq i 5 then .free [0,1,2,3,4,5,6,7] [8,9] [10,11,12] else 0) (fn:=Tryz.f45) (rs:=[.cell 8 74,.tmp 9]) Tryz.func45 rfl rfl (by kernel_rfl) (Nat.le_of_ble_eq_true rfl) (Eq.mp (by kernel_rfl) h)
def sh_47 (a0 a1 a2 a3:Value) (K:Value → World → Prop) (w:World):Prop:=
 oM prog (.box 26 (.tmp 0)) 0 [a0] (fun v4 w=>
 oM prog (.box 74 (.tmp 0)) 0 [a3] (fun v7 w=>
 oM prog (.fieldAddr 26 (.tmp 0) 0) 0 [v4] (fun v11 w=>
 oM prog (.load 23 (.tmp 0)) 23 [v11] (fun v12 w=>
 oM prog (.alloc 23) 0 [] (fun v9 w=>
 oM prog (.store 23 (.tmp 0) (.tmp 1)) 0 [v9,v12] (fun _ w=>
 oM prog (.load 26 (.tmp 0)) 26 [v4] (fun v13 w=>
 callM prog 21 #[v13] (fun v14 w=>
 oM prog (.unOp .not 4 (.tmp 0)) 4 [v14] (fun v15 w=>
 gdM (gd v15 false) (oM prog (.load 23 (.tmp 0)) 23 [v9]) (fun v17 w=>
 gdM (gd v15 false) (pureM a1) (fun v18 w=>
 gdM (gd v15 false) (callM prog 109 #[v17,v18]) (fun v19 w=>
 gdM (gd v15 false) (oM prog (.unOp .not 4 (.tmp 0)) 4 [v19]) (fun v20 w=>
 oM prog (.pick (.tmp 0) (.tmp 1) (.tmp 2)) 4 [v15,(.bool true),v20] (fun v21 w=>
 gdM (gd v21 false) (oM prog (.load 26 (.tmp 0)) 26 [v4]) (fun v23 w=>
 gdM (gd v21 false) (oM prog (.fieldAddr 74 (.tmp 0) 0) 0 [v7]) (fun v24 w=>
 gdM (gd v21 false) (oM prog (.load 3 (.tmp 0)) 3 [v24]) (fun v25 w=>
 gdM (gd v21 false) (callM prog 127 #[v23,v25]) (fun v26 w=>
 gdM (gd v21 false) (oM prog (.unOp .not 4 (.tmp 0)) 4 [v26]) (fun v27 w=>
 oM prog (.pick (.tmp 0) (.tmp 1) (.tmp 2)) 4 [v21,(.bool true),v27] (fun v28 w=>
 gdM (gd v28 false) (oM prog (.load 26 (.tmp 0)) 26 [v4]) (fun v30 w=>
 gdM (gd v28 false) (oM prog (.fieldAddr 74 (.tmp 0) 1) 0 [v7]) (fun v31 w=>
 gdM (gd v28 false) (oM prog (.load 3 (.tmp 0)) 3 [v31]) (fun v32 w=>
 gdM (gd v28 false) (callM prog 127 #[v30,v32]) (fun v33 w=>
 gdM (gd v28 false) (oM prog (.unOp .not 4 (.tmp 0)) 4 [v33]) (fun v34 w=>
 oM prog (.pick (.tmp 0) (.tmp 1) (.tmp 2)) 4 [v28,(.bool true),v34] (fun v35 w=>
 condM v35
 (K (.bool false) w)
 (heldM w (fun C_26 w=>(((true:Bool) = true) ∧ (oH prog (.load 23 (.tmp 0)) 23 [v9] C_26 (fun v36=>
 oH prog (.load 23 (.tmp 0)) 23 [v9] C_26 (fun v37=>
 oH prog (.fieldAddr 23 (.tmp 0) 2) 0 [v9] C_26 (fun v38=>
 oH prog (.load 3 (.tmp 0)) 3 [v38] C_26 (fun v39=>
 oH prog (.fieldAddr 74 (.tmp 0) 1) 0 [v7] C_26 (fun v40=>
 oH prog (.load 3 (.tmp 0)) 3 [v40] C_26 (fun v41=>
 oH prog (.load 23 (.tmp 0)) 23 [v9] C_26 (fun v43=>
 pureH a1 C_26 (fun v44=>
 oH prog (.fieldAddr 74 (.tmp 0) 0) 0 [v7] C_26 (fun v45=>
 oH prog (.load 3 (.tmp 0)) 3 [v45] C_26 (fun v46=>
 ∃ S_37:World → World → Prop,∃ R_38:Value → World → Prop,(∀ v w w_1,S_37 w w_1 → R_38 v w → R_38 v w_1) ∧
 (∀ w,C_26 w → (callM prog 46 #[v37,v39,v41] (fun v w_1=>C_26 w_1 ∧ S_37 w w_1 ∧ R_38 v w_1) w)) ∧
 (∃ R_39:Value → World → Prop,(∀ v w w_1,S_37 w w_1 → R_39 v w → R_39 v w_1) ∧
 (∀ w,C_26 w → (callM prog 46 #[v43,v44,v46] (fun v w_1=>C_26 w_1 ∧ S_37 w w_1 ∧ R_39 v w_1) w)) ∧
 (∀ w,C_26 w → ∀ v42,R_38 v42 w → ∀ v47,R_39 v47 w → (
 callM prog 121 #[v36,v42,v47] (fun v48 w=>
 heldM w (fun C_43 w=>(((true:Bool) = true) ∧ (oH prog (.load 26 (.tmp 0)) 26 [v4] C_43 (fun v49=>
 pureH a1 C_43 (fun v50=>
 pureH v48 C_43 (fun v51=>
 pureH a2 C_43 (fun v52=>
 oH prog (.fieldAddr 74 (.tmp 0) 0) 0 [v7] C_43 (fun v54=>
 oH prog (.load 3 (.tmp 0)) 3 [v54] C_43 (fun v55=>
 ∃ S_50:World → World → Prop,∃ R_51:Value → World → Prop,(∀ v w w_1,S_50 w w_1 → R_51 v w → R_51 v w_1) ∧
 (∀ w,C_43 w → (callM prog 128 #[v49,v50,v51,v52] (fun v w_1=>C_43 w_1 ∧ S_50 w w_1 ∧ R_51 v w_1) w)) ∧
 (∀ w,C_43 w → ∀ v53,R_51 v53 w → (
 oM prog (.binOp .eql 3 (.tmp 0) (.tmp 1) 3) 4 [v53,v55] (fun v56 w=>
 K v56 w) w)))))))))))) w)))))))))))))))))) w) w) w) w) w) w) w) w) w) w) w) w) w) w) w) w) w) w) w) w) w) w) w) w) w) w
theorem sh_47_ok {a0 a1 a2 a3:Value} {K:Value → World → Prop} {w:World} (h:sh_47 a0 a1 a2 a3 K w):callM prog 47 #[a0,a1,a2,a3] K w:=
 calls_of_code (fun i=>bif Nat.beq i 4 then .free [0,1,2,3,4,5,7,8,9,10] [6,11] [12,13] else bif Nat.beq i 5 then .free [0,1,2,3,5,6] [4] [7,8] else 0) (fn:=Tryz.f47) (rs:=[.tmp 8]) Tryz.func47 rfl rfl (by kernel_rfl) (Nat.le_of_ble_eq_true rfl) (Eq.mp (by kernel_rfl) h)
def sh_51 (a0:Value) (K:Value → World → Prop) (w:World):Prop:=
 oM prog (.box 34 (.tmp 0)) 0 [a0] (fun v1 w=>
 oM prog (.fieldAddr 34 (.tmp 0) 0) 0 [v1] (fun v9 w=>
 oM prog (.load 30 (.tmp 0)) 30 [v9] (fun v10 w=>
 oM prog (.call (Go.Call.mk (.builtin .len) #[(.tmp 0)] #[30])) 3 [v10] (fun v11 w=>
 oM prog (.fieldAddr 34 (.tmp 0) 1) 0 [v1] (fun v12 w=>
 oM prog (.load 29 (.tmp 0)) 29 [v12] (fun v13 w=>
 oM prog (.call (Go.Call.mk (.builtin .len) #[(.tmp 0)] #[29])) 3 [v13] (fun v14 w=>
 oM prog (.binOp .neq 3 (.tmp 0) (.tmp 1) 3) 4 [v11,v14] (fun v15 w=>
 condM v15
 (K (.tuple #[(.string ⟨#[]⟩),(.bool false)]) w)
 (oM prog (.fieldAddr 34 (.tmp 0) 0) 0 [v1] (fun v16 w=>
 oM prog (.load 30 (.tmp 0)) 30 [v16] (fun v17 w=>
 oM prog (.call (Go.Call.mk (.builtin .len) #[(.tmp 0)] #[30])) 3 [v17] (fun v18 w=>
 oM prog (.buildSlice 24 1 #[(0,(.tmp 0))]) 24 [v18] (fun v19 w=>
 oM prog (.fieldAddr 34 (.tmp 0) 0) 0 [v1] (fun v20 w=>
 oM prog (.load 30 (.tmp 0)) 30 [v20] (fun v21 w=>
 oM prog (.call (Go.Call.mk (.builtin .len) #[(.tmp 0)] #[30])) 3 [v21] (fun v22 w=>
 loopM [undef,undef,(.string ⟨#[]⟩),(.bool false),v19,undef,undef,(.int .i64 0)] w (fun J_16 m_17 l_18 u_l_18 w0_l_18=>(fun w=>(
 oM prog (.binOp .lss 3 (.tmp 0) (.tmp 1) 3) 0 [(l_18.getD 7 undef),v22] (fun v24 w=>
 condM v24
 (oM prog (.indexAddr 30 (.tmp 0) (.tmp 1)) 0 [v21,(l_18.getD 7 undef)] (fun v26 w=>
 oM prog (.load 24 (.tmp 0)) 24 [v26] (fun v27 w=>
 oM prog (.call (Go.Call.mk (.builtin .len) #[(.tmp 0)] #[24])) 3 [v27] (fun v29 w=>
 oM prog (.fieldAddr 34 (.tmp 0) 1) 0 [v1] (fun v30 w=>
 oM prog (.load 29 (.tmp 0)) 29 [v30] (fun v31 w=>
 oM prog (.indexAddr 29 (.tmp 0) (.tmp 1)) 0 [v31,(l_18.getD 7 undef)] (fun v33 w=>
 oM prog (.load 30 (.tmp 0)) 30 [v33] (fun v34 w=>
 oM prog (.call (Go.Call.mk (.builtin .len) #[(.tmp 0)] #[30])) 3 [v34] (fun v35 w=>
 oM prog (.binOp .neq 3 (.tmp 0) (.tmp 1) 3) 4 [v29,v35] (fun v36 w=>
 condM v36
 (K (.tuple #[(.string ⟨#[]⟩),(.bool false)]) w)
 (oM prog (.call (Go.Call.mk (.builtin .len) #[(.tmp 0)] #[24])) 3 [v27] (fun v39 w=>
 oM prog (.buildSlice 24 1 #[(0,(.tmp 0))]) 24 [v39] (fun v40 w=>
 oM prog (.call (Go.Call.mk (.builtin .append) #[(.tmp 0),(.tmp 1)] #[24,24])) 24 [(l_18.getD 4 undef),v40] (fun v41 w=>
 oM prog (.call (Go.Call.mk (.builtin .len) #[(.tmp 0)] #[24])) 3 [v27] (fun v43 w=>
 loopM [(l_18.getD 5 undef),(l_18.getD 6 undef),v41,(.int .i64 0)] w (fun J_33 m_34 l_35 u_l_35 w0_l_35=>(fun w=>(
 oM prog (.binOp .lss 3 (.tmp 0) (.tmp 1) 3) 0 [(l_35.getD 3 undef),v43] (fun v45 w=>
 condM v45
 (oM prog (.indexAddr 24 (.tmp 0) (.tmp 1)) 0 [v27,(l_35.getD 3 undef)] (fun v47 w=>
 oM prog (.load 3 (.tmp 0)) 3 [v47] (fun v48 w=>
 heldM w (fun C_39 w=>(pureH (l_35.getD 2 undef) C_39 (fun v49=>
 pureH v48 C_39 (fun v50=>
 oH prog (.fieldAddr 34 (.tmp 0) 1) 0 [v1] C_39 (fun v51=>
 oH prog (.load 29 (.tmp 0)) 29 [v51] C_39 (fun v52=>
 pureH (l_18.getD 7 undef) C_39 (fun v53=>
 oH prog (.indexAddr 29 (.tmp 0) (.tmp 1)) 0 [v52,v53] C_39 (fun v54=>
 oH prog (.load 30 (.tmp 0)) 30 [v54] C_39 (fun v55=>
 pureH (l_35.getD 3 undef) C_39 (fun v56=>
 oH prog (.indexAddr 30 (.tmp 0) (.tmp 1)) 0 [v55,v56] C_39 (fun v57=>
 oH prog (.load 24 (.tmp 0)) 24 [v57] C_39 (fun v58=>
 oH prog (.call (Go.Call.mk (.builtin .len) #[(.tmp 0)] #[24])) 3 [v58] C_39 (fun v59=>
 oH prog (.fieldAddr 34 (.tmp 0) 1) 0 [v1] C_39 (fun v62=>
 oH prog (.load 29 (.tmp 0)) 29 [v62] C_39 (fun v63=>
 pureH (l_18.getD 7 undef) C_39 (fun v64=>
 oH prog (.indexAddr 29 (.tmp 0) (.tmp 1)) 0 [v63,v64] C_39 (fun v65=>
 oH prog (.load 30 (.tmp 0)) 30 [v65] C_39 (fun v66=>
 pureH (l_35.getD 3 undef) C_39 (fun v67=>
 oH prog (.indexAddr 30 (.tmp 0) (.tmp 1)) 0 [v66,v67] C_39 (fun v68=>
 oH prog (.load 24 (.tmp 0)) 24 [v68] C_39 (fun v69=>
 oM prog (.buildSlice 24 2 #[(0,(.tmp 0)),(1,(.tmp 1))]) 24 [v50,v59] (fun v60 w=>C_39 w ∧ (
 oM prog (.call (Go.Call.mk (.builtin .append) #[(.tmp 0),(.tmp 1)] #[24,24])) 24 [v49,v60] (fun v61 w=>C_39 w ∧ (
 oM prog (.call (Go.Call.mk (.builtin .append) #[(.tmp 0),(.tmp 1)] #[24,24])) 24 [v61,v69] (fun v70 w=>C_39 w ∧ (
 C_39 w ∧ (oM prog (.binOp .add 3 (.tmp 0) (.tmp 1) 3) 3 [(l_35.getD 3 undef),(.int .i64 1)] (fun v71 w=>
 J_33 [(l_35.getD 3 undef),v48,v70,v71] w ∧ m_34 [(l_35.getD 3 undef),v48,v70,v71] w < m_34 l_35 w0_l_35) w))) w)) w)) w)))))))))))))))))))))) w) w)
 (oM prog (.binOp .add 3 (.tmp 0) (.tmp 1) 3) 3 [(l_18.getD 7 undef),(.int .i64 1)] (fun v72 w=>
 J_16 [(l_18.getD 7 undef),v27,(l_18.getD 2 undef),(l_18.getD 3 undef),(l_35.getD 2 undef),(l_35.getD 0 undef),(l_35.getD 1 undef),v72] w ∧ m_17 [(l_18.getD 7 undef),v27,(l_18.getD 2 undef),(l_18.getD 3 undef),(l_35.getD 2 undef),(l_35.getD 0 undef),(l_35.getD 1 undef),v72] w < m_17 l_18 w0_l_18) w)) w)) w0_l_35)) w) w) w) w)) w) w) w) w) w) w) w) w) w)
 (callM prog 114 #[(l_18.getD 4 undef)] (fun v74 w=>
 K (.tuple #[v74,(.bool true)]) w) w)) w)) w0_l_18)) w) w) w) w) w) w) w)) w) w) w) w) w) w) w) w
theorem sh_51_ok {a0:Value} {K:Value → World → Prop} {w:World} (h:sh_51 a0 K w):callM prog 51 #[a0] K w:=
 calls_of_code (fun _=>.tree (.look 0 (.look 1 (.look 2 (.look 3 (.look 4 (.look 5 (.look 6 (.look 7 (.look 8 (.look 9 (.look 10 (.look 13 (.look 14 (.look 15 (.look 16 (.look 17 (.look 18 (.look 19 (.look 20 (.only 11 (.only 12 (.only 21 (.only 22 (.done))))))))))))))))))))))))) (fn:=Tryz.f51) (rs:=[.tmp 2,.tmp 3]) Tryz.func51 rfl rfl (by kernel_rfl) (Nat.le_of_ble_eq_true rfl) (Eq.mp (by kernel_rfl) h)
def sh_134 (a0:Value) (K:Value → World → Prop) (w:World):Prop:=
 oM prog (.nilCheck (.tmp 0)) 0 [a0] (fun v5 w=>
 oM prog (.fieldAddr 160 (.tmp 0) 0) 0 [v5] (fun v6 w=>
 oM prog (.load 24 (.tmp 0)) 24 [v6] (fun v7 w=>
 oM prog (.call (Go.Call.mk (.builtin .len) #[(.tmp 0)] #[24])) 3 [v7] (fun v8 w=>
 oM prog (.binOp .eql 3 (.tmp 0) (.const (.int .i64 0)) 3) 4 [v8] (fun v9 w=>
 condM v9
 (oM prog (.nilCheck (.tmp 0)) 0 [a0] (fun v11 w=>
 oM prog (.fieldAddr 160 (.tmp 0) 1) 0 [v11] (fun v12 w=>
 oM prog (.store 4 (.tmp 0) (.tmp 1)) 0 [v12,(.bool true)] (fun _ w=>
 K (.int .i64 0) w) w) w) w)
 (oM prog (.nilCheck (.tmp 0)) 0 [a0] (fun v14 w=>
 oM prog (.fieldAddr 160 (.tmp 0) 0) 0 [v14] (fun v15 w=>
 oM prog (.load 24 (.tmp 0)) 24 [v15] (fun v16 w=>
 oM prog (.indexAddr 24 (.tmp 0) (.tmp 1)) 0 [v16,(.int .i64 0)] (fun v17 w=>
 oM prog (.load 3 (.tmp 0)) 3 [v17] (fun v18 w=>
 oM prog (.nilCheck (.tmp 0)) 0 [a0] (fun v21 w=>
 oM prog (.fieldAddr 160 (.tmp 0) 0) 0 [v21] (fun v22 w=>
 oM prog (.load 24 (.tmp 0)) 24 [v22] (fun v23 w=>
 oM prog (.slice 24 (.tmp 0) (some (.tmp 1)) none none) 24 [v23,(.int .i64 1)] (fun v24 w=>
 oM prog (.nilCheck (.tmp 0)) 0 [a0] (fun v25 w=>
 oM prog (.fieldAddr 160 (.tmp 0) 0) 0 [v25] (fun v26 w=>
 oM prog (.store 24 (.tmp 0) (.tmp 1)) 0 [v26,v24] (fun _ w=>
 K v18 w) w) w) w) w) w) w) w) w) w) w) w) w)) w) w) w) w) w
theorem sh_134_ok {a0:Value} {K:Value → World → Prop} {w:World} (h:sh_134 a0 K w):callM prog 134 #[a0] K w:=
 calls_of_code (fun _=>0) (fn:=Tryz.f134) (rs:=[.tmp 2]) Tryz.func134 rfl rfl (by kernel_rfl) (Nat.le_of_ble_eq_true rfl) (Eq.mp (by kernel_rfl) h)
def sh_133 (a0:Value) (K:Value → World → Prop) (w:World):Prop:=
 callM prog 134 #[a0] (fun v5 w=>
 oM prog (.binOp .lss 3 (.tmp 0) (.tmp 1) 3) 4 [v5,(.int .i64 0)] (fun v7 w=>
 gdM (gd v7 false) (pureM v5) (fun v9 w=>
 gdM (gd v7 false) (pureM a0) (fun v10 w=>
 gdM (gd v7 false) (oM prog (.nilCheck (.tmp 0)) 0 [v10]) (fun v11 w=>
 gdM (gd v7 false) (oM prog (.fieldAddr 160 (.tmp 0) 0) 0 [v11]) (fun v12 w=>
 gdM (gd v7 false) (oM prog (.load 24 (.tmp 0)) 24 [v12]) (fun v13 w=>
 gdM (gd v7 false) (oM prog (.call (Go.Call.mk (.builtin .len) #[(.tmp 0)] #[24])) 3 [v13]) (fun v14 w=>
 gdM (gd v7 false) (oM prog (.binOp .gtr 3 (.tmp 0) (.tmp 1) 3) 4 [v9,v14]) (fun v15 w=>
 oM prog (.pick (.tmp 0) (.tmp 1) (.tmp 2)) 4 [v7,(.bool true),v15] (fun v16 w=>
 condM v16
 (oM prog (.nilCheck (.tmp 0)) 0 [a0] (fun v18 w=>
 oM prog (.fieldAddr 160 (.tmp 0) 1) 0 [v18] (fun v19 w=>
 oM prog (.store 4 (.tmp 0) (.tmp 1)) 0 [v19,(.bool true)] (fun _ w=>
 K (.int .i64 0) w) w) w) w)
 (K v5 w)) w) w) w) w) w) w) w) w) w) w
theorem sh_133_ok {a0:Value} {K:Value → World → Prop} {w:World} (h:sh_133 a0 K w):callM prog 133 #[a0] K w:=
 calls_of_code (fun _=>0) (fn:=Tryz.f133) (rs:=[.tmp 2]) Tryz.func133 rfl rfl (by kernel_rfl) (Nat.le_of_ble_eq_true rfl) (Eq.mp (by kernel_rfl) h)
def sh_52 (a0:Value) (K:Value → World → Prop) (w:World):Prop:=
 oM prog (.alloc 34) 0 [] (fun v2 w=>
 callM prog 130 #[a0] (fun v11 w=>
 callM prog 131 #[v11] (fun v13 w=>
 oM prog (.build 160 #[(0,(.tmp 0))]) 160 [v13] (fun v14 w=>
 oM prog (.box 160 (.tmp 0)) 157 [v14] (fun v15 w=>
 callM prog 132 #[v11] (fun v17 w=>
 oM prog (.unOp .not 4 (.tmp 0)) 4 [v17] (fun v18 w=>
 condM v18
 (oM prog (.build 34 #[]) 34 [] (fun v19 w=>
 oM prog (.store 34 (.tmp 0) (.tmp 1)) 0 [v2,v19] (fun _ w=>
 ∃ r_9,(do loadVar 34 (← asAddr v2):Sem Value).run prog w = .ok r_9 w ∧ K (.tuple #[r_9,(.bool false)]) w) w) w)
 (oM prog (.alloc 34) 0 [] (fun v6 w=>
 callM prog 133 #[v15] (fun v21 w=>
 loopM [undef,undef,undef,(.int .i64 0)] w (fun J_12 m_13 l_14 u_l_14 w0_l_14=>(fun w=>(
 oM prog (.binOp .lss 3 (.tmp 0) (.tmp 1) 3) 4 [(l_14.getD 3 undef),v21] (fun v23 w=>
 condM v23
 (callM prog 133 #[v15] (fun v25 w=>
 loopM [(.slice none 0 0),(l_14.getD 2 undef),(.slice none 0 0),(.int .i64 0)] w (fun J_17 m_18 l_19 u_l_19 w0_l_19=>(fun w=>(
 oM prog (.binOp .lss 3 (.tmp 0) (.tmp 1) 3) 4 [(l_19.getD 3 undef),v25] (fun v27 w=>
 condM v27
 (callM prog 134 #[v15] (fun v30 w=>
 oM prog (.buildSlice 24 1 #[(0,(.tmp 0))]) 24 [v30] (fun v31 w=>
 oM prog (.call (Go.Call.mk (.builtin .append) #[(.tmp 0),(.tmp 1)] #[24,24])) 24 [(l_19.getD 0 undef),v31] (fun v32 w=>
 callM prog 133 #[v15] (fun v34 w=>
 oM prog (.nilCheck (.tmp 0)) 0 [v15] (fun v37 w=>
 oM prog (.fieldAddr 160 (.tmp 0) 0) 0 [v37] (fun v38 w=>
 oM prog (.load 24 (.tmp 0)) 24 [v38] (fun v39 w=>
 oM prog (.slice 24 (.tmp 0) none (some (.tmp 1)) none) 24 [v39,v34] (fun v41 w=>
 callM prog 96 #[v41] (fun v42 w=>
 oM prog (.buildSlice 30 1 #[(0,(.tmp 0))]) 30 [v42] (fun v43 w=>
 oM prog (.call (Go.Call.mk (.builtin .append) #[(.tmp 0),(.tmp 1)] #[30,30])) 30 [(l_19.getD 2 undef),v43] (fun v44 w=>
 oM prog (.nilCheck (.tmp 0)) 0 [v15] (fun v47 w=>
 oM prog (.fieldAddr 160 (.tmp 0) 0) 0 [v47] (fun v48 w=>
 oM prog (.load 24 (.tmp 0)) 24 [v48] (fun v49 w=>
 oM prog (.slice 24 (.tmp 0) (some (.tmp 1)) none none) 24 [v49,v34] (fun v51 w=>
 oM prog (.nilCheck (.tmp 0)) 0 [v15] (fun v52 w=>
 oM prog (.fieldAddr 160 (.tmp 0) 0) 0 [v52] (fun v53 w=>
 oM prog (.store 24 (.tmp 0) (.tmp 1)) 0 [v53,v51] (fun _ w=>
 oM prog (.binOp .add 3 (.tmp 0) (.tmp 1) 3) 3 [(l_19.getD 3 undef),(.int .i64 1)] (fun v54 w=>
 J_17 [v32,v34,v44,v54] w ∧ m_18 [v32,v34,v44,v54] w < m_18 l_19 w0_l_19) w) w) w) w) w) w) w) w) w) w) w) w) w) w) w) w) w) w) w)
 (heldM w (fun C_39 w=>(((true:Bool) = true) ∧ (oH prog (.fieldAddr 34 (.tmp 0) 0) 0 [v6] C_39 (fun v55=>
 oH prog (.load 30 (.tmp 0)) 30 [v55] C_39 (fun v56=>
 pureH (l_19.getD 0 undef) C_39 (fun v57=>
 oH prog (.fieldAddr 34 (.tmp 0) 1) 0 [v6] C_39 (fun v60=>
 oH prog (.load 29 (.tmp 0)) 29 [v60] C_39 (fun v61=>
 pureH (l_19.getD 2 undef) C_39 (fun v62=>
 ∃ S_46:World → World → Prop,∃ R_47:Value → World → Prop,(∀ v w w_1,S_46 w w_1 → R_47 v w → R_47 v w_1) ∧
 (∀ w,C_39 w → (oM prog (.buildSlice 30 1 #[(0,(.tmp 0))]) 30 [v57] (fun v w_1=>C_39 w_1 ∧ S_46 w w_1 ∧ R_47 v w_1) w)) ∧
 (∃ R_48:Value → World → Prop,(∀ v w w_1,S_46 w w_1 → R_48 v w → R_48 v w_1) ∧
 (∀ w,C_39 w → ∀ v58,R_47 v58 w → (oM prog (.call (Go.Call.mk (.builtin .append) #[(.tmp 0),(.tmp 1)] #[30,30])) 30 [v56,v58] (fun v w_1=>C_39 w_1 ∧ S_46 w w_1 ∧ R_48 v w_1) w)) ∧
 (∃ R_50:Value → World → Prop,(∀ v w w_1,S_46 w w_1 → R_50 v w → R_50 v w_1) ∧
 (∀ w,C_39 w → (oM prog (.buildSlice 29 1 #[(0,(.tmp 0))]) 29 [v62] (fun v w_1=>C_39 w_1 ∧ S_46 w w_1 ∧ R_50 v w_1) w)) ∧
 (∃ R_51:Value → World → Prop,(∀ v w w_1,S_46 w w_1 → R_51 v w → R_51 v w_1) ∧
 (∀ w,C_39 w → ∀ v63,R_50 v63 w → (oM prog (.call (Go.Call.mk (.builtin .append) #[(.tmp 0),(.tmp 1)] #[29,29])) 29 [v61,v63] (fun v w_1=>C_39 w_1 ∧ S_46 w w_1 ∧ R_51 v w_1) w)) ∧
 (∃ R_53:Value → World → Prop,(∀ v w w_1,S_46 w w_1 → R_53 v w → R_53 v w_1) ∧
 (∀ w,C_39 w → (oM prog (.fieldAddr 34 (.tmp 0) 0) 0 [v6] (fun v w_1=>C_39 w_1 ∧ S_46 w w_1 ∧ R_53 v w_1) w)) ∧
 (∀ w,C_39 w → ∀ v58,R_47 v58 w → ∀ v59,R_48 v59 w → ∀ v63,R_50 v63 w → ∀ v64,R_51 v64 w → ∀ v65,R_53 v65 w → (
 oM prog (.store 30 (.tmp 0) (.tmp 1)) 0 [v65,v59] (fun _ w=>
 oM prog (.fieldAddr 34 (.tmp 0) 1) 0 [v6] (fun v66 w=>
 oM prog (.store 29 (.tmp 0) (.tmp 1)) 0 [v66,v64] (fun _ w=>
 oM prog (.binOp .add 3 (.tmp 0) (.tmp 1) 3) 3 [(l_14.getD 3 undef),(.int .i64 1)] (fun v67 w=>
 J_12 [(l_19.getD 0 undef),(l_19.getD 2 undef),(l_19.getD 1 undef),v67] w ∧ m_13 [(l_19.getD 0 undef),(l_19.getD 2 undef),(l_19.getD 1 undef),v67] w < m_13 l_14 w0_l_14) w) w) w) w))))))))))))))))) w)) w0_l_19)) w)
 (oM prog (.nilCheck (.tmp 0)) 0 [v15] (fun v69 w=>
 oM prog (.fieldAddr 160 (.tmp 0) 1) 0 [v69] (fun v70 w=>
 oM prog (.load 4 (.tmp 0)) 4 [v70] (fun v71 w=>
 gdM (gd v71 false) (pureM v15) (fun v73 w=>
 gdM (gd v71 false) (oM prog (.nilCheck (.tmp 0)) 0 [v73]) (fun v74 w=>
 gdM (gd v71 false) (oM prog (.fieldAddr 160 (.tmp 0) 0) 0 [v74]) (fun v75 w=>
 gdM (gd v71 false) (oM prog (.load 24 (.tmp 0)) 24 [v75]) (fun v76 w=>
 gdM (gd v71 false) (oM prog (.call (Go.Call.mk (.builtin .len) #[(.tmp 0)] #[24])) 3 [v76]) (fun v77 w=>
 gdM (gd v71 false) (oM prog (.binOp .gtr 3 (.tmp 0) (.tmp 1) 3) 4 [v77,(.int .i64 0)]) (fun v78 w=>
 oM prog (.pick (.tmp 0) (.tmp 1) (.tmp 2)) 4 [v71,(.bool true),v78] (fun v79 w=>
 condM v79
 (oM prog (.build 34 #[]) 34 [] (fun v80 w=>
 oM prog (.store 34 (.tmp 0) (.tmp 1)) 0 [v2,v80] (fun _ w=>
 ∃ r_72,(do loadVar 34 (← asAddr v2):Sem Value).run prog w = .ok r_72 w ∧ K (.tuple #[r_72,(.bool false)]) w) w) w)
 (oM prog (.load 34 (.tmp 0)) 34 [v6] (fun v81 w=>
 oM prog (.store 34 (.tmp 0) (.tmp 1)) 0 [v2,v81] (fun _ w=>
 ∃ r_74,(do loadVar 34 (← asAddr v2):Sem Value).run prog w = .ok r_74 w ∧ K (.tuple #[r_74,(.bool true)]) w) w) w)) w) w) w) w) w) w) w) w) w) w)) w)) w0_l_14)) w) w)) w) w) w) w) w) w) w
theorem sh_52_ok {a0:Value} {K:Value → World → Prop} {w:World} (h:sh_52 a0 K w):callM prog 52 #[a0] K w:=
 calls_of_code (fun _=>.free [0,1,2,5,6,7] [3,4,8,9,10] [11,12,13]) (fn:=Tryz.f52) (rs:=[.cell 2 34,.tmp 3]) Tryz.func52 rfl rfl (by kernel_rfl) (Nat.le_of_ble_eq_true rfl) (Eq.mp (by kernel_rfl) h)
end Go.Proofs
namespace PrSpec
open FdSpec TkSpec CodeSpec FdPoly GrLaw
theorem getD_mem {l:List Int} {a:Nat} (h:a < l.length):l.getD a 0 ∈ l:=by
 rw [List.getD_eq_getElem?_getD,List.getElem?_eq_getElem h]
 exact List.getElem_mem h
section
variable {q root:Int} {bs:List Bool} {ds:List Int}
end
end PrSpec
namespace PrSpec
open FdSpec TkSpec CodeSpec FdPoly GrLaw
section
variable {s:Stp} {c:Clm} {d:Int} {n vs:List Int}
end
end PrSpec
namespace PrSpec
open FdSpec TkSpec CodeSpec FdPoly GrLaw
section
variable {s:Stp} {c:Cls} {ds D:List Int} {ns:List (List Int)} {ks:List Knw} {root:Int}
end
end PrSpec
namespace PrSpec
open FdSpec TkSpec CodeSpec FdPoly GrLaw
end PrSpec
namespace PrSpec
open FdSpec TkSpec CodeSpec FdPoly GrLaw
end PrSpec
namespace PrSpec
open FdSpec TkSpec CodeSpec FdPoly GrLaw
end PrSpec
namespace PrSpec
open FdSpec TkSpec CodeSpec FdPoly GrLaw
end PrSpec
namespace PrSpec
open FdSpec TkSpec CodeSpec FdPoly GrLaw
end PrSpec
namespace PrSpec
open FdSpec TkSpec CodeSpec FdPoly GrLaw
def chalM (s:Stp) (pub a:Int) (msg:Bytes):Int:=numberM (encText msg ++ encNums [pub,a]) s.g.Q
theorem sign_core {g:Grp} (h:Gv g) {x k S C:Int} (e:S % g.Q = (k + C * x) % g.Q):overG g (powerG g g.G S) (powerG g (powerG g g.G x) C) = powerG g g.G k:=by
 have hG:=El.gen h
 have hx:El g (powerG g g.G x):=(hG.ex x).cg (powerG_cg h _ _)
 have hb:El g (powerG g (powerG g g.G x) C):=(hx.ex C).cg (powerG_cg h _ _)
 have hu:=hb.unit h
 have h1:=overG_cg h (powerG g g.G S) hu
 have hq:0 < g.Q:=by have:=h.q0; omega
 have h2:Cg g.P (powerG g (powerG g g.G x) C) (Ex g g.G (C * x)):=by
  refine (powerG_cg h _ _).trans ((Ex_cg (powerG_cg h _ _) C).trans ?_)
  have:=Ex_mul h hG x C
  rw [Int.mul_comm] at this
  exact this.symm
 have h3:Cg g.P (powerG g g.G k * powerG g (powerG g g.G x) C) (powerG g g.G S):=by
  refine ((powerG_cg h _ _).mul h2).trans ((Ex_add h hG k (C * x)).symm.trans ?_)
  rw [← Ex_cong e]
  exact (powerG_cg h _ _).symm
 exact (Cg.cancel hu (h1.trans h3.symm)).eq (overG_range h _ _) (powerG_range h _ _)
def signM (s:Stp) (x k:Int) (msg:Bytes):(Int × Int) × Bool:=
 if validS s && exponentM s x && exponentM s k then
  ((chalM s (powerG s.g s.g.G x) (powerG s.g s.g.G k) msg,addM s.g.Q k (mulM s.g.Q (chalM s (powerG s.g s.g.G x) (powerG s.g s.g.G k) msg) x)),true)
 else ((0,0),false)
def signedM (s:Stp) (pub:Int) (msg:Bytes) (c z:Int):Bool:=
 validS s && elemG s.g pub && exponentM s c && exponentM s z && decide (chalM s pub (overG s.g (powerG s.g s.g.G z) (powerG s.g pub c)) msg = c)
theorem gv_setup {s:Stp} (h:validS s = true):Gv s.g:=by
 unfold validS at h
 simp only [Bool.and_eq_true] at h
 exact gv_of h.1.1.1.1
theorem forth_mod {q k c x:Int} (hq:okN q):addM q k (mulM q c x) % q = (k + c * x) % q:=by
 unfold addM mulM
 simp only [if_pos hq]
 rw [Int.emod_emod_of_dvd _ (Int.dvd_refl q),Int.add_emod_emod]
theorem forth_back {q k c x:Int} (hq:okN q) (hk:0 ≤ k ∧ k < q):subM q (addM q k (mulM q c x)) (mulM q c x) = k:=by
 unfold subM addM mulM
 simp only [if_pos hq]
 rw [Int.emod_sub_emod,Int.add_sub_cancel]
 exact Int.emod_eq_of_lt hk.1 hk.2
theorem numStep_in {n:Int} (hn:okN n):∀ (l:List UInt8) (o:Int),0 ≤ o ∧ o < n → 0 ≤ l.foldl (numStep n) o ∧ l.foldl (numStep n) o < n
 | [],o,h=>h
 | b :: l,o,h=>numStep_in hn l _ (addM_range _ _ _ hn)
theorem numberM_in {n:Int} (hn:okN n) (s:Bytes):0 ≤ numberM s n ∧ numberM s n < n:=by
 unfold numberM
 rw [if_pos hn]
 exact numStep_in hn _ 0 ⟨by omega,by have:=hn.1; omega⟩
theorem elem_of {g:Grp} (hv:validG g = true) {x:Int} (hx:El g x) (hr:0 ≤ x ∧ x < g.P):elemG g x = true:=by
 have h:=gv_of hv
 have hq:=h.q0
 have hp:=h.p
 have e:=hx.emod
 rw [Int.emod_eq_of_lt (show (0:Int) ≤ 1 by omega) (by omega)] at e
 have h0:x ≠ 0:=by
  rintro rfl
  rw [Int.zero_pow (by omega)] at e
  simp at e
 unfold elemG pw
 simp only [Bool.and_eq_true,decide_eq_true_eq]
 exact ⟨⟨⟨by omega,hr.2⟩,hv⟩,e⟩
theorem elem_power {g:Grp} (hv:validG g = true) {x:Int} (hx:El g x) (k:Int):elemG g (powerG g x k) = true:=
 elem_of hv ((hx.ex k).cg (powerG_cg (gv_of hv) _ _)) (powerG_range (gv_of hv) _ _)
theorem expo_iff {s:Stp} {n:Int}:exponentM s n = true ↔ 0 ≤ n ∧ n < s.g.Q:=by unfold exponentM; simp
theorem sign_signed {s:Stp} {x k:Int} {msg:Bytes} (h:(signM s x k msg).2 = true) :
  signedM s (powerG s.g s.g.G x) msg (signM s x k msg).1.1 (signM s x k msg).1.2 = true ∧ subM s.g.Q (signM s x k msg).1.2 (mulM s.g.Q (signM s x k msg).1.1 x) = k:=by
 unfold signM at h ⊢
 split at h
 ·rename_i hc
  rw [if_pos hc]
  simp only [Bool.and_eq_true] at hc
  have hv:=hc.1.1
  have hg:=gv_setup hv
  have hvg:validG s.g = true:=by
   unfold validS at hv
   simp only [Bool.and_eq_true] at hv
   exact hv.1.1.1.1
  have hk:=expo_iff.1 hc.2
  refine ⟨?_,forth_back hg.okQ hk⟩
  unfold signedM
  dsimp only
  rw [sign_core hg (k:=k) (forth_mod hg.okQ)]
  simp only [hv,elem_power hvg (El.gen hg) x,expo_iff.2 (numberM_in hg.okQ _),expo_iff.2 (addM_range _ _ _ hg.okQ),chalM,decide_true,Bool.and_self]
 ·cases h
end PrSpec
namespace PrSpec
open FdSpec TkSpec CodeSpec FdPoly GrLaw
end PrSpec
namespace PrSpec
open FdSpec TkSpec CodeSpec FdPoly GrLaw
structure Rw where
 left:List Int
 bad:Bool
def nextR (r:Rw):Int × Rw:=match r.left with
 | []=>(0,⟨[],true⟩)
 | n :: l=>(n,⟨l,r.bad⟩)
def countR (r:Rw):Nat × Rw:=
 if (nextR r).1 < 0 ∨ ((nextR r).2.left.length:Int) < (nextR r).1 then (0,⟨(nextR r).2.left,true⟩) else ((nextR r).1.toNat,(nextR r).2)
def takeR (n:Nat) (r:Rw):List Int × Rw:=(r.left.take n,⟨r.left.drop n,r.bad⟩)
def itemsR:Nat → Rw → (List Int × List (List Int)) × Rw
 | 0,r=>(([],[]),r)
 | k + 1,r=>
  let d:=nextR r
  let n:=countR d.2
  let a:=takeR n.1 n.2
  let t:=itemsR k a.2
  ((d.1 :: t.1.1,a.1 :: t.1.2),t.2)
def clausesR:Nat → Rw → (List (List Int) × List (List (List Int))) × Rw
 | 0,r=>(([],[]),r)
 | k + 1,r=>
  let n:=countR r
  let i:=itemsR n.1 n.2
  let t:=clausesR k i.2
  ((i.1.1 :: t.1.1,i.1.2 :: t.1.2),t.2)
def itemL:List Int → List (List Int) → List Int
 | d :: ds,a :: asx=>d :: (a.length:Int) :: (a ++ itemL ds asx)
 | _,_=>[]
def clauseL:List (List Int) → List (List (List Int)) → List Int
 | d :: ds,a :: asx=>(d.length:Int) :: (itemL d a ++ clauseL ds asx)
 | _,_=>[]
def evenL:List (List Int) → List (List (List Int)) → Bool
 | d :: ds,a :: asx=>decide (d.length = a.length) && evenL ds asx
 | [],[]=>true
 | _,_=>false
theorem count_cons {n:Nat} {l:List Int} {b:Bool} (h:n ≤ l.length):countR ⟨(n:Int) :: l,b⟩ = (n,⟨l,b⟩):=by
 unfold countR nextR
 dsimp only
 rw [if_neg (by omega),Int.toNat_natCast]
theorem items_enc:∀ (ds:List Int) (asx:List (List Int)) (t:List Int) (b:Bool),ds.length = asx.length → itemsR ds.length ⟨itemL ds asx ++ t,b⟩ = ((ds,asx),⟨t,b⟩)
 | [],[],_,_,_=>rfl
 | [],_ :: _,_,_,h=>by simp at h
 | _ :: _,[],_,_,h=>by simp at h
 | d :: ds,a :: asx,t,b,h=>by
  have ih:=items_enc ds asx t b (by simpa using h)
  have e:countR ⟨(a.length:Int) :: (a ++ itemL ds asx ++ t),b⟩ = (a.length,⟨a ++ itemL ds asx ++ t,b⟩):=count_cons (by simp)
  have e2:nextR ⟨itemL (d :: ds) (a :: asx) ++ t,b⟩ = (d,⟨(a.length:Int) :: (a ++ itemL ds asx ++ t),b⟩):=rfl
  have e3:takeR a.length ⟨a ++ itemL ds asx ++ t,b⟩ = (a,⟨itemL ds asx ++ t,b⟩):=by
   unfold takeR; simp only [List.append_assoc,List.take_left,List.drop_left]
  simp only [List.length_cons,itemsR,e2,e,e3,ih]
theorem itemL_len:∀ (ds:List Int) (asx:List (List Int)),ds.length = asx.length → ds.length ≤ (itemL ds asx).length
 | [],_,_=>by simp
 | _ :: _,[],h=>by simp at h
 | d :: ds,a :: asx,h=>by
  have:=itemL_len ds asx (by simpa using h)
  simp only [itemL,List.length_cons,List.length_append]
  omega
theorem clauses_enc:∀ (ds:List (List Int)) (asx:List (List (List Int))) (t:List Int) (b:Bool),evenL ds asx = true → clausesR ds.length ⟨clauseL ds asx ++ t,b⟩ = ((ds,asx),⟨t,b⟩)
 | [],[],_,_,_=>rfl
 | [],_ :: _,_,_,h=>by simp [evenL] at h
 | _ :: _,[],_,_,h=>by simp [evenL] at h
 | d :: ds,a :: asx,t,b,h=>by
  simp only [evenL,Bool.and_eq_true,decide_eq_true_eq] at h
  have ih:=clauses_enc ds asx t b h.2
  have e:countR ⟨clauseL (d :: ds) (a :: asx) ++ t,b⟩ = (d.length,⟨itemL d a ++ (clauseL ds asx ++ t),b⟩):=by
   have:=count_cons (n:=d.length) (l:=itemL d a ++ (clauseL ds asx ++ t)) (b:=b) (by have:=itemL_len d a h.1; simp; omega)
   simpa [clauseL] using this
  simp only [List.length_cons,clausesR,e,items_enc d a _ b h.1,ih]
end PrSpec
namespace PrSpec
open FdSpec TkSpec CodeSpec FdPoly GrLaw
end PrSpec
namespace PrSpec
open FdSpec TkSpec CodeSpec FdPoly GrLaw
def commitM (s:Stp) (v r:Int):Int:=if validS s then (prodG s.g [s.g.G,s.blind] [v,r]).1 else 0
def pows (n:Nat):List Int:=(List.range n).map fun k=>(2:Int) ^ k
def weighM (s:Stp) (bits:List Int):Int × Bool:=
 if validS s && decide (1 ≤ bits.length) && decide (bits.length ≤ 60) && bits.all (elemG s.g) then prodG s.g bits (pows bits.length) else (0,false)
def blindedM (s:Stp) (t:Int):Clm:=⟨1,[⟨t,[⟨0,s.blind⟩]⟩]⟩
def bitC (s:Stp) (x:Int):Cls:=⟨1,[blindedM s x,blindedM s (overG s.g x s.g.G)]⟩
def lastC (s:Stp) (c w:Int):Cls:=⟨1,[blindedM s (overG s.g c w)]⟩
def bitsM (s:Stp) (bits:List Int):List Cls:=if (weighM s bits).2 then bits.map (bitC s) else []
def rangeM (s:Stp) (c:Int) (bits:List Int):List Cls:=
 if (weighM s bits).2 && elemG s.g c then bitsM s bits ++ [lastC s c (weighM s bits).1] else []
def bitOf (v:Int) (k:Nat):Int:=v / 2 ^ k % 2
def knwOf (b r:Int):List Knw:=if b = 0 then [⟨true,[r]⟩,⟨false,[]⟩] else [⟨false,[]⟩,⟨true,[r]⟩]
def splitL (s:Stp) (v:Int):Nat → List Int → List Int × List (List Knw)
 | _,[]=>([],[])
 | k,r :: l=>(commitM s (bitOf v k) r :: (splitL s v (k + 1) l).1,knwOf (bitOf v k) r :: (splitL s v (k + 1) l).2)
def splitFine (s:Stp) (v:Int) (blinds:List Int):Bool:=
 validS s && decide (1 ≤ blinds.length) && decide (blinds.length ≤ 60) && exponentsM s blinds blinds.length && decide (0 ≤ v) && decide (v < 2 ^ blinds.length)
def splitM (s:Stp) (v:Int) (blinds:List Int):(List Int × List (List Knw)) × Bool:=
 if splitFine s v blinds then (splitL s v 0 blinds,true) else (([],[]),false)
def restL (q:Int):Nat → Int → List Int → Int
 | _,o,[]=>o
 | k,o,x :: l=>restL q (k + 1) (subM q o (mulM q x (2 ^ k))) l
def restM (s:Stp) (r:Int) (blinds:List Int):Int:=
 if validS s && decide (blinds.length ≤ 60) then restL s.g.Q 0 (addM s.g.Q r 0) blinds else 0
def encodeM (ds:List (List Int)) (asx:List (List (List Int))):Bytes × Bool:=
 if evenL ds asx then (encNums ((ds.length:Int) :: clauseL ds asx),true) else ([],false)
def ex:Stp:=⟨⟨23,11,4⟩,[16,18],12⟩
theorem less_facts:weighM ex [4,4] = (18,true) ∧ splitM ex 2 [1,2] = (([12,1],[[⟨true,[1]⟩,⟨false,[]⟩],[⟨false,[]⟩,⟨true,[2]⟩]]),true) ∧ restM ex 3 [1,2] = 9 ∧
  (rangeM ex (commitM ex 2 3) [12,1]).length = 3 ∧ HoldsM ex (blindedM ex (overG ex.g (commitM ex 2 3) (weighM ex [12,1]).1)) [9] = true ∧ validS ex = true ∧ exponentM ex 3 = true ∧ exponentM ex 5 = true ∧ powerG ex.g ex.g.G 3 = 18:=by
 decide +kernel
end PrSpec
