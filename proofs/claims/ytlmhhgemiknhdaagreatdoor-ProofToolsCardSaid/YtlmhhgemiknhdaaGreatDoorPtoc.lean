/- Parts of the proof of the seat's statements (FdThr, PrUnit, GrLaw, PrSpec, PwA, ClA, ClB, ClC, ShApp, ShGr, HPt, PrFill, PrCom, PrLaw, PrLaw2, PrLaw3, PrLaw4, PrLaw5, PrLaw6, PrSign, PrText, PrCode, PrRange, LsSpec, GrA, GrB, GrC, GrD, GrE, GrF, GrG): lemmas about the given translation and plain laws. No condition of their own. -/
import Derived.Test.YtlmhhgemiknhdaaGreatDoorPtob
import Derived.Laws.StructEq
import Derived.Deep.Upon
import Derived.Test.YtlmhhgemiknhdaaGreatDoorProg
set_option linter.all false
set_option maxRecDepth 100000
namespace FdPoly
open FdSpec
theorem res_eq {q a b:Int} (h:q ∣ a - b) (ha:0 ≤ a ∧ a < q) (hb:0 ≤ b ∧ b < q):a = b:=by
 obtain ⟨k,hk⟩:=h
 have h1:k < 1:=by
  refine Classical.byContradiction fun hn=>?_
  have:q * 1 ≤ q * k:=Int.mul_le_mul_of_nonneg_left (by omega) (by omega)
  omega
 have h2:-1 < k:=by
  refine Classical.byContradiction fun hn=>?_
  have:q * k ≤ q * (-1):=Int.mul_le_mul_of_nonneg_left (by omega) (by omega)
  omega
 have:k = 0:=by omega
 subst this
 omega
theorem Ip.cong {q:Int} {X Y:Nat → Int} {i n:Nat} {p:List Int} {t s:Int} (h:Ip q X Y i n p t) (e:q ∣ t - s):Ip q X Y i n p s:=by
 refine ⟨h.len,h.val,?_⟩
 have:=Int.dvd_add h.top e
 have e2:p.getD n 0 - t + (t - s) = p.getD n 0 - s:=by omega
 rwa [e2] at this
theorem U.cong {q a b:Int} (h:U q a) (e:q ∣ b - a):U q b:=by
 obtain ⟨u,k,hk⟩:=h
 obtain ⟨m,hm⟩:=e
 exact ⟨u,k + u * m,by grind⟩
section
variable {q:Int} {xs ys:List Int}
def d0 (q:Int) (ys:List Int):List Int:=ys.map (fun y=>y % q)
end
def hNew (q x d:Int) (o:List Int) (n:Nat):Int:=if n = 0 then addM q (subM q 0 (mulM q (o.getD 0 0) x)) d else addM q (subM q 0 (mulM q (o.getD n 0) x)) (o.getD (n - 1) 0)
def hStep (q x d:Int) (o:List Int):List Int:=(List.range o.length).map (hNew q x d o)
theorem hStep_get (q x d:Int) (o:List Int) (n:Nat):(hStep q x d o).getD n 0 = if n < o.length then hNew q x d o n else 0:=by
 unfold hStep
 rw [List.getD_eq_getElem?_getD,List.getElem?_map]
 by_cases h:n < o.length
 ·rw [List.getElem?_range h,if_pos h]; rfl
 ·rw [if_neg h,List.getElem?_eq_none (by simp; omega)]; rfl
def Zr (c:Nat) (o:List Int):Prop:=∀ n,c ≤ n → o.getD n 0 = 0
theorem mul0 {q x:Int} (hq:okN q):mulM q 0 x = 0:=by unfold mulM; rw [if_pos hq]; simp
theorem sub0 {q:Int} (hq:okN q):subM q 0 0 = 0:=by unfold subM; rw [if_pos hq]; simp
theorem add0 {q:Int} (hq:okN q):addM q 0 0 = 0:=by unfold addM; rw [if_pos hq]; simp
theorem Zr.step {q x d:Int} (hq:okN q) {c:Nat} {o:List Int} (h:Zr c o):Zr (c + 1) (hStep q x d o):=by
 intro n hn
 rw [hStep_get]
 split
 ·unfold hNew
  rw [if_neg (by omega),h n (by omega),h (n - 1) (by omega),mul0 hq,sub0 hq,add0 hq]
 ·rfl
end FdPoly
namespace FdPoly
open FdSpec
theorem U.mul {q a b:Int} (ha:U q a) (hb:U q b):U q (a * b):=by
 obtain ⟨u,k,hk⟩:=ha
 obtain ⟨v,m,hm⟩:=hb
 exact ⟨u * v,v * b * k + m,by grind⟩
theorem U.neg {q a:Int} (ha:U q a):U q (-a):=by
 obtain ⟨u,k,hk⟩:=ha
 exact ⟨-u,k,by grind⟩
theorem U.one (q:Int):U q 1:=⟨1,0,by omega⟩
theorem U.list {q:Int} (l:List Int) (h:∀ x ∈ l,U q x) {d:Int} (hd:d = l.foldr (· * ·) 1):U q d:=by
 subst hd
 induction l with
 | nil=>exact U.one q
 | cons x l ih=>exact (h x (by simp)).mul (ih (fun y hy=>h y (by simp [hy])))
end FdPoly
namespace GrLaw
open FdSpec FdPoly TkSpec
def Cg (P a b:Int):Prop:=P ∣ a - b
section
variable {P a b c d x y:Int}
theorem Cg.refl (P a:Int):Cg P a a:=⟨0,by omega⟩
theorem Cg.symm (h:Cg P a b):Cg P b a:=by obtain ⟨k,hk⟩:=h; exact ⟨-k,by grind⟩
theorem Cg.trans (h:Cg P a b) (h2:Cg P b c):Cg P a c:=by obtain ⟨k,hk⟩:=h; obtain ⟨m,hm⟩:=h2; exact ⟨k + m,by grind⟩
theorem Cg.mul (h:Cg P a b) (h2:Cg P c d):Cg P (a * c) (b * d):=by obtain ⟨k,hk⟩:=h; obtain ⟨m,hm⟩:=h2; exact ⟨k * c + b * m,by grind⟩
theorem Cg.pow (h:Cg P a b):∀ n:Nat,Cg P (a ^ n) (b ^ n)
 | 0=>by rw [Int.pow_zero,Int.pow_zero]; exact Cg.refl _ _
 | n + 1=>by rw [Int.pow_succ,Int.pow_succ]; exact (Cg.pow h n).mul h
theorem Cg.mod (P a:Int):Cg P (a % P) a:=mod_dvd P a
theorem Cg.emod (h:Cg P a b):a % P = b % P:=by
 obtain ⟨k,hk⟩:=h
 have:a = b + P * k:=by omega
 rw [this,Int.add_mul_emod_self_left]
theorem Cg.of_emod (h:a % P = b % P):Cg P a b:=(Cg.mod P a).symm.trans (by rw [h]; exact Cg.mod P b)
theorem Cg.eq (h:Cg P a b) (ha:0 ≤ a ∧ a < P) (hb:0 ≤ b ∧ b < P):a = b:=res_eq h ha hb
theorem U.of_cg (h:Cg P (b * a) 1):U P a:=⟨b,h⟩
theorem U.cg (h:U P a) (e:Cg P b a):U P b:=h.cong e
theorem Cg.cancel (hu:U P c) (h:Cg P (a * c) (b * c)):Cg P a b:=by
 refine hu.cancel ?_
 obtain ⟨k,hk⟩:=h
 exact ⟨k,by grind⟩
theorem pow_mod {n:Nat} (h:Cg P (x ^ n) 1) (k:Nat):Cg P (x ^ k) (x ^ (k % n)):=by
 have e:x ^ k = (x ^ n) ^ (k / n) * x ^ (k % n):=by
  rw [← Int.pow_mul,← Int.pow_add,Nat.div_add_mod]
 rw [e]
 have h1:=h.pow (k / n)
 rw [Int.one_pow] at h1
 have:=h1.mul (Cg.refl P (x ^ (k % n)))
 rwa [Int.one_mul] at this
theorem pow_same {n:Nat} (h:Cg P (x ^ n) 1) {j k:Nat} (e:j % n = k % n):Cg P (x ^ j) (x ^ k):=by
 have h1:=pow_mod h j
 rw [e] at h1
 exact h1.trans (pow_mod h k).symm
end
structure Gv (g:Grp):Prop where
 q0:5 ≤ g.Q
 q1:g.Q < 1152921504606846976
 p:g.P = 2 * g.Q + 1
 g0:2 ≤ g.G
 g1:g.G < g.P
 pq:primeM g.Q = true
 gq:pw g.P g.G g.Q.toNat = 1
theorem gv_of {g:Grp} (h:validG g = true):Gv g:=by
 unfold validG at h
 split at h
 ·cases h
 ·simp only [Bool.and_eq_true,decide_eq_true_eq] at h
  exact ⟨by omega,by omega,by omega,by omega,by omega,h.1.1,h.2⟩
def Ex (g:Grp) (x k:Int):Int:=x ^ (k % g.Q).toNat
def El (g:Grp) (x:Int):Prop:=Cg g.P (x ^ g.Q.toNat) 1
section
variable {g:Grp} {x y a b:Int}
theorem Gv.okP (h:Gv g):okN g.P:=by have:=h.q0; have:=h.q1; have:=h.p; exact ⟨by omega,by omega⟩
theorem Gv.okQ (h:Gv g):okN g.Q:=by have:=h.q0; have:=h.q1; exact ⟨by omega,by omega⟩
theorem El.of_pw (h:Gv g) (hx:pw g.P x g.Q.toNat = 1):El g x:=by
 refine Cg.of_emod ?_
 have e:x ^ g.Q.toNat % g.P = 1:=hx
 rw [e,Int.emod_eq_of_lt (by omega) (by have:=h.q0; have:=h.p; omega)]
theorem El.gen (h:Gv g):El g g.G:=El.of_pw h h.gq
theorem El.mul (hx:El g x) (hy:El g y):El g (x * y):=by
 unfold El
 rw [Int.mul_pow]
 have:=Cg.mul hx hy
 rwa [Int.one_mul] at this
theorem El.cg (hx:El g x) (h:Cg g.P y x):El g y:=(h.pow _).trans hx
theorem El.pow (hx:El g x) (n:Nat):El g (x ^ n):=by
 unfold El
 rw [← Int.pow_mul,Nat.mul_comm,Int.pow_mul]
 have:=Cg.pow hx n
 rwa [Int.one_pow] at this
theorem El.unit (h:Gv g) (hx:El g x):U g.P x:=by
 refine U.of_cg (b:=x ^ (g.Q.toNat - 1)) ?_
 have e:x ^ (g.Q.toNat - 1) * x = x ^ g.Q.toNat:=by
  rw [← Int.pow_succ]; congr 1; have:=h.q0; omega
 rw [e]; exact hx
theorem toNat_mod {Q k:Int} (hQ:0 < Q):(((k % Q).toNat:Nat):Int) = k % Q:=Int.toNat_of_nonneg (Int.emod_nonneg _ (by omega))
theorem nat_mod {Q:Int} (hQ:0 < Q) {m n:Nat} (h:(m:Int) % Q = (n:Int) % Q):m % Q.toNat = n % Q.toNat:=by
 have hq:((Q.toNat:Nat):Int) = Q:=Int.toNat_of_nonneg (by omega)
 have:((m % Q.toNat:Nat):Int) = ((n % Q.toNat:Nat):Int):=by
  rw [Int.natCast_emod,Int.natCast_emod,hq]; exact h
 omega
theorem Ex_add (h:Gv g) (hx:El g x) (a b:Int):Cg g.P (Ex g x (a + b)) (Ex g x a * Ex g x b):=by
 unfold Ex
 rw [← Int.pow_add]
 have hQ:0 < g.Q:=by have:=h.q0; omega
 refine pow_same hx (nat_mod hQ ?_)
 push_cast
 rw [toNat_mod hQ,toNat_mod hQ,toNat_mod hQ]
 rw [Int.emod_emod_of_dvd _ (Int.dvd_refl _),← Int.add_emod]
theorem Ex_mul (h:Gv g) (hx:El g x) (a b:Int):Cg g.P (Ex g x (a * b)) (Ex g x a ^ (b % g.Q).toNat):=by
 unfold Ex
 rw [← Int.pow_mul]
 have hQ:0 < g.Q:=by have:=h.q0; omega
 refine pow_same hx (nat_mod hQ ?_)
 push_cast
 rw [toNat_mod hQ,toNat_mod hQ,toNat_mod hQ]
 rw [Int.emod_emod_of_dvd _ (Int.dvd_refl _),← Int.mul_emod]
theorem Ex_cong (e:a % g.Q = b % g.Q):Ex g x a = Ex g x b:=by unfold Ex; rw [e]
theorem Ex_cg (h:Cg g.P x y) (a:Int):Cg g.P (Ex g x a) (Ex g y a):=h.pow _
theorem El.ex (hx:El g x) (a:Int):El g (Ex g x a):=hx.pow _
theorem powerG_eq (h:Gv g) (x k:Int):powerG g x k = Ex g x k % g.P:=by
 unfold powerG
 rw [if_pos ⟨h.okP,h.okQ⟩]; rfl
theorem powerG_cg (h:Gv g) (x k:Int):Cg g.P (powerG g x k) (Ex g x k):=by rw [powerG_eq h]; exact Cg.mod _ _
theorem powerG_range (h:Gv g) (x k:Int):0 ≤ powerG g x k ∧ powerG g x k < g.P:=by
 rw [powerG_eq h]
 have:=h.okP.1
 exact ⟨Int.emod_nonneg _ (by omega),Int.emod_lt_of_pos _ (by omega)⟩
theorem timesG_cg (h:Gv g) (a b:Int):Cg g.P (timesG g a b) (a * b):=by
 unfold timesG
 rw [if_pos h.okQ]
 exact mulM_dvd h.okP
theorem timesG_range (h:Gv g) (a b:Int):0 ≤ timesG g a b ∧ timesG g a b < g.P:=by
 unfold timesG
 rw [if_pos h.okQ]
 exact mulM_range _ _ _ h.okP
theorem overG_cg (h:Gv g) (a:Int) (hb:U g.P b):Cg g.P (overG g a b * b) a:=by
 obtain ⟨x,e,hx,_⟩:=invM_some h.okP hb
 unfold overG
 have e1:powM g.P b (-1) = x % g.P:=by
  unfold powM
  rw [if_pos h.okP,if_neg (by omega),e]
  show pw g.P x (-(-1:Int)).toNat = _
  have:(-(-1:Int)).toNat = 1:=by decide
  rw [this]
  unfold pw
  rw [Int.pow_succ,Int.pow_zero,Int.one_mul]
 rw [e1]
 have h1:=timesG_cg h a (x % g.P)
 have h2:Cg g.P (timesG g a (x % g.P) * b) (a * x * b):=(h1.trans ((Cg.refl _ a).mul (Cg.mod _ x))).mul (Cg.refl _ b)
 refine h2.trans ?_
 obtain ⟨k,hk⟩:=hx
 exact ⟨a * k,by grind⟩
theorem overG_range (h:Gv g) (a b:Int):0 ≤ overG g a b ∧ overG g a b < g.P:=timesG_range h _ _
end
end GrLaw
namespace PrSpec
open FdSpec TkSpec CodeSpec FdPoly
structure Trm where
 var:Int
 base:Int
deriving DecidableEq
structure Eqn where
 target:Int
 terms:List Trm
deriving DecidableEq
structure Clm where
 vars:Int
 eqs:List Eqn
deriving DecidableEq
structure Cls where
 need:Int
 claims:List Clm
deriving DecidableEq
structure Knw where
 has:Bool
 values:List Int
deriving DecidableEq
def exponentM (s:Stp) (n:Int):Bool:=decide (0 ≤ n) && decide (n < s.g.Q)
def exponentsM (s:Stp) (l:List Int) (n:Int):Bool:=decide ((l.length:Int) = n) && !(l.any fun x=>!exponentM s x)
def trmFine (s:Stp) (vars:Int) (t:Trm):Bool:=decide (0 ≤ t.var) && decide (t.var < vars) && elemG s.g t.base
def eqnFine (s:Stp) (vars:Int) (e:Eqn):Bool:=elemG s.g e.target && decide (e.terms.length ≤ 80) && e.terms.all (trmFine s vars)
def claimM (s:Stp) (c:Clm):Bool:=decide (0 ≤ c.vars) && decide (c.vars ≤ 120) && decide (1 ≤ c.eqs.length) && decide (c.eqs.length ≤ 60) && c.eqs.all (eqnFine s c.vars)
def leftM (s:Stp) (e:Eqn) (vs:List Int):Int:=(prodG s.g (e.terms.map fun t=>t.base) (e.terms.map fun t=>vs.getD t.var.toNat 0)).1
def holdsM (s:Stp) (c:Clm) (vs:List Int):Bool:=exponentsM s vs c.vars && !(c.eqs.any fun e=>!decide (leftM s e vs = e.target))
def HoldsM (s:Stp) (c:Clm) (vs:List Int):Bool:=validS s && claimM s c && holdsM s c vs
def commitsM (s:Stp) (c:Clm) (dare:Int) (answers:List Int):List Int:=c.eqs.map fun e=>overG s.g (leftM s e answers) (powerG s.g e.target dare)
def simM (s:Stp) (c:Clm) (dare:Int) (answers:List Int):List Int:=
 if validS s && claimM s c && exponentM s dare && exponentsM s answers c.vars then commitsM s c dare answers else []
def trmL (t:Trm):List Int:=[t.var,t.base]
def eqnL (e:Eqn):List Int:=e.target :: (e.terms.length:Int) :: e.terms.flatMap trmL
def clmL (c:Clm):List Int:=c.vars :: (c.eqs.length:Int) :: c.eqs.flatMap eqnL
def clsL (c:Cls):List Int:=c.need :: (c.claims.length:Int) :: c.claims.flatMap clmL
def goalL (goal:List Cls):List Int:=(goal.length:Int) :: goal.flatMap clsL
def textM (goal:List Cls):Bytes:=encNums (goalL goal)
end PrSpec
namespace Go.Proofs
open Go Go.Sh Go.RowKit FdSpec TkSpec CodeSpec
section
variable {K:VK} {w w0 w1:World} {L:List (Addr × Value)}
theorem I64_of {x n:Int} (h:0 ≤ x ∧ x < n) (hn:okN n):I64 x:=by unfold I64; unfold okN at hn; omega
theorem I64_0:I64 0:=by unfold I64; omega
theorem mulM_I64 (n a b:Int):I64 (mulM n a b):=by
 by_cases hn:okN n
 ·exact I64_of (mulM_range n a b hn) hn
 ·unfold mulM; rw [if_neg hn]; exact I64_0
theorem powerG_I64 (g:Grp) (x k:Int):I64 (powerG g x k):=by
 unfold powerG
 split
 ·rename_i h
  exact I64_of (pw_nonneg g.P x _ (by have:=h.1; unfold okN at this; omega)) h.1
 ·exact I64_0
theorem stp_one (s:Stp) (ad:Option Addr) (n c:Nat):∀ u ∈ stpC s (.slice ad n c),u.oneCell' = true:=by
 intro u hu
 simp only [stpC,List.mem_cons,List.not_mem_nil,or_false] at hu
 rcases hu with rfl | rfl | rfl | rfl | rfl <;> rfl
theorem eqNil_at {P:Program} {w:World} {K:VK} {t e T:TypeId} {a:Option Addr} {n c:Nat} (ht:P.underlying t = some (.slice e)) (k:K (.bool a.isNone) w):oM P (.binOp .eql t (.tmp 0) (.const (.slice none 0 0)) t) T [.slice a n c] K w:=by
 rw [oM_eqc]
 have:=Lib.run_eql_slice_nil (P:=P) w t e a n c 0 0 ht
 simp only [Sem.run_bind]
 have h2:(eqGuard .eql t (.tmp 0) (.const (.slice none 0 0)) (.slice a n c) (.slice none 0 0)).run P w = .ok () w:=by
  simp [eqGuard]
 rw [h2,Result.andThen_ok,this]
 exact k
theorem Clone_ok {v:Value} {l:List Int} (hr:Ints w v l) (hl:l.length < 1099511627776) (k:∀ v' w',w'.ownsRow 0 3 1 v' l.length (flat intC l) → Bw w w' → (∀ i,v'.ownBlock = some i → w.heap.size ≤ i) → K v' w'):callM Tryz.prog 96 #[v] K w:=by
 apply sh_96_ok
 unfold sh_96
 have hi:=hr.row
 obtain ⟨ad,c,rfl,h0,hc⟩:=id hi
 refine eqNil_at (e:=3) (by kernel_rfl) ?_
 cases ad with
 | none=>
  obtain ⟨hl0,rfl⟩:=h0 rfl
  obtain rfl:l = []:=List.eq_nil_of_length_eq_zero hl0
  simp only [Option.isNone_none]
  refine Xa0 ?_
  exact k _ _ (World.ownsRow_nil _ _ _ _) (bR) (fun i hi=>by cases hi)
 | some a=>
  simp only [Option.isNone_some]
  refine Xa0 ?_
  have hr2:RowR intC 1 (w.alloc (.cells #[] 3)) (.slice (some a) l.length c) l:=hi.keep (by rw [alloc_size]; omega) (fun i _ hi=>heap_alloc_old _ _ hi)
  refine clone_at 24 24 3 ((Tryz.prog.info? 3).getD default) (.int .i64 0) 1 8 (by kernel_rfl) (by kernel_rfl) (by kernel_rfl) (by kernel_rfl) (by kernel_rfl) (by kernel_rfl) (by omega) (fun _=>rfl) (fun x u hu=>by simp [intC] at hu; subst hu; rfl) hr2 (World.ownsRow_lit w #[] 0 (Nat.zero_le _) (Nat.zero_le _) rfl) (B:=w.heap.size) (by rw [alloc_size]; omega) (fun i hi=>by cases hi; exact rL) (by omega) (by omega) ?_
  intro v' w' ho hg hv
  exact k v' w' ho (((bR).alloc (rL) _).grown hg (by rw [alloc_size]; omega) (fun i hi=>by cases hi; exact rL)) hv
abbrev OwnI (w:World) (B:Nat) (v:Value) (l:List Int):Prop:=w.ownsRow B 3 1 v l.length (flat intC l)
theorem OwnI.ints {B:Nat} {v:Value} {l:List Int} (h:OwnI w B v l) (hr:∀ n ∈ l,I64 n) (hl:l.length ≤ 9223372036854775807):Ints w v l:=Ints.of_owns h hr hl
theorem owns_up {B C:Nat} {e:TypeId} {sz:Nat} {v:Value} {n:Nat} {xs:List Value} (h:w.ownsRow B e sz v n xs) (hc:∀ i,v.ownBlock = some i → C ≤ i):w.ownsRow C e sz v n xs:=by
 refine ⟨h.1,h.2.imp id ?_⟩
 rintro ⟨g,cap,cur,rfl,hb,hr⟩
 exact ⟨g,cap,cur,rfl,hc g rfl,hr⟩
theorem OwnI.keep {B:Nat} {v:Value} {l:List Int} {w':World} (h:OwnI w B v l) (hb:Bw w w'):OwnI w' B v l:=
 owns_keep h (fun i hi=>hb.block i (owns_own h hi).1)
theorem append1 {B:Nat} {T:TypeId} {v xv:Value} {l:List Int} {x:Int} (ho:OwnI w B v l) (hB:B ≤ w.heap.size) (hx:Ints w xv [x]) (hl:l.length < 1099511627776)
  (k:∀ v' w',OwnI w' B v' (l ++ [x]) → Below B w w' → K v' w'):oM Tryz.prog (.call { callee:=.builtin .append,args:=#[.tmp 0,.tmp 1],argTypes:=#[24,24] }) T [v,xv] K w:=by
 obtain ⟨⟨ad,c,rfl,h0,hc⟩,hr,_⟩:=hx
 have hc:=hc.resolve_left (by simp)
 obtain ⟨b,o,rfl,hlt,hcell⟩:=hc
 refine append_at 24 T 3 ((Tryz.prog.info? 3).getD default) (.int .i64 0) 1 8 (by kernel_rfl) (by kernel_rfl) (by kernel_rfl) (by kernel_rfl) (by kernel_rfl) (by kernel_rfl) (by omega) (owns_base ho (Nat.zero_le _)) [.int .i64 x] (by simp) (by simp) ?_ ?_ (by simp only [maxLen,List.length_singleton]; omega) (by simp only [List.length_singleton]; omega) ?_
 ·rintro a ha j u hj
  cases ha
  rw [add_none]
  exact hcell j u hj
 ·intro u hu
  simp only [List.mem_singleton] at hu
  subst hu; rfl
 ·intro v' w' ho' hg hv
  have hbl:∀ i,v.ownBlock = some i → B ≤ i:=fun i hi=>(owns_own ho hi).2.1
  refine k v' w' ?_ ((Below.refl B w).grown hg hB hbl)
  have e1:(l ++ [x]).length = l.length + [x].length:=by simp
  have e2:flat intC (l ++ [x]) = flat intC l ++ [Value.int .i64 x]:=by rw [flat_int,flat_int]; simp
  show w'.ownsRow B 3 1 v' (l ++ [x]).length (flat intC (l ++ [x]))
  rw [e1,e2]
  exact owns_up ho' (fun i hi=>(hv i hi).elim (hbl i) (fun h=>Nat.le_trans hB h))
theorem sz_ints (w:World):(sizeOf 24).run Tryz.prog w = .ok 1 w:=by kernel_rfl
abbrev FrG (g:Nat) (w w':World):Prop:=Fr (fun i=>i = g) w w'
theorem FrG.next {g:Nat} {w':World} (h:FrG g w w1) (hb:Bw w1 w'):FrG g w w':=
 h.trans (S':=fun _=>False) ⟨hb.os,hb.tape,hb.output,hb.size,fun i hi _=>hb.block i hi⟩ (fun _ h=>h.elim)
theorem FrG.below {g:Nat} {w':World} (h0:Bw w w1) (h:FrG g w1 w') (hg:w.heap.size ≤ g):Bw w w':=
 ⟨h.os.trans h0.os,h.tape.trans h0.tape,h.output.trans h0.output,Nat.le_trans h0.size h.size,fun i hi=>(h.block i (lL hi h0.size) (fun e=>by omega)).trans (h0.block i hi)⟩
theorem cellsAre_fr {g:Nat} {w':World} (hL:cellsAre w L) (h:FrG g w w') (hn:∀ p ∈ L,p.1.block ≠ g):cellsAre w' L:=
 cellsAre_keepBut hL hn fun a ha hna=>World.cell?_of_block (w:=w) (h.block _ ha hna)
theorem _root_.Go.Sh.KnM.fr {g n g':Nat} {w':World} (hk:KnM w0 L g n w) (h:FrG g' w w') (hoff:∀ p ∈ L,p.1.block ≠ g') (hne:g ≠ g') (hb:w0.heap.size ≤ g'):KnM w0 L g n w':=by
 obtain ⟨cur,T,h1,h2⟩:=hk.mine
 exact ⟨⟨FrG.below hk.below h hb,cellsAre_fr hk.cells h hoff⟩,⟨cur,T,by rw [h.block g (mine_lt hk.mine) hne]; exact h1,h2⟩,hk.base,hk.off⟩
theorem Ints.fr {g:Nat} {w':World} {v:Value} {l:List Int} (hi:Ints w v l) (h:FrG g w w') (hne:∀ i,Value.inBlock v = some i → i ≠ g):Ints w' v l:=
 ⟨hi.row.keep h.size (fun i e hlt=>h.block i hlt (hne i e)),hi.rng,hi.len⟩
theorem sz_stp (w:World):(sizeOf 26).run Tryz.prog w = .ok 5 w:=by kernel_rfl
theorem al_stp (w:World):(Instr.alloc 26 true (.tuple #[])).run Tryz.prog w = .ok (.pointer (some ⟨w.heap.size,0,none⟩)) (w.alloc (.cells [.int .i64 0,.int .i64 0,.int .i64 0,.slice none 0 0,.int .i64 0].toArray 26)):=by kernel_rfl
theorem local_stp {K:VK} {T' T2:TypeId} (s:Stp) (ad:Option Addr) (m c:Nat) (hk:Kn w0 L w)
  (k:∀ b W,Kn w0 (cellsOf L b 0 (stpC s (.slice ad m c))) W → Bw w W → w.heap.size ≤ b → K (.pointer (some ⟨b,0,none⟩)) W) :
  oM Tryz.prog (.alloc 26) T' [] (fun v w=>oM Tryz.prog (.store 26 (.tmp 0) (.tmp 1)) T2 [v,stpV s (.slice ad m c)] (fun _ w=>K v w) w) w:=
 local_kn al_stp rfl sz_stp rfl rfl (stp_one s ad m c) hk k
theorem i64lit {n:Int} (h:-9223372036854775808 ≤ n ∧ n < 9223372036854775808:=by decide):I64 n:=h
@[reducible] def x0:Spd:=⟨2,[9,9,4]⟩
@[reducible] def y0:Spd:=⟨5,[10,3,0]⟩
@[reducible] def z0:Spd:=⟨3,[9,9,4]⟩
def NuJ (n R:Int) (d:List UInt8) (w0:World) (l:List Value) (w':World):Prop:=Bw w0 w' ∧ ∃ (v:Value) (o:Int) (i:Nat),l = [v,.int .i64 o,.int .i64 (i:Int)] ∧ i ≤ d.length ∧ (d.drop i).foldl (numStep n) o = R
theorem Number_ok (s:List UInt8) (n:Int) (hs:s.length ≤ 1000000000) (k:∀ w',Bw w w' → K (.int .i64 (numberM s n)) w'):callM Tryz.prog 159 #[.string ⟨s.toArray⟩,.int .i64 n] K w:=by
 apply sh_159_ok
 unfold sh_159
 unfold numberM at k
 refine valid_ok n ?_
 by_cases hn:okN n
 ·rw [if_pos hn] at k
  refine Xa0 ?_
  refine Sha_ok s hs (fun w1 h1=>?_)
  have hl:=ShaSpec.sha_length s
  generalize ShaSpec.sha s = d at *
  refine ofStr d fun v w2 h2=>?_
  obtain ⟨g,c,rfl,hlt⟩:=h2.row.shape
  have hby:=bufByR h2.row
  have hb:=h1.on h2.below
  refine Xa0 ?_
  refine ⟨NuJ n (d.foldl (numStep n) 0) d w2,vsMu d.length,⟨bR,_,_,0,rfl,by omega,rfl⟩,?_⟩
  rintro _ _ w3 ⟨h3,v,o,i,rfl,hi,hf⟩
  by_cases hin:i < d.length
  ·have hc:=(hby.next h3).2 i hin
   rw [Nat.zero_add] at hc
   have e1:d[i]?.getD 0 = d[i]:=by simp [hin]
   have hu:=(d[i]).toNat_lt
   rw [List.getD_eq_getElem?_getD,e1] at hc
   refine Xa @hc ?_
   refine Mul_ok n o 256 (fun w4 h4=>?_)
   refine Xa0 ?_
   refine Add_ok n _ _ ?_
   refine Xa0 ?_
   rw [List.drop_eq_getElem_cons hin,List.foldl_cons] at hf
   refine ⟨⟨h3.on h4,_,_,i + 1,rfl,by omega,hf⟩,?_⟩
   simp only [vsMu_eq]; omega
  ·rw [List.drop_of_length_le (by omega),List.foldl_nil] at hf
   refine Xa0 ?_
   rw [hf]
   exact k _ (hb.on h3)
 ·rw [if_neg hn] at k
  refine Xa0 ?_
  exact k _ (bR)
structure GrI (Wl w:World) (g:Nat) (T:TypeId) (cs:List Value) (ov:Value) (l:List Int):Prop where
 lt:g < Wl.heap.size
 fr:FrG g Wl w
 own:OwnI w Wl.heap.size ov l
 holds:Holds w g T cs
theorem GrI.next {Wl w1:World} {g:Nat} {T:TypeId} {cs:List Value} {ov:Value} {l:List Int} (h:GrI Wl w g T cs ov l) (hb:Bw w w1):GrI Wl w1 g T cs ov l:=
 ⟨h.lt,h.fr.next hb,h.own.keep hb,h.holds.next hb⟩
theorem GrI.start {g:Nat} {T:TypeId} {cs:List Value} (hg:g < w.heap.size) (hh:Holds w g T cs):GrI w w g T cs (.slice none 0 0) []:=⟨hg,Fr.refl _ _,World.ownsRow_nil _ _ _ _,hh⟩
theorem gr_append {Wl:World} {g:Nat} {T T3:TypeId} {cs:List Value} {ov xv:Value} {l:List Int} {x:Int} (h:GrI Wl w g T cs ov l) (hx:Ints w xv [x]) (hl:l.length < 1099511627776)
  (k:∀ ad n c w',GrI Wl w' g T cs (.slice ad n c) (l ++ [x]) → K (.slice ad n c) w'):oM Tryz.prog (.call { callee:=.builtin .append,args:=#[.tmp 0,.tmp 1],argTypes:=#[24,24] }) T3 [ov,xv] K w:=by
 refine append1 h.own h.fr.size hx hl (fun v w' ho hb=>?_)
 obtain ⟨ad,c,rfl⟩:=owns_len ho
 have hlt:=h.lt
 refine k _ _ _ _ ⟨h.lt,h.fr.trans (S':=fun i=>Wl.heap.size ≤ i) ⟨hb.os,hb.tape,hb.output,hb.size,fun i hi hn=>hb.block i (by omega)⟩ (fun i h=>.inr h),ho,?_⟩
 have:=h.holds
 unfold Holds at this ⊢
 rw [hb.block g hlt]
 exact this
theorem gr_store {Wl:World} {g i:Nat} {T T3:TypeId} {cs:List Value} {l:List Int} {ad:Option Addr} {n c:Nat} (h:GrI Wl w g T cs (.slice ad n c) l) (hi:i < cs.length)
  (k:∀ w',GrI Wl w' g T (cs.set i (.slice ad n c)) (.slice ad n c) l → K undef w'):oM Tryz.prog (.store 24 (.tmp 0) (.tmp 1)) T3 [ptr g i,.slice ad n c] K w:=by
 refine arr_set sz_ints rfl rfl h.holds hi (fun w' hg hh=>?_)
 have hlt:=h.lt
 exact k _ ⟨h.lt,h.fr.by hg (fun i e=>.inl (oI e).symm),owns_keep h.own (fun j hj=>hg.block j (owns_own h.own hj).1 (fun e=>by have:=(owns_own h.own hj).2.1; have:=oI e; omega)),hh⟩
def GrJ (Wl:World) (g:Nat) (T:TypeId) (cs:Value → List Value) (al:List Int) (vs:List Value) (w':World):Prop:=∃ (v ov:Value) (i:Nat),vs = [v,.int .i64 (i:Int)] ∧ i ≤ al.length ∧ GrI Wl w' g T (cs ov) ov (al.take i)
def grMu (n:Nat) (l:List Value) (_:World):Nat:=match l with | [_,.int _ i]=>n - i.toNat | _=>0
theorem grMu_eq (n:Nat) (u:Value) (k:IntKind) (i:Int) (w:World):grMu n [u,.int k i] w = n - i.toNat:=rfl
theorem take_snoc {al:List Int} {i:Nat} (h:i < al.length):al.take i ++ [al[i]] = al.take (i + 1):=by
 rw [List.take_add_one,gE h]; rfl
@[reducible] def mirV (m:Mir) (v:Value):Value:=.agg #[v,.int .i64 m.blind]
@[reducible] def mirC (m:Mir) (v:Value):List Value:=[v,.int .i64 m.blind]
structure MirR (w:World) (m:Mir) (v:Value):Prop where
 ints:Ints w v m.bases
 blind:I64 m.blind
theorem MirR.next {w1:World} {m:Mir} {v:Value} (h:MirR w m v) (hb:Bw w w1):MirR w1 m v:=⟨h.ints.next hb,h.blind⟩
theorem bad_ok (g:Grp) (x:Int) {b:Nat} (h1:w.cell? ⟨b,1,none⟩ = some (.int .i64 g.Q)) (k:∀ w',Bw w w' → K (.bool (badN g x)) w'):callM Tryz.prog 135 #[.int .i64 x,.pointer (some ⟨b,0,none⟩)] K w:=by
 apply sh_135_ok
 unfold sh_135
 have k:=k w (bR)
 unfold badN at k
 by_cases h0:x < 1
 ·rw [decide_eq_true h0,Bool.true_or] at k
  refine Xa (An2 @h1 @h0) ?_
  exact k
 ·rw [decide_eq_false h0,Bool.false_or] at k
  refine Xa (An2 @h1 @h0) ?_
  by_cases h2:g.Q ≤ x
  ·simpa [h2] using k
  ·simpa [h2] using k
theorem makeM_no {g:Grp} {m:Mir} (h:validG g = false ∨ m.bases.length < 2 ∨ 7 < m.bases.length ∨ m.bases.any (badN g) = true ∨ badN g m.blind = true):makeM g m = (⟨⟨0,0,0⟩,[],0⟩,false):=by
 unfold makeM
 rw [if_neg]
 rcases h with h | h | h | h | h <;> simp [h] <;> omega
@[reducible] def zS:Stp:=⟨⟨0,0,0⟩,[],0⟩
theorem build_stp2 (T:TypeId) (g:Grp) (b:Int):oM Tryz.prog (Go.Op.build 26 #[(0,(.tmp 0)),(2,(.tmp 1))]) T [grpV g,.int .i64 b] = pureM (stpV ⟨g,[],b⟩ (.slice none 0 0)):=by
 funext K w
 kernel_rfl
theorem store_stp {K:VK} {T':TypeId} {g:Nat} (s:Stp) (ad:Option Addr) (n c:Nat) (hk:KnM w0 L g 5 w)
  (k:∀ W,KnM w0 L g 5 W → cellsAre W (cellsOf [] g 0 (stpC s (.slice ad n c))) → w.grownBy W (some g) → K undef W):oM Tryz.prog (.store 26 (.tmp 0) (.tmp 1)) T' [.pointer (some ⟨g,0,none⟩),stpV s (.slice ad n c)] K w:=by
 obtain ⟨W,e,hg,hm,hc⟩:=store_run (P:=Tryz.prog) (W:=w) sz_stp (x:=stpV s (.slice ad n c)) rfl rfl (stp_one s ad n c) hk.mine
 rw [oM_store,e]
 exact k W ⟨hk.kn.wrote hg hk.base hk.off,hm,hk.base,hk.off⟩ hc hg
theorem zS_R {v:Value} (hT:DbT w) (hi:Ints w v []):SetR w zS v:=⟨⟨by constructor <;> decide,by constructor <;> decide,by constructor <;> decide⟩,hi,by constructor <;> decide,hT⟩
theorem Make_ok (g:Grp) (m:Mir) {mv:Value} (hg:GrpR g) (hT:DbT w) (hm:MirR w m mv)
  (k:∀ w' sv,Bw w w' → SetR w' (makeM g m).1 sv → (∀ i,Value.inBlock sv = some i → w.heap.size ≤ i) → K (.tuple #[stpV (makeM g m).1 sv,.bool (makeM g m).2]) w'):callM Tryz.prog 55 #[grpV g,mirV m mv] K w:=by
 apply sh_55_ok
 unfold sh_55
 have hms:=hm.ints
 obtain ⟨ad,c,rfl⟩:=hm.ints.isSlice
 have k2:∀ w' sv r,makeM g m = r → Bw w w' → SetR w' r.1 sv → (∀ i,Value.inBlock sv = some i → w.heap.size ≤ i) → K (.tuple #[stpV r.1 sv,.bool r.2]) w':=fun w' sv r e hb hi hf=>by
  rw [← e] at hi ⊢
  exact k w' sv hb hi hf
 clear k
 have hno:=makeM_no (g:=g) (m:=m)
 have hml:=hms.len
 refine box_kn (cs:=[.int .i64 g.P,.int .i64 g.Q,.int .i64 g.G]) rfl (.start w) fun b1 W hk hb1 hbb=>?_
 refine box_kn (cs:=mirC m (.slice ad m.bases.length c)) rfl hk fun b2 W2 hk hb2 hbb=>?_
 refine alloc_mine (n:=5) al_stp rfl hk fun g0 W3 hk hb3 hg0=>?_
 clear hb1 hb2 hb3
 have bad:makeM g m = (⟨⟨0,0,0⟩,[],0⟩,false) → ∀ w2 (hk:KnM w (cellsOf (cellsOf [] b1 0 [.int .i64 g.P,.int .i64 g.Q,.int .i64 g.G]) b2 0 (mirC m (.slice ad m.bases.length c))) g0 5 w2),
   oM Tryz.prog (Go.Op.store 26 (.tmp 0) (.tmp 1)) 0 [.pointer (some ⟨g0,0,none⟩),stpV zS (.slice none 0 0)] (fun _ w=>
    ∃ r_29,(do loadVar 26 (← asAddr (.pointer (some ⟨g0,0,none⟩))):Sem Value).run Tryz.prog w = .ok r_29 w ∧ K (.tuple #[r_29,(.bool false)]) w) w2:=fun e w2 hk=>
  store_stp zS none 0 0 hk (fun W3 hk hc _=>⟨_,by simp [go_sem,hc],k2 _ _ _ e hk.below (zS_R (hT.next hk.below) (Ints.nil _)) (fun i h=>by cases h)⟩)
 refine Xa hk.cells ?_
 refine ValidGroup_ok g hg (hT.next hk.below) (fun w2 h2=>?_)
 have hk:=hk.next h2
 clear h2
 cases hv:validG g with
 | false=>
  refine Xa hk.cells ?_
  exact bad (hno (.inl hv)) _ hk
 | true=>
 by_cases h2:(m.bases.length:Int) < 2
 ·refine Xa (An2 hk.cells @h2) ?_
  exact bad (hno (.inr (.inl (by omega)))) _ hk
 by_cases h7:(7:Int) < m.bases.length
 ·refine Xa (An3 hk.cells @h2 @h7) ?_
  exact bad (hno (.inr (.inr (.inl (by omega))))) _ hk
 refine Xa (An3 hk.cells @h2 @h7) ?_
 refine ContainsFunc_ok (badN g) (hms.next hk.below) ?_ ?_
 ·intro w' x K' T hb _ h'
  refine oM_callv1 (by kernel_rfl) ?_
  have hk:=(hk.next hb).cells
  exact bad_ok g x hk.2.2.2.1 h'
 intro w3 h3
 have hk:=hk.next h3
 clear h3
 cases ha:m.bases.any (badN g) with
 | true=>
  refine Xa hk.cells ?_
  exact bad (hno (.inr (.inr (.inr (.inl ha))))) _ hk
 | false=>
 refine Xa hk.cells ?_
 refine oM_callv1 (by kernel_rfl) ?_
 refine bad_ok g m.blind hk.cells.2.2.2.1 (fun w4 h4=>?_)
 have hk:=hk.next h4
 clear h4
 cases hb:badN g m.blind with
 | true=>
  refine Xa hk.cells ?_
  exact bad (hno (.inr (.inr (.inr (.inr hb))))) _ hk
 | false=>
 clear bad hno
 have ey:makeM g m = (⟨g,m.bases.map (powerG g g.G),powerG g g.G m.blind⟩,true):=by
  unfold makeM
  rw [if_pos]
  rw [hv,ha,hb,decide_eq_true (by omega:2 ≤ m.bases.length),decide_eq_true (by omega:m.bases.length ≤ 7)]; rfl
 refine Xa hk.cells ?_
 have hk:=hk.drew
 refine ⟨Nx { w4 with drawn:=w4.drawn + 1 },bR,rfl,?_⟩
 generalize ({ w4 with drawn:=w4.drawn + 1 }:World) = W at hk ⊢
 refine Xc (fun W0 hW0=>(hk.next hW0).cells) ?_
 refine ⟨Nx,?_⟩
 apply monoE
 ·intro w1 h1
  exact Power_ok g g.G m.blind (fun w2 h2=>⟨h1.on h2,h2,rfl⟩)
 repeat (apply monoE; focus (intro w9 h9; (repeat (intro v9 e9; try (obtain rfl:=e9))); (repeat (any_goals ((with_reducible refine oG fun X Y=>?_); simp [go_sem,build_stp2]; apply Y; clear Y X))); exact ⟨h9,bR,rfl⟩))
 refine monoR (fun v w'=>∃ g2,v = ptr g2 0 ∧ W.heap.size ≤ g2 ∧ Holds w' g2 26 (stpC zS (.slice none 0 0))) (fun v w w1 hS h=>h.imp fun g2 h=>⟨h.1,h.2.1,h.2.2.next hS⟩) ?_ ?_
 ·intro w1 h1
  exact arr_alloc al_stp (fun g2 w2 h2 hg2 hh=>⟨h1.on h2,h2,g2,rfl,Nat.le_trans h1.size hg2,hh⟩)
 (intro w9 h9; repeat (intro v9 e9; try (obtain rfl:=e9)))
 obtain ⟨g2,rfl,hg2,hh⟩:=e9
 refine arr_store sz_stp (xs:=stpC ⟨g,[],powerG g g.G m.blind⟩ (.slice none 0 0)) rfl rfl (stp_one ⟨g,[],powerG g g.G m.blind⟩ none 0 0) hh rfl (fun w10 hg10 hh=>?_)
 have h10:=grown_below h9 hg10 hg2
 have hgW:g0 < W.heap.size:=mine_lt hk.mine
 have hoffL:=cells_lt hk.cells
 have hk:=hk.next h10
 clear hg10 h9
 refine Xa hk.cells ?_
 have hne:g0 ≠ g2:=by omega
 have hoff:∀ p ∈ cellsOf (cellsOf [] b1 0 [.int .i64 g.P,.int .i64 g.Q,.int .i64 g.G]) b2 0 (mirC m (.slice ad m.bases.length c)),p.1.block ≠ g2:=fun p hp=>by have:=hoffL p hp; omega
 have hbase:w.heap.size ≤ g2:=Nat.le_trans hk.base (by omega)
 have hal:(m.bases.map (powerG g g.G)).length = m.bases.length:=List.length_map _
 have hrng:∀ n ∈ m.bases.map (powerG g g.G),I64 n:=by
  intro n hn
  obtain ⟨x,_,rfl⟩:=List.mem_map.1 hn
  exact powerG_I64 _ _ _
 have hat:∀ i (h:i < m.bases.length),powerG g g.G m.bases[i] = (m.bases.map (powerG g g.G))[i]'(by rw [hal]; exact h):=fun i h=>by simp
 generalize m.bases.map (powerG g g.G) = al at *
 refine ⟨GrJ w10 g2 26 (fun ov=>stpC ⟨g,[],powerG g g.G m.blind⟩ ov) al,grMu m.bases.length,⟨_,.slice none 0 0,0,rfl,by omega,.start hh.lt hh⟩,?_⟩
 have hk0:=hk
 rintro _ _ w6 ⟨u,ov,i,rfl,hi,hgr⟩
 have hk:=hk0.fr hgr.fr hoff hne hbase
 by_cases hin:i = m.bases.length
 ·have ho:=hgr.own
  rw [List.take_of_length_le (by omega)] at ho
  have hints:=ho.ints hrng (by omega)
  obtain ⟨g',oc,cur,rfl,hlt,hB,_,_,_,_⟩:=owns_cells ho (by omega)
  refine Xa hgr.holds.are ?_
  refine store_stp ⟨g,al,powerG g g.G m.blind⟩ (some ⟨g',0,none⟩) al.length oc hk (fun W3 hk hc hg3=>⟨stpV ⟨g,al,powerG g g.G m.blind⟩ (.slice (some ⟨g',0,none⟩) al.length oc),by simp [go_sem,hc],k2 W3 (.slice (some ⟨g',0,none⟩) al.length oc) _ ey hk.below ⟨hg,⟨hints.row.keep hg3.size (fun i hi hlt=>hg3.block i hlt ?_),hrng,by show al.length ≤ _; omega⟩,powerG_I64 _ _ _,hT.next hk.below⟩ (fun i h=>by have e2:g' = i:=oI h; have:=hk0.below.size; omega)⟩)
  cases hi
  intro e
  have e2:g' = g0:=oI e
  have:=hh.lt
  omega
 ·obtain ⟨b8,o8,rfl,hb8',ca,ra,_⟩:=hms.at (i:=i) (by omega)
  refine Xa (ca _ hk.below) ?_
  have hk:=hk.drew
  have hgr:=hgr.next (.drawn (B:=w6.heap.size))
  refine ⟨Nx { w6 with drawn:=w6.drawn + 1 },bR,rfl,?_⟩
  generalize ({ w6 with drawn:=w6.drawn + 1 }:World) = W6 at hk hgr ⊢
  refine Xc (fun W0 hW0=>An2 ((hk.next hW0).cells) ((hgr.next hW0).holds.are)) ?_
  refine ⟨Nx,?_⟩
  apply monoE
  ·intro w1 h1
   exact Power_ok g g.G _ (fun w2 h2=>⟨h1.on h2,h2,rfl⟩)
  refine monoR (fun v w'=>Ints w' v [powerG g g.G m.bases[i]]) (fun v w w1 hS h=>h.next hS) ?_ ?_
  ·rintro w1 h1 _ rfl
   exact mk1 _ (powerG_I64 _ _ _) (fun v w2 h2 hi=>⟨h1.on h2,h2,hi⟩)
  rintro w9 h9 _ rfl v9 hi9
  refine gr_append (hgr.next h9) hi9 (by rw [List.length_take]; omega) (fun ad n c w11 hgr=>?_)
  refine Xa0 ?_
  refine gr_store (i:=3) hgr (show 3 < 5 by decide) (fun w12 hgr=>?_)
  refine Xa0 ?_
  rw [hat i (by omega),take_snoc] at hgr
  refine ⟨⟨_,_,i + 1,rfl,by omega,hgr⟩,?_⟩
  simp only [grMu_eq]; omega
theorem Equal_ok {v u:Value} {a b:List Int} (ha:Ints w v a) (hb:Ints w u b) (k:∀ w',Bw w w' → K (.bool (decide (a = b))) w'):callM Tryz.prog 117 #[v,u] K w:=by
 apply sh_117_ok
 unfold sh_117
 obtain ⟨ad1,c1,rfl⟩:=ha.isSlice
 obtain ⟨ad2,c2,rfl⟩:=hb.isSlice
 have l1:=ha.len
 have l2:=hb.len
 by_cases hl:a.length = b.length
 ·refine Xa @hl ?_
  refine ⟨fun vs w'=>Bw w w' ∧ ∃ (v v2:Value) (i:Nat),vs = [v,v2,.int .i64 (i:Int)] ∧ i ≤ a.length ∧ a.take i = b.take i,fun vs _=>match vs with | [_,_,.int _ i]=>b.length - i.toNat | _=>0,⟨bR,_,_,0,rfl,by omega,rfl⟩,?_⟩
  rintro _ _ w1 ⟨h1,u1,u2,i,rfl,hi,he⟩
  by_cases hin:i = b.length
  ·have e:a = b:=by
    rw [List.take_of_length_le (by omega),List.take_of_length_le (by omega)] at he
    exact he
   have k:=k _ h1
   rw [decide_eq_true e] at k
   refine Xa @hl ?_
   exact k
  ·obtain ⟨b1,o1,rfl,hb1,ca,ra,_⟩:=ha.at (i:=i) (by omega)
   obtain ⟨b2,o2,rfl,hb2,cb,rb,_⟩:=hb.at (i:=i) (by omega)
   refine Xa @hl ?_
   refine ⟨Below w.heap.size w,h1.trans .drawn,rfl,?_⟩
   by_cases hx:a[i] = b[i]
   ·refine Xf (fun W0 hW0=>An2 (ca _ hW0) (cb _ hW0)) (An2 @hl @hx) ?_
    refine ⟨Nx,fun w2 h2=>?_⟩
    refine Xa @hx ?_
    refine ⟨⟨h2,_,_,i + 1,rfl,by omega,?_⟩,by show b.length - (((i + 1:Nat):Int)).toNat < b.length - ((i:Nat):Int).toNat; omega⟩
    rw [List.take_succ_eq_append_getElem (by omega),List.take_succ_eq_append_getElem (by omega),he,hx]
   ·refine Xf (fun W0 hW0=>An2 (ca _ hW0) (cb _ hW0)) (An2 @hl @hx) ?_
    refine ⟨Nx,fun w2 h2=>?_⟩
    have k:=k _ h2
    rw [decide_eq_false (by rintro rfl; exact hx rfl)] at k
    refine Xa @hx ?_
    exact k
 ·have hl':¬ (a.length:Int) = b.length:=by omega
  have k:=k _ (bR)
  rw [decide_eq_false (by rintro rfl; exact hl rfl)] at k
  refine Xa @hl' ?_
  exact k
theorem Mirrors_ok (s:Stp) (m:Mir) {v mv:Value} (hs:SetR w s v) (hm:MirR w m mv) (k:∀ w',Bw w w' → K (.bool (mirrorsM s m)) w'):callM Tryz.prog 58 #[stpV s v,mirV m mv] K w:=by
 apply sh_58_ok
 unfold sh_58
 obtain ⟨ad,c,rfl⟩:=hs.ints.isSlice
 have hms:=hm
 obtain ⟨mad,mc,rfl⟩:=hm.ints.isSlice
 refine box_kn (cs:=stpC s (.slice ad s.bases.length c)) rfl (.start w) fun b1 W hk hb1 hbb=>?_
 refine box_kn (cs:=mirC m (.slice mad m.bases.length mc)) rfl hk fun b2 W2 hk hb2 hbb=>?_
 clear hb1 hb2
 unfold mirrorsM at k
 refine Xa hk.cells ?_
 refine Make_ok s.g m hs.grp (hs.db.next hk.below) (hms.next hk.below) (fun w3 sv h3 hr _=>?_)
 have hk:=hk.next h3
 obtain ⟨sad,sc,rfl⟩:=hr.ints.isSlice
 generalize (makeM s.g m).1 = t at *
 generalize (makeM s.g m).2 = q at *
 refine Xb2_0 ?_
 refine local_stp t sad t.bases.length sc hk (fun b7 W7 hk hb7 hg7=>?_)
 cases q with
 | false=>
  rw [bF,bF] at k
  refine Xa0 ?_
  exact k _ hk.below
 | true=>
 rw [bT] at k
 by_cases hbl:t.blind = s.blind
 ·rw [decide_eq_true hbl,bT] at k
  refine Xa (An2 hk.cells @hbl) ?_
  refine Equal_ok (hr.ints.next hb7) (hs.ints.next hk.below) (fun w8 h8=>?_)
  have k:=k _ (hk.next h8).below
  generalize decide (t.bases = s.bases) = q at *
  refine Xa0 ?_
  exact k
 ·rw [decide_eq_false hbl,bF] at k
  refine Xa (An2 hk.cells @hbl) ?_
  exact k _ hk.below
end
end Go.Proofs
namespace Go.Proofs.Cd
open Go Go.Sh Go.RowKit Go.Lib CodeSpec
theorem pText_ok (s:List UInt8) (hs:s.length < 2^60) {K:VK} {w:World} (hl:Laid w) (k:∀ w',Bw w w' → K (.string ⟨(encText s).toArray⟩) w'):callM Tryz.prog 160 #[.string ⟨s.toArray⟩] K w:=by
 apply sh_160_ok
 unfold sh_160
 have hin:InR (s.length:Nat):=⟨by omega,by omega⟩
 have hi:=itoa_len _ hin
 refine Xa0 ?_
 refine itoa_ok _ hin hl (fun w1 hb1=>?_)
 refine Xa0 ?_
 exact K_eq (k _ hb1) (by simp [encText])
end Go.Proofs.Cd
namespace Go.Proofs
open Go Go.Sh Go.RowKit FdSpec TkSpec CodeSpec PrSpec
structure SRow {α:Type} (n:Nat) (At:World → Nat → Nat → α → Prop) (w:World) (v:Value) (l:List α):Prop where
 row:∃ ad c,v = .slice ad l.length c ∧ (l = [] ∨ ∃ b o,ad = some ⟨b,o,none⟩ ∧ b < w.heap.size ∧ ∀ (i:Nat) (h:i < l.length),At w b (o + i * n) l[i])
 len:l.length ≤ 9223372036854775807
def Stay {α:Type} (At:World → Nat → Nat → α → Prop):Prop:=∀ (w w':World) (b p:Nat) (x:α),At w b p x → b < w.heap.size → Bw w w' → At w' b p x
section
variable {α:Type} {n:Nat} {At:World → Nat → Nat → α → Prop} {w w':World} {v:Value} {l:List α}
theorem SRow.next (h:SRow n At w v l) (hs:Stay At) (hb:Bw w w'):SRow n At w' v l:=by
 obtain ⟨⟨ad,c,rfl,h1⟩,h2⟩:=h
 refine ⟨⟨ad,c,rfl,h1.imp id ?_⟩,h2⟩
 rintro ⟨b,o,rfl,hlt,hc⟩
 exact ⟨b,o,rfl,lL hlt hb.size,fun i hi=>hs _ _ _ _ _ (hc i hi) hlt hb⟩
theorem SRow.isSlice (h:SRow n At w v l):∃ ad c,v = .slice ad l.length c:=by
 obtain ⟨⟨ad,c,rfl,_⟩,_⟩:=h; exact ⟨ad,c,rfl⟩
theorem SRow.at {ad:Option Addr} {m c:Nat} (h:SRow n At w (.slice ad m c) l) {i:Nat} (hi:i < l.length):∃ b o,ad = some ⟨b,o,none⟩ ∧ b < w.heap.size ∧ At w b (o + i * n) l[i]:=by
 obtain ⟨⟨ad',c',hv,h1⟩,_⟩:=h
 cases hv
 rcases h1 with rfl | ⟨b,o,rfl,hlt,hc⟩
 ·simp at hi
 ·exact ⟨b,o,rfl,hlt,hc i hi⟩
end
theorem idx_row {P:Program} {K:VK} {n:Nat} (t T:TypeId) (hu:P.underlying t = some (.slice (P.elem t))) (hs:∀ w,(sizeOf (P.elem t)).run P w = .ok n w) (b o m c:Nat) (x:Int) :
  oM P (.indexAddr t (.tmp 0) (.tmp 1)) T [.slice (some ⟨b,o,none⟩) m c,.int .i64 x] = onM (0 ≤ x ∧ x < m) (.pointer (some ⟨b,o + x.toNat * n,none⟩)):=by
 funext K w
 rw [oM_indexAddr,run_indexAt_slice (h:=hu)]
 by_cases hi:0 ≤ x ∧ x < m
 ·rw [if_pos hi,hs]
  simp only [Result.andThen,add_none,rM_ok]
  exact propext ⟨fun h=>⟨hi,h⟩,fun h=>h.2⟩
 ·rw [if_neg hi]
  obtain ⟨e',w',he⟩:=halts Value P .i64 x m .index w
  rw [he]
  exact propext ⟨fun h=>h.elim,fun h=>hi h.1⟩
@[reducible] def trmC (t:Trm):List Value:=[.int .i64 t.var,.int .i64 t.base]
@[reducible] def trmV (t:Trm):Value:=.agg #[.int .i64 t.var,.int .i64 t.base]
@[reducible] def eqnC (e:Eqn) (v:Value):List Value:=[.int .i64 e.target,v]
@[reducible] def eqnV (e:Eqn) (v:Value):Value:=.agg #[.int .i64 e.target,v]
@[reducible] def clmC (c:Clm) (v:Value):List Value:=[.int .i64 c.vars,v]
@[reducible] def clmV (c:Clm) (v:Value):Value:=.agg #[.int .i64 c.vars,v]
def TrmAt (w:World) (b p:Nat) (t:Trm):Prop:=w.cell? ⟨b,p,none⟩ = some (.int .i64 t.var) ∧ w.cell? ⟨b,p + 1,none⟩ = some (.int .i64 t.base) ∧ I64 t.var ∧ I64 t.base
theorem trm_stay:Stay TrmAt:=fun w w' b p x h hlt hb=>by
 have e:∀ k,w'.cell? ⟨b,k,none⟩ = w.cell? ⟨b,k,none⟩:=fun k=>by rw [hb.cell hlt]
 unfold TrmAt at h ⊢
 simp only [e]
 exact h
def EqnAt (w:World) (b p:Nat) (e:Eqn):Prop:=∃ v,w.cell? ⟨b,p,none⟩ = some (.int .i64 e.target) ∧ w.cell? ⟨b,p + 1,none⟩ = some v ∧ SRow 2 TrmAt w v e.terms ∧ I64 e.target
theorem eqn_stay:Stay EqnAt:=fun w w' b p x h hlt hb=>by
 have e:∀ k,w'.cell? ⟨b,k,none⟩ = w.cell? ⟨b,k,none⟩:=fun k=>by rw [hb.cell hlt]
 obtain ⟨v,h1,h2,h3,h4⟩:=h
 exact ⟨v,by rw [e]; exact h1,by rw [e]; exact h2,h3.next trm_stay hb,h4⟩
structure ClmR (w:World) (c:Clm) (v:Value):Prop where
 vars:I64 c.vars
 eqs:SRow 2 EqnAt w v c.eqs
theorem ClmR.next {w w':World} {c:Clm} {v:Value} (h:ClmR w c v) (hb:Bw w w'):ClmR w' c v:=⟨h.vars,h.eqs.next eqn_stay hb⟩
@[go_sem] theorem idx_trm (T:TypeId) (b o n c:Nat) (x:Int):oM Tryz.prog (.indexAddr 142 (.tmp 0) (.tmp 1)) T [.slice (some ⟨b,o,none⟩) n c,.int .i64 x] = onM (0 ≤ x ∧ x < n) (.pointer (some ⟨b,o + x.toNat * 2,none⟩)):=
 idx_row (K:=fun _ _=>True) _ T (by kernel_rfl) (fun w=>by kernel_rfl) b o n c x
@[go_sem] theorem idx_eqn (T:TypeId) (b o n c:Nat) (x:Int):oM Tryz.prog (.indexAddr 67 (.tmp 0) (.tmp 1)) T [.slice (some ⟨b,o,none⟩) n c,.int .i64 x] = onM (0 ≤ x ∧ x < n) (.pointer (some ⟨b,o + x.toNat * 2,none⟩)):=
 idx_row (K:=fun _ _=>True) _ T (by kernel_rfl) (fun w=>by kernel_rfl) b o n c x
theorem sz_trm (w:World):(sizeOf 146).run Tryz.prog w = .ok 2 w:=by kernel_rfl
theorem al_trm (w:World):(Instr.alloc 146 true (.tuple #[])).run Tryz.prog w = .ok (.pointer (some ⟨w.heap.size,0,none⟩)) (w.alloc (.cells [.int .i64 0,.int .i64 0].toArray 146)):=by kernel_rfl
theorem trm_one (t:Trm):∀ u ∈ trmC t,u.oneCell' = true:=by
 intro u hu
 simp only [trmC,List.mem_cons,List.not_mem_nil,or_false] at hu
 rcases hu with rfl | rfl <;> rfl
theorem sz_eqn (w:World):(sizeOf 144).run Tryz.prog w = .ok 2 w:=by kernel_rfl
theorem al_eqn (w:World):(Instr.alloc 144 true (.tuple #[])).run Tryz.prog w = .ok (.pointer (some ⟨w.heap.size,0,none⟩)) (w.alloc (.cells [.int .i64 0,.slice none 0 0].toArray 144)):=by kernel_rfl
theorem eqn_one (e:Eqn) (ad:Option Addr) (n c:Nat):∀ u ∈ eqnC e (.slice ad n c),u.oneCell' = true:=by
 intro u hu
 simp only [eqnC,List.mem_cons,List.not_mem_nil,or_false] at hu
 rcases hu with rfl | rfl <;> rfl
section
variable {K:VK} {w w0:World} {L:List (Addr × Value)}
theorem local_trm {K:VK} {T' T2:TypeId} (t:Trm) (hk:Kn w0 L w)
  (k:∀ b W,Kn w0 (cellsOf L b 0 (trmC t)) W → Bw w W → w.heap.size ≤ b → K (.pointer (some ⟨b,0,none⟩)) W) :
  oM Tryz.prog (.alloc 146) T' [] (fun v w=>oM Tryz.prog (.store 146 (.tmp 0) (.tmp 1)) T2 [v,trmV t] (fun _ w=>K v w) w) w:=
 local_kn al_trm rfl sz_trm rfl rfl (trm_one t) hk k
theorem local_eqn {K:VK} {T' T2:TypeId} (e:Eqn) (ad:Option Addr) (m c:Nat) (hk:Kn w0 L w)
  (k:∀ b W,Kn w0 (cellsOf L b 0 (eqnC e (.slice ad m c))) W → Bw w W → w.heap.size ≤ b → K (.pointer (some ⟨b,0,none⟩)) W) :
  oM Tryz.prog (.alloc 144) T' [] (fun v w=>oM Tryz.prog (.store 144 (.tmp 0) (.tmp 1)) T2 [v,eqnV e (.slice ad m c)] (fun _ w=>K v w) w) w:=
 local_kn al_eqn rfl sz_eqn rfl rfl (eqn_one e ad m c) hk k
def AlJ {α:Type} (w0:World) (L:List (Addr × Value)) (p:α → Bool) (l:List α) (R:Bool) (vs:List Value) (w':World):Prop:=Kn w0 L w' ∧ ∃ (u:Value) (i:Nat),vs = [u,.int .i64 (i:Int)] ∧ i ≤ l.length ∧ (l.drop i).all p = R
abbrev AlJk {α:Type} {w0 w':World} {L:List (Addr × Value)} (_:Kn w0 L w') (p:α → Bool) (l:List α) (R:Bool):List Value → World → Prop:=AlJ w0 L p l R
theorem exponent_ok (s:Stp) (n:Int) {v:Value} (hs:SetR w s v) (k:∀ w',Bw w w' → K (.bool (exponentM s n)) w'):callM Tryz.prog 127 #[stpV s v,.int .i64 n] K w:=by
 apply sh_127_ok
 unfold sh_127
 obtain ⟨ad,c,rfl⟩:=hs.ints.isSlice
 refine box_kn (cs:=stpC s (.slice ad s.bases.length c)) rfl (.start w) fun b1 W hk hb1 hbb=>?_
 unfold exponentM at k
 by_cases h:0 ≤ n
 ·rw [decide_eq_true h,bT] at k
  refine Xa (An2 hk.cells @h) ?_
  exact k _ hk.below
 ·rw [decide_eq_false h,bF] at k
  refine Xa (An2 hk.cells @h) ?_
  exact k _ hk.below
theorem exponents_ok (s:Stp) (n:Int) {v lv:Value} {l:List Int} (hs:SetR w s v) (hl:Ints w lv l) (k:∀ w',Bw w w' → K (.bool (exponentsM s l n)) w'):callM Tryz.prog 140 #[stpV s v,lv,.int .i64 n] K w:=by
 apply sh_140_ok
 unfold sh_140
 have hs':=hs
 obtain ⟨ad,c,rfl⟩:=hs.ints.isSlice
 have hl':=hl
 obtain ⟨lad,lc,rfl⟩:=hl.isSlice
 refine box_kn (cs:=stpC s (.slice ad s.bases.length c)) rfl (.start w) fun b1 W hk hb1 hbb=>?_
 unfold exponentsM at k
 by_cases h:(l.length:Int) = n
 ·rw [decide_eq_true h,bT] at k
  refine Xa (An2 hk.cells @h) ?_
  refine ContainsFunc_ok (fun x=>!exponentM s x) (hl'.next hk.below) ?_ ?_
  ·intro w' x K' T hb hx h'
   refine oM_callv1 (by kernel_rfl) ?_
   have hk:=hk.next hb
   apply sh_187_ok
   unfold sh_187
   refine Xa hk.cells ?_
   refine exponent_ok s x (hs'.next hk.below) (fun w2 h2=>?_)
   refine Xa0 ?_
   exact h' _ h2
  ·intro w3 h3
   have hk:=hk.next h3
   generalize (l.any fun x=>!exponentM s x) = q at *
   refine Xa0 ?_
   exact k _ hk.below
 ·rw [decide_eq_false h,bF] at k
  refine Xa (An2 hk.cells @h) ?_
  exact k _ hk.below
theorem validClaim_ok (s:Stp) (c:Clm) {v cv:Value} (hs:SetR w s v) (hc:ClmR w c cv) (k:∀ w',Bw w w' → K (.bool (claimM s c)) w'):callM Tryz.prog 112 #[stpV s v,clmV c cv] K w:=by
 apply sh_112_ok
 unfold sh_112
 have hs':=hs
 have hc':=hc
 obtain ⟨ad,ca,rfl⟩:=hs.ints.isSlice
 obtain ⟨ead,ec,rfl⟩:=hc.eqs.isSlice
 refine box_kn (cs:=stpC s (.slice ad s.bases.length ca)) rfl (.start w) fun b1 W1 hk hb1 hbb=>?_
 refine box_kn (cs:=clmC c (.slice ead c.eqs.length ec)) rfl hk fun b2 W2 hk hb2 hbb=>?_
 clear hb1 hb2 hbb
 have eC:claimM s c = (decide (0 ≤ c.vars) && decide (c.vars ≤ 120) && decide (1 ≤ c.eqs.length) && decide (c.eqs.length ≤ 60) && c.eqs.all (eqnFine s c.vars)):=rfl
 by_cases h1:c.vars < 0
 ·rw [decide_eq_false (by omega),bF,bF,bF,bF] at eC
  rw [eC] at k
  refine Xa (An2 hk.cells @h1) ?_
  exact k _ hk.below
 by_cases h2:120 < c.vars
 ·rw [decide_eq_false (by omega:¬ c.vars ≤ 120),Bool.and_false,bF,bF,bF] at eC
  rw [eC] at k
  refine Xa (An3 hk.cells @h1 @h2) ?_
  exact k _ hk.below
 by_cases h3:(c.eqs.length:Int) < 1
 ·rw [decide_eq_false (by omega:¬ 1 ≤ c.eqs.length),Bool.and_false,bF,bF] at eC
  rw [eC] at k
  refine Xa (An4 hk.cells @h1 @h2 @h3) ?_
  exact k _ hk.below
 by_cases h4:(60:Int) < c.eqs.length
 ·rw [decide_eq_false (by omega:¬ c.eqs.length ≤ 60),Bool.and_false,bF] at eC
  rw [eC] at k
  refine Xa (An5 hk.cells @h1 @h2 @h3 @h4) ?_
  exact k _ hk.below
 rw [decide_eq_true (by omega),decide_eq_true (by omega:c.vars ≤ 120),decide_eq_true (by omega:1 ≤ c.eqs.length),decide_eq_true (by omega:c.eqs.length ≤ 60)] at eC
 simp only [bT] at eC
 rw [eC] at k
 clear eC
 refine Xa (An5 hk.cells @h1 @h2 @h3 @h4) ?_
 refine ⟨AlJk hk (eqnFine s c.vars) c.eqs (c.eqs.all (eqnFine s c.vars)),grMu c.eqs.length,⟨hk,_,0,rfl,by omega,by rw [List.drop_zero]⟩,?_⟩
 generalize c.eqs.all (eqnFine s c.vars) = R at *
 rintro _ _ w3 ⟨hk,u,i,rfl,hi,ha⟩
 by_cases hin:i = c.eqs.length
 ·rw [List.drop_of_length_le (by omega),List.all_nil] at ha
  refine Xa0 ?_
  rw [ha]
  exact k _ hk.below
 rw [List.drop_eq_getElem_cons (by omega),List.all_cons] at ha
 obtain ⟨b3,o3,rfl,hb3,tv,c0,c1,htr,hti⟩:=(hc'.eqs.next eqn_stay hk.below).at (i:=i) (by omega)
 generalize c.eqs[i] = e at *
 obtain ⟨tad,tc,rfl⟩:=htr.isSlice
 repeat (any_goals (first
 | ((with_reducible refine local_eqn e tad e.terms.length tc hk ?_); intro g13 W13 hk hb13 hg13)
 | (with_reducible refine yN ?_)
 | ((with_reducible refine oG fun X Y=>?_); simp [go_sem,c0,c1]; (first|refine Y _ _ ?_|refine And.intro (by omega) (Y _ _ ?_)); clear Y X)))
 have htr:=htr.next trm_stay hb13
 clear hb13 c0 c1
 refine Xa hk.cells ?_
 refine Element_ok s.g e.target hs'.grp (hs'.db.next hk.below) (fun w4 h4=>?_)
 have hk:=hk.next h4
 have htr:=htr.next trm_stay h4
 clear h4
 have eE:eqnFine s c.vars e = (elemG s.g e.target && decide (e.terms.length ≤ 80) && e.terms.all (trmFine s c.vars)):=rfl
 cases hel:elemG s.g e.target with
 | false=>
  rw [hel,bF,bF] at eE
  rw [eE,bF] at ha
  refine Xa hk.cells ?_
  rw [ha]
  exact k _ hk.below
 | true=>
 rw [hel,bT] at eE
 by_cases h8:(80:Int) < e.terms.length
 ·rw [decide_eq_false (by omega:¬ e.terms.length ≤ 80),bF] at eE
  rw [eE,bF] at ha
  refine Xa (An2 hk.cells @h8) ?_
  rw [ha]
  exact k _ hk.below
 rw [decide_eq_true (by omega:e.terms.length ≤ 80),bT] at eE
 rw [eE] at ha
 clear eE
 have htl:=htr.len
 refine Xa (An2 hk.cells @h8) ?_
 have hkk:=hk
 have htw:Kn w4 _ w4:=⟨bR,hk.cells⟩
 refine ⟨AlJk htw (trmFine s c.vars) e.terms (e.terms.all (trmFine s c.vars)),grMu e.terms.length,⟨htw,_,0,rfl,by omega,by rw [List.drop_zero]⟩,?_⟩
 generalize e.terms.all (trmFine s c.vars) = R2 at *
 rintro _ _ w5 ⟨hk2,u2,j,rfl,hj,hb⟩
 have hk:Kn w _ w5:=⟨hkk.below.on hk2.below,hk2.cells⟩
 by_cases hjn:j = e.terms.length
 ·rw [List.drop_of_length_le (by omega),List.all_nil] at hb
  rw [← hb,bT] at ha
  refine Xa0 ?_
  refine ⟨⟨⟨hk.below,hk.cells.2.2⟩,_,i + 1,rfl,by omega,ha⟩,?_⟩
  simp only [grMu_eq]; omega
 rw [List.drop_eq_getElem_cons (by omega),List.all_cons] at hb
 obtain ⟨b4,o4,rfl,hb4,d0,d1,di0,di1⟩:=(htr.next trm_stay hk2.below).at (i:=j) (by omega)
 generalize e.terms[j] = t at *
 repeat (any_goals (first
 | ((with_reducible refine local_trm t hk ?_); intro g14 W14 hk hb14 hg14)
 | (with_reducible refine yN ?_)
 | ((with_reducible refine oG fun X Y=>?_); simp [go_sem,d0,d1]; (first|refine Y _ _ ?_|refine And.intro (by omega) (Y _ _ ?_)); clear Y X)))
 have eT:trmFine s c.vars t = (decide (0 ≤ t.var) && decide (t.var < c.vars) && elemG s.g t.base):=rfl
 have hno:trmFine s c.vars t = false → K (.bool false) = K (.bool R):=fun h=>by
  rw [h,bF] at hb
  rw [← hb,bF] at ha
  rw [ha]
 by_cases g1:t.var < 0
 ·rw [decide_eq_false (by omega),bF,bF] at eT
  refine Xa (An2 hk.cells @g1) ?_
  rw [hno eT]
  exact k _ hk.below
 rw [decide_eq_true (by omega),bT] at eT
 by_cases g2:c.vars ≤ t.var
 ·rw [decide_eq_false (by omega),bF] at eT
  refine Xa (An3 hk.cells @g1 @g2) ?_
  rw [hno eT]
  exact k _ hk.below
 rw [decide_eq_true (by omega),bT] at eT
 refine Xa (An3 hk.cells @g1 @g2) ?_
 refine Element_ok s.g t.base hs'.grp (hs'.db.next hk.below) (fun w6 h6=>?_)
 have hk:=hk.next h6
 cases hel2:elemG s.g t.base with
 | false=>
  rw [hel2] at eT
  refine Xa hk.cells ?_
  rw [hno eT]
  exact k _ hk.below
 | true=>
 rw [hel2] at eT
 rw [eT,bT] at hb
 refine Xa hk.cells ?_
 refine ⟨⟨⟨hk2.below.on (hb14.on h6),hk.cells.2.2⟩,_,j + 1,rfl,by omega,hb⟩,?_⟩
 simp only [grMu_eq]; omega
theorem take_snoc' {al:List Int} {i:Nat} {x:Int} (h:al[i]? = some x):al.take i ++ [x] = al.take (i + 1):=by
 rw [List.take_add_one,h]; rfl
theorem append1g {B:Nat} {T:TypeId} {v xv:Value} {l:List Int} {x:Int} (ho:OwnI w B v l) (hB:B ≤ w.heap.size) (hx:Ints w xv [x]) (hl:l.length < 1099511627776)
  (k:∀ v' w',OwnI w' B v' (l ++ [x]) → w.grownBy w' v.ownBlock → (∀ i,v'.ownBlock = some i → v.ownBlock = some i ∨ w.heap.size ≤ i) → K v' w'):oM Tryz.prog (.call { callee:=.builtin .append,args:=#[.tmp 0,.tmp 1],argTypes:=#[24,24] }) T [v,xv] K w:=by
 obtain ⟨⟨ad,c,rfl,h0,hc⟩,hr,_⟩:=hx
 have hc:=hc.resolve_left (by simp)
 obtain ⟨b,o,rfl,hlt,hcell⟩:=hc
 refine append_at 24 T 3 ((Tryz.prog.info? 3).getD default) (.int .i64 0) 1 8 (by kernel_rfl) (by kernel_rfl) (by kernel_rfl) (by kernel_rfl) (by kernel_rfl) (by kernel_rfl) (by omega) (owns_base ho (Nat.zero_le _)) [.int .i64 x] (by simp) (by simp) ?_ ?_ (by simp only [maxLen,List.length_singleton]; omega) (by simp only [List.length_singleton]; omega) ?_
 ·rintro a ha j u hj
  cases ha
  rw [add_none]
  exact hcell j u hj
 ·intro u hu
  simp only [List.mem_singleton] at hu
  subst hu; rfl
 ·intro v' w' ho' hg hv
  have hbl:∀ i,v.ownBlock = some i → B ≤ i:=fun i hi=>(owns_own ho hi).2.1
  refine k v' w' ?_ hg hv
  have e1:(l ++ [x]).length = l.length + [x].length:=by simp
  have e2:flat intC (l ++ [x]) = flat intC l ++ [Value.int .i64 x]:=by rw [flat_int,flat_int]; simp
  show w'.ownsRow B 3 1 v' (l ++ [x]).length (flat intC (l ++ [x]))
  rw [e1,e2]
  exact owns_up ho' (fun i hi=>(hv i hi).elim (hbl i) (fun h=>Nat.le_trans hB h))
theorem cells_fr {S:Nat → Prop} {W:World}:∀ {L:List (Addr × Value)},cellsAre w L → Fr S w W → (∀ p ∈ L,p.1.block < w.heap.size ∧ ¬ S p.1.block) → cellsAre W L
 | [],_,_,_=>trivial
 | p :: L,hL,h,hn=>by
  obtain ⟨h0,h1⟩:=hn p (by simp)
  exact ⟨(World.cell?_of_block (h.block _ h0 h1)).trans hL.1,cells_fr hL.2 h (fun q hq=>hn q (by simp [hq]))⟩
theorem own_none {B:Nat}:OwnI w B (.slice none 0 0) []:=⟨rfl,.inl ⟨rfl,rfl⟩⟩
def apart (u v:Value):Prop:=∀ i,u.ownBlock = some i → v.ownBlock ≠ some i
theorem mk1g {T:TypeId} (x:Int) (hx:I64 x) (k:∀ v W,Bw w W → Ints W v [x] → Value.inBlock v = some w.heap.size → K v W):oM Tryz.prog (.buildSlice 24 1 #[(0,.tmp 0)]) T [.int .i64 x] K w:=by
 rw [oM_buildSlice1]
 have e:(Instr.buildSlice 24 1 #[(0,.int .i64 x)]).run Tryz.prog w = .ok (.slice (some ⟨w.heap.size,0,none⟩) 1 1) (w.alloc (.cells #[.int .i64 x] 3)):=by kernel_rfl
 rw [e]
 exact k _ _ ((Below.refl _ w).alloc (rL) _) (ints_alloc w [x] _ 1 (by simpa using hx) (by simp)) rfl
theorem ints_grown {w':World} {v:Value} {l:List Int} {b:Option Nat} (h:Ints w v l) (hg:w.grownBy w' b) (hne:∀ i,Value.inBlock v = some i → b ≠ some i):Ints w' v l:=
 ⟨h.row.keep hg.size (fun i e hlt=>hg.block i hlt (fun e2=>hne i e (by first | exact e2 | exact e2.symm))),h.rng,h.len⟩
structure Two (B:Nat) (W:World) (bv xv:Value) (w:World) (bv' xv':Value) (bs es:List Int):Prop where
 fr:Fr (fun i=>bv.ownBlock = some i ∨ xv.ownBlock = some i) W w
 ob:OwnI w B bv' bs
 oe:OwnI w B xv' es
 ap:apart bv' xv'
 lb:∀ i,bv'.ownBlock = some i → bv.ownBlock = some i ∨ W.heap.size ≤ i
 le:∀ i,xv'.ownBlock = some i → xv.ownBlock = some i ∨ W.heap.size ≤ i
 B:B ≤ W.heap.size
theorem Fr.of_below {S:Nat → Prop} {w1:World} (h:Bw w w1):Fr S w w1:=⟨h.os,h.tape,h.output,h.size,fun i hi _=>h.block i hi⟩
theorem Two.start {B:Nat} {bv xv:Value} {bs es:List Int} (ob:OwnI w B bv bs) (oe:OwnI w B xv es) (ap:apart bv xv) (hB:B ≤ w.heap.size):Two B w bv xv w bv xv bs es:=⟨Fr.refl _ _,ob,oe,ap,fun _ h=>.inl h,fun _ h=>.inl h,hB⟩
theorem Two.next {B:Nat} {W w1:World} {bv xv bv' xv':Value} {bs es:List Int} (h:Two B W bv xv w bv' xv' bs es) (hb:Bw w w1):Two B W bv xv w1 bv' xv' bs es:=
 ⟨h.fr.trans (S':=fun _=>False) (Fr.of_below hb) (fun _ h=>h.elim),h.ob.keep hb,h.oe.keep hb,h.ap,h.lb,h.le,h.B⟩
theorem Two.addB {B:Nat} {W:World} {bv xv bv' xv' yv:Value} {bs es:List Int} {y:Int} {T:TypeId} (h:Two B W bv xv w bv' xv' bs es) (hy:Ints w yv [y]) (hl:bs.length < 1099511627776)
  (k:∀ v w',Two B W bv xv w' v xv' (bs ++ [y]) es → w.grownBy w' bv'.ownBlock → K v w'):oM Tryz.prog (.call { callee:=.builtin .append,args:=#[.tmp 0,.tmp 1],argTypes:=#[24,24] }) T [bv',yv] K w:=by
 refine append1g h.ob (Nat.le_trans h.B h.fr.size) hy hl (fun v w' ho hg hv=>k v w' ⟨h.fr.by hg (fun i e=>(h.lb i e).imp .inl id),ho,owns_keep h.oe (fun i hi=>hg.block i (owns_own h.oe hi).1 (fun e=>h.ap i (by first | exact e | exact e.symm) hi)),?_,?_,h.le,h.B⟩ hg)
 ·intro i e1 e2
  rcases hv i e1 with h1 | h1
  ·exact h.ap i h1 e2
  ·have:=(owns_own h.oe e2).1
   omega
 ·intro i e1
  rcases hv i e1 with h1 | h1
  ·exact h.lb i h1
  ·exact .inr (Nat.le_trans h.fr.size h1)
theorem Two.addE {B:Nat} {W:World} {bv xv bv' xv' yv:Value} {bs es:List Int} {y:Int} {T:TypeId} (h:Two B W bv xv w bv' xv' bs es) (hy:Ints w yv [y]) (hl:es.length < 1099511627776)
  (k:∀ v w',Two B W bv xv w' bv' v bs (es ++ [y]) → w.grownBy w' xv'.ownBlock → K v w'):oM Tryz.prog (.call { callee:=.builtin .append,args:=#[.tmp 0,.tmp 1],argTypes:=#[24,24] }) T [xv',yv] K w:=by
 refine append1g h.oe (Nat.le_trans h.B h.fr.size) hy hl (fun v w' ho hg hv=>k v w' ⟨h.fr.by hg (fun i e=>(h.le i e).imp .inr id),owns_keep h.ob (fun i hi=>hg.block i (owns_own h.ob hi).1 (fun e=>h.ap i hi (by first | exact e | exact e.symm))),ho,?_,h.lb,?_,h.B⟩ hg)
 ·intro i e1 e2
  rcases hv i e2 with h1 | h1
  ·exact h.ap i e1 h1
  ·have:=(owns_own h.ob e1).1
   omega
 ·intro i e1
  rcases hv i e1 with h1 | h1
  ·exact h.le i h1
  ·exact .inr (Nat.le_trans h.fr.size h1)
theorem Two.below {B:Nat} {W:World} {bv xv bv' xv':Value} {bs es bs0 es0:List Int} (h:Two B W bv xv w bv' xv' bs es) (h0:Below B w0 W) (ob:OwnI W B bv bs0) (oe:OwnI W B xv es0) (hB:B ≤ w0.heap.size):Below B w0 w:=
 ⟨h.fr.os.trans h0.os,h.fr.tape.trans h0.tape,h.fr.output.trans h0.output,Nat.le_trans h0.size h.fr.size,fun i hi=>(h.fr.block i (by have:=h.B; omega) (fun e=>by
  rcases e with e | e
  ·have:=(owns_own ob e).2.1; omega
  ·have:=(owns_own oe e).2.1; omega)).trans (h0.block i hi)⟩
theorem Two.lit {B:Nat} {W:World} {bv xv bv' xv':Value} {bs es:List Int} (h:Two B W bv xv w bv' xv' bs es):(∀ i,bv'.ownBlock = some i → i < w.heap.size) ∧ (∀ i,xv'.ownBlock = some i → i < w.heap.size):=
 ⟨fun i e=>(owns_own h.ob e).1,fun i e=>(owns_own h.oe e).1⟩
def LfJ (w0:World) (bs es:List Int) (vs:List Value) (w':World):Prop:=Bw w0 w' ∧ ∃ (bv ev:Value) (i:Nat),vs = [bv,ev,.int .i64 (i:Int)] ∧ i ≤ bs.length ∧ OwnI w' w0.heap.size bv (bs.take i) ∧ OwnI w' w0.heap.size ev (es.take i) ∧ apart bv ev
theorem left_ok (s:Stp) (e:Eqn) (vs:List Int) {v ev lv:Value} (hs:SetR w s v) (he:SRow 2 TrmAt w ev e.terms) (hti:I64 e.target) (hl:Ints w lv vs) (hlen:e.terms.length < 1000) (hv:∀ t ∈ e.terms,0 ≤ t.var ∧ t.var < vs.length)
  (k:∀ w',Bw w w' → K (.int .i64 (leftM s e vs)) w'):callM Tryz.prog 181 #[stpV s v,eqnV e ev,lv] K w:=by
 apply sh_181_ok
 unfold sh_181
 have hs':=hs
 have he':=he
 have hl':=hl
 obtain ⟨ad,c,rfl⟩:=hs.ints.isSlice
 obtain ⟨ead,ec,rfl⟩:=he.isSlice
 obtain ⟨lad,lc,rfl⟩:=hl.isSlice
 refine box_kn (cs:=stpC s (.slice ad s.bases.length c)) rfl (.start w) fun b1 W1 hk hb1 hbb=>?_
 refine box_kn (cs:=eqnC e (.slice ead e.terms.length ec)) rfl hk fun b2 W2 hk hb2 hbb=>?_
 clear hb1 hb2 hbb
 refine Xa hk.cells ?_
 have eL:leftM s e vs = (prodG s.g (e.terms.map fun t=>t.base) (e.terms.map fun t=>vs.getD t.var.toNat 0)).1:=rfl
 rw [eL] at k
 clear eL
 have hbsl:(e.terms.map fun t=>t.base).length = e.terms.length:=by simp
 have hesl:(e.terms.map fun t=>vs.getD t.var.toNat 0).length = e.terms.length:=by simp
 refine ⟨LfJ W2 (e.terms.map fun t=>t.base) (e.terms.map fun t=>vs.getD t.var.toNat 0),vsMu e.terms.length,⟨bR,_,_,0,rfl,by omega,own_none,own_none,fun i h=>by cases h⟩,?_⟩
 rintro _ _ w3 ⟨hb3,bv,xv,i,rfl,hi,hob,hoe,hap⟩
 have hk3:=hk.next hb3
 by_cases hin:i = e.terms.length
 ·rw [List.take_of_length_le (by omega)] at hob hoe
  have hbi:∀ n ∈ (e.terms.map fun t=>t.base),I64 n:=fun n hn=>by
   obtain ⟨t,ht,rfl⟩:=List.mem_map.1 hn
   obtain ⟨j,hj,rfl⟩:=List.getElem_of_mem ht
   obtain ⟨_,_,_,_,_,_,_,h⟩:=he'.at hj
   exact h
  have hei:∀ n ∈ (e.terms.map fun t=>vs.getD t.var.toNat 0),I64 n:=fun n hn=>by
   obtain ⟨t,ht,rfl⟩:=List.mem_map.1 hn
   obtain ⟨h1,h2⟩:=hv t ht
   have hlt:t.var.toNat < vs.length:=by omega
   rw [List.getD_eq_getElem?_getD,gE hlt]
   exact hl'.rng _ (List.getElem_mem hlt)
  refine Xa hk3.cells ?_
  refine Product_ok s.g (hob.ints hbi (by omega)) (hoe.ints hei (by omega)) (fun w4 h4=>?_)
  have hk:=hk3.next h4
  refine Xa0 ?_
  exact k _ hk.below
 ·obtain ⟨b4,o4,rfl,hb4,d0,d1,di0,di1⟩:=(he'.next trm_stay hk3.below).at (i:=i) (by omega)
  have ht:=hv e.terms[i] (List.getElem_mem (by omega))
  have e1:(e.terms.map fun t=>t.base).take i ++ [e.terms[i].base] = (e.terms.map fun t=>t.base).take (i + 1):=take_snoc' (by simp [gE (show i < e.terms.length by omega)])
  have e2:(e.terms.map fun t=>vs.getD t.var.toNat 0).take i ++ [vs.getD e.terms[i].var.toNat 0] = (e.terms.map fun t=>vs.getD t.var.toNat 0).take (i + 1):=take_snoc' (by simp [gE (show i < e.terms.length by omega)])
  have htb:I64 e.terms[i].base:=di1
  have hlt:e.terms[i].var.toNat < vs.length:=by omega
  obtain ⟨b5,o5,rfl,hb5,cv,rv,_⟩:=hl'.at (i:=e.terms[i].var.toNat) hlt
  have hgd:vs.getD e.terms[i].var.toNat 0 = vs[e.terms[i].var.toNat]:=by rw [List.getD_eq_getElem?_getD,gE hlt]; rfl
  rw [hgd] at e2
  have cv:=cv _ hk3.below
  generalize vs[e.terms[i].var.toNat] = val at *
  generalize e.terms[i] = t at *
  have hkx:Kn w3 [] w3:=.start w3
  repeat (any_goals (first
  | ((with_reducible refine local_trm t hkx ?_); intro g14 W14 hk14 hb14 hg14)
  | (with_reducible refine yN ?_)
  | ((with_reducible refine oG fun X Y=>?_); simp [go_sem,d0,d1]; (first|refine Y _ _ ?_|refine And.intro (by omega) (Y _ _ ?_)); clear Y X)))
  have cvl:b5 < w3.heap.size:=lL hb5 hk3.below.size
  have cw:cellsAre W14 ((⟨b5,o5 + t.var.toNat,none⟩,Value.int .i64 val) :: cellsOf [] g14 0 (trmC t)):=⟨by rw [hb14.cell cvl]; exact cv,hk14.cells⟩
  have hoB:=fun i (e:bv.ownBlock = some i)=>owns_own hob e
  have hoE:=fun i (e:xv.ownBlock = some i)=>owns_own hoe e
  have htwo:=Two.start (hob.keep (hb14.on .drawn)) (hoe.keep (hb14.on .drawn)) hap (w:={ W14 with drawn:=W14.drawn + 1 }) (by have:=hb3.size; have:=hb14.size; show W2.heap.size ≤ W14.heap.size; omega)
  have hbW:Below W2.heap.size W2 { W14 with drawn:=W14.drawn + 1 }:=hb3.on (hb14.on .drawn)
  have hobW:=hob.keep (hb14.on (.drawn (w:=W14) (B:=W14.heap.size)))
  have hoeW:=hoe.keep (hb14.on (.drawn (w:=W14) (B:=W14.heap.size)))
  have cW:cellsAre { W14 with drawn:=W14.drawn + 1 } ((⟨b5,o5 + t.var.toNat,none⟩,Value.int .i64 val) :: cellsOf [] g14 0 (trmC t)):=cw
  have hoff:∀ p ∈ ((⟨b5,o5 + t.var.toNat,none⟩,Value.int .i64 val) :: cellsOf [] g14 0 (trmC t):List (Addr × Value)),p.1.block < ({ W14 with drawn:=W14.drawn + 1 }:World).heap.size ∧ ¬ (bv.ownBlock = some p.1.block ∨ xv.ownBlock = some p.1.block):=fun p hp=>by
   refine ⟨cells_lt cW p hp,?_⟩
   rcases List.mem_cons.1 hp with rfl | hp
   ·rintro (e | e)
    ·have h1:W2.heap.size ≤ b5:=(hoB _ e).2.1; have h2:=hk.below.size; omega
    ·have h1:W2.heap.size ≤ b5:=(hoE _ e).2.1; have h2:=hk.below.size; omega
   ·rcases cellsOf_mem _ _ _ hp with h | hp
    ·rintro (e | e)
     ·have:=(hoB _ e).1; omega
     ·have:=(hoE _ e).1; omega
    ·cases hp
  refine ⟨Fr (fun i=>bv.ownBlock = some i ∨ xv.ownBlock = some i) { W14 with drawn:=W14.drawn + 1 },Fr.refl _ _,?_⟩
  generalize ({ W14 with drawn:=W14.drawn + 1 }:World) = W at htwo hbW hobW hoeW cW hoff ⊢
  clear cw cv d0 d1
  have hti:(t.var:Int) < vs.length:=ht.2
  have hti0:=ht.1
  have etn:((t.var.toNat:Nat):Int) = t.var:=Int.toNat_of_nonneg ht.1
  repeat (any_goals (first
  | (with_reducible refine pX ?_)
  | ((with_reducible refine idOH ?_); (with_reducible refine oH_of ⟨_,rfl⟩ (fun W0 hW0=>by (refine oG (fun X Y=>?_)); simp [go_sem,(cells_fr cW hW0 hoff)]; (first | exact Y _ _ ⟨rfl,rfl⟩ | exact ⟨by omega,Y _ _ ⟨rfl,rfl⟩⟩)) ?_))))
  have fin:∀ (w':World) (v' u':Value),Two W2.heap.size W bv xv w' v' u' ((e.terms.map fun t=>t.base).take i ++ [t.base]) ((e.terms.map fun t=>vs.getD t.var.toNat 0).take i ++ [val]) →
    LfJ W2 (e.terms.map fun t=>t.base) (e.terms.map fun t=>vs.getD t.var.toNat 0) [v',u',.int .i64 ((i:Int) + 1)] w' ∧ vsMu e.terms.length [v',u',.int .i64 ((i:Int) + 1)] w' < vsMu e.terms.length [bv,xv,.int .i64 (i:Int)] w3:=fun w' v' u' h=>by
   refine ⟨⟨h.below hbW hobW hoeW (rL),v',u',i + 1,rfl,by omega,by rw [← e1]; exact h.ob,by rw [← e2]; exact h.oe,h.ap⟩,?_⟩
   simp only [vsMu_eq]; omega
  have hn1:((e.terms.map fun t=>t.base).take i).length < 1099511627776:=by rw [List.length_take]; omega
  have hn2:((e.terms.map fun t=>vs.getD t.var.toNat 0).take i).length < 1099511627776:=by rw [List.length_take]; omega
  have hWb:∀ i,bv.ownBlock = some i → i < W.heap.size:=htwo.lit.1
  constructor
  ·refine mk1g t.base htb (fun y7 w7 h7 hy7 hb7=>?_)
   have t7:=htwo.next h7
   refine ⟨t7.fr,?_⟩
   constructor
   ·refine t7.addB hy7 hn1 (fun v8 w8 t8 hg8=>⟨t8.fr,?_⟩)
    refine mk1g val rv (fun y9 w9 h9 hy9 hb9=>?_)
    have t9:=t8.next h9
    refine ⟨t9.fr,?_⟩
    refine t9.addE hy9 hn2 (fun v10 w10 t10 hg10=>⟨t10.fr,t10.fr,t10.fr,?_⟩)
    refine Xa0 ?_
    exact fin _ _ _ t10
   ·refine mk1g val rv (fun y8 w8 h8 hy8 hb8=>?_)
    have t8:=t7.next h8
    refine ⟨t8.fr,?_⟩
    refine t8.addB (hy7.next h8) hn1 (fun v9 w9 t9 hg9=>⟨t9.fr,?_⟩)
    have hy8:=ints_grown hy8 hg9 (fun i e1 e2=>by have:=hWb i e2; have:=h7.size; rw [hb8] at e1; cases e1; omega)
    refine t9.addE hy8 hn2 (fun v10 w10 t10 hg10=>⟨t10.fr,t10.fr,t10.fr,?_⟩)
    refine Xa0 ?_
    exact fin _ _ _ t10
  ·refine mk1g val rv (fun y7 w7 h7 hy7 hb7=>?_)
   have t7:=htwo.next h7
   refine ⟨t7.fr,?_⟩
   refine mk1g t.base htb (fun y8 w8 h8 hy8 hb8=>?_)
   have t8:=t7.next h8
   refine ⟨t8.fr,?_⟩
   refine t8.addB hy8 hn1 (fun v9 w9 t9 hg9=>⟨t9.fr,?_⟩)
   have hy7:=ints_grown (hy7.next h8) hg9 (fun i e1 e2=>by have:=hWb i e2; rw [hb7] at e1; cases e1; omega)
   refine t9.addE hy7 hn2 (fun v10 w10 t10 hg10=>⟨t10.fr,t10.fr,t10.fr,?_⟩)
   refine Xa0 ?_
   exact fin _ _ _ t10
def IeJ (p:Eqn → Bool) (l:List Eqn) (R:Bool) (w0:World) (vs:List Value) (w':World):Prop:=Bw w0 w' ∧ ∃ (v u:Value) (i:Nat),vs = [v,u,.int .i64 (i:Int)] ∧ i ≤ l.length ∧ (l.drop i).any p = R
theorem IndexEq_ok {v F:Value} {l:List Eqn} (p:Eqn → Bool) (hl:SRow 2 EqnAt w v l)
  (hF:∀ (w':World) (x:Eqn) (xv:Value) (K':VK) (T:TypeId),Bw w w' → x ∈ l → SRow 2 TrmAt w' xv x.terms → I64 x.target → (∀ w'',Below w'.heap.size w' w'' → K' (.bool (p x)) w'') → oM Tryz.prog (.call { callee:=.value (.tmp 0),args:=#[.tmp 1],argTypes:=#[144] }) T [F,eqnV x xv] K' w')
  (k:∀ w' (r:Int),Bw w w' → decide (0 ≤ r) = l.any p → K (.int .i64 r) w'):callM Tryz.prog 207 #[v,F] K w:=by
 apply sh_207_ok
 unfold sh_207
 obtain ⟨ad,c,rfl⟩:=hl.isSlice
 have hll:=hl.len
 refine Xa0 ?_
 refine ⟨IeJ p l (l.any p) w,vsMu l.length,⟨bR,_,_,0,rfl,by omega,rfl⟩,?_⟩
 generalize l.any p = R at *
 rintro _ _ w1 ⟨h1,u1,u2,i,rfl,hi,ha⟩
 by_cases hin:i = l.length
 ·rw [List.drop_of_length_le (by omega),List.any_nil] at ha
  refine Xa0 ?_
  exact k _ _ h1 (by rw [← ha]; rfl)
 ·rw [List.drop_eq_getElem_cons (by omega),List.any_cons] at ha
  obtain ⟨b1,o1,rfl,hb1,tv,c0,c1,htr,hti⟩:=(hl.next eqn_stay h1).at (i:=i) (by omega)
  have hm:=List.getElem_mem (show i < l.length by omega)
  generalize l[i] = e at *
  obtain ⟨tad,tc,rfl⟩:=htr.isSlice
  refine Xa (An2 @c0 @c1) ?_
  refine hF w1 e _ _ _ h1 hm htr hti (fun w2 h2=>?_)
  cases hp:p e with
  | true=>
   rw [hp,Bool.true_or] at ha
   refine Xa0 ?_
   exact k _ _ (h1.on h2) (by rw [← ha]; simp)
  | false=>
   rw [hp,Bool.false_or] at ha
   refine Xa0 ?_
   refine ⟨⟨h1.on h2,_,_,i + 1,rfl,by omega,ha⟩,?_⟩
   simp only [vsMu_eq]; omega
theorem ContainsEq_ok {v F:Value} {l:List Eqn} (p:Eqn → Bool) (hl:SRow 2 EqnAt w v l)
  (hF:∀ (w':World) (x:Eqn) (xv:Value) (K':VK) (T:TypeId),Bw w w' → x ∈ l → SRow 2 TrmAt w' xv x.terms → I64 x.target → (∀ w'',Below w'.heap.size w' w'' → K' (.bool (p x)) w'') → oM Tryz.prog (.call { callee:=.value (.tmp 0),args:=#[.tmp 1],argTypes:=#[144] }) T [F,eqnV x xv] K' w')
  (k:∀ w',Bw w w' → K (.bool (l.any p)) w'):callM Tryz.prog 179 #[v,F] K w:=by
 apply sh_179_ok
 unfold sh_179
 refine IndexEq_ok p hl hF (fun w' r hb hr=>?_)
 refine Xa0 ?_
 rw [hr]
 exact k _ hb
theorem holds_ok (s:Stp) (c:Clm) (l:List Int) {v cv lv:Value} (hs:SetR w s v) (hc:ClmR w c cv) (hl:Ints w lv l) (hfit:∀ e ∈ c.eqs,e.terms.length < 1000 ∧ ∀ t ∈ e.terms,0 ≤ t.var ∧ t.var < c.vars)
  (k:∀ w',Bw w w' → K (.bool (holdsM s c l)) w'):callM Tryz.prog 122 #[stpV s v,clmV c cv,lv] K w:=by
 apply sh_122_ok
 unfold sh_122
 have hs':=hs
 have hc':=hc
 have hl':=hl
 obtain ⟨ad,ca,rfl⟩:=hs.ints.isSlice
 obtain ⟨ead,ec,rfl⟩:=hc.eqs.isSlice
 obtain ⟨lad,lc,rfl⟩:=hl.isSlice
 refine box_kn (cs:=stpC s (.slice ad s.bases.length ca)) rfl (.start w) fun b1 W1 hk hb1 hbb=>?_
 refine box_kn (cs:=clmC c (.slice ead c.eqs.length ec)) rfl hk fun b2 W2 hk hb2 hbb=>?_
 refine box_kn (cs:=[.slice lad l.length lc]) rfl hk fun b3 W3 hk hb3 hbb=>?_
 clear hb1 hb2 hb3 hbb
 refine Xa hk.cells ?_
 refine exponents_ok s c.vars (hs'.next hk.below) (hl'.next hk.below) (fun w4 h4=>?_)
 have hk:=hk.next h4
 clear h4
 have eH:holdsM s c l = (exponentsM s l c.vars && !(c.eqs.any fun e=>!decide (leftM s e l = e.target))):=rfl
 cases hx:exponentsM s l c.vars with
 | false=>
  rw [hx,bF] at eH
  rw [eH] at k
  refine Xa hk.cells ?_
  exact k _ hk.below
 | true=>
 rw [hx,bT] at eH
 rw [eH] at k
 have hln:(l.length:Int) = c.vars:=by
  unfold exponentsM at hx
  simp only [bA,dE] at hx
  exact hx.1
 refine Xa hk.cells ?_
 refine ContainsEq_ok (fun e=>!decide (leftM s e l = e.target)) (hc'.eqs.next eqn_stay hk.below) ?_ ?_
 ·intro w' x xv K' T hb hx htr hti h'
  refine oM_callv1 (by kernel_rfl) ?_
  have hk:=hk.next hb
  show callM Tryz.prog 180 #[eqnV x xv,.pointer (some ⟨b1,0,none⟩),.pointer (some ⟨b3,0,none⟩)] K' w'
  apply sh_180_ok
  unfold sh_180
  obtain ⟨xad,xc,rfl⟩:=htr.isSlice
  refine box_kn (cs:=eqnC x (.slice xad x.terms.length xc)) rfl (.start w') fun b5 W5 hk5 hb5 hbb=>?_
  have hk:=hk.next hb5
  have htr:=htr.next trm_stay hb5
  have hk6:=hk5.drew
  have hk:=hk.drew
  have htr:=htr.next trm_stay (.drawn (B:=W5.heap.size))
  refine ⟨Nx { W5 with drawn:=W5.drawn + 1 },bR,rfl,?_⟩
  generalize ({ W5 with drawn:=W5.drawn + 1 }:World) = W9 at hk hk6 htr ⊢
  refine Xc (fun W0 hW0=>An2 ((hk.next hW0).cells) ((hk6.next hW0).cells)) ?_
  refine ⟨Nx,?_⟩
  apply monoE
  ·intro w1 h1
   exact left_ok s x l (hs'.next (hk.next h1).below) (htr.next trm_stay h1) hti (hl'.next (hk.next h1).below) (hfit x hx).1 (fun t ht=>by have:=(hfit x hx).2 t ht; omega) (fun w2 h2=>⟨h1.on h2,h2,rfl⟩)
  (intro w9 h9; repeat (intro v9 e9; try (obtain rfl:=e9)))
  have hk6:=hk6.next h9
  refine Xa hk6.cells ?_
  exact h' _ hk6.below
 ·intro w3 h3
  have hk:=hk.next h3
  generalize (c.eqs.any fun e=>!decide (leftM s e l = e.target)) = q at *
  refine Xa0 ?_
  exact k _ hk.below
theorem claim_fit {s:Stp} {c:Clm} (h:claimM s c = true):∀ e ∈ c.eqs,e.terms.length < 1000 ∧ ∀ t ∈ e.terms,0 ≤ t.var ∧ t.var < c.vars:=by
 unfold claimM at h
 simp only [bA] at h
 intro e he
 have:=List.all_eq_true.1 h.2 e he
 unfold eqnFine at this
 simp only [bA,dE] at this
 refine ⟨by omega,fun t ht=>?_⟩
 have:=List.all_eq_true.1 this.2 t ht
 unfold trmFine at this
 simp only [bA,dE] at this
 exact this.1
theorem Holds_ok (s:Stp) (c:Clm) (l:List Int) {v cv lv:Value} (hs:SetR w s v) (hc:ClmR w c cv) (hl:Ints w lv l)
  (k:∀ w',Bw w w' → K (.bool (HoldsM s c l)) w'):callM Tryz.prog 41 #[stpV s v,clmV c cv,lv] K w:=by
 apply sh_41_ok
 unfold sh_41
 have hs':=hs
 have hc':=hc
 obtain ⟨ad,ca,rfl⟩:=hs.ints.isSlice
 obtain ⟨ead,ec,rfl⟩:=hc.eqs.isSlice
 refine box_kn (cs:=stpC s (.slice ad s.bases.length ca)) rfl (.start w) fun b1 W1 hk hb1 hbb=>?_
 refine box_kn (cs:=clmC c (.slice ead c.eqs.length ec)) rfl hk fun b2 W2 hk hb2 hbb=>?_
 clear hb1 hb2 hbb
 have eH:HoldsM s c l = (validS s && claimM s c && holdsM s c l):=rfl
 refine Xa hk.cells ?_
 refine ValidSetup_ok s (hs'.next hk.below) (fun w4 h4=>?_)
 have hk:=hk.next h4
 clear h4
 cases hv:validS s with
 | false=>
  rw [hv,bF,bF] at eH
  rw [eH] at k
  refine Xa hk.cells ?_
  exact k _ hk.below
 | true=>
 rw [hv,bT] at eH
 refine Xa hk.cells ?_
 refine validClaim_ok s c (hs'.next hk.below) (hc'.next hk.below) (fun w5 h5=>?_)
 have hk:=hk.next h5
 clear h5
 cases hcl:claimM s c with
 | false=>
  rw [hcl,bF] at eH
  rw [eH] at k
  refine Xa hk.cells ?_
  exact k _ hk.below
 | true=>
 rw [hcl,bT] at eH
 rw [eH] at k
 refine Xa hk.cells ?_
 refine holds_ok s c l (hs'.next hk.below) (hc'.next hk.below) (hl.next hk.below) (claim_fit hcl) (fun w6 h6=>?_)
 have hk:=hk.next h6
 refine Xa0 ?_
 exact k _ hk.below
end
end Go.Proofs
namespace Go.Sh
open Go Go.RowKit
section
variable {P:Program} {w w':World} {K:VK}
theorem owns_up {B C:Nat} {e:TypeId} {sz:Nat} {v:Value} {n:Nat} {xs:List Value} (h:w.ownsRow B e sz v n xs) (hv:∀ i,v.ownBlock = some i → C ≤ i):w.ownsRow C e sz v n xs:=
 ⟨h.1,h.2.imp id (fun ⟨g,cap,cur,a,b,r⟩=>⟨g,cap,cur,a,hv g (by rw [a]; rfl),r⟩)⟩
end
end Go.Sh
namespace Go.Sh
open Go Go.RowKit
section
variable {w w':World} {D E:Nat → Prop} {p q:WK}
def FP (D:Nat → Prop) (w:World) (p:WK):Prop:=∀ w':World,w'.os = w.os → w'.tape = w.tape → w'.output = w.output → w.heap.size ≤ w'.heap.size → (∀ i,D i → w'.heap[i]? = w.heap[i]?) → p w'
theorem FP.here (h:FP D w p):p w:=h w rfl rfl rfl (rL) (fun _ _=>rfl)
theorem FP.mono (h:FP D w p) (hd:∀ i,D i → E i):FP E w p:=fun w' a b c d e=>h w' a b c d (fun i hi=>e i (hd i hi))
theorem FP.imp (h:FP D w p) (hp:∀ w',p w' → q w'):FP D w q:=fun w' a b c d e=>hp w' (h w' a b c d e)
theorem FP.and (h:FP D w p) (k:FP E w q):FP (fun i=>D i ∨ E i) w (fun w=>p w ∧ q w):=fun w' a b c d e=>⟨h w' a b c d (fun i hi=>e i (.inl hi)),k w' a b c d (fun i hi=>e i (.inr hi))⟩
theorem FP.both (h:FP D w p) (k:FP D w q):FP D w (fun w=>p w ∧ q w):=fun w' a b c d e=>⟨h w' a b c d e,k w' a b c d e⟩
theorem FP.all {α:Type} {P:α → WK} (h:∀ x,FP D w (P x)):FP D w (fun w=>∀ x,P x w):=fun w' a b c d e x=>h x w' a b c d e
theorem FP.pure {p:Prop} (h:p):FP D w (fun _=>p):=fun _ _ _ _ _ _=>h
theorem FP.fr {S:Nat → Prop} (h:FP D w p) (hf:Fr S w w') (hD:∀ i,D i → i < w.heap.size ∧ ¬ S i):FP D w' p:=fun w2 a b c d e=>
 h w2 (a.trans hf.os) (b.trans hf.tape) (c.trans hf.output) (Nat.le_trans hf.size d) (fun i hi=>(e i hi).trans (hf.block i (hD i hi).1 (hD i hi).2))
theorem FP.by {b:Option Nat} (h:FP D w p) (hf:w.grownBy w' b) (hD:∀ i,D i → i < w.heap.size ∧ b ≠ some i):FP D w' p:=fun w2 a b c d e=>
 h w2 (a.trans hf.os) (b.trans hf.tape) (c.trans hf.output) (Nat.le_trans hf.size d) (fun i hi=>(e i hi).trans (hf.block i (hD i hi).1 (fun x=>(hD i hi).2 (by first | exact x | exact x.symm))))
theorem FP.next (h:FP D w p) (hb:Bw w w') (hD:∀ i,D i → i < w.heap.size):FP D w' p:=fun w2 a b c d e=>
 h w2 (a.trans hb.os) (b.trans hb.tape) (c.trans hb.output) (Nat.le_trans hb.size d) (fun i hi=>(e i hi).trans (hb.block i (hD i hi)))
theorem Ints.fp {v:Value} {l:List Int} (h:Ints w v l):FP (fun i=>Value.inBlock v = some i ∧ i < w.heap.size) w (fun w=>Ints w v l):=fun w' _ _ _ d e=>
 ⟨h.row.keep d (fun i hi hlt=>e i ⟨hi,hlt⟩),h.rng,h.len⟩
end
abbrev Cl (n:Nat):={c:List Value // c.length = n}
def Cl.cs {n:Nat} (c:Cl n):List Value:=c.1
def AtOf {α:Type} (n:Nat) (V:World → List Value → α → Prop) (w:World) (b p:Nat) (x:α):Prop:=∃ c:List Value,c.length = n ∧ (∀ (j:Nat) (u:Value),c[j]? = some u → w.cell? ⟨b,p + j,none⟩ = some u) ∧ V w c x
def VStay {α:Type} (V:World → List Value → α → Prop):Prop:=∀ (w w':World) (c:List Value) (x:α),V w c x → Bw w w' → V w' c x
def VOne {α:Type} (R:World → Value → α → Prop) (w:World) (c:List Value) (x:α):Prop:=∃ v,c = [v] ∧ R w v x
def Cols {α:Type} (n:Nat) (V:World → List Value → α → Prop) (w:World) (cs:List (Cl n)) (l:List α):Prop:=cs.length = l.length ∧ ∀ (i:Nat) (c:Cl n) (x:α),cs[i]? = some c → l[i]? = some x → V w c.1 x
structure GRow {α:Type} (n:Nat) (e:TypeId) (V:World → List Value → α → Prop) (B:Nat) (D:Nat → Prop) (w:World) (v:Value) (l:List α):Prop where
 ex:∃ cs:List (Cl n),w.ownsRow B e n v l.length (flat Cl.cs cs) ∧ FP D w (fun w=>Cols n V w cs l)
section
variable {α:Type} {n:Nat} {e:TypeId} {V:World → List Value → α → Prop} {B:Nat} {D E:Nat → Prop} {w w':World} {v:Value} {l:List α}
theorem GRow.nil:GRow n e V B D w (.slice none 0 0) []:=⟨[],⟨by simp [flat],.inl ⟨rfl,rfl⟩⟩,fun _ _ _ _ _ _=>⟨rfl,fun _ _ _ h=>by simp at h⟩⟩
theorem GRow.mono (h:GRow n e V B D w v l) (hd:∀ i,D i → E i):GRow n e V B E w v l:=by
 obtain ⟨cs,h1,h2⟩:=h.ex
 exact ⟨cs,h1,h2.mono hd⟩
theorem GRow.own (h:GRow n e V B D w v l) {i:Nat} (hi:v.ownBlock = some i):i < w.heap.size ∧ B ≤ i:=by
 obtain ⟨cs,h1,_⟩:=h.ex
 exact ⟨(owns_own h1 hi).1,(owns_own h1 hi).2.1⟩
theorem GRow.isSlice (h:GRow n e V B D w v l):∃ ad c,v = .slice ad l.length c:=by
 obtain ⟨cs,h1,_⟩:=h.ex
 exact owns_len h1
theorem GRow.keep (h:GRow n e V B D w v l) {S:Nat → Prop} (hf:Fr S w w') (hD:∀ i,D i → i < w.heap.size ∧ ¬ S i) (hv:∀ i,v.ownBlock = some i → ¬ S i):GRow n e V B D w' v l:=by
 obtain ⟨cs,h1,h2⟩:=h.ex
 exact ⟨cs,owns_keep h1 (fun i hi=>hf.block i (owns_own h1 hi).1 (hv i hi)),h2.fr hf hD⟩
theorem Fr.of_below' {S:Nat → Prop} (h:Bw w w'):Fr S w w':=⟨h.os,h.tape,h.output,h.size,fun i hi _=>h.block i hi⟩
theorem Fr.of_by (h:w.grownBy w' (some B)):Fr (fun i=>i = B) w w':=⟨h.os,h.tape,h.output,h.size,fun i hi hn=>h.block i hi (fun x=>hn (by first | exact oI x | exact (oI x).symm))⟩
theorem Fr.of_by' {b:Option Nat} (h:w.grownBy w' b):Fr (fun i=>b = some i) w w':=⟨h.os,h.tape,h.output,h.size,fun i hi hn=>h.block i hi (fun x=>hn (by first | exact x | exact x.symm))⟩
theorem GRow.next (h:GRow n e V B D w v l) (hb:Bw w w') (hD:∀ i,D i → i < w.heap.size):GRow n e V B D w' v l:=
 h.keep (S:=fun _=>False) (Fr.of_below' hb) (fun i hi=>⟨hD i hi,id⟩) (fun _ _=>id)
theorem grow_append {P:Program} {K:VK} (t T:TypeId) (i:TypeInfo) (z:Value) (bytes:Nat) (ht:P.underlying t = some (.slice e)) (hi:P.info? e = some i) (hz:i.zero = some z)
  (hsize:i.size = n) (hby:i.bytes = bytes) (hzs:z.cells.size = n) (hn:0 < n) (hbb:bytes ≤ 64)
  (h:GRow n e V B D w v l) (hB:B ≤ w.heap.size) {b o c:Nat} {x:α} {xs:List Value} (hxl:xs.length = n) (hcell:∀ (j:Nat) (u:Value),xs[j]? = some u → w.cell? ⟨b,o + j,none⟩ = some u) (h1:∀ u ∈ xs,u.oneCell' = true)
  (hx:FP D w (fun w=>V w xs x)) (hD:∀ i,D i → i < w.heap.size ∧ v.ownBlock ≠ some i) (hl:l.length < 1099511627776)
  (k:∀ v' w',GRow n e V B D w' v' (l ++ [x]) → w.grownBy w' v.ownBlock → (∀ i,v'.ownBlock = some i → v.ownBlock = some i ∨ w.heap.size ≤ i) → (∀ i,D i → i < w'.heap.size ∧ v'.ownBlock ≠ some i) → K v' w') :
  oM P (.call { callee:=.builtin .append,args:=#[.tmp 0,.tmp 1],argTypes:=#[t,t] }) T [v,.slice (some ⟨b,o,none⟩) 1 c] K w:=by
 obtain ⟨cs,ho,hf⟩:=h.ex
 refine append_at t T e i z n bytes ht hi hz hsize hby hzs hn (owns_base ho (Nat.zero_le _)) xs (by omega) (by simp) ?_ h1 (by simp only [maxLen]; omega) (by have:(l.length + 1) * bytes ≤ 1099511627776 * 64:=Nat.mul_le_mul (by omega) hbb; omega) ?_
 ·rintro a ha j u hj
  cases ha
  rw [add_none]
  exact hcell j u hj
 ·intro v' w' ho' hg hv
  have hf':=hf.by hg hD
  refine k v' w' ⟨cs ++ [⟨xs,hxl⟩],?_,?_⟩ hg hv ?_
  ·have e2:flat Cl.cs (cs ++ [(⟨xs,hxl⟩:Cl n)]) = flat Cl.cs cs ++ xs:=by rw [flat_snoc]; rfl
   have e1:(l ++ [x]).length = l.length + 1:=by simp
   rw [e1,e2]
   exact owns_up ho' (fun i hi=>(hv i hi).elim (fun h=>(owns_own ho h).2.1) (fun h=>Nat.le_trans hB h))
  ·have hx':=hx.by hg hD
   refine (hf'.both hx').imp ?_
   rintro w2 ⟨⟨hc1,hc2⟩,hx2⟩
   refine ⟨by simp [hc1],fun i c y hi hy=>?_⟩
   by_cases hlt:i < cs.length
   ·rw [List.getElem?_append_left hlt] at hi
    rw [List.getElem?_append_left (by omega)] at hy
    exact hc2 i c y hi hy
   ·rw [List.getElem?_append_right (by omega)] at hi
    rw [List.getElem?_append_right (by omega)] at hy
    have:i - cs.length = 0:=by
     have:=(gS hi).1
     simp at this
     omega
    rw [this] at hi
    rw [show i - l.length = 0 by omega] at hy
    simp at hi hy
    subst hi; subst hy
    exact hx2
  ·intro i hi
   obtain ⟨h2,h3⟩:=hD i hi
   refine ⟨lL h2 hg.size,fun e=>?_⟩
   rcases hv i e with h4 | h4
   ·exact h3 h4
   ·omega
end
end Go.Sh
namespace Go.Sh
open Go Go.RowKit
def Fresh (W w:World) (p:WK):Prop:=FP (fun i=>W.heap.size ≤ i ∧ i < w.heap.size) w p
section
variable {W W' w w':World} {p q:WK}
theorem Fresh.next (h:Fresh W w p) (hb:Bw w w'):Fresh W w' p:=(FP.next h hb (fun i hi=>hi.2)).mono (fun i hi=>⟨hi.1,lL hi.2 hb.size⟩)
theorem Fresh.up (h:Fresh W w p) (hs:W'.heap.size ≤ W.heap.size):Fresh W' w p:=FP.mono h (fun i hi=>⟨Nat.le_trans hs hi.1,hi.2⟩)
theorem Fresh.here (h:Fresh W w p):p w:=FP.here h
theorem Fresh.imp (h:Fresh W w p) (hp:∀ w',p w' → q w'):Fresh W w q:=FP.imp h hp
theorem Fresh.both (h:Fresh W w p) (k:Fresh W w q):Fresh W w (fun w=>p w ∧ q w):=FP.both h k
theorem Fresh.pure {p:Prop} (h:p):Fresh W w (fun _=>p):=FP.pure h
theorem Holds.fp {g:Nat} {T:TypeId} {vs:List Value} (h:Holds w g T vs):FP (fun i=>i = g) w (fun w=>Holds w g T vs):=fun w' _ _ _ _ e=>(e g rfl).trans h
theorem Holds.fresh {g:Nat} {T:TypeId} {vs:List Value} (h:Holds w g T vs) (hg:W.heap.size ≤ g):Fresh W w (fun w=>Holds w g T vs):=h.fp.mono (fun i hi=>by subst hi; exact ⟨hg,h.lt⟩)
theorem Ints.fresh {v:Value} {l:List Int} (h:Ints w v l) (hg:∀ i,Value.inBlock v = some i → W.heap.size ≤ i):Fresh W w (fun w=>Ints w v l):=h.fp.mono (fun i hi=>⟨hg i hi.1,hi.2⟩)
theorem lit_run {K:VK} {r:Result Value} {e:TypeId} {n:Nat} {xs:List Value} (hr:r = .ok (.slice (some ⟨w.heap.size,0,none⟩) n n) (w.alloc (.cells xs.toArray e)))
  (k:∀ g W,Bw w W → w.heap.size ≤ g → Holds W g e xs → K (.slice (some ⟨g,0,none⟩) n n) W):rM r K:=by
 rw [hr]
 refine k _ _ ((Below.refl _ w).alloc (rL) _) (rL) ?_
 have:=heap_alloc_new w (.cells xs.toArray e)
 exact this
end
end Go.Sh
namespace Go.Proofs
open Go.Sh Tryz
def sh_44 (a0 a1 a2:Value) (K:VK) (w:World):Prop:=
 oM prog (.box 26 (.tmp 0)) 0 [a0] (fun v3 w=>
 kL 26 v3 (fun v9 w=>
 callM prog 21 #[v9] (fun v10 w=>
 kU v10 (fun v11 w=>
 condM v11
 (K (.int .i64 0) w)
 (kF 26 0 v3 (fun v13 w=>
 kL 23 v13 (fun v14 w=>
 kF 26 0 v3 (fun v15 w=>
 kF 23 2 v15 (fun v16 w=>
 kL 3 v16 (fun v17 w=>
 kF 26 2 v3 (fun v18 w=>
 kL 3 v18 (fun v19 w=>
 oM prog (.buildSlice 24 2 #[(0,(.tmp 0)),(1,(.tmp 1))]) 24 [v17,v19] (fun v20 w=>
 oM prog (.buildSlice 24 2 #[(0,(.tmp 0)),(1,(.tmp 1))]) 24 [a1,a2] (fun v23 w=>
 callM prog 126 #[v14,v20,v23] (fun v24 w=>
 kE 0 3 v24 (fun v25 w=>
 kE 1 4 v24 (fun v26 w=>
 K v25 w) w) w) w) w) w) w) w) w) w) w) w) w)) w) w) w) w
theorem sh_44_ok {a0 a1 a2:Value} {K:VK} {w:World} (h:sh_44 a0 a1 a2 K w):callM prog 44 #[a0,a1,a2] K w:=
 calls_of_code (fun _=>0) (fn:=Tryz.f44) (rs:=[.tmp 6]) Tryz.func44 rfl rfl (by kernel_rfl) (nB rfl) (Eq.mp (by kernel_rfl) h)
def sh_74 (a0 a1:Value) (K:VK) (w:World):Prop:=
 oM prog (.box 26 (.tmp 0)) 0 [a0] (fun v2 w=>
 kL 26 v2 (fun v9 w=>
 callM prog 21 #[v9] (fun v10 w=>
 kU v10 (fun v11 w=>
 gF v11 (pureM a1) (fun v13 w=>
 gF v11 (kN 24 v13) (fun v14 w=>
 gF v11 (kB .lss 3 4 v14 (.int .i64 1)) (fun v15 w=>
 kP v11 (.bool true) v15 (fun v16 w=>
 gF v16 (pureM a1) (fun v18 w=>
 gF v16 (kN 24 v18) (fun v19 w=>
 gF v16 (kB .gtr 3 4 v19 (.int .i64 60)) (fun v20 w=>
 kP v16 (.bool true) v20 (fun v21 w=>
 condM v21
 (K (.tuple #[(.int .i64 0),(.bool false)]) w)
 (kN 24 a1 (fun v23 w=>
 loopM [undef,undef,(.int .i64 0),(.bool false),(.slice none 0 0),(.int .i64 0)] w (fun J_14 m_15 l_16 u_l_16 w0_l_16=>(fun w=>(
 kB .lss 3 0 (l_16.getD 5 undef) v23 (fun v25 w=>
 condM v25
 (kI 24 a1 (l_16.getD 5 undef) (fun v27 w=>
 kL 3 v27 (fun v28 w=>
 kF 26 0 v2 (fun v29 w=>
 kL 23 v29 (fun v30 w=>
 callM prog 109 #[v30,v28] (fun v32 w=>
 kU v32 (fun v33 w=>
 condM v33
 (K (.tuple #[(.int .i64 0),(.bool false)]) w)
 (kB .shl 3 3 (.int .i64 1) (l_16.getD 5 undef) (fun v36 w=>
 oM prog (.buildSlice 24 1 #[(0,(.tmp 0))]) 24 [v36] (fun v37 w=>
 oM prog (.call (Go.Call.mk (.builtin .append) #[(.tmp 0),(.tmp 1)] #[24,24])) 24 [(l_16.getD 4 undef),v37] (fun v38 w=>
 kB .add 3 3 (l_16.getD 5 undef) (.int .i64 1) (fun v39 w=>
 J_14 [(l_16.getD 5 undef),v28,(l_16.getD 2 undef),(l_16.getD 3 undef),v38,v39] w ∧ m_15 [(l_16.getD 5 undef),v28,(l_16.getD 2 undef),(l_16.getD 3 undef),v38,v39] w < m_15 l_16 w0_l_16) w) w) w) w)) w) w) w) w) w) w)
 (kF 26 0 v2 (fun v40 w=>
 kL 23 v40 (fun v41 w=>
 callM prog 126 #[v41,a1,(l_16.getD 4 undef)] (fun v44 w=>
 kE 0 3 v44 (fun v45 w=>
 kE 1 4 v44 (fun v46 w=>
 K (.tuple #[v45,v46]) w) w) w) w) w) w)) w)) w0_l_16)) w)) w) w) w) w) w) w) w) w) w) w) w) w
theorem sh_74_ok {a0 a1:Value} {K:VK} {w:World} (h:sh_74 a0 a1 K w):callM prog 74 #[a0,a1] K w:=
 calls_of_code (fun _=>0) (fn:=Tryz.f74) (rs:=[.tmp 4,.tmp 5]) Tryz.func74 rfl rfl (by kernel_rfl) (nB rfl) (Eq.mp (by kernel_rfl) h)
def sh_120 (a0 a1:Value) (K:VK) (w:World):Prop:=
 oM prog (.box 26 (.tmp 0)) 0 [a0] (fun v2 w=>
 kA 69 (fun v4 w=>
 kF 26 2 v2 (fun v6 w=>
 kL 3 v6 (fun v7 w=>
 oM prog (.build 146 #[(0,(.tmp 0)),(1,(.tmp 1))]) 146 [(.int .i64 0),v7] (fun v8 w=>
 oM prog (.buildSlice 142 1 #[(0,(.tmp 0))]) 142 [v8] (fun v9 w=>
 oM prog (.build 144 #[(0,(.tmp 0)),(1,(.tmp 1))]) 144 [a1,v9] (fun v10 w=>
 oM prog (.buildSlice 67 1 #[(0,(.tmp 0))]) 67 [v10] (fun v11 w=>
 oM prog (.build 69 #[(0,(.tmp 0)),(1,(.tmp 1))]) 69 [(.int .i64 1),v11] (fun v12 w=>
 kS 69 v4 v12 (fun _ w=>
 ∃ r_10,(do loadVar 69 (← asAddr v4):Sem Value).run prog w = .ok r_10 w ∧ K r_10 w) w) w) w) w) w) w) w) w) w) w
theorem sh_120_ok {a0 a1:Value} {K:VK} {w:World} (h:sh_120 a0 a1 K w):callM prog 120 #[a0,a1] K w:=
 calls_of_code (fun _=>0) (fn:=Tryz.f120) (rs:=[.cell 4 69]) Tryz.func120 rfl rfl (by kernel_rfl) (nB rfl) (Eq.mp (by kernel_rfl) h)
def sh_68 (a0 a1:Value) (K:VK) (w:World):Prop:=
 oM prog (.box 26 (.tmp 0)) 0 [a0] (fun v2 w=>
 kL 26 v2 (fun v11 w=>
 callM prog 74 #[v11,a1] (fun v13 w=>
 kE 0 3 v13 (fun v14 w=>
 kE 1 4 v13 (fun v15 w=>
 kU v15 (fun v17 w=>
 condM v17
 (K (.slice none 0 0) w)
 (kN 24 a1 (fun v19 w=>
 loopM [undef,(.slice none 0 0),(.int .i64 0)] w (fun J_8 m_9 l_10 u_l_10 w0_l_10=>(fun w=>(
 kB .lss 3 0 (l_10.getD 2 undef) v19 (fun v21 w=>
 condM v21
 (kI 24 a1 (l_10.getD 2 undef) (fun v22 w=>
 kL 3 v22 (fun v23 w=>
 heldM w (fun C_14 w=>(((true:Bool) = true) ∧ (pureH (l_10.getD 1 undef) C_14 (fun v24=>
 jL 26 v2 C_14 (fun v25=>
 pureH v23 C_14 (fun v26=>
 jL 26 v2 C_14 (fun v28=>
 jF 26 0 v2 C_14 (fun v29=>
 jL 23 v29 C_14 (fun v30=>
 pureH v23 C_14 (fun v31=>
 jF 26 0 v2 C_14 (fun v32=>
 jF 23 2 v32 C_14 (fun v33=>
 jL 3 v33 C_14 (fun v34=>
 ∃ S_25:World → WK,∃ R_26:VK,(∀ v w w_1,S_25 w w_1 → R_26 v w → R_26 v w_1) ∧
 (∀ w,C_14 w → (callM prog 120 #[v25,v26] (fun v w_1=>C_14 w_1 ∧ S_25 w w_1 ∧ R_26 v w_1) w)) ∧
 (∃ R_27:VK,(∀ v w w_1,S_25 w w_1 → R_27 v w → R_27 v w_1) ∧
 (∀ w,C_14 w → (callM prog 121 #[v30,v31,v34] (fun v w_1=>C_14 w_1 ∧ S_25 w w_1 ∧ R_27 v w_1) w)) ∧
 (∃ R_28:VK,(∀ v w w_1,S_25 w w_1 → R_28 v w → R_28 v w_1) ∧
 (∀ w,C_14 w → ∀ v35,R_27 v35 w → (callM prog 120 #[v28,v35] (fun v w_1=>C_14 w_1 ∧ S_25 w w_1 ∧ R_28 v w_1) w)) ∧
 (∃ R_30:VK,(∀ v w w_1,S_25 w w_1 → R_30 v w → R_30 v w_1) ∧
 (∀ w,C_14 w → ∀ v27,R_26 v27 w → ∀ v36,R_28 v36 w → (oM prog (.buildSlice 63 2 #[(0,(.tmp 0)),(1,(.tmp 1))]) 63 [v27,v36] (fun v w_1=>C_14 w_1 ∧ S_25 w w_1 ∧ R_30 v w_1) w)) ∧
 (∃ R_33:VK,(∀ v w w_1,S_25 w w_1 → R_33 v w → R_33 v w_1) ∧
 (∀ w,C_14 w → ∀ v37,R_30 v37 w → (oM prog (.build 65 #[(0,(.tmp 0)),(1,(.tmp 1))]) 65 [(.int .i64 1),v37] (fun v w_1=>C_14 w_1 ∧ S_25 w w_1 ∧ R_33 v w_1) w)) ∧
 (∃ R_35:VK,(∀ v w w_1,S_25 w w_1 → R_35 v w → R_35 v w_1) ∧
 (∀ w,C_14 w → ∀ v38,R_33 v38 w → (oM prog (.buildSlice 27 1 #[(0,(.tmp 0))]) 27 [v38] (fun v w_1=>C_14 w_1 ∧ S_25 w w_1 ∧ R_35 v w_1) w)) ∧
 (∀ w,C_14 w → ∀ v27,R_26 v27 w → ∀ v35,R_27 v35 w → ∀ v36,R_28 v36 w → ∀ v37,R_30 v37 w → ∀ v38,R_33 v38 w → ∀ v39,R_35 v39 w → (
 oM prog (.call (Go.Call.mk (.builtin .append) #[(.tmp 0),(.tmp 1)] #[27,27])) 27 [v24,v39] (fun v40 w=>
 kB .add 3 3 (l_10.getD 2 undef) (.int .i64 1) (fun v41 w=>
 J_8 [v23,v40,v41] w ∧ m_9 [v23,v40,v41] w < m_9 l_10 w0_l_10) w) w))))))))))))))))))))) w) w)
 (K (l_10.getD 1 undef) w)) w)) w0_l_10)) w)) w) w) w) w) w) w
theorem sh_68_ok {a0 a1:Value} {K:VK} {w:World} (h:sh_68 a0 a1 K w):callM prog 68 #[a0,a1] K w:=
 calls_of_code (fun _=>.free [0,1,2,4,5,6,7,8,9,10] [3,11,12,13,14,15] [16,17]) (fn:=Tryz.f68) (rs:=[.tmp 4]) Tryz.func68 rfl rfl (by kernel_rfl) (nB rfl) (Eq.mp (by kernel_rfl) h)
def sh_40 (a0 a1 a2:Value) (K:VK) (w:World):Prop:=
 oM prog (.box 26 (.tmp 0)) 0 [a0] (fun v3 w=>
 kL 26 v3 (fun v10 w=>
 callM prog 74 #[v10,a2] (fun v12 w=>
 kE 0 3 v12 (fun v13 w=>
 kE 1 4 v12 (fun v14 w=>
 kU v14 (fun v16 w=>
 gF v16 (kF 26 0 v3) (fun v18 w=>
 gF v16 (kL 23 v18) (fun v19 w=>
 gF v16 (pureM a1) (fun v20 w=>
 gF v16 (callM prog 109 #[v19,v20]) (fun v21 w=>
 gF v16 (kU v21) (fun v22 w=>
 kP v16 (.bool true) v22 (fun v23 w=>
 condM v23
 (K (.slice none 0 0) w)
 (heldM w (fun C_13 w=>(((true:Bool) = true) ∧ (jL 26 v3 C_13 (fun v24=>
 pureH a2 C_13 (fun v25=>
 jL 26 v3 C_13 (fun v27=>
 jF 26 0 v3 C_13 (fun v28=>
 jL 23 v28 C_13 (fun v29=>
 pureH a1 C_13 (fun v30=>
 pureH v13 C_13 (fun v31=>
 ∃ S_21:World → WK,∃ R_22:VK,(∀ v w w_1,S_21 w w_1 → R_22 v w → R_22 v w_1) ∧
 (∀ w,C_13 w → (callM prog 68 #[v24,v25] (fun v w_1=>C_13 w_1 ∧ S_21 w w_1 ∧ R_22 v w_1) w)) ∧
 (∃ R_23:VK,(∀ v w w_1,S_21 w w_1 → R_23 v w → R_23 v w_1) ∧
 (∀ w,C_13 w → (callM prog 121 #[v29,v30,v31] (fun v w_1=>C_13 w_1 ∧ S_21 w w_1 ∧ R_23 v w_1) w)) ∧
 (∀ w,C_13 w → ∀ v26,R_22 v26 w → ∀ v32,R_23 v32 w → (
 callM prog 120 #[v27,v32] (fun v33 w=>
 oM prog (.buildSlice 63 1 #[(0,(.tmp 0))]) 63 [v33] (fun v34 w=>
 oM prog (.build 65 #[(0,(.tmp 0)),(1,(.tmp 1))]) 65 [(.int .i64 1),v34] (fun v35 w=>
 oM prog (.buildSlice 27 1 #[(0,(.tmp 0))]) 27 [v35] (fun v36 w=>
 oM prog (.call (Go.Call.mk (.builtin .append) #[(.tmp 0),(.tmp 1)] #[27,27])) 27 [v26,v36] (fun v37 w=>
 K v37 w) w) w) w) w) w))))))))))))))) w) w) w) w) w) w) w) w) w) w) w) w
theorem sh_40_ok {a0 a1 a2:Value} {K:VK} {w:World} (h:sh_40 a0 a1 a2 K w):callM prog 40 #[a0,a1,a2] K w:=
 calls_of_code (fun _=>.free [0,1,3,4,5,6,7] [2,8] [9,10,11,12,13,14]) (fn:=Tryz.f40) (rs:=[.tmp 6]) Tryz.func40 rfl rfl (by kernel_rfl) (nB rfl) (Eq.mp (by kernel_rfl) h)
def sh_76 (a0 a1 a2:Value) (K:VK) (w:World):Prop:=
 oM prog (.box 26 (.tmp 0)) 0 [a0] (fun v3 w=>
 kN 24 a2 (fun v17 w=>
 kL 26 v3 (fun v18 w=>
 callM prog 21 #[v18] (fun v19 w=>
 kU v19 (fun v20 w=>
 gF v20 (pureM v17) (fun v22 w=>
 gF v20 (kB .lss 3 4 v22 (.int .i64 1)) (fun v23 w=>
 kP v20 (.bool true) v23 (fun v24 w=>
 gF v24 (pureM v17) (fun v26 w=>
 gF v24 (kB .gtr 3 4 v26 (.int .i64 60)) (fun v27 w=>
 kP v24 (.bool true) v27 (fun v28 w=>
 gF v28 (kL 26 v3) (fun v30 w=>
 gF v28 (pureM a2) (fun v31 w=>
 gF v28 (pureM v17) (fun v32 w=>
 gF v28 (callM prog 140 #[v30,v31,v32]) (fun v33 w=>
 gF v28 (kU v33) (fun v34 w=>
 kP v28 (.bool true) v34 (fun v35 w=>
 gF v35 (pureM a1) (fun v37 w=>
 gF v35 (kB .lss 3 4 v37 (.int .i64 0)) (fun v38 w=>
 kP v35 (.bool true) v38 (fun v39 w=>
 gF v39 (pureM a1) (fun v41 w=>
 gF v39 (pureM v17) (fun v42 w=>
 gF v39 (kB .shl 3 3 (.int .i64 1) v42) (fun v43 w=>
 gF v39 (kB .geq 3 4 v41 v43) (fun v44 w=>
 kP v39 (.bool true) v44 (fun v45 w=>
 condM v45
 (K (.tuple #[(.slice none 0 0),(.slice none 0 0),(.bool false)]) w)
 (kN 24 a2 (fun v47 w=>
 loopM [undef,undef,undef,undef,(.slice none 0 0),(.slice none 0 0),(.int .i64 0)] w (fun J_27 m_28 l_29 u_l_29 w0_l_29=>(fun w=>(
 kB .lss 3 0 (l_29.getD 6 undef) v47 (fun v49 w=>
 condM v49
 (kI 24 a2 (l_29.getD 6 undef) (fun v51 w=>
 kL 3 v51 (fun v52 w=>
 kB .shr 3 3 a1 (l_29.getD 6 undef) (fun v55 w=>
 kB .and 3 3 v55 (.int .i64 1) (fun v56 w=>
 oM prog (.makeSlice 114 (.tmp 0) (.tmp 1)) 114 [(.int .i64 2),(.int .i64 2)] (fun v57 w=>
 oM prog (.buildSlice 24 1 #[(0,(.tmp 0))]) 24 [v52] (fun v61 w=>
 oM prog (.build 113 #[(0,(.tmp 0)),(1,(.tmp 1))]) 113 [(.bool true),v61] (fun v62 w=>
 kI 114 v57 v56 (fun v63 w=>
 kS 113 v63 v62 (fun _ w=>
 kL 26 v3 (fun v65 w=>
 callM prog 44 #[v65,v56,v52] (fun v68 w=>
 oM prog (.buildSlice 24 1 #[(0,(.tmp 0))]) 24 [v68] (fun v69 w=>
 oM prog (.call (Go.Call.mk (.builtin .append) #[(.tmp 0),(.tmp 1)] #[24,24])) 24 [(l_29.getD 4 undef),v69] (fun v70 w=>
 oM prog (.buildSlice 28 1 #[(0,(.tmp 0))]) 28 [v57] (fun v73 w=>
 oM prog (.call (Go.Call.mk (.builtin .append) #[(.tmp 0),(.tmp 1)] #[28,28])) 28 [(l_29.getD 5 undef),v73] (fun v74 w=>
 kB .add 3 3 (l_29.getD 6 undef) (.int .i64 1) (fun v75 w=>
 J_27 [(l_29.getD 6 undef),v52,v56,v57,v70,v74,v75] w ∧ m_28 [(l_29.getD 6 undef),v52,v56,v57,v70,v74,v75] w < m_28 l_29 w0_l_29) w) w) w) w) w) w) w) w) w) w) w) w) w) w) w) w)
 (K (.tuple #[(l_29.getD 4 undef),(l_29.getD 5 undef),(.bool true)]) w)) w)) w0_l_29)) w)) w) w) w) w) w) w) w) w) w) w) w) w) w) w) w) w) w) w) w) w) w) w) w) w) w
theorem sh_76_ok {a0 a1 a2:Value} {K:VK} {w:World} (h:sh_76 a0 a1 a2 K w):callM prog 76 #[a0,a1,a2] K w:=
 calls_of_code (fun _=>0) (fn:=Tryz.f76) (rs:=[.tmp 6,.tmp 7,.tmp 8]) Tryz.func76 rfl rfl (by kernel_rfl) (nB rfl) (Eq.mp (by kernel_rfl) h)
def sh_71 (a0 a1 a2:Value) (K:VK) (w:World):Prop:=
 oM prog (.box 26 (.tmp 0)) 0 [a0] (fun v3 w=>
 kL 26 v3 (fun v11 w=>
 callM prog 21 #[v11] (fun v12 w=>
 kU v12 (fun v13 w=>
 gF v13 (pureM a2) (fun v15 w=>
 gF v13 (kN 24 v15) (fun v16 w=>
 gF v13 (kB .gtr 3 4 v16 (.int .i64 60)) (fun v17 w=>
 kP v13 (.bool true) v17 (fun v18 w=>
 condM v18
 (K (.int .i64 0) w)
 (kF 26 0 v3 (fun v19 w=>
 kF 23 1 v19 (fun v20 w=>
 kL 3 v20 (fun v21 w=>
 callM prog 42 #[v21,a1,(.int .i64 0)] (fun v24 w=>
 kN 24 a2 (fun v26 w=>
 loopM [undef,undef,v24,(.int .i64 0)] w (fun J_14 m_15 l_16 u_l_16 w0_l_16=>(fun w=>(
 kB .lss 3 0 (l_16.getD 3 undef) v26 (fun v28 w=>
 condM v28
 (kI 24 a2 (l_16.getD 3 undef) (fun v30 w=>
 kL 3 v30 (fun v31 w=>
 kB .shl 3 3 (.int .i64 1) (l_16.getD 3 undef) (fun v37 w=>
 callM prog 43 #[v21,v31,v37] (fun v38 w=>
 callM prog 48 #[v21,(l_16.getD 2 undef),v38] (fun v39 w=>
 kB .add 3 3 (l_16.getD 3 undef) (.int .i64 1) (fun v40 w=>
 J_14 [(l_16.getD 3 undef),v31,v39,v40] w ∧ m_15 [(l_16.getD 3 undef),v31,v39,v40] w < m_15 l_16 w0_l_16) w) w) w) w) w) w)
 (K (l_16.getD 2 undef) w)) w)) w0_l_16)) w) w) w) w) w)) w) w) w) w) w) w) w) w
theorem sh_71_ok {a0 a1 a2:Value} {K:VK} {w:World} (h:sh_71 a0 a1 a2 K w):callM prog 71 #[a0,a1,a2] K w:=
 calls_of_code (fun _=>0) (fn:=Tryz.f71) (rs:=[.tmp 6]) Tryz.func71 rfl rfl (by kernel_rfl) (nB rfl) (Eq.mp (by kernel_rfl) h)
def sh_128 (a0 a1 a2 a3:Value) (K:VK) (w:World):Prop:=
 oM prog (.box 26 (.tmp 0)) 0 [a0] (fun v4 w=>
 heldM w (fun C_2 w=>(((true:Bool) = true) ∧ (pureH a3 C_2 (fun v9=>
 pureH a1 C_2 (fun v11=>
 pureH a2 C_2 (fun v12=>
 jF 26 0 v4 C_2 (fun v16=>
 jF 23 1 v16 C_2 (fun v17=>
 jL 3 v17 C_2 (fun v18=>
 ∃ S_9:World → WK,∃ R_10:VK,(∀ v w w_1,S_9 w w_1 → R_10 v w → R_10 v w_1) ∧
 (∀ w,C_2 w → (callM prog 160 #[v9] (fun v w_1=>C_2 w_1 ∧ S_9 w w_1 ∧ R_10 v w_1) w)) ∧
 (∃ R_11:VK,(∀ v w w_1,S_9 w w_1 → R_11 v w → R_11 v w_1) ∧
 (∀ w,C_2 w → (oM prog (.buildSlice 24 2 #[(0,(.tmp 0)),(1,(.tmp 1))]) 24 [v11,v12] (fun v w_1=>C_2 w_1 ∧ S_9 w w_1 ∧ R_11 v w_1) w)) ∧
 (∃ R_12:VK,(∀ v w w_1,S_9 w w_1 → R_12 v w → R_12 v w_1) ∧
 (∀ w,C_2 w → ∀ v13,R_11 v13 w → (callM prog 114 #[v13] (fun v w_1=>C_2 w_1 ∧ S_9 w w_1 ∧ R_12 v w_1) w)) ∧
 (∃ R_14:VK,(∀ v w w_1,S_9 w w_1 → R_14 v w → R_14 v w_1) ∧
 (∀ w,C_2 w → ∀ v10,R_10 v10 w → ∀ v14,R_12 v14 w → (kB .add 9 9 v10 v14 (fun v w_1=>C_2 w_1 ∧ S_9 w w_1 ∧ R_14 v w_1) w)) ∧
 (∀ w,C_2 w → ∀ v10,R_10 v10 w → ∀ v13,R_11 v13 w → ∀ v14,R_12 v14 w → ∀ v15,R_14 v15 w → (
 callM prog 159 #[v15,v18] (fun v19 w=>
 K v19 w) w))))))))))))))) w
theorem sh_128_ok {a0 a1 a2 a3:Value} {K:VK} {w:World} (h:sh_128 a0 a1 a2 a3 K w):callM prog 128 #[a0,a1,a2,a3] K w:=
 calls_of_code (fun _=>.free [0,2,3,7,8,9] [1,4,5,6] [10,11]) (fn:=Tryz.f128) (rs:=[.tmp 8]) Tryz.func128 rfl rfl (by kernel_rfl) (nB rfl) (Eq.mp (by kernel_rfl) h)
def sh_45 (a0 a1 a2 a3:Value) (K:VK) (w:World):Prop:=
 oM prog (.box 26 (.tmp 0)) 0 [a0] (fun v4 w=>
 kA 74 (fun v8 w=>
 kL 26 v4 (fun v12 w=>
 callM prog 21 #[v12] (fun v13 w=>
 kU v13 (fun v14 w=>
 gF v14 (kL 26 v4) (fun v16 w=>
 gF v14 (pureM a1) (fun v17 w=>
 gF v14 (callM prog 127 #[v16,v17]) (fun v18 w=>
 gF v14 (kU v18) (fun v19 w=>
 kP v14 (.bool true) v19 (fun v20 w=>
 gF v20 (kL 26 v4) (fun v22 w=>
 gF v20 (pureM a2) (fun v23 w=>
 gF v20 (callM prog 127 #[v22,v23]) (fun v24 w=>
 gF v20 (kU v24) (fun v25 w=>
 kP v20 (.bool true) v25 (fun v26 w=>
 condM v26
 (oM prog (.build 74 #[]) 74 [] (fun v27 w=>
 kS 74 v8 v27 (fun _ w=>
 ∃ r_17,(do loadVar 74 (← asAddr v8):Sem Value).run prog w = .ok r_17 w ∧ K (.tuple #[r_17,(.bool false)]) w) w) w)
 (kF 26 0 v4 (fun v28 w=>
 kL 23 v28 (fun v29 w=>
 kA 23 (fun v10 w=>
 kS 23 v10 v29 (fun _ w=>
 heldM w (fun C_21 w=>(((true:Bool) = true) ∧ (jL 26 v4 C_21 (fun v30=>
 jL 23 v10 C_21 (fun v31=>
 jF 23 2 v10 C_21 (fun v32=>
 jL 3 v32 C_21 (fun v33=>
 pureH a1 C_21 (fun v34=>
 jL 23 v10 C_21 (fun v36=>
 jF 23 2 v10 C_21 (fun v37=>
 jL 3 v37 C_21 (fun v38=>
 pureH a2 C_21 (fun v39=>
 pureH a3 C_21 (fun v41=>
 ∃ S_32:World → WK,∃ R_33:VK,(∀ v w w_1,S_32 w w_1 → R_33 v w → R_33 v w_1) ∧
 (∀ w,C_21 w → (callM prog 46 #[v31,v33,v34] (fun v w_1=>C_21 w_1 ∧ S_32 w w_1 ∧ R_33 v w_1) w)) ∧
 (∃ R_34:VK,(∀ v w w_1,S_32 w w_1 → R_34 v w → R_34 v w_1) ∧
 (∀ w,C_21 w → (callM prog 46 #[v36,v38,v39] (fun v w_1=>C_21 w_1 ∧ S_32 w w_1 ∧ R_34 v w_1) w)) ∧
 (∀ w,C_21 w → ∀ v35,R_33 v35 w → ∀ v40,R_34 v40 w → (
 callM prog 128 #[v30,v35,v40,v41] (fun v42 w=>
 heldM w (fun C_38 w=>(((true:Bool) = true) ∧ (pureH v42 C_38 (fun v43=>
 jF 23 1 v10 C_38 (fun v44=>
 jL 3 v44 C_38 (fun v45=>
 pureH a2 C_38 (fun v46=>
 jF 23 1 v10 C_38 (fun v47=>
 jL 3 v47 C_38 (fun v48=>
 pureH v42 C_38 (fun v49=>
 pureH a1 C_38 (fun v50=>
 ∃ S_47:World → WK,∃ R_48:VK,(∀ v w w_1,S_47 w w_1 → R_48 v w → R_48 v w_1) ∧
 (∀ w,C_38 w → (callM prog 43 #[v48,v49,v50] (fun v w_1=>C_38 w_1 ∧ S_47 w w_1 ∧ R_48 v w_1) w)) ∧
 (∃ R_49:VK,(∀ v w w_1,S_47 w w_1 → R_49 v w → R_49 v w_1) ∧
 (∀ w,C_38 w → ∀ v51,R_48 v51 w → (callM prog 42 #[v45,v46,v51] (fun v w_1=>C_38 w_1 ∧ S_47 w w_1 ∧ R_49 v w_1) w)) ∧
 (∀ w,C_38 w → ∀ v51,R_48 v51 w → ∀ v52,R_49 v52 w → (
 oM prog (.build 74 #[(0,(.tmp 0)),(1,(.tmp 1))]) 74 [v43,v52] (fun v53 w=>
 kS 74 v8 v53 (fun _ w=>
 ∃ r_54,(do loadVar 74 (← asAddr v8):Sem Value).run prog w = .ok r_54 w ∧ K (.tuple #[r_54,(.bool true)]) w) w) w))))))))))))))) w))))))))))))))))) w) w) w) w)) w) w) w) w) w) w) w) w) w) w) w) w) w) w) w
theorem sh_45_ok {a0 a1 a2 a3:Value} {K:VK} {w:World} (h:sh_45 a0 a1 a2 a3 K w):callM prog 45 #[a0,a1,a2,a3] K w:=
 calls_of_code (fun i=>bif Nat.beq i 4 then .free [0,1,2,3,4,6,7,8,9,11] [5,10] [12,13] else bif Nat.beq i 5 then .free [0,1,2,3,4,5,6,7] [8,9] [10,11,12] else 0) (fn:=Tryz.f45) (rs:=[.cell 8 74,.tmp 9]) Tryz.func45 rfl rfl (by kernel_rfl) (nB rfl) (Eq.mp (by kernel_rfl) h)
def sh_47 (a0 a1 a2 a3:Value) (K:VK) (w:World):Prop:=
 oM prog (.box 26 (.tmp 0)) 0 [a0] (fun v4 w=>
 oM prog (.box 74 (.tmp 0)) 0 [a3] (fun v7 w=>
 kF 26 0 v4 (fun v11 w=>
 kL 23 v11 (fun v12 w=>
 kA 23 (fun v9 w=>
 kS 23 v9 v12 (fun _ w=>
 kL 26 v4 (fun v13 w=>
 callM prog 21 #[v13] (fun v14 w=>
 kU v14 (fun v15 w=>
 gF v15 (kL 23 v9) (fun v17 w=>
 gF v15 (pureM a1) (fun v18 w=>
 gF v15 (callM prog 109 #[v17,v18]) (fun v19 w=>
 gF v15 (kU v19) (fun v20 w=>
 kP v15 (.bool true) v20 (fun v21 w=>
 gF v21 (kL 26 v4) (fun v23 w=>
 gF v21 (kF 74 0 v7) (fun v24 w=>
 gF v21 (kL 3 v24) (fun v25 w=>
 gF v21 (callM prog 127 #[v23,v25]) (fun v26 w=>
 gF v21 (kU v26) (fun v27 w=>
 kP v21 (.bool true) v27 (fun v28 w=>
 gF v28 (kL 26 v4) (fun v30 w=>
 gF v28 (kF 74 1 v7) (fun v31 w=>
 gF v28 (kL 3 v31) (fun v32 w=>
 gF v28 (callM prog 127 #[v30,v32]) (fun v33 w=>
 gF v28 (kU v33) (fun v34 w=>
 kP v28 (.bool true) v34 (fun v35 w=>
 condM v35
 (K (.bool false) w)
 (heldM w (fun C_26 w=>(((true:Bool) = true) ∧ (jL 23 v9 C_26 (fun v36=>
 jL 23 v9 C_26 (fun v37=>
 jF 23 2 v9 C_26 (fun v38=>
 jL 3 v38 C_26 (fun v39=>
 jF 74 1 v7 C_26 (fun v40=>
 jL 3 v40 C_26 (fun v41=>
 jL 23 v9 C_26 (fun v43=>
 pureH a1 C_26 (fun v44=>
 jF 74 0 v7 C_26 (fun v45=>
 jL 3 v45 C_26 (fun v46=>
 ∃ S_37:World → WK,∃ R_38:VK,(∀ v w w_1,S_37 w w_1 → R_38 v w → R_38 v w_1) ∧
 (∀ w,C_26 w → (callM prog 46 #[v37,v39,v41] (fun v w_1=>C_26 w_1 ∧ S_37 w w_1 ∧ R_38 v w_1) w)) ∧
 (∃ R_39:VK,(∀ v w w_1,S_37 w w_1 → R_39 v w → R_39 v w_1) ∧
 (∀ w,C_26 w → (callM prog 46 #[v43,v44,v46] (fun v w_1=>C_26 w_1 ∧ S_37 w w_1 ∧ R_39 v w_1) w)) ∧
 (∀ w,C_26 w → ∀ v42,R_38 v42 w → ∀ v47,R_39 v47 w → (
 callM prog 121 #[v36,v42,v47] (fun v48 w=>
 heldM w (fun C_43 w=>(((true:Bool) = true) ∧ (jL 26 v4 C_43 (fun v49=>
 pureH a1 C_43 (fun v50=>
 pureH v48 C_43 (fun v51=>
 pureH a2 C_43 (fun v52=>
 jF 74 0 v7 C_43 (fun v54=>
 jL 3 v54 C_43 (fun v55=>
 ∃ S_50:World → WK,∃ R_51:VK,(∀ v w w_1,S_50 w w_1 → R_51 v w → R_51 v w_1) ∧
 (∀ w,C_43 w → (callM prog 128 #[v49,v50,v51,v52] (fun v w_1=>C_43 w_1 ∧ S_50 w w_1 ∧ R_51 v w_1) w)) ∧
 (∀ w,C_43 w → ∀ v53,R_51 v53 w → (
 kB .eql 3 4 v53 v55 (fun v56 w=>
 K v56 w) w)))))))))))) w)))))))))))))))))) w) w) w) w) w) w) w) w) w) w) w) w) w) w) w) w) w) w) w) w) w) w) w) w) w) w
theorem sh_47_ok {a0 a1 a2 a3:Value} {K:VK} {w:World} (h:sh_47 a0 a1 a2 a3 K w):callM prog 47 #[a0,a1,a2,a3] K w:=
 calls_of_code (fun i=>bif Nat.beq i 4 then .free [0,1,2,3,4,5,7,8,9,10] [6,11] [12,13] else bif Nat.beq i 5 then .free [0,1,2,3,5,6] [4] [7,8] else 0) (fn:=Tryz.f47) (rs:=[.tmp 8]) Tryz.func47 rfl rfl (by kernel_rfl) (nB rfl) (Eq.mp (by kernel_rfl) h)
def sh_51 (a0:Value) (K:VK) (w:World):Prop:=
 oM prog (.box 34 (.tmp 0)) 0 [a0] (fun v1 w=>
 kF 34 0 v1 (fun v9 w=>
 kL 30 v9 (fun v10 w=>
 kN 30 v10 (fun v11 w=>
 kF 34 1 v1 (fun v12 w=>
 kL 29 v12 (fun v13 w=>
 kN 29 v13 (fun v14 w=>
 kB .neq 3 4 v11 v14 (fun v15 w=>
 condM v15
 (K (.tuple #[(.string ⟨#[]⟩),(.bool false)]) w)
 (kF 34 0 v1 (fun v16 w=>
 kL 30 v16 (fun v17 w=>
 kN 30 v17 (fun v18 w=>
 oM prog (.buildSlice 24 1 #[(0,(.tmp 0))]) 24 [v18] (fun v19 w=>
 kF 34 0 v1 (fun v20 w=>
 kL 30 v20 (fun v21 w=>
 kN 30 v21 (fun v22 w=>
 loopM [undef,undef,(.string ⟨#[]⟩),(.bool false),v19,undef,undef,(.int .i64 0)] w (fun J_16 m_17 l_18 u_l_18 w0_l_18=>(fun w=>(
 kB .lss 3 0 (l_18.getD 7 undef) v22 (fun v24 w=>
 condM v24
 (kI 30 v21 (l_18.getD 7 undef) (fun v26 w=>
 kL 24 v26 (fun v27 w=>
 kN 24 v27 (fun v29 w=>
 kF 34 1 v1 (fun v30 w=>
 kL 29 v30 (fun v31 w=>
 kI 29 v31 (l_18.getD 7 undef) (fun v33 w=>
 kL 30 v33 (fun v34 w=>
 kN 30 v34 (fun v35 w=>
 kB .neq 3 4 v29 v35 (fun v36 w=>
 condM v36
 (K (.tuple #[(.string ⟨#[]⟩),(.bool false)]) w)
 (kN 24 v27 (fun v39 w=>
 oM prog (.buildSlice 24 1 #[(0,(.tmp 0))]) 24 [v39] (fun v40 w=>
 oM prog (.call (Go.Call.mk (.builtin .append) #[(.tmp 0),(.tmp 1)] #[24,24])) 24 [(l_18.getD 4 undef),v40] (fun v41 w=>
 kN 24 v27 (fun v43 w=>
 loopM [(l_18.getD 5 undef),(l_18.getD 6 undef),v41,(.int .i64 0)] w (fun J_33 m_34 l_35 u_l_35 w0_l_35=>(fun w=>(
 kB .lss 3 0 (l_35.getD 3 undef) v43 (fun v45 w=>
 condM v45
 (kI 24 v27 (l_35.getD 3 undef) (fun v47 w=>
 kL 3 v47 (fun v48 w=>
 heldM w (fun C_39 w=>(pureH (l_35.getD 2 undef) C_39 (fun v49=>
 pureH v48 C_39 (fun v50=>
 jF 34 1 v1 C_39 (fun v51=>
 jL 29 v51 C_39 (fun v52=>
 pureH (l_18.getD 7 undef) C_39 (fun v53=>
 jI 29 v52 v53 C_39 (fun v54=>
 jL 30 v54 C_39 (fun v55=>
 pureH (l_35.getD 3 undef) C_39 (fun v56=>
 jI 30 v55 v56 C_39 (fun v57=>
 jL 24 v57 C_39 (fun v58=>
 jN 24 v58 C_39 (fun v59=>
 jF 34 1 v1 C_39 (fun v62=>
 jL 29 v62 C_39 (fun v63=>
 pureH (l_18.getD 7 undef) C_39 (fun v64=>
 jI 29 v63 v64 C_39 (fun v65=>
 jL 30 v65 C_39 (fun v66=>
 pureH (l_35.getD 3 undef) C_39 (fun v67=>
 jI 30 v66 v67 C_39 (fun v68=>
 jL 24 v68 C_39 (fun v69=>
 oM prog (.buildSlice 24 2 #[(0,(.tmp 0)),(1,(.tmp 1))]) 24 [v50,v59] (fun v60 w=>C_39 w ∧ (
 oM prog (.call (Go.Call.mk (.builtin .append) #[(.tmp 0),(.tmp 1)] #[24,24])) 24 [v49,v60] (fun v61 w=>C_39 w ∧ (
 oM prog (.call (Go.Call.mk (.builtin .append) #[(.tmp 0),(.tmp 1)] #[24,24])) 24 [v61,v69] (fun v70 w=>C_39 w ∧ (
 C_39 w ∧ (kB .add 3 3 (l_35.getD 3 undef) (.int .i64 1) (fun v71 w=>
 J_33 [(l_35.getD 3 undef),v48,v70,v71] w ∧ m_34 [(l_35.getD 3 undef),v48,v70,v71] w < m_34 l_35 w0_l_35) w))) w)) w)) w)))))))))))))))))))))) w) w)
 (kB .add 3 3 (l_18.getD 7 undef) (.int .i64 1) (fun v72 w=>
 J_16 [(l_18.getD 7 undef),v27,(l_18.getD 2 undef),(l_18.getD 3 undef),(l_35.getD 2 undef),(l_35.getD 0 undef),(l_35.getD 1 undef),v72] w ∧ m_17 [(l_18.getD 7 undef),v27,(l_18.getD 2 undef),(l_18.getD 3 undef),(l_35.getD 2 undef),(l_35.getD 0 undef),(l_35.getD 1 undef),v72] w < m_17 l_18 w0_l_18) w)) w)) w0_l_35)) w) w) w) w)) w) w) w) w) w) w) w) w) w)
 (callM prog 114 #[(l_18.getD 4 undef)] (fun v74 w=>
 K (.tuple #[v74,(.bool true)]) w) w)) w)) w0_l_18)) w) w) w) w) w) w) w)) w) w) w) w) w) w) w) w
theorem sh_51_ok {a0:Value} {K:VK} {w:World} (h:sh_51 a0 K w):callM prog 51 #[a0] K w:=
 calls_of_code (fun _=>.tree (.look 0 (.look 1 (.look 2 (.look 3 (.look 4 (.look 5 (.look 6 (.look 7 (.look 8 (.look 9 (.look 10 (.look 13 (.look 14 (.look 15 (.look 16 (.look 17 (.look 18 (.look 19 (.look 20 (.only 11 (.only 12 (.only 21 (.only 22 (.done))))))))))))))))))))))))) (fn:=Tryz.f51) (rs:=[.tmp 2,.tmp 3]) Tryz.func51 rfl rfl (by kernel_rfl) (nB rfl) (Eq.mp (by kernel_rfl) h)
def sh_134 (a0:Value) (K:VK) (w:World):Prop:=
 oM prog (.nilCheck (.tmp 0)) 0 [a0] (fun v5 w=>
 kF 160 0 v5 (fun v6 w=>
 kL 24 v6 (fun v7 w=>
 kN 24 v7 (fun v8 w=>
 kC .eql 3 0 4 v8 (fun v9 w=>
 condM v9
 (oM prog (.nilCheck (.tmp 0)) 0 [a0] (fun v11 w=>
 kF 160 1 v11 (fun v12 w=>
 kS 4 v12 (.bool true) (fun _ w=>
 K (.int .i64 0) w) w) w) w)
 (oM prog (.nilCheck (.tmp 0)) 0 [a0] (fun v14 w=>
 kF 160 0 v14 (fun v15 w=>
 kL 24 v15 (fun v16 w=>
 kI 24 v16 (.int .i64 0) (fun v17 w=>
 kL 3 v17 (fun v18 w=>
 oM prog (.nilCheck (.tmp 0)) 0 [a0] (fun v21 w=>
 kF 160 0 v21 (fun v22 w=>
 kL 24 v22 (fun v23 w=>
 oM prog (.slice 24 (.tmp 0) (some (.tmp 1)) none none) 24 [v23,(.int .i64 1)] (fun v24 w=>
 oM prog (.nilCheck (.tmp 0)) 0 [a0] (fun v25 w=>
 kF 160 0 v25 (fun v26 w=>
 kS 24 v26 v24 (fun _ w=>
 K v18 w) w) w) w) w) w) w) w) w) w) w) w) w)) w) w) w) w) w
theorem sh_134_ok {a0:Value} {K:VK} {w:World} (h:sh_134 a0 K w):callM prog 134 #[a0] K w:=
 calls_of_code (fun _=>0) (fn:=Tryz.f134) (rs:=[.tmp 2]) Tryz.func134 rfl rfl (by kernel_rfl) (nB rfl) (Eq.mp (by kernel_rfl) h)
def sh_133 (a0:Value) (K:VK) (w:World):Prop:=
 callM prog 134 #[a0] (fun v5 w=>
 kB .lss 3 4 v5 (.int .i64 0) (fun v7 w=>
 gF v7 (pureM v5) (fun v9 w=>
 gF v7 (pureM a0) (fun v10 w=>
 gF v7 (oM prog (.nilCheck (.tmp 0)) 0 [v10]) (fun v11 w=>
 gF v7 (kF 160 0 v11) (fun v12 w=>
 gF v7 (kL 24 v12) (fun v13 w=>
 gF v7 (kN 24 v13) (fun v14 w=>
 gF v7 (kB .gtr 3 4 v9 v14) (fun v15 w=>
 kP v7 (.bool true) v15 (fun v16 w=>
 condM v16
 (oM prog (.nilCheck (.tmp 0)) 0 [a0] (fun v18 w=>
 kF 160 1 v18 (fun v19 w=>
 kS 4 v19 (.bool true) (fun _ w=>
 K (.int .i64 0) w) w) w) w)
 (K v5 w)) w) w) w) w) w) w) w) w) w) w
theorem sh_133_ok {a0:Value} {K:VK} {w:World} (h:sh_133 a0 K w):callM prog 133 #[a0] K w:=
 calls_of_code (fun _=>0) (fn:=Tryz.f133) (rs:=[.tmp 2]) Tryz.func133 rfl rfl (by kernel_rfl) (nB rfl) (Eq.mp (by kernel_rfl) h)
def sh_52 (a0:Value) (K:VK) (w:World):Prop:=
 kA 34 (fun v2 w=>
 callM prog 130 #[a0] (fun v11 w=>
 callM prog 131 #[v11] (fun v13 w=>
 oM prog (.build 160 #[(0,(.tmp 0))]) 160 [v13] (fun v14 w=>
 oM prog (.box 160 (.tmp 0)) 157 [v14] (fun v15 w=>
 callM prog 132 #[v11] (fun v17 w=>
 kU v17 (fun v18 w=>
 condM v18
 (oM prog (.build 34 #[]) 34 [] (fun v19 w=>
 kS 34 v2 v19 (fun _ w=>
 ∃ r_9,(do loadVar 34 (← asAddr v2):Sem Value).run prog w = .ok r_9 w ∧ K (.tuple #[r_9,(.bool false)]) w) w) w)
 (kA 34 (fun v6 w=>
 callM prog 133 #[v15] (fun v21 w=>
 loopM [undef,undef,undef,(.int .i64 0)] w (fun J_12 m_13 l_14 u_l_14 w0_l_14=>(fun w=>(
 kB .lss 3 4 (l_14.getD 3 undef) v21 (fun v23 w=>
 condM v23
 (callM prog 133 #[v15] (fun v25 w=>
 loopM [(.slice none 0 0),(l_14.getD 2 undef),(.slice none 0 0),(.int .i64 0)] w (fun J_17 m_18 l_19 u_l_19 w0_l_19=>(fun w=>(
 kB .lss 3 4 (l_19.getD 3 undef) v25 (fun v27 w=>
 condM v27
 (callM prog 134 #[v15] (fun v30 w=>
 oM prog (.buildSlice 24 1 #[(0,(.tmp 0))]) 24 [v30] (fun v31 w=>
 oM prog (.call (Go.Call.mk (.builtin .append) #[(.tmp 0),(.tmp 1)] #[24,24])) 24 [(l_19.getD 0 undef),v31] (fun v32 w=>
 callM prog 133 #[v15] (fun v34 w=>
 oM prog (.nilCheck (.tmp 0)) 0 [v15] (fun v37 w=>
 kF 160 0 v37 (fun v38 w=>
 kL 24 v38 (fun v39 w=>
 oM prog (.slice 24 (.tmp 0) none (some (.tmp 1)) none) 24 [v39,v34] (fun v41 w=>
 callM prog 96 #[v41] (fun v42 w=>
 oM prog (.buildSlice 30 1 #[(0,(.tmp 0))]) 30 [v42] (fun v43 w=>
 oM prog (.call (Go.Call.mk (.builtin .append) #[(.tmp 0),(.tmp 1)] #[30,30])) 30 [(l_19.getD 2 undef),v43] (fun v44 w=>
 oM prog (.nilCheck (.tmp 0)) 0 [v15] (fun v47 w=>
 kF 160 0 v47 (fun v48 w=>
 kL 24 v48 (fun v49 w=>
 oM prog (.slice 24 (.tmp 0) (some (.tmp 1)) none none) 24 [v49,v34] (fun v51 w=>
 oM prog (.nilCheck (.tmp 0)) 0 [v15] (fun v52 w=>
 kF 160 0 v52 (fun v53 w=>
 kS 24 v53 v51 (fun _ w=>
 kB .add 3 3 (l_19.getD 3 undef) (.int .i64 1) (fun v54 w=>
 J_17 [v32,v34,v44,v54] w ∧ m_18 [v32,v34,v44,v54] w < m_18 l_19 w0_l_19) w) w) w) w) w) w) w) w) w) w) w) w) w) w) w) w) w) w) w)
 (heldM w (fun C_39 w=>(((true:Bool) = true) ∧ (jF 34 0 v6 C_39 (fun v55=>
 jL 30 v55 C_39 (fun v56=>
 pureH (l_19.getD 0 undef) C_39 (fun v57=>
 jF 34 1 v6 C_39 (fun v60=>
 jL 29 v60 C_39 (fun v61=>
 pureH (l_19.getD 2 undef) C_39 (fun v62=>
 ∃ S_46:World → WK,∃ R_47:VK,(∀ v w w_1,S_46 w w_1 → R_47 v w → R_47 v w_1) ∧
 (∀ w,C_39 w → (oM prog (.buildSlice 30 1 #[(0,(.tmp 0))]) 30 [v57] (fun v w_1=>C_39 w_1 ∧ S_46 w w_1 ∧ R_47 v w_1) w)) ∧
 (∃ R_48:VK,(∀ v w w_1,S_46 w w_1 → R_48 v w → R_48 v w_1) ∧
 (∀ w,C_39 w → ∀ v58,R_47 v58 w → (oM prog (.call (Go.Call.mk (.builtin .append) #[(.tmp 0),(.tmp 1)] #[30,30])) 30 [v56,v58] (fun v w_1=>C_39 w_1 ∧ S_46 w w_1 ∧ R_48 v w_1) w)) ∧
 (∃ R_50:VK,(∀ v w w_1,S_46 w w_1 → R_50 v w → R_50 v w_1) ∧
 (∀ w,C_39 w → (oM prog (.buildSlice 29 1 #[(0,(.tmp 0))]) 29 [v62] (fun v w_1=>C_39 w_1 ∧ S_46 w w_1 ∧ R_50 v w_1) w)) ∧
 (∃ R_51:VK,(∀ v w w_1,S_46 w w_1 → R_51 v w → R_51 v w_1) ∧
 (∀ w,C_39 w → ∀ v63,R_50 v63 w → (oM prog (.call (Go.Call.mk (.builtin .append) #[(.tmp 0),(.tmp 1)] #[29,29])) 29 [v61,v63] (fun v w_1=>C_39 w_1 ∧ S_46 w w_1 ∧ R_51 v w_1) w)) ∧
 (∃ R_53:VK,(∀ v w w_1,S_46 w w_1 → R_53 v w → R_53 v w_1) ∧
 (∀ w,C_39 w → (kF 34 0 v6 (fun v w_1=>C_39 w_1 ∧ S_46 w w_1 ∧ R_53 v w_1) w)) ∧
 (∀ w,C_39 w → ∀ v58,R_47 v58 w → ∀ v59,R_48 v59 w → ∀ v63,R_50 v63 w → ∀ v64,R_51 v64 w → ∀ v65,R_53 v65 w → (
 kS 30 v65 v59 (fun _ w=>
 kF 34 1 v6 (fun v66 w=>
 kS 29 v66 v64 (fun _ w=>
 kB .add 3 3 (l_14.getD 3 undef) (.int .i64 1) (fun v67 w=>
 J_12 [(l_19.getD 0 undef),(l_19.getD 2 undef),(l_19.getD 1 undef),v67] w ∧ m_13 [(l_19.getD 0 undef),(l_19.getD 2 undef),(l_19.getD 1 undef),v67] w < m_13 l_14 w0_l_14) w) w) w) w))))))))))))))))) w)) w0_l_19)) w)
 (oM prog (.nilCheck (.tmp 0)) 0 [v15] (fun v69 w=>
 kF 160 1 v69 (fun v70 w=>
 kL 4 v70 (fun v71 w=>
 gF v71 (pureM v15) (fun v73 w=>
 gF v71 (oM prog (.nilCheck (.tmp 0)) 0 [v73]) (fun v74 w=>
 gF v71 (kF 160 0 v74) (fun v75 w=>
 gF v71 (kL 24 v75) (fun v76 w=>
 gF v71 (kN 24 v76) (fun v77 w=>
 gF v71 (kB .gtr 3 4 v77 (.int .i64 0)) (fun v78 w=>
 kP v71 (.bool true) v78 (fun v79 w=>
 condM v79
 (oM prog (.build 34 #[]) 34 [] (fun v80 w=>
 kS 34 v2 v80 (fun _ w=>
 ∃ r_72,(do loadVar 34 (← asAddr v2):Sem Value).run prog w = .ok r_72 w ∧ K (.tuple #[r_72,(.bool false)]) w) w) w)
 (kL 34 v6 (fun v81 w=>
 kS 34 v2 v81 (fun _ w=>
 ∃ r_74,(do loadVar 34 (← asAddr v2):Sem Value).run prog w = .ok r_74 w ∧ K (.tuple #[r_74,(.bool true)]) w) w) w)) w) w) w) w) w) w) w) w) w) w)) w)) w0_l_14)) w) w)) w) w) w) w) w) w) w
theorem sh_52_ok {a0:Value} {K:VK} {w:World} (h:sh_52 a0 K w):callM prog 52 #[a0] K w:=
 calls_of_code (fun _=>.free [0,1,2,5,6,7] [3,4,8,9,10] [11,12,13]) (fn:=Tryz.f52) (rs:=[.cell 2 34,.tmp 3]) Tryz.func52 rfl rfl (by kernel_rfl) (nB rfl) (Eq.mp (by kernel_rfl) h)
end Go.Proofs
namespace PrSpec
open FdSpec TkSpec CodeSpec FdPoly GrLaw
section
variable {q root:Int} {bs:List Bool} {ds:List Int}
end
end PrSpec
namespace PrSpec
open FdSpec TkSpec CodeSpec FdPoly GrLaw
section
variable {s:Stp} {c:Clm} {d:Int} {n vs:List Int}
end
end PrSpec
namespace PrSpec
open FdSpec TkSpec CodeSpec FdPoly GrLaw
section
variable {s:Stp} {c:Cls} {ds D:List Int} {ns:List (List Int)} {ks:List Knw} {root:Int}
end
end PrSpec
namespace PrSpec
open FdSpec TkSpec CodeSpec FdPoly GrLaw
end PrSpec
namespace PrSpec
open FdSpec TkSpec CodeSpec FdPoly GrLaw
end PrSpec
namespace PrSpec
open FdSpec TkSpec CodeSpec FdPoly GrLaw
end PrSpec
namespace PrSpec
open FdSpec TkSpec CodeSpec FdPoly GrLaw
end PrSpec
namespace PrSpec
open FdSpec TkSpec CodeSpec FdPoly GrLaw
end PrSpec
namespace PrSpec
open FdSpec TkSpec CodeSpec FdPoly GrLaw
def chalM (s:Stp) (pub a:Int) (msg:Bytes):Int:=numberM (encText msg ++ encNums [pub,a]) s.g.Q
theorem sign_core {g:Grp} (h:Gv g) {x k S C:Int} (e:S % g.Q = (k + C * x) % g.Q):overG g (powerG g g.G S) (powerG g (powerG g g.G x) C) = powerG g g.G k:=by
 have hG:=El.gen h
 have hx:El g (powerG g g.G x):=(hG.ex x).cg (powerG_cg h _ _)
 have hb:El g (powerG g (powerG g g.G x) C):=(hx.ex C).cg (powerG_cg h _ _)
 have hu:=hb.unit h
 have h1:=overG_cg h (powerG g g.G S) hu
 have hq:0 < g.Q:=by have:=h.q0; omega
 have h2:Cg g.P (powerG g (powerG g g.G x) C) (Ex g g.G (C * x)):=by
  refine (powerG_cg h _ _).trans ((Ex_cg (powerG_cg h _ _) C).trans ?_)
  have:=Ex_mul h hG x C
  rw [Int.mul_comm] at this
  exact this.symm
 have h3:Cg g.P (powerG g g.G k * powerG g (powerG g g.G x) C) (powerG g g.G S):=by
  refine ((powerG_cg h _ _).mul h2).trans ((Ex_add h hG k (C * x)).symm.trans ?_)
  rw [← Ex_cong e]
  exact (powerG_cg h _ _).symm
 exact (Cg.cancel hu (h1.trans h3.symm)).eq (overG_range h _ _) (powerG_range h _ _)
def signM (s:Stp) (x k:Int) (msg:Bytes):(Int × Int) × Bool:=
 if validS s && exponentM s x && exponentM s k then
  ((chalM s (powerG s.g s.g.G x) (powerG s.g s.g.G k) msg,addM s.g.Q k (mulM s.g.Q (chalM s (powerG s.g s.g.G x) (powerG s.g s.g.G k) msg) x)),true)
 else ((0,0),false)
def signedM (s:Stp) (pub:Int) (msg:Bytes) (c z:Int):Bool:=
 validS s && elemG s.g pub && exponentM s c && exponentM s z && decide (chalM s pub (overG s.g (powerG s.g s.g.G z) (powerG s.g pub c)) msg = c)
theorem gv_setup {s:Stp} (h:validS s = true):Gv s.g:=by
 unfold validS at h
 simp only [Bool.and_eq_true] at h
 exact gv_of h.1.1.1.1
theorem forth_mod {q k c x:Int} (hq:okN q):addM q k (mulM q c x) % q = (k + c * x) % q:=by
 unfold addM mulM
 simp only [if_pos hq]
 rw [Int.emod_emod_of_dvd _ (Int.dvd_refl q),Int.add_emod_emod]
theorem forth_back {q k c x:Int} (hq:okN q) (hk:0 ≤ k ∧ k < q):subM q (addM q k (mulM q c x)) (mulM q c x) = k:=by
 unfold subM addM mulM
 simp only [if_pos hq]
 rw [Int.emod_sub_emod,Int.add_sub_cancel]
 exact Int.emod_eq_of_lt hk.1 hk.2
theorem numStep_in {n:Int} (hn:okN n):∀ (l:List UInt8) (o:Int),0 ≤ o ∧ o < n → 0 ≤ l.foldl (numStep n) o ∧ l.foldl (numStep n) o < n
 | [],o,h=>h
 | b :: l,o,h=>numStep_in hn l _ (addM_range _ _ _ hn)
theorem numberM_in {n:Int} (hn:okN n) (s:Bytes):0 ≤ numberM s n ∧ numberM s n < n:=by
 unfold numberM
 rw [if_pos hn]
 exact numStep_in hn _ 0 ⟨by omega,by have:=hn.1; omega⟩
theorem elem_of {g:Grp} (hv:validG g = true) {x:Int} (hx:El g x) (hr:0 ≤ x ∧ x < g.P):elemG g x = true:=by
 have h:=gv_of hv
 have hq:=h.q0
 have hp:=h.p
 have e:=hx.emod
 rw [Int.emod_eq_of_lt (show (0:Int) ≤ 1 by omega) (by omega)] at e
 have h0:x ≠ 0:=by
  rintro rfl
  rw [Int.zero_pow (by omega)] at e
  simp at e
 unfold elemG pw
 simp only [Bool.and_eq_true,decide_eq_true_eq]
 exact ⟨⟨⟨by omega,hr.2⟩,hv⟩,e⟩
theorem elem_power {g:Grp} (hv:validG g = true) {x:Int} (hx:El g x) (k:Int):elemG g (powerG g x k) = true:=
 elem_of hv ((hx.ex k).cg (powerG_cg (gv_of hv) _ _)) (powerG_range (gv_of hv) _ _)
theorem expo_iff {s:Stp} {n:Int}:exponentM s n = true ↔ 0 ≤ n ∧ n < s.g.Q:=by unfold exponentM; simp
theorem sign_signed {s:Stp} {x k:Int} {msg:Bytes} (h:(signM s x k msg).2 = true) :
  signedM s (powerG s.g s.g.G x) msg (signM s x k msg).1.1 (signM s x k msg).1.2 = true ∧ subM s.g.Q (signM s x k msg).1.2 (mulM s.g.Q (signM s x k msg).1.1 x) = k:=by
 unfold signM at h ⊢
 split at h
 ·rename_i hc
  rw [if_pos hc]
  simp only [Bool.and_eq_true] at hc
  have hv:=hc.1.1
  have hg:=gv_setup hv
  have hvg:validG s.g = true:=by
   unfold validS at hv
   simp only [Bool.and_eq_true] at hv
   exact hv.1.1.1.1
  have hk:=expo_iff.1 hc.2
  refine ⟨?_,forth_back hg.okQ hk⟩
  unfold signedM
  dsimp only
  rw [sign_core hg (k:=k) (forth_mod hg.okQ)]
  simp only [hv,elem_power hvg (El.gen hg) x,expo_iff.2 (numberM_in hg.okQ _),expo_iff.2 (addM_range _ _ _ hg.okQ),chalM,decide_true,Bool.and_self]
 ·cases h
end PrSpec
namespace PrSpec
open FdSpec TkSpec CodeSpec FdPoly GrLaw
end PrSpec
namespace PrSpec
open FdSpec TkSpec CodeSpec FdPoly GrLaw
structure Rw where
 left:List Int
 bad:Bool
def nextR (r:Rw):Int × Rw:=match r.left with
 | []=>(0,⟨[],true⟩)
 | n :: l=>(n,⟨l,r.bad⟩)
def countR (r:Rw):Nat × Rw:=
 if (nextR r).1 < 0 ∨ ((nextR r).2.left.length:Int) < (nextR r).1 then (0,⟨(nextR r).2.left,true⟩) else ((nextR r).1.toNat,(nextR r).2)
def takeR (n:Nat) (r:Rw):List Int × Rw:=(r.left.take n,⟨r.left.drop n,r.bad⟩)
def itemsR:Nat → Rw → (List Int × List (List Int)) × Rw
 | 0,r=>(([],[]),r)
 | k + 1,r=>
  let d:=nextR r
  let n:=countR d.2
  let a:=takeR n.1 n.2
  let t:=itemsR k a.2
  ((d.1 :: t.1.1,a.1 :: t.1.2),t.2)
def clausesR:Nat → Rw → (List (List Int) × List (List (List Int))) × Rw
 | 0,r=>(([],[]),r)
 | k + 1,r=>
  let n:=countR r
  let i:=itemsR n.1 n.2
  let t:=clausesR k i.2
  ((i.1.1 :: t.1.1,i.1.2 :: t.1.2),t.2)
def itemL:List Int → List (List Int) → List Int
 | d :: ds,a :: asx=>d :: (a.length:Int) :: (a ++ itemL ds asx)
 | _,_=>[]
def clauseL:List (List Int) → List (List (List Int)) → List Int
 | d :: ds,a :: asx=>(d.length:Int) :: (itemL d a ++ clauseL ds asx)
 | _,_=>[]
def evenL:List (List Int) → List (List (List Int)) → Bool
 | d :: ds,a :: asx=>decide (d.length = a.length) && evenL ds asx
 | [],[]=>true
 | _,_=>false
theorem count_cons {n:Nat} {l:List Int} {b:Bool} (h:n ≤ l.length):countR ⟨(n:Int) :: l,b⟩ = (n,⟨l,b⟩):=by
 unfold countR nextR
 dsimp only
 rw [if_neg (by omega),Int.toNat_natCast]
theorem items_enc:∀ (ds:List Int) (asx:List (List Int)) (t:List Int) (b:Bool),ds.length = asx.length → itemsR ds.length ⟨itemL ds asx ++ t,b⟩ = ((ds,asx),⟨t,b⟩)
 | [],[],_,_,_=>rfl
 | [],_ :: _,_,_,h=>by simp at h
 | _ :: _,[],_,_,h=>by simp at h
 | d :: ds,a :: asx,t,b,h=>by
  have ih:=items_enc ds asx t b (by simpa using h)
  have e:countR ⟨(a.length:Int) :: (a ++ itemL ds asx ++ t),b⟩ = (a.length,⟨a ++ itemL ds asx ++ t,b⟩):=count_cons (by simp)
  have e2:nextR ⟨itemL (d :: ds) (a :: asx) ++ t,b⟩ = (d,⟨(a.length:Int) :: (a ++ itemL ds asx ++ t),b⟩):=rfl
  have e3:takeR a.length ⟨a ++ itemL ds asx ++ t,b⟩ = (a,⟨itemL ds asx ++ t,b⟩):=by
   unfold takeR; simp only [List.append_assoc,List.take_left,List.drop_left]
  simp only [List.length_cons,itemsR,e2,e,e3,ih]
theorem itemL_len:∀ (ds:List Int) (asx:List (List Int)),ds.length = asx.length → ds.length ≤ (itemL ds asx).length
 | [],_,_=>by simp
 | _ :: _,[],h=>by simp at h
 | d :: ds,a :: asx,h=>by
  have:=itemL_len ds asx (by simpa using h)
  simp only [itemL,List.length_cons,List.length_append]
  omega
theorem clauses_enc:∀ (ds:List (List Int)) (asx:List (List (List Int))) (t:List Int) (b:Bool),evenL ds asx = true → clausesR ds.length ⟨clauseL ds asx ++ t,b⟩ = ((ds,asx),⟨t,b⟩)
 | [],[],_,_,_=>rfl
 | [],_ :: _,_,_,h=>by simp [evenL] at h
 | _ :: _,[],_,_,h=>by simp [evenL] at h
 | d :: ds,a :: asx,t,b,h=>by
  simp only [evenL,Bool.and_eq_true,decide_eq_true_eq] at h
  have ih:=clauses_enc ds asx t b h.2
  have e:countR ⟨clauseL (d :: ds) (a :: asx) ++ t,b⟩ = (d.length,⟨itemL d a ++ (clauseL ds asx ++ t),b⟩):=by
   have:=count_cons (n:=d.length) (l:=itemL d a ++ (clauseL ds asx ++ t)) (b:=b) (by have:=itemL_len d a h.1; simp; omega)
   simpa [clauseL] using this
  simp only [List.length_cons,clausesR,e,items_enc d a _ b h.1,ih]
end PrSpec
namespace PrSpec
open FdSpec TkSpec CodeSpec FdPoly GrLaw
end PrSpec
namespace PrSpec
open FdSpec TkSpec CodeSpec FdPoly GrLaw
def commitM (s:Stp) (v r:Int):Int:=if validS s then (prodG s.g [s.g.G,s.blind] [v,r]).1 else 0
def pows (n:Nat):List Int:=(List.range n).map fun k=>(2:Int) ^ k
def weighM (s:Stp) (bits:List Int):Int × Bool:=
 if validS s && decide (1 ≤ bits.length) && decide (bits.length ≤ 60) && bits.all (elemG s.g) then prodG s.g bits (pows bits.length) else (0,false)
def blindedM (s:Stp) (t:Int):Clm:=⟨1,[⟨t,[⟨0,s.blind⟩]⟩]⟩
def bitC (s:Stp) (x:Int):Cls:=⟨1,[blindedM s x,blindedM s (overG s.g x s.g.G)]⟩
def lastC (s:Stp) (c w:Int):Cls:=⟨1,[blindedM s (overG s.g c w)]⟩
def bitsM (s:Stp) (bits:List Int):List Cls:=if (weighM s bits).2 then bits.map (bitC s) else []
def rangeM (s:Stp) (c:Int) (bits:List Int):List Cls:=
 if (weighM s bits).2 && elemG s.g c then bitsM s bits ++ [lastC s c (weighM s bits).1] else []
def bitOf (v:Int) (k:Nat):Int:=v / 2 ^ k % 2
def knwOf (b r:Int):List Knw:=if b = 0 then [⟨true,[r]⟩,⟨false,[]⟩] else [⟨false,[]⟩,⟨true,[r]⟩]
def splitL (s:Stp) (v:Int):Nat → List Int → List Int × List (List Knw)
 | _,[]=>([],[])
 | k,r :: l=>(commitM s (bitOf v k) r :: (splitL s v (k + 1) l).1,knwOf (bitOf v k) r :: (splitL s v (k + 1) l).2)
def splitFine (s:Stp) (v:Int) (blinds:List Int):Bool:=
 validS s && decide (1 ≤ blinds.length) && decide (blinds.length ≤ 60) && exponentsM s blinds blinds.length && decide (0 ≤ v) && decide (v < 2 ^ blinds.length)
def splitM (s:Stp) (v:Int) (blinds:List Int):(List Int × List (List Knw)) × Bool:=
 if splitFine s v blinds then (splitL s v 0 blinds,true) else (([],[]),false)
def restL (q:Int):Nat → Int → List Int → Int
 | _,o,[]=>o
 | k,o,x :: l=>restL q (k + 1) (subM q o (mulM q x (2 ^ k))) l
def restM (s:Stp) (r:Int) (blinds:List Int):Int:=
 if validS s && decide (blinds.length ≤ 60) then restL s.g.Q 0 (addM s.g.Q r 0) blinds else 0
def encodeM (ds:List (List Int)) (asx:List (List (List Int))):Bytes × Bool:=
 if evenL ds asx then (encNums ((ds.length:Int) :: clauseL ds asx),true) else ([],false)
def ex:Stp:=⟨⟨23,11,4⟩,[16,18],12⟩
theorem less_facts:weighM ex [4,4] = (18,true) ∧ splitM ex 2 [1,2] = (([12,1],[[⟨true,[1]⟩,⟨false,[]⟩],[⟨false,[]⟩,⟨true,[2]⟩]]),true) ∧ restM ex 3 [1,2] = 9 ∧
  (rangeM ex (commitM ex 2 3) [12,1]).length = 3 ∧ HoldsM ex (blindedM ex (overG ex.g (commitM ex 2 3) (weighM ex [12,1]).1)) [9] = true ∧ validS ex = true ∧ exponentM ex 3 = true ∧ exponentM ex 5 = true ∧ powerG ex.g ex.g.G 3 = 18:=by
 decide +kernel
end PrSpec
namespace Go.Proofs
open Go Go.Sh Go.RowKit FdSpec TkSpec CodeSpec PrSpec
theorem pow2_lt {n m:Nat} (h:n ≤ m):(2:Int) ^ n ≤ 2 ^ m:=by exact_mod_cast Nat.pow_le_pow_right (by decide) h
theorem oM_shl_i (P:Program) (t t' T:TypeId) (y:Int) (h0:0 ≤ y) (h1:y ≤ 62):oM P (.binOp .shl t (.tmp 0) (.tmp 1) t') T [.int .i64 1,.int .i64 y] = pureM (.int .i64 (2 ^ y.toNat)):=by
 funext K w
 have hp:(2:Int) ^ y.toNat ≤ 2 ^ 62:=pow2_lt (by omega)
 have hp0:(0:Int) < 2 ^ y.toNat:=Int.pow_pos (by decide)
 have e:IntKind.i64.wrap (2 ^ y.toNat) = 2 ^ y.toNat:=wrapI64 _ (by omega) (by simp at hp; omega)
 simp [oM,opM,xop,execOp,evalL,evE,binOp,Op.shift,h0,e]
 rfl
theorem oM_shr_i (P:Program) (t t' T:TypeId) (x y:Int) (h0:0 ≤ y) (h1:y ≤ 62):oM P (.binOp .shr t (.tmp 0) (.tmp 1) t') T [.int .i64 x,.int .i64 y] = pureM (.int .i64 (x / 2 ^ y.toNat)):=by
 funext K w
 simp [oM,opM,xop,execOp,evalL,evE,binOp]
 rfl
theorem oM_and1_i (P:Program) (t t' T:TypeId) (x:Int) (h0:0 ≤ x) (h1:x < 9223372036854775808):oM P (.binOp .and t (.tmp 0) (.tmp 1) t') T [.int .i64 x,.int .i64 1] = pureM (.int .i64 (x % 2)):=by
 funext K w
 have e:bits BinOp.and IntKind.i64 x 1 = x % 2:=by
  obtain ⟨a,rfl⟩:=Int.eq_ofNat_of_zero_le h0
  have ha:a < 2 ^ 64:=by omega
  rw [show (1:Int) = ((1:Nat):Int) from rfl]
  simp only [bits]
  rw [BitVec.ofInt_natCast,BitVec.ofInt_natCast,BitVec.toNat_and]
  simp only [BitVec.toNat_ofNat]
  rw [show IntKind.i64.bits = 64 from rfl,Nat.mod_eq_of_lt ha,Nat.mod_eq_of_lt (by decide:1 < 2 ^ 64),Nat.and_one_is_mod]
  rw [wrapI64 _ (by omega) (by omega)]
  omega
 simp [oM,opM,xop,execOp,evalL,evE,binOp,go_sem,e]
theorem shlI {P:Program} {t t' T:TypeId} {n:Nat} {K:VK} {w:World} (h:n ≤ 62) (k:K (.int .i64 (2 ^ n)) w):oM P (.binOp .shl t (.tmp 0) (.tmp 1) t') T [.int .i64 1,.int .i64 (n:Int)] K w:=by
 rw [oM_shl_i P t t' T n (by omega) (by omega),Int.toNat_natCast]; exact k
theorem shrI {P:Program} {t t' T:TypeId} {n:Nat} {x:Int} {K:VK} {w:World} (h:n ≤ 62) (k:K (.int .i64 (x / 2 ^ n)) w):oM P (.binOp .shr t (.tmp 0) (.tmp 1) t') T [.int .i64 x,.int .i64 (n:Int)] K w:=by
 rw [oM_shr_i P t t' T x n (by omega) (by omega),Int.toNat_natCast]; exact k
theorem andI {P:Program} {t t' T:TypeId} {x:Int} {K:VK} {w:World} (h:0 ≤ x ∧ x < 9223372036854775808) (k:K (.int .i64 (x % 2)) w):oM P (.binOp .and t (.tmp 0) (.tmp 1) t') T [.int .i64 x,.int .i64 1] K w:=by
 rw [oM_and1_i P t t' T x h.1 h.2]; exact k
section
variable {α:Type} {n:Nat} {V:World → List Value → α → Prop} {w w':World} {v:Value} {l:List α}
theorem atOf_stay (h:VStay V):Stay (AtOf n V):=fun w w' b p x ⟨c,hc,h1,h2⟩ hlt hb=>⟨c,hc,fun j u hj=>(hb.cell hlt).trans (h1 j u hj),h _ _ _ _ h2 hb⟩
theorem rows_stay (h:VStay V):VStay (VOne fun w v (l:List α)=>SRow n (AtOf n V) w v l):=fun w w' c x ⟨v,hc,hr⟩ hb=>⟨v,hc,hr.next (atOf_stay h) hb⟩
theorem ints_stay:VStay (VOne Ints):=fun w w' c x ⟨v,hc,hr⟩ hb=>⟨v,hc,hr.next hb⟩
theorem SRow.nil:SRow n (AtOf n V) w (.slice none 0 0) ([]:List α):=⟨⟨none,0,rfl,.inl rfl⟩,by simp⟩
theorem _root_.Go.Sh.GRow.srow {e:TypeId} {B:Nat} {D:Nat → Prop} (hn:0 < n) (h:GRow n e V B D w v l) (hl:l.length ≤ 9223372036854775807):SRow n (AtOf n V) w v l:=by
 obtain ⟨cs,ho,hf⟩:=h.ex
 obtain ⟨hc1,hc2⟩:=hf.here
 obtain ⟨ad,c,rfl⟩:=owns_len ho
 refine ⟨⟨ad,c,rfl,?_⟩,hl⟩
 by_cases h0:l = []
 ·exact .inl h0
 right
 obtain ⟨g,cap,cur,hv,hlt,_,_,_,_,hcell⟩:=owns_cells ho (List.length_pos_iff.2 h0)
 cases hv
 refine ⟨g,0,rfl,hlt,fun i hi=>?_⟩
 have hci:cs[i]? = some cs[i]:=gE (by omega)
 refine ⟨cs[i].1,cs[i].2,fun j u hj=>?_,hc2 i _ _ hci (gE hi)⟩
 rw [Nat.zero_add]
 refine hcell _ _ ?_
 have hj':j < n:=by have:=(gS hj).1; rw [cs[i].2] at this; exact this
 rw [flat_at (mk:=Cl.cs) (sz:=n) (fun c=>c.2) cs i j hci hj']
 exact hj
theorem _root_.Go.Sh.GRow.fp {e:TypeId} {B:Nat} {D:Nat → Prop} (hn:0 < n) (h:GRow n e V B D w v l) (hl:l.length ≤ 9223372036854775807):FP (fun i=>D i ∨ v.ownBlock = some i) w (fun w=>SRow n (AtOf n V) w v l):=by
 obtain ⟨cs,ho,hf⟩:=h.ex
 intro w' a b c d e'
 have h2:GRow n e V B D w' v l:=⟨cs,owns_keep ho (fun i hi=>e' i (.inr hi)),fun w2 a2 b2 c2 d2 e2=>hf w2 (a2.trans a) (b2.trans b) (c2.trans c) (Nat.le_trans d d2) (fun i hi=>(e2 i hi).trans (e' i (.inl hi)))⟩
 exact h2.srow hn hl
end
section
variable {K:VK} {w w0:World} {L:List (Addr × Value)}
theorem shl1 {i:Nat} (h:i ≤ 62):IntKind.i64.wrap (1 * 2 ^ min i IntKind.i64.bits) = 2 ^ i:=by
 have hp:(2:Int) ^ i ≤ 2 ^ 62:=pow2_lt h
 have hp0:(0:Int) < 2 ^ i:=Int.pow_pos (by decide)
 have e:min i IntKind.i64.bits = i:=Nat.min_eq_left (by show i ≤ 64; omega)
 rw [e,Int.one_mul,wrapI64 _ (by omega) (by simp at hp; omega)]
theorem Over_ok (g:Grp) (a b:Int) (k:∀ w',Bw w w' → K (.int .i64 (overG g a b)) w'):callM Tryz.prog 121 #[grpV g,.int .i64 a,.int .i64 b] K w:=by
 apply sh_121_ok
 unfold sh_121
 refine box_kn (cs:=[.int .i64 g.P,.int .i64 g.Q,.int .i64 g.G]) rfl (.start w) fun b1 W hk hb1 hbb=>?_
 refine ⟨Kn w (cellsOf [] b1 0 [.int .i64 g.P,.int .i64 g.Q,.int .i64 g.G]),hk.drew,?_⟩
 repeat (any_goals ((with_reducible refine idOQ ?_); (with_reducible refine oQ_of ⟨_,rfl⟩ (fun W0 hW0=>by (refine oG (fun X Y=>?_)); simp [go_sem,hW0.cells]; (first | exact Y _ _ ⟨rfl,rfl⟩ | exact ⟨by omega,Y _ _ ⟨rfl,rfl⟩⟩)) ?_)))
 refine callQ_of (fun W hW=>Pow_ok g.P b (-1) (by omega) (fun w' hb=>⟨rfl,hW.next hb⟩)) ?_
 refine callQ_of (fun W hW=>Times_ok g a _ (fun w' hb=>⟨rfl,hW.next hb⟩)) ?_
 intro W hW
 exact k _ hW.below
theorem overG_I64 (g:Grp) (a b:Int):I64 (overG g a b):=by
 unfold overG timesG
 split
 ·exact mulM_I64 _ _ _
 ·exact I64_0
theorem Commit_ok (s:Stp) (v r:Int) {sv:Value} (hs:SetR w s sv) (hv:I64 v) (hr:I64 r) (k:∀ w',Bw w w' → K (.int .i64 (commitM s v r)) w'):callM Tryz.prog 44 #[stpV s sv,.int .i64 v,.int .i64 r] K w:=by
 apply sh_44_ok
 unfold sh_44
 have hs':=hs
 obtain ⟨ad,c,rfl⟩:=hs.ints.isSlice
 refine box_kn (cs:=stpC s (.slice ad s.bases.length c)) rfl (.start w) fun b1 W hk hb1 hbb=>?_
 clear hb1 hbb
 refine Xa hk.cells ?_
 refine ValidSetup_ok s (hs'.next hk.below) (fun w2 h2=>?_)
 have hk:=hk.next h2
 unfold commitM at k
 cases hvs:validS s with
 | false=>
  rw [hvs] at k
  refine Xa0 ?_
  exact k _ hk.below
 | true=>
 rw [hvs,if_pos rfl] at k
 refine Xb9 hk.cells ?_
 refine mk2 _ _ hs'.grp.2.2 hs'.blind (fun u1 w3 h3 hi1=>?_)
 have hk:=hk.next h3
 refine mk2 _ _ hv hr (fun u2 w4 h4 hi2=>?_)
 have hk:=hk.next h4
 refine Product_ok s.g (hi1.next h4) hi2 (fun w5 h5=>?_)
 have hk:=hk.next h5
 refine Xa0 ?_
 exact k _ hk.below
def RsJ (s:Stp) (q:Int) (l:List Int) (R:Int) (w0:World) (L:List (Addr × Value)) (vs:List Value) (w':World):Prop:=Kn w0 L w' ∧ ∃ (u1 u2:Value) (o:Int) (i:Nat),vs = [u1,u2,.int .i64 o,.int .i64 (i:Int)] ∧ i ≤ l.length ∧ restL q i o (l.drop i) = R
theorem Rest_ok (s:Stp) (r:Int) (l:List Int) {sv lv:Value} (hs:SetR w s sv) (hl:Ints w lv l) (k:∀ w',Bw w w' → K (.int .i64 (restM s r l)) w'):callM Tryz.prog 71 #[stpV s sv,.int .i64 r,lv] K w:=by
 apply sh_71_ok
 unfold sh_71
 have hs':=hs
 obtain ⟨ad,c,rfl⟩:=hs.ints.isSlice
 have hl':=hl
 obtain ⟨lad,lc,rfl⟩:=hl.isSlice
 refine box_kn (cs:=stpC s (.slice ad s.bases.length c)) rfl (.start w) fun b1 W hk hb1 hbb=>?_
 clear hb1 hbb
 refine Xa hk.cells ?_
 refine ValidSetup_ok s (hs'.next hk.below) (fun w2 h2=>?_)
 have hk:=hk.next h2
 unfold restM at k
 cases hvs:validS s with
 | false=>
  rw [hvs,bF] at k
  refine Xa0 ?_
  exact k _ hk.below
 | true=>
 rw [hvs,bT] at k
 by_cases h6:(60:Int) < l.length
 ·rw [decide_eq_false (by omega)] at k
  refine Xa @h6 ?_
  exact k _ hk.below
 rw [decide_eq_true (by omega),if_pos rfl] at k
 refine Xa (An2 hk.cells @h6) ?_
 refine Add_ok _ _ _ ?_
 refine Xa0 ?_
 refine ⟨RsJ s s.g.Q l (restL s.g.Q 0 (addM s.g.Q r 0) l) w _,(fun vs _=>match vs with | [_,_,_,.int _ i]=>l.length - i.toNat | _=>0),⟨hk,_,_,_,0,rfl,by omega,rfl⟩,?_⟩
 generalize restL s.g.Q 0 (addM s.g.Q r 0) l = R at *
 rintro _ _ w3 ⟨hk,u1,u2,o,i,rfl,hi,ha⟩
 by_cases hin:i = l.length
 ·rw [List.drop_of_length_le (by omega)] at ha
  refine Xa0 ?_
  have e:o = R:=ha
  rw [e]
  exact k _ hk.below
 rw [List.drop_eq_getElem_cons (by omega)] at ha
 obtain ⟨b8,o8,rfl,hb8',ca,ra,_⟩:=hl'.at (i:=i) (by omega)
 refine Xa (ca _ hk.below) ?_
 refine Mul_ok _ _ _ (fun w4 h4=>?_)
 have hk:=hk.next h4
 refine Sub_ok _ _ _ ?_
 refine Xa0 ?_
 refine ⟨⟨hk,_,_,_,i + 1,rfl,by omega,?_⟩,by show l.length - (((i + 1:Nat):Int)).toNat < l.length - ((i:Nat):Int).toNat; omega⟩
 rw [← ha,shl1 (by omega)]
 rfl
def WgJ (g:Grp) (l:List Int) (R:Bool) (w0:World) (vs:List Value) (w':World):Prop:=Bw w0 w' ∧ ∃ (u1 u2 u3 u4 ev:Value) (i:Nat),vs = [u1,u2,u3,u4,ev,.int .i64 (i:Int)] ∧ i ≤ l.length ∧ OwnI w' w0.heap.size ev ((pows l.length).take i) ∧ (l.drop i).all (elemG g) = R
theorem pows_len (n:Nat):(pows n).length = n:=by simp [pows]
theorem pows_at {n i:Nat} (h:i < n):(pows n)[i]? = some (2 ^ i):=by simp [pows,h]
theorem pows_I64 {n:Nat} (h:n ≤ 60):∀ x ∈ pows n,I64 x:=by
 intro x hx
 simp only [pows,List.mem_map,List.mem_range] at hx
 obtain ⟨k,hk,rfl⟩:=hx
 have hp:(2:Int) ^ k ≤ 2 ^ 62:=pow2_lt (by omega)
 have hp0:(0:Int) < 2 ^ k:=Int.pow_pos (by decide)
 simp at hp
 unfold I64
 omega
theorem Weigh_ok (s:Stp) (l:List Int) {sv lv:Value} (hs:SetR w s sv) (hl:Ints w lv l) (k:∀ w',Bw w w' → K (.tuple #[.int .i64 (weighM s l).1,.bool (weighM s l).2]) w'):callM Tryz.prog 74 #[stpV s sv,lv] K w:=by
 apply sh_74_ok
 unfold sh_74
 have hs':=hs
 obtain ⟨ad,c,rfl⟩:=hs.ints.isSlice
 have hl':=hl
 obtain ⟨lad,lc,rfl⟩:=hl.isSlice
 refine box_kn (cs:=stpC s (.slice ad s.bases.length c)) rfl (.start w) fun b1 W hk hb1 hbb=>?_
 clear hb1 hbb
 refine Xa hk.cells ?_
 refine ValidSetup_ok s (hs'.next hk.below) (fun w2 h2=>?_)
 have hk:=hk.next h2
 unfold weighM at k
 cases hvs:validS s with
 | false=>
  rw [hvs,bF,bF,bF] at k
  refine Xa0 ?_
  exact k _ hk.below
 | true=>
 rw [hvs,bT] at k
 by_cases h1:(l.length:Int) < 1
 ·rw [decide_eq_false (by omega),bF,bF] at k
  refine Xa @h1 ?_
  exact k _ hk.below
 rw [decide_eq_true (by omega),bT] at k
 by_cases h6:(60:Int) < l.length
 ·rw [decide_eq_false (by omega),bF] at k
  refine Xa (An2 @h1 @h6) ?_
  exact k _ hk.below
 rw [decide_eq_true (by omega),bT] at k
 refine Xa (An3 hk.cells @h1 @h6) ?_
 have hel:∀ i (h:i < l.length),l[i]? = some l[i]:=fun i h=>gE h
 refine ⟨WgJ s.g l (l.all (elemG s.g)) w2,(fun vs _=>match vs with | [_,_,_,_,_,.int _ i]=>l.length - i.toNat | _=>0),⟨bR,_,_,_,_,_,0,rfl,by omega,own_none,rfl⟩,?_⟩
 generalize hR:l.all (elemG s.g) = R at *
 rintro _ _ w3 ⟨hb3,u1,u2,u3,u4,ev,i,rfl,hi,hoe,ha⟩
 have hk3:=hk.next hb3
 by_cases hin:i = l.length
 ·rw [List.drop_of_length_le (by omega),List.all_nil] at ha
  rw [List.take_of_length_le (by rw [pows_len]; omega)] at hoe
  rw [← ha,if_pos rfl] at k
  have hoi:=hoe.ints (pows_I64 (by omega)) (by rw [pows_len]; omega)
  refine Xa hk3.cells ?_
  refine Product_ok s.g (hl'.next hk3.below) hoi (fun w5 h5=>?_)
  have hk:=hk3.next h5
  refine Xa0 ?_
  exact k _ hk.below
 rw [List.drop_eq_getElem_cons (by omega),List.all_cons] at ha
 obtain ⟨b8,o8,rfl,hb8',ca,ra,_⟩:=hl'.at (i:=i) (by omega)
 refine Xa (An2 (ca _ hk3.below) hk3.cells) ?_
 refine Element_ok s.g _ hs'.grp (hs'.db.next hk3.below) (fun w4 h4=>?_)
 have hk':=hk3.next h4
 cases hel:elemG s.g l[i] with
 | false=>
  rw [hel,bF] at ha
  rw [← ha] at k
  refine Xa0 ?_
  exact k _ hk'.below
 | true=>
 rw [hel,bT] at ha
 have hx:I64 (2 ^ i):=pows_I64 (n:=l.length) (by omega) _ (List.mem_of_getElem? (pows_at (by omega)))
 refine Xb3_0 ?_
 rw [shl1 (by omega)]
 refine mk1 _ hx (fun v5 w5 h5 hi5=>?_)
 have hoe:=(hoe.keep h4).keep h5
 have hb5:=(hb3.on h4).on h5
 refine append1g hoe hb5.size hi5 (by rw [List.length_take]; omega) (fun v6 w6 ho6 hg6 hv6=>?_)
 rw [Int.toNat_natCast,take_snoc' (pows_at (by omega))] at ho6
 refine Xa0 ?_
 exact ⟨⟨hb5.grown hg6 hb5.size (fun j hj=>(owns_own hoe hj).2.1),_,_,_,_,_,i + 1,rfl,by omega,ho6,ha⟩,by show l.length - (((i + 1:Nat):Int)).toNat < l.length - ((i:Nat):Int).toNat; omega⟩
end
section
variable {K:VK} {w w' w0 W:World} {L:List (Addr × Value)}
section
variable {α:Type} {n:Nat} {V:World → List Value → α → Prop}
theorem srow_lit1 {g c:Nat} {T:TypeId} {x:α} {xs:List Value} (h:Holds w g T xs) (hl:xs.length = n) (hV:V w xs x):SRow n (AtOf n V) w (.slice (some ⟨g,0,none⟩) 1 c) [x]:=by
 refine ⟨⟨_,c,rfl,.inr ⟨g,0,rfl,h.lt,fun i hi=>?_⟩⟩,by simp⟩
 obtain rfl:i = 0:=by simpa using hi
 refine ⟨xs,hl,fun j u hj=>?_,hV⟩
 rw [Nat.zero_mul,Nat.zero_add,cell_of_block h]
 simpa using hj
theorem srow_lit2 {g c:Nat} {T:TypeId} {x y:α} {xs ys:List Value} (h:Holds w g T (xs ++ ys)) (hl:xs.length = n) (hl2:ys.length = n) (hV:V w xs x) (hV2:V w ys y):SRow n (AtOf n V) w (.slice (some ⟨g,0,none⟩) 2 c) [x,y]:=by
 refine ⟨⟨_,c,rfl,.inr ⟨g,0,rfl,h.lt,fun i hi=>?_⟩⟩,by simp⟩
 match i,hi with
 | 0,_=>
  refine ⟨xs,hl,fun j u hj=>?_,hV⟩
  rw [Nat.zero_mul,Nat.zero_add,cell_of_block h]
  simp only [List.getElem?_toArray,Nat.zero_add]
  rw [List.getElem?_append_left (gS hj).1]
  exact hj
 | 1,_=>
  refine ⟨ys,hl2,fun j u hj=>?_,hV2⟩
  rw [Nat.one_mul,cell_of_block h]
  simp only [List.getElem?_toArray,Nat.zero_add]
  rw [List.getElem?_append_right (by omega)]
  rw [show n + j - xs.length = j by omega]
  exact hj
 | i + 2,h=>exact absurd h (by simp)
end
def VClm (w:World) (c:List Value) (x:Clm):Prop:=∃ v,c = clmC x v ∧ ClmR w x v
@[reducible] def clsC (c:Cls) (v:Value):List Value:=[.int .i64 c.need,v]
@[reducible] def clsV (c:Cls) (v:Value):Value:=.agg #[.int .i64 c.need,v]
def ClsR (w:World) (c:Cls) (v:Value):Prop:=I64 c.need ∧ SRow 2 (AtOf 2 VClm) w v c.claims
def VCls (w:World) (c:List Value) (x:Cls):Prop:=∃ v,c = clsC x v ∧ ClsR w x v
abbrev GoalR (w:World) (v:Value) (l:List Cls):Prop:=SRow 2 (AtOf 2 VCls) w v l
@[reducible] def knwC (k:Knw) (v:Value):List Value:=[.bool k.has,v]
@[reducible] def knwV (k:Knw) (v:Value):Value:=.agg #[.bool k.has,v]
def VKnw (w:World) (c:List Value) (x:Knw):Prop:=∃ v,c = knwC x v ∧ Ints w v x.values
abbrev KnwsR (w:World) (v:Value) (l:List Knw):Prop:=SRow 2 (AtOf 2 VKnw) w v l
abbrev KnowR (w:World) (v:Value) (l:List (List Knw)):Prop:=SRow 1 (AtOf 1 (VOne KnwsR)) w v l
abbrev ListsR (w:World) (v:Value) (l:L2):Prop:=SRow 1 (AtOf 1 (VOne Ints)) w v l
abbrev NumsR (w:World) (v:Value) (l:L3):Prop:=SRow 1 (AtOf 1 (VOne ListsR)) w v l
theorem clm_vstay:VStay VClm:=fun w w' c x ⟨v,hc,h⟩ hb=>⟨v,hc,h.next hb⟩
theorem cls_vstay:VStay VCls:=fun w w' c x ⟨v,hc,h1,h2⟩ hb=>⟨v,hc,h1,h2.next (atOf_stay clm_vstay) hb⟩
theorem knw_vstay:VStay VKnw:=fun w w' c x ⟨v,hc,h1⟩ hb=>⟨v,hc,h1.next hb⟩
theorem knws_vstay:VStay (VOne KnwsR):=rows_stay knw_vstay
theorem lists_vstay:VStay (VOne ListsR):=rows_stay ints_stay
section
theorem lit_trm {T:TypeId} (a b:Int) (k:∀ g W,Bw w W → w.heap.size ≤ g → Holds W g 146 [.int .i64 a,.int .i64 b] → K (.slice (some ⟨g,0,none⟩) 1 1) W):oM Tryz.prog (.buildSlice 142 1 #[(0,.tmp 0)]) T [.agg #[.int .i64 a,.int .i64 b]] K w:=by
 rw [oM_buildSlice1]; exact lit_run (by kernel_rfl) k
theorem lit_eqn {T:TypeId} (a:Int) (ad:Option Addr) (n c:Nat) (k:∀ g W,Bw w W → w.heap.size ≤ g → Holds W g 144 [.int .i64 a,.slice ad n c] → K (.slice (some ⟨g,0,none⟩) 1 1) W):oM Tryz.prog (.buildSlice 67 1 #[(0,.tmp 0)]) T [.agg #[.int .i64 a,.slice ad n c]] K w:=by
 rw [oM_buildSlice1]; exact lit_run (by kernel_rfl) k
theorem lit_clm {T:TypeId} (a:Int) (ad:Option Addr) (n c:Nat) (k:∀ g W,Bw w W → w.heap.size ≤ g → Holds W g 69 [.int .i64 a,.slice ad n c] → K (.slice (some ⟨g,0,none⟩) 1 1) W):oM Tryz.prog (.buildSlice 63 1 #[(0,.tmp 0)]) T [.agg #[.int .i64 a,.slice ad n c]] K w:=by
 rw [oM_buildSlice1]; exact lit_run (by kernel_rfl) k
theorem lit_clm2 {T:TypeId} (a a2:Int) (ad ad2:Option Addr) (n c n2 c2:Nat) (k:∀ g W,Bw w W → w.heap.size ≤ g → Holds W g 69 ([.int .i64 a,.slice ad n c] ++ [.int .i64 a2,.slice ad2 n2 c2]) → K (.slice (some ⟨g,0,none⟩) 2 2) W):oM Tryz.prog (.buildSlice 63 2 #[(0,.tmp 0),(1,.tmp 1)]) T [.agg #[.int .i64 a,.slice ad n c],.agg #[.int .i64 a2,.slice ad2 n2 c2]] K w:=by
 rw [oM_buildSlice2]; exact lit_run (by kernel_rfl) k
theorem lit_cls {T:TypeId} (a:Int) (ad:Option Addr) (n c:Nat) (k:∀ g W,Bw w W → w.heap.size ≤ g → Holds W g 65 [.int .i64 a,.slice ad n c] → K (.slice (some ⟨g,0,none⟩) 1 1) W):oM Tryz.prog (.buildSlice 27 1 #[(0,.tmp 0)]) T [.agg #[.int .i64 a,.slice ad n c]] K w:=by
 rw [oM_buildSlice1]; exact lit_run (by kernel_rfl) k
theorem lit_knws {T:TypeId} (ad:Option Addr) (n c:Nat) (k:∀ g W,Bw w W → w.heap.size ≤ g → Holds W g 114 [.slice ad n c] → K (.slice (some ⟨g,0,none⟩) 1 1) W):oM Tryz.prog (.buildSlice 28 1 #[(0,.tmp 0)]) T [.slice ad n c] K w:=by
 rw [oM_buildSlice1]; exact lit_run (by kernel_rfl) k
end
theorem sz_clm (w:World):(sizeOf 69).run Tryz.prog w = .ok 2 w:=by kernel_rfl
theorem al_clm (w:World):(Instr.alloc 69 true (.tuple #[])).run Tryz.prog w = .ok (.pointer (some ⟨w.heap.size,0,none⟩)) (w.alloc (.cells [.int .i64 0,.slice none 0 0].toArray 69)):=by kernel_rfl
theorem clm_one (a:Int) (ad:Option Addr) (n c:Nat):∀ u ∈ ([.int .i64 a,.slice ad n c]:List Value),u.oneCell' = true:=by
 intro u hu
 simp only [List.mem_cons,List.not_mem_nil,or_false] at hu
 rcases hu with rfl | rfl <;> rfl
theorem un_clm:Tryz.prog.underlying 69 = some ((Tryz.prog.underlying 69).getD default):=by kernel_rfl
theorem blind_clm {s:Stp} {t:Int} {g1 g2 c1 c2:Nat} {T1 T2:TypeId} (ht:I64 t) (hb:I64 s.blind) (h1:Holds w g1 T1 [.int .i64 0,.int .i64 s.blind]) (h2:Holds w g2 T2 [.int .i64 t,.slice (some ⟨g1,0,none⟩) 1 c1]):ClmR w (blindedM s t) (.slice (some ⟨g2,0,none⟩) 1 c2):=by
 refine ⟨by show I64 1; unfold I64; decide,⟨⟨_,c2,rfl,.inr ⟨g2,0,rfl,h2.lt,fun i hi=>?_⟩⟩,by simp [blindedM]⟩⟩
 obtain rfl:i = 0:=by simpa [blindedM] using hi
 refine ⟨_,?_,?_,⟨⟨_,c1,rfl,.inr ⟨g1,0,rfl,h1.lt,fun i hi=>?_⟩⟩,by simp [blindedM]⟩,ht⟩
 ·rw [cell_of_block h2]; simp [blindedM]
 ·rw [cell_of_block h2]; simp [blindedM]
 ·obtain rfl:i = 0:=by simpa [blindedM] using hi
  refine ⟨?_,?_,?_,hb⟩
  ·rw [cell_of_block h1]; simp [blindedM]
  ·rw [cell_of_block h1]; simp [blindedM]
  ·simp [blindedM,I64]
def ClmF (W w:World) (x:Clm) (v:Value):Prop:=∃ ad c,v = clmV x (.slice ad x.eqs.length c) ∧ Fresh W w (fun w=>ClmR w x (.slice ad x.eqs.length c))
theorem blinded_ok (s:Stp) (t:Int) {sv:Value} (hs:SetR w s sv) (ht:I64 t) (k:∀ w' v,Bw w w' → ClmF w w' (blindedM s t) v → K v w'):callM Tryz.prog 120 #[stpV s sv,.int .i64 t] K w:=by
 apply sh_120_ok
 unfold sh_120
 have hs':=hs
 obtain ⟨ad,c,rfl⟩:=hs.ints.isSlice
 refine box_kn (cs:=stpC s (.slice ad s.bases.length c)) rfl (.start w) fun b1 W hk hb1 hbb=>?_
 refine arr_alloc al_clm (fun g2 w2 h2 hg2 hh=>?_)
 have hk:=hk.next h2
 have hglt:=hh.lt
 have hW:=hb1.size
 have h2s:=h2.size
 refine Xb3 hk.cells ?_
 refine lit_trm _ _ (fun g3 w3 h3 hg3 hh3=>?_)
 refine Xb1_0 ?_
 refine lit_eqn _ _ _ _ (fun g4 w4 h4 hg4 hh4=>?_)
 refine Xb1_0 ?_
 have hh3:=hh3.next h4
 have hh:=(hh.next h3).next h4
 refine arr_store sz_clm (xs:=[.int .i64 1,.slice (some ⟨g4,0,none⟩) 1 1]) rfl rfl (clm_one 1 _ 1 1) hh rfl (fun w5 hg5 hh5=>?_)
 have hh3:=hh3.other hg5 (by omega)
 have hh4:=hh4.other hg5 (by have:=h3.size; omega)
 have hb:=(hk.next h3).next h4 |>.below
 have hgg:w.heap.size ≤ g2:=by omega
 refine arr_ret hh5 un_clm (by kernel_rfl) (by kernel_rfl) (k _ _ (grown_below hb hg5 hgg) ⟨some ⟨g4,0,none⟩,1,rfl,?_⟩)
 have h3s:=h3.size
 refine ((hh3.fresh (W:=w) (by omega)).both (hh4.fresh (W:=w) (by omega))).imp ?_
 rintro w' ⟨e1,e2⟩
 exact blind_clm ht hs'.blind e1 e2
end
section
variable {K:VK} {w w' w0 W:World} {L:List (Addr × Value)}
def RowF {α:Type} (n:Nat) (V:World → List Value → α → Prop) (W w:World) (l:List α) (v:Value):Prop:=(∃ ad c,v = .slice ad l.length c) ∧ Fresh W w (fun w=>SRow n (AtOf n V) w v l)
def ClsF (W w:World) (x:Cls) (v:Value):Prop:=∃ ad c,v = clsV x (.slice ad x.claims.length c) ∧ Fresh W w (fun w=>ClsR w x (.slice ad x.claims.length c))
def LitF (T:TypeId) (W w:World) (x:Cls) (v:Value):Prop:=∃ g ad c,v = .slice (some ⟨g,0,none⟩) 1 1 ∧ W.heap.size ≤ g ∧ Holds w g T (clsC x (.slice ad x.claims.length c)) ∧ Fresh W w (fun w=>ClsR w x (.slice ad x.claims.length c))
theorem _root_.Go.Sh.GRow.base {α:Type} {n:Nat} {e:TypeId} {V:World → List Value → α → Prop} {B C:Nat} {D:Nat → Prop} {v:Value} {l:List α} (h:GRow n e V B D w v l) (hc:C ≤ B):GRow n e V C D w v l:=by
 obtain ⟨cs,h1,h2⟩:=h.ex
 exact ⟨cs,owns_base h1 hc,h2⟩
theorem ClmF.next {x:Clm} {v:Value} (h:ClmF W w x v) (hb:Bw w w'):ClmF W w' x v:=by
 obtain ⟨ad,c,rfl,h⟩:=h; exact ⟨ad,c,rfl,h.next hb⟩
theorem ClmF.up {x:Clm} {v:Value} (h:ClmF W w x v) (hb:w0.heap.size ≤ W.heap.size):ClmF w0 w x v:=by
 obtain ⟨ad,c,rfl,h⟩:=h; exact ⟨ad,c,rfl,h.up hb⟩
theorem RowF.next {α:Type} {n:Nat} {V:World → List Value → α → Prop} {l:List α} {v:Value} (h:RowF n V W w l v) (hb:Bw w w'):RowF n V W w' l v:=⟨h.1,h.2.next hb⟩
theorem ClsF.next {x:Cls} {v:Value} (h:ClsF W w x v) (hb:Bw w w'):ClsF W w' x v:=by
 obtain ⟨ad,c,rfl,h⟩:=h; exact ⟨ad,c,rfl,h.next hb⟩
theorem LitF.next {T:TypeId} {x:Cls} {v:Value} (h:LitF T W w x v) (hb:Bw w w'):LitF T W w' x v:=by
 obtain ⟨g,ad,c,rfl,hg,hh,h⟩:=h; exact ⟨g,ad,c,rfl,hg,hh.next hb,h.next hb⟩
theorem one_clm {w:World} {x:Clm} {v:Value} (h:ClmF W w x v) {T:TypeId}
  (k:∀ v w',Bw w w' → RowF 2 VClm W w' [x] v → K v w') (hW:W.heap.size ≤ w.heap.size):oM Tryz.prog (.buildSlice 63 1 #[(0,.tmp 0)]) T [v] K w:=by
 obtain ⟨ad,c,rfl,h⟩:=h
 refine lit_clm _ _ _ _ (fun g w1 h1 hg hh=>k _ _ h1 ⟨⟨_,_,rfl⟩,?_⟩)
 refine ((hh.fresh (W:=W) (by omega)).both (h.next h1)).imp ?_
 rintro w2 ⟨e1,e2⟩
 exact srow_lit1 e1 rfl ⟨_,rfl,e2⟩
theorem two_clm {w:World} {x y:Clm} {v u:Value} (h:ClmF W w x v) (h2:ClmF W w y u) {T:TypeId}
  (k:∀ v w',Bw w w' → RowF 2 VClm W w' [x,y] v → K v w') (hW:W.heap.size ≤ w.heap.size):oM Tryz.prog (.buildSlice 63 2 #[(0,.tmp 0),(1,.tmp 1)]) T [v,u] K w:=by
 obtain ⟨ad,c,rfl,h⟩:=h
 obtain ⟨ad2,c2,rfl,h2⟩:=h2
 refine lit_clm2 _ _ _ _ _ _ _ _ (fun g w1 h1 hg hh=>k _ _ h1 ⟨⟨_,_,rfl⟩,?_⟩)
 refine (((hh.fresh (W:=W) (by omega)).both (h.next h1)).both (h2.next h1)).imp ?_
 rintro w2 ⟨⟨e1,e2⟩,e3⟩
 exact srow_lit2 e1 rfl rfl ⟨_,rfl,e2⟩ ⟨_,rfl,e3⟩
theorem build_cls (T:TypeId) (ad:Option Addr) (n c:Nat):oM Tryz.prog (Go.Op.build 65 #[(0,(.tmp 0)),(1,(.tmp 1))]) T [.int .i64 1,.slice ad n c] = pureM (.agg #[.int .i64 1,.slice ad n c]):=by
 funext K w
 kernel_rfl
theorem cls_of {x:Cls} {v:Value} (hn:x.need = 1) (h:RowF 2 VClm W w x.claims v):ClsF W w x (.agg #[.int .i64 1,v]):=by
 obtain ⟨⟨ad,c,rfl⟩,h⟩:=h
 refine ⟨ad,c,by rw [← hn],(h.both (Fresh.pure (p:=I64 x.need) (by rw [hn]; unfold I64; omega))).imp ?_⟩
 rintro w ⟨a,b⟩
 exact ⟨b,a⟩
theorem lit_of {x:Cls} {v:Value} {T:TypeId} (h:ClsF W w x v) (hW:W.heap.size ≤ w.heap.size)
  (k:∀ v w',Bw w w' → LitF 65 W w' x v → K v w'):oM Tryz.prog (.buildSlice 27 1 #[(0,.tmp 0)]) T [v] K w:=by
 obtain ⟨ad,c,rfl,h⟩:=h
 exact lit_cls _ _ _ _ (fun g w1 h1 hg hh=>k _ _ h1 ⟨g,ad,c,rfl,by omega,hh,h.next h1⟩)
theorem cls_one (a:Int) (ad:Option Addr) (n c:Nat):∀ u ∈ ([.int .i64 a,.slice ad n c]:List Value),u.oneCell' = true:=clm_one a ad n c
abbrev ClsG (B:Nat) (D:Nat → Prop) (w:World) (v:Value) (l:List Cls):Prop:=GRow 2 65 VCls B D w v l
def Off (D:Nat → Prop) (w:World) (v:Value):Prop:=∀ i,D i → i < w.heap.size ∧ v.ownBlock ≠ some i
theorem Off.next {D:Nat → Prop} {v:Value} (h:Off D w v) (hb:w.heap.size ≤ w'.heap.size):Off D w' v:=fun i hi=>⟨lL (h i hi).1 hb,(h i hi).2⟩
theorem cls_append {B:Nat} {D:Nat → Prop} {v u:Value} {l:List Cls} {x:Cls} {T:TypeId} (h:ClsG B D w v l) (hB:B ≤ w.heap.size) (hx:LitF 65 W w x u) (hD:Off D w v) (hvW:∀ i,v.ownBlock = some i → i < W.heap.size) (hl:l.length < 1099511627776)
  (k:∀ v' w' D',ClsG B D' w' v' (l ++ [x]) → w.grownBy w' v.ownBlock → (∀ i,v'.ownBlock = some i → v.ownBlock = some i ∨ w.heap.size ≤ i) → Off D' w' v' → K v' w') :
  oM Tryz.prog (.call { callee:=.builtin .append,args:=#[.tmp 0,.tmp 1],argTypes:=#[27,27] }) T [v,u] K w:=by
 obtain ⟨g,ad,c,rfl,hg,hh,hf⟩:=hx
 refine grow_append (D:=fun i=>D i ∨ (W.heap.size ≤ i ∧ i < w.heap.size)) 27 T ((Tryz.prog.info? 65).getD default) (((Tryz.prog.info? 65).getD default).zero.getD undef) 32 (by kernel_rfl) (by kernel_rfl) (by kernel_rfl) (by kernel_rfl) (by kernel_rfl) (by kernel_rfl) (by decide) (by decide)
  (h.mono fun i hi=>.inl hi) hB (xs:=clsC x (.slice ad x.claims.length c)) rfl ?_ (cls_one _ _ _ _) ((hf.imp fun w h=>⟨_,rfl,h⟩).mono fun i hi=>.inr hi) ?_ hl ?_
 ·intro j u hj
  rw [cell_of_block hh]
  simpa using hj
 ·rintro i (hi | hi)
  ·exact hD i hi
  ·exact ⟨hi.2,fun e=>by have:=hvW i e; omega⟩
 ·intro v' w' h1 h2 h3 h4
  exact k v' w' _ h1 h2 h3 h4
def BtJ (s:Stp) (l:List Int) (w0:World) (vs:List Value) (w':World):Prop:=Bw w0 w' ∧ ∃ (u1 rv:Value) (i:Nat) (D:Nat → Prop),vs = [u1,rv,.int .i64 (i:Int)] ∧ i ≤ l.length ∧ ClsG w0.heap.size D w' rv ((l.map (bitC s)).take i) ∧ Off D w' rv
theorem Bits_ok (s:Stp) (l:List Int) {sv lv:Value} (hs:SetR w s sv) (hl:Ints w lv l) (k:∀ w' v D,Bw w w' → ClsG w.heap.size D w' v (bitsM s l) → Off D w' v → K v w'):callM Tryz.prog 68 #[stpV s sv,lv] K w:=by
 apply sh_68_ok
 unfold sh_68
 have hs':=hs
 obtain ⟨ad,c,rfl⟩:=hs.ints.isSlice
 have hl':=hl
 obtain ⟨lad,lc,rfl⟩:=hl.isSlice
 refine box_kn (cs:=stpC s (.slice ad s.bases.length c)) rfl (.start w) fun b1 W hk hb1 hbb=>?_
 clear hb1 hbb
 refine Xa hk.cells ?_
 refine Weigh_ok s l (hs'.next hk.below) (hl'.next hk.below) (fun w2 h2=>?_)
 have hk:=hk.next h2
 unfold bitsM at k
 cases hw:(weighM s l).2 with
 | false=>
  rw [hw] at k
  refine Xa0 ?_
  exact k _ _ (fun _=>False) hk.below .nil (fun i h=>h.elim)
 | true=>
 rw [hw,if_pos rfl] at k
 have h60:l.length ≤ 60:=by
  unfold weighM at hw
  split at hw
  ·rename_i h
   simp only [bA,dE] at h
   exact h.1.2
  ·cases hw
 refine Xa hk.cells ?_
 refine ⟨BtJ s l w2,(fun vs _=>match vs with | [_,_,.int _ i]=>l.length - i.toNat | _=>0),⟨bR,_,_,0,fun _=>False,rfl,by omega,.nil,fun i h=>h.elim⟩,?_⟩
 rintro _ _ w3 ⟨hb3,u1,rv,i,D,rfl,hi,hg,hD⟩
 have hk3:=hk.next hb3
 by_cases hin:i = l.length
 ·rw [List.take_of_length_le (by rw [List.length_map]; omega)] at hg
  refine Xa0 ?_
  exact k _ _ D hk3.below (hg.base hk.below.size) hD
 obtain ⟨b8,o8,rfl,hb8',ca,ra,_⟩:=hl'.at (i:=i) (by omega)
 refine Xa (ca _ hk3.below) ?_
 have hk4:=hk3.drew
 have hg4:=hg.next (w':={ w3 with drawn:=w3.drawn + 1 }) .drawn (fun i hi=>(hD i hi).1)
 have hD4:Off D { w3 with drawn:=w3.drawn + 1 } rv:=hD
 have hrl:∀ i,rv.ownBlock = some i → i < ({ w3 with drawn:=w3.drawn + 1 }:World).heap.size:=fun i hi=>(hg4.own hi).1
 have hb4:Below w2.heap.size w2 { w3 with drawn:=w3.drawn + 1 }:=hb3.on .drawn
 refine ⟨Nx { w3 with drawn:=w3.drawn + 1 },bR,rfl,?_⟩
 generalize ({ w3 with drawn:=w3.drawn + 1 }:World) = W4 at hk4 hg4 hrl hb4 hD4 ⊢
 refine Xc (fun W0 hW0=>(hk4.next hW0).cells) ?_
 refine ⟨Nx,?_⟩
 refine monoR (fun v w'=>ClmF W4 w' (blindedM s l[i]) v) (fun v w w1 hS h=>h.next hS) ?_ ?_
 ·intro w1 h1
  exact blinded_ok s l[i] (hs'.next (hk4.next h1).below) ra (fun w' v hb hf=>⟨h1.on hb,hb,hf.up h1.size⟩)
 apply monoE
 ·intro w1 h1
  exact Over_ok s.g l[i] s.g.G (fun w2 h2=>⟨h1.on h2,h2,rfl⟩)
 refine monoR (fun v w'=>ClmF W4 w' (blindedM s (overG s.g l[i] s.g.G)) v) (fun v w w1 hS h=>h.next hS) ?_ ?_
 ·rintro w1 h1 _ rfl
  exact blinded_ok s _ (hs'.next (hk4.next h1).below) (overG_I64 _ _ _) (fun w' v hb hf=>⟨h1.on hb,hb,hf.up h1.size⟩)
 refine monoR (fun v w'=>RowF 2 VClm W4 w' (bitC s l[i]).claims v) (fun v w w1 hS h=>h.next hS) ?_ ?_
 ·intro w1 h1 v1 hv1 v2 hv2
  exact two_clm hv1 hv2 (fun v w' hb hr=>⟨h1.on hb,hb,hr⟩) h1.size
 refine monoR (fun v w'=>ClsF W4 w' (bitC s l[i]) v) (fun v w w1 hS h=>h.next hS) ?_ ?_
 ·intro w1 h1 v1 hv1
  obtain ⟨ad,c,rfl⟩:=hv1.1
  rw [build_cls]
  exact ⟨h1,bR,cls_of rfl hv1⟩
 refine monoR (fun v w'=>LitF 65 W4 w' (bitC s l[i]) v) (fun v w w1 hS h=>h.next hS) ?_ ?_
 ·intro w1 h1 v1 hv1
  exact lit_of hv1 h1.size (fun v w' hb hr=>⟨h1.on hb,hb,hr⟩)
 rintro w9 h9 v1 _ _ rfl v2 _ v3 _ v4 _ v5 hv5
 refine cls_append (hg4.next h9 (fun i hi=>(hD4 i hi).1)) (Nat.le_trans hb4.size h9.size) hv5 (hD4.next h9.size) hrl (by rw [List.length_take,List.length_map]; omega) (fun v6 w6 D6 hg6 hb6 hv6 hD6=>?_)
 have e:(l.map (bitC s)).take i ++ [bitC s l[i]] = (l.map (bitC s)).take (i + 1):=by
  rw [List.take_add_one,List.getElem?_map,gE (show i < l.length by omega)]
  rfl
 rw [e] at hg6
 refine Xa0 ?_
 exact ⟨⟨(hb4.on h9).grown hb6 (hb4.on h9).size (fun j hj=>(hg4.own hj).2),_,_,i + 1,D6,rfl,by omega,hg6,hD6⟩,by show l.length - (((i + 1:Nat):Int)).toNat < l.length - ((i:Nat):Int).toNat; omega⟩
theorem weigh_len {s:Stp} {l:List Int} (hw:(weighM s l).2 = true):l.length ≤ 60:=by
 unfold weighM at hw
 split at hw
 ·rename_i h
  simp only [bA,dE] at h
  exact h.1.2
 ·cases hw
theorem bitsM_len {s:Stp} {l:List Int}:(bitsM s l).length ≤ 60:=by
 unfold bitsM
 split
 ·rename_i h
  rw [List.length_map]; exact weigh_len h
 ·simp
theorem Range_ok (s:Stp) (x:Int) (l:List Int) {sv lv:Value} (hs:SetR w s sv) (hx:I64 x) (hl:Ints w lv l) (k:∀ w' v,Bw w w' → GoalR w' v (PrSpec.rangeM s x l) → K v w'):callM Tryz.prog 40 #[stpV s sv,.int .i64 x,lv] K w:=by
 apply sh_40_ok
 unfold sh_40
 have hs':=hs
 obtain ⟨ad,c,rfl⟩:=hs.ints.isSlice
 have hl':=hl
 obtain ⟨lad,lc,rfl⟩:=hl.isSlice
 refine box_kn (cs:=stpC s (.slice ad s.bases.length c)) rfl (.start w) fun b1 W hk hb1 hbb=>?_
 clear hb1 hbb
 refine Xa hk.cells ?_
 refine Weigh_ok s l (hs'.next hk.below) (hl'.next hk.below) (fun w2 h2=>?_)
 have hk:=hk.next h2
 unfold PrSpec.rangeM at k
 cases hw:(weighM s l).2 with
 | false=>
  rw [hw,bF] at k
  refine Xa0 ?_
  exact k _ _ hk.below SRow.nil
 | true=>
 rw [hw,bT] at k
 refine Xa hk.cells ?_
 refine Element_ok s.g _ hs'.grp (hs'.db.next hk.below) (fun w4 h4=>?_)
 have hk:=hk.next h4
 cases hel:elemG s.g x with
 | false=>
  rw [hel] at k
  refine Xa0 ?_
  exact k _ _ hk.below SRow.nil
 | true=>
 rw [hel,if_pos rfl] at k
 generalize (weighM s l).1 = wt at *
 refine Xa0 ?_
 have hk4:=hk.drew
 refine ⟨Nx { w4 with drawn:=w4.drawn + 1 },bR,rfl,?_⟩
 generalize ({ w4 with drawn:=w4.drawn + 1 }:World) = W4 at hk4 ⊢
 refine Xc (fun W0 hW0=>(hk4.next hW0).cells) ?_
 refine ⟨Nx,?_⟩
 refine monoR (fun v w'=>∃ D,ClsG W4.heap.size D w' v (bitsM s l) ∧ Off D w' v) (fun v w w1 hS h=>h.imp fun D h=>⟨h.1.next hS (fun i hi=>(h.2 i hi).1),h.2.next hS.size⟩) ?_ ?_
 ·intro w1 h1
  refine Bits_ok s l (hs'.next (hk4.next h1).below) (hl'.next (hk4.next h1).below) (fun w' v D hb hg hD=>⟨h1.on hb,hb,D,hg.base h1.size,hD⟩)
 apply monoE
 ·intro w1 h1
  exact Over_ok s.g x wt (fun w2 h2=>⟨h1.on h2,h2,rfl⟩)
 rintro w9 h9 v1 ⟨D,hg,hD⟩ _ rfl
 have hk9:=hk4.next h9
 refine blinded_ok s (overG s.g x wt) (hs'.next hk9.below) (overG_I64 _ _ _) (fun w10 v hb10 hf=>?_)
 refine one_clm hf (fun v11 w11 h11 hr11=>?_) hb10.size
 obtain ⟨ad11,c11,rfl⟩:=hr11.1
 rw [show ([blindedM s (overG s.g x wt)]:List Clm).length = 1 from rfl] at *
 rw [build_cls]
 have hc:ClsF w9 w11 (lastC s x wt) (.agg #[.int .i64 1,.slice ad11 1 c11]):=cls_of rfl hr11
 refine lit_of hc (Nat.le_trans hb10.size h11.size) (fun v12 w12 h12 hl12=>?_)
 have hb12:=(hb10.on h11).on h12
 refine cls_append (hg.next hb12 (fun i hi=>(hD i hi).1)) (Nat.le_trans h9.size hb12.size) hl12 (hD.next hb12.size) (fun i hi=>(hg.own hi).1) (by have:=bitsM_len (s:=s) (l:=l); omega) (fun v13 w13 D13 hg13 hb13 hv13 hD13=>?_)
 have hk12:=(hk9.next hb12).below
 refine k _ _ (hk12.grown hb13 hk12.size (fun j hj=>Nat.le_trans hk4.below.size (hg.own hj).2)) (hg13.srow (by decide) ?_)
 rw [List.length_append,List.length_singleton]
 have:=bitsM_len (s:=s) (l:=l)
 omega
theorem splitL_fst (s:Stp) (v:Int):∀ (l:List Int) (k i:Nat),(splitL s v k l).1[i]? = l[i]?.map fun r=>commitM s (bitOf v (k + i)) r
 | [],k,i=>by simp [splitL]
 | r :: l,k,0=>by simp [splitL]
 | r :: l,k,i + 1=>by
  have:=splitL_fst s v l (k + 1) i
  simp only [splitL,List.getElem?_cons_succ,this]
  rw [show k + 1 + i = k + (i + 1) by omega]
theorem splitL_snd (s:Stp) (v:Int):∀ (l:List Int) (k i:Nat),(splitL s v k l).2[i]? = l[i]?.map fun r=>knwOf (bitOf v (k + i)) r
 | [],k,i=>by simp [splitL]
 | r :: l,k,0=>by simp [splitL]
 | r :: l,k,i + 1=>by
  have:=splitL_snd s v l (k + 1) i
  simp only [splitL,List.getElem?_cons_succ,this]
  rw [show k + 1 + i = k + (i + 1) by omega]
theorem splitL_len (s:Stp) (v:Int):∀ (l:List Int) (k:Nat),(splitL s v k l).1.length = l.length ∧ (splitL s v k l).2.length = l.length
 | [],k=>by simp [splitL]
 | r :: l,k=>by have:=splitL_len s v l (k + 1); simp [splitL,this]
theorem take_snoc2 {α:Type} {al:List α} {i:Nat} {x:α} (h:al[i]? = some x):al.take i ++ [x] = al.take (i + 1):=by
 rw [List.take_add_one,h]; rfl
theorem prodL_I64 (g:Grp):∀ (l:List (Int × Int)) (o:Int),I64 o → I64 (prodL g o l)
 | [],o,h=>h
 | (b,e) :: l,o,h=>prodL_I64 g l _ (mulM_I64 _ _ _)
theorem prodG_I64 (g:Grp) (bs es:List Int):I64 (prodG g bs es).1:=by
 unfold prodG
 split
 ·rename_i h
  refine prodL_I64 g _ _ (I64_of ⟨Int.emod_nonneg _ ?_,Int.emod_lt_of_pos _ ?_⟩ h.1) <;> have:=h.1 <;> unfold okN at this <;> omega
 ·exact I64_0
theorem commitM_I64 (s:Stp) (v r:Int):I64 (commitM s v r):=by
 unfold commitM
 split
 ·exact prodG_I64 _ _ _
 ·exact I64_0
theorem bitOf_01 (v:Int) (k:Nat):bitOf v k = 0 ∨ bitOf v k = 1:=by unfold bitOf; omega
theorem make_knw (T:TypeId) (k:∀ g W,Bw w W → w.heap.size ≤ g → Holds W g 113 [.bool false,.slice none 0 0,.bool false,.slice none 0 0] → K (.slice (some ⟨g,0,none⟩) 2 2) W):oM Tryz.prog (.makeSlice 114 (.tmp 0) (.tmp 1)) T [.int .i64 2,.int .i64 2] K w:=by
 rw [oM_makeSlice]; exact lit_run (by kernel_rfl) k
theorem sz_knw (w:World):(sizeOf 113).run Tryz.prog w = .ok 2 w:=by kernel_rfl
theorem idx_knw (T:TypeId) (b o n c:Nat) (x:Int):oM Tryz.prog (.indexAddr 114 (.tmp 0) (.tmp 1)) T [.slice (some ⟨b,o,none⟩) n c,.int .i64 x] = onM (0 ≤ x ∧ x < n) (.pointer (some ⟨b,o + x.toNat * 2,none⟩)):=
 idx_row (K:=fun _ _=>True) _ T (by kernel_rfl) (fun w=>by kernel_rfl) b o n c x
theorem knw_one (a:Bool) (ad:Option Addr) (n c:Nat):∀ u ∈ ([.bool a,.slice ad n c]:List Value),u.oneCell' = true:=by
 intro u hu
 simp only [List.mem_cons,List.not_mem_nil,or_false] at hu
 rcases hu with rfl | rfl <;> rfl
theorem row_one (ad:Option Addr) (n c:Nat):∀ u ∈ ([.slice ad n c]:List Value),u.oneCell' = true:=by
 intro u hu
 simp only [List.mem_cons,List.not_mem_nil,or_false] at hu
 rcases hu with rfl; rfl
abbrev KnwG (B:Nat) (D:Nat → Prop) (w:World) (v:Value) (l:List (List Knw)):Prop:=GRow 1 114 (VOne KnwsR) B D w v l
theorem know_store {g:Nat} {b r:Int} {ad:Option Addr} {n c:Nat} {T T2:TypeId} (hb:b = 0 ∨ b = 1) (hh:Holds w g 113 [.bool false,.slice none 0 0,.bool false,.slice none 0 0]) (hi:Ints w (.slice ad n c) [r]) (hg:W.heap.size ≤ g)
  (hoff:∀ i,Value.inBlock (.slice ad n c) = some i → W.heap.size ≤ i ∧ i ≠ g)
  (k:∀ w',w.grownBy w' (some g) → Fresh W w' (fun w=>KnwsR w (.slice (some ⟨g,0,none⟩) 2 2) (knwOf b r)) → K undef w') :
  oM Tryz.prog (.indexAddr 114 (.tmp 0) (.tmp 1)) T [.slice (some ⟨g,0,none⟩) 2 2,.int .i64 b] (fun v w=>oM Tryz.prog (.store 113 (.tmp 0) (.tmp 1)) T2 [v,.agg #[.bool true,.slice ad n c]] K w) w:=by
 rw [idx_knw]
 refine ⟨by omega,?_⟩
 have hint:∀ w',w.grownBy w' (some g) → Fresh W w' (fun w=>Ints w (.slice ad n c) [r]):=fun w' hg'=>
  Ints.fresh ⟨hi.row.keep hg'.size (fun i e hlt=>hg'.block i hlt (fun e2=>(hoff i e).2 (by first | exact oI e2 | exact (oI e2).symm))),hi.rng,hi.len⟩ (fun i e=>(hoff i e).1)
 rcases hb with rfl | rfl
 ·refine arr_storeRow (o:=0) (xs:=[.bool true,.slice ad n c]) sz_knw rfl rfl (knw_one true ad n c) hh (by decide) (fun w' h1 h2=>k w' h1 ?_)
  refine ((h2.fresh (W:=W) hg).both (hint w' h1)).imp ?_
  rintro w2 ⟨e1,e2⟩
  exact srow_lit2 (xs:=[.bool true,.slice ad n c]) (ys:=[.bool false,.slice none 0 0]) e1 rfl rfl ⟨_,rfl,e2⟩ ⟨_,rfl,Ints.nil _⟩
 ·refine arr_storeRow (o:=2) (xs:=[.bool true,.slice ad n c]) sz_knw rfl rfl (knw_one true ad n c) hh (by decide) (fun w' h1 h2=>k w' h1 ?_)
  refine ((h2.fresh (W:=W) hg).both (hint w' h1)).imp ?_
  rintro w2 ⟨e1,e2⟩
  exact srow_lit2 (xs:=[.bool false,.slice none 0 0]) (ys:=[.bool true,.slice ad n c]) e1 rfl rfl ⟨_,rfl,Ints.nil _⟩ ⟨_,rfl,e2⟩
theorem build_knw (T:TypeId) (ad:Option Addr) (n c:Nat):oM Tryz.prog (Go.Op.build 113 #[(0,(.tmp 0)),(1,(.tmp 1))]) T [.bool true,.slice ad n c] = pureM (.agg #[.bool true,.slice ad n c]):=by
 funext K w
 kernel_rfl
theorem knws_append {B g c:Nat} {D E:Nat → Prop} {v:Value} {l:List (List Knw)} {x:List Knw} {T:TypeId} (h:KnwG B D w v l) (hB:B ≤ w.heap.size) {b:Nat} {ad:Option Addr} {n:Nat} (hh:Holds w b 114 [.slice ad n c])
  (hx:FP E w (fun w=>KnwsR w (.slice ad n c) x)) (hD:Off D w v) (hE:Off E w v) (hl:l.length < 1099511627776)
  (k:∀ v' w',KnwG B (fun i=>D i ∨ E i) w' v' (l ++ [x]) → w.grownBy w' v.ownBlock → (∀ i,v'.ownBlock = some i → v.ownBlock = some i ∨ w.heap.size ≤ i) → Off (fun i=>D i ∨ E i) w' v' → K v' w') :
  oM Tryz.prog (.call { callee:=.builtin .append,args:=#[.tmp 0,.tmp 1],argTypes:=#[28,28] }) T [v,.slice (some ⟨b,0,none⟩) 1 g] K w:=by
 refine grow_append (D:=fun i=>D i ∨ E i) 28 T ((Tryz.prog.info? 114).getD default) (.slice none 0 0) 24 (by kernel_rfl) (by kernel_rfl) (by kernel_rfl) (by kernel_rfl) (by kernel_rfl) (by kernel_rfl) (by decide) (by decide)
  (h.mono fun i hi=>.inl hi) hB (xs:=[.slice ad n c]) rfl ?_ (row_one _ _ _) ((hx.imp fun w h=>⟨_,rfl,h⟩).mono fun i hi=>.inr hi) ?_ hl k
 ·intro j u hj
  rw [cell_of_block hh]
  simpa using hj
 ·rintro i (hi | hi)
  ·exact hD i hi
  ·exact hE i hi
def SpJ (s:Stp) (v:Int) (l:List Int) (w0:World) (vs:List Value) (w':World):Prop:=Bw w0 w' ∧ ∃ (u1 u2 u3 u4 bv kv:Value) (i:Nat) (D:Nat → Prop),vs = [u1,u2,u3,u4,bv,kv,.int .i64 (i:Int)] ∧ i ≤ l.length ∧
 OwnI w' w0.heap.size bv ((splitL s v 0 l).1.take i) ∧ KnwG w0.heap.size D w' kv ((splitL s v 0 l).2.take i) ∧ Off D w' bv ∧ Off D w' kv ∧ apart bv kv
theorem Split_ok (s:Stp) (v:Int) (l:List Int) {sv lv:Value} (hs:SetR w s sv) (hv:I64 v) (hl:Ints w lv l) (k:∀ w' bv kv D,Bw w w' → Ints w' bv (splitM s v l).1.1 → KnwG w.heap.size D w' kv (splitM s v l).1.2 → Off D w' kv → (∀ i,Value.inBlock bv = some i → kv.ownBlock ≠ some i) → K (.tuple #[bv,kv,.bool (splitM s v l).2]) w'):callM Tryz.prog 76 #[stpV s sv,.int .i64 v,lv] K w:=by
 apply sh_76_ok
 unfold sh_76
 have hs':=hs
 obtain ⟨ad,c,rfl⟩:=hs.ints.isSlice
 have hl':=hl
 obtain ⟨lad,lc,rfl⟩:=hl.isSlice
 refine box_kn (cs:=stpC s (.slice ad s.bases.length c)) rfl (.start w) fun b1 W hk hb1 hbb=>?_
 clear hb1 hbb
 refine Xa hk.cells ?_
 refine ValidSetup_ok s (hs'.next hk.below) (fun w2 h2=>?_)
 have hk:=hk.next h2
 have hno:splitFine s v l = false → ∀ w',Bw w w' → K (.tuple #[.slice none 0 0,.slice none 0 0,.bool false]) w':=fun e w' hb=>by
  have:=k w' (.slice none 0 0) (.slice none 0 0) (fun _=>False) hb
  unfold splitM at this
  rw [e] at this
  exact this (Ints.nil _) .nil (fun i h=>h.elim) (fun i h=>by cases h)
 have eF:splitFine s v l = (validS s && decide (1 ≤ l.length) && decide (l.length ≤ 60) && exponentsM s l l.length && decide (0 ≤ v) && decide (v < 2 ^ l.length)):=rfl
 cases hvs:validS s with
 | false=>
  rw [hvs] at eF
  refine Xa0 ?_
  exact hno (by rw [eF]; simp) _ hk.below
 | true=>
 by_cases h1:(l.length:Int) < 1
 ·refine Xa @h1 ?_
  exact hno (by rw [eF,decide_eq_false (by omega:¬ 1 ≤ l.length)]; simp) _ hk.below
 by_cases h6:(60:Int) < l.length
 ·refine Xa (An2 @h1 @h6) ?_
  exact hno (by rw [eF,decide_eq_false (by omega:¬ l.length ≤ 60)]; simp) _ hk.below
 refine Xa (An3 hk.cells @h1 @h6) ?_
 refine exponents_ok s l.length (hs'.next hk.below) (hl'.next hk.below) (fun w3 h3=>?_)
 have hk:=hk.next h3
 cases hex:exponentsM s l l.length with
 | false=>
  rw [hex] at eF
  refine Xa0 ?_
  exact hno (by rw [eF]; simp) _ hk.below
 | true=>
 by_cases h0:v < 0
 ·refine Xa @h0 ?_
  exact hno (by rw [eF,decide_eq_false (by omega:¬ 0 ≤ v)]; simp) _ hk.below
 refine Xa @h0 ?_
 refine shlI (by omega) ?_
 by_cases hg:2 ^ l.length ≤ v
 ·refine Xa @hg ?_
  exact hno (by rw [eF,decide_eq_false (by omega:¬ v < 2 ^ l.length)]; simp) _ hk.below
 refine Xa @hg ?_
 have eS:splitM s v l = (splitL s v 0 l,true):=by
  unfold splitM
  rw [if_pos]
  rw [eF,hvs,hex,decide_eq_true (by omega:1 ≤ l.length),decide_eq_true (by omega:l.length ≤ 60),decide_eq_true (by omega:0 ≤ v),decide_eq_true (by omega:v < 2 ^ l.length)]
  rfl
 rw [eS] at k
 clear hno eF
 have hlen:=splitL_len s v l 0
 refine ⟨SpJ s v l w3,(fun vs _=>match vs with | [_,_,_,_,_,_,.int _ i]=>l.length - i.toNat | _=>0),⟨bR,_,_,_,_,_,_,0,fun _=>False,rfl,by omega,own_none,.nil,fun i h=>h.elim,fun i h=>h.elim,fun i h=>by cases h⟩,?_⟩
 rintro _ _ w4 ⟨hb4,u1,u2,u3,u4,bv,kv,i,D,rfl,hi,ho,hg4,hDb,hDk,hap⟩
 have hk4:=hk.next hb4
 by_cases hin:i = l.length
 ·rw [List.take_of_length_le (by omega)] at ho hg4
  refine Xa0 ?_
  refine k w4 bv kv D hk4.below (ho.ints (fun n hn=>?_) (by omega)) (hg4.base hk.below.size) hDk (fun j e1 e2=>?_)
  ·obtain ⟨j,hj,rfl⟩:=List.getElem_of_mem hn
   have:=splitL_fst s v l 0 j
   rw [gE hj,gE (by omega)] at this
   rw [oI this]
   exact commitM_I64 _ _ _
  ·rcases ho.2 with ⟨rfl,_⟩ | ⟨g',cap,cur,rfl,_⟩
   ·cases e1
   ·cases e1
    exact hap _ rfl e2
 obtain ⟨b8,o8,rfl,hb8',ca,ra,_⟩:=hl'.at (i:=i) (by omega)
 refine Xb4 (ca _ hk4.below) ?_
 refine shrI (by omega) ?_
 have hp:(0:Int) < 2 ^ i:=Int.pow_pos (by decide)
 have hd0:0 ≤ v / 2 ^ i:=Int.ediv_nonneg (by omega) (by omega)
 have hd1:v / 2 ^ i ≤ v:=Int.ediv_le_self _ (by omega)
 refine andI ⟨hd0,by have:=hv.2; omega⟩ ?_
 have e1:=splitL_fst s v l 0 i
 have e2:=splitL_snd s v l 0 i
 rw [gE (show i < l.length by omega),Option.map_some,Nat.zero_add] at e1 e2
 have hb01:=bitOf_01 v i
 have ebit:v / 2 ^ i % 2 = bitOf v i:=rfl
 rw [ebit]
 generalize bitOf v i = b at *
 generalize l[i] = r at *
 refine make_knw _ (fun g5 w5 h5 hg5 hh5=>?_)
 refine mk1g r ra (fun v6 w6 h6 hi6 hb6=>?_)
 obtain ⟨ad6,c6,rfl⟩:=hi6.isSlice
 rw [show ([r]:List Int).length = 1 from rfl] at *
 rw [build_knw]
 have hh6:=hh5.next h6
 have hs5:=h5.size
 have hlt5:=hh5.lt
 refine know_store (W:=w4) hb01 hh6 hi6 hg5 (fun j hj=>?_) (fun w7 h7 hf7=>?_)
 ·rw [hb6] at hj
  have:w5.heap.size = j:=oI hj
  omega
 have hb47:Bw w4 w7:=(h5.on h6).grown h7 (h5.on h6).size (fun j hj=>by have:g5 = j:=oI hj; omega)
 have hk7:=hk4.next hb47
 refine Xb1 hk7.cells ?_
 refine Commit_ok s b r (hs'.next hk7.below) (by unfold I64; omega) ra (fun w8 h8=>?_)
 have hb48:=hb47.on h8
 refine mk1g _ (commitM_I64 s b r) (fun v9 w9 h9 hi9 _=>?_)
 have hb49:=hb48.on h9
 have ho9:=ho.keep hb49
 have hoo:=fun j hj=>owns_own (i:=j) ho hj
 have hkk:=fun j hj=>hg4.own (i:=j) hj
 refine append1g ho9 (Nat.le_trans hb4.size hb49.size) hi9 (by rw [List.length_take]; omega) (fun bv' w10 ho10 hg10 hv10=>?_)
 rw [take_snoc' e1] at ho10
 have hbF:=Fr.of_by' hg10
 have hg10':=(hg4.next hb49 (fun i hi=>(hDk i hi).1)).keep hbF (fun j hj=>⟨lL (hDb j hj).1 hb49.size,(hDb j hj).2⟩) (fun j hj e=>hap j e hj)
 have hb410:=hb49.size
 have h10s:=hg10.size
 have hf10:FP (fun i=>w4.heap.size ≤ i ∧ i < w7.heap.size) w10 (fun w=>KnwsR w (.slice (some ⟨g5,0,none⟩) 2 2) (knwOf b r)):=
  (FP.next hf7 (h8.on h9) (fun j hj=>hj.2)).by hg10 (fun j hj=>⟨lL hj.2 (h8.on h9).size,fun e=>by have:=(hoo j e).1; omega⟩)
 have h79:=(h8.on h9).size
 refine lit_knws _ _ _ (fun g11 w11 h11 hg11 hh11=>?_)
 have hg11':=hg10'.next h11 (fun j hj=>by have:=(hDk j hj).1; omega)
 have h11s:=h11.size
 have h47:=hb47.size
 have hb4s:=hb4.size
 refine knws_append hg11' (by omega) hh11 (hf10.next h11 (fun j hj=>by have:=hj.2; omega)) (fun j hj=>⟨by have:=(hDk j hj).1; omega,(hDk j hj).2⟩) (fun j hj=>⟨by have:=hj.2; omega,fun e=>by have:=(hkk j e).1; have:=hj.1; omega⟩) (by rw [List.length_take]; omega) (fun kv' w12 hg12 hb12 hv12 hD12=>?_)
 rw [take_snoc2 e2] at hg12
 have h12s:=hb12.size
 refine Xa0 ?_
 have hlt10:=fun j hj=>(owns_own (i:=j) ho10 hj)
 refine ⟨⟨((hb4.on hb49).grown hg10 (hb4.on hb49).size (fun j hj=>(hoo j hj).2.1)).trans ((h11.mono (by omega)).grown hb12 (by omega) (fun j hj=>(hkk j hj).2)),_,_,_,_,_,_,i + 1,_,rfl,by omega,?_,hg12,?_,hD12,?_⟩,by show l.length - (((i + 1:Nat):Int)).toNat < l.length - ((i:Nat):Int).toNat; omega⟩
 ·refine owns_keep (ho10.keep h11) (fun j hj=>hb12.block j (by have:=(hlt10 j hj).1; omega) (fun e=>?_))
  have e':kv.ownBlock = some j:=by first | exact e | exact e.symm
  rcases hv10 j hj with h | h
  ·exact hap j h e'
  ·have:=(hkk j e').1; omega
 ·rintro j (hj | hj)
  ·refine ⟨by have:=(hDb j hj).1; omega,fun e=>?_⟩
   rcases hv10 j e with h | h
   ·exact (hDb j hj).2 h
   ·have:=(hDb j hj).1; omega
  ·refine ⟨by have:=hj.2; omega,fun e=>?_⟩
   rcases hv10 j e with h | h
   ·have:=(hoo j h).1; have:=hj.1; omega
   ·have:=hj.2; omega
 ·intro j e1 e2
  rcases hv12 j e2 with h | h
  ·rcases hv10 j e1 with h' | h'
   ·exact hap j h' h
   ·have:=(hkk j h).1; omega
  ·have:=(hlt10 j e1).1; omega
theorem InR_iff (n:Int):InR n ↔ I64 n:=by unfold InR I64; omega
theorem _root_.Go.Sh.Ints.rowOf {v:Value} {l:List Int} (h:Ints w v l):Cd.RowOf Cd.intV w v l:=by
 obtain ⟨⟨ad,c,rfl,h0,hc⟩,hr,hl⟩:=h
 refine ⟨ad,c,rfl,hc.imp id ?_⟩
 rintro ⟨b,o,rfl,hlt,hcell⟩
 exact ⟨b,o,rfl,hlt,fun i hi=>hcell i _ (by rw [flat_int]; simp [hi,Cd.intV])⟩
theorem sz_grp (w:World):(sizeOf 23).run Tryz.prog w = .ok 3 w:=by kernel_rfl
theorem al_grp (w:World):(Instr.alloc 23 true (.tuple #[])).run Tryz.prog w = .ok (.pointer (some ⟨w.heap.size,0,none⟩)) (w.alloc (.cells [.int .i64 0,.int .i64 0,.int .i64 0].toArray 23)):=by kernel_rfl
@[reducible] def grpCs (g:Grp):List Value:=[.int .i64 g.P,.int .i64 g.Q,.int .i64 g.G]
theorem grp_one (g:Grp):∀ u ∈ grpCs g,u.oneCell' = true:=by
 intro u hu
 simp only [grpCs,List.mem_cons,List.not_mem_nil,or_false] at hu
 rcases hu with rfl | rfl | rfl <;> rfl
theorem local_grpM {K:VK} {T' T2:TypeId} {g n:Nat} (t:Grp) (hk:KnM w0 L g n w)
  (k:∀ b W,KnM w0 (cellsOf L b 0 (grpCs t)) g n W → Bw w W → w.heap.size ≤ b → K (.pointer (some ⟨b,0,none⟩)) W) :
  oM Tryz.prog (.alloc 23) T' [] (fun v w=>oM Tryz.prog (.store 23 (.tmp 0) (.tmp 1)) T2 [v,grpV t] (fun _ w=>K v w) w) w:=
 local_knm al_grp rfl sz_grp rfl rfl (grp_one t) hk k
theorem local_grp {K:VK} {T' T2:TypeId} (t:Grp) (hk:Kn w0 L w)
  (k:∀ b W,Kn w0 (cellsOf L b 0 (grpCs t)) W → Bw w W → w.heap.size ≤ b → K (.pointer (some ⟨b,0,none⟩)) W) :
  oM Tryz.prog (.alloc 23) T' [] (fun v w=>oM Tryz.prog (.store 23 (.tmp 0) (.tmp 1)) T2 [v,grpV t] (fun _ w=>K v w) w) w:=
 local_kn al_grp rfl sz_grp rfl rfl (grp_one t) hk k
@[reducible] def sigC (c z:Int):List Value:=[.int .i64 c,.int .i64 z]
@[reducible] def sigV (c z:Int):Value:=.agg #[.int .i64 c,.int .i64 z]
theorem sz_sig (w:World):(sizeOf 74).run Tryz.prog w = .ok 2 w:=by kernel_rfl
theorem al_sig (w:World):(Instr.alloc 74 true (.tuple #[])).run Tryz.prog w = .ok (.pointer (some ⟨w.heap.size,0,none⟩)) (w.alloc (.cells [.int .i64 0,.int .i64 0].toArray 74)):=by kernel_rfl
theorem sig_one (c z:Int):∀ u ∈ sigC c z,u.oneCell' = true:=by
 intro u hu
 simp only [sigC,List.mem_cons,List.not_mem_nil,or_false] at hu
 rcases hu with rfl | rfl <;> rfl
theorem build_sig2 (T:TypeId) (a b:Int):oM Tryz.prog (Go.Op.build 74 #[(0,(.tmp 0)),(1,(.tmp 1))]) T [.int .i64 a,.int .i64 b] = pureM (sigV a b):=by
 funext K w
 kernel_rfl
theorem pub_len {a b:Int} (ha:I64 a) (hb:I64 b):(encNums [a,b]).length ≤ 100:=by
 have h1:=Cd.encInt_len a ((InR_iff a).2 ha)
 have h2:=Cd.encInt_len b ((InR_iff b).2 hb)
 have h3:(Lib.itoa ((0 + 1 + 1:Nat):Int)).length ≤ 20:=itoa_len 2 (by unfold InR; omega)
 simp only [encNums,encList,List.map_cons,List.map_nil,List.length_cons,List.length_nil,List.flatten_cons,List.flatten_nil,List.length_append,List.append_nil] at *
 omega
theorem challenge_ok (s:Stp) (pub a:Int) (msg:Bytes) {v:Value} (hs:SetR w s v) (hl:Cd.Laid w) (hp:I64 pub) (ha:I64 a) (hm:msg.length ≤ 1000) (k:∀ w',Bw w w' → K (.int .i64 (chalM s pub a msg)) w') :
  callM Tryz.prog 128 #[stpV s v,.int .i64 pub,.int .i64 a,.string ⟨msg.toArray⟩] K w:=by
 apply sh_128_ok
 unfold sh_128
 obtain ⟨ad,c,rfl⟩:=hs.ints.isSlice
 refine box_kn (cs:=stpC s (.slice ad s.bases.length c)) rfl (.start w) fun b W hk hb1 hb=>?_
 have hk:=hk.drew
 have hl4:=hl.below hk.below hl.size
 refine ⟨Nx { W with drawn:=W.drawn + 1 },bR,rfl,?_⟩
 generalize ({ W with drawn:=W.drawn + 1 }:World) = W at hk hl4 ⊢
 have elen:=Cd.encText_len msg (by omega)
 have plen:=pub_len hp ha
 refine Xc (fun W0 hW0=>(hk.next hW0).cells) ?_
 refine ⟨Nx,?_⟩
 apply monoE
 ·intro w1 h1
  exact Cd.pText_ok msg (by omega) (hl4.below h1 hl4.size) (fun w2 h2=>⟨h1.on h2,h2,rfl⟩)
 refine monoR (fun v w'=>Ints w' v [pub,a]) (fun v w w1 hS h=>h.next hS) ?_ ?_
 ·intro w1 h1
  exact mk2 _ _ hp ha (fun v w2 h2 hi=>⟨h1.on h2,h2,hi⟩)
 apply monoE
 ·intro w1 h1 v1 hi1
  exact Cd.pNums_ok [pub,a] v1 (hl4.below h1 hl4.size) (Ints.rowOf hi1) (fun x hx=>(InR_iff x).2 (hi1.rng x hx)) (by unfold encNums at plen; omega) (fun w2 h2=>⟨h1.on h2,h2,rfl⟩)
 refine monoR (fun v w'=>v = .string ⟨(encText msg ++ encNums [pub,a]).toArray⟩) (fun v w w1 hS h=>h) ?_ ?_
 ·rintro w1 h1 _ rfl _ rfl
  rw [kB,oM_adds]
  refine ⟨?_,h1,bR,?_⟩
  ·have e1:(ByteArray.mk (encText msg).toArray).size = (encText msg).length:=by simp [ByteArray.size]
   have e2:(ByteArray.mk (encList (List.map encInt [pub,a])).toArray).size = (encNums [pub,a]).length:=by simp [ByteArray.size,encNums]
   rw [e1,e2]
   omega
  ·show Value.string (ByteArray.mk (encText msg).toArray ++ ByteArray.mk (encList (List.map encInt [pub,a])).toArray) = _
   refine congrArg Value.string ?_
   apply ByteArray.ext
   simp [encNums]
 rintro w9 h9 _ rfl v1 _ _ rfl _ rfl
 refine Number_ok _ _ (by rw [List.length_append]; omega) (fun w4 h4=>?_)
 exact k _ (hk.next (h9.on h4)).below
theorem Sign_ok (s:Stp) (x kk:Int) (msg:Bytes) {v:Value} (hs:SetR w s v) (hl:Cd.Laid w) (hx:I64 x) (hkk:I64 kk) (hm:msg.length ≤ 1000)
  (k:∀ w',Bw w w' → K (.tuple #[sigV (signM s x kk msg).1.1 (signM s x kk msg).1.2,.bool (signM s x kk msg).2]) w') :
  callM Tryz.prog 45 #[stpV s v,.int .i64 x,.int .i64 kk,.string ⟨msg.toArray⟩] K w:=by
 apply sh_45_ok
 unfold sh_45
 have hs':=hs
 obtain ⟨ad,c,rfl⟩:=hs.ints.isSlice
 refine box_kn (cs:=stpC s (.slice ad s.bases.length c)) rfl (.start w) fun b1 W hk hb1 hbb=>?_
 refine alloc_mine (n:=2) al_sig rfl hk fun g0 W3 hk hb3 hg0=>?_
 clear hb1 hb3 hbb
 refine Xa hk.cells ?_
 refine ValidSetup_ok s (hs'.next hk.below) (fun w2 h2=>?_)
 have hk:=hk.next h2
 clear h2
 unfold signM at k
 have bad:(validS s && exponentM s x && exponentM s kk) = false → ∀ w2 (hk:KnM w (cellsOf [] b1 0 (stpC s (.slice ad s.bases.length c))) g0 2 w2),
   oM Tryz.prog (Go.Op.store 74 (.tmp 0) (.tmp 1)) 0 [.pointer (some ⟨g0,0,none⟩),sigV 0 0] (fun _ w=>
    ∃ r,(do loadVar 74 (← asAddr (.pointer (some ⟨g0,0,none⟩))):Sem Value).run Tryz.prog w = .ok r w ∧ K (.tuple #[r,(.bool false)]) w) w2:=fun e w2 hk=>by
  rw [e] at k
  exact store_mine sz_sig rfl rfl (sig_one 0 0) hk (fun W3 hk hc=>⟨_,by simp [go_sem,hc],k _ hk.below⟩)
 cases hvs:validS s with
 | false=>
  refine Xa hk.cells ?_
  exact bad (by rw [hvs]; rfl) _ hk
 | true=>
 refine Xa hk.cells ?_
 refine exponent_ok s x (hs'.next hk.below) (fun w2 h2=>?_)
 have hk:=hk.next h2
 clear h2
 cases hex:exponentM s x with
 | false=>
  refine Xa hk.cells ?_
  exact bad (by rw [hex]; simp) _ hk
 | true=>
 refine Xa hk.cells ?_
 refine exponent_ok s kk (hs'.next hk.below) (fun w2 h2=>?_)
 have hk:=hk.next h2
 clear h2
 cases hek:exponentM s kk with
 | false=>
  refine Xa hk.cells ?_
  exact bad (by rw [hek]; simp) _ hk
 | true=>
 clear bad
 rw [hvs,hex,hek] at k
 simp only [Bool.and_self,if_true] at k
 refine Xb6 hk.cells ?_
 refine local_grpM s.g hk (fun b4 W4 hk _ hb4=>?_)
 have hk:=hk.drew
 refine ⟨Nx { W4 with drawn:=W4.drawn + 1 },bR,rfl,?_⟩
 generalize ({ W4 with drawn:=W4.drawn + 1 }:World) = W at hk ⊢
 refine Xc (fun W0 hW0=>(hk.next hW0).cells) ?_
 refine ⟨Nx,?_⟩
 apply monoE
 ·intro w1 h1
  exact Power_ok s.g _ _ (fun w2 h2=>⟨h1.on h2,h2,rfl⟩)
 apply monoE
 ·intro w1 h1
  exact Power_ok s.g _ _ (fun w2 h2=>⟨h1.on h2,h2,rfl⟩)
 rintro w9 h9 _ rfl _ rfl
 have hk:=hk.next h9
 refine challenge_ok s _ _ msg (hs'.next hk.below) (hl.below hk.below hl.size) (powerG_I64 _ _ _) (powerG_I64 _ _ _) hm (fun w5 h5=>?_)
 have hk:=hk.next h5
 generalize chalM s (powerG s.g s.g.G x) (powerG s.g s.g.G kk) msg = cc at *
 have hk:=hk.drew
 refine ⟨Nx { w5 with drawn:=w5.drawn + 1 },bR,rfl,?_⟩
 generalize ({ w5 with drawn:=w5.drawn + 1 }:World) = W at hk ⊢
 refine Xc (fun W0 hW0=>(hk.next hW0).cells) ?_
 refine ⟨Nx,?_⟩
 apply monoE
 ·intro w1 h1
  exact Mul_ok _ _ _ (fun w2 h2=>⟨h1.on h2,h2,rfl⟩)
 apply monoE
 ·rintro w1 h1 _ rfl
  exact Add_ok _ _ _ ⟨h1,bR,rfl⟩
 rintro w10 h10 _ rfl _ rfl
 have hk:=hk.next h10
 rw [build_sig2]
 exact store_mine sz_sig rfl rfl (sig_one _ _) hk (fun W3 hk hc=>⟨_,by simp [go_sem,hc],k _ hk.below⟩)
theorem Signed_ok (s:Stp) (pub:Int) (msg:Bytes) (c z:Int) {v:Value} (hs:SetR w s v) (hl:Cd.Laid w) (hp:I64 pub) (hm:msg.length ≤ 1000)
  (k:∀ w',Bw w w' → K (.bool (PrSpec.signedM s pub msg c z)) w') :
  callM Tryz.prog 47 #[stpV s v,.int .i64 pub,.string ⟨msg.toArray⟩,sigV c z] K w:=by
 apply sh_47_ok
 unfold sh_47
 have hs':=hs
 obtain ⟨ad,ca,rfl⟩:=hs.ints.isSlice
 refine box_kn (cs:=stpC s (.slice ad s.bases.length ca)) rfl (.start w) fun b1 W hk hb1 hbb=>?_
 refine box_kn (cs:=sigC c z) rfl hk fun b2 W2 hk hb2 hbb2=>?_
 clear hb1 hb2 hbb2 hbb
 refine Xb2 hk.cells ?_
 refine local_grp s.g hk (fun b4 W4 hk _ hb4=>?_)
 refine Xa hk.cells ?_
 refine ValidSetup_ok s (hs'.next hk.below) (fun w2 h2=>?_)
 have hk:=hk.next h2
 clear h2
 unfold PrSpec.signedM at k
 cases hvs:validS s with
 | false=>
  rw [hvs] at k
  simp only [bF] at k
  refine Xa hk.cells ?_
  exact k _ hk.below
 | true=>
 rw [hvs,bT] at k
 refine Xa hk.cells ?_
 refine Element_ok s.g pub hs'.grp (hs'.db.next hk.below) (fun w2 h2=>?_)
 have hk:=hk.next h2
 clear h2
 cases hex:elemG s.g pub with
 | false=>
  rw [hex] at k
  simp only [bF] at k
  refine Xa hk.cells ?_
  exact k _ hk.below
 | true=>
 rw [hex,bT] at k
 refine Xa hk.cells ?_
 refine exponent_ok s c (hs'.next hk.below) (fun w2 h2=>?_)
 have hk:=hk.next h2
 clear h2
 cases hek:exponentM s c with
 | false=>
  rw [hek] at k
  simp only [bF] at k
  refine Xa hk.cells ?_
  exact k _ hk.below
 | true=>
 rw [hek,bT] at k
 refine Xa hk.cells ?_
 refine exponent_ok s z (hs'.next hk.below) (fun w2 h2=>?_)
 have hk:=hk.next h2
 clear h2
 cases hez:exponentM s z with
 | false=>
  rw [hez] at k
  simp only [bF] at k
  refine Xa hk.cells ?_
  exact k _ hk.below
 | true=>
 rw [hez,bT] at k
 refine Xa hk.cells ?_
 have hk:=hk.drew
 refine ⟨Nx { w2 with drawn:=w2.drawn + 1 },bR,rfl,?_⟩
 generalize ({ w2 with drawn:=w2.drawn + 1 }:World) = W at hk ⊢
 refine Xc (fun W0 hW0=>(hk.next hW0).cells) ?_
 refine ⟨Nx,?_⟩
 apply monoE
 ·intro w1 h1
  exact Power_ok s.g _ _ (fun w2 h2=>⟨h1.on h2,h2,rfl⟩)
 apply monoE
 ·intro w1 h1
  exact Power_ok s.g _ _ (fun w2 h2=>⟨h1.on h2,h2,rfl⟩)
 rintro w9 h9 _ rfl _ rfl
 have hk:=hk.next h9
 refine Over_ok s.g _ _ (fun w5 h5=>?_)
 have hk:=hk.next h5
 have hI:=overG_I64 s.g (powerG s.g s.g.G z) (powerG s.g pub c)
 generalize overG s.g (powerG s.g s.g.G z) (powerG s.g pub c) = a at *
 have hk:=hk.drew
 refine ⟨Nx { w5 with drawn:=w5.drawn + 1 },bR,rfl,?_⟩
 generalize ({ w5 with drawn:=w5.drawn + 1 }:World) = W at hk ⊢
 refine Xc (fun W0 hW0=>(hk.next hW0).cells) ?_
 refine ⟨Nx,?_⟩
 apply monoE
 ·intro w1 h1
  exact challenge_ok s _ _ msg (hs'.next (hk.next h1).below) (hl.below (hk.next h1).below hl.size) hp hI hm (fun w2 h2=>⟨h1.on h2,h2,rfl⟩)
 rintro w10 h10 _ rfl
 have hk:=hk.next h10
 refine Xa0 ?_
 exact k _ hk.below
end
end Go.Proofs
