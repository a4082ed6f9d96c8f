/- Parts of the proof of the seat's statements (FdPr, GrPr, TpA, TpB, TpC, TpD, TpE, TpF, TpG, TpH, TpI, TpJ, TpK, TpL, TpM, TzA): lemmas about the given translation and plain laws. No condition of their own. -/
import Derived.Test.YtpfjmfgnlpnflaaGreatDoorZfd
import Derived.Test.YtpfjmfgnlpnflaaGreatDoorMsf
set_option linter.all false
set_option maxRecDepth 100000
namespace FdPr
open FdSpec FdPoly GrLaw Mr
theorem mrUp_ex {n:Nat} (hn:2 ≤ n):∀ (k:Nat) (x:Int),mrUp n k x = true → ∃ i,i < k ∧ E n (x ^ (2 ^ i)) (-1)
 | 0,x,h=>by simp [mrUp] at h
 | k + 1,x,h=>by
  rw [mrUp] at h
  split at h
  ·rename_i hx
   refine ⟨0,by omega,?_⟩
   rw [hx,Nat.pow_zero,Int.pow_succ,Int.pow_zero]
   exact ⟨1,by omega⟩
  ·obtain ⟨i,hi,h1⟩:=mrUp_ex hn k _ h
   refine ⟨i + 1,by omega,?_⟩
   have h2:E n ((x * x) ^ 2 ^ i) ((x * x % n) ^ 2 ^ i):=(E.emod n (x * x)).symm.pow _
   have e:x ^ 2 ^ (i + 1) = (x * x) ^ 2 ^ i:=by
    rw [Nat.pow_succ,Nat.mul_comm,Int.pow_mul]
    congr 1
    rw [Int.pow_succ,Int.pow_succ,Int.pow_zero,Int.one_mul]
   rw [e]
   exact h2.trans h1
theorem passes_sp {n:Nat} {b:Nat} (hn:2 ≤ n) (h:passes n b = true) {k d:Nat} (hk:k = FdSpec.tz 64 (n - 1)) (hd:d = (n - 1) / 2 ^ k) (e:n - 1 = 2 ^ k * d):Sp n d b ∧ E n ((b:Int) ^ (n - 1)) 1:=by
 have e1:((n:Int) - 1).toNat = n - 1:=by omega
 unfold passes at h
 simp only [e1] at h
 rw [← hk,← hd] at h
 have hx:E n (pw n b d) ((b:Int) ^ d):=E.emod n _
 split at h
 ·rename_i h1
  rw [h1] at hx
  have h2:E n ((b:Int) ^ d) 1:=hx.symm
  refine ⟨Or.inl h2,?_⟩
  rw [e,Nat.mul_comm,Int.pow_mul]
  exact h2.one_pow _
 ·obtain ⟨i,hi,h1⟩:=mrUp_ex hn k _ h
  have h2:E n ((b:Int) ^ (2 ^ i * d)) (-1):=by
   rw [Nat.mul_comm,Int.pow_mul]
   exact (hx.pow _).symm.trans h1
  refine ⟨Or.inr ⟨i,h2⟩,?_⟩
  have h3:=h2.pow (2 ^ (k - i))
  rw [← Int.pow_mul,neg_one_pow,if_pos] at h3
  ·have e2:2 ^ i * d * 2 ^ (k - i) = n - 1:=by
    have:2 ^ k = 2 ^ i * 2 ^ (k - i):=by rw [← Nat.pow_add]; congr 1; omega
    rw [e,this]; grind
   rwa [e2] at h3
  ·have:2 ^ (k - i) = 2 * 2 ^ (k - i - 1):=by rw [← Nat.pow_succ']; congr 1; omega
   omega
theorem small_pr:∀ p < 38,2 ≤ p → (∀ d,d < p → 2 ≤ d → ¬ d ∣ p) → p ∈ Bs:=by decide +kernel
theorem pr_mem {p:Nat} (hp:Pr p) (h:p ≤ 37):p ∈ Bs:=small_pr p (by omega) hp.1 fun d h1 h2 hd=>by
 rcases hp.2 d hd with h3 | h3 <;> omega
theorem smallP_eq:smallP = Bs.map Int.ofNat:=rfl
theorem test_facts {n:Int} (h:primeM n = true) (hs:n ∉ smallP):2 ≤ n ∧ (∀ a ∈ Bs,n.toNat % a ≠ 0) ∧ ∃ d,d % 2 = 1 ∧ ∀ a ∈ Bs,Sp n.toNat d a ∧ E n.toNat ((a:Int) ^ (n.toNat - 1)) 1:=by
 have h1:=(prime_small h).resolve_left hs
 unfold primeM at h
 split at h
 ·cases h
 ·rename_i h0
  have hn:2 ≤ n:=by omega
  have hb:n < 2305843009213693952:=by omega
  have hN:((n.toNat:Nat):Int) = n:=Int.toNat_of_nonneg (by omega)
  have hz:∀ a ∈ Bs,n.toNat % a ≠ 0:=by
   intro a ha h2
   have h3:=h1 (a:Int) (by rw [smallP_eq]; exact List.mem_map.mpr ⟨a,ha,rfl⟩)
   apply h3
   rw [← hN,← Int.natCast_emod,h2]; rfl
  cases hf:smallP.find? (fun p=>decide (n % p = 0)) with
  | some p=>
   have hm:=List.mem_of_find?_eq_some hf
   have h2:=List.find?_some hf
   exact absurd (by simpa using h2) (h1 p hm)
  | none=>
   rw [hf] at h
   have hall:=List.all_eq_true.mp h
   obtain ⟨hk,j,e⟩:=tz_lt 64 (n.toNat - 1) (by omega) (by
    have:(2:Nat) ^ 64 = 18446744073709551616:=by decide
    omega)
   refine ⟨hn,hz,2 * j + 1,by omega,fun a ha=>?_⟩
   have hp:=hall (a:Int) (by rw [smallP_eq]; exact List.mem_map.mpr ⟨a,ha,rfl⟩)
   refine passes_sp (by omega) (by rw [hN]; exact hp) rfl ?_ e
   rw [e]
   conv=>rhs; rw [← e]
   have h4:0 < 2 ^ FdSpec.tz 64 (n.toNat - 1):=Nat.two_pow_pos _
   conv=>rhs; lhs; rw [e]
   rw [Nat.mul_div_cancel_left _ h4]
theorem mem_pr {n:Int} (h:n ∈ smallP):Pr n.toNat:=by
 rw [smallP_eq] at h
 obtain ⟨a,ha,rfl⟩:=List.mem_map.mp h
 exact pr_small a ha
theorem prime_Q {g:Grp} (h:validG g = true):Pr g.Q.toNat:=by
 have hv:=gv_of h
 by_cases hs:g.Q ∈ smallP
 ·exact mem_pr hs
 ·obtain ⟨hn,hz,d,hd,hall⟩:=test_facts hv.pq hs
  have hP:primeM g.P = true:=by
   unfold validG at h
   split at h
   ·cases h
   ·simp only [Bool.and_eq_true,decide_eq_true_eq] at h
    exact h.1.2
  have q0:=hv.q0
  have q1:=hv.q1
  have hp:=hv.p
  have h3:g.P % 3 ≠ 0:=by
   intro h3
   rcases prime_small hP with h4 | h4
   ·have:∀ p ∈ smallP,p % 3 = 0 → p = 3:=by decide
    have:=this g.P h4 h3
    omega
   ·exact h4 3 (by decide) h3
  have z3:=hz 3 (by decide)
  have z2:=hz 2 (by decide)
  refine Ps.prime (d:=d) ⟨by omega,by omega,by omega,fun p hpr hdv=>?_,hd,fun a ha=>(hall a ha).1,fun a ha=>(hall a ha).2⟩ (by omega)
  apply Classical.byContradiction
  intro hc
  exact hz p (pr_mem hpr (by omega)) (Nat.mod_eq_zero_of_dvd hdv)
theorem prime_P {g:Grp} (h:validG g = true):Pr g.P.toNat:=by
 have hv:=gv_of h
 have hQ:=prime_Q h
 have hP:primeM g.P = true:=by
  unfold validG at h
  split at h
  ·cases h
  ·simp only [Bool.and_eq_true,decide_eq_true_eq] at h
   exact h.1.2
 by_cases hs:g.P ∈ smallP
 ·exact mem_pr hs
 ·obtain ⟨hn,hz,d,hd,hall⟩:=test_facts hP hs
  have q0:=hv.q0
  have hp:=hv.p
  have eP:g.P.toNat = 2 * g.Q.toNat + 1:=by omega
  have h2:=(hall 2 (by decide)).2
  obtain ⟨r,hr,hrd⟩:=exists_pr g.P.toNat (by omega)
  have hr37:37 < r:=by
   apply Classical.byContradiction
   intro hc
   exact hz r (pr_mem hr (by omega)) (Nat.mod_eq_zero_of_dvd hrd)
  have r2:=odd_of hr hr37
  have h3:E r ((2:Int) ^ Nat.gcd (2 * g.Q.toNat) (r - 1)) 1:=by
   refine gcd_pow _ _ ?_ (fermat hr r2 (show 2 ∈ Bs by decide) hr37)
   have:=h2.dvd hrd
   rwa [eP,Nat.add_sub_cancel] at this
  have hrP:r = g.P.toNat:=by
   by_cases hq:g.Q.toNat ∣ r - 1
   ·obtain ⟨t,ht⟩:=hq
    have hle:=Nat.le_of_dvd (by omega) hrd
    have t0:t ≠ 0:=by rintro rfl; omega
    have t1:t ≠ 1:=by
     rintro rfl
     rw [Nat.mul_one] at ht
     have q37:37 ≤ g.Q.toNat:=by omega
     rcases hQ.2 2 (Nat.dvd_of_mod_eq_zero (by omega)) with h5 | h5 <;> omega
    have h5:g.Q.toNat * 2 ≤ g.Q.toNat * t:=Nat.mul_le_mul_left _ (by omega)
    omega
   ·exfalso
    have h5:Nat.gcd g.Q.toNat (r - 1) = 1:=by
     rcases hQ.2 (Nat.gcd g.Q.toNat (r - 1)) (Nat.gcd_dvd_left _ _) with h6 | h6
     ·exact h6
     ·exact absurd (h6 ▸ Nat.gcd_dvd_right g.Q.toNat (r - 1)) hq
    have h6:Nat.gcd (2 * g.Q.toNat) (r - 1) ∣ 2:=by
     have h7:Nat.Coprime (Nat.gcd (2 * g.Q.toNat) (r - 1)) g.Q.toNat:=by
      refine Nat.Coprime.coprime_dvd_left (Nat.gcd_dvd_right _ _) ?_
      show Nat.gcd (r - 1) g.Q.toNat = 1
      rw [Nat.gcd_comm]; exact h5
     exact h7.dvd_of_dvd_mul_right (Nat.gcd_dvd_left _ _)
    have h8:=Nat.le_of_dvd (by omega) h6
    have h9:Nat.gcd (2 * g.Q.toNat) (r - 1) = 0 ∨ Nat.gcd (2 * g.Q.toNat) (r - 1) = 1 ∨ Nat.gcd (2 * g.Q.toNat) (r - 1) = 2:=by omega
    rcases h9 with h9 | h9 | h9
    ·rw [h9] at h6; have:=Nat.eq_zero_of_zero_dvd h6; omega
    ·rw [h9] at h3
     have h10:(r:Int) ∣ 1:=h3
     have:=Int.le_of_dvd (by omega) h10
     omega
    ·rw [h9] at h3
     have h10:(r:Int) ∣ 3:=h3
     have:=Int.le_of_dvd (by omega) h10
     omega
  exact hrP ▸ hr
theorem unit_Q {g:Grp} (h:validG g = true) {a:Int} (ha:a % g.Q ≠ 0):U g.Q a:=by
 have hQ:=prime_Q h
 have q0:=(gv_of h).q0
 have hN:((g.Q.toNat:Nat):Int) = g.Q:=Int.toNat_of_nonneg (by omega)
 have r0:=Int.emod_nonneg a (show g.Q ≠ 0 by omega)
 have r1:=Int.emod_lt_of_pos a (show 0 < g.Q by omega)
 have h2:g.Q.toNat % 2 = 1:=by
  rcases Nat.mod_two_eq_zero_or_one g.Q.toNat with h2 | h2
  ·rcases hQ.2 2 (Nat.dvd_of_mod_eq_zero h2) with h3 | h3 <;> omega
  ·exact h2
 have hd:¬ g.Q.toNat ∣ (a % g.Q).toNat:=fun hd=>by have:=Nat.le_of_dvd (by omega) hd; omega
 have h3:=gauss (h:=g.Q.toNat / 2) hQ (by omega) hd
 have h4:=h3.mul h3
 rw [← Int.pow_add,← Int.pow_add,neg_one_pow,if_pos (by omega)] at h4
 have eA:(((a % g.Q).toNat:Nat):Int) = a % g.Q:=Int.toNat_of_nonneg r0
 rw [eA] at h4
 have h5:g.Q ∣ (a % g.Q) ^ (g.Q.toNat / 2 + g.Q.toNat / 2) - 1:=by
  have:((g.Q.toNat:Nat):Int) ∣ (a % g.Q) ^ (g.Q.toNat / 2 + g.Q.toNat / 2) - 1:=h4
  rwa [hN] at this
 have hU:U g.Q (a % g.Q):=by
  refine ⟨(a % g.Q) ^ (g.Q.toNat / 2 + g.Q.toNat / 2 - 1),?_⟩
  rw [← Int.pow_succ,show (g.Q.toNat / 2 + g.Q.toNat / 2 - 1).succ = g.Q.toNat / 2 + g.Q.toNat / 2 by omega]
  exact h5
 refine hU.cong ?_
 exact ⟨a / g.Q,by have:=Int.emod_add_mul_ediv a g.Q; omega⟩
end FdPr
namespace GrPr
open FdSpec FdPoly GrLaw
section
variable {g:Grp} (hv:validG g = true)
include hv
theorem nP:((g.P.toNat:Nat):Int) = g.P:=Int.toNat_of_nonneg (by have:=(gv_of hv).q0; have:=(gv_of hv).p; omega)
theorem cg_E {a b:Int}:Cg g.P a b ↔ Mr.E g.P.toNat a b:=by unfold Cg Mr.E; rw [nP hv]
theorem ord {x:Int} (hx:El g x) (h1:¬ Cg g.P x 1) {k:Nat} (hk:Cg g.P (x ^ k) 1):g.Q.toNat ∣ k:=by
 rw [cg_E hv] at hk h1
 have h2:Mr.E g.P.toNat (x ^ g.Q.toNat) 1:=(cg_E hv).mp hx
 have h3:=Mr.gcd_pow _ _ h2 hk
 rcases (FdPr.prime_Q hv).2 (Nat.gcd g.Q.toNat k) (Nat.gcd_dvd_left _ _) with h4 | h4
 ·rw [h4,Int.pow_succ,Int.pow_zero,Int.one_mul] at h3
  exact absurd h3 h1
 ·exact h4 ▸ Nat.gcd_dvd_right g.Q.toNat k
theorem gen_ne:¬ Cg g.P g.G 1:=by
 intro h
 have hg:=gv_of hv
 have:=hg.g0
 have:=hg.g1
 have:=Int.le_of_dvd (by omega) h
 omega
theorem Ex_inj {x:Int} (hx:El g x) (h1:¬ Cg g.P x 1) {a b:Int} (h:Cg g.P (Ex g x a) (Ex g x b)):a % g.Q = b % g.Q:=by
 have hg:=gv_of hv
 have q0:=hg.q0
 have h2:Cg g.P (Ex g x (a - b)) 1:=by
  have h3:=Ex_add hg hx (a - b) b
  rw [Int.sub_add_cancel] at h3
  have h4:Cg g.P (1 * Ex g x b) (Ex g x (a - b) * Ex g x b):=by rw [Int.one_mul]; exact h.symm.trans h3
  exact (Cg.cancel ((hx.ex b).unit hg) h4).symm
 have h3:=ord hv hx h1 h2
 have r0:=Int.emod_nonneg (a - b) (show g.Q ≠ 0 by omega)
 have r1:=Int.emod_lt_of_pos (a - b) (show 0 < g.Q by omega)
 have h4:((a - b) % g.Q).toNat = 0:=by
  apply Classical.byContradiction
  intro hc
  have:=Nat.le_of_dvd (by omega) h3
  omega
 have h5:(a - b) % g.Q = 0:=by omega
 exact Int.emod_eq_emod_iff_emod_sub_eq_zero.mpr h5
theorem log {x:Int} (hx:El g x):∃ k:Int,Cg g.P x (Ex g g.G k):=by
 have hg:=gv_of hv
 have q0:=hg.q0
 apply Classical.byContradiction
 intro hc
 have hl:∀ k:Nat,¬ Mr.E g.P.toNat x (g.G ^ k):=by
  intro k h
  apply hc
  refine ⟨k,?_⟩
  have h1:Cg g.P x (g.G ^ k):=(cg_E hv).mpr h
  refine h1.trans ?_
  unfold Ex
  refine pow_same (El.gen hg) (nat_mod (by omega) ?_)
  rw [toNat_mod (by omega),Int.emod_emod_of_dvd _ (Int.dvd_refl _)]
 have hp:List.Pairwise (fun a b:Nat=>¬ Mr.E g.P.toNat (g.G ^ a) (g.G ^ b)) (List.range g.Q.toNat):=by
  refine List.Pairwise.imp_of_mem ?_ List.pairwise_lt_range
  intro a b ha hb hab h
  have ha:=List.mem_range.mp ha
  have hb:=List.mem_range.mp hb
  have h1:Cg g.P (Ex g g.G a) (Ex g g.G b):=by
   unfold Ex
   rw [Int.emod_eq_of_lt (by omega) (by omega),Int.emod_eq_of_lt (by omega) (by omega)]
   exact (cg_E hv).mpr h
  have h2:=Ex_inj hv (El.gen hg) (gen_ne hv) h1
  rw [Int.emod_eq_of_lt (by omega) (by omega),Int.emod_eq_of_lt (by omega) (by omega)] at h2
  omega
 have h1:Mr.Apart g.P.toNat (x :: (List.range g.Q.toNat).map fun k=>g.G ^ k):=by
  refine List.pairwise_cons.mpr ⟨fun y hy=>?_,List.pairwise_map.mpr hp⟩
  obtain ⟨k,_,rfl⟩:=List.mem_map.mp hy
  exact hl k
 have h2:=Mr.roots_pow (FdPr.prime_P hv) (k:=g.Q.toNat) (by omega) _ h1 (by
  intro y hy
  rcases List.mem_cons.mp hy with rfl | hy
  ·exact (cg_E hv).mp hx
  ·obtain ⟨k,_,rfl⟩:=List.mem_map.mp hy
   exact (cg_E hv).mp ((El.gen hg).pow k))
 rw [List.length_cons,List.length_map,List.length_range] at h2
 omega
theorem zero_Q {a b:Int} (h:(a * b) % g.Q = 0):a % g.Q = 0 ∨ b % g.Q = 0:=by
 by_cases ha:a % g.Q = 0
 ·exact Or.inl ha
 ·exact Or.inr (Int.emod_eq_zero_of_dvd ((FdPr.unit_Q hv ha).cancel (Int.dvd_of_emod_eq_zero h)))
end
end GrPr
namespace TpA
open FdSpec FdPoly GrLaw GrPr TkSpec
def dot:List Int → List Int → Int
 | β :: bs,e :: es=>β * e + dot bs es
 | _,_=>0
theorem mod_of_dvd {q a b:Int} (h:q ∣ a - b):a % q = b % q:=Int.emod_eq_emod_iff_emod_sub_eq_zero.mpr (Int.emod_eq_zero_of_dvd h)
theorem dvd_of_mod {q a b:Int} (h:a % q = b % q):q ∣ a - b:=Int.dvd_of_emod_eq_zero (Int.emod_eq_emod_iff_emod_sub_eq_zero.mp h)
section
variable {g:Grp} (hv:validG g = true)
include hv
theorem logs:∀ bases:List Int,(∀ b ∈ bases,El g b) → ∃ bs:List Int,bs.length = bases.length ∧ ∀ es:List Int,Cg g.P (PX g (bases.zip es)) (Ex g g.G (dot bs es))
 | [],_=>⟨[],rfl,fun es=>by simp [PX,dot,Ex_zero]; exact Cg.refl _ _⟩
 | b :: l,h=>by
  obtain ⟨bs,h1,h2⟩:=logs l fun x hx=>h x (List.mem_cons_of_mem _ hx)
  obtain ⟨β,hβ⟩:=GrPr.log hv (h b (by simp))
  refine ⟨β :: bs,by simp [h1],fun es=>?_⟩
  cases es with
  | nil=>simp [PX,dot,Ex_zero]; exact Cg.refl _ _
  | cons e es=>
   have hg:=gv_of hv
   rw [List.zip_cons_cons,PX,dot]
   have h3:Cg g.P (Ex g b e) (Ex g g.G (β * e)):=by
    refine (Ex_cg hβ e).trans ?_
    exact (Ex_mul hg (El.gen hg) β e).symm
   exact (h3.mul (h2 es)).trans (Ex_add hg (El.gen hg) _ _).symm
theorem prodG_log {bases bs es:List Int} (h:∀ es:List Int,Cg g.P (PX g (bases.zip es)) (Ex g g.G (dot bs es))) (hl:bases.length = es.length):(prodG g bases es).2 = true ∧ Cg g.P (prodG g bases es).1 (Ex g g.G (dot bs es)) ∧ 0 ≤ (prodG g bases es).1 ∧ (prodG g bases es).1 < g.P:=by
 have hg:=gv_of hv
 have hP:=hg.okP.1
 unfold prodG
 rw [if_pos ⟨hg.okP,hg.okQ,hl⟩]
 have h1:0 ≤ (1 % g.P) ∧ 1 % g.P < g.P:=⟨Int.emod_nonneg _ (by omega),Int.emod_lt_of_pos _ (by omega)⟩
 refine ⟨rfl,?_,prodL_range hg _ _ h1⟩
 have h2:=prodL_cg hg (bases.zip es) (1 % g.P)
 have h3:=(Cg.mod g.P 1).mul (Cg.refl g.P (PX g (bases.zip es)))
 rw [Int.one_mul] at h3
 exact h2.trans (h3.trans (h es))
theorem Ex_eq {a b:Int} (h:g.Q ∣ a - b):Ex g g.G a = Ex g g.G b:=Ex_cong (mod_of_dvd h)
theorem Ex_dvd {a b:Int} (h:Cg g.P (Ex g g.G a) (Ex g g.G b)):g.Q ∣ a - b:=dvd_of_mod (Ex_inj hv (El.gen (gv_of hv)) (gen_ne hv) h)
theorem pow_log {x k a:Int} (hx:Cg g.P x (Ex g g.G a)):Cg g.P (powerG g x k) (Ex g g.G (a * k)):=by
 have hg:=gv_of hv
 exact (powerG_cg hg x k).trans ((Ex_cg hx k).trans (Ex_mul hg (El.gen hg) a k).symm)
end
theorem elem_of {s:Stp} {l:List Int} (hv:validG s.g = true) (h:elementsM s l = true):∀ x ∈ l,El s.g x ∧ 1 ≤ x ∧ x < s.g.P:=fun x hx=>El.of_elem (gv_of hv) (List.all_eq_true.mp h x hx)
theorem valid_facts {s:Stp} (h:validS s = true):validG s.g = true ∧ (∀ b ∈ s.bases,El s.g b) ∧ 2 ≤ s.bases.length:=by
 unfold validS at h
 simp only [Bool.and_eq_true,decide_eq_true_eq] at h
 obtain ⟨⟨⟨⟨h1,h2⟩,h3⟩,h4⟩,h5⟩:=h
 refine ⟨h1,fun b hb=>?_,h2⟩
 have:=List.all_eq_true.mp h4 b hb
 unfold otherM at this
 rw [Bool.and_eq_true] at this
 exact (El.of_elem (gv_of h1) this.2).1
end TpA
namespace TpA
open FdSpec FdPoly GrLaw GrPr TkSpec
end TpA
namespace TpA
open FdSpec FdPoly GrLaw GrPr TkSpec
theorem logM_eq (s:Stp) (m:Mir) (attrs:List Int):logM s m attrs = ((expsM attrs).zip m.bases).foldl (fun o p=>addM s.g.Q o (mulM s.g.Q p.1 p.2)) 0:=rfl
theorem el_range {g:Grp} (hv:validG g = true) {x:Int} (hx:El g x) (h0:0 ≤ x) (h1:x < g.P):1 ≤ x:=by
 have hg:=gv_of hv
 have q0:=hg.q0
 apply Classical.byContradiction
 intro hc
 have e:x = 0:=by omega
 have h2:Cg g.P (x ^ g.Q.toNat) 1:=hx
 rw [e,Int.zero_pow (by omega)] at h2
 have h3:g.P ∣ 0 - 1:=h2
 have h4:g.P ∣ 1:=by obtain ⟨k,hk⟩:=h3; exact ⟨-k,by grind⟩
 have:=Int.le_of_dvd (by omega) h4
 have:=hg.p
 omega
theorem el_elem {g:Grp} (hv:validG g = true) {x:Int} (hx:El g x) (h0:0 ≤ x) (h1:x < g.P):elemG g x = true:=by
 have hg:=gv_of hv
 unfold elemG
 have h2:=el_range hv hx h0 h1
 have h3:pw g.P x g.Q.toNat = 1:=by
  have h4:=Cg.emod (show Cg g.P (x ^ g.Q.toNat) 1 from hx)
  rw [Int.emod_eq_of_lt (a:=1) (by omega) (by have:=hg.q0; have:=hg.p; omega)] at h4
  exact h4
 simp [h2,h1,hv,h3]
end TpA
namespace TpA
open FdSpec FdPoly GrLaw GrPr TkSpec
theorem eq_iff {g:Grp} (hv:validG g = true) {x y a b:Int} (hx:Cg g.P x (Ex g g.G a)) (hy:Cg g.P y (Ex g g.G b)) (rx:0 ≤ x ∧ x < g.P) (ry:0 ≤ y ∧ y < g.P):x = y ↔ g.Q ∣ a - b:=by
 constructor
 ·intro h
  subst h
  exact Ex_dvd hv (hx.symm.trans hy)
 ·intro h
  refine Cg.eq (P:=g.P) ?_ rx ry
  rw [Ex_eq hv h] at hx
  exact hx.trans hy.symm
end TpA
namespace TpA
open FdSpec FdPoly GrLaw GrPr TkSpec
theorem nums_one {s:Stp} {m x:Int}:numsM s m [x] = true ↔ m ≤ x ∧ x < s.g.Q:=by unfold numsM; simp
theorem elem_log {g:Grp} (hv:validG g = true) {x a:Int} (hx:Cg g.P x (Ex g g.G a)) (r:0 ≤ x ∧ x < g.P):elemG g x = true:=
 el_elem hv (((El.gen (gv_of hv)).ex a).cg hx) r.1 r.2
theorem one_iff {g:Grp} (hv:validG g = true) {x a:Int} (hx:Cg g.P x (Ex g g.G a)) (r:0 ≤ x ∧ x < g.P):x = 1 ↔ a % g.Q = 0:=by
 have hg:=gv_of hv
 have h1:Cg g.P 1 (Ex g g.G 0):=by rw [Ex_zero]; exact Cg.refl _ _
 rw [eq_iff hv hx h1 r ⟨by omega,by have:=hg.q0; have:=hg.p; omega⟩,Int.sub_zero]
 exact ⟨Int.emod_eq_zero_of_dvd,Int.dvd_of_emod_eq_zero⟩
theorem mul_ne {g:Grp} (hv:validG g = true) {a b:Int} (ha:a % g.Q ≠ 0) (hb:b % g.Q ≠ 0):(a * b) % g.Q ≠ 0:=fun h=>(zero_Q hv h).elim ha hb
theorem small_ne {q a:Int} (h:1 ≤ a ∧ a < q):a % q ≠ 0:=by rw [Int.emod_eq_of_lt (by omega) h.2]; omega
theorem times_log {g:Grp} (hv:validG g = true) {x y a b:Int} (hx:Cg g.P x (Ex g g.G a)) (hy:Cg g.P y (Ex g g.G b)):Cg g.P (timesG g x y) (Ex g g.G (a + b)):=
 (timesG_cg (gv_of hv) x y).trans ((hx.mul hy).trans (Ex_add (gv_of hv) (El.gen (gv_of hv)) a b).symm)
section
variable {g:Grp} {m:Mir} {s:Stp} {attrs:List Int} {b:Bld} {x w:Int}
theorem blinds_iff:blindsM s b = true ↔ (1 ≤ b.s ∧ b.s < s.g.Q) ∧ (1 ≤ b.u ∧ b.u < s.g.Q) ∧ (0 ≤ b.v ∧ b.v < s.g.Q) ∧ b.ys.length = s.bases.length ∧ numsM s 0 b.ys = true:=by
 unfold blindsM numsM
 simp
 constructor
 ·rintro ⟨⟨⟨⟨h1,h2⟩,h3⟩,h4⟩,h5⟩; exact ⟨h1,h2,h3,h4,h5⟩
 ·rintro ⟨h1,h2,h3,h4,h5⟩; exact ⟨⟨⟨⟨h1,h2⟩,h3⟩,h4⟩,h5⟩
end
end TpA
namespace TpA
open FdSpec FdPoly GrLaw GrPr TkSpec
end TpA
namespace TpA
open FdSpec FdPoly GrLaw GrPr TkSpec
end TpA
namespace TpA
open FdSpec FdPoly GrLaw GrPr TkSpec
end TpA
namespace TpA
open FdSpec FdPoly GrLaw GrPr TkSpec
end TpA
namespace TpA
open FdSpec FdPoly GrLaw GrPr TkSpec
end TpA
namespace TpA
open FdSpec FdPoly GrLaw GrPr TkSpec
end TpA
namespace TpA
open FdSpec FdPoly GrLaw GrPr TkSpec
end TpA
namespace TpA
open FdSpec FdPoly GrLaw GrPr TkSpec
theorem askErr_cases (s:Stp) (key:Int) (attrs:List Int) (o:Off) (b:Bld):(askFine s key attrs o b = false ∧ askErr s key attrs o b = 1) ∨ (askFine s key attrs o b = true ∧ innerQ s (askTkt s attrs o b) = 0 ∧ askErr s key attrs o b = 7) ∨
  (askFine s key attrs o b = true ∧ innerQ s (askTkt s attrs o b) ≠ 0 ∧ askErr s key attrs o b = 0):=by
 unfold askErr
 cases askFine s key attrs o b with
 | false=>exact .inl ⟨rfl,rfl⟩
 | true=>
  by_cases h:innerQ s (askTkt s attrs o b) = 0
  ·exact .inr (.inl ⟨rfl,h,by simp [h]⟩)
  ·exact .inr (.inr ⟨rfl,h,by simp [h]⟩)
end TpA
namespace Go.Proofs
open Go Go.Sh Go.RowKit FdSpec TkSpec CodeSpec
end Go.Proofs
