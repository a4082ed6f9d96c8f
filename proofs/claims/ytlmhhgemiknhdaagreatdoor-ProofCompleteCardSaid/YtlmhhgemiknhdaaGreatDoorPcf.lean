/- Parts of the proof of the seat's statements (RfC, RfD, HRb, HRp, RpA, RpB, PrIff, RpC, RpD, RpE, PrIff2, HLn, RpF, RpG, HL4c, RpH): lemmas about the given translation and plain laws. No condition of their own. -/
import Derived.Test.YtlmhhgemiknhdaaGreatDoorPce
import Derived.Test.YtlmhhgemiknhdaaGreatDoorProg
set_option linter.all false
set_option maxRecDepth 100000
namespace Go.Proofs
open Go Go.Sh Go.RowKit FdSpec TkSpec
section
variable {K:VK} {w:World}
theorem smallP_rng:∀ p ∈ smallP,(2:Int) ≤ p ∧ p ≤ 37:=by decide
theorem bases_ok (k:∀ v W,Bw w W → Ints W v smallP → K v W):callM Tryz.prog 203 #[] K w:=by
 apply sh_203_ok
 unfold sh_203
 rw [rM_of (S:=Instr.buildSlice 24 12 (((List.range 12).zip smallV.toList)).toArray) (by kernel_rfl)]
 have e:(Instr.buildSlice 24 12 (((List.range 12).zip smallV.toList)).toArray).run Tryz.prog w = .ok (.slice (some ⟨w.heap.size,0,none⟩) 12 12) (w.alloc (.cells (smallP.map (Value.int .i64)).toArray 3)):=by kernel_rfl
 rw [e]
 exact k _ _ ((Below.refl _ w).alloc (rL) _) (ints_alloc w smallP _ 12 (fun n hn=>by have:=smallP_rng n hn; unfold I64; omega) (by decide))
theorem big_of_none {n:Int} (hf:smallP.find? (fun p=>decide (n % p = 0)) = none) (h1:2 ≤ n):37 < n:=by
 have hnd:=List.find?_eq_none.1 hf
 have g:∀ p ∈ smallP,¬ n % p = 0:=fun p hp=>by simpa using hnd p hp
 have hs:∀ m:Nat,m < 38 → 2 ≤ m → ∃ p ∈ smallP,(m:Int) % p = 0:=by decide +kernel
 obtain ⟨m,rfl⟩:=natN n (by omega)
 by_cases hm:m < 38
 ·obtain ⟨p,hp,hp0⟩:=hs m hm (by omega)
  exact absurd hp0 (g p hp)
 ·omega
def RprJ (n:Int) (W:World) (l:List Value) (w':World):Prop:=w' = W ∧ ∃ (v:Value) (i:Nat),l = [v,.int .i64 (i:Int)] ∧ i ≤ 12 ∧ smallP.find? (fun p=>decide (n % p = 0)) = (smallP.drop i).find? (fun p=>decide (n % p = 0))
def RprJ2 (n:Int) (W:World) (l:List Value) (w':World):Prop:=w' = W ∧ ∃ (v:Value) (i:Nat),l = [v,.int .i64 (i:Int)] ∧ i ≤ 12 ∧ smallP.all (fun p=>passes n p) = (smallP.drop i).all (fun p=>passes n p)
def rprMu (l:List Value) (_:World):Nat:=match l with | [_,.int _ i]=>12 - i.toNat | _=>0
theorem rprMu_eq (x:Value) (q:IntKind) (i:Int) (w:World):rprMu [x,.int q i] w = 12 - i.toNat:=rfl
theorem rPrime_ok (n:Int) (k:∀ w',Bw w w' → K (.bool (primeM n)) w'):callM Tryz.prog 171 #[.int .i64 n] K w:=by
 apply sh_171_ok
 unfold sh_171
 unfold primeM at k
 by_cases h1:n < 2
 ·rw [if_pos (.inl h1)] at k
  repeat (any_goals (first
  | (with_reducible first|refine zD ?_|refine yB ?_|refine yL ?_)
  | ((with_reducible refine oG fun X Y=>?_); simp [go_sem,h1]; apply Y; clear Y X)))
  exact k _ (bR)
 by_cases h2:2305843009213693952 ≤ n
 ·rw [if_pos (.inr h2)] at k
  repeat (any_goals (first
  | (with_reducible first|refine pureM_in ?_|refine zC ?_|refine yC ?_|refine yL ?_)
  | ((with_reducible refine oG fun X Y=>?_); simp [go_sem,h1,h2]; apply Y; clear Y X)))
  exact k _ (bR)
 rw [if_neg (by omega)] at k
 have hn:okN n:=⟨by omega,by omega⟩
 repeat (any_goals (first
 | (with_reducible first|refine pureM_in ?_|refine zC ?_|refine yC ?_|refine yM ?_)
 | ((with_reducible refine oG fun X Y=>?_); simp [go_sem,h1,h2]; apply Y; clear Y X)))
 refine bases_ok (fun v W hb hi=>?_)
 have hlen:smallP.length = 12:=rfl
 obtain ⟨ad,c,rfl⟩:=hi.isSlice
 refine ⟨RprJ n W,rprMu,⟨rfl,_,0,rfl,by omega,rfl⟩,?_⟩
 rintro _ _ w1 ⟨rfl,u,i,rfl,hi12,hf⟩
 by_cases h12:i = 12
 ·subst h12
  rw [show smallP.drop 12 = [] from rfl,List.find?_nil] at hf
  rw [hf] at k
  simp only at k
  have hbig:=big_of_none hf (by omega)
  repeat (any_goals (first
  | (with_reducible refine yO ?_)
  | ((with_reducible refine oG fun X Y=>?_); simp [go_sem]; apply Y; clear Y X)))
  refine ⟨RprJ2 n w1,rprMu,⟨rfl,_,0,rfl,by omega,rfl⟩,?_⟩
  rintro _ _ w2 ⟨rfl,u2,i,rfl,hi2,hall⟩
  by_cases hi12:i = 12
  ·subst hi12
   rw [show smallP.drop 12 = [] from rfl,List.all_nil] at hall
   rw [hall] at k
   repeat (any_goals (first
   | (with_reducible refine yO ?_)
   | ((with_reducible refine oG fun X Y=>?_); simp [go_sem]; apply Y; clear Y X)))
   exact k _ hb
  ·rw [List.drop_eq_getElem_cons (by omega),List.all_cons] at hall
   have hr:=smallP_rng _ (List.getElem_mem (show i < smallP.length by omega))
   obtain ⟨b1,o1,rfl,hb1,ca,ra,_⟩:=hi.at (i:=i) (by omega)
   generalize smallP[i] = p at *
   repeat (any_goals (first
   | (with_reducible refine yN ?_)
   | ((with_reducible refine oG fun X Y=>?_); simp [go_sem,ca _ (bR)]; (first|refine Y _ _ ?_|refine And.intro (by omega) (Y _ _ ?_)); clear Y X)))
   refine rpasses_ok n p hn (by omega) ?_
   cases hps:passes n p with
   | false=>
    rw [hps,bF] at hall
    rw [hall] at k
    repeat (any_goals (first
    | (with_reducible refine yL ?_)
    | ((with_reducible refine oG fun X Y=>?_); simp [go_sem]; apply Y; clear Y X)))
    exact k _ hb
   | true=>
    rw [hps,bT] at hall
    repeat (any_goals (first
    | (with_reducible refine yM ?_)
    | ((with_reducible refine oG fun X Y=>?_); simp [go_sem]; (try simp (disch:=omega) only [wrapI64,wrapU8,wrapU32,wrapU64]); apply Y; clear Y X)))
    refine ⟨⟨rfl,_,i + 1,rfl,by omega,hall⟩,?_⟩
    simp only [rprMu_eq]; omega
 ·rw [List.drop_eq_getElem_cons (by omega)] at hf
  have hr:=smallP_rng _ (List.getElem_mem (show i < smallP.length by omega))
  obtain ⟨b1,o1,rfl,hb1,ca,ra,_⟩:=hi.at (i:=i) (by omega)
  generalize smallP[i] = p at *
  have er:n.tmod p = n % p:=Int.tmod_eq_emod_of_nonneg (by omega)
  by_cases hd:n % p = 0
  ·rw [List.find?_cons_of_pos (by simpa using hd)] at hf
   rw [hf] at k
   have k:=k _ hb
   simp only at k
   repeat (any_goals (first
   | (with_reducible ((refine idCond ?_); first|refine yL ?_|refine yN ?_))
   | ((with_reducible refine oG fun X Y=>?_); simp [go_sem,ca _ (bR),er,hd]; (first|refine Y _ _ ?_|refine And.intro (by omega) (Y _ _ ?_)); clear Y X)))
   exact k
  ·rw [List.find?_cons_of_neg (by simpa using hd)] at hf
   repeat (any_goals (first
   | (with_reducible ((refine idCond ?_); first|refine yM ?_|refine yN ?_))
   | ((with_reducible refine oG fun X Y=>?_); simp [go_sem,ca _ (bR),er,hd]; (try simp (disch:=omega) only [wrapI64,wrapU8,wrapU32,wrapU64]); (first|refine Y _ _ ?_|refine And.intro (by omega) (Y _ _ ?_)); clear Y X)))
   refine ⟨⟨rfl,_,i + 1,rfl,by omega,hf⟩,?_⟩
   simp only [rprMu_eq]; omega
set_option maxHeartbeats 1000000 in
theorem rValidGroup_ok (g:Grp) (hg:GrpR g) (k:∀ w',Bw w w' → K (.bool (validG g)) w'):callM Tryz.prog 110 #[grpV g] K w:=by
 apply sh_110_ok
 unfold sh_110
 refine box_grp g fun b W hW hb c0 c1 c2=>?_
 have n1:=validG_not (g:=g)
 have n2:=validG_yes (g:=g)
 obtain ⟨P,Q,G⟩:=g
 obtain ⟨hP,hQ,hG⟩:=hg
 unfold I64 at hP hQ hG
 simp only at hP hQ hG n1 n2 c0 c1 c2
 have hr:=Below.refl W.heap.size W
 have k1:∀ w',validG ⟨P,Q,G⟩ = false → Bw W w' → K (.bool false) w':=fun w' e hb=>by rw [e] at k; exact k w' (hW.on hb)
 have k2:∀ w' v,validG ⟨P,Q,G⟩ = v → Bw W w' → K (.bool v) w':=fun w' v e hb=>by rw [e] at k; exact k w' (hW.on hb)
 clear k
 repeat (any_goals (first
 | (with_reducible first|((refine idGd ?_); first|refine zD ?_|((refine idGdD ?_); first|refine zI ?_|refine zJ ?_|refine zK (fun hg=>?_) fun hg=>?_)|((refine idGdN ?_); first|refine zO ?_|refine zP ?_|refine zQ (fun hg=>?_) fun hg=>?_))|((refine idPick ?_); first|refine yB ?_|refine yD ?_|refine yE ?_|refine yF ?_|refine yG ?_)|((refine idCond ?_); first|refine yL ?_|refine yP (fun hg=>?_) fun hg=>?_))
 | ((with_reducible refine oG fun X Y=>?_); simp [go_sem,c0,c1,c2,hr]; (try simp (disch:=omega) only [wrapI64,wrapU8,wrapU32,wrapU64]); apply Y; clear Y X)))
 all_goals try exact k1 _ (n1 (by omega)) hr
 refine rPrime_ok Q (fun w1 h1=>?_)
 have n2:=n2 (by omega)
 cases hq:primeM Q with
 | false=>
  have n2:validG ⟨P,Q,G⟩ = false:=by rw [n2,hq]; rfl
  repeat (any_goals (with_reducible first|refine zB ?_|refine yC ?_))
  exact k1 _ n2 h1
 | true=>
  rw [hq,bT] at n2
  repeat (any_goals (first
  | (with_reducible refine zA ?_)
  | ((with_reducible refine oG fun X Y=>?_); simp [go_sem,c0,h1]; apply Y; clear Y X)))
  refine rPrime_ok P (fun w2 h2=>?_)
  have h2:=h1.on h2
  cases hp:primeM P with
  | false=>
   have n2:validG ⟨P,Q,G⟩ = false:=by rw [n2,hp]; rfl
   repeat (any_goals (with_reducible first|refine zB ?_|((refine idPick ?_); first|refine yB ?_|refine yC ?_)))
   exact k1 _ n2 h2
  | true=>
   rw [hp,bT] at n2
   obtain ⟨q,hq'⟩:=natN Q (by omega)
   subst hq'
   repeat (any_goals (first
   | (with_reducible first|refine zA ?_|refine yB ?_)
   | ((with_reducible refine oG fun X Y=>?_); simp [go_sem,c0,c1,c2,h2]; apply Y; clear Y X)))
   refine rpow_ok P G q ⟨by omega,by omega⟩ (by omega) ?_
   rw [Int.toNat_natCast] at n2
   generalize pw P G q = z at *
   repeat (any_goals (first
   | (with_reducible first|refine zA ?_|refine yB ?_)
   | ((with_reducible refine oG fun X Y=>?_); simp [go_sem]; apply Y; clear Y X)))
   exact k2 _ _ n2 h2
@[reducible] def grpC (g:Grp):List Value:=[.int .i64 g.P,.int .i64 g.Q,.int .i64 g.G]
def memM (g:Grp) (x:Int):Bool:=decide (1 ≤ x) && decide (x < g.P) && decide (pw g.P x g.Q.toNat = 1)
theorem rMember_ok (g:Grp) (x:Int) (hP:okN g.P) (hQ:0 ≤ g.Q ∧ g.Q < 9223372036854775808) (k:∀ w',Bw w w' → K (.bool (memM g x)) w'):callM Tryz.prog 173 #[grpV g,.int .i64 x] K w:=by
 apply sh_173_ok
 unfold sh_173
 refine box_kn (cs:=grpC g) rfl (.start w) fun b W hk hb1 hb=>?_
 have k:=k W hk.below
 unfold memM at k
 have hp1:=hP.1
 by_cases h1:1 ≤ x
 ·by_cases h2:x < g.P
  ·rw [decide_eq_true h1,decide_eq_true h2,bT,bT] at k
   obtain ⟨q,hq⟩:=natN g.Q hQ.1
   repeat (any_goals (first
   | (with_reducible first|refine pureM_in ?_|refine zA ?_|refine yB ?_)
   | ((with_reducible refine oG fun X Y=>?_); simp [go_sem,hk.cells,h1,h2]; apply Y; clear Y X)))
   have e:(Value.int .i64 g.Q) = .int .i64 (q:Int):=by rw [hq]
   rw [e]
   refine rpow_ok g.P x q hP (by omega) ?_
   rw [hq,Int.toNat_natCast] at k
   generalize pw g.P x q = z at *
   repeat (any_goals (first
   | (with_reducible first|refine zA ?_|refine yB ?_)
   | ((with_reducible refine oG fun X Y=>?_); simp [go_sem]; apply Y; clear Y X)))
   exact k
  ·rw [decide_eq_false h2] at k
   repeat (any_goals (first
   | (with_reducible first|refine pureM_in ?_|((refine idGd ?_); first|refine zA ?_|refine zB ?_)|((refine idPick ?_); first|refine yB ?_|refine yC ?_))
   | ((with_reducible refine oG fun X Y=>?_); simp [go_sem,hk.cells,h1,h2]; apply Y; clear Y X)))
   simpa using k
 ·rw [decide_eq_false h1] at k
  repeat (any_goals (first
  | (with_reducible first|refine zB ?_|refine yC ?_)
  | ((with_reducible refine oG fun X Y=>?_); simp [go_sem,hk.cells,h1]; apply Y; clear Y X)))
  simpa using k
theorem validG_facts {g:Grp} (h:validG g = true):okN g.P ∧ okN g.Q ∧ 5 ≤ g.Q ∧ 2 ≤ g.G:=by
 unfold validG at h
 split at h
 ·cases h
 rename_i hn
 exact ⟨⟨by omega,by omega⟩,⟨by omega,by omega⟩,by omega,by omega⟩
theorem elemG_eq {g:Grp} (h:validG g = true) (x:Int):elemG g x = memM g x:=by
 unfold elemG memM; rw [h,Bool.and_true]
theorem rElement_ok (g:Grp) (x:Int) (hg:GrpR g) (k:∀ w',Bw w w' → K (.bool (elemG g x)) w'):callM Tryz.prog 146 #[grpV g,.int .i64 x] K w:=by
 apply sh_146_ok
 unfold sh_146
 refine box_kn (cs:=grpC g) rfl (.start w) fun b W hk hb1 hb=>?_
 have e0:elemG g x = (decide (1 ≤ x) && decide (x < g.P) && validG g && decide (pw g.P x g.Q.toNat = 1)):=rfl
 by_cases h1:1 ≤ x
 ·by_cases h2:x < g.P
  ·repeat (any_goals (first
   | (with_reducible first|refine pureM_in ?_|refine zA ?_|refine yB ?_)
   | ((with_reducible refine oG fun X Y=>?_); simp [go_sem,hk.cells,h1,h2]; apply Y; clear Y X)))
   refine rValidGroup_ok g hg (fun w1 h=>?_)
   have hk:=hk.next h
   cases hv:validG g with
   | false=>
    repeat (any_goals (with_reducible first|refine zB ?_|((refine idPick ?_); first|refine yB ?_|refine yC ?_)))
    have k:=k _ hk.below
    rw [e0,hv] at k
    simpa using k
   | true=>
    have hf:=validG_facts hv
    have hq:=hf.2.1.1
    have hq2:=hf.2.1.2
    repeat (any_goals (first
    | (with_reducible first|refine pureM_in ?_|refine zA ?_|refine yB ?_)
    | ((with_reducible refine oG fun X Y=>?_); simp [go_sem,hk.cells]; apply Y; clear Y X)))
    refine rMember_ok g x hf.1 ⟨by omega,by omega⟩ (fun w2 h=>?_)
    have hk:=hk.next h
    repeat (any_goals (with_reducible refine yB ?_))
    have k:=k _ hk.below
    rw [elemG_eq hv] at k
    exact k
  ·have k:=k _ hk.below
   rw [e0,decide_eq_false h2] at k
   repeat (any_goals (first
   | (with_reducible first|refine pureM_in ?_|((refine idGd ?_); first|refine zA ?_|refine zB ?_)|((refine idPick ?_); first|refine yB ?_|refine yC ?_))
   | ((with_reducible refine oG fun X Y=>?_); simp [go_sem,hk.cells,h1,h2]; apply Y; clear Y X)))
   simpa using k
 ·have k:=k _ hk.below
  rw [e0,decide_eq_false h1] at k
  repeat (any_goals (first
  | (with_reducible first|refine zB ?_|refine yC ?_)
  | ((with_reducible refine oG fun X Y=>?_); simp [go_sem,hk.cells,h1]; apply Y; clear Y X)))
  simpa using k
theorem rPower_ok (g:Grp) (x n:Int) (k:∀ w',Bw w w' → K (.int .i64 (powerG g x n)) w'):callM Tryz.prog 137 #[grpV g,.int .i64 x,.int .i64 n] K w:=by
 apply sh_137_ok
 unfold sh_137
 refine box_kn (cs:=grpC g) rfl (.start w) fun b W hk hb1 hb=>?_
 unfold powerG at k
 repeat (any_goals ((with_reducible refine oG fun X Y=>?_); simp [go_sem,hk.cells]; apply Y; clear Y X))
 refine rValid_ok g.P ?_
 by_cases hp:okN g.P
 ·repeat (any_goals (first
  | (with_reducible ((refine idGd ?_); ((refine idGdN ?_); refine zO ?_)))
  | ((with_reducible refine oG fun X Y=>?_); simp [go_sem,hk.cells]; apply Y; clear Y X)))
  refine rValid_ok g.Q ?_
  by_cases hq:okN g.Q
  ·rw [if_pos ⟨hp,hq⟩] at k
   repeat (any_goals (first
   | (with_reducible first|((refine idGd ?_); ((refine idGdN ?_); refine zO ?_))|refine yG ?_|refine yR ?_)
   | ((with_reducible refine oG fun X Y=>?_); simp [go_sem,hk.cells]; apply Y; clear Y X)))
   refine ⟨Kn w _,hk.drew,rfl,?_⟩
   repeat (any_goals (first
   | (with_reducible refine pX ?_)
   | ((with_reducible refine idOH ?_); (with_reducible refine oH_of ⟨_,rfl⟩ (fun W0 hW0=>by (refine oG (fun X Y=>?_)); simp [go_sem,hW0.cells]; (first | exact Y _ _ ⟨rfl,rfl⟩ | exact ⟨by omega,Y _ _ ⟨rfl,rfl⟩⟩)) ?_))))
   refine ⟨Nx,fun w1 hk=>?_⟩
   refine rResidue_ok g.Q n hq ?_
   have hq1:=hq.1
   have hq2:=hq.2
   have a3:=Int.emod_nonneg n (b:=g.Q) (by omega)
   have a4:=Int.emod_lt_of_pos n (b:=g.Q) (by omega)
   obtain ⟨m,hm⟩:=natN (n % g.Q) a3
   refine ⟨hk,?_⟩
   rw [hm] at k ⊢
   rw [Int.toNat_natCast] at k
   refine rpow_ok g.P x m hp (by omega) ?_
   exact ⟨hk,hk,k _ hk.below⟩
  ·rw [if_neg (fun h=>hq h.2)] at k
   repeat (any_goals (first
   | (with_reducible first|((refine idGd ?_); ((refine idGdN ?_); refine zO ?_))|refine yG ?_|refine yQ ?_)
   | ((with_reducible refine oG fun X Y=>?_); simp [go_sem,hk.cells]; apply Y; clear Y X)))
   exact k _ hk.below
 ·rw [if_neg (fun h=>hp h.1)] at k
  repeat (any_goals (first
  | (with_reducible first|((refine idGd ?_); ((refine idGdN ?_); refine zP ?_))|refine yF ?_|refine yL ?_)
  | ((with_reducible refine oG fun X Y=>?_); simp [go_sem,hk.cells]; apply Y; clear Y X)))
  exact k _ hk.below
theorem rTimes_ok (g:Grp) (x n:Int) (k:∀ w',Bw w w' → K (.int .i64 (timesG g x n)) w'):callM Tryz.prog 138 #[grpV g,.int .i64 x,.int .i64 n] K w:=by
 apply sh_138_ok
 unfold sh_138
 refine box_kn (cs:=grpC g) rfl (.start w) fun b W hk hb1 hb=>?_
 unfold timesG at k
 repeat (any_goals ((with_reducible refine oG fun X Y=>?_); simp [go_sem,hk.cells]; apply Y; clear Y X))
 refine rValid_ok g.Q ?_
 by_cases hq:okN g.Q
 ·rw [if_pos hq] at k
  repeat (any_goals (first
  | (with_reducible refine yR ?_)
  | ((with_reducible refine oG fun X Y=>?_); simp [go_sem,hk.cells]; apply Y; clear Y X)))
  refine rMul_ok g.P x n ?_
  exact k _ hk.below
 ·rw [if_neg hq] at k
  repeat (any_goals (first
  | (with_reducible refine yQ ?_)
  | ((with_reducible refine oG fun X Y=>?_); simp [go_sem,hk.cells]; apply Y; clear Y X)))
  exact k _ hk.below
def rpdMu (n:Nat) (l:List Value) (_:World):Nat:=match l with | [_,.int _ i]=>n - i.toNat | _=>0
theorem rpdMu_eq (n:Nat) (x:Value) (q:IntKind) (i:Int) (w:World):rpdMu n [x,.int q i] w = n - i.toNat:=rfl
theorem rother_ok (g:Grp) (x:Int) (hv:validG g = true) (k:∀ w',Bw w w' → K (.bool (otherM g x)) w'):callM Tryz.prog 111 #[grpV g,.int .i64 x] K w:=by
 apply sh_111_ok
 unfold sh_111
 refine box_kn (cs:=grpC g) rfl (.start w) fun b W hk hb1 hb=>?_
 unfold otherM at k
 by_cases hx:x = 1
 ·have k:=k _ hk.below
  repeat (any_goals (first
  | (with_reducible first|refine zB ?_|refine yC ?_)
  | ((with_reducible refine oG fun X Y=>?_); simp [go_sem,hk.cells,hx]; apply Y; clear Y X)))
  simpa [hx] using k
 ·have hf:=validG_facts hv
  have hq:=hf.2.1.1
  have hq2:=hf.2.1.2
  repeat (any_goals (first
  | (with_reducible first|refine pureM_in ?_|refine zA ?_)
  | ((with_reducible refine oG fun X Y=>?_); simp [go_sem,hk.cells,hx]; apply Y; clear Y X)))
  refine rMember_ok g x hf.1 ⟨by omega,by omega⟩ (fun w2 h=>?_)
  have k:=k _ (hk.next h).below
  rw [elemG_eq hv] at k
  repeat (any_goals (with_reducible refine yB ?_))
  simpa [hx] using k
def RvsJ (s:Stp) (L:List (Addr × Value)) (R:Bool) (w0:World) (l:List Value) (w':World):Prop:=Kn w0 L w' ∧ ∃ (v:Value) (i:Nat),l = [v,.int .i64 (i:Int)] ∧ i ≤ s.bases.length ∧ (s.bases.drop i).all (otherM s.g) = R
theorem rValidSetup_ok (s:Stp) {v:Value} (hs:SetR w s v) (k:∀ w',Bw w w' → K (.bool (validS s)) w'):callM Tryz.prog 22 #[stpV s v] K w:=by
 apply sh_22_ok
 unfold sh_22
 obtain ⟨ad,c,rfl⟩:=hs.ints.isSlice
 refine box_kn (cs:=stpC s (.slice ad s.bases.length c)) rfl (.start w) fun b W hk hb1 hb=>?_
 have k2:∀ w' r,validS s = r → Bw w w' → K (.bool r) w':=fun w' r e hb=>by rw [← e]; exact k w' hb
 have e0:validS s = (validG s.g && decide (2 ≤ s.bases.length) && decide (s.bases.length ≤ 7) && s.bases.all (otherM s.g) && otherM s.g s.blind):=rfl
 have hl:=hs.ints.len
 clear k
 repeat (any_goals ((with_reducible refine oG fun X Y=>?_); simp [go_sem,hk.cells]; apply Y; clear Y X))
 refine rValidGroup_ok s.g hs.grp (fun w1 h1=>?_)
 have hk:=hk.next h1
 clear h1 hb1
 cases hv:validG s.g with
 | false=>
  repeat (any_goals (first
  | (with_reducible first|refine zD ?_|refine yB ?_|refine yL ?_)
  | ((with_reducible refine oG fun X Y=>?_); simp [go_sem]; apply Y; clear Y X)))
  exact k2 _ _ (by rw [e0,hv]; simp) hk.below
 | true=>
  repeat (any_goals (first
  | (with_reducible first|((refine idGd ?_); first|refine zC ?_|refine zD ?_|((refine idGdD ?_); first|refine zI ?_|refine zJ ?_|refine zK (fun hg=>?_) fun hg=>?_))|((refine idPick ?_); first|refine yB ?_|refine yC ?_|refine yD ?_|refine yE ?_)|refine yL ?_)
  | ((with_reducible refine oG fun X Y=>?_); simp [go_sem,hk.cells]; apply Y; clear Y X)))
  ·exact k2 _ _ (by rw [e0]; simp; omega) hk.below
  ·exact k2 _ _ (by rw [e0]; simp; omega) hk.below
  refine rother_ok s.g s.blind hv (fun w3 h3=>?_)
  have hk:=hk.next h3
  have e1:validS s = (s.bases.all (otherM s.g) && otherM s.g s.blind):=by
   rw [e0,hv,decide_eq_true (by omega:2 ≤ s.bases.length),decide_eq_true (by omega:s.bases.length ≤ 7)]; rfl
  cases ho:otherM s.g s.blind with
  | false=>
   repeat (any_goals (first
   | (with_reducible first|((refine idGd ?_); ((refine idGdD ?_); refine zI ?_))|refine yE ?_|refine yL ?_)
   | ((with_reducible refine oG fun X Y=>?_); simp [go_sem,hk.cells]; apply Y; clear Y X)))
   exact k2 _ _ (by rw [e1,ho,Bool.and_false]) hk.below
  | true=>
  rw [ho,Bool.and_true] at e1
  repeat (any_goals (first
  | (with_reducible first|((refine idGd ?_); ((refine idGdD ?_); refine zI ?_))|refine yE ?_|refine yM ?_)
  | ((with_reducible refine oG fun X Y=>?_); simp [go_sem]; apply Y; clear Y X)))
  refine ⟨RvsJ s _ (s.bases.all (otherM s.g)) w,rpdMu s.bases.length,⟨hk,_,0,rfl,by omega,rfl⟩,?_⟩
  rw [e1] at k2
  generalize s.bases.all (otherM s.g) = R at *
  rintro _ _ w2 ⟨hk,u1,i,rfl,hi,hall⟩
  by_cases hin:i = s.bases.length
  ·rw [List.drop_of_length_le (by omega),List.all_nil] at hall
   repeat (any_goals (first
   | (with_reducible refine yO ?_)
   | ((with_reducible refine oG fun X Y=>?_); simp [go_sem,hk.cells]; apply Y; clear Y X)))
   exact k2 _ _ hall.symm hk.below
  ·rw [List.drop_eq_getElem_cons (by omega),List.all_cons] at hall
   obtain ⟨b1,o1,rfl,hb1,ca,ra,_⟩:=hs.ints.at (i:=i) (by omega)
   repeat (any_goals (first
   | (with_reducible refine yN ?_)
   | ((with_reducible refine oG fun X Y=>?_); simp [go_sem,hk.cells]; apply Y; clear Y X)))
   refine ⟨Kn w _,hk.drew,rfl,?_⟩
   repeat (any_goals (first
   | (with_reducible refine pX ?_)
   | ((with_reducible refine idOH ?_); (with_reducible refine oH_of ⟨_,rfl⟩ (fun W0 hW0=>by (refine oG (fun X Y=>?_)); simp [go_sem,hW0.cells,ca _ hW0.below]; (first | exact Y _ _ ⟨rfl,rfl⟩ | exact ⟨by omega,Y _ _ ⟨rfl,rfl⟩⟩)) ?_))))
   refine ⟨Nx,fun w1 hk=>?_⟩
   refine rother_ok s.g _ hv (fun w3 h3=>?_)
   have hk:=hk.next h3
   refine ⟨hk,?_⟩
   cases ho:otherM s.g s.bases[i] with
   | false=>
    rw [ho,bF] at hall
    repeat (any_goals (first
    | (with_reducible refine And.intro hk ?_)
    | (with_reducible refine yL ?_)
    | ((with_reducible refine oG fun X Y=>?_); simp [go_sem]; apply Y; clear Y X)))
    exact k2 _ _ hall.symm hk.below
   | true=>
    rw [ho,bT] at hall
    repeat (any_goals (first
    | (with_reducible refine And.intro hk ?_)
    | (with_reducible refine yM ?_)
    | ((with_reducible refine oG fun X Y=>?_); simp [go_sem]; (try simp (disch:=omega) only [wrapI64,wrapU8,wrapU32,wrapU64]); apply Y; clear Y X)))
    refine ⟨⟨hk,_,i + 1,rfl,by omega,hall⟩,?_⟩
    simp only [rpdMu_eq]; omega
end
end Go.Proofs
namespace Go.Proofs
open Go.Sh Tryz
end Go.Proofs
namespace Go.Proofs
open Go Go.Sh Tryz
def held_119_7 (J_2:List Value → World → Prop) (K:VK) (a1:Value) (l_4:List Value) (m_3:List Value → World → Nat) (v3:Value) (w0_l_4 w:World):Prop:=
 heldM w (fun C_7 w=>(((true:Bool) = true) ∧ (jL 26 v3 C_7 (fun v14=>
 pureH a1 C_7 (fun v15=>
 pureH (l_4.getD 1 undef) C_7 (fun v16=>
 jI 24 v15 v16 C_7 (fun v17=>
 jL 3 v17 C_7 (fun v18=>
 ∃ S_13:World → WK,∀ w,C_7 w → (
 callM prog 85 #[v14,v18] (fun v19 w=>
 kU v19 (fun v20 w=>
 condM v20
 (K (.bool false) w)
 (kB .add 3 3 (l_4.getD 1 undef) (.int .i64 1) (fun v13 w=>
 J_2 [(l_4.getD 0 undef),v13] w ∧ m_3 [(l_4.getD 0 undef),v13] w < m_3 l_4 w0_l_4) w)) w) w)))))))))
def sh_119 (a0 a1 a2:Value) (K:VK) (w:World):Prop:=
 oM prog (.box 26 (.tmp 0)) 0 [a0] (fun v3 w=>
 loopM [(.bool false),(.int .i64 0)] w (fun J_2 m_3 l_4 u_l_4 w0_l_4=>(fun w=>(
 kN 24 a1 (fun v10 w=>
 kB .lss 3 4 (l_4.getD 1 undef) v10 (fun v11 w=>
 condM v11
 (held_119_7 J_2 K a1 l_4 m_3 v3 w0_l_4 w)
 (kN 24 a1 (fun v22 w=>
 kB .eql 3 4 v22 a2 (fun v24 w=>
 K v24 w) w) w)) w) w)) w0_l_4)) w
theorem sh_119_ok {a0 a1 a2:Value} {K:VK} {w:World} (h:sh_119 a0 a1 a2 K w):callM prog 119 #[a0,a1,a2] K w:=
 calls_of_code (fun _=>.free [0,1,2,3,4] [] [5,6]) (fn:=Tryz.f119) (rs:=[.tmp 6]) Tryz.func119 rfl rfl (by kernel_rfl) (nB rfl) (Eq.mp (by kernel_rfl) h)
def held_32_31 (J_24:List Value → World → Prop) (K:VK) (a1 a2:Value) (l_26 l_7:List Value) (m_25:List Value → World → Nat) (v3:Value) (w0_l_26 w:World):Prop:=
 heldM w (fun C_31 w=>(((true:Bool) = true) ∧ (pureH a2 C_31 (fun v41=>
 pureH (l_7.getD 2 undef) C_31 (fun v42=>
 jI 28 v41 v42 C_31 (fun v43=>
 jL 114 v43 C_31 (fun v44=>
 pureH (l_26.getD 1 undef) C_31 (fun v45=>
 jI 114 v44 v45 C_31 (fun v46=>
 jF 113 0 v46 C_31 (fun v47=>
 jL 4 v47 C_31 (fun v48=>
 pureH v48 C_31 (fun v49=>
 jT v49 (jL 26 v3) C_31 (fun v50=>
 jT v49 (pureH a2) C_31 (fun v51=>
 jT v49 (pureH (l_7.getD 2 undef)) C_31 (fun v52=>
 jT v49 (jI 28 v51 v52) C_31 (fun v53=>
 jT v49 (jL 114 v53) C_31 (fun v54=>
 jT v49 (pureH (l_26.getD 1 undef)) C_31 (fun v55=>
 jT v49 (jI 114 v54 v55) C_31 (fun v56=>
 jT v49 (jF 113 1 v56) C_31 (fun v57=>
 jT v49 (jL 24 v57) C_31 (fun v58=>
 jT v49 (pureH a1) C_31 (fun v59=>
 jT v49 (pureH (l_7.getD 2 undef)) C_31 (fun v60=>
 jT v49 (jI 27 v59 v60) C_31 (fun v61=>
 jT v49 (jF 65 1 v61) C_31 (fun v62=>
 jT v49 (jL 63 v62) C_31 (fun v63=>
 jT v49 (pureH (l_26.getD 1 undef)) C_31 (fun v64=>
 jT v49 (jI 63 v63 v64) C_31 (fun v65=>
 jT v49 (jF 69 0 v65) C_31 (fun v66=>
 jT v49 (jL 3 v66) C_31 (fun v67=>
 ∃ S_59:World → WK,∀ w,C_31 w → (
 gT v49 (callM prog 119 #[v50,v58,v67]) (fun v68 w=>
 gT v49 (kU v68) (fun v69 w=>
 kP v49 v69 (.bool false) (fun v70 w=>
 condM v70
 (K (.bool false) w)
 (kB .add 3 3 (l_26.getD 1 undef) (.int .i64 1) (fun v40 w=>
 J_24 [(l_26.getD 0 undef),v40] w ∧ m_25 [(l_26.getD 0 undef),v40] w < m_25 l_26 w0_l_26) w)) w) w) w)))))))))))))))))))))))))))))))
def loop_32_24 (J_24 J_5:List Value → World → Prop) (K:VK) (a1 a2:Value) (l_26 l_7:List Value) (m_25 m_6:List Value → World → Nat) (v3:Value) (w0_l_7 w0_l_26:World):Prop:=
(fun w=>(
 kI 28 a2 (l_7.getD 2 undef) (fun v35 w=>
 kL 114 v35 (fun v36 w=>
 kN 114 v36 (fun v37 w=>
 kB .lss 3 4 (l_26.getD 1 undef) v37 (fun v38 w=>
 condM v38
 (held_32_31 J_24 K a1 a2 l_26 l_7 m_25 v3 w0_l_26 w)
 (kB .add 3 3 (l_7.getD 2 undef) (.int .i64 1) (fun v19 w=>
 J_5 [(l_26.getD 0 undef),(l_26.getD 1 undef),v19] w ∧ m_6 [(l_26.getD 0 undef),(l_26.getD 1 undef),v19] w < m_6 l_7 w0_l_7) w)) w) w) w) w)) w0_l_26
def held_32_10 (J_5:List Value → World → Prop) (K:VK) (a1 a2:Value) (l_7:List Value) (m_6:List Value → World → Nat) (v3:Value) (w0_l_7 w:World):Prop:=
 heldM w (fun C_10 w=>(((true:Bool) = true) ∧ (pureH a2 C_10 (fun v20=>
 pureH (l_7.getD 2 undef) C_10 (fun v21=>
 jI 28 v20 v21 C_10 (fun v22=>
 jL 114 v22 C_10 (fun v23=>
 jN 114 v23 C_10 (fun v24=>
 pureH a1 C_10 (fun v25=>
 pureH (l_7.getD 2 undef) C_10 (fun v26=>
 jI 27 v25 v26 C_10 (fun v27=>
 jF 65 1 v27 C_10 (fun v28=>
 jL 63 v28 C_10 (fun v29=>
 jN 63 v29 C_10 (fun v30=>
 jB .neq 3 4 v24 v30 C_10 (fun v31=>
 ∃ S_23:World → WK,∀ w,C_10 w → (
 condM v31
 (K (.bool false) w)
 (loopM [(l_7.getD 0 undef),(.int .i64 0)] w (fun J_24 m_25 l_26 u_l_26 w0_l_26=>loop_32_24 J_24 J_5 K a1 a2 l_26 l_7 m_25 m_6 v3 w0_l_7 w0_l_26))))))))))))))))))
def sh_32 (a0 a1 a2:Value) (K:VK) (w:World):Prop:=
 oM prog (.box 26 (.tmp 0)) 0 [a0] (fun v3 w=>
 kN 28 a2 (fun v10 w=>
 kN 27 a1 (fun v12 w=>
 kB .neq 3 4 v10 v12 (fun v13 w=>
 condM v13
 (K (.bool false) w)
 (loopM [(.bool false),undef,(.int .i64 0)] w (fun J_5 m_6 l_7 u_l_7 w0_l_7=>(fun w=>(
 kN 27 a1 (fun v16 w=>
 kB .lss 3 4 (l_7.getD 2 undef) v16 (fun v17 w=>
 condM v17
 (held_32_10 J_5 K a1 a2 l_7 m_6 v3 w0_l_7 w)
 (K (.bool true) w)) w) w)) w0_l_7))) w) w) w) w
theorem sh_32_ok {a0 a1 a2:Value} {K:VK} {w:World} (h:sh_32 a0 a1 a2 K w):callM prog 32 #[a0,a1,a2] K w:=
 calls_of_code (fun i=>bif Nat.beq i 6 then .free [0,1,2,3,4,5,6,7,8,9,10,11] [] [] else bif Nat.beq i 11 then .free [0,1,2,3,4,5,6,7,8,9,10,11,12,13,14,15,16,17,18,19,20,21,22,23,24,25,26] [] [27,28,29] else 0) (fn:=Tryz.f32) (rs:=[.tmp 6]) Tryz.func32 rfl rfl (by kernel_rfl) (nB rfl) (Eq.mp (by kernel_rfl) h)
def held_33_64 (J_60:List Value → World → Prop) (K:VK) (a1 a3:Value) (l_13 l_62:List Value) (m_61:List Value → World → Nat) (v4:Value) (w0_l_62 w:World):Prop:=
 heldM w (fun C_64 w=>(((true:Bool) = true) ∧ (jL 26 v4 C_64 (fun v58=>
 pureH a3 C_64 (fun v59=>
 pureH (l_13.getD 3 undef) C_64 (fun v60=>
 jI 29 v59 v60 C_64 (fun v61=>
 jL 30 v61 C_64 (fun v62=>
 pureH (l_62.getD 1 undef) C_64 (fun v63=>
 jI 30 v62 v63 C_64 (fun v64=>
 jL 24 v64 C_64 (fun v65=>
 pureH a1 C_64 (fun v66=>
 pureH (l_13.getD 3 undef) C_64 (fun v67=>
 jI 27 v66 v67 C_64 (fun v68=>
 jF 65 1 v68 C_64 (fun v69=>
 jL 63 v69 C_64 (fun v70=>
 pureH (l_62.getD 1 undef) C_64 (fun v71=>
 jI 63 v70 v71 C_64 (fun v72=>
 jF 69 0 v72 C_64 (fun v73=>
 jL 3 v73 C_64 (fun v74=>
 ∃ S_82:World → WK,∀ w,C_64 w → (
 callM prog 119 #[v58,v65,v74] (fun v75 w=>
 kU v75 (fun v76 w=>
 condM v76
 (K (.bool false) w)
 (kB .add 3 3 (l_62.getD 1 undef) (.int .i64 1) (fun v57 w=>
 J_60 [(l_62.getD 0 undef),v57] w ∧ m_61 [(l_62.getD 0 undef),v57] w < m_61 l_62 w0_l_62) w)) w) w)))))))))))))))))))))
def held_33_20 (J_11:List Value → World → Prop) (K:VK) (a1 a2 a3:Value) (l_13:List Value) (m_12:List Value → World → Nat) (v35 v4:Value) (w0_l_13 w:World):Prop:=
 heldM w (fun C_20 w=>(((true:Bool) = true) ∧ (jL 26 v4 C_20 (fun v36=>
 pureH a2 C_20 (fun v37=>
 pureH (l_13.getD 3 undef) C_20 (fun v38=>
 jI 30 v37 v38 C_20 (fun v39=>
 jL 24 v39 C_20 (fun v40=>
 pureH v35 C_20 (fun v41=>
 ∃ S_27:World → WK,∃ R_28:VK,(∀ v w w_1,S_27 w w_1 → R_28 v w → R_28 v w_1) ∧
 (∀ w,C_20 w → (callM prog 119 #[v36,v40,v41] (fun v w_1=>C_20 w_1 ∧ S_27 w w_1 ∧ R_28 v w_1) w)) ∧
 (∃ R_29:VK,(∀ v w w_1,S_27 w w_1 → R_29 v w → R_29 v w_1) ∧
 (∀ w,C_20 w → ∀ v42,R_28 v42 w → (kU v42 (fun v w_1=>C_20 w_1 ∧ S_27 w w_1 ∧ R_29 v w_1) w)) ∧
 (∃ R_31:VK,(∀ v w w_1,S_27 w w_1 → R_31 v w → R_31 v w_1) ∧
 (∀ w,C_20 w → ∀ v43,R_29 v43 w → (C_20 w ∧ S_27 w w ∧ R_31 v43 w)) ∧
 (∃ R_33:VK,(∀ v w w_1,S_27 w w_1 → R_33 v w → R_33 v w_1) ∧
 (∀ w,C_20 w → ∀ v44,R_31 v44 w → (gF v44 (pureM a3) (fun v w_1=>C_20 w_1 ∧ S_27 w w_1 ∧ R_33 v w_1) w)) ∧
 (∃ R_35:VK,(∀ v w w_1,S_27 w w_1 → R_35 v w → R_35 v w_1) ∧
 (∀ w,C_20 w → ∀ v44,R_31 v44 w → (gF v44 (pureM (l_13.getD 3 undef)) (fun v w_1=>C_20 w_1 ∧ S_27 w w_1 ∧ R_35 v w_1) w)) ∧
 (∃ R_37:VK,(∀ v w w_1,S_27 w w_1 → R_37 v w → R_37 v w_1) ∧
 (∀ w,C_20 w → ∀ v44,R_31 v44 w → ∀ v45,R_33 v45 w → ∀ v46,R_35 v46 w → (gF v44 (kI 29 v45 v46) (fun v w_1=>C_20 w_1 ∧ S_27 w w_1 ∧ R_37 v w_1) w)) ∧
 (∃ R_41:VK,(∀ v w w_1,S_27 w w_1 → R_41 v w → R_41 v w_1) ∧
 (∀ w,C_20 w → ∀ v44,R_31 v44 w → ∀ v47,R_37 v47 w → (gF v44 (kL 30 v47) (fun v w_1=>C_20 w_1 ∧ S_27 w w_1 ∧ R_41 v w_1) w)) ∧
 (∃ R_44:VK,(∀ v w w_1,S_27 w w_1 → R_44 v w → R_44 v w_1) ∧
 (∀ w,C_20 w → ∀ v44,R_31 v44 w → ∀ v48,R_41 v48 w → (gF v44 (kN 30 v48) (fun v w_1=>C_20 w_1 ∧ S_27 w w_1 ∧ R_44 v w_1) w)) ∧
 (∃ R_47:VK,(∀ v w w_1,S_27 w w_1 → R_47 v w → R_47 v w_1) ∧
 (∀ w,C_20 w → ∀ v44,R_31 v44 w → (gF v44 (pureM v35) (fun v w_1=>C_20 w_1 ∧ S_27 w w_1 ∧ R_47 v w_1) w)) ∧
 (∀ w,C_20 w → ∀ v42,R_28 v42 w → ∀ v43,R_29 v43 w → ∀ v44,R_31 v44 w → ∀ v45,R_33 v45 w → ∀ v46,R_35 v46 w → ∀ v47,R_37 v47 w → ∀ v48,R_41 v48 w → ∀ v49,R_44 v49 w → ∀ v50,R_47 v50 w → (
 gF v44 (kB .neq 3 4 v49 v50) (fun v51 w=>
 kP v44 (.bool true) v51 (fun v52 w=>
 condM v52
 (K (.bool false) w)
 (loopM [(l_13.getD 1 undef),(.int .i64 0)] w (fun J_60 m_61 l_62 u_l_62 w0_l_62=>(fun w=>(
 kB .lss 3 4 (l_62.getD 1 undef) v35 (fun v55 w=>
 condM v55
 (held_33_64 J_60 K a1 a3 l_13 l_62 m_61 v4 w0_l_62 w)
 (kB .add 3 3 (l_13.getD 3 undef) (.int .i64 1) (fun v29 w=>
 J_11 [v35,(l_62.getD 0 undef),(l_62.getD 1 undef),v29] w ∧ m_12 [v35,(l_62.getD 0 undef),(l_62.getD 1 undef),v29] w < m_12 l_13 w0_l_13) w)) w)) w0_l_62))) w) w)))))))))))))))))))
def sh_33 (a0 a1 a2 a3:Value) (K:VK) (w:World):Prop:=
 oM prog (.box 26 (.tmp 0)) 0 [a0] (fun v4 w=>
 kN 30 a2 (fun v13 w=>
 kN 27 a1 (fun v15 w=>
 kB .neq 3 4 v13 v15 (fun v16 w=>
 gF v16 (pureM a3) (fun v18 w=>
 gF v16 (kN 29 v18) (fun v19 w=>
 gF v16 (pureM a1) (fun v20 w=>
 gF v16 (kN 27 v20) (fun v21 w=>
 gF v16 (kB .neq 3 4 v19 v21) (fun v22 w=>
 kP v16 (.bool true) v22 (fun v23 w=>
 condM v23
 (K (.bool false) w)
 (loopM [undef,(.bool false),undef,(.int .i64 0)] w (fun J_11 m_12 l_13 u_l_13 w0_l_13=>(fun w=>(
 kN 27 a1 (fun v26 w=>
 kB .lss 3 4 (l_13.getD 3 undef) v26 (fun v27 w=>
 condM v27
 (kI 27 a1 (l_13.getD 3 undef) (fun v32 w=>
 kF 65 1 v32 (fun v33 w=>
 kL 63 v33 (fun v34 w=>
 kN 63 v34 (fun v35 w=>
 held_33_20 J_11 K a1 a2 a3 l_13 m_12 v35 v4 w0_l_13 w) w) w) w) w)
 (K (.bool true) w)) w) w)) w0_l_13))) w) w) w) w) w) w) w) w) w) w
theorem sh_33_ok {a0 a1 a2 a3:Value} {K:VK} {w:World} (h:sh_33 a0 a1 a2 a3 K w):callM prog 33 #[a0,a1,a2,a3] K w:=
 calls_of_code (fun i=>bif Nat.beq i 7 then .free [0,1,2,3,4,5] [6,7,8,9,10,11,12,13,14] [15,16] else bif Nat.beq i 12 then .free [0,1,2,3,4,5,6,7,8,9,10,11,12,13,14,15,16] [] [17,18] else 0) (fn:=Tryz.f33) (rs:=[.tmp 8]) Tryz.func33 rfl rfl (by kernel_rfl) (nB rfl) (Eq.mp (by kernel_rfl) h)
def held_101_18 (M_16:List Value → World → Prop) (a2:Value) (l_11:List Value) (v14 v3 v4:Value) (w:World):Prop:=
 heldM w (fun C_18 w=>(((true:Bool) = true) ∧ (pureH (l_11.getD 0 undef) C_18 (fun v24=>
 jB .gtr 3 4 v24 (.int .i64 0) C_18 (fun v25=>
 pureH v25 C_18 (fun v26=>
 jT v26 (pureH a2) C_18 (fun v27=>
 jT v26 (pureH (l_11.getD 1 undef)) C_18 (fun v28=>
 jT v26 (jI 114 v27 v28) C_18 (fun v29=>
 jT v26 (jF 113 0 v29) C_18 (fun v30=>
 jT v26 (jL 4 v30) C_18 (fun v31=>
 jP v26 v31 (.bool false) C_18 (fun v32=>
 pureH v32 C_18 (fun v33=>
 jT v33 (jL 26 v3) C_18 (fun v34=>
 jT v33 (jF 65 1 v4) C_18 (fun v35=>
 jT v33 (jL 63 v35) C_18 (fun v36=>
 jT v33 (pureH (l_11.getD 1 undef)) C_18 (fun v37=>
 jT v33 (jI 63 v36 v37) C_18 (fun v38=>
 jT v33 (jL 69 v38) C_18 (fun v39=>
 jT v33 (pureH a2) C_18 (fun v40=>
 jT v33 (pureH (l_11.getD 1 undef)) C_18 (fun v41=>
 jT v33 (jI 114 v40 v41) C_18 (fun v42=>
 jT v33 (jF 113 1 v42) C_18 (fun v43=>
 jT v33 (jL 24 v43) C_18 (fun v44=>
 ∃ S_40:World → WK,∀ w,C_18 w → (
 gT v33 (callM prog 61 #[v34,v39,v44]) (fun v45 w=>
 kP v33 v45 (.bool false) (fun v46 w=>
 condM v46
 (kI 61 v14 (l_11.getD 1 undef) (fun v49 w=>
 kS 4 v49 (.bool true) (fun _ w=>
 kB .sub 3 3 (l_11.getD 0 undef) (.int .i64 1) (fun v51 w=>
 M_16 [v51] w) w) w) w)
 (M_16 [(l_11.getD 0 undef)] w)) w) w)))))))))))))))))))))))))
def loop_101_9 (J_9:List Value → World → Prop) (K:VK) (a2:Value) (l_11:List Value) (m_10:List Value → World → Nat) (v14 v3 v4:Value) (w0_l_11:World):Prop:=
(fun w=>(
 kF 65 1 v4 (fun v18 w=>
 kL 63 v18 (fun v19 w=>
 kN 63 v19 (fun v20 w=>
 kB .lss 3 4 (l_11.getD 1 undef) v20 (fun v21 w=>
 condM v21
 (joinM (fun M_16=>(held_101_18 M_16 a2 l_11 v14 v3 v4 w))
 (fun l_17 u_l_17 w=>(kB .add 3 3 (l_11.getD 1 undef) (.int .i64 1) (fun v23 w=>
 J_9 [(l_17.getD 0 undef),v23] w ∧ m_10 [(l_17.getD 0 undef),v23] w < m_10 l_11 w0_l_11) w)))
 (kC .eql 3 0 4 (l_11.getD 0 undef) (fun v54 w=>
 K (.tuple #[v14,v54]) w) w)) w) w) w) w)) w0_l_11
def sh_101 (a0 a1 a2:Value) (K:VK) (w:World):Prop:=
 oM prog (.box 26 (.tmp 0)) 0 [a0] (fun v3 w=>
 oM prog (.box 65 (.tmp 0)) 0 [a1] (fun v4 w=>
 kF 65 1 v4 (fun v11 w=>
 kL 63 v11 (fun v12 w=>
 kN 63 v12 (fun v13 w=>
 oM prog (.makeSlice 61 (.tmp 0) (.tmp 1)) 61 [v13,v13] (fun v14 w=>
 kF 65 0 v4 (fun v15 w=>
 kL 3 v15 (fun v16 w=>
 loopM [v16,(.int .i64 0)] w (fun J_9 m_10 l_11 u_l_11 w0_l_11=>loop_101_9 J_9 K a2 l_11 m_10 v14 v3 v4 w0_l_11)) w) w) w) w) w) w) w) w
theorem sh_101_ok {a0 a1 a2:Value} {K:VK} {w:World} (h:sh_101 a0 a1 a2 K w):callM prog 101 #[a0,a1,a2] K w:=
 calls_of_code (fun _=>.free [0,1,2,3,4,5,6,7,8,9,10,11,12,13,14,15,16,17,18,19,20] [] [21,22]) (fn:=Tryz.f101) (rs:=[.tmp 6,.tmp 7]) Tryz.func101 rfl rfl (by kernel_rfl) (nB rfl) (Eq.mp (by kernel_rfl) h)
def loop_35_32 (J_2 J_32:List Value → World → Prop) (K:VK) (a3:Value) (l_34 l_4:List Value) (m_3 m_33:List Value → World → Nat) (v10 v31:Value) (w0_l_4 w0_l_34:World):Prop:=
(fun w=>(
 kN 61 v10 (fun v34 w=>
 kB .lss 3 4 (l_34.getD 1 undef) v34 (fun v35 w=>
 condM v35
 (kI 61 v10 (l_34.getD 1 undef) (fun v40 w=>
 kL 4 v40 (fun v41 w=>
 gT v41 (pureM a3) (fun v43 w=>
 gT v41 (pureM (l_4.getD 4 undef)) (fun v44 w=>
 gT v41 (kI 30 v43 v44) (fun v45 w=>
 gT v41 (kL 24 v45) (fun v46 w=>
 gT v41 (pureM (l_34.getD 1 undef)) (fun v47 w=>
 gT v41 (kI 24 v46 v47) (fun v48 w=>
 gT v41 (kL 3 v48) (fun v49 w=>
 gT v41 (kC .neq 3 0 4 v49) (fun v50 w=>
 kP v41 v50 (.bool false) (fun v51 w=>
 condM v51
 (K (.bool false) w)
 (kB .add 3 3 (l_34.getD 1 undef) (.int .i64 1) (fun v37 w=>
 J_32 [(l_34.getD 0 undef),v37] w ∧ m_33 [(l_34.getD 0 undef),v37] w < m_33 l_34 w0_l_34) w)) w) w) w) w) w) w) w) w) w) w) w)
 (kB .add 3 3 (l_4.getD 4 undef) (.int .i64 1) (fun v18 w=>
 J_2 [v10,v31,(l_34.getD 1 undef),(l_34.getD 0 undef),v18] w ∧ m_3 [v10,v31,(l_34.getD 1 undef),(l_34.getD 0 undef),v18] w < m_3 l_4 w0_l_4) w)) w) w)) w0_l_34
def held_35_7 (J_2:List Value → World → Prop) (K:VK) (a1 a2 a3:Value) (l_4:List Value) (m_3:List Value → World → Nat) (v4:Value) (w0_l_4 w:World):Prop:=
 heldM w (fun C_7 w=>(((true:Bool) = true) ∧ (jL 26 v4 C_7 (fun v20=>
 pureH a1 C_7 (fun v21=>
 pureH (l_4.getD 4 undef) C_7 (fun v22=>
 jI 27 v21 v22 C_7 (fun v23=>
 jL 65 v23 C_7 (fun v24=>
 pureH a2 C_7 (fun v25=>
 pureH (l_4.getD 4 undef) C_7 (fun v26=>
 jI 28 v25 v26 C_7 (fun v27=>
 jL 114 v27 C_7 (fun v28=>
 ∃ S_17:World → WK,∃ R_18:VK,(∀ v w w_1,S_17 w w_1 → R_18 v w → R_18 v w_1) ∧
 (∀ w,C_7 w → (callM prog 101 #[v20,v24,v28] (fun v w_1=>C_7 w_1 ∧ S_17 w w_1 ∧ R_18 v w_1) w)) ∧
 (∃ R_19:VK,(∀ v w w_1,S_17 w w_1 → R_19 v w → R_19 v w_1) ∧
 (∀ w,C_7 w → ∀ v29,R_18 v29 w → (C_7 w ∧ S_17 w w ∧ R_19 v29 w)) ∧
 (∃ R_21:VK,(∀ v w w_1,S_17 w w_1 → R_21 v w → R_21 v w_1) ∧
 (∀ w,C_7 w → ∀ v19,R_19 v19 w → (kE 0 61 v19 (fun v w_1=>C_7 w_1 ∧ S_17 w w_1 ∧ R_21 v w_1) w)) ∧
 (∃ R_23:VK,(∀ v w w_1,S_17 w w_1 → R_23 v w → R_23 v w_1) ∧
 (∀ w,C_7 w → ∀ v19,R_19 v19 w → (kE 1 4 v19 (fun v w_1=>C_7 w_1 ∧ S_17 w w_1 ∧ R_23 v w_1) w)) ∧
 (∃ R_25:VK,(∀ v w w_1,S_17 w w_1 → R_25 v w → R_25 v w_1) ∧
 (∀ w,C_7 w → ∀ v30,R_21 v30 w → (C_7 w ∧ S_17 w w ∧ R_25 v30 w)) ∧
 (∀ w,C_7 w → ∀ v29,R_18 v29 w → ∀ v19,R_19 v19 w → ∀ v30,R_21 v30 w → ∀ v31,R_23 v31 w → ∀ v10,R_25 v10 w → (
 loopM [(l_4.getD 3 undef),(.int .i64 0)] w (fun J_32 m_33 l_34 u_l_34 w0_l_34=>loop_35_32 J_2 J_32 K a3 l_34 l_4 m_3 m_33 v10 v31 w0_l_4 w0_l_34)))))))))))))))))))
def sh_35 (a0 a1 a2 a3:Value) (K:VK) (w:World):Prop:=
 oM prog (.box 26 (.tmp 0)) 0 [a0] (fun v4 w=>
 loopM [undef,undef,undef,(.bool false),(.int .i64 0)] w (fun J_2 m_3 l_4 u_l_4 w0_l_4=>(fun w=>(
 kN 27 a1 (fun v15 w=>
 kB .lss 3 4 (l_4.getD 4 undef) v15 (fun v16 w=>
 condM v16
 (held_35_7 J_2 K a1 a2 a3 l_4 m_3 v4 w0_l_4 w)
 (K (.bool true) w)) w) w)) w0_l_4)) w
theorem sh_35_ok {a0 a1 a2 a3:Value} {K:VK} {w:World} (h:sh_35 a0 a1 a2 a3 K w):callM prog 35 #[a0,a1,a2,a3] K w:=
 calls_of_code (fun _=>.free [0,1,2,3,4,5,6,7,8] [9,10,11,12,13] [14]) (fn:=Tryz.f35) (rs:=[.tmp 8]) Tryz.func35 rfl rfl (by kernel_rfl) (nB rfl) (Eq.mp (by kernel_rfl) h)
def held_61_25 (J_18:List Value → World → Prop) (K:VK) (a2:Value) (l_20:List Value) (m_19:List Value → World → Nat) (v3 v4:Value) (w0_l_20 w:World):Prop:=
 heldM w (fun C_25 w=>(((true:Bool) = true) ∧ (jL 26 v3 C_25 (fun v32=>
 jF 69 1 v4 C_25 (fun v33=>
 jL 67 v33 C_25 (fun v34=>
 pureH (l_20.getD 1 undef) C_25 (fun v35=>
 jI 67 v34 v35 C_25 (fun v36=>
 jL 144 v36 C_25 (fun v37=>
 pureH a2 C_25 (fun v38=>
 jF 69 1 v4 C_25 (fun v40=>
 jL 67 v40 C_25 (fun v41=>
 pureH (l_20.getD 1 undef) C_25 (fun v42=>
 jI 67 v41 v42 C_25 (fun v43=>
 jF 144 0 v43 C_25 (fun v44=>
 jL 3 v44 C_25 (fun v45=>
 ∃ S_39:World → WK,∃ R_40:VK,(∀ v w w_1,S_39 w w_1 → R_40 v w → R_40 v w_1) ∧
 (∀ w,C_25 w → (callM prog 139 #[v32,v37,v38] (fun v w_1=>C_25 w_1 ∧ S_39 w w_1 ∧ R_40 v w_1) w)) ∧
 (∀ w,C_25 w → ∀ v39,R_40 v39 w → (
 kB .neq 3 4 v39 v45 (fun v46 w=>
 condM v46
 (K (.bool false) w)
 (kB .add 3 3 (l_20.getD 1 undef) (.int .i64 1) (fun v31 w=>
 J_18 [(l_20.getD 0 undef),v31] w ∧ m_19 [(l_20.getD 0 undef),v31] w < m_19 l_20 w0_l_20) w)) w))))))))))))))))))
def sh_61 (a0 a1 a2:Value) (K:VK) (w:World):Prop:=
 oM prog (.box 26 (.tmp 0)) 0 [a0] (fun v3 w=>
 oM prog (.box 69 (.tmp 0)) 0 [a1] (fun v4 w=>
 kL 26 v3 (fun v8 w=>
 callM prog 22 #[v8] (fun v9 w=>
 kU v9 (fun v10 w=>
 gF v10 (kL 26 v3) (fun v12 w=>
 gF v10 (kL 69 v4) (fun v13 w=>
 gF v10 (callM prog 113 #[v12,v13]) (fun v14 w=>
 gF v10 (kU v14) (fun v15 w=>
 kP v10 (.bool true) v15 (fun v16 w=>
 gF v16 (kL 26 v3) (fun v18 w=>
 gF v16 (pureM a2) (fun v19 w=>
 gF v16 (kF 69 0 v4) (fun v20 w=>
 gF v16 (kL 3 v20) (fun v21 w=>
 gF v16 (callM prog 119 #[v18,v19,v21]) (fun v22 w=>
 gF v16 (kU v22) (fun v23 w=>
 kP v16 (.bool true) v23 (fun v24 w=>
 condM v24
 (K (.bool false) w)
 (loopM [(.bool false),(.int .i64 0)] w (fun J_18 m_19 l_20 u_l_20 w0_l_20=>(fun w=>(
 kF 69 1 v4 (fun v26 w=>
 kL 67 v26 (fun v27 w=>
 kN 67 v27 (fun v28 w=>
 kB .lss 3 4 (l_20.getD 1 undef) v28 (fun v29 w=>
 condM v29
 (held_61_25 J_18 K a2 l_20 m_19 v3 v4 w0_l_20 w)
 (K (.bool true) w)) w) w) w) w)) w0_l_20))) w) w) w) w) w) w) w) w) w) w) w) w) w) w) w) w) w
theorem sh_61_ok {a0 a1 a2:Value} {K:VK} {w:World} (h:sh_61 a0 a1 a2 K w):callM prog 61 #[a0,a1,a2] K w:=
 calls_of_code (fun _=>.free [0,1,2,3,4,5,6,8,9,10,11,12,13] [7] [14]) (fn:=Tryz.f61) (rs:=[.tmp 6]) Tryz.func61 rfl rfl (by kernel_rfl) (nB rfl) (Eq.mp (by kernel_rfl) h)
def held_113_50 (J_43:List Value → World → Prop) (K:VK) (l_45:List Value) (m_44:List Value → World → Nat) (v2 v3 v6:Value) (w0_l_45 w:World):Prop:=
 heldM w (fun C_50 w=>(((true:Bool) = true) ∧ (jF 144 1 v6 C_50 (fun v59=>
 jL 142 v59 C_50 (fun v60=>
 pureH (l_45.getD 1 undef) C_50 (fun v61=>
 jI 142 v60 v61 C_50 (fun v62=>
 jF 146 0 v62 C_50 (fun v63=>
 jL 3 v63 C_50 (fun v64=>
 jB .lss 3 4 v64 (.int .i64 0) C_50 (fun v65=>
 pureH v65 C_50 (fun v66=>
 jG v66 (jF 144 1 v6) C_50 (fun v67=>
 jG v66 (jL 142 v67) C_50 (fun v68=>
 jG v66 (pureH (l_45.getD 1 undef)) C_50 (fun v69=>
 jG v66 (jI 142 v68 v69) C_50 (fun v70=>
 jG v66 (jF 146 0 v70) C_50 (fun v71=>
 jG v66 (jL 3 v71) C_50 (fun v72=>
 jG v66 (jF 69 0 v3) C_50 (fun v73=>
 jG v66 (jL 3 v73) C_50 (fun v74=>
 jG v66 (jB .geq 3 4 v72 v74) C_50 (fun v75=>
 jP v66 (.bool true) v75 C_50 (fun v76=>
 pureH v76 C_50 (fun v77=>
 jG v77 (jF 26 0 v2) C_50 (fun v78=>
 jG v77 (jL 23 v78) C_50 (fun v79=>
 jG v77 (jF 144 1 v6) C_50 (fun v80=>
 jG v77 (jL 142 v80) C_50 (fun v81=>
 jG v77 (pureH (l_45.getD 1 undef)) C_50 (fun v82=>
 jG v77 (jI 142 v81 v82) C_50 (fun v83=>
 jG v77 (jF 146 1 v83) C_50 (fun v84=>
 jG v77 (jL 3 v84) C_50 (fun v85=>
 ∃ S_78:World → WK,∀ w,C_50 w → (
 gF v77 (callM prog 146 #[v79,v85]) (fun v86 w=>
 gF v77 (kU v86) (fun v87 w=>
 kP v77 (.bool true) v87 (fun v88 w=>
 condM v88
 (K (.bool false) w)
 (kB .add 3 3 (l_45.getD 1 undef) (.int .i64 1) (fun v58 w=>
 J_43 [(l_45.getD 0 undef),v58] w ∧ m_44 [(l_45.getD 0 undef),v58] w < m_44 l_45 w0_l_45) w)) w) w) w)))))))))))))))))))))))))))))))
def loop_113_43 (J_20 J_43:List Value → World → Prop) (K:VK) (l_22 l_45:List Value) (m_21 m_44:List Value → World → Nat) (v2 v3 v6:Value) (w0_l_22 w0_l_45:World):Prop:=
(fun w=>(
 kF 144 1 v6 (fun v53 w=>
 kL 142 v53 (fun v54 w=>
 kN 142 v54 (fun v55 w=>
 kB .lss 3 4 (l_45.getD 1 undef) v55 (fun v56 w=>
 condM v56
 (held_113_50 J_43 K l_45 m_44 v2 v3 v6 w0_l_45 w)
 (kB .add 3 3 (l_22.getD 2 undef) (.int .i64 1) (fun v34 w=>
 J_20 [(l_45.getD 0 undef),(l_45.getD 1 undef),v34] w ∧ m_21 [(l_45.getD 0 undef),(l_45.getD 1 undef),v34] w < m_21 l_22 w0_l_22) w)) w) w) w) w)) w0_l_45
def loop_113_20 (J_20:List Value → World → Prop) (K:VK) (l_22:List Value) (m_21:List Value → World → Nat) (v2 v3:Value) (w0_l_22:World):Prop:=
(fun w=>(
 kF 69 1 v3 (fun v29 w=>
 kL 67 v29 (fun v30 w=>
 kN 67 v30 (fun v31 w=>
 kB .lss 3 4 (l_22.getD 2 undef) v31 (fun v32 w=>
 condM v32
 (kF 69 1 v3 (fun v35 w=>
 kL 67 v35 (fun v36 w=>
 kI 67 v36 (l_22.getD 2 undef) (fun v38 w=>
 kL 144 v38 (fun v39 w=>
 kA 144 (fun v6 w=>
 kS 144 v6 v39 (fun _ w=>
 kF 26 0 v2 (fun v40 w=>
 kL 23 v40 (fun v41 w=>
 kF 144 0 v6 (fun v42 w=>
 kL 3 v42 (fun v43 w=>
 callM prog 146 #[v41,v43] (fun v44 w=>
 kU v44 (fun v45 w=>
 gF v45 (kF 144 1 v6) (fun v47 w=>
 gF v45 (kL 142 v47) (fun v48 w=>
 gF v45 (kN 142 v48) (fun v49 w=>
 gF v45 (kB .gtr 3 4 v49 (.int .i64 80)) (fun v50 w=>
 kP v45 (.bool true) v50 (fun v51 w=>
 condM v51
 (K (.bool false) w)
 (loopM [(l_22.getD 0 undef),(.int .i64 0)] w (fun J_43 m_44 l_45 u_l_45 w0_l_45=>loop_113_43 J_20 J_43 K l_22 l_45 m_21 m_44 v2 v3 v6 w0_l_22 w0_l_45))) w) w) w) w) w) w) w) w) w) w) w) w) w) w) w) w) w)
 (K (.bool true) w)) w) w) w) w)) w0_l_22
def sh_113 (a0 a1:Value) (K:VK) (w:World):Prop:=
 oM prog (.box 26 (.tmp 0)) 0 [a0] (fun v2 w=>
 oM prog (.box 69 (.tmp 0)) 0 [a1] (fun v3 w=>
 kF 69 0 v3 (fun v8 w=>
 kL 3 v8 (fun v9 w=>
 kB .lss 3 4 v9 (.int .i64 0) (fun v10 w=>
 gF v10 (kF 69 0 v3) (fun v12 w=>
 gF v10 (kL 3 v12) (fun v13 w=>
 gF v10 (kB .gtr 3 4 v13 (.int .i64 120)) (fun v14 w=>
 kP v10 (.bool true) v14 (fun v15 w=>
 gF v15 (kF 69 1 v3) (fun v17 w=>
 gF v15 (kL 67 v17) (fun v18 w=>
 gF v15 (kN 67 v18) (fun v19 w=>
 gF v15 (kB .lss 3 4 v19 (.int .i64 1)) (fun v20 w=>
 kP v15 (.bool true) v20 (fun v21 w=>
 gF v21 (kF 69 1 v3) (fun v23 w=>
 gF v21 (kL 67 v23) (fun v24 w=>
 gF v21 (kN 67 v24) (fun v25 w=>
 gF v21 (kB .gtr 3 4 v25 (.int .i64 60)) (fun v26 w=>
 kP v21 (.bool true) v26 (fun v27 w=>
 condM v27
 (K (.bool false) w)
 (loopM [(.bool false),undef,(.int .i64 0)] w (fun J_20 m_21 l_22 u_l_22 w0_l_22=>loop_113_20 J_20 K l_22 m_21 v2 v3 w0_l_22))) w) w) w) w) w) w) w) w) w) w) w) w) w) w) w) w) w) w) w
theorem sh_113_ok {a0 a1:Value} {K:VK} {w:World} (h:sh_113 a0 a1 K w):callM prog 113 #[a0,a1] K w:=
 calls_of_code (fun _=>.free [0,1,2,3,4,5,6,7,8,9,10,11,12,13,14,15,16,17,18,19,20,21,22,23,24,25,26] [] [27,28,29]) (fn:=Tryz.f113) (rs:=[.tmp 4]) Tryz.func113 rfl rfl (by kernel_rfl) (nB rfl) (Eq.mp (by kernel_rfl) h)
def held_139_10 (J_3:List Value → World → Prop) (a2:Value) (l_5:List Value) (m_4:List Value → World → Nat) (v3 v4:Value) (w0_l_5 w:World):Prop:=
 heldM w (fun C_10 w=>(((true:Bool) = true) ∧ (jF 26 0 v3 C_10 (fun v16=>
 jL 23 v16 C_10 (fun v17=>
 pureH (l_5.getD 0 undef) C_10 (fun v18=>
 jF 26 0 v3 C_10 (fun v19=>
 jL 23 v19 C_10 (fun v20=>
 jF 144 1 v4 C_10 (fun v21=>
 jL 142 v21 C_10 (fun v22=>
 pureH (l_5.getD 1 undef) C_10 (fun v23=>
 jI 142 v22 v23 C_10 (fun v24=>
 jF 146 1 v24 C_10 (fun v25=>
 jL 3 v25 C_10 (fun v26=>
 pureH a2 C_10 (fun v27=>
 jF 144 1 v4 C_10 (fun v28=>
 jL 142 v28 C_10 (fun v29=>
 pureH (l_5.getD 1 undef) C_10 (fun v30=>
 jI 142 v29 v30 C_10 (fun v31=>
 jF 146 0 v31 C_10 (fun v32=>
 jL 3 v32 C_10 (fun v33=>
 jI 24 v27 v33 C_10 (fun v34=>
 jL 3 v34 C_10 (fun v35=>
 ∃ S_31:World → WK,∃ R_32:VK,(∀ v w w_1,S_31 w w_1 → R_32 v w → R_32 v w_1) ∧
 (∀ w,C_10 w → (callM prog 137 #[v20,v26,v35] (fun v w_1=>C_10 w_1 ∧ S_31 w w_1 ∧ R_32 v w_1) w)) ∧
 (∀ w,C_10 w → ∀ v36,R_32 v36 w → (
 callM prog 138 #[v17,v18,v36] (fun v37 w=>
 kB .add 3 3 (l_5.getD 1 undef) (.int .i64 1) (fun v15 w=>
 J_3 [v37,v15] w ∧ m_4 [v37,v15] w < m_4 l_5 w0_l_5) w) w)))))))))))))))))))))))))
def sh_139 (a0 a1 a2:Value) (K:VK) (w:World):Prop:=
 oM prog (.box 26 (.tmp 0)) 0 [a0] (fun v3 w=>
 oM prog (.box 144 (.tmp 0)) 0 [a1] (fun v4 w=>
 loopM [(.int .i64 1),(.int .i64 0)] w (fun J_3 m_4 l_5 u_l_5 w0_l_5=>(fun w=>(
 kF 144 1 v4 (fun v10 w=>
 kL 142 v10 (fun v11 w=>
 kN 142 v11 (fun v12 w=>
 kB .lss 3 4 (l_5.getD 1 undef) v12 (fun v13 w=>
 condM v13
 (held_139_10 J_3 a2 l_5 m_4 v3 v4 w0_l_5 w)
 (K (l_5.getD 0 undef) w)) w) w) w) w)) w0_l_5)) w) w
theorem sh_139_ok {a0 a1 a2:Value} {K:VK} {w:World} (h:sh_139 a0 a1 a2 K w):callM prog 139 #[a0,a1,a2] K w:=
 calls_of_code (fun _=>.free [0,1,2,3,4,5,6,7,8,9,10,11,12,13,14,15,16,17,18,19] [20] [21,22]) (fn:=Tryz.f139) (rs:=[.tmp 6]) Tryz.func139 rfl rfl (by kernel_rfl) (nB rfl) (Eq.mp (by kernel_rfl) h)
end Go.Proofs
namespace Go.Proofs
open Go Go.Sh Go.RowKit FdSpec TkSpec CodeSpec PrSpec FdPoly GrLaw
section
variable {K:VK} {w w' w0 W W' We W1 W2:World} {L:List (Addr × Value)} {g n B b i:Nat} {row:Option Nat}
theorem rExponent_ok (s:Stp) (x:Int) {v:Value} (hs:SetR w s v) (k:∀ w',Bw w w' → K (.bool (exponentM s x)) w'):callM Tryz.prog 85 #[stpV s v,.int .i64 x] K w:=by
 apply sh_85_ok
 unfold sh_85
 obtain ⟨ad,c,rfl⟩:=hs.ints.isSlice
 refine box_kn (cs:=stpC s (.slice ad s.bases.length c)) rfl (.start w) fun b1 W hk hb1 hbb=>?_
 have k:=k _ hk.below
 unfold exponentM at k
 by_cases h0:0 ≤ x
 ·by_cases h1:x < s.g.Q
  ·rw [decide_eq_true h0,decide_eq_true h1] at k
   repeat (any_goals (first
   | (with_reducible first|refine pureM_in ?_|refine zA ?_|refine yB ?_)
   | ((with_reducible refine oG fun X Y=>?_); simp [go_sem,hk.cells,h0,h1]; apply Y; clear Y X)))
   exact k
  ·rw [decide_eq_true h0,decide_eq_false h1] at k
   repeat (any_goals (first
   | (with_reducible first|refine pureM_in ?_|refine zA ?_|refine yB ?_)
   | ((with_reducible refine oG fun X Y=>?_); simp [go_sem,hk.cells,h0,h1]; apply Y; clear Y X)))
   exact k
 ·rw [decide_eq_false h0] at k
  repeat (any_goals (first
  | (with_reducible first|refine zB ?_|refine yC ?_)
  | ((with_reducible refine oG fun X Y=>?_); simp [go_sem,hk.cells,h0]; apply Y; clear Y X)))
  exact k
theorem exps_is (s:Stp) (l:List Int) (n:Int):exponentsM s l n = (l.all (exponentM s) && decide ((l.length:Int) = n)):=by
 unfold exponentsM
 rw [Bool.and_comm,List.all_eq_not_any_not]
theorem rExponents_ok (s:Stp) (n:Int) {v lv:Value} {l:List Int} (hs:SetR w s v) (hl:Ints w lv l) (k:∀ w',Bw w w' → K (.bool (exponentsM s l n)) w'):callM Tryz.prog 119 #[stpV s v,lv,.int .i64 n] K w:=by
 apply sh_119_ok
 unfold sh_119
 have hs':=hs
 obtain ⟨ad,c,rfl⟩:=hs.ints.isSlice
 have hl':=hl
 obtain ⟨lad,lc,rfl⟩:=hl.isSlice
 have hll:=hl'.len
 refine box_kn (cs:=stpC s (.slice ad s.bases.length c)) rfl (.start w) fun b1 W hk hb1 hbb=>?_
 clear hb1 hbb
 rw [exps_is] at k
 refine ⟨AlJk hk (exponentM s) l (l.all (exponentM s)),grMu l.length,⟨hk,_,0,rfl,by omega,by rw [List.drop_zero]⟩,?_⟩
 generalize l.all (exponentM s) = R at *
 rintro _ _ w3 ⟨hk,u,i,rfl,hi,ha⟩
 by_cases hin:i = l.length
 ·rw [List.drop_of_length_le (by omega),List.all_nil] at ha
  rw [← ha,bT] at k
  subst hin
  have k:=k _ hk.below
  generalize hq:decide ((l.length:Int) = n) = q at *
  repeat (any_goals (first
  | (with_reducible refine yM ?_)
  | ((with_reducible refine oG fun X Y=>?_); simp [go_sem]; apply Y; clear Y X)))
  rw [hq]
  exact k
 obtain ⟨b8,o8,rfl,hb8,ca,ra,_⟩:=hl'.at (i:=i) (by omega)
 rw [List.drop_eq_getElem_cons (by omega),List.all_cons] at ha
 generalize l[i] = x at *
 have hil:(i:Int) < l.length:=by omega
 repeat (any_goals (first
 | (with_reducible refine yL ?_)
 | ((with_reducible refine oG fun X Y=>?_); simp [go_sem,hil]; apply Y; clear Y X)))
 unfold held_119_7
 simp only [List.getD_cons_succ,List.getD_cons_zero]
 have hk9:=hk.drew
 refine ⟨Nx { w3 with drawn:=w3.drawn + 1 },bR,by trivial,?_⟩
 generalize ({ w3 with drawn:=w3.drawn + 1 }:World) = W9 at hk9 ⊢
 repeat (any_goals (first
 | (with_reducible refine pX ?_)
 | ((with_reducible refine idOH ?_); (with_reducible refine oH_of ⟨_,rfl⟩ (fun W0 hW0=>by (refine oG (fun X Y=>?_)); simp [go_sem,(hk9.next hW0).cells,ca _ (hk9.next hW0).below,hil]; (first | exact Y _ _ ⟨rfl,rfl⟩ | exact ⟨by omega,Y _ _ ⟨rfl,rfl⟩⟩)) ?_))))
 refine ⟨Nx,fun w9 h9=>?_⟩
 have hk:=hk9.next h9
 skip
 refine rExponent_ok s x (hs'.next hk.below) (fun w10 h10=>?_)
 have hk:=hk.next h10
 cases hx:exponentM s x with
 | false=>
  rw [hx,bF] at ha
  rw [← ha,bF] at k
  repeat (any_goals (first
  | (with_reducible refine yL ?_)
  | ((with_reducible refine oG fun X Y=>?_); simp [go_sem]; apply Y; clear Y X)))
  exact k _ hk.below
 | true=>
  rw [hx,bT] at ha
  repeat (any_goals (first
  | (with_reducible refine yM ?_)
  | ((with_reducible refine oG fun X Y=>?_); simp [go_sem]; (try simp (disch:=omega) only [wrapI64,wrapU8,wrapU32,wrapU64]); apply Y; clear Y X)))
  refine ⟨⟨hk,_,i + 1,rfl,by omega,ha⟩,?_⟩
  simp only [grMu_eq]; omega
def RlJ (w0:World) (L:List (Addr × Value)) (s:Stp) (vs:List Int) (l:List Trm) (R:Int) (us:List Value) (w':World):Prop:=Kn w0 L w' ∧ ∃ (o:Int) (i:Nat),us = [.int .i64 o,.int .i64 (i:Int)] ∧ i ≤ l.length ∧ prodL s.g o ((l.drop i).map fun t=>(t.base,vs.getD t.var.toNat 0)) = R
theorem rLeft_ok (s:Stp) (e:Eqn) (vs:List Int) {v ev lv:Value} (hs:SetR w s v) (he:SRow 2 TrmAt w ev e.terms) (hl:Ints w lv vs) (hlen:e.terms.length < 1000) (hv:∀ t ∈ e.terms,0 ≤ t.var ∧ t.var < vs.length) (hg:validS s = true)
  (k:∀ w',Bw w w' → K (.int .i64 (leftM s e vs)) w'):callM Tryz.prog 139 #[stpV s v,eqnV e ev,lv] K w:=by
 apply sh_139_ok
 unfold sh_139
 have hs':=hs
 have he':=he
 have hl':=hl
 obtain ⟨ad,c,rfl⟩:=hs.ints.isSlice
 obtain ⟨ead,ec,rfl⟩:=he.isSlice
 obtain ⟨lad,lc,rfl⟩:=hl.isSlice
 refine box_kn (cs:=stpC s (.slice ad s.bases.length c)) rfl (.start w) fun b1 W1 hk hb1 hbb=>?_
 refine box_kn (cs:=eqnC e (.slice ead e.terms.length ec)) rfl hk fun b2 W2 hk hb2 hbb=>?_
 clear hb1 hb2 hbb
 have hgv:=gv_setup hg
 have hq:=hgv.okQ
 have hp:okN s.g.P:=by have h1:=hgv.p; have h2:=hgv.q0; have h3:=hgv.q1; unfold okN; omega
 have hp1:1 % s.g.P = 1:=Int.emod_eq_of_lt (by decide) (by have:=hgv.p; have:=hgv.q0; omega)
 have eL:leftM s e vs = prodL s.g 1 (e.terms.map fun t=>(t.base,vs.getD t.var.toNat 0)):=by
  unfold leftM prodG
  rw [if_pos ⟨hp,hq,by simp⟩,hp1,List.zip_map']
 rw [eL] at k
 clear eL
 refine ⟨RlJ w (cellsOf (cellsOf [] b1 0 (stpC s (.slice ad s.bases.length c))) b2 0 (eqnC e (.slice ead e.terms.length ec))) s vs e.terms (prodL s.g 1 (e.terms.map fun t=>(t.base,vs.getD t.var.toNat 0))),grMu e.terms.length,⟨hk,1,0,rfl,by omega,by rw [List.drop_zero]⟩,?_⟩
 generalize prodL s.g 1 (e.terms.map fun t=>(t.base,vs.getD t.var.toNat 0)) = R at *
 rintro _ _ w3 ⟨hk,o,i,rfl,hi,ha⟩
 by_cases hin:i = e.terms.length
 ·rw [List.drop_of_length_le (by omega)] at ha
  have ha:o = R:=ha
  subst ha
  subst hin
  repeat (any_goals (first
  | (with_reducible refine yM ?_)
  | ((with_reducible refine oG fun X Y=>?_); simp [go_sem,hk.cells]; apply Y; clear Y X)))
  exact k _ hk.below
 obtain ⟨b4,o4,rfl,hb4,d0,d1,di0,di1⟩:=(he'.next trm_stay hk.below).at (i:=i) (by omega)
 obtain ⟨hv0,hv1⟩:=hv _ (List.getElem_mem (show i < e.terms.length by omega))
 rw [List.drop_eq_getElem_cons (by omega)] at ha
 generalize e.terms[i] = t at *
 have hvt:t.var.toNat < vs.length:=by omega
 obtain ⟨b8,o8,rfl,hb8,ca,ra,_⟩:=hl'.at (i:=t.var.toNat) hvt
 have ha:prodL s.g (mulM s.g.P o (powerG s.g t.base (vs.getD t.var.toNat 0))) ((e.terms.drop (i + 1)).map fun t=>(t.base,vs.getD t.var.toNat 0)) = R:=ha
 rw [List.getD_eq_getElem?_getD,gE hvt,Option.getD_some] at ha
 generalize vs[t.var.toNat] = x at *
 have hil:(i:Int) < e.terms.length:=by omega
 repeat (any_goals (first
 | (with_reducible refine yL ?_)
 | ((with_reducible refine oG fun X Y=>?_); simp [go_sem,hk.cells,hil]; apply Y; clear Y X)))
 unfold held_139_10
 simp only [List.getD_cons_succ,List.getD_cons_zero]
 have hk9:=hk.drew
 have hodr:Below w3.heap.size w3 { w3 with drawn:=w3.drawn + 1 }:=.drawn
 refine ⟨Nx { w3 with drawn:=w3.drawn + 1 },bR,by trivial,?_⟩
 generalize ({ w3 with drawn:=w3.drawn + 1 }:World) = W9 at *
 repeat (any_goals (first
 | (with_reducible refine pX ?_)
 | ((with_reducible refine idOH ?_); (with_reducible refine oH_of ⟨_,rfl⟩ (fun W0 hW0=>by (refine oG (fun X Y=>?_)); simp [go_sem,(hk9.next hW0).cells,((hodr.on hW0).cell hb4).trans d0,((hodr.on hW0).cell hb4).trans d1,ca _ (hk9.next hW0).below,hil,hv0,hv1]; (first | exact Y _ _ ⟨rfl,rfl⟩ | exact ⟨by omega,Y _ _ ⟨rfl,rfl⟩⟩)) ?_))))
 refine ⟨Nx,?_⟩
 apply monoE
 ·intro w1 h1
  exact rPower_ok s.g t.base x (fun w2 h2=>⟨h1.on h2,h2,rfl⟩)
 rintro w9 h9 _ rfl
 have hk:=hk9.next h9
 refine rTimes_ok s.g o _ (fun w10 h10=>?_)
 have hk:=hk.next h10
 repeat (any_goals ((with_reducible refine oG fun X Y=>?_); simp [go_sem]; (try simp (disch:=omega) only [wrapI64,wrapU8,wrapU32,wrapU64]); apply Y; clear Y X))
 refine ⟨⟨hk,_,i + 1,rfl,by omega,?_⟩,?_⟩
 ·unfold timesG
  rw [if_pos hq]
  exact ha
 ·simp only [grMu_eq]; omega
def AlJ3 {α:Type} (w0:World) (L:List (Addr × Value)) (p:α → Bool) (l:List α) (R:Bool) (vs:List Value) (w':World):Prop:=Kn w0 L w' ∧ ∃ (u v:Value) (i:Nat),vs = [u,v,.int .i64 (i:Int)] ∧ i ≤ l.length ∧ (l.drop i).all p = R
def grMu3 (n:Nat) (l:List Value) (_:World):Nat:=match l with | [_,_,.int _ i]=>n - i.toNat | _=>0
theorem grMu3_eq (n:Nat) (u v:Value) (k:IntKind) (i:Int) (w:World):grMu3 n [u,v,.int k i] w = n - i.toNat:=rfl
set_option maxHeartbeats 2000000 in
theorem rValidClaim_ok (s:Stp) (c:Clm) {v cv:Value} (hs:SetR w s v) (hc:ClmR w c cv) (k:∀ w',Bw w w' → K (.bool (claimM s c)) w'):callM Tryz.prog 113 #[stpV s v,clmV c cv] K w:=by
 apply sh_113_ok
 unfold sh_113
 have hs':=hs
 have hc':=hc
 obtain ⟨ad,ca,rfl⟩:=hs.ints.isSlice
 obtain ⟨ead,ec,rfl⟩:=hc.eqs.isSlice
 refine box_kn (cs:=stpC s (.slice ad s.bases.length ca)) rfl (.start w) fun b1 W1 hk hb1 hbb=>?_
 refine box_kn (cs:=clmC c (.slice ead c.eqs.length ec)) rfl hk fun b2 W2 hk hb2 hbb=>?_
 clear hb1 hb2 hbb
 have hel:=hc'.eqs.len
 have eC:claimM s c = (decide (0 ≤ c.vars) && decide (c.vars ≤ 120) && decide (1 ≤ c.eqs.length) && decide (c.eqs.length ≤ 60) && c.eqs.all (eqnFine s c.vars)):=rfl
 by_cases h1:c.vars < 0
 ·rw [decide_eq_false (by omega),bF,bF,bF,bF] at eC
  rw [eC] at k
  repeat (any_goals (first
  | (with_reducible first|refine zD ?_|refine yB ?_|refine yL ?_)
  | ((with_reducible refine oG fun X Y=>?_); simp [go_sem,hk.cells,h1]; apply Y; clear Y X)))
  exact k _ hk.below
 by_cases h2:120 < c.vars
 ·rw [decide_eq_false (by omega:¬ c.vars ≤ 120),Bool.and_false,bF,bF,bF] at eC
  rw [eC] at k
  repeat (any_goals (first
  | (with_reducible first|((refine idGd ?_); first|refine zC ?_|refine zD ?_)|((refine idPick ?_); first|refine yB ?_|refine yC ?_)|refine yL ?_)
  | ((with_reducible refine oG fun X Y=>?_); simp [go_sem,hk.cells,h1,h2]; apply Y; clear Y X)))
  exact k _ hk.below
 by_cases h3:(c.eqs.length:Int) < 1
 ·rw [decide_eq_false (by omega:¬ 1 ≤ c.eqs.length),Bool.and_false,bF,bF] at eC
  rw [eC] at k
  repeat (any_goals (first
  | (with_reducible first|((refine idGd ?_); first|refine zC ?_|refine zD ?_)|((refine idPick ?_); first|refine yB ?_|refine yC ?_)|refine yL ?_)
  | ((with_reducible refine oG fun X Y=>?_); simp [go_sem,hk.cells,h1,h2,h3]; apply Y; clear Y X)))
  exact k _ hk.below
 by_cases h4:(60:Int) < c.eqs.length
 ·rw [decide_eq_false (by omega:¬ c.eqs.length ≤ 60),Bool.and_false,bF] at eC
  rw [eC] at k
  repeat (any_goals (first
  | (with_reducible first|refine zC ?_|refine yC ?_|refine yL ?_)
  | ((with_reducible refine oG fun X Y=>?_); simp [go_sem,hk.cells,h1,h2,h3,h4]; apply Y; clear Y X)))
  exact k _ hk.below
 rw [decide_eq_true (by omega),decide_eq_true (by omega:c.vars ≤ 120),decide_eq_true (by omega:1 ≤ c.eqs.length),decide_eq_true (by omega:c.eqs.length ≤ 60)] at eC
 simp only [bT] at eC
 rw [eC] at k
 clear eC
 repeat (any_goals (first
 | (with_reducible first|refine zC ?_|refine yC ?_|refine yM ?_)
 | ((with_reducible refine oG fun X Y=>?_); simp [go_sem,hk.cells,h1,h2,h3,h4]; apply Y; clear Y X)))
 refine ⟨AlJ3 w (cellsOf (cellsOf [] b1 0 (stpC s (.slice ad s.bases.length ca))) b2 0 (clmC c (.slice ead c.eqs.length ec))) (eqnFine s c.vars) c.eqs (c.eqs.all (eqnFine s c.vars)),grMu3 c.eqs.length,⟨hk,_,_,0,rfl,by omega,by rw [List.drop_zero]⟩,?_⟩
 generalize c.eqs.all (eqnFine s c.vars) = R at *
 rintro _ _ w3 ⟨hk,u,u',i,rfl,hi,ha⟩
 unfold loop_113_20
 by_cases hin:i = c.eqs.length
 ·rw [List.drop_of_length_le (by omega),List.all_nil] at ha
  subst hin
  repeat (any_goals (first
  | (with_reducible refine yM ?_)
  | ((with_reducible refine oG fun X Y=>?_); simp [go_sem,hk.cells]; apply Y; clear Y X)))
  rw [ha]
  exact k _ hk.below
 rw [List.drop_eq_getElem_cons (by omega),List.all_cons] at ha
 obtain ⟨b3,o3,rfl,hb3,tv,c0,c1,htr,hti⟩:=(hc'.eqs.next eqn_stay hk.below).at (i:=i) (by omega)
 generalize c.eqs[i] = e at *
 obtain ⟨tad,tc,rfl⟩:=htr.isSlice
 have hic:(i:Int) < c.eqs.length:=by omega
 repeat (any_goals (first
 | ((with_reducible refine local_eqn e tad e.terms.length tc hk ?_); intro g13 W13 hk hb13 hg13)
 | (with_reducible refine yL ?_)
 | ((with_reducible refine oG fun X Y=>?_); simp [go_sem,hk.cells,c0,c1,hic]; apply Y; clear Y X)))
 have htr:=htr.next trm_stay hb13
 clear hb13 c0 c1
 skip
 refine rElement_ok s.g e.target hs'.grp (fun w4 h4=>?_)
 have hk:=hk.next h4
 have htr:=htr.next trm_stay h4
 clear h4
 have eE:eqnFine s c.vars e = (elemG s.g e.target && decide (e.terms.length ≤ 80) && e.terms.all (trmFine s c.vars)):=rfl
 cases hel:elemG s.g e.target with
 | false=>
  rw [hel,bF,bF] at eE
  rw [eE,bF] at ha
  repeat (any_goals (first
  | (with_reducible first|refine zD ?_|refine yB ?_|refine yL ?_)
  | ((with_reducible refine oG fun X Y=>?_); simp [go_sem,hk.cells]; apply Y; clear Y X)))
  rw [ha]
  exact k _ hk.below
 | true=>
 rw [hel,bT] at eE
 by_cases h8:(80:Int) < e.terms.length
 ·rw [decide_eq_false (by omega:¬ e.terms.length ≤ 80),bF] at eE
  rw [eE,bF] at ha
  repeat (any_goals (first
  | (with_reducible first|refine zC ?_|refine yC ?_|refine yL ?_)
  | ((with_reducible refine oG fun X Y=>?_); simp [go_sem,hk.cells,h8]; apply Y; clear Y X)))
  rw [ha]
  exact k _ hk.below
 rw [decide_eq_true (by omega:e.terms.length ≤ 80),bT] at eE
 rw [eE] at ha
 clear eE
 have htl:=htr.len
 repeat (any_goals (first
 | (with_reducible first|refine zC ?_|refine yC ?_|refine yM ?_)
 | ((with_reducible refine oG fun X Y=>?_); simp [go_sem,hk.cells,h8]; apply Y; clear Y X)))
 have hkk:=hk
 have htw:Kn w4 _ w4:=⟨bR,hk.cells⟩
 refine ⟨AlJk htw (trmFine s c.vars) e.terms (e.terms.all (trmFine s c.vars)),grMu e.terms.length,⟨htw,_,0,rfl,by omega,by rw [List.drop_zero]⟩,?_⟩
 generalize e.terms.all (trmFine s c.vars) = R2 at *
 rintro _ _ w5 ⟨hk2,u2,j,rfl,hj,hb⟩
 have hk:Kn w _ w5:=⟨hkk.below.on hk2.below,hk2.cells⟩
 unfold loop_113_43
 by_cases hjn:j = e.terms.length
 ·rw [List.drop_of_length_le (by omega),List.all_nil] at hb
  rw [← hb,bT] at ha
  subst hjn
  repeat (any_goals (first
  | (with_reducible refine yM ?_)
  | ((with_reducible refine oG fun X Y=>?_); simp [go_sem,hk.cells]; (try simp (disch:=omega) only [wrapI64,wrapU8,wrapU32,wrapU64]); apply Y; clear Y X)))
  refine ⟨⟨⟨hk.below,hk.cells.2.2⟩,_,_,i + 1,rfl,by omega,ha⟩,?_⟩
  simp only [grMu3_eq]; omega
 rw [List.drop_eq_getElem_cons (by omega),List.all_cons] at hb
 obtain ⟨b4,o4,rfl,hb4,d0,d1,di0,di1⟩:=(htr.next trm_stay hk2.below).at (i:=j) (by omega)
 generalize e.terms[j] = t at *
 have eT:trmFine s c.vars t = (decide (0 ≤ t.var) && decide (t.var < c.vars) && elemG s.g t.base):=rfl
 have hno:trmFine s c.vars t = false → K (.bool false) = K (.bool R):=fun h=>by
  rw [h,bF] at hb
  rw [← hb,bF] at ha
  rw [ha]
 have hjt:(j:Int) < e.terms.length:=by omega
 repeat (any_goals (first
 | (with_reducible refine yL ?_)
 | ((with_reducible refine oG fun X Y=>?_); simp [go_sem,hk.cells,hjt]; apply Y; clear Y X)))
 unfold held_113_50
 simp only [List.getD_cons_succ,List.getD_cons_zero]
 have hk9:=hk.drew
 have hodr:Below w5.heap.size w5 { w5 with drawn:=w5.drawn + 1 }:=.drawn
 refine ⟨Nx { w5 with drawn:=w5.drawn + 1 },bR,by trivial,?_⟩
 generalize ({ w5 with drawn:=w5.drawn + 1 }:World) = W9 at *
 by_cases g1:t.var < 0
 ·rw [decide_eq_false (by omega),bF,bF] at eT
  repeat (any_goals (first
  | (with_reducible first|refine pX ?_|((refine idGdH ?_); refine gdH_conv fun _=>?_)|refine zD ?_)
  | ((with_reducible refine idOH ?_); first|(with_reducible refine vA ?_)|(with_reducible refine oH_of ⟨_,rfl⟩ (fun W0 hW0=>by (refine oG (fun X Y=>?_)); simp [go_sem,(hk9.next hW0).cells,((hodr.on hW0).cell hb4).trans d0,((hodr.on hW0).cell hb4).trans d1,hjt,g1]; (first | exact Y _ _ ⟨rfl,rfl⟩ | exact ⟨by omega,Y _ _ ⟨rfl,rfl⟩⟩)) ?_))))
  refine ⟨Nx,fun w9 h9=>?_⟩
  repeat (any_goals (with_reducible first|refine zD ?_|refine yB ?_|refine yL ?_))
  rw [hno eT]
  exact k _ (hk9.next h9).below
 rw [decide_eq_true (by omega),bT] at eT
 by_cases g2:c.vars ≤ t.var
 ·rw [decide_eq_false (by omega),bF] at eT
  repeat (any_goals (first
  | (with_reducible first|refine pX ?_|((refine idGdH ?_); refine gdH_conv fun _=>?_)|((refine idGd ?_); first|refine zC ?_|refine zD ?_))
  | ((with_reducible refine idOH ?_); first|(with_reducible refine vB ?_)|(with_reducible refine oH_of ⟨_,rfl⟩ (fun W0 hW0=>by (refine oG (fun X Y=>?_)); simp [go_sem,(hk9.next hW0).cells,((hodr.on hW0).cell hb4).trans d0,((hodr.on hW0).cell hb4).trans d1,hjt,g1,g2]; (first | exact Y _ _ ⟨rfl,rfl⟩ | exact ⟨by omega,Y _ _ ⟨rfl,rfl⟩⟩)) ?_))))
  refine ⟨Nx,fun w9 h9=>?_⟩
  repeat (any_goals (with_reducible first|refine zD ?_|refine yB ?_|refine yL ?_))
  rw [hno eT]
  exact k _ (hk9.next h9).below
 rw [decide_eq_true (by omega),bT] at eT
 repeat (any_goals (first
 | (with_reducible first|refine pX ?_|((refine idGdH ?_); refine gdH_conv fun _=>?_)|refine zC ?_)
 | ((with_reducible refine idOH ?_); first|(with_reducible refine vB ?_)|(with_reducible refine oH_of ⟨_,rfl⟩ (fun W0 hW0=>by (refine oG (fun X Y=>?_)); simp [go_sem,(hk9.next hW0).cells,((hodr.on hW0).cell hb4).trans d0,((hodr.on hW0).cell hb4).trans d1,hjt,g1,g2]; (first | exact Y _ _ ⟨rfl,rfl⟩ | exact ⟨by omega,Y _ _ ⟨rfl,rfl⟩⟩)) ?_))))
 refine ⟨Nx,fun w9 h9=>?_⟩
 repeat (any_goals (with_reducible refine zC ?_))
 refine rElement_ok s.g t.base hs'.grp (fun w6 h6=>?_)
 have hk:=(hk9.next h9).next h6
 cases hel2:elemG s.g t.base with
 | false=>
  rw [hel2] at eT
  repeat (any_goals (first
  | (with_reducible first|refine zC ?_|refine yC ?_|refine yL ?_)
  | ((with_reducible refine oG fun X Y=>?_); simp [go_sem,hk.cells]; apply Y; clear Y X)))
  rw [hno eT]
  exact k _ hk.below
 | true=>
  rw [hel2] at eT
  rw [eT,bT] at hb
  repeat (any_goals (first
  | (with_reducible first|refine zC ?_|refine yC ?_|refine yM ?_)
  | ((with_reducible refine oG fun X Y=>?_); simp [go_sem,hk.cells]; (try simp (disch:=omega) only [wrapI64,wrapU8,wrapU32,wrapU64]); apply Y; clear Y X)))
  refine ⟨⟨⟨((hk2.below.on hodr).on h9).on h6,hk.cells⟩,_,j + 1,rfl,by omega,hb⟩,?_⟩
  simp only [grMu_eq]; omega
set_option maxHeartbeats 2000000 in
theorem rHolds_ok (s:Stp) (c:Clm) (l:List Int) {v cv lv:Value} (hs:SetR w s v) (hc:ClmR w c cv) (hl:Ints w lv l)
  (k:∀ w',Bw w w' → K (.bool (HoldsM s c l)) w'):callM Tryz.prog 61 #[stpV s v,clmV c cv,lv] K w:=by
 apply sh_61_ok
 unfold sh_61
 have hs':=hs
 have hc':=hc
 have hl':=hl
 obtain ⟨ad,ca,rfl⟩:=hs.ints.isSlice
 obtain ⟨ead,ec,rfl⟩:=hc.eqs.isSlice
 obtain ⟨lad,lc,rfl⟩:=hl.isSlice
 refine box_kn (cs:=stpC s (.slice ad s.bases.length ca)) rfl (.start w) fun b1 W1 hk hb1 hbb=>?_
 refine box_kn (cs:=clmC c (.slice ead c.eqs.length ec)) rfl hk fun b2 W2 hk hb2 hbb=>?_
 clear hb1 hb2 hbb
 have eH:HoldsM s c l = (validS s && claimM s c && (exponentsM s l c.vars && c.eqs.all fun e=>decide (leftM s e l = e.target))):=by
  show (validS s && claimM s c && (exponentsM s l c.vars && !(c.eqs.any fun e=>!decide (leftM s e l = e.target)))) = _
  rw [List.all_eq_not_any_not]
 repeat (any_goals ((with_reducible refine oG fun X Y=>?_); simp [go_sem,hk.cells]; apply Y; clear Y X))
 refine rValidSetup_ok s (hs'.next hk.below) (fun w4 h4=>?_)
 have hk:=hk.next h4
 clear h4
 cases hv:validS s with
 | false=>
  rw [hv,bF,bF] at eH
  rw [eH] at k
  repeat (any_goals (first
  | (with_reducible first|refine zD ?_|refine yB ?_|refine yL ?_)
  | ((with_reducible refine oG fun X Y=>?_); simp [go_sem,hk.cells]; apply Y; clear Y X)))
  exact k _ hk.below
 | true=>
 rw [hv,bT] at eH
 repeat (any_goals (first
 | (with_reducible refine zC ?_)
 | ((with_reducible refine oG fun X Y=>?_); simp [go_sem,hk.cells]; apply Y; clear Y X)))
 refine rValidClaim_ok s c (hs'.next hk.below) (hc'.next hk.below) (fun w5 h5=>?_)
 have hk:=hk.next h5
 clear h5
 cases hcl:claimM s c with
 | false=>
  rw [hcl,bF] at eH
  rw [eH] at k
  repeat (any_goals (first
  | (with_reducible first|((refine idGd ?_); first|refine zC ?_|refine zD ?_)|((refine idPick ?_); first|refine yB ?_|refine yC ?_)|refine yL ?_)
  | ((with_reducible refine oG fun X Y=>?_); simp [go_sem,hk.cells]; apply Y; clear Y X)))
  exact k _ hk.below
 | true=>
 rw [hcl,bT] at eH
 repeat (any_goals (first
 | (with_reducible first|refine pureM_in ?_|refine zC ?_|refine yC ?_)
 | ((with_reducible refine oG fun X Y=>?_); simp [go_sem,hk.cells]; apply Y; clear Y X)))
 refine rExponents_ok s c.vars (hs'.next hk.below) (hl'.next hk.below) (fun w6 h6=>?_)
 have hk:=hk.next h6
 clear h6
 cases hx:exponentsM s l c.vars with
 | false=>
  rw [hx,bF] at eH
  rw [eH] at k
  repeat (any_goals (first
  | (with_reducible first|refine zC ?_|refine yC ?_|refine yL ?_)
  | ((with_reducible refine oG fun X Y=>?_); simp [go_sem,hk.cells]; apply Y; clear Y X)))
  exact k _ hk.below
 | true=>
 rw [hx,bT] at eH
 rw [eH] at k
 have hln:(l.length:Int) = c.vars:=by
  unfold exponentsM at hx
  simp only [bA,dE] at hx
  exact hx.1
 have hfit:=claim_fit hcl
 have hel:=hc'.eqs.len
 repeat (any_goals (first
 | (with_reducible first|refine zC ?_|refine yC ?_|refine yM ?_)
 | ((with_reducible refine oG fun X Y=>?_); simp [go_sem,hk.cells]; apply Y; clear Y X)))
 refine ⟨AlJk hk (fun e=>decide (leftM s e l = e.target)) c.eqs (c.eqs.all fun e=>decide (leftM s e l = e.target)),grMu c.eqs.length,⟨hk,_,0,rfl,by omega,by rw [List.drop_zero]⟩,?_⟩
 generalize (c.eqs.all fun e=>decide (leftM s e l = e.target)) = R at *
 rintro _ _ w3 ⟨hk,u,i,rfl,hi,ha⟩
 by_cases hin:i = c.eqs.length
 ·rw [List.drop_of_length_le (by omega),List.all_nil] at ha
  subst hin
  repeat (any_goals (first
  | (with_reducible refine yM ?_)
  | ((with_reducible refine oG fun X Y=>?_); simp [go_sem,hk.cells]; apply Y; clear Y X)))
  rw [ha]
  exact k _ hk.below
 rw [List.drop_eq_getElem_cons (by omega),List.all_cons] at ha
 obtain ⟨b3,o3,rfl,hb3,tv,c0,c1,htr,hti⟩:=(hc'.eqs.next eqn_stay hk.below).at (i:=i) (by omega)
 have hfe:=hfit _ (List.getElem_mem (show i < c.eqs.length by omega))
 generalize c.eqs[i] = e at *
 obtain ⟨tad,tc,rfl⟩:=htr.isSlice
 have hic:(i:Int) < c.eqs.length:=by omega
 repeat (any_goals (first
 | (with_reducible refine yL ?_)
 | ((with_reducible refine oG fun X Y=>?_); simp [go_sem,hk.cells,hic]; apply Y; clear Y X)))
 unfold held_61_25
 simp only [List.getD_cons_succ,List.getD_cons_zero]
 have hk9:=hk.drew
 have hodr:Below w3.heap.size w3 { w3 with drawn:=w3.drawn + 1 }:=.drawn
 refine ⟨Nx { w3 with drawn:=w3.drawn + 1 },bR,by trivial,?_⟩
 generalize ({ w3 with drawn:=w3.drawn + 1 }:World) = W9 at *
 repeat (any_goals (first
 | (with_reducible refine pX ?_)
 | ((with_reducible refine idOH ?_); (with_reducible refine oH_of ⟨_,rfl⟩ (fun W0 hW0=>by (refine oG (fun X Y=>?_)); simp [go_sem,(hk9.next hW0).cells,((hodr.on hW0).cell hb3).trans c0,((hodr.on hW0).cell hb3).trans c1,hic]; (first | exact Y _ _ ⟨rfl,rfl⟩ | exact ⟨by omega,Y _ _ ⟨rfl,rfl⟩⟩)) ?_))))
 refine ⟨Nx,?_⟩
 apply monoE
 ·intro w1 h1
  exact rLeft_ok s e l (hs'.next (hk9.next h1).below) (htr.next trm_stay (hodr.on h1)) (hl'.next (hk9.next h1).below) hfe.1 (fun t ht=>by have:=hfe.2 t ht; omega) hv (fun w2 h2=>⟨h1.on h2,h2,rfl⟩)
 rintro w9 h9 _ rfl
 have hk:=hk9.next h9
 by_cases heq:leftM s e l = e.target
 ·rw [decide_eq_true heq,bT] at ha
  repeat (any_goals (first
  | (with_reducible refine yM ?_)
  | ((with_reducible refine oG fun X Y=>?_); simp [go_sem,heq]; (try simp (disch:=omega) only [wrapI64,wrapU8,wrapU32,wrapU64]); apply Y; clear Y X)))
  refine ⟨⟨hk,_,i + 1,rfl,by omega,ha⟩,?_⟩
  simp only [grMu_eq]; omega
 ·rw [decide_eq_false heq,bF] at ha
  rw [← ha] at k
  repeat (any_goals (first
  | (with_reducible refine yL ?_)
  | ((with_reducible refine oG fun X Y=>?_); simp [go_sem,heq]; apply Y; clear Y X)))
  exact k _ hk.below
end
end Go.Proofs
namespace PrSpec
open FdSpec TkSpec CodeSpec Go.Proofs
def OkF (s:Stp) (c:Cls) (n:List Knw):Prop:=n.length = c.claims.length ∧ ∀ (k:Nat) (x:Clm) (u:Knw),c.claims[k]? = some x → n[k]? = some u → fitK s x u = true
theorem fitsM_iff {s:Stp} {goal:List Cls} {know:List (List Knw)}:fitsM s goal know = true ↔ know.length = goal.length ∧ ∀ (i:Nat) (c:Cls) (n:List Knw),goal[i]? = some c → know[i]? = some n → OkF s c n:=by
 unfold fitsM
 rw [Bool.and_eq_true,decide_eq_true_eq]
 constructor
 ·rintro ⟨h1,h2⟩
  refine ⟨h1,fun i c n a b=>?_⟩
  obtain ⟨h3,h4⟩:=fitsL_at h2 a b
  exact ⟨h3,fun k x u e1 e2=>fitsC_at h4 e1 e2⟩
 ·rintro ⟨h1,h2⟩
  refine ⟨h1,fitsL_of h1 (fun i c n a b=>?_)⟩
  obtain ⟨h3,h4⟩:=h2 i c n a b
  exact ⟨h3,h4⟩
def OkS (s:Stp) (c:Cls) (d:List Int) (n:List (List Int)):Prop:=(exponentsM s d c.claims.length = true ∧ n.length = c.claims.length) ∧ ∀ (k:Nat) (x:Clm) (l:List Int),c.claims[k]? = some x → n[k]? = some l → exponentsM s l x.vars = true
theorem shapedM_iff {s:Stp} {goal:List Cls} {ds:List (List Int)} {ns:List (List (List Int))}:shapedM s goal ds ns = true ↔ (ds.length = goal.length ∧ ns.length = goal.length) ∧ ∀ (i:Nat) (c:Cls) (d:List Int) (n:List (List Int)),goal[i]? = some c → ds[i]? = some d → ns[i]? = some n → OkS s c d n:=by
 unfold shapedM
 rw [Bool.and_eq_true,Bool.and_eq_true,decide_eq_true_eq,decide_eq_true_eq]
 constructor
 ·rintro ⟨h1,h2⟩
  refine ⟨h1,fun i c d n a b e=>?_⟩
  obtain ⟨h3,h4⟩:=shapedL_at h2 a b e
  simp only [shapeOf,Bool.and_eq_true,decide_eq_true_eq] at h3
  exact ⟨h3,fun k x l e1 e2=>shapedC_at h4 e1 e2⟩
 ·rintro ⟨⟨h1,h0⟩,h2⟩
  refine ⟨⟨h1,h0⟩,shapedL_of h1 h0 (fun i c d n a b e=>?_)⟩
  obtain ⟨h3,h4⟩:=h2 i c d n a b e
  refine ⟨?_,h4⟩
  simp only [shapeOf,Bool.and_eq_true,decide_eq_true_eq]
  exact h3
end PrSpec
namespace Go.Proofs
open Go Go.Sh Go.RowKit FdSpec TkSpec CodeSpec PrSpec FdPoly GrLaw
section
variable {K:VK} {w w' w0 W W' We W1 W2:World} {L:List (Addr × Value)} {g n B b i:Nat} {row:Option Nat}
def RfJ (w0:World) (L:List (Addr × Value)) (s:Stp) (goal:List Cls) (know:List (List Knw)) (vs:List Value) (w':World):Prop:=Kn w0 L w' ∧ ∃ (u v:Value) (i:Nat),vs = [u,v,.int .i64 (i:Int)] ∧ i ≤ goal.length ∧ ∀ (j:Nat) (c:Cls) (n:List Knw),j < i → goal[j]? = some c → know[j]? = some n → OkF s c n
def RfI (w0:World) (L:List (Addr × Value)) (s:Stp) (cl:Cls) (ks:List Knw) (vs:List Value) (w':World):Prop:=Kn w0 L w' ∧ ∃ (u:Value) (k:Nat),vs = [u,.int .i64 (k:Int)] ∧ k ≤ ks.length ∧ ∀ (j:Nat) (x:Clm) (y:Knw),j < k → cl.claims[j]? = some x → ks[j]? = some y → fitK s x y = true
set_option maxHeartbeats 2000000 in
theorem rFits_ok (s:Stp) {sv gv kv:Value} {goal:List Cls} {know:List (List Knw)} (hs:SetR w s sv) (hg:GoalR w gv goal) (hk0:KnowR w kv know)
  (k:∀ w',Bw w w' → K (.bool (fitsM s goal know)) w'):callM Tryz.prog 32 #[stpV s sv,gv,kv] K w:=by
 apply sh_32_ok
 unfold sh_32
 have hs':=hs
 have hg':=hg
 have hk0':=hk0
 obtain ⟨ad,c,rfl⟩:=hs.ints.isSlice
 obtain ⟨gad,gc,rfl⟩:=hg.isSlice
 obtain ⟨kad,kc,rfl⟩:=hk0.isSlice
 have hlg:=hg.len
 have hlk:=hk0.len
 refine box_kn (cs:=stpC s (.slice ad s.bases.length c)) rfl (.start w) fun b1 W hk hb1 hbb=>?_
 clear hb1 hbb
 by_cases e1:¬ know.length = goal.length
 ·have e1':¬ (know.length:Int) = goal.length:=by omega
  repeat (any_goals (first
  | (with_reducible refine yL ?_)
  | ((with_reducible refine oG fun X Y=>?_); simp [go_sem,hk.cells,e1']; apply Y; clear Y X)))
  have k:=k _ hk.below
  rw [show fitsM s goal know = false by rw [Bool.eq_false_iff]; intro h; exact e1 (fitsM_iff.1 h).1] at k
  exact k
 have e1:know.length = goal.length:=by omega
 have e1':(know.length:Int) = goal.length:=by omega
 have no:∀ (i:Nat) (c:Cls) (n:List Knw),goal[i]? = some c → know[i]? = some n → ¬ OkF s c n → ∀ w',Bw w w' → K (.bool false) w':=fun i c n a b h w' hb=>by
  have:=k w' hb
  rwa [show fitsM s goal know = false by rw [Bool.eq_false_iff]; intro e; exact h ((fitsM_iff.1 e).2 i c n a b)] at this
 repeat (any_goals (first
 | (with_reducible refine yM ?_)
 | ((with_reducible refine oG fun X Y=>?_); simp [go_sem,hk.cells,e1']; apply Y; clear Y X)))
 refine ⟨RfJ w (cellsOf [] b1 0 (stpC s (.slice ad s.bases.length c))) s goal know,grMu3 goal.length,⟨hk,_,_,0,rfl,by omega,fun j c n hj=>by omega⟩,?_⟩
 clear hk
 rintro _ _ w3 ⟨hk,u,v,i,rfl,hi,hall⟩
 by_cases hin:i = goal.length
 ·subst hin
  repeat (any_goals (first
  | (with_reducible refine yM ?_)
  | ((with_reducible refine oG fun X Y=>?_); simp [go_sem]; apply Y; clear Y X)))
  have k:=k _ hk.below
  rw [show fitsM s goal know = true from fitsM_iff.2 ⟨e1,fun j c n a b=>hall j c n (gS a).1 a b⟩] at k
  exact k
 have eg:goal[i]? = some goal[i]:=gE (by omega)
 have ek:know[i]? = some know[i]:=gE (by omega)
 obtain ⟨bk,ok,rfl,hltk,csk,_,hcellk,vk,rfl,hrowk⟩:=hk0'.at (i:=i) (by omega)
 obtain ⟨bg,og,rfl,hbg,_,_,hgcell,gcv,rfl,_,hgc⟩:=hg'.at (i:=i) (by omega)
 have ck:=hcellk 0 _ rfl
 simp only [Nat.add_zero,Nat.mul_one,Nat.zero_add] at ck
 have g1:=hgcell 1 _ rfl
 have hno:=no i _ _ eg ek
 generalize goal[i] = cl at *
 generalize know[i] = ks at *
 have hrowk':=hrowk
 have hgc':=hgc
 obtain ⟨kad2,kc2,rfl⟩:=hrowk.isSlice
 obtain ⟨cad,cc,rfl⟩:=hgc.isSlice
 have hlks:=hrowk'.len
 have hlcs:=hgc'.len
 have hiK:(i:Int) < know.length:=by omega
 have hiG:(i:Int) < goal.length:=by omega
 repeat (any_goals (first
 | (with_reducible refine yL ?_)
 | ((with_reducible refine oG fun X Y=>?_); simp [go_sem,hk.cells,hiG]; apply Y; clear Y X)))
 unfold held_32_10
 simp only [List.getD_cons_succ,List.getD_cons_zero]
 have hk9:=hk.drew
 refine ⟨Nx { w3 with drawn:=w3.drawn + 1 },bR,by trivial,?_⟩
 generalize ({ w3 with drawn:=w3.drawn + 1 }:World) = W9 at *
 by_cases e2:¬ ks.length = cl.claims.length
 ·have e2':¬ (ks.length:Int) = cl.claims.length:=by omega
  repeat (any_goals (first
  | (with_reducible refine pX ?_)
  | ((with_reducible refine idOH ?_); (with_reducible refine oH_of ⟨_,rfl⟩ (fun W0 hW0=>by (refine oG (fun X Y=>?_)); simp [go_sem,(hk9.next hW0).cells,((hk9.next hW0).below.cell hltk).trans ck,((hk9.next hW0).below.cell hbg).trans g1,hiK,hiG,e2']; (first | exact Y _ _ ⟨rfl,rfl⟩ | exact ⟨by omega,Y _ _ ⟨rfl,rfl⟩⟩)) ?_))))
  refine ⟨Nx,fun w9 h9=>?_⟩
  repeat (any_goals (with_reducible refine yL ?_))
  exact hno (fun h=>e2 h.1) _ (hk9.next h9).below
 have e2:ks.length = cl.claims.length:=by omega
 have e2':(ks.length:Int) = cl.claims.length:=by omega
 repeat (any_goals (first
 | (with_reducible refine pX ?_)
 | ((with_reducible refine idOH ?_); (with_reducible refine oH_of ⟨_,rfl⟩ (fun W0 hW0=>by (refine oG (fun X Y=>?_)); simp [go_sem,(hk9.next hW0).cells,((hk9.next hW0).below.cell hltk).trans ck,((hk9.next hW0).below.cell hbg).trans g1,hiK,hiG,e2']; (first | exact Y _ _ ⟨rfl,rfl⟩ | exact ⟨by omega,Y _ _ ⟨rfl,rfl⟩⟩)) ?_))))
 refine ⟨Nx,fun w9 h9=>?_⟩
 have hk:=hk9.next h9
 repeat (any_goals (with_reducible refine yM ?_))
 refine ⟨RfI w (cellsOf [] b1 0 (stpC s (.slice ad s.bases.length c))) s cl ks,grMu ks.length,⟨hk,_,0,rfl,by omega,fun j c n hj=>by omega⟩,?_⟩
 clear hk
 rintro _ _ w5 ⟨hk,u5,q,rfl,hq,hall5⟩
 unfold loop_32_24
 by_cases hqn:q = ks.length
 ·subst hqn
  repeat (any_goals (first
  | (with_reducible refine yM ?_)
  | ((with_reducible refine oG fun X Y=>?_); simp [go_sem,hk.cells,(hk.below.cell hltk).trans ck,hiK]; (try simp (disch:=omega) only [wrapI64,wrapU8,wrapU32,wrapU64]); apply Y; clear Y X)))
  refine ⟨⟨hk,_,_,i + 1,rfl,by omega,fun j c n hj a b=>?_⟩,?_⟩
  ·by_cases hji:j = i
   ·subst hji
    rw [eg] at a; rw [ek] at b
    cases a; cases b
    exact ⟨e2,fun p x y e1 e2'=>hall5 p x y (gS e2').1 e1 e2'⟩
   ·exact hall j c n (by omega) a b
  ·simp only [grMu3_eq]; omega
 have equ:ks[q]? = some ks[q]:=gE (by omega)
 have ecm:cl.claims[q]? = some (cl.claims[q]'(by omega)):=gE (by omega)
 obtain ⟨bu,ou,rfl,hltu,_,_,hcellu,vu,rfl,hvu⟩:=hrowk'.at (i:=q) (by omega)
 obtain ⟨bcl,ocl,rfl,hbcl,_,_,hccell,ccv,rfl,hclm⟩:=hgc'.at (i:=q) (by omega)
 have p0:=hccell 0 _ rfl
 have q0:=hcellu 0 _ rfl
 have q1:=hcellu 1 _ rfl
 generalize ks[q] = y at *
 generalize cl.claims[q] = x at *
 simp only [Nat.add_zero] at p0 q0
 have hvu':=hvu
 obtain ⟨uad,uc,rfl⟩:=hvu.isSlice
 have hqk:(q:Int) < ks.length:=by omega
 have hqc:(q:Int) < cl.claims.length:=by omega
 repeat (any_goals (first
 | (with_reducible refine yL ?_)
 | ((with_reducible refine oG fun X Y=>?_); simp [go_sem,hk.cells,(hk.below.cell hltk).trans ck,hiK,hqk]; apply Y; clear Y X)))
 unfold held_32_31
 simp only [List.getD_cons_succ,List.getD_cons_zero]
 have hk9:=hk.drew
 refine ⟨Nx { w5 with drawn:=w5.drawn + 1 },bR,by trivial,?_⟩
 generalize ({ w5 with drawn:=w5.drawn + 1 }:World) = W8 at *
 have hstep:fitK s x y = true → ∀ w',Kn w (cellsOf [] b1 0 (stpC s (.slice ad s.bases.length c))) w' → RfI w (cellsOf [] b1 0 (stpC s (.slice ad s.bases.length c))) s cl ks [u5,.int .i64 ((q:Int) + 1)] w' ∧ grMu ks.length [u5,.int .i64 ((q:Int) + 1)] w' < grMu ks.length [u5,.int .i64 (q:Int)] w5:=fun hf w' hk'=>by
  refine ⟨⟨hk',_,q + 1,rfl,by omega,fun j x' y' hj a b=>?_⟩,?_⟩
  ·by_cases hjq:j = q
   ·subst hjq
    rw [ecm] at a; rw [equ] at b
    cases a; cases b
    exact hf
   ·exact hall5 j x' y' (by omega) a b
  ·simp only [grMu_eq]; omega
 have eF:fitK s x y = (!y.has || exponentsM s y.values x.vars):=rfl
 cases hhas:y.has with
 | false=>
  rw [hhas] at q0 eF
  repeat (any_goals (first
  | (with_reducible first|refine pX ?_|((refine idGdH ?_); refine gdH_conv fun _=>?_)|refine zB ?_)
  | ((with_reducible refine idOH ?_); (with_reducible refine oH_of ⟨_,rfl⟩ (fun W0 hW0=>by (refine oG (fun X Y=>?_)); simp [go_sem,(hk9.next hW0).cells,((hk9.next hW0).below.cell hltk).trans ck,((hk9.next hW0).below.cell hltu).trans q0,((hk9.next hW0).below.cell hltu).trans q1,((hk9.next hW0).below.cell hbg).trans g1,((hk9.next hW0).below.cell hbcl).trans p0,hiK,hiG,hqk,hqc]; (first | exact Y _ _ ⟨rfl,rfl⟩ | exact ⟨by omega,Y _ _ ⟨rfl,rfl⟩⟩)) ?_))))
  refine ⟨Nx,fun w9 h9=>?_⟩
  repeat (any_goals (first
  | (with_reducible first|refine zB ?_|refine yC ?_|refine yM ?_)
  | ((with_reducible refine oG fun X Y=>?_); simp [go_sem]; (try simp (disch:=omega) only [wrapI64,wrapU8,wrapU32,wrapU64]); apply Y; clear Y X)))
  exact hstep (by rw [eF]; rfl) _ (hk9.next h9)
 | true=>
  rw [hhas] at q0 eF
  repeat (any_goals (first
  | (with_reducible first|refine pX ?_|((refine idGdH ?_); refine gdH_conv fun _=>?_)|refine zA ?_)
  | ((with_reducible refine idOH ?_); (with_reducible refine oH_of ⟨_,rfl⟩ (fun W0 hW0=>by (refine oG (fun X Y=>?_)); simp [go_sem,(hk9.next hW0).cells,((hk9.next hW0).below.cell hltk).trans ck,((hk9.next hW0).below.cell hltu).trans q0,((hk9.next hW0).below.cell hltu).trans q1,((hk9.next hW0).below.cell hbg).trans g1,((hk9.next hW0).below.cell hbcl).trans p0,hiK,hiG,hqk,hqc]; (first | exact Y _ _ ⟨rfl,rfl⟩ | exact ⟨by omega,Y _ _ ⟨rfl,rfl⟩⟩)) ?_))))
  refine ⟨Nx,fun w9 h9=>?_⟩
  have hk:=hk9.next h9
  repeat (any_goals (with_reducible refine zA ?_))
  refine rExponents_ok s x.vars (hs'.next hk.below) (hvu'.next hk.below) (fun w10 h10=>?_)
  have hk:=hk.next h10
  cases hx:exponentsM s y.values x.vars with
  | false=>
   rw [hx] at eF
   repeat (any_goals (first
   | (with_reducible first|refine zA ?_|refine yB ?_|refine yL ?_)
   | ((with_reducible refine oG fun X Y=>?_); simp [go_sem]; apply Y; clear Y X)))
   exact hno (fun h=>by have:=h.2 q x y ecm equ; rw [eF] at this; cases this) _ hk.below
  | true=>
   rw [hx] at eF
   repeat (any_goals (first
   | (with_reducible first|refine zA ?_|refine yB ?_|refine yM ?_)
   | ((with_reducible refine oG fun X Y=>?_); simp [go_sem]; (try simp (disch:=omega) only [wrapI64,wrapU8,wrapU32,wrapU64]); apply Y; clear Y X)))
   exact hstep (by rw [eF]; rfl) _ hk
def RshJ (w0:World) (L:List (Addr × Value)) (s:Stp) (goal:List Cls) (ds:L2) (ns:L3) (vs:List Value) (w':World):Prop:=Kn w0 L w' ∧ ∃ (u v x:Value) (i:Nat),vs = [u,v,x,.int .i64 (i:Int)] ∧ i ≤ goal.length ∧ ∀ (j:Nat) (c:Cls) (d:List Int) (n:L2),j < i → goal[j]? = some c → ds[j]? = some d → ns[j]? = some n → OkS s c d n
def RshI (w0:World) (L:List (Addr × Value)) (s:Stp) (cl:Cls) (N:L2) (vs:List Value) (w':World):Prop:=Kn w0 L w' ∧ ∃ (u:Value) (k:Nat),vs = [u,.int .i64 (k:Int)] ∧ k ≤ cl.claims.length ∧ ∀ (j:Nat) (x:Clm) (y:List Int),j < k → cl.claims[j]? = some x → N[j]? = some y → exponentsM s y x.vars = true
def grMu4 (n:Nat) (l:List Value) (_:World):Nat:=match l with | [_,_,_,.int _ i]=>n - i.toNat | _=>0
theorem grMu4_eq (n:Nat) (u v x:Value) (k:IntKind) (i:Int) (w:World):grMu4 n [u,v,x,.int k i] w = n - i.toNat:=rfl
set_option maxHeartbeats 2000000 in
theorem rShaped_ok (s:Stp) {sv gv dv nv:Value} {goal:List Cls} {ds:L2} {ns:L3} (hs:SetR w s sv) (hg:GoalR w gv goal) (hd:ListsR w dv ds) (hn:NumsR w nv ns)
  (k:∀ w',Bw w w' → K (.bool (shapedM s goal ds ns)) w'):callM Tryz.prog 33 #[stpV s sv,gv,dv,nv] K w:=by
 apply sh_33_ok
 unfold sh_33
 have hs':=hs
 have hg':=hg
 have hd':=hd
 have hn':=hn
 obtain ⟨ad,c,rfl⟩:=hs.ints.isSlice
 obtain ⟨gad,gc,rfl⟩:=hg.isSlice
 obtain ⟨dad,dc,rfl⟩:=hd.isSlice
 obtain ⟨nad,nc,rfl⟩:=hn.isSlice
 have hlg:=hg.len
 have hld:=hd.len
 have hln:=hn.len
 refine box_kn (cs:=stpC s (.slice ad s.bases.length c)) rfl (.start w) fun b1 W hk hb1 hbb=>?_
 clear hb1 hbb
 by_cases e1:¬ ds.length = goal.length
 ·have e1':¬ (ds.length:Int) = goal.length:=by omega
  repeat (any_goals (first
  | (with_reducible first|refine zD ?_|refine yB ?_|refine yL ?_)
  | ((with_reducible refine oG fun X Y=>?_); simp [go_sem,hk.cells,e1']; apply Y; clear Y X)))
  have k:=k _ hk.below
  rw [show shapedM s goal ds ns = false by rw [Bool.eq_false_iff]; intro h; exact e1 (shapedM_iff.1 h).1.1] at k
  exact k
 have e1:ds.length = goal.length:=by omega
 have e1':(ds.length:Int) = goal.length:=by omega
 by_cases e2:¬ ns.length = goal.length
 ·have e2':¬ (ns.length:Int) = goal.length:=by omega
  repeat (any_goals (first
  | (with_reducible first|refine pureM_in ?_|refine zC ?_|refine yC ?_|refine yL ?_)
  | ((with_reducible refine oG fun X Y=>?_); simp [go_sem,hk.cells,e1',e2']; apply Y; clear Y X)))
  have k:=k _ hk.below
  rw [show shapedM s goal ds ns = false by rw [Bool.eq_false_iff]; intro h; exact e2 (shapedM_iff.1 h).1.2] at k
  exact k
 have e2:ns.length = goal.length:=by omega
 have e2':(ns.length:Int) = goal.length:=by omega
 have no:∀ (i:Nat) (c:Cls) (d:List Int) (n:L2),goal[i]? = some c → ds[i]? = some d → ns[i]? = some n → ¬ OkS s c d n → ∀ w',Bw w w' → K (.bool false) w':=fun i c d n a b e h w' hb=>by
  have:=k w' hb
  rwa [show shapedM s goal ds ns = false by rw [Bool.eq_false_iff]; intro x; exact h ((shapedM_iff.1 x).2 i c d n a b e)] at this
 repeat (any_goals (first
 | (with_reducible first|refine pureM_in ?_|refine zC ?_|refine yC ?_|refine yM ?_)
 | ((with_reducible refine oG fun X Y=>?_); simp [go_sem,hk.cells,e1',e2']; apply Y; clear Y X)))
 refine ⟨RshJ w (cellsOf [] b1 0 (stpC s (.slice ad s.bases.length c))) s goal ds ns,grMu4 goal.length,⟨hk,_,_,_,0,rfl,by omega,fun j c d n hj=>by omega⟩,?_⟩
 clear hk
 rintro _ _ w3 ⟨hk,u,v,z,i,rfl,hi,hall⟩
 by_cases hin:i = goal.length
 ·subst hin
  repeat (any_goals (first
  | (with_reducible refine yM ?_)
  | ((with_reducible refine oG fun X Y=>?_); simp [go_sem]; apply Y; clear Y X)))
  have k:=k _ hk.below
  rw [show shapedM s goal ds ns = true from shapedM_iff.2 ⟨⟨e1,e2⟩,fun j c d n a b e=>hall j c d n (gS a).1 a b e⟩] at k
  exact k
 have eg:goal[i]? = some goal[i]:=gE (by omega)
 have ed:ds[i]? = some ds[i]:=gE (by omega)
 have en:ns[i]? = some ns[i]:=gE (by omega)
 obtain ⟨bd,od,rfl,hltd,csd,_,hcelld,vd,rfl,hrowd⟩:=hd'.at (i:=i) (by omega)
 obtain ⟨bn,on,rfl,hltn,csn,_,hcelln,vn,rfl,hrown⟩:=hn'.at (i:=i) (by omega)
 obtain ⟨bg,og,rfl,hbg,_,_,hgcell,gcv,rfl,_,hgc⟩:=hg'.at (i:=i) (by omega)
 have cd:=hcelld 0 _ rfl
 have cn:=hcelln 0 _ rfl
 simp only [Nat.add_zero,Nat.mul_one,Nat.zero_add] at cd cn
 have g1:=hgcell 1 _ rfl
 have hno:=no i _ _ _ eg ed en
 generalize goal[i] = cl at *
 generalize ds[i] = d at *
 generalize ns[i] = N at *
 have hrowd':=hrowd
 have hrown':=hrown
 have hgc':=hgc
 obtain ⟨dad2,dc2,rfl⟩:=hrowd.isSlice
 obtain ⟨nad2,nc2,rfl⟩:=hrown.isSlice
 obtain ⟨cad,cc,rfl⟩:=hgc.isSlice
 have hlcs:=hgc'.len
 have hlN:=hrown'.len
 have hiD:(i:Int) < ds.length:=by omega
 have hiN:(i:Int) < ns.length:=by omega
 have hiG:(i:Int) < goal.length:=by omega
 repeat (any_goals (first
 | (with_reducible refine yL ?_)
 | ((with_reducible refine oG fun X Y=>?_); simp [go_sem,hk.cells,hiG,(hk.below.cell hbg).trans g1]; apply Y; clear Y X)))
 unfold held_33_20
 simp only [List.getD_cons_succ,List.getD_cons_zero]
 have hk9:=hk.drew
 refine ⟨Nx { w3 with drawn:=w3.drawn + 1 },bR,by trivial,?_⟩
 generalize ({ w3 with drawn:=w3.drawn + 1 }:World) = W9 at *
 repeat (any_goals (first
 | (with_reducible refine pX ?_)
 | ((with_reducible refine idOH ?_); (with_reducible refine oH_of ⟨_,rfl⟩ (fun W0 hW0=>by (refine oG (fun X Y=>?_)); simp [go_sem,(hk9.next hW0).cells,((hk9.next hW0).below.cell hltd).trans cd,hiD]; (first | exact Y _ _ ⟨rfl,rfl⟩ | exact ⟨by omega,Y _ _ ⟨rfl,rfl⟩⟩)) ?_))))
 refine ⟨Nx,?_⟩
 apply monoE
 ·(intro w9 h9; repeat (intro v9 e9; try (obtain rfl:=e9)))
  skip
  exact rExponents_ok s cl.claims.length (hs'.next (hk9.next h9).below) (hrowd'.next (hk9.next h9).below) (fun w2 h2=>⟨h9.on h2,h2,rfl⟩)
 cases hx:exponentsM s d cl.claims.length with
 | false=>
  repeat (apply monoE; focus (intro w9 h9; (repeat (intro v9 e9; try (obtain rfl:=e9))); (repeat (any_goals (first
   | (with_reducible refine zD ?_)
   | ((with_reducible refine oG fun X Y=>?_); simp [go_sem,(hk9.next h9).cells]; apply Y; clear Y X)))); exact ⟨h9,bR,rfl⟩))
  (intro w9 h9; repeat (intro v9 e9; try (obtain rfl:=e9)))
  repeat (any_goals (with_reducible first|refine zD ?_|refine yB ?_|refine yL ?_))
  exact hno (fun h=>by have:=h.1.1; rw [hx] at this; cases this) _ (hk9.next h9).below
 | true=>
 by_cases e3:¬ N.length = cl.claims.length
 ·have e3':¬ (N.length:Int) = cl.claims.length:=by omega
  repeat (apply monoE; focus (intro w9 h9; (repeat (intro v9 e9; try (obtain rfl:=e9))); (repeat (any_goals (first
   | (with_reducible first|refine pureM_in ?_|refine zC ?_)
   | ((with_reducible refine oG fun X Y=>?_); simp [go_sem,(hk9.next h9).cells,((hk9.next h9).below.cell hltn).trans cn,hiN,e3']; apply Y; clear Y X)))); exact ⟨h9,bR,rfl⟩))
  (intro w9 h9; repeat (intro v9 e9; try (obtain rfl:=e9)))
  repeat (any_goals (first
  | (with_reducible first|refine zC ?_|refine yC ?_|refine yL ?_)
  | ((with_reducible refine oG fun X Y=>?_); simp [go_sem,e3']; apply Y; clear Y X)))
  exact hno (fun h=>e3 h.1.2) _ (hk9.next h9).below
 have e3:N.length = cl.claims.length:=by omega
 have e3':(N.length:Int) = cl.claims.length:=by omega
 repeat (apply monoE; focus (intro w9 h9; (repeat (intro v9 e9; try (obtain rfl:=e9))); (repeat (any_goals (first
  | (with_reducible first|refine pureM_in ?_|refine zC ?_)
  | ((with_reducible refine oG fun X Y=>?_); simp [go_sem,(hk9.next h9).cells,((hk9.next h9).below.cell hltn).trans cn,hiN,e3']; apply Y; clear Y X)))); exact ⟨h9,bR,rfl⟩))
 (intro w9 h9; repeat (intro v9 e9; try (obtain rfl:=e9)))
 have hk:=hk9.next h9
 repeat (any_goals (first
 | (with_reducible first|refine zC ?_|refine yC ?_|refine yM ?_)
 | ((with_reducible refine oG fun X Y=>?_); simp [go_sem,e3']; apply Y; clear Y X)))
 refine ⟨RshI w (cellsOf [] b1 0 (stpC s (.slice ad s.bases.length c))) s cl N,grMu cl.claims.length,⟨hk,_,0,rfl,by omega,fun j c n hj=>by omega⟩,?_⟩
 clear hk h9
 rintro _ _ w5 ⟨hk,u5,q,rfl,hq,hall5⟩
 by_cases hqn:q = cl.claims.length
 ·subst hqn
  repeat (any_goals (first
  | (with_reducible refine yM ?_)
  | ((with_reducible refine oG fun X Y=>?_); simp [go_sem,hk.cells]; (try simp (disch:=omega) only [wrapI64,wrapU8,wrapU32,wrapU64]); apply Y; clear Y X)))
  refine ⟨⟨hk,_,_,_,i + 1,rfl,by omega,fun j c d' n' hj a b e=>?_⟩,?_⟩
  ·by_cases hji:j = i
   ·subst hji
    rw [eg] at a; rw [ed] at b; rw [en] at e
    cases a; cases b; cases e
    exact ⟨⟨hx,e3⟩,fun p x y e1 e2'=>hall5 p x y (gS e1).1 e1 e2'⟩
   ·exact hall j c d' n' (by omega) a b e
  ·simp only [grMu4_eq]; omega
 have equ:N[q]? = some (N[q]'(by omega)):=gE (by omega)
 have ecm:cl.claims[q]? = some (cl.claims[q]'(by omega)):=gE (by omega)
 obtain ⟨bu,ou,rfl,hltu,_,_,hcellu,vu,rfl,hvu⟩:=hrown'.at (i:=q) (by omega)
 obtain ⟨bcl,ocl,rfl,hbcl,_,_,hccell,ccv,rfl,hclm⟩:=hgc'.at (i:=q) (by omega)
 have p0:=hccell 0 _ rfl
 have q0:=hcellu 0 _ rfl
 generalize N[q] = y at *
 generalize cl.claims[q] = x at *
 simp only [Nat.add_zero,Nat.mul_one,Nat.zero_add] at p0 q0
 have hvu':=hvu
 obtain ⟨uad,uc,rfl⟩:=hvu.isSlice
 have hqN:(q:Int) < N.length:=by omega
 have hqc:(q:Int) < cl.claims.length:=by omega
 repeat (any_goals (first
 | (with_reducible refine yL ?_)
 | ((with_reducible refine oG fun X Y=>?_); simp [go_sem,hk.cells,hqc]; apply Y; clear Y X)))
 unfold held_33_64
 simp only [List.getD_cons_succ,List.getD_cons_zero]
 have hk9:=hk.drew
 refine ⟨Nx { w5 with drawn:=w5.drawn + 1 },bR,by trivial,?_⟩
 generalize ({ w5 with drawn:=w5.drawn + 1 }:World) = W8 at *
 repeat (any_goals (first
 | (with_reducible refine pX ?_)
 | ((with_reducible refine idOH ?_); (with_reducible refine oH_of ⟨_,rfl⟩ (fun W0 hW0=>by (refine oG (fun X Y=>?_)); simp [go_sem,(hk9.next hW0).cells,((hk9.next hW0).below.cell hltn).trans cn,((hk9.next hW0).below.cell hltu).trans q0,((hk9.next hW0).below.cell hbg).trans g1,((hk9.next hW0).below.cell hbcl).trans p0,hiN,hiG,hqN,hqc]; (first | exact Y _ _ ⟨rfl,rfl⟩ | exact ⟨by omega,Y _ _ ⟨rfl,rfl⟩⟩)) ?_))))
 refine ⟨Nx,fun w9 h9=>?_⟩
 have hk:=hk9.next h9
 skip
 refine rExponents_ok s x.vars (hs'.next hk.below) (hvu'.next hk.below) (fun w10 h10=>?_)
 have hk:=hk.next h10
 cases hy:exponentsM s y x.vars with
 | false=>
  repeat (any_goals (first
  | (with_reducible refine yL ?_)
  | ((with_reducible refine oG fun X Y=>?_); simp [go_sem]; apply Y; clear Y X)))
  exact hno (fun h=>by have:=h.2 q x y ecm equ; rw [hy] at this; cases this) _ hk.below
 | true=>
  repeat (any_goals (first
  | (with_reducible refine yM ?_)
  | ((with_reducible refine oG fun X Y=>?_); simp [go_sem]; (try simp (disch:=omega) only [wrapI64,wrapU8,wrapU32,wrapU64]); apply Y; clear Y X)))
  refine ⟨⟨hk,_,q + 1,rfl,by omega,fun j x' y' hj a b=>?_⟩,?_⟩
  ·by_cases hjq:j = q
   ·subst hjq
    rw [ecm] at a; rw [equ] at b
    cases a; cases b
    exact hy
   ·exact hall5 j x' y' (by omega) a b
  ·simp only [grMu_eq]; omega
theorem cell_ltR {a:Addr} {v:Value} (h:w.cell? a = some v):a.block < w.heap.size ∧ a.spot = none:=by
 unfold World.cell? at h
 split at h
 ·rename_i c t f hh
  refine ⟨(Array.getElem?_eq_some_iff.1 hh).1,?_⟩
  split at h
  ·cases h
  ·rename_i hs
   cases hsp:a.spot with
   | none=>rfl
   | some x=>rw [hsp] at hs; exact absurd rfl hs
 ·cases h
theorem cellsAre_lt:∀ (L:List (Addr × Value)),cellsAre w L → ∀ p ∈ L,p.1.block < w.heap.size
 | [],_,p,hp=>by cases hp
 | (a,v) :: L,h,p,hp=>by
  rcases List.mem_cons.1 hp with rfl | hp
  ·exact (cell_ltR h.1).1
  ·exact cellsAre_lt L h.2 p hp
theorem HoldsM_is {s:Stp} {x:Clm} (hv:validS s = true) (hc:claimM s x = true) (l:List Int):HoldsM s x l = holdsM s x l:=by
 unfold HoldsM
 rw [hv,hc]
 rfl
def RpvS (w0:World) (L:List (Addr × Value)) (g:Nat) (s:Stp) (cl:Cls) (ks:List Knw) (q:Nat) (left:Int) (w':World):Prop:=Kn w0 L w' ∧ 0 ≤ left ∧ left ≤ 1000 ∧ ∃ pre:List Bool,pre.length = q ∧ Holds w' g 4 ((pre ++ List.replicate (cl.claims.length - q) false).map Value.bool) ∧
 chosenC s cl.need cl.claims ks = (pre ++ (chosenC s left (cl.claims.drop q) (ks.drop q)).1,(chosenC s left (cl.claims.drop q) (ks.drop q)).2)
def RpvJ (w0:World) (L:List (Addr × Value)) (g:Nat) (s:Stp) (cl:Cls) (ks:List Knw) (vs:List Value) (w':World):Prop:=∃ (left:Int) (q:Nat),vs = [.int .i64 left,.int .i64 (q:Int)] ∧ q ≤ cl.claims.length ∧ RpvS w0 L g s cl ks q left w'
theorem rpS_no {s:Stp} {cl:Cls} {ks:List Knw} {q:Nat} {left:Int} {x:Clm} {u:Knw} (h:RpvS w0 L g s cl ks q left w) (hx:cl.claims[q]? = some x) (hu:ks[q]? = some u) (hno:(decide (0 < left) && u.has && holdsM s x u.values) = false) (hk:Kn w0 L w') (hb:Bw w w'):RpvS w0 L g s cl ks (q + 1) left w':=by
 obtain ⟨_,h0,h1,pre,hp,hh,he⟩:=h
 obtain ⟨hxl,hxe⟩:=gS hx
 obtain ⟨hul,hue⟩:=gS hu
 refine ⟨hk,h0,h1,pre ++ [false],by simp [hp],?_,?_⟩
 ·have:pre ++ List.replicate (cl.claims.length - q) false = pre ++ [false] ++ List.replicate (cl.claims.length - (q + 1)) false:=by
   rw [show cl.claims.length - q = (cl.claims.length - (q + 1)) + 1 by omega,List.replicate_succ]; simp
  rw [← this]
  exact hh.next hb
 ·rw [List.drop_eq_getElem_cons hxl,List.drop_eq_getElem_cons hul,hxe,hue] at he
  simp only [chosenC,hno,Bool.false_eq_true,if_false] at he
  rw [he]; simp
theorem rpS_yes {s:Stp} {cl:Cls} {ks:List Knw} {q:Nat} {left:Int} {x:Clm} {u:Knw} (h:RpvS w0 L g s cl ks q left w) (hx:cl.claims[q]? = some x) (hu:ks[q]? = some u) (hl:0 < left) (hyes:(decide (0 < left) && u.has && holdsM s x u.values) = true) (hk:Kn w0 L w')
  {pre:List Bool} (hp:pre.length = q) (he:chosenC s cl.need cl.claims ks = (pre ++ (chosenC s left (cl.claims.drop q) (ks.drop q)).1,(chosenC s left (cl.claims.drop q) (ks.drop q)).2)) (hh:Holds w' g 4 (((pre ++ List.replicate (cl.claims.length - q) false).map Value.bool).set q (.bool true))):RpvS w0 L g s cl ks (q + 1) (left - 1) w':=by
 obtain ⟨_,h0,h1,_⟩:=h
 obtain ⟨hxl,hxe⟩:=gS hx
 obtain ⟨hul,hue⟩:=gS hu
 refine ⟨hk,by omega,by omega,pre ++ [true],by simp [hp],?_,?_⟩
 ·have:((pre ++ List.replicate (cl.claims.length - q) false).map Value.bool).set q (.bool true) = (pre ++ [true] ++ List.replicate (cl.claims.length - (q + 1)) false).map Value.bool:=by
   rw [show cl.claims.length - q = (cl.claims.length - (q + 1)) + 1 by omega,List.replicate_succ,List.map_append,List.set_append_right _ _ (by simp [hp])]
   simp [hp]
  rw [← this]
  exact hh
 ·rw [List.drop_eq_getElem_cons hxl,List.drop_eq_getElem_cons hul,hxe,hue] at he
  simp only [chosenC,hyes,if_true] at he
  rw [he]; simp
set_option maxHeartbeats 2000000 in
theorem rProven_ok (s:Stp) (cl:Cls) (ks:List Knw) {sv cv kv:Value} (hs:SetR w s sv) (hc:SRow 2 (AtOf 2 VClm) w cv cl.claims) (hk0:KnwsR w kv ks) (hlen:ks.length = cl.claims.length) (hv:validS s = true) (hcm:∀ x ∈ cl.claims,claimM s x = true) (hmax:cl.claims.length ≤ 16) (hneed:0 ≤ cl.need ∧ cl.need ≤ 1000)
  (k:∀ w' g,Bw w w' → w.heap.size ≤ g → Holds w' g 4 ((chosenC s cl.need cl.claims ks).1.map Value.bool) → K (.tuple #[.slice (some ⟨g,0,none⟩) cl.claims.length cl.claims.length,.bool (decide ((chosenC s cl.need cl.claims ks).2 = 0))]) w') :
  callM Tryz.prog 101 #[stpV s sv,clsV cl cv,kv] K w:=by
 apply sh_101_ok
 unfold sh_101
 have hs':=hs
 have hc':=hc
 have hk0':=hk0
 obtain ⟨ad,c,rfl⟩:=hs.ints.isSlice
 obtain ⟨cad,cc,rfl⟩:=hc.isSlice
 obtain ⟨kad,kc,rfl⟩:=hk0.isSlice
 refine box_kn (cs:=stpC s (.slice ad s.bases.length c)) rfl (.start w) fun b1 W hk hb1 hbb1=>?_
 refine box_kn (cs:=clsC cl (.slice cad cl.claims.length cc)) rfl hk fun b2 W hk hb2 hbb2=>?_
 repeat (any_goals ((with_reducible refine oG fun X Y=>?_); simp [go_sem,hk.cells]; apply Y; clear Y X))
 refine make_bools (by omega) (fun g W2 h2 hg2 hh2=>?_)
 have hgw:w.heap.size ≤ g:=by have:=hk.below.size; omega
 have hoff:∀ p ∈ cellsOf (cellsOf [] b1 0 (stpC s (.slice ad s.bases.length c))) b2 0 (clsC cl (.slice cad cl.claims.length cc)),p.1.block ≠ g:=by
  intro p hp
  have:=cellsAre_lt _ hk.cells p hp
  omega
 have hk:=hk.next h2
 repeat (any_goals ((with_reducible refine oG fun X Y=>?_); simp [go_sem,hk.cells]; apply Y; clear Y X))
 refine ⟨RpvJ w (cellsOf (cellsOf [] b1 0 (stpC s (.slice ad s.bases.length c))) b2 0 (clsC cl (.slice cad cl.claims.length cc))) g s cl ks,grMu cl.claims.length,⟨cl.need,0,rfl,by omega,hk,hneed.1,hneed.2,[],rfl,by simpa using hh2,by simp⟩,?_⟩
 clear hk hh2
 rintro _ _ w3 ⟨left,q,rfl,hq,hS⟩
 have hS':=hS
 obtain ⟨hk,hl0,hl1,pre,hp,hh,he⟩:=hS'
 unfold loop_101_9
 by_cases hqn:q = cl.claims.length
 ·subst hqn
  rw [List.drop_of_length_le (rL),List.drop_of_length_le (by omega)] at he
  simp only [Nat.sub_self,List.replicate_zero,List.append_nil] at hh
  have h1:(chosenC s cl.need cl.claims ks).1 = pre:=by rw [he]; simp [chosenC]
  have h2:(chosenC s cl.need cl.claims ks).2 = left:=by rw [he]; simp [chosenC]
  have k:=k w3 g hk.below hgw (by rw [h1]; exact hh)
  rw [h2] at k
  generalize hqq:decide (left = 0) = qq at *
  repeat (any_goals (first
  | (with_reducible refine yM ?_)
  | ((with_reducible refine oG fun X Y=>?_); simp [go_sem,hk.cells]; apply Y; clear Y X)))
  rw [hqq]
  exact k
 have equ:ks[q]? = some (ks[q]'(by omega)):=gE (by omega)
 have ecm:cl.claims[q]? = some (cl.claims[q]'(by omega)):=gE (by omega)
 obtain ⟨bu,ou,rfl,hltu,_,_,hcellu,vu,rfl,hvu⟩:=hk0'.at (i:=q) (by omega)
 obtain ⟨bcl,ocl,rfl,hbcl,_,_,hccell,ccv,rfl,hclm⟩:=hc'.at (i:=q) (by omega)
 have hcx:=hcm _ (List.getElem_mem (show q < cl.claims.length by omega))
 have p0:=hccell 0 _ rfl
 have p1:=hccell 1 _ rfl
 have q0:=hcellu 0 _ rfl
 have q1:=hcellu 1 _ rfl
 generalize ks[q] = y at *
 generalize cl.claims[q] = x at *
 simp only [Nat.add_zero] at p0 q0
 have hvu':=hvu
 obtain ⟨uad,uc,rfl⟩:=hvu.isSlice
 have hclm':=hclm
 obtain ⟨ead,ec,rfl⟩:=hclm.eqs.isSlice
 have hqk:(q:Int) < ks.length:=by omega
 have hqc:(q:Int) < cl.claims.length:=by omega
 repeat (any_goals (first
 | (with_reducible refine yL ?_)
 | ((with_reducible refine oG fun X Y=>?_); simp [go_sem,hk.cells,hqc]; apply Y; clear Y X)))
 refine ⟨fun l w6=>∃ left',l = [.int .i64 left'] ∧ RpvS w (cellsOf (cellsOf [] b1 0 (stpC s (.slice ad s.bases.length c))) b2 0 (clsC cl (.slice (some ⟨bcl,ocl,none⟩) cl.claims.length cc))) g s cl ks (q + 1) left' w6,?_,?_⟩
 rotate_left
 ·rintro _ _ w6 ⟨left',rfl,hS6⟩
  repeat (any_goals ((with_reducible refine oG fun X Y=>?_); simp [go_sem]; (try simp (disch:=omega) only [wrapI64,wrapU8,wrapU32,wrapU64]); apply Y; clear Y X))
  refine ⟨⟨left',q + 1,rfl,by omega,hS6⟩,?_⟩
  simp only [grMu_eq]; omega
 unfold held_101_18
 simp only [List.getD_cons_succ,List.getD_cons_zero]
 have hk9:=hk.drew
 have hodr:Below w3.heap.size w3 { w3 with drawn:=w3.drawn + 1 }:=.drawn
 refine ⟨Nx { w3 with drawn:=w3.drawn + 1 },bR,by trivial,?_⟩
 generalize ({ w3 with drawn:=w3.drawn + 1 }:World) = W9 at *
 by_cases hl:0 < left
 case neg=>
  repeat (any_goals (first
  | (with_reducible first|refine pX ?_|((refine idGdH ?_); refine gdH_conv fun _=>?_)|refine zB ?_)
  | ((with_reducible refine idOH ?_); first|(with_reducible refine vB ?_)|(with_reducible refine oH_of ⟨_,rfl⟩ (fun W0 hW0=>by (refine oG (fun X Y=>?_)); simp [go_sem,(hk9.next hW0).cells,hl]; (first | exact Y _ _ ⟨rfl,rfl⟩ | exact ⟨by omega,Y _ _ ⟨rfl,rfl⟩⟩)) ?_))))
  refine ⟨Nx,fun w9 h9=>?_⟩
  repeat (any_goals (with_reducible first|refine zB ?_|refine yC ?_|refine yM ?_))
  exact ⟨left,rfl,rpS_no hS ecm equ (by rw [decide_eq_false hl]; rfl) (hk9.next h9) (hodr.on h9)⟩
 cases hhas:y.has with
 | false=>
  rw [hhas] at q0
  repeat (any_goals (first
  | (with_reducible first|refine pX ?_|((refine idGdH ?_); refine gdH_conv fun _=>?_)|((refine idGd ?_); first|refine zA ?_|refine zB ?_))
  | ((with_reducible refine idOH ?_); first|(with_reducible refine vA ?_)|(with_reducible refine oH_of ⟨_,rfl⟩ (fun W0 hW0=>by (refine oG (fun X Y=>?_)); simp [go_sem,(hk9.next hW0).cells,((hk9.next hW0).below.cell hltu).trans q0,hqk,hl]; (first | exact Y _ _ ⟨rfl,rfl⟩ | exact ⟨by omega,Y _ _ ⟨rfl,rfl⟩⟩)) ?_))))
  refine ⟨Nx,fun w9 h9=>?_⟩
  repeat (any_goals (with_reducible first|refine zB ?_|refine yC ?_|refine yM ?_))
  exact ⟨left,rfl,rpS_no hS ecm equ (by rw [hhas]; simp) (hk9.next h9) (hodr.on h9)⟩
 | true=>
  rw [hhas] at q0
  repeat (any_goals (first
  | (with_reducible first|refine pX ?_|((refine idGdH ?_); refine gdH_conv fun _=>?_)|refine zA ?_)
  | ((with_reducible refine idOH ?_); first|(with_reducible refine vA ?_)|(with_reducible refine oH_of ⟨_,rfl⟩ (fun W0 hW0=>by (refine oG (fun X Y=>?_)); simp [go_sem,(hk9.next hW0).cells,((hk9.next hW0).below.cell hltu).trans q0,((hk9.next hW0).below.cell hltu).trans q1,((hk9.next hW0).below.cell hbcl).trans p0,((hk9.next hW0).below.cell hbcl).trans p1,hqk,hqc,hl]; (first | exact Y _ _ ⟨rfl,rfl⟩ | exact ⟨by omega,Y _ _ ⟨rfl,rfl⟩⟩)) ?_))))
  refine ⟨Nx,fun w9 h9=>?_⟩
  repeat (any_goals (with_reducible refine zA ?_))
  refine rHolds_ok s x y.values (hs'.next (hk9.next h9).below) (hclm'.next (hk9.next h9).below) (hvu'.next (hk9.next h9).below) (fun w10 h10=>?_)
  have hk:=(hk9.next h9).next h10
  have hb10:=(hodr.on h9).on h10
  rw [HoldsM_is hv hcx]
  cases hH:holdsM s x y.values with
  | false=>
   repeat (any_goals (with_reducible first|refine yB ?_|refine yM ?_))
   exact ⟨left,rfl,rpS_no hS ecm equ (by rw [hH]; simp) hk hb10⟩
  | true=>
   repeat (any_goals (first
   | (with_reducible first|refine yB ?_|refine yL ?_)
   | ((with_reducible refine oG fun X Y=>?_); simp [go_sem,hqc]; apply Y; clear Y X)))
   refine arr_set (i:=q) sz_boolR rfl rfl (hh.next hb10) (by simp [hp]; omega) (fun w11 hg11 hh11=>?_)
   have hwa:IntKind.i64.wrap (left - 1) = left - 1:=wrapI64 _ (by omega) (by omega)
   repeat (any_goals ((with_reducible refine oG fun X Y=>?_); simp [go_sem]; (try simp (disch:=omega) only [wrapI64,wrapU8,wrapU32,wrapU64]); apply Y; clear Y X))
   refine ⟨left - 1,rfl,rpS_yes hS ecm equ hl (by rw [decide_eq_true hl,hhas,hH]; rfl) ?_ hp he hh11⟩
   exact hk.wrote hg11 hgw hoff
end
end Go.Proofs
namespace PrSpec
open FdSpec TkSpec CodeSpec Go.Proofs
theorem chosenL_at' {s:Stp}:∀ {goal:List Cls} {know:List (List Knw)} {i:Nat} {c:Cls} {ks:List Knw},goal[i]? = some c → know[i]? = some ks → (chosenL s goal know).1[i]? = some (chosenC s c.need c.claims ks).1
 | [],_,_,_,_,h,_=>by simp at h
 | _ :: _,[],_,_,_,_,h=>by simp at h
 | c :: cs,k :: kss,0,c',k',h1,h2=>by simp at h1 h2; subst h1 h2; simp [chosenL]
 | c :: cs,k :: kss,i + 1,c',k',h1,h2=>by
  have:=chosenL_at' (s:=s) (goal:=cs) (know:=kss) (i:=i) (c:=c') (ks:=k') (by simpa using h1) (by simpa using h2)
  simpa [chosenL] using this
theorem chosenL_len' {s:Stp}:∀ {goal:List Cls} {know:List (List Knw)},know.length = goal.length → (chosenL s goal know).1.length = goal.length
 | [],[],_=>rfl
 | [],_ :: _,h=>by simp at h
 | _ :: _,[],h=>by simp at h
 | c :: cs,k :: ks,h=>by
  have:=chosenL_len' (s:=s) (goal:=cs) (know:=ks) (by simpa using h)
  simp [chosenL,this]
theorem zeroL_iff {s:Stp} {goal:List Cls} {know:List (List Knw)} {ds:List (List Int)} (hl:know.length = goal.length):zeroL (chosenL s goal know).1 ds = true ↔ ∀ (i:Nat) (c:Cls) (ks:List Knw) (d:List Int),goal[i]? = some c → know[i]? = some ks → ds[i]? = some d → zeroC (chosenC s c.need c.claims ks).1 d = true:=by
 constructor
 ·intro h i c ks d a b e
  exact zeroL_at h (chosenL_at' a b) e
 ·intro h
  refine zeroL_of (fun i b d h1 h2=>?_)
  have hi:=(List.getElem?_eq_some_iff.1 h1).1
  rw [chosenL_len' hl] at hi
  have a:goal[i]? = some goal[i]:=List.getElem?_eq_getElem hi
  have b':know[i]? = some (know[i]'(by omega)):=List.getElem?_eq_getElem (by omega)
  have:=chosenL_at' (s:=s) a b'
  rw [h1] at this
  cases this
  exact h i _ _ d a b' h2
theorem zeroC_iff {b:List Bool} {d:List Int}:zeroC b d = true ↔ ∀ (k:Nat) (x:Bool) (y:Int),b[k]? = some x → d[k]? = some y → x = true → y = 0:=
 ⟨fun h k x y a e hx=>zeroC_at h a e hx,zeroC_of⟩
theorem enoughL_iff {s:Stp}:∀ {goal:List Cls} {know:List (List Knw)},know.length = goal.length → (enoughL s goal know = true ↔ ∀ (i:Nat) (c:Cls) (ks:List Knw),goal[i]? = some c → know[i]? = some ks → c.need ≤ knownC s c.claims ks)
 | [],[],_=>by simp [enoughL]
 | [],_ :: _,h=>by simp at h
 | _ :: _,[],h=>by simp at h
 | c :: cs,k :: ks,h=>by
  have ih:=enoughL_iff (s:=s) (goal:=cs) (know:=ks) (by simpa using h)
  simp only [enoughL,Bool.and_eq_true,decide_eq_true_eq,ih]
  constructor
  ·rintro ⟨h1,h2⟩ i c' k' a b
   cases i with
   | zero=>simp at a b; subst a b; exact h1
   | succ i=>exact h2 i c' k' (by simpa using a) (by simpa using b)
  ·intro h1
   exact ⟨h1 0 c k rfl rfl,fun i c' k' a b=>h1 (i + 1) c' k' (by simpa using a) (by simpa using b)⟩
theorem chosenC_len' (s:Stp):∀ (cs:List Clm) (ks:List Knw) (need:Int),ks.length = cs.length → (chosenC s need cs ks).1.length = cs.length
 | [],_,_,_=>by simp [chosenC]
 | _ :: _,[],_,h=>by simp at h
 | c :: cs,k :: ks,need,h=>by
  have h':ks.length = cs.length:=by simpa using h
  unfold chosenC
  split <;> simp [chosenC_len' s cs ks _ h']
theorem knownC_drop {s:Stp} {cs:List Clm} {ks:List Knw} {q:Nat} {x:Clm} {u:Knw} (hx:cs[q]? = some x) (hu:ks[q]? = some u):knownC s (cs.drop q) (ks.drop q) = (if u.has && holdsM s x u.values then 1 else 0) + knownC s (cs.drop (q + 1)) (ks.drop (q + 1)):=by
 obtain ⟨hxl,hxe⟩:=List.getElem?_eq_some_iff.1 hx
 obtain ⟨hul,hue⟩:=List.getElem?_eq_some_iff.1 hu
 rw [List.drop_eq_getElem_cons hxl,List.drop_eq_getElem_cons hul,hxe,hue]
 rfl
end PrSpec
namespace Go.Proofs
open Go Go.Sh Tryz
def held_34_16 (M_14:List Value → World → Prop) (a1 a2:Value) (l_4 l_9:List Value) (v3:Value) (w:World):Prop:=
 heldM w (fun C_16 w=>(((true:Bool) = true) ∧ (pureH a2 C_16 (fun v25=>
 pureH (l_4.getD 3 undef) C_16 (fun v26=>
 jI 28 v25 v26 C_16 (fun v27=>
 jL 114 v27 C_16 (fun v28=>
 pureH (l_9.getD 1 undef) C_16 (fun v29=>
 jI 114 v28 v29 C_16 (fun v30=>
 jF 113 0 v30 C_16 (fun v31=>
 jL 4 v31 C_16 (fun v32=>
 pureH v32 C_16 (fun v33=>
 jT v33 (jL 26 v3) C_16 (fun v34=>
 jT v33 (pureH a1) C_16 (fun v35=>
 jT v33 (pureH (l_4.getD 3 undef)) C_16 (fun v36=>
 jT v33 (jI 27 v35 v36) C_16 (fun v37=>
 jT v33 (jF 65 1 v37) C_16 (fun v38=>
 jT v33 (jL 63 v38) C_16 (fun v39=>
 jT v33 (pureH (l_9.getD 1 undef)) C_16 (fun v40=>
 jT v33 (jI 63 v39 v40) C_16 (fun v41=>
 jT v33 (jL 69 v41) C_16 (fun v42=>
 jT v33 (pureH a2) C_16 (fun v43=>
 jT v33 (pureH (l_4.getD 3 undef)) C_16 (fun v44=>
 jT v33 (jI 28 v43 v44) C_16 (fun v45=>
 jT v33 (jL 114 v45) C_16 (fun v46=>
 jT v33 (pureH (l_9.getD 1 undef)) C_16 (fun v47=>
 jT v33 (jI 114 v46 v47) C_16 (fun v48=>
 jT v33 (jF 113 1 v48) C_16 (fun v49=>
 jT v33 (jL 24 v49) C_16 (fun v50=>
 ∃ S_43:World → WK,∀ w,C_16 w → (
 gT v33 (callM prog 41 #[v34,v42,v50]) (fun v51 w=>
 kP v33 v51 (.bool false) (fun v52 w=>
 condM v52
 (kB .add 3 3 (l_9.getD 0 undef) (.int .i64 1) (fun v54 w=>
 M_14 [v54] w) w)
 (M_14 [(l_9.getD 0 undef)] w)) w) w))))))))))))))))))))))))))))))
def loop_34_7 (J_2 J_7:List Value → World → Prop) (K:VK) (a1 a2:Value) (l_4 l_9:List Value) (m_3 m_8:List Value → World → Nat) (v3:Value) (w0_l_4 w0_l_9:World):Prop:=
(fun w=>(
 kI 28 a2 (l_4.getD 3 undef) (fun v19 w=>
 kL 114 v19 (fun v20 w=>
 kN 114 v20 (fun v21 w=>
 kB .lss 3 4 (l_9.getD 1 undef) v21 (fun v22 w=>
 condM v22
 (joinM (fun M_14=>(held_34_16 M_14 a1 a2 l_4 l_9 v3 w))
 (fun l_15 u_l_15 w=>(kB .add 3 3 (l_9.getD 1 undef) (.int .i64 1) (fun v24 w=>
 J_7 [(l_15.getD 0 undef),v24] w ∧ m_8 [(l_15.getD 0 undef),v24] w < m_8 l_9 w0_l_9) w)))
 (kI 27 a1 (l_4.getD 3 undef) (fun v58 w=>
 kF 65 0 v58 (fun v59 w=>
 kL 3 v59 (fun v60 w=>
 kB .lss 3 4 (l_9.getD 0 undef) v60 (fun v61 w=>
 condM v61
 (K (.bool false) w)
 (kB .add 3 3 (l_4.getD 3 undef) (.int .i64 1) (fun v15 w=>
 J_2 [(l_9.getD 0 undef),(l_9.getD 1 undef),(l_4.getD 2 undef),v15] w ∧ m_3 [(l_9.getD 0 undef),(l_9.getD 1 undef),(l_4.getD 2 undef),v15] w < m_3 l_4 w0_l_4) w)) w) w) w) w)) w) w) w) w)) w0_l_9
def sh_34f (a0 a1 a2:Value) (K:VK) (w:World):Prop:=
 oM prog (.box 26 (.tmp 0)) 0 [a0] (fun v3 w=>
 loopM [undef,undef,(.bool false),(.int .i64 0)] w (fun J_2 m_3 l_4 u_l_4 w0_l_4=>(fun w=>(
 kN 27 a1 (fun v12 w=>
 kB .lss 3 4 (l_4.getD 3 undef) v12 (fun v13 w=>
 condM v13
 (loopM [(.int .i64 0),(.int .i64 0)] w (fun J_7 m_8 l_9 u_l_9 w0_l_9=>loop_34_7 J_2 J_7 K a1 a2 l_4 l_9 m_3 m_8 v3 w0_l_4 w0_l_9))
 (K (.bool true) w)) w) w)) w0_l_4)) w
theorem sh_34f_ok {a0 a1 a2:Value} {K:VK} {w:World} (h:sh_34f a0 a1 a2 K w):callM prog 34 #[a0,a1,a2] K w:=
 calls_of_code (fun _=>.free [0,1,2,3,4,5,6,7,8,9,10,11,12,13,14,15,16,17,18,19,20,21,22,23,24,25] [] [26,27]) (fn:=Tryz.f34) (rs:=[.tmp 6]) Tryz.func34 rfl rfl (by kernel_rfl) (nB rfl) (Eq.mp (by kernel_rfl) h)
end Go.Proofs
namespace Go.Proofs
open Go Go.Sh Go.RowKit FdSpec TkSpec CodeSpec PrSpec FdPoly GrLaw
section
variable {K:VK} {w w' w0 W W' We W1 W2:World} {L:List (Addr × Value)} {g n B b i:Nat} {row:Option Nat}
def RmJ (w0:World) (L:List (Addr × Value)) (s:Stp) (goal:List Cls) (know:List (List Knw)) (ds:L2) (vs:List Value) (w':World):Prop:=Kn w0 L w' ∧ ∃ (u1 u2 u3 u4:Value) (i:Nat),vs = [u1,u2,u3,u4,.int .i64 (i:Int)] ∧ i ≤ goal.length ∧ ∀ (j:Nat) (c:Cls) (ks:List Knw) (d:List Int),j < i → goal[j]? = some c → know[j]? = some ks → ds[j]? = some d → zeroC (chosenC s c.need c.claims ks).1 d = true
def RmI (w0:World) (bs:List Bool) (d:List Int) (vs:List Value) (w':World):Prop:=Bw w0 w' ∧ ∃ (u:Value) (k:Nat),vs = [u,.int .i64 (k:Int)] ∧ k ≤ bs.length ∧ ∀ (j:Nat) (x:Bool) (y:Int),j < k → bs[j]? = some x → d[j]? = some y → x = true → y = 0
def grMu5 (n:Nat) (l:List Value) (_:World):Nat:=match l with | [_,_,_,_,.int _ i]=>n - i.toNat | _=>0
theorem grMu5_eq (n:Nat) (u v x y:Value) (k:IntKind) (i:Int) (w:World):grMu5 n [u,v,x,y,.int k i] w = n - i.toNat:=rfl
set_option maxHeartbeats 4000000 in
theorem rMatches_ok (s:Stp) {sv gv kv dv:Value} {goal:List Cls} {know:List (List Knw)} {ds:L2} (hs:SetR w s sv) (hg:GoalR w gv goal) (hk0:KnowR w kv know) (hd:ListsR w dv ds)
  (hgm:goalM s goal = true) (hft:fitsM s goal know = true) (hdl:ds.length = goal.length) (hdc:∀ (i:Nat) (c:Cls) (d:List Int),goal[i]? = some c → ds[i]? = some d → d.length = c.claims.length)
  (k:∀ w',Bw w w' → K (.bool (zeroL (chosenL s goal know).1 ds)) w'):callM Tryz.prog 35 #[stpV s sv,gv,kv,dv] K w:=by
 apply sh_35_ok
 unfold sh_35
 have hs':=hs
 have hg':=hg
 have hk0':=hk0
 have hd':=hd
 obtain ⟨ad,c,rfl⟩:=hs.ints.isSlice
 obtain ⟨gad,gc,rfl⟩:=hg.isSlice
 obtain ⟨kad,kc,rfl⟩:=hk0.isSlice
 obtain ⟨dad,dc,rfl⟩:=hd.isSlice
 have hlg:=hg.len
 obtain ⟨hkl,hfx⟩:=fitsM_iff.1 hft
 unfold goalM at hgm
 simp only [bA,dE] at hgm
 obtain ⟨⟨⟨⟨hv,_⟩,_⟩,hfine⟩,hcl⟩:=hgm
 have hiff:=zeroL_iff (s:=s) (goal:=goal) (know:=know) (ds:=ds) hkl
 refine box_kn (cs:=stpC s (.slice ad s.bases.length c)) rfl (.start w) fun b1 W hk hb1 hbb=>?_
 clear hb1 hbb
 have no:∀ (i:Nat) (c:Cls) (ks:List Knw) (d:List Int),goal[i]? = some c → know[i]? = some ks → ds[i]? = some d → ¬ zeroC (chosenC s c.need c.claims ks).1 d = true → ∀ w',Bw w w' → K (.bool false) w':=fun i c ks d a b e h w' hb=>by
  have:=k w' hb
  rwa [show zeroL (chosenL s goal know).1 ds = false by rw [Bool.eq_false_iff]; intro x; exact h (hiff.1 x i c ks d a b e)] at this
 refine ⟨RmJ w (cellsOf [] b1 0 (stpC s (.slice ad s.bases.length c))) s goal know ds,grMu5 goal.length,⟨hk,_,_,_,_,0,rfl,by omega,fun j c ks d hj=>by omega⟩,?_⟩
 clear hk
 rintro _ _ w3 ⟨hk,u1,u2,u3,u4,i,rfl,hi,hall⟩
 by_cases hin:i = goal.length
 ·subst hin
  repeat (any_goals (first
  | (with_reducible refine yM ?_)
  | ((with_reducible refine oG fun X Y=>?_); simp [go_sem]; apply Y; clear Y X)))
  have k:=k _ hk.below
  rw [show zeroL (chosenL s goal know).1 ds = true from hiff.2 (fun j c ks d a b e=>hall j c ks d (gS a).1 a b e)] at k
  exact k
 have eg:goal[i]? = some goal[i]:=gE (by omega)
 have ek:know[i]? = some know[i]:=gE (by omega)
 have ed:ds[i]? = some ds[i]:=gE (by omega)
 obtain ⟨bk,ok,rfl,hltk,csk,_,hcellk,vk,rfl,hrowk⟩:=hk0'.at (i:=i) (by omega)
 obtain ⟨bd,od,rfl,hltd,csd,_,hcelld,vd,rfl,hrowd⟩:=hd'.at (i:=i) (by omega)
 obtain ⟨bg,og,rfl,hbg,_,_,hgcell,gcv,rfl,_,hgc⟩:=hg'.at (i:=i) (by omega)
 have ck:=hcellk 0 _ rfl
 have cd:=hcelld 0 _ rfl
 simp only [Nat.add_zero,Nat.mul_one,Nat.zero_add] at ck cd
 have g0:=hgcell 0 _ rfl
 have g1:=hgcell 1 _ rfl
 simp only [Nat.add_zero] at g0
 have hno:=no i _ _ _ eg ek ed
 have hfi:=List.all_eq_true.1 hfine _ (List.getElem_mem (show i < goal.length by omega))
 have hci:=List.all_eq_true.1 hcl _ (List.getElem_mem (show i < goal.length by omega))
 have hok:=hfx i _ _ eg ek
 have hdci:=hdc i _ _ eg ed
 generalize goal[i] = cl at *
 generalize know[i] = ks at *
 generalize ds[i] = d at *
 have hlks:ks.length = cl.claims.length:=hok.1
 simp only [clsFine,bA,dE] at hfi
 have hbl:(chosenC s cl.need cl.claims ks).1.length = cl.claims.length:=chosenC_len' s _ _ _ hlks
 have hrowk':=hrowk
 have hrowd':=hrowd
 have hgc':=hgc
 obtain ⟨kad2,kc2,rfl⟩:=hrowk.isSlice
 obtain ⟨dad2,dc2,rfl⟩:=hrowd.isSlice
 obtain ⟨cad,cc,rfl⟩:=hgc.isSlice
 have hiK:(i:Int) < know.length:=by omega
 have hiD:(i:Int) < ds.length:=by omega
 have hiG:(i:Int) < goal.length:=by omega
 repeat (any_goals (first
 | (with_reducible refine yL ?_)
 | ((with_reducible refine oG fun X Y=>?_); simp [go_sem,hk.cells,hiG]; apply Y; clear Y X)))
 unfold held_35_7
 simp only [List.getD_cons_succ,List.getD_cons_zero]
 have hk9:=hk.drew
 refine ⟨Nx { w3 with drawn:=w3.drawn + 1 },bR,by trivial,?_⟩
 generalize ({ w3 with drawn:=w3.drawn + 1 }:World) = W9 at *
 repeat (any_goals (first
 | (with_reducible refine pX ?_)
 | ((with_reducible refine idOH ?_); (with_reducible refine oH_of ⟨_,rfl⟩ (fun W0 hW0=>by (refine oG (fun X Y=>?_)); simp [go_sem,(hk9.next hW0).cells,((hk9.next hW0).below.cell hltk).trans ck,((hk9.next hW0).below.cell hbg).trans g0,((hk9.next hW0).below.cell hbg).trans g1,hiK,hiG]; (first | exact Y _ _ ⟨rfl,rfl⟩ | exact ⟨by omega,Y _ _ ⟨rfl,rfl⟩⟩)) ?_))))
 refine ⟨Nx,?_⟩
 have hmono:∀ (f:Nat → Value) (v:Value) (w w1:World),Nx w w1 → (∃ g,v = f g ∧ Holds w g 4 ((chosenC s cl.need cl.claims ks).1.map Value.bool)) → ∃ g,v = f g ∧ Holds w1 g 4 ((chosenC s cl.need cl.claims ks).1.map Value.bool):=fun f v w w1 hS h=>h.imp fun g h=>⟨h.1,h.2.next hS⟩
 refine monoR (fun v w'=>∃ g,v = .tuple #[.slice (some ⟨g,0,none⟩) cl.claims.length cl.claims.length,.bool (decide ((chosenC s cl.need cl.claims ks).2 = 0))] ∧ Holds w' g 4 ((chosenC s cl.need cl.claims ks).1.map Value.bool)) (hmono _) ?_ ?_
 ·intro w1 h1
  exact rProven_ok s cl ks (hs'.next (hk9.next h1).below) (hgc'.next (atOf_stay clm_vstay) (hk9.next h1).below) (hrowk'.next (atOf_stay knw_vstay) (hk9.next h1).below) hlks hv (fun x hx=>List.all_eq_true.1 hci x hx) (by omega) (by omega) (fun w2 g h2 hg2 hh2=>⟨h1.on h2,h2,g,rfl,hh2⟩)
 refine monoR (fun v w'=>∃ g,v = .tuple #[.slice (some ⟨g,0,none⟩) cl.claims.length cl.claims.length,.bool (decide ((chosenC s cl.need cl.claims ks).2 = 0))] ∧ Holds w' g 4 ((chosenC s cl.need cl.claims ks).1.map Value.bool)) (hmono _) ?_ ?_
 ·intro w1 h1 v hv1
  exact ⟨h1,bR,hv1⟩
 refine monoR (fun v w'=>∃ g,v = .slice (some ⟨g,0,none⟩) cl.claims.length cl.claims.length ∧ Holds w' g 4 ((chosenC s cl.need cl.claims ks).1.map Value.bool)) (hmono _) ?_ ?_
 ·rintro w1 h1 v ⟨g,rfl,hh⟩
  repeat (any_goals ((with_reducible refine oG fun X Y=>?_); simp [go_sem]; apply Y; clear Y X))
  exact ⟨h1,bR,g,rfl,hh⟩
 refine monoR (fun v w'=>True) (fun _ _ _ _ _=>trivial) ?_ ?_
 ·rintro w1 h1 v ⟨g,rfl,hh⟩
  repeat (any_goals ((with_reducible refine oG fun X Y=>?_); simp [go_sem]; apply Y; clear Y X))
  exact ⟨h1,bR,trivial⟩
 refine monoR (fun v w'=>∃ g,v = .slice (some ⟨g,0,none⟩) cl.claims.length cl.claims.length ∧ Holds w' g 4 ((chosenC s cl.need cl.claims ks).1.map Value.bool)) (hmono _) ?_ ?_
 ·intro w1 h1 v hv1
  exact ⟨h1,bR,hv1⟩
 rintro w9 h9 _ _ _ _ _ _ v31 _ v10 ⟨g,rfl,hh⟩
 have hk:=hk9.next h9
 have hhb:=bools_of hh (by rw [hbl]; omega)
 rw [hbl] at hhb
 generalize hbs:(chosenC s cl.need cl.claims ks).1 = bs at *
 refine ⟨RmI w9 bs d,grMu bs.length,⟨bR,_,0,rfl,by omega,fun j x y hj=>by omega⟩,?_⟩
 rintro _ _ w5 ⟨hb5,u5,q,rfl,hq,hall5⟩
 have hk5:=hk.next hb5
 unfold loop_35_32
 have hqb:(cl.claims.length:Int) = bs.length:=by omega
 by_cases hqn:q = bs.length
 ·have hqc:¬ (q:Int) < cl.claims.length:=by omega
  repeat (any_goals (first
  | (with_reducible refine yM ?_)
  | ((with_reducible refine oG fun X Y=>?_); simp [go_sem,hqc]; (try simp (disch:=omega) only [wrapI64,wrapU8,wrapU32,wrapU64]); apply Y; clear Y X)))
  refine ⟨⟨hk5,_,_,_,_,i + 1,rfl,by omega,fun j c' ks' d' hj a b e=>?_⟩,?_⟩
  ·by_cases hji:j = i
   ·subst hji
    rw [eg] at a; rw [ek] at b; rw [ed] at e
    cases a; cases b; cases e
    rw [hbs]
    exact zeroC_iff.2 (fun p x y e1 e2 hx=>hall5 p x y (by have:=(gS e1).1; omega) e1 e2 hx)
   ·exact hall j c' ks' d' (by omega) a b e
  ·simp only [grMu5_eq]; omega
 have eqb:bs[q]? = some (bs[q]'(by omega)):=gE (by omega)
 have eqd:d[q]? = some (d[q]'(by omega)):=gE (by omega)
 obtain ⟨b6,o6,e6,hb6,c6,_,hc6,v6,rfl,hx6⟩:=hhb.at (i:=q) (by omega)
 cases e6
 obtain ⟨b8,o8,e8,hb8,ca,ra,_⟩:=hrowd'.at (i:=q) (by omega)
 cases e8
 have c60:=hc6 0 _ rfl
 unfold BoolR at hx6
 subst hx6
 generalize bs[q] = x at *
 generalize d[q] = y at *
 simp only [Nat.add_zero,Nat.mul_one,Nat.zero_add] at c60
 have hqc:(q:Int) < cl.claims.length:=by omega
 have hqd:(q:Int) < d.length:=by omega
 have hstep:(x = true → y = 0) → RmJ w (cellsOf [] b1 0 (stpC s (.slice ad s.bases.length c))) s goal know ds = RmJ w (cellsOf [] b1 0 (stpC s (.slice ad s.bases.length c))) s goal know ds → RmI w9 bs d [u5,.int .i64 ((q:Int) + 1)] w5 ∧ grMu bs.length [u5,.int .i64 ((q:Int) + 1)] w5 < grMu bs.length [u5,.int .i64 (q:Int)] w5:=fun hz _=>by
  refine ⟨⟨hb5,_,q + 1,rfl,by omega,fun j x' y' hj a b hx=>?_⟩,?_⟩
  ·by_cases hjq:j = q
   ·subst hjq
    rw [eqb] at a; rw [eqd] at b
    cases a; cases b
    exact hz hx
   ·exact hall5 j x' y' (by omega) a b hx
  ·simp only [grMu_eq]; omega
 cases x with
 | false=>
  repeat (any_goals (first
  | (with_reducible first|refine zB ?_|refine yC ?_|((refine idCond ?_); first|refine yL ?_|refine yM ?_))
  | ((with_reducible refine oG fun X Y=>?_); simp [go_sem,hqc,(hb5.cell hb6).trans c60]; (try simp (disch:=omega) only [wrapI64,wrapU8,wrapU32,wrapU64]); apply Y; clear Y X)))
  exact hstep (fun h=>by cases h) rfl
 | true=>
  by_cases hy:y = 0
  ·repeat (any_goals (first
   | (with_reducible first|refine pureM_in ?_|refine zA ?_|refine yB ?_|((refine idCond ?_); first|refine yL ?_|refine yM ?_))
   | ((with_reducible refine oG fun X Y=>?_); simp [go_sem,hqc,(hb5.cell hb6).trans c60,(hk5.below.cell hltd).trans cd,ca _ hk5.below,hiD,hqd,hy]; (try simp (disch:=omega) only [wrapI64,wrapU8,wrapU32,wrapU64]); apply Y; clear Y X)))
   exact hstep (fun _=>hy) rfl
  ·repeat (any_goals (first
   | (with_reducible first|refine pureM_in ?_|refine zA ?_|refine yB ?_|refine yL ?_)
   | ((with_reducible refine oG fun X Y=>?_); simp [go_sem,hqc,(hb5.cell hb6).trans c60,(hk5.below.cell hltd).trans cd,ca _ hk5.below,hiD,hqd,hy]; apply Y; clear Y X)))
   exact hno (fun h=>hy (zeroC_iff.1 h q true y eqb eqd rfl)) _ hk5.below
def EnuJ (w0:World) (L:List (Addr × Value)) (s:Stp) (goal:List Cls) (know:List (List Knw)) (vs:List Value) (w':World):Prop:=Kn w0 L w' ∧ ∃ (u1 u2 u3:Value) (i:Nat),vs = [u1,u2,u3,.int .i64 (i:Int)] ∧ i ≤ goal.length ∧ ∀ (j:Nat) (c:Cls) (ks:List Knw),j < i → goal[j]? = some c → know[j]? = some ks → c.need ≤ knownC s c.claims ks
def EnuI (w0:World) (L:List (Addr × Value)) (s:Stp) (cl:Cls) (ks:List Knw) (vs:List Value) (w':World):Prop:=Kn w0 L w' ∧ ∃ (n:Int) (q:Nat),vs = [.int .i64 n,.int .i64 (q:Int)] ∧ q ≤ ks.length ∧ 0 ≤ n ∧ n ≤ q ∧ n + knownC s (cl.claims.drop q) (ks.drop q) = knownC s cl.claims ks
set_option maxHeartbeats 4000000 in
theorem enough_ok (s:Stp) {sv gv kv:Value} {goal:List Cls} {know:List (List Knw)} (hs:SetR w s sv) (hg:GoalR w gv goal) (hk0:KnowR w kv know) (hgm:goalM s goal = true) (hft:fitsM s goal know = true)
  (k:∀ w',Bw w w' → K (.bool (enoughL s goal know)) w'):callM Tryz.prog 34 #[stpV s sv,gv,kv] K w:=by
 apply sh_34f_ok
 unfold sh_34f
 have hs':=hs
 have hg':=hg
 have hk0':=hk0
 obtain ⟨ad,c,rfl⟩:=hs.ints.isSlice
 obtain ⟨gad,gc,rfl⟩:=hg.isSlice
 obtain ⟨kad,kc,rfl⟩:=hk0.isSlice
 have hlg:=hg.len
 obtain ⟨hkl,hfx⟩:=fitsM_iff.1 hft
 unfold goalM at hgm
 simp only [bA,dE] at hgm
 obtain ⟨⟨⟨⟨hv,_⟩,_⟩,hfine⟩,hcl⟩:=hgm
 have hiff:=enoughL_iff (s:=s) (goal:=goal) (know:=know) hkl
 refine box_kn (cs:=stpC s (.slice ad s.bases.length c)) rfl (.start w) fun b1 W hk hb1 hbb=>?_
 clear hb1 hbb
 have no:∀ (i:Nat) (c:Cls) (ks:List Knw),goal[i]? = some c → know[i]? = some ks → ¬ c.need ≤ knownC s c.claims ks → ∀ w',Bw w w' → K (.bool false) w':=fun i c ks a b h w' hb=>by
  have:=k w' hb
  rwa [show enoughL s goal know = false by rw [Bool.eq_false_iff]; intro x; exact h (hiff.1 x i c ks a b)] at this
 refine ⟨EnuJ w (cellsOf [] b1 0 (stpC s (.slice ad s.bases.length c))) s goal know,grMu4 goal.length,⟨hk,_,_,_,0,rfl,by omega,fun j c ks hj=>by omega⟩,?_⟩
 clear hk
 rintro _ _ w3 ⟨hk,u1,u2,u3,i,rfl,hi,hall⟩
 by_cases hin:i = goal.length
 ·subst hin
  repeat (any_goals (first
  | (with_reducible refine yM ?_)
  | ((with_reducible refine oG fun X Y=>?_); simp [go_sem]; apply Y; clear Y X)))
  have k:=k _ hk.below
  rw [show enoughL s goal know = true from hiff.2 (fun j c ks a b=>hall j c ks (gS a).1 a b)] at k
  exact k
 obtain ⟨cl,eg⟩:∃ cl,goal[i]? = some cl:=⟨_,gE (by omega)⟩
 obtain ⟨ks,ek⟩:∃ ks,know[i]? = some ks:=⟨_,gE (by omega)⟩
 obtain ⟨hil,egi⟩:=gS eg
 obtain ⟨hikl,eki⟩:=gS ek
 obtain ⟨bk,ok,rfl,hltk,csk,_,hcellk,vk,rfl,hrowk⟩:=hk0'.at (i:=i) hikl
 obtain ⟨bg,og,rfl,hbg,_,_,hgcell,gcv,rfl,_,hgc⟩:=hg'.at (i:=i) hil
 rw [eki] at hrowk
 rw [egi] at hgcell hgc
 have ck:=hcellk 0 _ rfl
 simp only [Nat.add_zero,Nat.mul_one,Nat.zero_add] at ck
 have g0:=hgcell 0 _ rfl
 have g1:=hgcell 1 _ rfl
 simp only [Nat.add_zero] at g0
 have hno:=no i _ _ eg ek
 have hfi:=List.all_eq_true.1 hfine _ (List.mem_of_getElem? eg)
 have hci:=List.all_eq_true.1 hcl _ (List.mem_of_getElem? eg)
 have hok:=hfx i _ _ eg ek
 have hlks:ks.length = cl.claims.length:=hok.1
 simp only [clsFine,bA,dE] at hfi
 have hrowk':=hrowk
 have hgc':=hgc
 obtain ⟨kad2,kc2,rfl⟩:=hrowk.isSlice
 obtain ⟨cad,cc,rfl⟩:=hgc.isSlice
 have hiK:(i:Int) < know.length:=by omega
 have hiG:(i:Int) < goal.length:=by omega
 repeat (any_goals (first
 | (with_reducible refine yL ?_)
 | ((with_reducible refine oG fun X Y=>?_); simp [go_sem,hk.cells,hiG]; apply Y; clear Y X)))
 refine ⟨EnuI w (cellsOf [] b1 0 (stpC s (.slice ad s.bases.length c))) s cl ks,grMu ks.length,⟨hk,0,0,rfl,by omega,by omega,by omega,by simp⟩,?_⟩
 clear hk
 rintro _ _ w5 ⟨hk,n,q,rfl,hq,hn0,hnq,hsum⟩
 unfold loop_34_7
 by_cases hqn:q = ks.length
 ·subst hqn
  rw [List.drop_of_length_le (by omega),List.drop_of_length_le (rL)] at hsum
  have hsum:n = knownC s cl.claims ks:=by have h0:knownC s [] [] = 0:=rfl; omega
  by_cases hneed:n < cl.need
  ·repeat (any_goals (first
   | (with_reducible ((refine idCond ?_); first|refine yL ?_|refine yM ?_))
   | ((with_reducible refine oG fun X Y=>?_); simp [go_sem,hk.cells,(hk.below.cell hltk).trans ck,(hk.below.cell hbg).trans g0,hiK,hiG,hneed]; apply Y; clear Y X)))
   exact hno (by omega) _ hk.below
  ·repeat (any_goals (first
   | (with_reducible refine yM ?_)
   | ((with_reducible refine oG fun X Y=>?_); simp [go_sem,hk.cells,(hk.below.cell hltk).trans ck,(hk.below.cell hbg).trans g0,hiK,hiG,hneed]; (try simp (disch:=omega) only [wrapI64,wrapU8,wrapU32,wrapU64]); apply Y; clear Y X)))
   refine ⟨⟨hk,_,_,_,i + 1,rfl,by omega,fun j c' ks' hj a b=>?_⟩,?_⟩
   ·by_cases hji:j = i
    ·subst hji
     rw [eg] at a; rw [ek] at b
     cases a; cases b
     omega
    ·exact hall j c' ks' (by omega) a b
   ·simp only [grMu4_eq]; omega
 have equ:ks[q]? = some (ks[q]'(by omega)):=gE (by omega)
 have ecm:cl.claims[q]? = some (cl.claims[q]'(by omega)):=gE (by omega)
 obtain ⟨bu,ou,rfl,hltu,_,_,hcellu,vu,rfl,hvu⟩:=hrowk'.at (i:=q) (by omega)
 obtain ⟨bcl,ocl,rfl,hbcl,_,_,hccell,ccv,rfl,hclm⟩:=hgc'.at (i:=q) (by omega)
 have hcx:=List.all_eq_true.1 hci _ (List.getElem_mem (show q < cl.claims.length by omega))
 have p0:=hccell 0 _ rfl
 have p1:=hccell 1 _ rfl
 have q0:=hcellu 0 _ rfl
 have q1:=hcellu 1 _ rfl
 rw [knownC_drop ecm equ] at hsum
 generalize ks[q] = y at *
 generalize cl.claims[q] = x at *
 simp only [Nat.add_zero] at p0 q0
 have hvu':=hvu
 obtain ⟨uad,uc,rfl⟩:=hvu.isSlice
 have hclm':=hclm
 obtain ⟨ead,ec,rfl⟩:=hclm.eqs.isSlice
 have hqk:(q:Int) < ks.length:=by omega
 have hqc:(q:Int) < cl.claims.length:=by omega
 repeat (any_goals (first
 | (with_reducible refine yL ?_)
 | ((with_reducible refine oG fun X Y=>?_); simp [go_sem,hk.cells,(hk.below.cell hltk).trans ck,hiK,hqk]; apply Y; clear Y X)))
 refine ⟨fun l w6=>∃ n',l = [.int .i64 n'] ∧ Kn w (cellsOf [] b1 0 (stpC s (.slice ad s.bases.length c))) w6 ∧ 0 ≤ n' ∧ n' ≤ (q:Int) + 1 ∧ n' + knownC s (cl.claims.drop (q + 1)) (ks.drop (q + 1)) = knownC s cl.claims ks,?_,?_⟩
 rotate_left
 ·rintro _ _ w6 ⟨n',rfl,hk6,h60,h61,h6s⟩
  repeat (any_goals ((with_reducible refine oG fun X Y=>?_); simp [go_sem]; (try simp (disch:=omega) only [wrapI64,wrapU8,wrapU32,wrapU64]); apply Y; clear Y X))
  refine ⟨⟨hk6,n',q + 1,rfl,by omega,h60,by omega,h6s⟩,?_⟩
  simp only [grMu_eq]; omega
 unfold held_34_16
 simp only [List.getD_cons_succ,List.getD_cons_zero]
 have hk9:=hk.drew
 refine ⟨Nx { w5 with drawn:=w5.drawn + 1 },bR,by trivial,?_⟩
 generalize ({ w5 with drawn:=w5.drawn + 1 }:World) = W9 at *
 cases hhas:y.has with
 | false=>
  rw [hhas] at q0 hsum
  repeat (any_goals (first
  | (with_reducible first|refine pX ?_|((refine idGdH ?_); refine gdH_conv fun _=>?_)|refine zB ?_)
  | ((with_reducible refine idOH ?_); (with_reducible refine oH_of ⟨_,rfl⟩ (fun W0 hW0=>by (refine oG (fun X Y=>?_)); simp [go_sem,(hk9.next hW0).cells,((hk9.next hW0).below.cell hltk).trans ck,((hk9.next hW0).below.cell hltu).trans q0,hiK,hqk]; (first | exact Y _ _ ⟨rfl,rfl⟩ | exact ⟨by omega,Y _ _ ⟨rfl,rfl⟩⟩)) ?_))))
  refine ⟨Nx,fun w9 h9=>?_⟩
  repeat (any_goals (with_reducible first|refine zB ?_|refine yC ?_|refine yM ?_))
  exact ⟨n,rfl,hk9.next h9,hn0,by omega,by simpa using hsum⟩
 | true=>
  rw [hhas] at q0 hsum
  repeat (any_goals (first
  | (with_reducible first|refine pX ?_|((refine idGdH ?_); refine gdH_conv fun _=>?_)|refine zA ?_)
  | ((with_reducible refine idOH ?_); (with_reducible refine oH_of ⟨_,rfl⟩ (fun W0 hW0=>by (refine oG (fun X Y=>?_)); simp [go_sem,(hk9.next hW0).cells,((hk9.next hW0).below.cell hltk).trans ck,((hk9.next hW0).below.cell hltu).trans q0,((hk9.next hW0).below.cell hltu).trans q1,((hk9.next hW0).below.cell hbg).trans g1,((hk9.next hW0).below.cell hbcl).trans p0,((hk9.next hW0).below.cell hbcl).trans p1,hiK,hiG,hqk,hqc]; (first | exact Y _ _ ⟨rfl,rfl⟩ | exact ⟨by omega,Y _ _ ⟨rfl,rfl⟩⟩)) ?_))))
  refine ⟨Nx,fun w9 h9=>?_⟩
  repeat (any_goals (with_reducible refine zA ?_))
  refine Holds_ok s x y.values (hs'.next (hk9.next h9).below) (hclm'.next (hk9.next h9).below) (hvu'.next (hk9.next h9).below) (fun w10 h10=>?_)
  have hk:=(hk9.next h9).next h10
  rw [HoldsM_is hv hcx]
  cases hH:holdsM s x y.values with
  | false=>
   rw [hH] at hsum
   repeat (any_goals (with_reducible first|refine yB ?_|refine yM ?_))
   exact ⟨n,rfl,hk,hn0,by omega,by simpa using hsum⟩
  | true=>
   rw [hH] at hsum
   have hwa:IntKind.i64.wrap (n + 1) = n + 1:=wrapI64 _ (by omega) (by omega)
   repeat (any_goals (first
   | (with_reducible first|refine yB ?_|refine yL ?_)
   | ((with_reducible refine oG fun X Y=>?_); simp [go_sem]; (try simp (disch:=omega) only [wrapI64,wrapU8,wrapU32,wrapU64]); apply Y; clear Y X)))
   exact ⟨n + 1,rfl,hk,by omega,by omega,by simp at hsum; omega⟩
end
end Go.Proofs
namespace Go.Proofs
open Go Go.Sh Tryz
def sh_4 (a0 a1 a2 a3 a4:Value) (K:VK) (w:World):Prop:=
 oM prog (.box 26 (.tmp 0)) 0 [a0] (fun v5 w=>
 oM prog (.box 32 (.tmp 0)) 0 [a4] (fun v9 w=>
 callM prog 14 #[] (fun v14 w=>
 kL 26 v5 (fun v15 w=>
 callM prog 15 #[v15,a1,a2,a3] (fun v19 w=>
 kU v19 (fun v20 w=>
 gF v20 (kL 32 v9) (fun v22 w=>
 gF v20 (callM prog 16 #[v22]) (fun v23 w=>
 gF v20 (kU v23) (fun v24 w=>
 kP v20 (.bool true) v24 (fun v25 w=>
 gF v25 (kL 26 v5) (fun v27 w=>
 gF v25 (pureM a1) (fun v28 w=>
 gF v25 (callM prog 23 #[v27,v28]) (fun v29 w=>
 gF v25 (kU v29) (fun v30 w=>
 kP v25 (.bool true) v30 (fun v31 w=>
 gF v31 (kL 26 v5) (fun v33 w=>
 gF v31 (pureM a1) (fun v34 w=>
 gF v31 (pureM a3) (fun v35 w=>
 gF v31 (callM prog 32 #[v33,v34,v35]) (fun v36 w=>
 gF v31 (kU v36) (fun v37 w=>
 kP v31 (.bool true) v37 (fun v38 w=>
 gF v38 (kL 26 v5) (fun v40 w=>
 gF v38 (pureM a1) (fun v41 w=>
 gF v38 (kF 32 1 v9) (fun v42 w=>
 gF v38 (kL 30 v42) (fun v43 w=>
 gF v38 (kF 32 0 v9) (fun v44 w=>
 gF v38 (kL 29 v44) (fun v45 w=>
 gF v38 (callM prog 33 #[v40,v41,v43,v45]) (fun v46 w=>
 gF v38 (kU v46) (fun v47 w=>
 kP v38 (.bool true) v47 (fun v48 w=>
 condM v48
 (K v14 w)
 (kL 26 v5 (fun v51 w=>
 kL 32 v9 (fun v55 w=>
 callM prog 18 #[v51,a1,a2,a3,v55] (fun v56 w=>
 kE 0 34 v56 (fun v57 w=>
 kE 1 39 v56 (fun v58 w=>
 kA 34 (fun v12 w=>
 kS 34 v12 v57 (fun _ w=>
 kL 26 v5 (fun v59 w=>
 callM prog 34 #[v59,a1,a3] (fun v62 w=>
 kU v62 (fun v63 w=>
 condM v63
 (gT v14 (pureM v58) (fun v66 w=>
 gT v14 (kC .eql 39 13 4 v66) (fun v67 w=>
 kP v14 v67 (.bool false) (fun v68 w=>
 K v68 w) w) w) w)
 (kC .eql 39 3 4 v58 (fun v70 w=>
 condM v70
 (gT v14 (kL 26 v5) (fun v73 w=>
 gT v14 (pureM a1) (fun v74 w=>
 gT v14 (pureM a3) (fun v75 w=>
 gT v14 (kF 32 1 v9) (fun v76 w=>
 gT v14 (kL 30 v76) (fun v77 w=>
 gT v14 (callM prog 35 #[v73,v74,v75,v77]) (fun v78 w=>
 gT v14 (kU v78) (fun v79 w=>
 kP v14 v79 (.bool false) (fun v80 w=>
 K v80 w) w) w) w) w) w) w) w) w)
 (gT v14 (pureM v58) (fun v83 w=>
 gT v14 (kC .eql 39 0 4 v83) (fun v84 w=>
 kP v14 v84 (.bool false) (fun v85 w=>
 gT v85 (kL 26 v5) (fun v87 w=>
 gT v85 (pureM a1) (fun v88 w=>
 gT v85 (pureM a2) (fun v89 w=>
 gT v85 (kL 34 v12) (fun v90 w=>
 gT v85 (callM prog 30 #[v87,v88,v89,v90]) (fun v91 w=>
 kP v85 v91 (.bool false) (fun v92 w=>
 gT v92 (kL 26 v5) (fun v94 w=>
 gT v92 (pureM a1) (fun v95 w=>
 gT v92 (pureM a3) (fun v96 w=>
 gT v92 (kF 32 1 v9) (fun v97 w=>
 gT v92 (kL 30 v97) (fun v98 w=>
 gT v92 (callM prog 35 #[v94,v95,v96,v98]) (fun v99 w=>
 kP v92 v99 (.bool false) (fun v100 w=>
 K v100 w) w) w) w) w) w) w) w) w) w) w) w) w) w) w) w) w)) w)) w) w) w) w) w) w) w) w) w) w)) w) w) w) w) w) w) w) w) w) w) w) w) w) w) w) w) w) w) w) w) w) w) w) w) w) w) w) w) w) w
theorem sh_4_ok {a0 a1 a2 a3 a4:Value} {K:VK} {w:World} (h:sh_4 a0 a1 a2 a3 a4 K w):callM prog 4 #[a0,a1,a2,a3,a4] K w:=
 calls_of_code (fun _=>0) (fn:=Tryz.f4) (rs:=[.tmp 10]) Tryz.func4 rfl rfl (by kernel_rfl) (nB rfl) (Eq.mp (by kernel_rfl) h)
end Go.Proofs
namespace Go.Proofs
open Go Go.Sh Go.RowKit FdSpec TkSpec CodeSpec PrSpec FdPoly GrLaw
section
variable {K:VK} {w w' w0 W W' We W1 W2:World} {L:List (Addr × Value)} {g n B b i:Nat} {row:Option Nat}
theorem exps_all' {s:Stp} {l:List Int} {n:Int} (h:exponentsM s l n = true):(l.length:Int) = n:=by
 unfold exponentsM at h
 simp only [bA,dE] at h
 exact h.1
set_option maxHeartbeats 4000000 in
theorem complete_ok (s:Stp) (goal:List Cls) (ctx:Bytes) (know:List (List Knw)) (n1:L3) (d1:L2) {sv gv kv nv1 dv1:Value} (hs:SetR w s sv) (hg:GoalR w gv goal) (hk0:KnowR w kv know) (hn1:NumsR w nv1 n1) (hd1:ListsR w dv1 d1) (hl:Cd.Laid w) (hc:ctx.length < 1000000000000000)
  (k:∀ w',Bw w w' → K (.bool true) w'):callM Tryz.prog 4 #[stpV s sv,gv,.string ⟨ctx.toArray⟩,kv,prfV nv1 dv1] K w:=by
 apply sh_4_ok
 unfold sh_4
 have hs':=hs
 have hn1':=hn1
 have hd1':=hd1
 obtain ⟨ad,c,rfl⟩:=hs.ints.isSlice
 obtain ⟨a1,c1,rfl⟩:=hn1.isSlice
 obtain ⟨a2,c2,rfl⟩:=hd1.isSlice
 refine box_kn (cs:=stpC s (.slice ad s.bases.length c)) rfl (.start w) fun b1 W hk hb1 hbb=>?_
 refine box_kn (cs:=prfC (.slice a1 n1.length c1) (.slice a2 d1.length c2)) rfl hk fun b2 W hk hb2 hbb=>?_
 clear hb1 hb2 hbb
 refine small_ok (hs'.db.next hk.below) (hl.below hk.below hl.size) (fun w1 h1=>?_)
 have hk:=hk.next h1
 repeat (any_goals ((with_reducible refine oG fun X Y=>?_); simp [go_sem,hk.cells]; apply Y; clear Y X))
 refine few_ok s goal ctx know (hs'.next hk.below) (hg.next (atOf_stay cls_vstay) hk.below) (hk0.next (atOf_stay knws_vstay) hk.below) hc (fun w2 q h2 hq=>?_)
 have hk:=hk.next h2
 cases q with
 | false=>
  repeat (any_goals (first
  | (with_reducible first|refine zD ?_|refine yB ?_|refine yL ?_)
  | ((with_reducible refine oG fun X Y=>?_); simp [go_sem]; apply Y; clear Y X)))
  exact k _ hk.below
 | true=>
 obtain ⟨hN,hctx⟩:=hq rfl
 repeat (any_goals (first
 | (with_reducible refine zC ?_)
 | ((with_reducible refine oG fun X Y=>?_); simp [go_sem,hk.cells]; apply Y; clear Y X)))
 refine fewNoise_ok (hd1'.next (atOf_stay ints_stay) hk.below) (hn1'.next (atOf_stay lists_vstay) hk.below) (fun w2 q h2 hq=>?_)
 have hk:=hk.next h2
 cases q with
 | false=>
  repeat (any_goals (first
  | (with_reducible first|((refine idGd ?_); first|refine zC ?_|refine zD ?_)|((refine idPick ?_); first|refine yB ?_|refine yC ?_)|refine yL ?_)
  | ((with_reducible refine oG fun X Y=>?_); simp [go_sem]; apply Y; clear Y X)))
  exact k _ hk.below
 | true=>
 repeat (any_goals (first
 | (with_reducible first|refine pureM_in ?_|refine zC ?_|refine yC ?_)
 | ((with_reducible refine oG fun X Y=>?_); simp [go_sem,hk.cells]; apply Y; clear Y X)))
 refine ValidGoal_ok s (hs'.next hk.below) (hg.next (atOf_stay cls_vstay) hk.below) (fun w3 h3=>?_)
 have hk:=hk.next h3
 cases hgm:goalM s goal with
 | false=>
  repeat (any_goals (first
  | (with_reducible first|((refine idGd ?_); first|refine zC ?_|refine zD ?_)|((refine idPick ?_); first|refine yB ?_|refine yC ?_)|refine yL ?_)
  | ((with_reducible refine oG fun X Y=>?_); simp [go_sem]; apply Y; clear Y X)))
  exact k _ hk.below
 | true=>
 repeat (any_goals (first
 | (with_reducible first|refine pureM_in ?_|refine zC ?_|refine yC ?_)
 | ((with_reducible refine oG fun X Y=>?_); simp [go_sem,hk.cells]; apply Y; clear Y X)))
 refine rFits_ok s (hs'.next hk.below) (hg.next (atOf_stay cls_vstay) hk.below) (hk0.next (atOf_stay knws_vstay) hk.below) (fun w4 h4=>?_)
 have hk:=hk.next h4
 cases hft:fitsM s goal know with
 | false=>
  repeat (any_goals (first
  | (with_reducible first|((refine idGd ?_); first|refine zC ?_|refine zD ?_)|((refine idPick ?_); first|refine yB ?_|refine yC ?_)|refine yL ?_)
  | ((with_reducible refine oG fun X Y=>?_); simp [go_sem]; apply Y; clear Y X)))
  exact k _ hk.below
 | true=>
 repeat (any_goals (first
 | (with_reducible first|refine pureM_in ?_|refine zC ?_|refine yC ?_)
 | ((with_reducible refine oG fun X Y=>?_); simp [go_sem,hk.cells]; apply Y; clear Y X)))
 refine rShaped_ok s (hs'.next hk.below) (hg.next (atOf_stay cls_vstay) hk.below) (hd1'.next (atOf_stay ints_stay) hk.below) (hn1'.next (atOf_stay lists_vstay) hk.below) (fun w5 h5=>?_)
 have hk:=hk.next h5
 cases hsm:shapedM s goal d1 n1 with
 | false=>
  repeat (any_goals (first
  | (with_reducible first|refine zC ?_|refine yC ?_|refine yL ?_)
  | ((with_reducible refine oG fun X Y=>?_); simp [go_sem]; apply Y; clear Y X)))
  exact k _ hk.below
 | true=>
 have hsh:=shapedM_iff.1 hsm
 have herr:=prove_errs (ctx:=ctx) hgm hft hsm
 have hfine:∀ c ∈ goal,0 ≤ c.need:=fun c hc'=>by
  have:=hgm
  unfold goalM at this
  simp only [bA,dE] at this
  have:=List.all_eq_true.1 this.1.2 c hc'
  simp only [clsFine,bA,dE] at this
  omega
 rw [chosen_enough s goal know hfine] at herr
 repeat (any_goals (first
 | (with_reducible first|refine zC ?_|refine yC ?_|refine yM ?_)
 | ((with_reducible refine oG fun X Y=>?_); simp [go_sem,hk.cells]; apply Y; clear Y X)))
 refine Prove_ok s goal ctx know n1 d1 (hs'.next hk.below) (hg.next (atOf_stay cls_vstay) hk.below) (hk0.next (atOf_stay knws_vstay) hk.below) (hn1'.next (atOf_stay lists_vstay) hk.below) (hd1'.next (atOf_stay ints_stay) hk.below) (hl.below hk.below hl.size) hN hctx (fun w6 pv av h6 hpv hav=>?_)
 have hk:=hk.next h6
 obtain ⟨pad,pc,rfl⟩:=id hpv.isSlice
 obtain ⟨aad,ac,rfl⟩:=id hav.isSlice
 iterate 2 (any_goals ((with_reducible refine oG fun X Y=>?_); simp [go_sem]; apply Y; clear Y X))
 refine local_prf _ _ _ _ _ _ hk (fun b4 w7 hk h7 hg7=>?_)
 have hpv:=hpv.next (atOf_stay ints_stay) h7
 have hav:=hav.next (atOf_stay lists_vstay) h7
 repeat (any_goals ((with_reducible refine oG fun X Y=>?_); simp [go_sem,hk.cells]; apply Y; clear Y X))
 refine enough_ok s (hs'.next hk.below) (hg.next (atOf_stay cls_vstay) hk.below) (hk0.next (atOf_stay knws_vstay) hk.below) hgm hft (fun w8 h8=>?_)
 have hk:=hk.next h8
 have hpv:=hpv.next (atOf_stay ints_stay) h8
 have hav:=hav.next (atOf_stay lists_vstay) h8
 cases hen:enoughL s goal know with
 | false=>
  rw [hen] at herr
  have herr:(proveM s goal ctx know n1 d1).2 = 13:=herr
  rw [herr]
  repeat (any_goals (first
  | (with_reducible first|refine pureM_in ?_|refine zA ?_|refine yB ?_|refine yL ?_)
  | ((with_reducible refine oG fun X Y=>?_); simp [go_sem]; apply Y; clear Y X)))
  exact k _ hk.below
 | true=>
 rw [hen] at herr
 cases hz:zeroL (chosenL s goal know).1 d1 with
 | false=>
  rw [hz] at herr
  have herr:(proveM s goal ctx know n1 d1).2 = 3:=herr
  rw [herr]
  repeat (any_goals (first
  | (with_reducible first|refine pureM_in ?_|refine zA ?_|((refine idCond ?_); first|refine yL ?_|refine yM ?_))
  | ((with_reducible refine oG fun X Y=>?_); simp [go_sem,hk.cells]; apply Y; clear Y X)))
  refine rMatches_ok s (hs'.next hk.below) (hg.next (atOf_stay cls_vstay) hk.below) (hk0.next (atOf_stay knws_vstay) hk.below) (hd1'.next (atOf_stay ints_stay) hk.below) hgm hft hsh.1.1 (fun i c d a e=>?_) (fun w9 h9=>?_)
  ·have hi:=(gS a).1
   have h3:=(hsh.2 i c d _ a e (gE (show i < n1.length by omega))).1.1
   exact_mod_cast (exps_all' h3)
  have hk:=hk.next h9
  rw [hz]
  repeat (any_goals (first
  | (with_reducible first|refine zA ?_|refine yB ?_)
  | ((with_reducible refine oG fun X Y=>?_); simp [go_sem]; apply Y; clear Y X)))
  exact k _ hk.below
 | true=>
  rw [hz] at herr
  have herr:(proveM s goal ctx know n1 d1).2 = 0:=herr
  have hvf:=complete herr
  rw [herr]
  repeat (any_goals (first
  | (with_reducible first|refine pureM_in ?_|refine zA ?_|refine yB ?_|refine yM ?_)
  | ((with_reducible refine oG fun X Y=>?_); simp [go_sem,hk.cells]; apply Y; clear Y X)))
  refine Verify_ok s goal ctx _ _ (hs'.next hk.below) (hg.next (atOf_stay cls_vstay) hk.below) hpv hav (hl.below hk.below hl.size) hN hctx (fun w9 h9=>?_)
  rw [hvf]
  have hk:=hk.next h9
  repeat (any_goals (first
  | (with_reducible first|refine pureM_in ?_|refine zA ?_|refine yB ?_)
  | ((with_reducible refine oG fun X Y=>?_); simp [go_sem,hk.cells]; apply Y; clear Y X)))
  refine rMatches_ok s (hs'.next hk.below) (hg.next (atOf_stay cls_vstay) hk.below) (hk0.next (atOf_stay knws_vstay) hk.below) (hd1'.next (atOf_stay ints_stay) hk.below) hgm hft hsh.1.1 (fun i c d a e=>?_) (fun w10 h10=>?_)
  ·have hi:=(gS a).1
   have h3:=(hsh.2 i c d _ a e (gE (show i < n1.length by omega))).1.1
   exact_mod_cast (exps_all' h3)
  have hk:=hk.next h10
  rw [hz]
  repeat (any_goals (with_reducible refine yB ?_))
  exact k _ hk.below
end
end Go.Proofs
