/- Parts of the proof of the seat's statements (JnUp, JnRec, PuLaw7, UpX, UpY, UpZ, UqA, UqB, UqC, UqD, UqE, UqF, UqG, HPz, UqH, PuLaw8, PuLaw9, PuLaw10, PuSane, UqI, UqJ): lemmas about the given translation and plain laws. No condition of their own. -/
import Derived.Test.YtnbokkoppdnllaaGreatDoorQod
import Derived.Test.YtnbokkoppdnllaaGreatDoorProg
set_option linter.all false
set_option maxRecDepth 100000
namespace JnSpec
open CodeSpec DkSpec
structure Upp (A:Ab):Prop where
 down:A.down = false
 armed:A.armed = 0
 lost:A.lost = 0
variable {all sure:List Bs} {f:Int} {A:Ab} {j:Jn}
theorem Upp.ends (u:Upp A):a3m A = (false,A):=by unfold a3m; rw [if_pos (.inr u.armed)]
theorem Upp.comes (u:Upp A):a0z A = A:=by unfold a0z; rw [u.ends]; simp
theorem Upp.settle (u:Upp A) (s:Bs):Upp (a3e A f s):=⟨u.down,u.armed,u.lost⟩
theorem Upp.add (u:Upp A) (n:Nat) (s:Bs):Upp (b9a A f n s):=by
 unfold b9a
 split
 ·exact u
 ·exact ⟨u.down,u.armed,u.lost⟩
theorem Upp.sync (u:Upp A) (hf:0 ≤ f ∧ f ≤ 15):a3i A f = (0,a3e A f (A.F f).1):=by
 unfold a3i
 rw [u.comes,b1q u.down (by omega),if_neg (by simp),if_neg (by have:=u.lost; omega)]
theorem Upp.write (u:Upp A) (hf:0 ≤ f ∧ f ≤ 15) {n:Nat} {s:Bs} (hb:n + s.length ≤ 16777216):a6s A f n s = (0,b9a A f n s):=by
 unfold a6s
 rw [u.ends]
 simp only [Bool.false_eq_true,if_false]
 unfold wrA
 rw [b1q u.down (by omega),if_neg (by simp),if_neg (by omega),if_neg (by omega)]
 simp
theorem Upp.openJ (u:Upp A) (hf:0 ≤ f ∧ f ≤ 15):∃ B,JnSpec.openJ A f = (some ⟨(readJ (A.F f).1).1,(readJ (A.F f).1).2,false⟩,0,B) ∧ Upp B ∧ (B.F f).1 = (A.F f).1.take (readJ (A.F f).1).2 ∧ ∀ g,g ≠ f → (B.F g) = A.F g:=by
 have u2:Upp (a3e A f (A.F f).1):=u.settle _
 have e1:(a3e A f (A.F f).1).F f = ((A.F f).1,(A.F f).1):=a2o _ _ _
 have e2:∀ g,g ≠ f → (a3e A f (A.F f).1).F g = A.F g:=fun g hg=>by show b0n A.F f _ g = _; simp [b0n,hg]
 have hle:(readJ (A.F f).1).2 ≤ (A.F f).1.length:=by
  have h:=a5g (A.F f).1
  have h1:=congrArg List.length h.2.2.1
  rw [List.length_append,← h.2.1] at h1
  omega
 unfold JnSpec.openJ
 rw [if_neg (by omega),u.sync hf,if_neg (by simp)]
 dsimp only
 rw [c9i u2.down hf,e1]
 generalize a3e A f (A.F f).1 = B at *
 generalize hx:(A.F f).1 = x at *
 unfold d1s
 rw [if_neg (by simp)]
 dsimp only
 by_cases hlt:(readJ x).2 < x.length
 ·rw [if_pos hlt]
  have ht:a4j B f (readJ x).2 = (0,a3e B f (x.take (readJ x).2)):=by
   unfold a4j
   rw [u2.comes,b1q u2.down (by omega),if_neg (by simp),if_neg (by rw [e1]; dsimp only; omega),e1]
   simp
  rw [ht,if_neg (by simp)]
  refine ⟨_,rfl,u2.settle _,?_,fun g hg=>?_⟩
  ·show (b0n B.F f _ f).1 = _
   rw [a2o]
  ·show b0n B.F f _ g = _
   rw [← e2 g hg]
   simp [b0n,hg]
 ·rw [if_neg hlt]
  refine ⟨B,rfl,u2,?_,e2⟩
  rw [e1,List.take_of_length_le (by omega)]
theorem Upp.append (u:Upp A) (hf:0 ≤ f ∧ f ≤ 15) {t:Bs} (hj:j.broken = false) (hx:(A.F f).1.length = j.bytes) (ht:t.length ≤ 20000) (hb:j.bytes + (form t).length ≤ 1048576) :
  ∃ B,a0g A f j t = (0,B,⟨j.recs ++ [t],j.bytes + (form t).length,false⟩) ∧ Upp B ∧ (B.F f).1 = (A.F f).1 ++ form t ∧ ∀ g,g ≠ f → (B.F g) = A.F g:=by
 have hne:form t ≠ []:=List.length_pos_iff.1 (a7o t)
 refine ⟨b9a A f j.bytes (form t),?_,u.add _ _,?_,fun g hg=>?_⟩
 ·unfold a0g
  rw [if_neg (by rw [hj]; simp),if_neg (by omega),if_neg (by omega),u.write hf (by omega),if_neg (by simp)]
 ·unfold b9a
  rw [if_neg hne]
  show (b0n A.F f _ f).1 = _
  rw [a2o,← hx,c9j _ _ hne]
 ·unfold b9a
  rw [if_neg hne]
  show b0n A.F f _ g = _
  simp [b0n,hg]
theorem c6p {l:List Bs} (h:∀ t ∈ l,t.length ≤ 20000):(a2h l).length ≤ l.length * 20064:=by
 induction l with
 | nil=>simp [a2h]
 | cons t l ih=>
  have h1:=ih (fun x hx=>h x (by simp [hx]))
  have h2:=h t (by simp)
  have h3:=b2p (s:=t) (by omega)
  rw [a5f,List.length_append,List.length_cons]
  omega
end JnSpec
namespace JnSpec
open CodeSpec DkSpec
variable {all sure:List Bs} {f:Int} {A:Ab} {j:Jn}
theorem LJ.live (h:LJ f A j all sure) (hb:j.broken = false):Live f A j all sure:=by
 rcases h with h | h
 ·exact h.2
 ·rw [hb] at h; cases h.1
theorem Upp.add_rec (u:Upp A) (h:Live f A j all sure) (hf:0 ≤ f ∧ f ≤ 15) (hj:j.broken = false) {t:Bs} (ht:t.length ≤ 20000) (hb:j.bytes + (form t).length ≤ 1048576) :
  ∃ B,a0g A f j t = (0,B,⟨j.recs ++ [t],j.bytes + (form t).length,false⟩) ∧ Upp B ∧ Live f B ⟨j.recs ++ [t],j.bytes + (form t).length,false⟩ (all ++ [t]) sure:=by
 obtain ⟨B,e,u',_,_⟩:=u.append hf hj (by rw [h.x,h.bytes]) ht hb
 refine ⟨B,e,u',?_⟩
 have hs:=b6a (.inl ⟨hj,h⟩) hf t
 rw [e] at hs
 dsimp only at hs
 rcases hs with ⟨_,_,h3⟩ | ⟨h1,_⟩ | ⟨h1,_⟩
 ·exact h3.live rfl
 ·cases h1
 ·rcases h1 with h1 | h1 | h1 <;> cases h1
theorem Upp.sync_rec (u:Upp A) (h:Live f A j all sure) (hf:0 ≤ f ∧ f ≤ 15) (hj:j.broken = false) :
  ∃ B,a5p A f j = (0,B,j) ∧ Upp B ∧ Live f B j all j.recs:=by
 have hs:=u.sync hf
 have e:a5p A f j = (0,a3e A f (A.F f).1,j):=by
  unfold a5p
  rw [if_neg (by rw [hj]; simp),hs]
  cases j
  simp only at hj
  subst hj
  rfl
 refine ⟨_,e,u.settle _,?_⟩
 have hs:=c3h (.inl ⟨hj,h⟩) hf
 rw [e] at hs
 dsimp only at hs
 rcases hs.2 with ⟨_,h3⟩ | ⟨h1,_⟩
 ·exact h3.live hj
 ·exact absurd rfl h1
theorem Upp.crash (u:Upp A) (keep:List Int):Upp (b1i (a4c A keep)):=by
 unfold b1i a4c
 rw [if_neg (by rw [u.down]; simp)]
 exact ⟨rfl,rfl,u.lost⟩
theorem Upp.again (u:Upp A) (h:GoodJ f A all sure) (hf:0 ≤ f ∧ f ≤ 15) (keep:List Int) :
  ∃ B j',JnSpec.openJ (b1i (a4c A keep)) f = (some j',0,B) ∧ Upp B ∧ Live f B j' j'.recs j'.recs ∧ j'.broken = false ∧ j'.recs <+: all ∧ sure <+: j'.recs:=by
 have u1:=u.crash keep
 have g1:=(h.crash keep).start
 obtain ⟨B,e,uB,_,_⟩:=u1.openJ hf
 refine ⟨B,_,e,uB,?_⟩
 have hs:=(b5z g1 hf).2
 rw [e] at hs
 dsimp only at hs
 rcases hs with ⟨hn,_⟩ | ⟨j',e2,_,hb,h1,h2,h3⟩
 ·cases hn
 ·cases e2
  exact ⟨h3,rfl,h1,h2⟩
theorem Live.bytes_le (h:Live f A j all sure) {n:Nat} (hn:j.recs.length ≤ n):j.bytes ≤ n * 20064:=by
 have h1:=h.good.few
 rw [h.recs] at h1
 have h2:=c6p h1
 have h3:j.recs.length * 20064 ≤ n * 20064:=Nat.mul_le_mul_right _ hn
 rw [h.bytes]; exact Nat.le_trans h2 h3
theorem g5a:Upp c2g:=⟨rfl,rfl,rfl⟩
theorem d1t (u:Upp A) (h:GoodJ f A [] []) (h0:(A.F f).1 = []) (hf:0 ≤ f ∧ f ≤ 15):∃ B,JnSpec.openJ A f = (some ⟨[],0,false⟩,0,B) ∧ Upp B ∧ Live f B ⟨[],0,false⟩ [] []:=by
 obtain ⟨B,e,uB,_,_⟩:=u.openJ hf
 have e0:readJ [] = ([],0):=a6o a9s
 rw [h0,e0] at e
 have hs:=(b5z h hf).2
 rw [e] at hs
 dsimp only at hs
 rcases hs with ⟨hn,_⟩ | ⟨j',e2,_,hb,h1,h2,h3⟩
 ·cases hn
 ·cases e2
  exact ⟨B,e,uB,h3⟩
theorem e8v (hf:0 ≤ f ∧ f ≤ 15):∃ B,JnSpec.openJ c2g f = (some ⟨[],0,false⟩,0,B) ∧ Upp B ∧ Live f B ⟨[],0,false⟩ [] []:=d1t g5a (b9i f) rfl hf
end JnSpec
namespace PuSpec
open FdSpec TkSpec CodeSpec DkSpec JnSpec
variable {s:Stp} {lims:List Lim} {A:Ab} {p:Pst} {all sure:List a0f}
theorem encInt_len {n:Int} (h:InR n):(a1r n).length ≤ 21:=by
 have:=a6e n h
 simp only [a1r,List.length_append,List.length_cons,List.length_nil]; omega
theorem d2e {n:Int} (h:InR n):(a2n n).length ≤ 21:=by
 unfold a2n
 split
 ·simp
 ·exact encInt_len h
theorem c0v {α:Type} (f:α → a0f) (m:Nat):∀ l:List α,(∀ x ∈ l,(f x).length ≤ m) → (l.map f).flatten.length ≤ l.length * m
 | [],_=>by simp
 | x :: l,h=>by
  have h1:=h x (by simp)
  have h2:=c0v f m l fun y hy=>h y (by simp [hy])
  simp only [List.map_cons,List.flatten_cons,List.length_append,List.length_cons,Nat.succ_mul]
  omega
theorem a3a {l:List Int} (h:∀ n ∈ l,InR n) (hl:l.length ≤ 1000):(a0n l).length ≤ 22 + l.length * 21:=by
 have h1:=c0v a1r 21 l fun n hn=>encInt_len (h n hn)
 have h2:=a6e (l.length:Int) ⟨by omega,by omega⟩
 simp only [a0n,a4h,List.length_append,List.length_cons,List.length_map,List.length_nil]
 omega
theorem e9h {x:Lnk} (w:WLnk x) (ha:x.spend.answers.length ≤ 7) (ht:x.terms.length ≤ 200):(b8e x).length ≤ 600:=by
 have h1:=a3a w.t.all (by simp [tktL])
 have h2:=encInt_len w.dare
 have h3:=a3a w.ans (by omega)
 have h4:=a6e (x.terms.length:Int) ⟨by omega,by omega⟩
 have e:(tktL x.ticket).length = 6:=rfl
 rw [e] at h1
 simp only [b8e,List.length_append,a1g,List.length_cons,List.length_nil] at *
 omega
theorem c9u {h:Hld} (w:WHld h) (v:validM s lims h = true):(b2u h).length ≤ 4000:=by
 have hv:=e9k v
 have hb:s.bases.length ≤ 7:=by
  have:=hv.vs
  simp only [a1j,Bool.and_eq_true,decide_eq_true_eq] at this
  omega
 have hl:a9i h.links = true:=by
  simp only [validM,Bool.and_eq_true] at v
  exact v.1.1.1.1.1.1.1.1.1.1.1.1.2
 simp only [a9i,Bool.and_eq_true,decide_eq_true_eq,Bool.not_eq_true',List.any_eq_false,Bool.or_eq_true,not_or] at hl
 have h1:=a3a (l:=[h.limit,h.window]) (by simp [w.limit,w.window]) (by simp)
 have h2:=a3a w.attrs (by have:=hv.al; omega)
 have h3:=a3a (l:=[h.bl.s,h.bl.u,h.bl.v]) (by simp [w.s,w.u,w.v]) (by simp)
 have h4:=a3a w.ys (by have:=hv.yl; omega)
 have h5:=a3a w.t.all (by simp [tktL])
 have h6:=d2e (n:=(h.links.length:Int)) ⟨by omega,by omega⟩
 have h7:=c0v b8e 600 h.links fun x hx=>e9h (w.links x hx) (by have:=(hl.2 x hx).2; omega) (by have:=(hl.2 x hx).1; omega)
 have ha:=hv.al
 have hy:=hv.yl
 have e:(tktL h.t).length = 6:=rfl
 rw [e] at h5
 simp only [b2u,List.length_append,List.length_cons,List.length_nil] at *
 have h8:h.links.length * 600 ≤ 4 * 600:=Nat.mul_le_mul_right _ hl.1
 omega
theorem b1u {l:List Int} (h:∀ n ∈ l,InR n) (hl:l.length ≤ 3):(a0t l).length ≤ 100:=by
 have:=a3a h (by omega)
 unfold a0t
 omega
theorem b6k (h:a1j s = true) (t:Tkt) (m:a0f):1 ≤ a4y s t m ∧ a4y s t m < s.g.Q:=by
 have g:=(b2v h).1
 have q0:=g.q0
 have q1:=g.q1
 unfold a4y
 rw [if_pos h]
 have:=PrSpec.numberM_in (n:=s.g.Q - 1 - s.g.Q / 2) ⟨by omega,by omega⟩ (f1w t ++ a1g m)
 omega
def b9n (terms:a0f) (links:List Lnk):Bool:=(a1l terms).2 && (match links.getLast? with | none=>true | some l=>b0v terms l.terms)
def a6v (s:Stp) (lims:List Lim) (A:Ab) (p:Pst) (limit now:Int) (next:Tkt) (terms:a0f):(Nat × List Lnk × Int) × Ab × Pst:=
 if (a0j lims p.items limit now).2 ≠ 0 then ((0,[],(a0j lims p.items limit now).2),A,p)
 else match p.items[(a0j lims p.items limit now).1]? with
  | none=>((0,[],15),A,p)
  | some x=>
   if !b9n terms x.held.links then ((0,[],2),A,p)
   else if 4 ≤ x.held.links.length then ((0,[],6),A,p)
   else
    let k:=a3y A p (a0j lims p.items limit now).1 3 (a4y s next terms)
    if k.1 ≠ 0 then ((0,[],k.1),k.2)
    else (((a0j lims p.items limit now).1,x.held.links ++ [⟨x.held.t,(b7s s x.held.attrs x.held.bl (a4y s next terms)).1,terms⟩],0),k.2)
theorem e9i (v:Inv s lims A p all sure) (hv:a1j s = true) (limit now:Int) (next:Tkt) (terms:a0f) (hn:(p.items.length:Int) ≤ 1000000) :
  f6k s lims sure (a6v s lims A p limit now next terms).2.1 (a6v s lims A p limit now next terms).2.2:=by
 unfold a6v
 split
 ·exact v.kept
 ·rename_i h1
  obtain ⟨x,hx,hf,_⟩:=b1t (Decidable.not_not.1 h1)
  rw [hx]
  dsimp only
  split
  ·exact v.kept
  ·split
   ·exact v.kept
   ·have hl:=(List.getElem?_eq_some_iff.1 hx).1
    have r:=b6k hv next terms
    have g:=(b2v hv).1
    have k:=c9s v hx (c3s hf) (by omega) (kind:=3) (.inr rfl) (dare:=a4y s next terms) r.1 r.2 ⟨by omega,by have:=g.q1; omega⟩
    split <;> exact k
end PuSpec
namespace Go.Proofs
open Go Go.Sh Go.RowKit FdSpec TkSpec CodeSpec PuSpec DkSpec JnSpec
section
variable {K:VK} {w w' w0 W W':World} {L:List (Addr × Value)} {rb b:Nat} {s:Stp} {lims:List Lim} {p p':Ph} {items items':List Itm} {A:Ab} {P:Pst}
theorem PuR.mu_lt (h:PuR s lims w0 W p A P):∀ i,Mu p i → i < W.heap.size:=by
 rintro i (hi | hi | hi | hi | hi)
 ·exact h.sys.d.lt (.inl hi)
 ·exact h.sys.d.lt (.inr hi)
 ·exact h.jn.lt hi
 ·rw [hi]; exact h.st.pur.lt
 ·exact (h.st.itm.own hi).1
theorem PuR.mu8 (h:PuR s lims w0 W p A P):∀ i,Mu p i → 8 ≤ i:=fun i hi=>by have:=h.yg i hi; have:=h.low; omega
theorem PuR.it (h:PuR s lims w0 W p A P) (hst:StR s lims W' p' items') (t:PuIt p W p' W'):PuR s lims w0 W' p' A ⟨P.j,items'⟩:=by
 have hp:=h.st.sp
 have hy:=h.yg p.pb (.inr (.inr (.inr (.inl rfl))))
 have hm:=t.st.mu
 have ts:=t.fr.size
 have hz:=h.bl.size
 have hyg:∀ i,Mu p' i → w0.heap.size ≤ i:=fun i hi=>(hm i hi).elim (h.yg i) (fun h=>by omega)
 have hsi:∀ i,i = p.pb ∨ p.iv.ownBlock = some i → ¬ (Own p.b p.h i ∨ Rdb p.h i) ∧ 8 ≤ i:=fun i hi=>by
  rcases hi with rfl | hi
  ·exact ⟨fun e=>e.elim hp.1 hp.2.1,by have:=h.low; omega⟩
  ·have h2:=h.st.si i hi
   exact ⟨fun e=>e.elim h2.1 h2.2.1,h.mu8 i (.inr (.inr (.inr (.inr hi))))⟩
 have s':=h.sys.fresh t.fr hsi
 have j':=h.jn.keep (h':=p.h) t.fr (fun i hi=>by
  rcases hi with rfl | hi
  ·exact hp.2.2
  ·exact (h.st.si i hi).2.2.1) (fun i hi=>hi.elim .inl (fun h=>.inr (.inl h)))
 have bl:Bw w0 W':=h.bl.trans ⟨t.fr.os,t.fr.tape,t.fr.output,t.fr.size,fun i hi=>t.fr.block i (by omega) (fun hx=>by
  rcases hx with hx | hx
  ·omega
  ·have:=h.yg i (.inr (.inr (.inr (.inr hx)))); omega)⟩
 have e:=t.eq
 obtain ⟨b0,h0,q0,u0,pb0,iv0,lv0,bv0,x0⟩:=p'
 cases e
 exact ⟨s',j',hst,hyg,bl,h.low⟩
theorem e3b {f:Int} {j:Jn} (h:(openJ A f).1 = some j):Few j.recs:=by
 unfold openJ d1s at h
 split at h
 ·cases h
 ·split at h
  ·cases h
  ·split at h
   ·cases h
   ·split at h
    ·split at h
     ·cases h
     ·cases h; exact (a5g _).1
    ·cases h; exact (a5g _).1
theorem f2d (c:List Value) (x:Lim) (h:e2n w c x):∃ y:Lim,c = d3f y ∧ id y = x ∧ (I64 y.count ∧ I64 y.length ∧ I64 y.gate):=⟨x,h.1,rfl,h.2⟩
theorem g0o (x:Lim):∀ u ∈ d3f x,u.oneCell' = true:=by
 intro u hu
 simp only [d3f,List.mem_cons,List.not_mem_nil,or_false] at hu
 rcases hu with rfl | rfl | rfl <;> rfl
theorem c8i {v:Value} {l:List Lim} (hr:c5d w v l) (hl:l.length < 1000) (k:∀ v' w',GRow 3 41 e2n w.heap.size (fun _=>False) w' v' l → Bw w w' → K v' w'):a0a Tryz.prog 82 #[v] K w:=by
 apply e6v
 unfold g3n
 obtain ⟨ad,c,rfl⟩:=hr.isSlice
 refine b3i (e:=41) (by kernel_rfl) ?_
 cases ad with
 | none=>
  have:l = []:=by
   obtain ⟨⟨a',c',hv,h⟩,_⟩:=hr
   cases hv
   rcases h with h | ⟨b,o,hb,_⟩
   ·exact h
   ·cases hb
  subst this
  simp only [Option.isNone_none]
  refine Xa0 ?_
  exact k _ _ .nil (bR)
 | some a=>
  simp only [Option.isNone_some]
  obtain ⟨ys,he,hq,hi⟩:=hr.rowR (mk:=d3f) (f:=id) (Q:=fun _ y=>I64 y.count ∧ I64 y.length ∧ I64 y.gate) (fun _=>rfl) (fun c x h=>f2d c x h)
  rw [List.map_id] at he
  subst he
  refine Xa0 ?_
  have hr2:RowR d3f 3 (w.alloc (.cells #[] 41)) _ ys:=hi.keep (by rw [a0q]; omega) (fun i _ hi=>heap_alloc_old _ _ hi)
  refine b3f 51 51 41 ((Tryz.prog.info? 41).getD default) (.agg #[.int .i64 0,.int .i64 0,.int .i64 0]) 3 24 (by kernel_rfl) (by kernel_rfl) (by kernel_rfl) (by kernel_rfl) (by kernel_rfl) (by kernel_rfl) (by omega) (fun _=>rfl) g0o hr2 (World.ownsRow_lit w #[] 0 (Nat.zero_le _) (Nat.zero_le _) rfl) (B:=w.heap.size) (by rw [a0q]; omega) (fun i hi=>by cases hi; exact rL) (by omega) (by omega) ?_
  intro v' w' ho hg hv
  refine k v' w' ?_ ?_
  ·have:=GRow.conv (V:=e2n) (f:=id) (E:=fun _=>False) (c2d (n:=3) (mk:=d3f) (fun _=>rfl) (a7w ho hv)) (fun _ _ _ _ _ _ y hy=>⟨rfl,hq y hy⟩)
   rwa [List.map_id] at this
  ·exact a0k ((Below.refl _ w).alloc (rL) _) hg (rL)
end
section
variable {K:VK} {w w' w0 W W':World} {L:List (Addr × Value)} {rb b:Nat} {s:Stp} {lims:List Lim} {p p':Ph} {items items':List Itm} {A:Ab} {P:Pst} {h:Dk}
theorem e3c (f:Int):((openJ A f).2.1 ≠ 0 → (openJ A f).1 = none) ∧ ((openJ A f).2.1 = 0 → (openJ A f).1 ≠ none):=by
 unfold openJ d1s
 split
 ·exact ⟨fun _=>rfl,fun h=>by simp at h⟩
 ·split
  ·rename_i h1
   exact ⟨fun _=>rfl,fun h=>absurd h h1⟩
  ·split
   ·rename_i h2
    exact ⟨fun _=>rfl,fun h=>absurd h h2⟩
   ·split
    ·split
     ·rename_i h3
      exact ⟨fun _=>rfl,fun h=>absurd h h3⟩
     ·exact ⟨fun h=>absurd rfl h,fun _ h=>by cases h⟩
    ·exact ⟨fun h=>absurd rfl h,fun _ h=>by cases h⟩
@[go_sem] theorem g8n (T:TypeId) (b o n c:Nat) (x:Int):oM Tryz.prog (.indexAddr 157 (.tmp 0) (.tmp 1)) T [.slice (some ⟨b,o,none⟩) n c,.int .i64 x] = onM (0 ≤ x ∧ x < n) (.pointer (some ⟨b,o + x.toNat * 1,none⟩)):=
 b2f (K:=fun _ _=>True) (P:=Tryz.prog) (n:=1) 157 T (by kernel_rfl) (fun w=>by kernel_rfl) b o n c x
theorem f2e {α:Type} {l:List α} {i:Nat} {x:α} (h:l[i]? = some x):l.set i x = l:=by
 obtain ⟨hi,rfl⟩:=gS h
 exact List.set_getElem_self hi
theorem f2f (l:Lim) (k:∀ w',Bw w w' → K (.bool (!c9v l)) w'):a0a Tryz.prog 79 #[f7e l] K w:=by
 apply e6u
 unfold g3m
 refine a1i (cs:=d3f l) rfl (.start w) fun b1 W hk hb1 hbb=>?_
 refine Xa hk.cells ?_
 refine a9e l (fun w2 h2=>?_)
 have k:=k _ (hk.next h2).below
 cases hv:c9v l with
 | false=>
  rw [hv] at k
  refine Xa0 ?_
  exact k
 | true=>
  rw [hv] at k
  refine Xa0 ?_
  exact k
theorem c8j (T:TypeId) (s:Stp) (a1 a2:Option Addr) (n1 n2 c1 c2:Nat):oM Tryz.prog (Go.Op.build 133 #[(0,(.tmp 0)),(1,(.tmp 1))]) T [a9j s (.slice a1 n1 c1),.slice a2 n2 c2] = a0c (.agg #[.int .i64 s.g.P,.int .i64 s.g.Q,.int .i64 s.g.G,.slice a1 n1 c1,.int .i64 s.blind,.slice a2 n2 c2,.slice none 0 0]):=by
 funext K w
 kernel_rfl
theorem c8k (T:TypeId) (s:Stp) (a1 a2:Option Addr) (n1 n2 c1 c2 q:Nat):oM Tryz.prog (Go.Op.build 136 #[(0,(.tmp 0)),(1,(.tmp 1))]) T [.agg #[.int .i64 s.g.P,.int .i64 s.g.Q,.int .i64 s.g.G,.slice a1 n1 c1,.int .i64 s.blind,.slice a2 n2 c2,.slice none 0 0],jnP q] = a0c (.agg #[.int .i64 s.g.P,.int .i64 s.g.Q,.int .i64 s.g.G,.slice a1 n1 c1,.int .i64 s.blind,.slice a2 n2 c2,.slice none 0 0,jnP q]):=by
 funext K w
 kernel_rfl
def e3d (w0 w':World) (b:Nat) (h':Dk) (s:Stp) (lims:List Lim) (A':Ab) (w:World) (r:Value):Option Pst → Prop
 | none=>r = .pointer none
 | some P=>∃ p:Ph,p.b = b ∧ p.h = h' ∧ r = .pointer (some ⟨p.pb,0,none⟩) ∧ PuR s lims w0 w' p A' P ∧ ∀ i,Mu p i → Own b h' i ∨ Rdb h' i ∨ w.heap.size ≤ i
set_option maxHeartbeats 4000000 in
theorem c8l (hw0:8 ≤ w0.heap.size) (hbl:Bw w0 w) (sy:Sys w b A h) (hy:∀ i,Own b h i ∨ Rdb h i → w0.heap.size ≤ i) {v lv:Value} {D:Nat → Prop} (hD:∀ i,D i → i < w.heap.size ∧ ¬ Own b h i) (hsl:FP D w (fun W=>SetR W s v ∧ c5d W lv lims))
  (k:∀ w' h' r,Sys w' b (a5q s lims A).2.2 h' → Step w b h w' h' → e3d w0 w' b h' s lims (a5q s lims A).2.2 w r (a5q s lims A).1 → K (.tuple #[r,.int .i64 (a5q s lims A).2.1]) w'):a0a Tryz.prog 34 #[dkP b,a9j s v,lv] K w:=by
 apply e6w
 unfold g3o
 obtain ⟨hs,hl⟩:=hsl.here
 obtain ⟨ad,c,rfl⟩:=hs.ints.isSlice
 obtain ⟨lad,lc,rfl⟩:=hl.isSlice
 have bad:(a1j s = false ∨ b8n lims = false) → ∀ w',Bw w w' → K (.tuple #[.pointer none,.int .i64 1]) w':=fun hb w' hw=>by
  have e:a5q s lims A = (none,1,A):=by
   unfold a5q
   rcases hb with hb | hb
   ·rw [hb]; rfl
   ·rw [hb]; simp
  rw [e] at k
  exact k w' h _ (sy.below hw) (Step.below hw) rfl
 refine a3f (cs:=b1d s (.slice ad s.bases.length c)) rfl (fun b1 w1 h1 hb1 hB=>?_)
 refine Xa hB.are ?_
 refine a6m s (hs.next h1) (fun w2 h2=>?_)
 have h02:=h1.on h2
 cases hv:a1j s with
 | false=>
  have bad:=bad (.inl hv) _ h02
  refine Xa0 ?_
  exact bad
 | true=>
 have limB:b8n lims = (decide (1 ≤ lims.length) && decide (lims.length ≤ 16) && !(lims.any fun l=>!c9v l)):=rfl
 by_cases h0:lims = []
 ·have bad:=bad (.inr (by rw [limB,h0]; rfl)) _ h02
  refine Xa @h0 ?_
  exact bad
 have h0l:0 < lims.length:=List.length_pos_iff.2 h0
 by_cases h16:16 < lims.length
 ·have h16Z:(16:Int) < lims.length:=by omega
  have bad:=bad (.inr (by rw [limB,decide_eq_false (by omega:¬ lims.length ≤ 16)]; simp)) _ h02
  refine Xa (An2 @h0 @h16Z) ?_
  exact bad
 have h16Z:¬ (16:Int) < lims.length:=by omega
 refine Xa (An2 @h0 @h16Z) ?_
 refine b8u (fun l=>!c9v l) (hl.next (a1k a7i) h02) ?_ (fun w3 h3=>?_)
 ·rintro w' x cs K' T hb hx ⟨rfl,_⟩ h'
  refine a3c (by kernel_rfl) ?_
  exact f2f x h'
 have h03:=h02.on h3
 cases ha:lims.any fun l=>!c9v l with
 | true=>
  have bad:=bad (.inr (by rw [limB,ha]; simp)) _ h03
  refine Xa0 ?_
  exact bad
 | false=>
 have hlm:b8n lims = true:=by rw [limB,ha,decide_eq_true (by omega:1 ≤ lims.length),decide_eq_true (by omega:lims.length ≤ 16)]; rfl
 have eP:a5q s lims A = (match openJ A 0 with
  | (none,e,B)=>(none,e,B)
  | (some j,_,B)=>match b8o s lims j.recs with
   | none=>(none,2,B)
   | some l=>(some ⟨j,l⟩,0,B)):=by unfold a5q; rw [hv,hlm]; rfl
 clear bad
 refine Xa0 ?_
 refine e8f (sy.below h03) 0 (fun w4 h' r sy4 t4 ho4=>?_)
 have hw4:Step w b h w4 h':=(Step.below h03).trans t4
 have hB3:Holds w3 b1 50 (b1d s (.slice ad s.bases.length c)):=(hB.next h2).next h3
 have hb1':¬ Own b h b1:=fun e=>by have:=sy.d.lt (.inl e); omega
 have hB4:=(t4.fr.block b1 hB3.lt hb1').trans hB3
 have hJ:=e3c (A:=A) 0
 have hF:=fun j=>e3b (A:=A) (f:=0) (j:=j)
 generalize openJ A 0 = oj at *
 obtain ⟨oj1,oj2,oj3⟩:=oj
 by_cases he:oj2 = 0
 ·subst he
  cases oj1 with
  | none=>exact absurd rfl (hJ.2 rfl)
  | some j=>
  obtain ⟨q,u,rfl,jn4,hjo⟩:=ho4
  have hb14:b1 < w4.heap.size:=lL hB3.lt t4.fr.size
  have hsl4:=hsl.fr hw4.fr (fun i hi=>hD i hi)
  obtain ⟨hs4,hl4⟩:=hsl4.here
  have few:=hF j rfl
  rw [eP] at k
  simp only at k
  have hB4':Holds w4 b1 50 (b1d s (.slice ad s.bases.length c)):=hB4
  have c4:=hB4'.are
  refine Xa @c4 ?_
  have hbl7:s.bases.length ≤ 7:=(b1e hv).2
  refine b3j hs4.ints (by omega) (fun bv w5 ho5 h5 hb5=>?_)
  obtain ⟨bad5,bc5,rfl⟩:∃ ad c,bv = .slice ad s.bases.length c:=a1v ho5
  have hB5:=hB4'.next h5
  have c5:=hB5.are
  refine Xa @c5 ?_
  refine a3g (i:=3) b4g rfl rfl hB5 (by simp) (fun w6 hg6 hB6=>?_)
  simp only [List.set_cons_succ,List.set_cons_zero] at hB6
  have hs5:=h5.size
  have hs6:=hg6.size
  have f6:Fr (fun i=>i = b1) w4 w6:=(Fr.of_below h5).trans (Fr.of_by hg6) (fun i hi=>.inl hi)
  have hB6:=hB6.next (.drawn (B:=w6.heap.size))
  have f7:Fr (fun i=>i = b1) w4 { w6 with drawn:=w6.drawn + 1 }:=f6.trans (Fr.of_below (S:=fun _=>False) .drawn) (fun i hi=>hi.elim)
  have pb6:=(OwnI.ints (B:=0) ho5 hs.ints.rng hs.ints.len).fp.fr (Fr.of_by hg6) (fun i hi=>⟨hi.2,fun e=>by have:=hb5 i (b0j ho5 hi.1); omega⟩)
  have pb7:=pb6.next (.drawn (B:=w6.heap.size)) (fun i hi=>by have:=hi.2; omega)
  refine ⟨Nx { w6 with drawn:=w6.drawn + 1 },bR,rfl,?_⟩
  have hW7s:w6.heap.size ≤ ({ w6 with drawn:=w6.drawn + 1 }:World).heap.size:=rL
  generalize ({ w6 with drawn:=w6.drawn + 1 }:World) = W7 at hB6 f7 pb7 hW7s ⊢
  refine Xc (fun W0 hW0=>(hB6.next hW0).are) ?_
  have hsl7:=hsl4.fr f7 (fun i hi=>⟨by have:=hD i hi; have:=h03.size; have:=t4.fr.size; omega,fun e=>by have:=hD i hi; omega⟩)
  refine ⟨Nx,?_⟩
  refine a7x (fun v w'=>GRow 3 41 e2n W7.heap.size (fun _=>False) w' v lims) (fun v w w1 hS h=>h.next hS (fun _ h=>h.elim)) ?_ ?_
  ·intro w8 h8
   exact c8i ((hsl7.here.2).next (a1k a7i) h8) (by omega) (fun v' w9 hG h9=>⟨h8.on h9,h9,hG.base h8.size⟩)
  refine a7x (fun v w'=>∃ lv',v = .agg #[.int .i64 s.g.P,.int .i64 s.g.Q,.int .i64 s.g.G,.slice bad5 s.bases.length bc5,.int .i64 s.blind,lv',.slice none 0 0] ∧ GRow 3 41 e2n W7.heap.size (fun _=>False) w' lv' lims) (fun v w w1 hS ⟨lv',e,h⟩=>⟨lv',e,h.next hS (fun _ h=>h.elim)⟩) ?_ ?_
  ·intro w8 h8 v1 hG
   obtain ⟨la,lc',rfl⟩:=hG.isSlice
   rw [c8j]
   exact ⟨h8,bR,_,rfl,hG⟩
  rintro w8 h8 _ - _ ⟨lv',rfl,hG⟩
  obtain ⟨la,lc',rfl⟩:=hG.isSlice
  rw [c8k]
  show oM _ _ _ _ _ _
  refine a3f (cs:=[.int .i64 s.g.P,.int .i64 s.g.Q,.int .i64 s.g.G,.slice bad5 s.bases.length bc5,.int .i64 s.blind,.slice la lims.length lc',.slice none 0 0,jnP q]) rfl (fun pb w9 h9 hpb hP=>?_)
  have hs7:=f7.size
  have hs8:=h8.size
  have hs9:=h9.size
  have hb1w3:=hB3.lt
  have hs03:=h03.size
  have hs34:=t4.fr.size
  have f9:Fr (fun i=>i = b1) w4 w9:=(f7.trans (Fr.of_below (S:=fun _=>False) h8) (fun i hi=>hi.elim)).trans (Fr.of_below (S:=fun _=>False) h9) (fun i hi=>hi.elim)
  have sy9:=sy4.fresh f9 (fun i hi=>by
   subst hi
   refine ⟨fun e=>?_,by have:=hbl.size; omega⟩
   rcases e with e | e
   ·rcases t4.own _ e with e | e
    ·have:=sy.d.lt (.inl e); omega
    ·omega
   ·rcases t4.rd _ e with e | e
    ·have:=sy.d.lt (.inr e); omega
    ·omega)
  have jn9:=jn4.keep (h':=h') f9 (fun i hi hj=>by subst hi; have:=hjo _ hj; omega) (fun i hi=>hi.elim .inl (fun h=>.inr (.inl h)))
  have hP8:=(hsl7.here.1.db).next h8
  have q1:=pb7.next (h8.on h9) (fun i hi=>by have:=hi.2; omega)
  have q2:=(GRow.fp (by omega) hG (by omega)).next h9 (fun i hi=>hi.elim (fun h=>h.elim) (fun h=>(hG.own h).1))
  have q3:=e2r (hP8.next h9)
  have hlow:=hbl.size
  have hyo:∀ i,Own b h' i ∨ Rdb h' i → w0.heap.size ≤ i:=fun i hi=>by
   rcases hi with e | e
   ·rcases t4.own _ e with e | e
    ·exact hy i (.inl e)
    ·omega
   ·rcases t4.rd _ e with e | e
    ·exact hy i (.inr e)
    ·omega
  generalize hp:(⟨b,h',q,u,pb,.slice none 0 0,.slice la lims.length lc',.slice bad5 s.bases.length bc5,fun _=>False⟩:Ph) = p
  have hMu:∀ i,Mu p i → Own b h' i ∨ Rdb h' i ∨ JO q u i ∨ i = pb:=fun i hi=>by
   subst hp
   rcases hi with hi | hi | hi | hi | hi
   ·exact .inl hi
   ·exact .inr (.inl hi)
   ·exact .inr (.inr (.inl hi))
   ·exact .inr (.inr (.inr hi))
   ·cases hi
  have notMu:∀ i,i < w8.heap.size → (i < 8 ∨ w4.heap.size ≤ i) → ¬ Mu p i:=fun i h1 h2 hm=>by
   rcases hMu i hm with e | e | e | e
   ·have:=sy4.d.lt (.inl e); have:=hyo i (.inl e); omega
   ·have:=sy4.d.lt (.inr e); have:=hyo i (.inr e); omega
   ·have:=jn4.lt e; have:=hjo i e; omega
   ·omega
  have hPu:PuR s lims w0 w9 p oj3 ⟨j,[]⟩:=by
   have hst:StR s lims w9 p []:=by
    have hxF:∀ i,¬ p.x i:=by subst hp; exact fun _ h=>h
    refine ⟨by subst hp; exact hP,by subst hp; exact .nil,?_,by simp,?_,?_,fun i hi=>absurd hi (hxF i)⟩
    ·have:=((q1.and q3).and q2).imp (q:=fun W=>SetR W s p.bv ∧ c5d W p.lv lims) (fun W hW=>by subst hp; exact ⟨⟨hs.grp,hW.1.1,hs.blind,hW.1.2⟩,hW.2⟩)
     refine this.mono (fun i hi=>?_)
     rcases hi with (hi | hi) | hi | hi
     ·have:=hb5 i (b0j ho5 hi.1); have:=hi.2; exact ⟨by omega,notMu i (by omega) (.inr (by omega)),hxF i⟩
     ·exact ⟨by omega,notMu i (by omega) (.inl hi),hxF i⟩
     ·exact hi.elim
     ·have:=hG.own hi; exact ⟨by omega,notMu i (by omega) (.inr (by omega)),hxF i⟩
    ·subst hp
     exact ⟨fun e=>by have:pb < _:=sy4.d.lt (.inl e); omega,fun e=>by have:pb < _:=sy4.d.lt (.inr e); omega,fun e=>by have:pb < _:=jn4.lt e; omega⟩
    ·subst hp
     intro i hi
     cases hi
   refine ⟨by subst hp; exact sy9,by subst hp; exact jn9,hst,fun i hi=>?_,?_,hw0⟩
   ·rcases hMu i hi with e | e | e | e
    ·exact hyo i (.inl e)
    ·exact hyo i (.inr e)
    ·have:=hjo i e; omega
    ·omega
   ·exact hbl.trans ⟨f9.os.trans hw4.fr.os,f9.tape.trans hw4.fr.tape,f9.output.trans hw4.fr.output,by omega,fun i hi=>(f9.block i (by omega) (by omega)).trans (hw4.fr.block i (by omega) (fun e=>by have:=hy i (.inl e); omega))⟩
  have e1:p.q = q ∧ p.pb = pb ∧ p.b = b ∧ p.h = h' ∧ p.iv = .slice none 0 0 ∧ p.u = u:=by subst hp; exact ⟨rfl,rfl,rfl,rfl,rfl,rfl⟩
  obtain ⟨e1q,e1p,e1b,e1h,e1i,e1u⟩:=e1
  have hpl:=hP.lt
  have hjl:j.recs.length ≤ 16777216:=by have:=jn9.len; omega
  clear hp hG q1 q2 q3 hP hP8
  subst e1p
  refine g4v jn9 (fun rv w10 hor h10=>?_)
  obtain ⟨rad,rc,rfl⟩:∃ ad c,rv = .slice ad j.recs.length c:=by
   obtain ⟨ad,c,e⟩:=a1v hor
   exact ⟨ad,c,e⟩
  have hrI:∀ i,(Value.slice rad j.recs.length rc).ownBlock = some i → w9.heap.size ≤ i ∧ i < w10.heap.size:=fun i hi=>by have:=a0p hor hi; omega
  have hPu:=hPu.next h10
  have hfin:∀ W p',PuIt p w10 p' W → Step w b h W h':=fun W p' t=>by
   refine ⟨((hw4.fr.trans f9 (fun i hi=>.inr (by omega))).trans (Fr.of_below (S:=fun _=>False) h10) (fun i hi=>hi.elim)).trans t.fr (fun i hi=>?_),hw4.own,hw4.rd⟩
   rcases hi with hi | hi
   ·exact .inr (by omega)
   ·rw [e1i] at hi; cases hi
  refine Xa0 ?_
  refine ⟨fun vs W=>∃ (u0:Value) (i:Nat) (iv:Value) (items:List Itm),vs = [u0,.pointer none,.int .i64 0,.int .i64 (i:Int)] ∧ i ≤ j.recs.length ∧ PuR s lims w0 W { p with iv:=iv } oj3 ⟨j,items⟩ ∧ PuIt p w10 { p with iv:=iv } W ∧ a0s s lims items (j.recs.drop i) = a0s s lims [] j.recs,
   (fun vs _=>match vs with | [_,_,_,.int _ i]=>j.recs.length - i.toNat | _=>0),⟨_,0,p.iv,[],rfl,by omega,hPu,PuIt.refl _ _,rfl⟩,?_⟩
  rintro _ _ w11 ⟨u0,i,iv,items,rfl,hi,hPi,hti,hre⟩
  have hs11:=hti.fr.size
  by_cases hin:i = j.recs.length
  ·subst hin
   rw [List.drop_length] at hre
   have hop:b8o s lims j.recs = some (items.map a5h):=by unfold b8o; rw [← hre]; rfl
   rw [hop] at k
   have c6:=hPi.st.pur.cell 6 (by simp)
   simp only [List.getElem_cons_zero,List.getElem_cons_succ] at c6
   obtain ⟨iad,ic,hiv⟩:=hPi.st.items.isSlice
   simp only at hiv
   subst hiv
   refine Xa @c6 ?_
   refine ⟨fun vs W=>∃ (u0:Value) (m:Nat),vs = [u0,.int .i64 (m:Int)] ∧ m ≤ items.length ∧ PuR s lims w0 W { p with iv:=.slice iad items.length ic } oj3 ⟨j,(items.take m).map a5h ++ items.drop m⟩ ∧ PuIt p w10 { p with iv:=.slice iad items.length ic } W,
    (fun vs _=>match vs with | [_,.int _ m]=>items.length - m.toNat | _=>0),⟨_,0,rfl,by omega,hPi,hti⟩,?_⟩
   rintro _ _ w12 ⟨u1,m,rfl,hm,hPm,htm⟩
   have hcnt:items.length ≤ 400:=hPi.st.cnt
   have hs10:=h10.size
   by_cases hmn:m = items.length
   ·subst hmn
    rw [List.take_length,List.drop_length,List.append_nil] at hPm
    refine Xa0 ?_
    refine k w12 h' _ (by have:=hPm.sys; simp only [e1b,e1h] at this; exact this) (hfin _ _ htm) ⟨{ p with iv:=.slice iad items.length ic },e1b,e1h,rfl,hPm,fun i hi=>?_⟩
    rcases hi with hi | hi | hi | hi | hi
    ·simp only [e1b,e1h] at hi; exact .inl hi
    ·simp only [e1h] at hi; exact .inr (.inl hi)
    ·simp only [e1q,e1u] at hi; have:=hjo i hi; exact .inr (.inr (by omega))
    ·exact .inr (.inr (by have:i = p.pb:=hi; omega))
    ·rcases htm.iv i hi with e | e
     ·rw [e1i] at e; cases e
     ·exact .inr (.inr (by omega))
   ·have hml:m < items.length:=by omega
    have hmZ:(m:Int) < items.length:=by omega
    have hLl:((items.take m).map a5h ++ items.drop m).length = items.length:=by simp; omega
    have hx:((items.take m).map a5h ++ items.drop m)[m]? = some items[m]:=by
     rw [List.getElem?_append_right (by simp; omega)]
     simp only [List.length_map,List.length_take,List.getElem?_drop]
     rw [show m + (m - min m items.length) = m by omega]
     exact gE hml
    have hnext:(items.take (m + 1)).map a5h ++ items.drop (m + 1) = ((items.take m).map a5h ++ items.drop m).set m (a5h items[m]):=by
     rw [List.take_succ_eq_append_getElem hml,List.map_append,List.set_append_right _ _ (by simp; omega)]
     simp only [List.length_map,List.length_take]
     rw [show m - min m items.length = 0 by omega]
     have:items.drop m = items[m] :: items.drop (m + 1):=List.drop_eq_getElem_cons hml
     rw [this]
     simp only [List.map_cons,List.map_nil,List.append_assoc,List.cons_append,List.nil_append,List.set_cons_zero]
    obtain ⟨g,gc,av,yv,zv,hgv,hgl,hH,hI,hJ2,hc⟩:=hPm.st.at hx
    have hgv0:=hgv
    simp only [hLl] at hgv
    cases hgv
    have c14:=hc 14 _ rfl
    have c6:=hPm.st.pur.cell 6 (by simp)
    simp only [List.getElem_cons_zero,List.getElem_cons_succ] at c6
    refine Xa @hmZ ?_
    refine ⟨fun l W=>l.getD 0 undef = .int .i64 (m:Int) ∧ PuR s lims w0 W { p with iv:=.slice (some ⟨g,0,none⟩) items.length ic } oj3 ⟨j,(items.take (m + 1)).map a5h ++ items.drop (m + 1)⟩ ∧ PuIt p w10 { p with iv:=.slice (some ⟨g,0,none⟩) items.length ic } W,?_,?_⟩
    ·by_cases hst1:items[m].status = 1
     ·refine Xa (An4 @c6 @hmZ @c14 @hst1) ?_
      refine hPm.st.put1 hPm.mu_lt (y:=a5h items[m]) hx hgv0 (by omega) a8b rfl rfl (fun _ _ _=>by unfold a5h; rw [if_pos hst1]; rfl) (by unfold a5h; rw [if_pos hst1]) (by unfold a5h; rw [if_pos hst1]; exact ⟨b8x 3 (by omega),hJ2⟩) (fun w13 h13 t13=>?_)
      refine Xa0 ?_
      rw [hnext]
      exact ⟨rfl,hPm.it h13 t13,htm.trans t13⟩
     ·refine Xa (An4 @c6 @hmZ @c14 @hst1) ?_
      rw [hnext]
      have:a5h items[m] = items[m]:=by unfold a5h; rw [if_neg hst1]
      rw [this,f2e hx]
      exact ⟨rfl,hPm,htm⟩
    ·rintro l u W ⟨hl0,hP',ht'⟩
     rw [hl0]
     refine Xa0 ?_
     exact ⟨⟨_,m + 1,rfl,by omega,hP',ht'⟩,by show items.length - (((m + 1:Nat):Int)).toNat < items.length - ((m:Nat):Int).toNat; omega⟩
  ·have hil:i < j.recs.length:=by omega
   have hiZ:(i:Int) < j.recs.length:=by omega
   have hor11:=a0r hor (fun i hi=>hti.fr.block i (hrI i hi).2 (fun e=>by
    rcases e with e | e
    ·have:=hrI i hi; omega
    ·rw [e1i] at e; cases e))
   obtain ⟨ad',c',hv',hcase⟩:=Cd.RowOf.of_owns (mk:=Cd.strV) hor11
   cases hv'
   rcases hcase with hnil | ⟨b3,o3,rfl,hb3,hc3⟩
   ·rw [hnil] at hil; exact absurd hil (by simp)
   have hc:=hc3 i hil
   unfold Cd.strV at hc
   have hrl:=few _ (List.getElem_mem hil)
   rw [List.drop_eq_getElem_cons hil] at hre
   refine Xa (An2 @hiZ @hc) ?_
   refine e3a hPi.st hPi.mu_lt hPi.sys.l j.recs[i] (by omega) (fun e w' hb=>?_) (fun items' e w' iv' a b2=>?_)
   ·have hop:b8o s lims j.recs = none:=by
     unfold b8o
     rw [← hre,a0s,e]
     rfl
    rw [hop] at k
    have hPn:=hPi.next hb
    have hsy:=hPn.sys
    simp only [e1b,e1h] at hsy
    have k:=k w' h' _ hsy (hfin _ _ (hti.trans (PuIt.below hb))) rfl
    refine Xa0 ?_
    exact k
   ·have hPn:=hPi.it a b2
    rw [a0s,e] at hre
    refine Xa0 ?_
    exact ⟨⟨_,i + 1,iv',items',rfl,by omega,hPn,hti.trans b2,hre⟩,by show j.recs.length - (((i + 1:Nat):Int)).toNat < j.recs.length - ((i:Nat):Int).toNat; omega⟩
 ·have hn:=hJ.1 he
  simp only at hn
  subst hn
  simp only [d8j] at ho4
  subst ho4
  rw [eP] at k
  have k:=k w4 h' _ sy4 hw4 rfl
  refine Xa @he ?_
  exact k
theorem c8m {x:Hld} (h:PuSpec.validM s lims x = true):x.attrs.length < 1099511627776 ∧ x.bl.ys.length < 1099511627776 ∧ x.links.length < 1000 ∧ ∀ y ∈ x.links,y.spend.answers.length < 1099511627776:=by
 rw [c5h] at h
 simp only [bA,dE] at h
 obtain ⟨⟨⟨⟨⟨⟨⟨⟨⟨⟨⟨⟨⟨⟨⟨⟨hv,-⟩,-⟩,-⟩,hl⟩,ha⟩,-⟩,-⟩,hy⟩,-⟩,-⟩,-⟩,-⟩,-⟩,-⟩,-⟩,-⟩:=h
 have:=(b1e hv).2
 unfold a9i at hl
 simp only [bA,dE,Bool.not_eq_true',List.any_eq_false,Bool.or_eq_true,not_or] at hl
 exact ⟨by omega,by omega,by omega,fun y hy=>by have:=(hl.2 y hy).2; omega⟩
set_option maxHeartbeats 4000000 in
theorem e3e (hP:PuR s lims w0 w p A P) (x:Hld) {av yv kv:Value} {D:Nat → Prop} (hD:∀ i,D i → i < w.heap.size ∧ ¬ Mu p i) (hx:FP D w (fun W=>HldR W x av yv kv))
  (k:∀ w' p',PuR s lims w0 w' p' (c0u s lims A P x).2.1 (c0u s lims A P x).2.2 → PuSt p w p' w' → (p'.pb = p.pb ∧ p'.b = p.b) → K (.int .i64 (c0u s lims A P x).1) w'):a0a Tryz.prog 53 #[.pointer (some ⟨p.pb,0,none⟩),d3g x av yv kv] K w:=by
 apply e6x
 unfold g3p
 obtain ⟨a1,n1,c1,a2,n2,c2,a3,n3,c3,rfl,rfl,rfl⟩:=a0y hx.here
 refine a3f (cs:=b7y x (.slice a1 n1 c1) (.slice a2 n2 c2) (.slice a3 n3 c3)) rfl (fun b1 w1 h1 hb1 hB=>?_)
 have bad:a5s s lims P.items x ≠ 0 → ∀ w',Bw w w' → K (.int .i64 (a5s s lims P.items x)) w':=fun e w' hb=>by
  unfold c0u at k
  rw [if_pos e] at k
  exact k w' p (hP.next hb) (PuSt.below hb) ⟨rfl,rfl⟩
 have eE:a5s s lims P.items x = if !PuSpec.validM s lims x then 1 else if c0x P.items x.t then 5 else if 400 ≤ P.items.length then 6 else 0:=rfl
 rw [eE] at bad
 have hP1:=hP.next h1
 have hw1d:=h1.on (.drawn (B:=w1.heap.size))
 have hPd:=hP1.next (.drawn (B:=w1.heap.size))
 have hBd:=hB.next (.drawn (B:=w1.heap.size))
 refine ⟨Nx { w1 with drawn:=w1.drawn + 1 },bR,rfl,?_⟩
 generalize ({ w1 with drawn:=w1.drawn + 1 }:World) = W2 at hw1d hPd hBd ⊢
 obtain ⟨ivad,ivc,hiv⟩:=hPd.st.items.isSlice
 obtain ⟨lvad,lvc,hlv⟩:=hPd.st.lim.isSlice
 obtain ⟨bvad,bvc,hbv⟩:=hPd.st.set.ints.isSlice
 have C2:=hPd.st.pur
 unfold puC at C2
 rw [hiv,hlv,hbv] at C2
 refine Xc (fun W0 hW0=>An2 ((C2.next hW0).are) ((hBd.next hW0).are)) ?_
 refine ⟨Nx,fun W3 h3=>?_⟩
 have hw3:=hw1d.on h3
 have hP3:=hPd.next h3
 have hB3:=hBd.next h3
 have hx3:=hx.next hw3 (fun i hi=>(hD i hi).1)
 have hS3:=hP3.st.set
 rw [hbv] at hS3
 have hL3:=hP3.st.lim
 rw [hlv] at hL3
 refine d0y s lims x hS3 hL3 hx3.here (fun w4 h4=>?_)
 have hw4:=hw3.on h4
 have hP4:=hP3.next h4
 have hB4:=hB3.next h4
 cases hv:PuSpec.validM s lims x with
 | false=>
  rw [hv] at bad
  have bad:=bad (by simp) _ hw4
  refine Xa0 ?_
  exact bad
 | true=>
 rw [hv] at bad
 refine Xa0 ?_
 have hw5:=hw4.on (.drawn (B:=w4.heap.size))
 have hP5:=hP4.next (.drawn (B:=w4.heap.size))
 have hB5:=hB4.next (.drawn (B:=w4.heap.size))
 refine ⟨Nx { w4 with drawn:=w4.drawn + 1 },bR,rfl,?_⟩
 generalize ({ w4 with drawn:=w4.drawn + 1 }:World) = W5 at hw5 hP5 hB5 ⊢
 refine Xc (fun W0 hW0=>(hB5.next hW0).are) ?_
 refine ⟨Nx,fun W6 h6=>?_⟩
 have hw6:=hw5.on h6
 have hP6:=hP5.next h6
 have hB6:=hB5.next h6
 refine f7h hP6.st x.t (fun w7 h7=>?_)
 have hw7:=hw6.on h7
 have hP7:=hP6.next h7
 have hB7:=hB6.next h7
 cases hh:c0x P.items x.t with
 | true=>
  rw [hh] at bad
  have bad:=bad (by simp) _ hw7
  refine Xa0 ?_
  exact bad
 | false=>
 rw [hh] at bad
 have c6:=hP7.st.pur.cell 6 (by simp)
 simp only [List.getElem_cons_zero,List.getElem_cons_succ] at c6
 rw [hiv] at c6
 by_cases h4:400 ≤ P.items.length
 ·have h4Z:(400:Int) ≤ P.items.length:=by omega
  rw [if_neg (by simp),if_neg (by simp),if_pos h4] at bad
  have bad:=bad (by omega) _ hw7
  refine Xa (An2 @c6 @h4Z) ?_
  exact bad
 have h4Z:¬ (400:Int) ≤ P.items.length:=by omega
 have eE:a5s s lims P.items x = 0:=by rw [eE,hv,hh,if_neg (by simp),if_neg (by simp),if_neg h4]
 clear bad
 refine Xa (An2 @c6 @h4Z) ?_
 unfold c0u at k
 rw [if_neg (by rw [eE]; simp)] at k
 have hw8:=hw7.on (.drawn (B:=w7.heap.size))
 have hP8:=hP7.next (.drawn (B:=w7.heap.size))
 have hB8:=hB7.next (.drawn (B:=w7.heap.size))
 refine ⟨Nx { w7 with drawn:=w7.drawn + 1 },bR,rfl,?_⟩
 generalize ({ w7 with drawn:=w7.drawn + 1 }:World) = W8 at hw8 hP8 hB8 ⊢
 have C8:=hP8.st.pur
 refine Xc (fun W0 hW0=>An2 ((C8.next hW0).are) ((hB8.next hW0).are)) ?_
 have hx8:=hx.next hw8 (fun i hi=>(hD i hi).1)
 have hlen:=c9u hx8.here.wf hv
 have hrl:(a4e x).length ≤ 4002:=by unfold a4e; rw [List.length_append,h1y]; simp; omega
 refine ⟨Nx,?_⟩
 apply a7l
 ·intro w9 h9
  exact Cd.pNum_ok 0 ⟨by omega,by omega⟩ (hP8.next h9).sys.l.toLaid (fun w10 h10=>⟨h9.on h10,h10,rfl⟩)
 apply a7l
 ·intro w9 h9
  exact d3i x (hx8.next h9 (fun i hi=>by have:=(hD i hi).1; have:=hw8.size; omega)).here (by omega) (hP8.next h9).sys.l (fun w10 h10=>⟨h9.on h10,h10,rfl⟩)
 apply a7l
 ·rintro w9 h9 _ rfl _ rfl
  exact b2e _ _ (by rw [h1y]; simp; omega) ⟨h9,bR,rfl⟩
 rintro w9 h9 _ - _ - _ rfl
 have hw9:=hw8.on h9
 have hP9:=hP8.next h9
 have hB9:=hB8.next h9
 have hx9:=hx8.next h9 (fun i hi=>by have:=(hD i hi).1; have:=hw8.size; omega)
 refine b5w hP9.sys hP9.jn ⟨by omega,by omega⟩ (a4e x) (by omega) (fun w10 h10 v10 s10 j10 t10=>?_)
 obtain ⟨hPa,ta⟩:=hP9.jour s10 j10 t10
 by_cases he:(a0g A 0 P.j (a4e x)).1 = 0
 ·rw [if_neg (by rw [he]; simp)] at k
  rw [he]
  refine Xa0 ?_
  have hb1n:¬ Mu p b1:=fun e=>by have:=hP.mu_lt b1 e; omega
  have hB10:Holds w10 b1 29 _:=(ta.fr.block b1 hB9.lt hb1n).trans hB9
  have hx10:=hx9.fr ta.fr (fun i hi=>⟨by have:=(hD i hi).1; have:=hw9.size; omega,(hD i hi).2⟩)
  have hPd:=hPa.next (.drawn (B:=w10.heap.size))
  have hBd:=hB10.next (.drawn (B:=w10.heap.size))
  have hxd:=hx10.next (.drawn (B:=w10.heap.size)) (fun i hi=>by have:=(hD i hi).1; have:=hw9.size; have:=ta.fr.size; omega)
  have td:=ta.trans (PuSt.below (.drawn (B:=w10.heap.size)))
  refine ⟨fun sg W=>sg ≤ 3 → Nx { w10 with drawn:=w10.drawn + 1 } W,fun _=>bR,?_⟩
  generalize ({ w10 with drawn:=w10.drawn + 1 }:World) = W11 at hPd hBd hxd td ⊢
  have C11:=hPd.st.pur
  have c6:=C11.cell 6 (by simp)
  simp only [List.getElem_cons_zero,List.getElem_cons_succ] at c6
  rw [hiv] at c6
  have c6k:∀ W0,Nx W11 W0 → W0.cell? ⟨p.pb,6,none⟩ = some (.slice ivad P.items.length ivc):=fun W0 h=>(h.cell C11.lt).trans c6
  obtain ⟨z1,z2,z3,z4⟩:=c8m hv
  repeat (first | (with_reducible refine pX ?_) | (with_reducible refine a3t ?_) | (with_reducible refine a2m rfl ?_) | (with_reducible refine a2b rfl ?_) | (refine a1z ⟨_,rfl⟩ (fun W0 hW0=>by (obtain ⟨s0,hs0,hC⟩:=hW0); (have hsk:s0 ≤ 3:=by omega); (refine oG (fun X Y=>?_)); simp [go_sem,c6k _ (hC hsk),(hBd.next (hC hsk)).are]; (first | exact Y _ _ ⟨rfl,rfl⟩ | exact ⟨by omega,Y _ _ ⟨rfl,rfl⟩⟩)) ?_))
  refine d1a x hxd.here z1 z2 z3 z4 (fun w12 av' yv' kv' h12 hF=>⟨fun _=>h12,?_⟩)
  obtain ⟨a1',n1',c1',a2',n2',c2',a3',n3',c3',rfl,rfl,rfl⟩:=a0y hF.here
  rw [c5l]
  show _ ∧ _
  refine ⟨fun _=>h12,?_⟩
  refine e2v (a2q x) (fun q w13 h13 hQ1 hQ=>⟨fun _=>h12.on h13,?_⟩)
  have hw13:=h12.on h13
  have hPi:=hPd.next hw13
  rw [← hiv]
  refine c5m (D:=Im _ w13) hPi.st.itm (Nat.zero_le _) hQ ?_ (fun i hi=>⟨hi.1,fun e=>hi.2.1 (.inr (.inr (.inr (.inr e))))⟩) (by show P.items.length < 1000; omega) (fun v' w14 hG hg hv'=>⟨fun h=>by omega,?_⟩)
  ·exact (d1b hPd.mu_lt hPd.st.xl (hF.next h13)).imp (fun W hW=>⟨_,_,_,rfl,hW,d3a,d3a⟩)
  refine a7z ?_
  refine ⟨fun h=>by omega,?_⟩
  refine a7z ?_
  refine ⟨fun h=>by omega,?_⟩
  refine a7z ?_
  refine ⟨fun h=>by omega,?_⟩
  obtain ⟨va,vc,hva⟩:=hG.isSlice
  have hP14:=hPi.st.pur.other' hg (fun e=>(hPi.st.si _ e).2.2.2 rfl)
  refine a3g (i:=6) e2w (by rw [hva]; rfl) (by rw [hva]; rfl) hP14 (by simp) (fun w15 hg15 hH15=>⟨fun h=>by omega,?_⟩)
  obtain ⟨r1,r2⟩:=hPi.st.grew hPi.mu_lt hG hg hv' hg15 hH15 (by show P.items.length + 1 ≤ 400; omega)
  exact k w15 _ (hPi.it r1 r2) (((PuSt.below hw9).trans td).trans ((PuSt.below hw13).trans r2.st)) ⟨rfl,rfl⟩
 ·rw [if_pos he] at k
  have k:=k w10 _ hPa ((PuSt.below hw9).trans ta) ⟨rfl,rfl⟩
  refine Xa @he ?_
  exact k
theorem e3f (hP:StR s lims w p items) (x:Itm) {av yv kv:Value} (hx:HldR w x.held av yv kv) {limit:Int} (now:Int) (h0:0 ≤ limit) (h1:limit < lims.length) (k:∀ w',Bw w w' → K (.bool (a6w lims limit now x)) w') :
  a0a Tryz.prog 72 #[.pointer (some ⟨p.pb,0,none⟩),g0j x av yv kv,.int .i64 limit,.int .i64 now] K w:=by
 apply e6y
 unfold g3q
 obtain ⟨a1,n1,c1,a2,n2,c2,a3,n3,c3,rfl,rfl,rfl⟩:=a0y hx
 refine a3f (cs:=b3m x (.slice a1 n1 c1) (.slice a2 n2 c2) (.slice a3 n3 c3)) rfl (fun b1 w1 hb1 hbb hB=>?_)
 have hw:=hb1.on (.drawn (B:=w1.heap.size))
 have hBd:=hB.next (.drawn (B:=w1.heap.size))
 have hPd:=hP.next hw
 refine ⟨Nx { w1 with drawn:=w1.drawn + 1 },bR,rfl,?_⟩
 generalize ({ w1 with drawn:=w1.drawn + 1 }:World) = W2 at hw hBd hPd ⊢
 have eF:a6w lims limit now x = (decide (x.status = 0) && decide (x.held.limit = limit) && decide (x.held.window = b1v (lims.getD limit.toNat ⟨0,0,0⟩) now)):=rfl
 have k2:∀ w' r,a6w lims limit now x = r → Nx W2 w' → K (.bool r) w':=fun w' r e hn=>by rw [← e]; exact k w' (hw.on hn)
 rw [eF] at k2
 clear k eF
 obtain ⟨lvad,lvc,hlv⟩:=hPd.lim.isSlice
 have C:=hPd.pur
 unfold puC at C
 have hL:=hPd.lim
 rw [hlv] at C hL
 have hli:limit.toNat < lims.length:=by omega
 obtain ⟨lb,lo,rfl,hlb,cs,hcl,hcc,hV⟩:=hL.at hli
 obtain ⟨rfl,hI⟩:=hV
 have eD:lims.getD limit.toNat ⟨0,0,0⟩ = lims[limit.toNat]:=by rw [List.getD_eq_getElem?_getD,gE hli]; rfl
 rw [eD] at k2
 generalize lims[limit.toNat] = lm at *
 have g0:∀ W0,Nx W2 W0 → W0.cell? ⟨lb,lo + limit.toNat * 3,none⟩ = some (.int .i64 lm.count):=fun W0 h=>(h.cell hlb).trans (hcc 0 _ rfl)
 have g1:∀ W0,Nx W2 W0 → W0.cell? ⟨lb,lo + limit.toNat * 3 + 1,none⟩ = some (.int .i64 lm.length):=fun W0 h=>(h.cell hlb).trans (hcc 1 _ rfl)
 have g2:∀ W0,Nx W2 W0 → W0.cell? ⟨lb,lo + limit.toNat * 3 + 2,none⟩ = some (.int .i64 lm.gate):=fun W0 h=>(h.cell hlb).trans (hcc 2 _ rfl)
 by_cases hs:x.status = 0
 ·by_cases hl:x.held.limit = limit
  ·repeat (any_goals (first
   | (with_reducible first|refine pX ?_|((refine b7d ?_); refine a4t fun _=>?_)|refine zA ?_)
   | ((with_reducible refine b0z ?_); first|(with_reducible first|refine vA ?_|refine a3t ?_)|(with_reducible refine a1z ⟨_,rfl⟩ (fun W0 hW0=>by (refine oG (fun X Y=>?_)); simp [go_sem,(C.next hW0).are,(hBd.next hW0).are,hs,hl,h0,h1,g0 _ hW0,g1 _ hW0,g2 _ hW0]; (first | exact Y _ _ ⟨rfl,rfl⟩ | exact ⟨by omega,Y _ _ ⟨rfl,rfl⟩⟩)) ?_))))
   dsimp only
   refine ⟨Nx,?_⟩
   apply a7l
   ·intro w9 h9
    refine Xa0 ?_
    exact b7u lm now (fun w2 h2=>⟨h9.on h2,h2,rfl⟩)
   rintro w8 h8 _ rfl
   by_cases hw:x.held.window = b1v lm now
   ·have k:=k2 _ true (by rw [decide_eq_true hs,decide_eq_true hl,decide_eq_true hw]; rfl) h8
    refine Xa @hw ?_
    exact k
   ·have k:=k2 _ false (by rw [decide_eq_false hw]; simp) h8
    refine Xa @hw ?_
    exact k
  ·refine Xf (fun W0 hW0=>An2 ((C.next hW0).are) ((hBd.next hW0).are)) (An2 @hs @hl) ?_
   refine ⟨Nx,?_⟩
   refine Xd0 ?_
   rintro w8 h8 _ rfl
   refine Xa0 ?_
   exact k2 _ _ (by rw [decide_eq_false hl]; simp) h8
 ·refine Xf (fun W0 hW0=>An2 ((C.next hW0).are) ((hBd.next hW0).are)) @hs ?_
  refine ⟨Nx,?_⟩
  refine Xd0 ?_
  rintro w8 h8 _ rfl
  refine Xa0 ?_
  exact k2 _ _ (by rw [decide_eq_false hs]; simp) h8
theorem cell_lt {a:Addr} {v:Value} (h:w.cell? a = some v):a.block < w.heap.size:=(b0y (L:=[(a,v)]) ⟨h,trivial⟩) _ (List.mem_singleton.2 rfl)
theorem d3k (hP:StR s lims w p items) (x:Itm) {av yv kv:Value} (hx:HldR w x.held av yv kv) {limit:Int} (now:Int) (h0:0 ≤ limit) (h1:limit < lims.length) {b1 b2 b3:Nat} (c1:w.cell? ⟨b1,0,none⟩ = some (.pointer (some ⟨p.pb,0,none⟩))) (c2:w.cell? ⟨b2,0,none⟩ = some (.int .i64 limit)) (c3:w.cell? ⟨b3,0,none⟩ = some (.int .i64 now))
  (k:∀ w',Bw w w' → K (.bool (a6w lims limit now x)) w'):a0a Tryz.prog 122 #[g0j x av yv kv,.pointer (some ⟨b1,0,none⟩),.pointer (some ⟨b2,0,none⟩),.pointer (some ⟨b3,0,none⟩)] K w:=by
 apply d6x
 unfold f5b
 obtain ⟨a1,n1,d1,a2,n2,d2,a3,n3,d3,rfl,rfl,rfl⟩:=a0y hx
 refine a3f (cs:=b3m x (.slice a1 n1 d1) (.slice a2 n2 d2) (.slice a3 n3 d3)) rfl (fun b4 W hb1 hbb hB=>?_)
 have e1:=(hb1.cell (cell_lt c1)).trans c1
 have e2:=(hb1.cell (cell_lt c2)).trans c2
 have e3:=(hb1.cell (cell_lt c3)).trans c3
 refine Xb1 @e1 ?_
 refine a1s hB b4r (by kernel_rfl) (by kernel_rfl) ?_
 refine Xa (An2 @e2 @e3) ?_
 refine e3f (hP.next hb1) x (hx.next hb1) now h0 h1 (fun w2 h2=>?_)
 refine Xa0 ?_
 exact k _ (hb1.on h2)
@[go_sem] theorem f7i {P:Program} {K:VK} {w:World} (fn:Fn) (T:TypeId) (x y z:Value):oM P (.makeFunc fn #[] #[.tmp 0,.tmp 1,.tmp 2]) T [x,y,z] K w = K (.func fn #[] #[x,y,z]) w:=a2s (by simp [xop,execOp,a0u,evE,Instr.makeFunc])
theorem c5o (hP:StR s lims w p P.items) (limit now:Int) (k:∀ w',Bw w w' → K (.tuple #[.int .i64 (a0j lims P.items limit now).1,.int .i64 (a0j lims P.items limit now).2]) w') :
  a0a Tryz.prog 73 #[.pointer (some ⟨p.pb,0,none⟩),.int .i64 limit,.int .i64 now] K w:=by
 apply e6z
 unfold g3r
 have bad:(limit < 0 ∨ (lims.length:Int) ≤ limit ∨ a6g now = false) → ∀ w',Bw w w' → K (.tuple #[.int .i64 0,.int .i64 1]) w':=fun e w' hb=>by
  have:a0j lims P.items limit now = (0,1):=by
   unfold a0j
   rw [if_pos (by rcases e with e | e | e <;> simp [e])]
  rw [this] at k
  exact k w' hb
 refine a3f (cs:=[.pointer (some ⟨p.pb,0,none⟩)]) rfl (fun b1 w1 h1 hb1 hB1=>?_)
 refine a3f (cs:=[.int .i64 limit]) rfl (fun b2 w2 h2 hb2 hB2=>?_)
 refine a3f (cs:=[.int .i64 now]) rfl (fun b3 w3 h3 hb3 hB3=>?_)
 have hw:=((h1.on h2).on h3).on (.drawn (B:=w3.heap.size))
 have hB1:=((hB1.next h2).next h3).next (.drawn (B:=w3.heap.size))
 have hB2:=(hB2.next h3).next (.drawn (B:=w3.heap.size))
 have hB3:=hB3.next (.drawn (B:=w3.heap.size))
 refine ⟨Nx { w3 with drawn:=w3.drawn + 1 },bR,rfl,?_⟩
 generalize ({ w3 with drawn:=w3.drawn + 1 }:World) = W4 at hw hB1 hB2 hB3 ⊢
 have hPd:=hP.next hw
 obtain ⟨lvad,lvc,hlv⟩:=hPd.lim.isSlice
 obtain ⟨ivad,ivc,hiv⟩:=hPd.items.isSlice
 have C:=hPd.pur
 unfold puC at C
 rw [hlv,hiv] at C
 have f5:∀ W0,Nx W4 W0 → W0.cell? ⟨p.pb,5,none⟩ = some (.slice lvad lims.length lvc):=fun W0 h=>(h.cell C.lt).trans (C.cell 5 (by simp))
 have f6:∀ W0,Nx W4 W0 → W0.cell? ⟨p.pb,6,none⟩ = some (.slice ivad P.items.length ivc):=fun W0 h=>(h.cell C.lt).trans (C.cell 6 (by simp))
 have g1:∀ W0,Nx W4 W0 → W0.cell? ⟨b1,0,none⟩ = some (.pointer (some ⟨p.pb,0,none⟩)):=fun W0 h=>(h.cell hB1.lt).trans (hB1.cell 0 (by simp))
 have g2:∀ W0,Nx W4 W0 → W0.cell? ⟨b2,0,none⟩ = some (.int .i64 limit):=fun W0 h=>(h.cell hB2.lt).trans (hB2.cell 0 (by simp))
 have g3:∀ W0,Nx W4 W0 → W0.cell? ⟨b3,0,none⟩ = some (.int .i64 now):=fun W0 h=>(h.cell hB3.lt).trans (hB3.cell 0 (by simp))
 have bad:(limit < 0 ∨ (lims.length:Int) ≤ limit ∨ a6g now = false) → ∀ w',Nx W4 w' → K (.tuple #[.int .i64 0,.int .i64 1]) w':=fun e w' hn=>bad e w' (hw.on hn)
 by_cases hl0:limit < 0
 ·have bad:=bad (.inl hl0)
  refine Xf (fun W0 hW0=>An4 (f5 _ hW0) (g1 _ hW0) (g2 _ hW0) (g3 _ hW0)) @hl0 ?_
  refine ⟨Nx,fun w5 h5=>?_⟩
  refine Xa0 ?_
  exact bad _ h5
 by_cases hl1:(lims.length:Int) ≤ limit
 ·have bad:=bad (.inr (.inl hl1))
  refine Xf (fun W0 hW0=>An4 (f5 _ hW0) (g1 _ hW0) (g2 _ hW0) (g3 _ hW0)) (An2 @hl0 @hl1) ?_
  refine ⟨Nx,fun w5 h5=>?_⟩
  refine Xa0 ?_
  exact bad _ h5
 refine Xf (fun W0 hW0=>An4 (f5 _ hW0) (g1 _ hW0) (g2 _ hW0) (g3 _ hW0)) (An2 @hl0 @hl1) ?_
 refine ⟨Nx,fun w5 h5=>?_⟩
 refine Xa0 ?_
 refine a5y now ?_
 cases ht:a6g now with
 | false=>
  have bad:=bad (.inr (.inr ht)) _ h5
  refine Xa0 ?_
  exact bad
 | true=>
 have k2:∀ w' r,a0j lims P.items limit now = r → Nx W4 w' → K (.tuple #[.int .i64 r.1,.int .i64 r.2]) w':=fun w' r e hn=>by rw [← e]; exact k w' (hw.on hn)
 have eC:a0j lims P.items limit now = (match P.items.findIdx? (a6w lims limit now) with
  | none=>(0,15)
  | some i=>(i,0)):=by
  unfold a0j
  rw [if_neg (by simp [hl0,hl1,ht])]
  rfl
 rw [eC] at k2
 clear k bad eC
 refine Xa (An2 (f6 _ h5) (g1 _ h5)) ?_
 have hP5:=hPd.next h5
 have hit:=hP5.items
 rw [hiv] at hit
 refine b8a (a6w lims limit now) hit ?_ (fun w6 h6=>?_)
 ·rintro w' x cs K' T hb hx ⟨av,yv,lv,rfl,hh,_⟩ h'
  refine a3c (by kernel_rfl) ?_
  exact d3k (hP5.next hb) x hh now (by omega) (by omega) (g1 _ (h5.on hb)) (g2 _ (h5.on hb)) (g3 _ (h5.on hb)) h'
 ·cases hf:P.items.findIdx? (a6w lims limit now) with
  | none=>
   have k:=k2 _ (0,15) (by rw [hf]) (h5.on h6)
   show oM _ _ _ [.int .i64 (-1),_] _ _
   refine Xa0 ?_
   exact k
  | some i=>
   have k:=k2 _ (i,0) (by rw [hf]) (h5.on h6)
   have hi:¬ (i:Int) < 0:=by omega
   show oM _ _ _ [.int .i64 (i:Int),_] _ _
   refine Xa @hi ?_
   exact k
theorem modify_set {α:Type} {l:List α} {i:Nat} {x:α} (f:α → α) (h:l[i]? = some x):l.modify i f = l.set i (f x):=by
 apply List.ext_getElem?
 intro j
 rw [List.getElem?_modify,List.getElem?_set]
 by_cases hj:i = j
 ·subst hj
  rw [if_pos rfl,h,if_pos (gS h).1]
  simp
 ·rw [if_neg hj]
  cases l[j]? <;> simp [hj]
set_option maxHeartbeats 4000000 in
theorem e3g (hP:PuR s lims w0 w p A P) {i:Nat} (hi:i < P.items.length) (kind dare:Int) (hk:InR kind) (hd:InR dare)
  (k:∀ w' p',PuR s lims w0 w' p' (a3y A P i kind dare).2.1 (a3y A P i kind dare).2.2 → PuSt p w p' w' → (p'.pb = p.pb ∧ p'.b = p.b) → K (.int .i64 (a3y A P i kind dare).1) w') :
  a0a Tryz.prog 74 #[.pointer (some ⟨p.pb,0,none⟩),.int .i64 (i:Int),.int .i64 kind,.int .i64 dare] K w:=by
 apply e7a
 unfold g3s
 have hcn:=hP.st.cnt
 have hri:InR (i:Int):=⟨by omega,by omega⟩
 have hall:∀ n ∈ [kind,(i:Int),dare],InR n:=by
  intro n hn
  simp only [List.mem_cons,List.not_mem_nil,or_false] at hn
  rcases hn with rfl | rfl | rfl
  ·exact hk
  ·exact hri
  ·exact hd
 have hrl:=b1u hall (by simp)
 have hPd:=hP.next (.drawn (B:=w.heap.size))
 have hw0:Below w.heap.size w { w with drawn:=w.drawn + 1 }:=.drawn
 refine ⟨Nx { w with drawn:=w.drawn + 1 },bR,rfl,?_⟩
 generalize ({ w with drawn:=w.drawn + 1 }:World) = W1 at hPd hw0 ⊢
 have C:=hPd.st.pur
 have f7:∀ W0,Nx W1 W0 → W0.cell? ⟨p.pb,7,none⟩ = some (jnP p.q):=fun W0 h=>(h.cell C.lt).trans (C.cell 7 (by simp))
 refine Xc (fun W0 hW0=>f7 _ hW0) ?_
 refine ⟨Nx,?_⟩
 refine a7x (fun v w'=>Ints w' v [kind,(i:Int),dare]) (fun v w w1 hS h=>h.next hS) ?_ ?_
 ·intro w2 h2
  exact h1w _ _ _ (a1h hk) (a1h hri) (a1h hd) (fun v w3 h3 hi=>⟨h2.on h3,h3,hi⟩)
 apply a7l
 ·intro w2 h2 v hv
  exact Cd.pNums_ok _ v (hPd.next h2).sys.l.toLaid (a6r hv) hall (by unfold a0t a0n at hrl; omega) (fun w3 h3=>⟨h2.on h3,h3,rfl⟩)
 rintro w2 h2 v1 - _ rfl
 have hw2:=hw0.on h2
 have hP2:=hPd.next h2
 refine b5w hP2.sys hP2.jn ⟨by omega,by omega⟩ (a0t [kind,(i:Int),dare]) (by omega) (fun w3 h3 v3 s3 j3 t3=>?_)
 obtain ⟨hP3,ta⟩:=hP2.jour s3 j3 t3
 have eK:a3y A P i kind dare = if (a0g A 0 P.j (a0t [kind,(i:Int),dare])).1 ≠ 0 then ((a0g A 0 P.j (a0t [kind,(i:Int),dare])).1,(a0g A 0 P.j (a0t [kind,(i:Int),dare])).2.1,⟨(a0g A 0 P.j (a0t [kind,(i:Int),dare])).2.2,P.items⟩)
  else if (a5p (a0g A 0 P.j (a0t [kind,(i:Int),dare])).2.1 0 (a0g A 0 P.j (a0t [kind,(i:Int),dare])).2.2).1 ≠ 0 then ((a5p (a0g A 0 P.j (a0t [kind,(i:Int),dare])).2.1 0 (a0g A 0 P.j (a0t [kind,(i:Int),dare])).2.2).1,(a5p (a0g A 0 P.j (a0t [kind,(i:Int),dare])).2.1 0 (a0g A 0 P.j (a0t [kind,(i:Int),dare])).2.2).2.1,⟨(a5p (a0g A 0 P.j (a0t [kind,(i:Int),dare])).2.1 0 (a0g A 0 P.j (a0t [kind,(i:Int),dare])).2.2).2.2,P.items.modify i fun x=>{ x with dare:=dare,status:=3 }⟩)
  else (0,(a5p (a0g A 0 P.j (a0t [kind,(i:Int),dare])).2.1 0 (a0g A 0 P.j (a0t [kind,(i:Int),dare])).2.2).2.1,⟨(a5p (a0g A 0 P.j (a0t [kind,(i:Int),dare])).2.1 0 (a0g A 0 P.j (a0t [kind,(i:Int),dare])).2.2).2.2,P.items.modify i fun x=>{ x with dare:=dare,status:=1,lent:=decide (kind = 3) }⟩):=rfl
 generalize a0g A 0 P.j (a0t [kind,(i:Int),dare]) = a at *
 have hx:P.items[i]? = some P.items[i]:=gE hi
 rw [modify_set _ hx,modify_set _ hx] at eK
 generalize P.items[i] = x at *
 by_cases he:a.1 = 0
 ·rw [if_neg (by rw [he]; simp)] at eK
  rw [he]
  obtain ⟨g,c,av,yv,kv,hgv,hgl,hH,hI,hJ,hc⟩:=hP3.st.at hx
  simp only at hgv
  have c6:=hP3.st.pur.cell 6 (by simp)
  simp only [List.getElem_cons_zero,List.getElem_cons_succ] at c6
  rw [hgv] at c6
  have hiZ:(i:Int) < P.items.length:=by omega
  refine Xa (An2 @c6 @hiZ) ?_
  refine hP3.st.put1 hP3.mu_lt (y:={ x with dare:=dare }) hx hgv (by omega) a8b rfl rfl (fun _ _ _=>rfl) rfl ⟨hI,a1h hd⟩ (fun w4 st4 t4=>?_)
  have hP4:=hP3.it st4 t4
  have c7:=hP4.st.pur.cell 7 (by simp)
  simp only [List.getElem_cons_zero,List.getElem_cons_succ] at c7
  refine Xa @c7 ?_
  refine e8e hP4.sys hP4.jn (fun w5 h5 s5 j5 t5=>?_)
  obtain ⟨hP5,tb⟩:=hP4.jour s5 j5 t5
  simp only at hP5 eK
  generalize a5p a.2.1 0 a.2.2 = bb at *
  have hx5:(P.items.set i { x with dare:=dare })[i]? = some { x with dare:=dare }:=List.getElem?_set_self hi
  have hlen:(P.items.set i { x with dare:=dare }).length = P.items.length:=List.length_set
  have T:=((PuSt.below hw2).trans ta).trans (t4.st.trans tb)
  by_cases hs:bb.1 = 0
  ·rw [if_neg (by rw [hs]; simp)] at eK
   rw [eK] at k
   rw [hs]
   refine Xa0 ?_
   refine hP5.st.put1 hP5.mu_lt (y:={ x with dare:=dare,status:=1 }) hx5 (by rw [hlen]; exact hgv) (by omega) a8b rfl rfl (fun _ _ _=>rfl) rfl ⟨b8x 1 (by omega),a1h hd⟩ (fun w6 st6 t6=>?_)
   have hP6:=hP5.it st6 t6
   rw [List.set_set] at hP6
   refine Xa0 ?_
   have hx6:(P.items.set i { x with dare:=dare,status:=1 })[i]? = some { x with dare:=dare,status:=1 }:=List.getElem?_set_self hi
   refine hP6.st.put1 hP6.mu_lt (y:={ x with dare:=dare,status:=1,lent:=decide (kind = 3) }) hx6 (by rw [List.length_set]; exact hgv) (by omega) b4j rfl rfl (fun _ _ _=>rfl) rfl ⟨b8x 1 (by omega),a1h hd⟩ (fun w7 st7 t7=>?_)
   have hP7:=hP6.it st7 t7
   rw [List.set_set] at hP7
   refine Xa0 ?_
   exact k w7 _ hP7 (T.trans (t6.st.trans t7.st)) ⟨rfl,rfl⟩
  ·rw [if_pos hs] at eK
   rw [eK] at k
   refine Xa @hs ?_
   refine hP5.st.put1 hP5.mu_lt (y:={ x with dare:=dare,status:=3 }) hx5 (by rw [hlen]; exact hgv) (by omega) a8b rfl rfl (fun _ _ _=>rfl) rfl ⟨b8x 3 (by omega),a1h hd⟩ (fun w6 st6 t6=>?_)
   have hP6:=hP5.it st6 t6
   rw [List.set_set] at hP6
   refine Xa0 ?_
   exact k w6 _ hP6 (T.trans t6.st) ⟨rfl,rfl⟩
 ·rw [if_pos he] at eK
  rw [eK] at k
  have k:=k w3 _ hP3 ((PuSt.below hw2).trans ta) ⟨rfl,rfl⟩
  refine Xa @he ?_
  exact k
theorem c0e (lims:List Lim) (items:List Itm) (limit now:Int):(a0j lims items limit now).2 = 1 ∨ (a0j lims items limit now).2 = 15 ∨ ((a0j lims items limit now).2 = 0 ∧ (a0j lims items limit now).1 < items.length):=by
 unfold a0j
 split
 ·exact .inl rfl
 ·cases h:items.findIdx? (a6w lims limit now) with
  | none=>exact .inr (.inl rfl)
  | some i=>exact .inr (.inr ⟨rfl,(List.findIdx?_eq_some_iff_getElem.1 h).1⟩)
theorem b2h (hP:PuR s lims w0 w p A P) (limit now dare:Int) (hd:InR dare)
  (k:∀ w' p',PuR s lims w0 w' p' (a2l s lims A P limit now dare).2.1 (a2l s lims A P limit now dare).2.2 → PuSt p w p' w' → (p'.pb = p.pb ∧ p'.b = p.b) → K (.tuple #[.int .i64 (a2l s lims A P limit now dare).1.1,.int .i64 (a2l s lims A P limit now dare).1.2]) w') :
  a0a Tryz.prog 28 #[.pointer (some ⟨p.pb,0,none⟩),.int .i64 limit,.int .i64 now,.int .i64 dare] K w:=by
 apply e7b
 unfold g3t
 refine c5o hP.st limit now (fun w1 h1=>?_)
 have hP1:=hP.next h1
 have hcv:=c0e lims P.items limit now
 have eR:a2l s lims A P limit now dare = if (a0j lims P.items limit now).2 = 1 ∨ dare < 1 ∨ s.g.Q ≤ dare then ((0,1),A,P)
  else if (a0j lims P.items limit now).2 ≠ 0 then ((0,(a0j lims P.items limit now).2),A,P)
  else if (a3y A P (a0j lims P.items limit now).1 1 dare).1 ≠ 0 then ((0,(a3y A P (a0j lims P.items limit now).1 1 dare).1),(a3y A P (a0j lims P.items limit now).1 1 dare).2)
  else (((a0j lims P.items limit now).1,0),(a3y A P (a0j lims P.items limit now).1 1 dare).2):=rfl
 generalize a0j lims P.items limit now = c at *
 obtain ⟨i,e⟩:=c
 simp only at *
 have hc1:=hP1.st.pur.cell 1 (by simp)
 simp only [List.getElem_cons_zero,List.getElem_cons_succ] at hc1
 have bad:(e = 1 ∨ dare < 1 ∨ s.g.Q ≤ dare) → K (.tuple #[.int .i64 0,.int .i64 1]) w1:=fun hb=>by
  rw [if_pos hb] at eR
  rw [eR] at k
  exact k w1 p hP1 (PuSt.below h1) ⟨rfl,rfl⟩
 by_cases h1e:e = 1
 ·have bad:=bad (.inl h1e)
  refine Xa @h1e ?_
  exact bad
 by_cases hd1:dare < 1
 ·have bad:=bad (.inr (.inl hd1))
  refine Xa (An2 @h1e @hd1) ?_
  exact bad
 by_cases hd2:s.g.Q ≤ dare
 ·have bad:=bad (.inr (.inr hd2))
  refine Xa (An4 @h1e @hd1 @hd2 @hc1) ?_
  exact bad
 rw [if_neg (by omega)] at eR
 refine Xa (An4 @h1e @hd1 @hd2 @hc1) ?_
 by_cases h0:e = 0
 ·subst h0
  rw [if_neg (by simp)] at eR
  have hi:i < P.items.length:=by omega
  refine ⟨fun l W=>∃ p',l.getD 0 undef = .int .i64 (a3y A P i 1 dare).1 ∧ PuR s lims w0 W p' (a3y A P i 1 dare).2.1 (a3y A P i 1 dare).2.2 ∧ PuSt p w p' W ∧ (p'.pb = p.pb ∧ p'.b = p.b),?_,?_⟩
  ·refine Xa0 ?_
   refine e3g hP1 hi 1 dare ⟨by omega,by omega⟩ hd (fun w2 p2 a b c=>?_)
   refine Xa0 ?_
   exact ⟨p2,rfl,a,(PuSt.below h1).trans b,c⟩
  ·rintro l u W ⟨p2,hl,a,b,c⟩
   rw [hl]
   by_cases he:(a3y A P i 1 dare).1 = 0
   ·rw [if_neg (by rw [he]; simp)] at eR
    rw [eR] at k
    have k:=k W p2 a b c
    refine Xa @he ?_
    exact k
   ·rw [if_pos he] at eR
    rw [eR] at k
    have k:=k W p2 a b c
    refine Xa @he ?_
    exact k
 ·rw [if_pos h0] at eR
  rw [eR] at k
  refine ⟨fun l W=>W = w1 ∧ l.getD 0 undef = .int .i64 e,?_,?_⟩
  ·refine Xa @h0 ?_
   exact ⟨rfl,rfl⟩
  ·rintro l u W ⟨rfl,hl⟩
   rw [hl]
   have k:=k W p hP1 (PuSt.below h1) ⟨rfl,rfl⟩
   refine Xa @h0 ?_
   exact k
theorem b0k (w:World):(Instr.alloc 84 true (.tuple #[])).run Tryz.prog w = .ok (.pointer (some ⟨w.heap.size,0,none⟩)) (w.alloc (.cells [.int .i64 0,.slice none 0 0].toArray 84)):=by kernel_rfl
theorem d1c (w:World):(Instr.alloc 67 true (.tuple #[])).run Tryz.prog w = .ok (.pointer (some ⟨w.heap.size,0,none⟩)) (w.alloc (.cells itmZ.toArray 67)):=by kernel_rfl
theorem c5p (w:World):(sizeOf 67).run Tryz.prog w = .ok 18 w:=by kernel_rfl
theorem a9f (w:World):(sizeOf 84).run Tryz.prog w = .ok 2 w:=by kernel_rfl
theorem a7j:Tryz.prog.underlying 84 = some ((Tryz.prog.underlying 84).getD default):=by kernel_rfl
theorem a6n (d:Int) (ad:Option Addr) (n c:Nat):∀ u ∈ ([.int .i64 d,.slice ad n c]:List Value),u.oneCell' = true:=by
 intro u hu
 simp only [List.mem_cons,List.not_mem_nil,or_false] at hu
 rcases hu with rfl | rfl <;> rfl
@[reducible] def c5u (s:Stp) (x:Itm):Spd × Bool:=b7s s x.held.attrs x.held.bl x.dare
set_option maxHeartbeats 4000000 in
theorem f7j (hP:StR s lims w p items) {i:Nat} {x:Itm} (hx:items[i]? = some x) (k:∀ w' ov,Bw w w' → Fresh w w' (fun W=>Ints W ov (c5u s x).1.answers) → K (.agg #[.int .i64 (c5u s x).1.dare,ov]) w') :
  a0a Tryz.prog 91 #[.pointer (some ⟨p.pb,0,none⟩),.int .i64 (i:Int)] K w:=by
 apply e7c
 unfold g3u
 refine a0i b0k (fun g4 w1 h1 hg4 hH4=>?_)
 have hP1:=hP.next h1
 obtain ⟨g,c,av,yv,kv,hgv,hgl,hH,hI,hJ,hc⟩:=hP1.at hx
 obtain ⟨a1,n1,d1,a2,n2,d2,a3,n3,d3,rfl,rfl,rfl⟩:=a0y hH
 have c6:=hP1.pur.cell 6 (by simp)
 simp only [List.getElem_cons_zero,List.getElem_cons_succ] at c6
 rw [hgv] at c6
 have hil:=(gS hx).1
 have hiZ:(i:Int) < items.length:=by omega
 refine Xb4 (An2 @c6 @hiZ) ?_
 refine Xb1 @hiZ ?_
 refine a1t (cs:=b3m x (.slice a1 n1 d1) (.slice a2 n2 d2) (.slice a3 n3 d3)) hc b4r (by kernel_rfl) (by kernel_rfl) ?_
 refine a0i d1c (fun g5 w5 h5 hg5 hH5=>?_)
 refine a0h c5p rfl rfl (b2g _ _ _ _ _ _ _ _ _ _ _ _ _ _ _ _ _ _ _ _ _ _ _ _) hH5 rfl (fun w6 hg6 hH6=>?_)
 have hs1:=h1.size
 have hs5:=h5.size
 have hs6:=hg6.size
 have h16:Bw w1 w6:=h5.grown hg6 (by omega) (fun j e=>by cases e; omega)
 have hPd:=(hP1.next h16).next (.drawn (B:=w6.heap.size))
 have hH6:=hH6.next (.drawn (B:=w6.heap.size))
 have hH4:=(hH4.next h16).next (.drawn (B:=w6.heap.size))
 have hHd:=(hH.next h16).next (.drawn (B:=w6.heap.size))
 have hw:=(h1.on h16).on (.drawn (B:=w6.heap.size))
 refine ⟨Nx { w6 with drawn:=w6.drawn + 1 },bR,?_⟩
 generalize ({ w6 with drawn:=w6.drawn + 1 }:World) = W7 at hPd hH6 hH4 hHd hw ⊢
 obtain ⟨bvad,bvc,hbv⟩:=hPd.set.ints.isSlice
 have C:=hPd.pur
 unfold puC at C
 rw [hbv] at C
 have e0:∀ W0,Nx W7 W0 → W0.cell? ⟨p.pb,0,none⟩ = some (.int .i64 s.g.P) ∧ W0.cell? ⟨p.pb,1,none⟩ = some (.int .i64 s.g.Q) ∧ W0.cell? ⟨p.pb,2,none⟩ = some (.int .i64 s.g.G) ∧ W0.cell? ⟨p.pb,3,none⟩ = some (.slice bvad s.bases.length bvc) ∧ W0.cell? ⟨p.pb,4,none⟩ = some (.int .i64 s.blind):=fun W0 h=>⟨(h.cell C.lt).trans (C.cell 0 (by simp)),(h.cell C.lt).trans (C.cell 1 (by simp)),(h.cell C.lt).trans (C.cell 2 (by simp)),(h.cell C.lt).trans (C.cell 3 (by simp)),(h.cell C.lt).trans (C.cell 4 (by simp))⟩
 have e1:∀ W0,Nx W7 W0 → W0.cell? ⟨g5,2,none⟩ = some (.slice a1 n1 d1) ∧ W0.cell? ⟨g5,3,none⟩ = some (.int .i64 x.held.bl.s) ∧ W0.cell? ⟨g5,4,none⟩ = some (.int .i64 x.held.bl.u) ∧ W0.cell? ⟨g5,5,none⟩ = some (.int .i64 x.held.bl.v) ∧ W0.cell? ⟨g5,6,none⟩ = some (.slice a2 n2 d2) ∧ W0.cell? ⟨g5,15,none⟩ = some (.int .i64 x.dare):=fun W0 h=>⟨(h.cell hH6.lt).trans (hH6.cell 2 (by simp)),(h.cell hH6.lt).trans (hH6.cell 3 (by simp)),(h.cell hH6.lt).trans (hH6.cell 4 (by simp)),(h.cell hH6.lt).trans (hH6.cell 5 (by simp)),(h.cell hH6.lt).trans (hH6.cell 6 (by simp)),(h.cell hH6.lt).trans (hH6.cell 15 (by simp))⟩
 have hS:=hPd.set
 rw [hbv] at hS
 have hBl:BldR W7 x.held.bl (.slice a2 n2 d2):=⟨a1h hHd.wf.s,a1h hHd.wf.u,a1h hHd.wf.v,hHd.ys⟩
 have h4l:=hH4.lt
 have fin:∀ (W:World) (ov:Value) (g9:Nat),Nx W7 W → W7.heap.size ≤ g9 → Holds W g9 84 [.int .i64 (c5u s x).1.dare,ov] → Ints W ov (c5u s x).1.answers → (∀ i,Value.inBlock ov = some i → W7.heap.size ≤ i) → Nx W7 W ∧ oM Tryz.prog (Go.Op.load 84 (.tmp 0)) 84 [.pointer (some ⟨g9,0,none⟩)] (fun v33 w=>oM Tryz.prog (Go.Op.store 84 (.tmp 0) (.tmp 1)) 0 [.pointer (some ⟨g4,0,none⟩),v33] (fun _ w=>∃ r,(do loadVar 84 (← asAddr (.pointer (some ⟨g4,0,none⟩))):Sem Value).run Tryz.prog w = .ok r w ∧ K r w) w) W:=fun W ov g9 h hg9 hH hov hovB=>by
  refine ⟨h,?_⟩
  obtain ⟨oa,oc,rfl⟩:=hov.isSlice
  refine a1s hH a7j (by kernel_rfl) (by kernel_rfl) ?_
  have hg4w:g4 < W.heap.size:=lL h4l h.size
  refine a0h a9f rfl rfl (a6n _ _ _ _) (hH4.next h) rfl (fun w12 hg12 hH12=>?_)
  refine a4s hH12 a7j (by kernel_rfl) (by kernel_rfl) ?_
  refine k w12 _ ((hw.on h).grown hg12 (by have:=hw.size; have:=h.size; omega) (fun j e=>by cases e; exact hg4)) ?_
  have hws:=hw.size
  exact (hov.fp.fr (Fr.of_by hg12) (fun j hj=>⟨hj.2,fun e=>by have:=hovB j hj.1; omega⟩)).mono (fun j hj=>⟨by have:=hovB j hj.1; omega,by have:=hj.2; have:=hg12.size; omega⟩)
 refine Xc (fun W0 hW0=>An2 (e0 _ hW0) (e1 _ hW0)) ?_
 refine ⟨?_,?_⟩
 ·refine f7d s x.held.bl x.dare hJ hS hHd.attrs hBl (fun w8 ov h8 hov hvB=>⟨h8,?_⟩)
  iterate 3 (any_goals (first
  | (with_reducible refine pX ?_)
  | ((with_reducible refine b0z ?_); (with_reducible refine a1z ⟨_,rfl⟩ (fun W0 hW0=>by (refine oG (fun X Y=>?_)); simp [go_sem,e0 _ hW0]; (first | exact Y _ _ ⟨rfl,rfl⟩ | exact ⟨by omega,Y _ _ ⟨rfl,rfl⟩⟩)) ?_))))
  refine a0i b0k (fun g9 w9 h9 hg9 hH9=>⟨h8.on h9,?_⟩)
  obtain ⟨oa,oc,rfl⟩:=hov.isSlice
  refine a0h (xs:=[.int .i64 (c5u s x).1.dare,.slice oa (c5u s x).1.answers.length oc]) a9f rfl rfl (a6n _ _ _ _) hH9 rfl (fun w10 hg10 hH10=>?_)
  have h8s:=h8.size
  have h10:=a0k h9 hg10 hg9
  exact ⟨h8.on h10,fin w10 _ g9 (h8.on h10) (by omega) hH10 (hov.next h10) hvB⟩
 ·refine a0i b0k (fun g9 w9 h9 hg9 hH9=>⟨h9,?_⟩)
  refine f7d s x.held.bl x.dare hJ (hS.next h9) (hHd.attrs.next h9) (hBl.next h9) (fun w8 ov h8 hov hvB=>⟨h9.on h8,?_⟩)
  refine Xc (fun W0 hW0=>e0 _ hW0) ?_
  obtain ⟨oa,oc,rfl⟩:=hov.isSlice
  have h9l:=hH9.lt
  refine a0h (xs:=[.int .i64 (c5u s x).1.dare,.slice oa (c5u s x).1.answers.length oc]) a9f rfl rfl (a6n _ _ _ _) (hH9.next h8) rfl (fun w10 hg10 hH10=>?_)
  have h9s:=h9.size
  have h710:Nx W7 w10:=(h9.on h8).grown hg10 (by have:=(h9.on h8).size; omega) (fun j e=>by cases e; exact hg9)
  exact ⟨h710,fin w10 _ g9 h710 hg9 hH10 (hov.fp.fr (Fr.of_by hg10) (fun j hj=>⟨hj.2,fun e=>by have:=hvB j hj.1; omega⟩)).here (fun j hj=>by have:=hvB j hj; omega)⟩
theorem e3h (hP:StR s lims w p items) (i:Int) (k0:(i < 0 ∨ (items.length:Int) ≤ i) → K (.tuple #[.pointer none,.bool false]) w)
  (k1:∀ g c,0 ≤ i → i < items.length → p.iv = .slice (some ⟨g,0,none⟩) items.length c → K (.tuple #[.pointer (some ⟨g,i.toNat * 18,none⟩),.bool true]) w) :
  a0a Tryz.prog 107 #[.pointer (some ⟨p.pb,0,none⟩),.int .i64 i] K w:=by
 apply d6y
 unfold f5c
 obtain ⟨iad,ic,hiv⟩:=hP.items.isSlice
 have c6:=hP.pur.cell 6 (by simp)
 simp only [List.getElem_cons_zero,List.getElem_cons_succ] at c6
 rw [hiv] at c6
 by_cases h0:i < 0
 ·have k0:=k0 (.inl h0)
  refine Xa @h0 ?_
  exact k0
 by_cases h1:(items.length:Int) ≤ i
 ·have k0:=k0 (.inr h1)
  refine Xa (An3 @h0 @h1 @c6) ?_
  exact k0
 obtain ⟨g,c,av,yv,kv,hgv,_⟩:=hP.at (gE (show i.toNat < items.length by omega))
 rw [hiv] at hgv
 cases hgv
 have h0':0 ≤ i:=by omega
 have h1':i < items.length:=by omega
 have k1:=k1 g _ h0' h1' hiv
 refine Xa (An5 @h0 @h1 @h0' @h1' @c6) ?_
 exact k1
def a9g (s:Stp) (items:List Itm) (i:Int):Spd × Int:=
 if i < 0 then (⟨0,[]⟩,4)
 else match items[i.toNat]? with
  | none=>(⟨0,[]⟩,4)
  | some x=>if x.status = 1 ∨ x.status = 2 then ((c5u s x).1,0) else (⟨0,[]⟩,7)
theorem b8b (hP:StR s lims w p items) (i:Int) (k:∀ w' ov,Bw w w' → Fresh w w' (fun W=>Ints W ov (a9g s items i).1.answers) → K (.tuple #[.agg #[.int .i64 (a9g s items i).1.dare,ov],.int .i64 (a9g s items i).2]) w') :
  a0a Tryz.prog 55 #[.pointer (some ⟨p.pb,0,none⟩),.int .i64 i] K w:=by
 apply e7d
 unfold g3v
 refine a0i b0k (fun g4 w1 h1 hg4 hH4=>?_)
 have hP1:=hP.next h1
 have k2:∀ r,a9g s items i = r → ∀ w' ov,Bw w w' → Fresh w w' (fun W=>Ints W ov r.1.answers) → K (.tuple #[.agg #[.int .i64 r.1.dare,ov],.int .i64 r.2]) w':=fun r e=>by rw [← e]; exact k
 unfold a9g at k2
 clear k
 have zero:∀ e,(∀ w' ov,Bw w w' → Fresh w w' (fun W=>Ints W ov []) → K (.tuple #[.agg #[.int .i64 0,ov],.int .i64 e]) w') →
   oM Tryz.prog (Go.Op.store 84 (.tmp 0) (.tmp 1)) 0 [.pointer (some ⟨g4,0,none⟩),.agg #[.int .i64 0,.slice none 0 0]] (fun _ w=>∃ r,(do loadVar 84 (← asAddr (.pointer (some ⟨g4,0,none⟩))):Sem Value).run Tryz.prog w = .ok r w ∧ K (.tuple #[r,.int .i64 e]) w) w1:=fun e k=>by
  refine a0h a9f rfl rfl (a6n 0 none 0 0) hH4 rfl (fun w2 hg2 hH2=>?_)
  refine a4s hH2 a7j (by kernel_rfl) (by kernel_rfl) ?_
  exact k w2 _ (h1.grown hg2 h1.size (fun j e=>by cases e; exact hg4)) (fun _ _ _ _ _ _=>Ints.nil _)
 refine e3h hP1 i (fun hb=>?_) (fun g c h0 hl hgv=>?_)
 ·have e:(if i < 0 then ((⟨0,[]⟩:Spd),(4:Int)) else match items[i.toNat]? with
   | none=>(⟨0,[]⟩,4)
   | some x=>if x.status = 1 ∨ x.status = 2 then ((c5u s x).1,0) else (⟨0,[]⟩,7)) = (⟨0,[]⟩,4):=by
   rcases hb with hb | hb
   ·rw [if_pos hb]
   ·rw [if_neg (by omega),List.getElem?_eq_none (by omega)]
  have k:=zero 4 (k2 _ e)
  refine Xa0 ?_
  exact k
 ·have hx:items[i.toNat]? = some items[i.toNat]:=gE (by omega)
  rw [if_neg (by omega),hx] at k2
  simp only at k2
  generalize items[i.toNat] = x at *
  obtain ⟨g',c',av,yv,kv,hgv',hgl,hH,hI,hJ,hc⟩:=hP1.at hx
  rw [hgv] at hgv'
  cases hgv'
  have c14:=hc 14 _ rfl
  by_cases hs:x.status = 1 ∨ x.status = 2
  ·rw [if_pos hs] at k2
   have k:=k2 _ rfl
   have tail:a0a Tryz.prog 91 #[.pointer (some ⟨p.pb,0,none⟩),.int .i64 i] (fun v34 w=>oM Tryz.prog (Go.Op.store 84 (.tmp 0) (.tmp 1)) 0 [.pointer (some ⟨g4,0,none⟩),v34] (fun _ w=>∃ r,(do loadVar 84 (← asAddr (.pointer (some ⟨g4,0,none⟩))):Sem Value).run Tryz.prog w = .ok r w ∧ K (.tuple #[r,.int .i64 0]) w) w) w1:=by
    have ei:(i.toNat:Int) = i:=by omega
    rw [← ei]
    refine f7j hP1 hx (fun w2 ov h2 hF=>?_)
    obtain ⟨oa,oc,rfl⟩:=hF.here.isSlice
    have h4l:=hH4.lt
    refine a0h a9f rfl rfl (a6n _ _ _ _) (hH4.next h2) rfl (fun w3 hg3 hH3=>?_)
    refine a4s hH3 a7j (by kernel_rfl) (by kernel_rfl) ?_
    have h12:=h1.on h2
    exact k w3 _ (h12.grown hg3 (by have:=h12.size; omega) (fun j e=>by cases e; exact hg4)) ((FP.fr hF (Fr.of_by hg3) (fun j hj=>⟨hj.2,fun e=>by omega⟩)).mono (fun j hj=>⟨by have:=h1.size; omega,by have:=hg3.size; omega⟩))
   by_cases h1s:x.status = 1
   ·refine Xa (An2 @c14 @h1s) ?_
    exact tail
   ·have h2s:x.status = 2:=hs.resolve_left h1s
    refine Xa (An3 @c14 @h1s @h2s) ?_
    exact tail
  ·rw [if_neg hs] at k2
   have k:=zero 7 (k2 _ rfl)
   have h1s:¬ x.status = 1:=fun e=>hs (.inl e)
   have h2s:¬ x.status = 2:=fun e=>hs (.inr e)
   refine Xa (An3 @c14 @h1s @h2s) ?_
   exact k
theorem f2g (hP:StR s lims w p items) (limit now:Int) (k:∀ w',Bw w w' → K (.int .i64 (e9j lims items limit now)) w') :
  a0a Tryz.prog 27 #[.pointer (some ⟨p.pb,0,none⟩),.int .i64 limit,.int .i64 now] K w:=by
 apply e7g
 unfold g3y
 obtain ⟨lvad,lvc,hlv⟩:=hP.lim.isSlice
 obtain ⟨ivad,ivc,hiv⟩:=hP.items.isSlice
 have C:=hP.pur
 unfold puC at C
 rw [hlv,hiv] at C
 have c5:=C.cell 5 (by simp)
 have c6:=C.cell 6 (by simp)
 simp only [List.getElem_cons_zero,List.getElem_cons_succ] at c5 c6
 have eL:e9j lims items limit now = if decide (limit < 0) || decide ((lims.length:Int) ≤ limit) || !a6g now then 0 else ((items.filter (a6w lims limit now)).length:Int):=rfl
 rw [eL] at k
 clear eL
 by_cases hl0:limit < 0
 ·rw [if_pos (by simp [hl0])] at k
  have k:=k _ (bR)
  refine Xa @hl0 ?_
  exact k
 by_cases hl1:(lims.length:Int) ≤ limit
 ·rw [if_pos (by simp [hl1])] at k
  have k:=k _ (bR)
  refine Xa (An3 @hl0 @hl1 @c5) ?_
  exact k
 refine Xa (An3 @hl0 @hl1 @c5) ?_
 refine a5y now ?_
 cases ht:a6g now with
 | false=>
  rw [if_pos (by simp [ht])] at k
  have k:=k _ (bR)
  refine Xa0 ?_
  exact k
 | true=>
 rw [if_neg (by simp [hl0,hl1,ht])] at k
 refine Xa @c6 ?_
 have hcn:=hP.cnt
 refine ⟨fun vs W=>∃ (i:Nat),vs = [.int .i64 (((items.take i).filter (a6w lims limit now)).length:Int),.int .i64 (i:Int)] ∧ i ≤ items.length ∧ Nx w W,
  (fun vs _=>match vs with | [_,.int _ i]=>items.length - i.toNat | _=>0),⟨0,rfl,by omega,bR⟩,?_⟩
 rintro _ _ w2 ⟨i,rfl,hi,h2⟩
 by_cases hin:i = items.length
 ·subst hin
  rw [List.take_length]
  have k:=k _ h2
  refine Xa0 ?_
  exact k
 ·have hil:i < items.length:=by omega
  have hiZ:(i:Int) < items.length:=by omega
  have hx:=gE hil
  have hP2:=hP.next h2
  obtain ⟨g,c,av,yv,kv,hgv,hgl,hH,hI,hJ,hc⟩:=hP2.at hx
  obtain ⟨a1,n1,d1,a2,n2,d2,a3,n3,d3,rfl,rfl,rfl⟩:=a0y hH
  rw [hiv] at hgv
  cases hgv
  have hfl:((items.take (i + 1)).filter (a6w lims limit now)).length = ((items.take i).filter (a6w lims limit now)).length + (if a6w lims limit now items[i] then 1 else 0):=by
   rw [List.take_succ_eq_append_getElem hil,List.filter_append,List.length_append]
   cases hf:a6w lims limit now items[i] <;> simp [hf]
  have hfb:((items.take i).filter (a6w lims limit now)).length ≤ 400:=by
   have:=List.length_filter_le (a6w lims limit now) (items.take i)
   rw [List.length_take] at this
   omega
  generalize items[i] = x at *
  refine Xa @hiZ ?_
  refine ⟨fun l W=>l.getD 0 undef = .int .i64 (((items.take (i + 1)).filter (a6w lims limit now)).length:Int) ∧ Nx w W,?_,?_⟩
  ·refine Xa @hiZ ?_
   refine a1t (cs:=b3m x (.slice a1 n1 d1) (.slice a2 n2 d2) (.slice a3 n3 d3)) hc b4r (by kernel_rfl) (by kernel_rfl) ?_
   refine a0i d1c (fun g5 w5 h5 hg5 hH5=>?_)
   refine a0h c5p rfl rfl (b2g _ _ _ _ _ _ _ _ _ _ _ _ _ _ _ _ _ _ _ _ _ _ _ _) hH5 rfl (fun w6 hg6 hH6=>?_)
   refine a1s hH6 b4r (by kernel_rfl) (by kernel_rfl) ?_
   have h6:Bw w2 w6:=a0k h5 hg6 hg5
   refine e3f (hP2.next h6) x (hH.next h6) now (by omega) (by omega) (fun w7 h7=>?_)
   have h27:=h2.on (h6.on h7)
   cases hf:a6w lims limit now x with
   | false=>
    rw [hf] at hfl
    simp only [Bool.false_eq_true,if_false,Nat.add_zero] at hfl
    refine Xa0 ?_
    exact ⟨by rw [hfl]; rfl,h27⟩
   | true=>
    rw [hf] at hfl
    simp only [if_true] at hfl
    refine Xa0 ?_
    exact ⟨by rw [hfl]; rfl,h27⟩
  ·rintro l u W ⟨hl,hW⟩
   rw [hl]
   refine Xa0 ?_
   exact ⟨⟨i + 1,rfl,by omega,hW⟩,by show items.length - (((i + 1:Nat):Int)).toNat < items.length - ((i:Nat):Int).toNat; omega⟩
end
abbrev SlP:=Option Addr × Nat × Nat
@[reducible] def slV (y:SlP):Value:=.slice y.1 y.2.1 y.2.2
abbrev ItP:=Itm × SlP × SlP × SlP
@[reducible] def f2h (y:ItP):List Value:=b3m y.1 (slV y.2.1) (slV y.2.2.1) (slV y.2.2.2)
@[reducible] def g1l (w:World) (y:ItP):Prop:=HldR w y.1.held (slV y.2.1) (slV y.2.2.1) (slV y.2.2.2)
section
variable {K:VK} {w w' w0 W W':World} {L:List (Addr × Value)} {rb b:Nat} {s:Stp} {lims:List Lim} {p p':Ph} {items items':List Itm} {A:Ab} {P:Pst} {h:Dk}
def c0f (h:Hld):Prop:=h.attrs.length < 1099511627776 ∧ h.bl.ys.length < 1099511627776 ∧ h.links.length < 1000 ∧ ∀ y ∈ h.links,y.spend.answers.length < 1099511627776
theorem f2i (c:List Value) (x:Itm) (h:c5e w c x):∃ y:ItP,c = f2h y ∧ y.1 = x ∧ (g1l w y ∧ I64 y.1.status ∧ I64 y.1.dare):=by
 obtain ⟨av,yv,lv,rfl,h1,h2⟩:=h
 obtain ⟨a1,n1,d1,a2,n2,d2,a3,n3,d3,rfl,rfl,rfl⟩:=a0y h1
 exact ⟨(x,(a1,n1,d1),(a2,n2,d2),(a3,n3,d3)),rfl,rfl,h1,h2⟩
def GIt (B:Nat) (w:World) (v:Value) (ys:List ItP):Prop:=GRow 18 67 (fun _ c y=>c = f2h y) B (fun _=>False) w v ys
theorem c8n {v:Value} {l:List Itm} (hr:SRow 18 (b3o 18 c5e) w v l) (hl:l.length < 1000) (k:∀ v' w' ys,ys.map (fun y:ItP=>y.1) = l → (∀ y ∈ ys,g1l w y ∧ I64 y.1.status ∧ I64 y.1.dare) → GIt w.heap.size w' v' ys → Bw w w' → K v' w'):a0a Tryz.prog 70 #[v] K w:=by
 apply e7e
 unfold g3w
 obtain ⟨ad,c,rfl⟩:=hr.isSlice
 refine b3i (e:=67) (by kernel_rfl) ?_
 cases ad with
 | none=>
  have:l = []:=by
   obtain ⟨⟨a',c',hv,h⟩,_⟩:=hr
   cases hv
   rcases h with h | ⟨b,o,hb,_⟩
   ·exact h
   ·cases hb
  subst this
  simp only [Option.isNone_none]
  refine Xa0 ?_
  exact k _ _ [] rfl (fun _ h=>by cases h) .nil (bR)
 | some a=>
  simp only [Option.isNone_some]
  obtain ⟨ys,rfl,hq,hi⟩:=hr.rowR (mk:=f2h) (f:=fun y:ItP=>y.1) (Q:=fun w y=>g1l w y ∧ I64 y.1.status ∧ I64 y.1.dare) (fun _=>rfl) (fun c x h=>f2i c x h)
  refine Xa0 ?_
  have hr2:RowR f2h 18 (w.alloc (.cells #[] 67)) _ ys:=hi.keep (by rw [a0q]; omega) (fun i _ hi=>heap_alloc_old _ _ hi)
  rw [List.length_map] at hl hr2 ⊢
  refine b3f 59 59 67 ((Tryz.prog.info? 67).getD default) (.agg itmZ.toArray) 18 184 (by kernel_rfl) (by kernel_rfl) (by kernel_rfl) (by kernel_rfl) (by kernel_rfl) (by kernel_rfl) (by omega) (fun _=>rfl) (fun x=>b2g _ _ _ _ _ _ _ _ _ _ _ _ _ _ _ _ _ _ _ _ _ _ _ _) hr2 (World.ownsRow_lit w #[] 0 (Nat.zero_le _) (Nat.zero_le _) rfl) (B:=w.heap.size) (by rw [a0q]; omega) (fun i hi=>by cases hi; exact rL) (by omega) (by omega) ?_
  intro v' w' ho hg hv
  refine k v' w' ys rfl hq (c2d (fun _=>rfl) (a7w ho hv)) ?_
  exact a0k ((Below.refl _ w).alloc (rL) _) hg (rL)
set_option maxHeartbeats 2000000 in
theorem e3i (hP:StR s lims w p items) (hsm:∀ x ∈ items,c0f x.held) (k:∀ w' v B,Bw w w' → GRow 18 67 c5e w.heap.size (fun j=>B ≤ j ∧ j < w'.heap.size) w' v items → w.heap.size ≤ B → (∀ j,v.ownBlock = some j → w.heap.size ≤ j ∧ j < B) → K v w') :
  a0a Tryz.prog 26 #[.pointer (some ⟨p.pb,0,none⟩)] K w:=by
 apply e7f
 unfold g3x
 obtain ⟨ivad,ivc,hiv⟩:=hP.items.isSlice
 have c6:=hP.pur.cell 6 (by simp)
 simp only [List.getElem_cons_zero,List.getElem_cons_succ] at c6
 rw [hiv] at c6
 have hcn:=hP.cnt
 refine Xa @c6 ?_
 have hit:=hP.items
 rw [hiv] at hit
 refine c8n hit (by omega) (fun v w1 ys he hq hG h1=>?_)
 have hyl:ys.length = items.length:=by rw [← he,List.length_map]
 have hGo:∀ i,v.ownBlock = some i → w.heap.size ≤ i ∧ i < w1.heap.size:=fun i hi=>by have:=GRow.own hG hi; omega
 obtain ⟨d3,e3,hv3⟩:∃ ad c,v = .slice ad ys.length c:=GRow.isSlice hG
 rw [hyl] at hv3
 subst hv3
 refine Xa0 ?_
 generalize hv3:Value.slice d3 items.length e3 = v3 at *
 refine ⟨fun vs W=>∃ (u:Value) (i:Nat) (zs:List ItP),vs = [u,.int .i64 (i:Int)] ∧ i ≤ items.length ∧ GIt w.heap.size W v3 zs ∧ zs.map (fun y:ItP=>y.1) = items ∧ zs.drop i = ys.drop i ∧ Fr (fun j=>v3.ownBlock = some j) w1 W ∧ (∀ y ∈ zs.take i,FP (fun j=>w1.heap.size ≤ j ∧ j < W.heap.size) W (fun W=>g1l W y)),
  (fun vs _=>match vs with | [_,.int _ i]=>items.length - i.toNat | _=>0),⟨_,0,ys,rfl,by omega,hG,he,rfl,Fr.refl _ _,by simp⟩,?_⟩
 rintro _ _ w2 ⟨u,i,zs,rfl,hi,hGz,hz,hd,f2,hfz⟩
 have hs1:=h1.size
 have hs2:=f2.size
 have hzl:zs.length = items.length:=by rw [← hz,List.length_map]
 have hb02:Bw w w2:=⟨f2.os.trans h1.os,f2.tape.trans h1.tape,f2.output.trans h1.output,by omega,fun i hi=>(f2.block i (by omega) (fun e=>by have:=hGo _ e; omega)).trans (h1.block i hi)⟩
 have hwI:∀ y ∈ zs,I64 y.1.status ∧ I64 y.1.dare:=fun y hy=>by
  have:y.1 ∈ items:=by rw [← hz]; exact List.mem_map_of_mem hy
  rw [← he] at this
  obtain ⟨y2,hy2,e⟩:=List.mem_map.1 this
  rw [← e]
  exact (hq y2 hy2).2
 by_cases hin:i = items.length
 ·subst hin
  rw [← hzl,List.take_length] at hfz
  have p3:FP (fun j=>w1.heap.size ≤ j ∧ j < w2.heap.size) w2 (fun W=>∀ y ∈ zs,c5e W (f2h y) y.1):=fun w' a b c d e y hy=>⟨_,_,_,rfl,hfz y hy w' a b c d e,hwI y hy⟩
  have hGl:=GRow.conv (V:=c5e) (f:=fun y:ItP=>y.1) hGz p3
  rw [hz] at hGl
  have k:=k w2 v3 w1.heap.size hb02 hGl hs1 hGo
  refine Xa0 ?_
  exact k
 ·have hil:i < items.length:=by omega
  have hiZ:(i:Int) < items.length:=by omega
  have hzi:i < zs.length:=by omega
  have hyi:i < ys.length:=by omega
  have ezy:zs[i] = ys[i]:=by
   have:=congrArg (fun l=>l[0]?) hd
   simp only [List.getElem?_drop,Nat.add_zero] at this
   rw [gE hzi,gE hyi] at this
   exact oI this
  have hq0:=(hq ys[i] (List.getElem_mem hyi)).1
  rw [← ezy] at hq0
  obtain ⟨g,c,cs,hvg,hgl,hgB,hcl,hcc,hVc⟩:=GRow.elem hGz (gE hzi)
  have hcs:=hVc.here
  subst hcs
  rw [hzl] at hvg
  subst hvg
  have hgw:=(hGo g rfl).2
  refine Xa @hiZ ?_
  refine a1t hcc b4r (by kernel_rfl) (by kernel_rfl) ?_
  refine a0i d1c (fun g5 w5 h5 hg5 hH5=>?_)
  have hH5l:=hH5.lt
  refine a0h (xs:=f2h zs[i]) c5p rfl rfl (b2g _ _ _ _ _ _ _ _ _ _ _ _ _ _ _ _ _ _ _ _ _ _ _ _) hH5 rfl (fun w6 hg6 hH6=>?_)
  have hs5:=h5.size
  have hs6:=hg6.size
  have h26:Bw w2 w6:=a0k h5 hg6 hg5
  refine a7z ?_
  refine a1t (cs:=b7y zs[i].1.held (slV zs[i].2.1) (slV zs[i].2.2.1) (slV zs[i].2.2.2)) (p:=0) (fun j u hj=>?_) a8o (by kernel_rfl) (by kernel_rfl) ?_
  ·have hj2:(f2h zs[i])[j]? = some u:=by
    have hjl:=(gS hj).1
    have:f2h zs[i] = b7y zs[i].1.held (slV zs[i].2.1) (slV zs[i].2.2.1) (slV zs[i].2.2.2) ++ [.int .i64 zs[i].1.status,.int .i64 zs[i].1.dare,.bool zs[i].1.lent,.bool zs[i].1.back]:=rfl
    rw [this,List.getElem?_append_left hjl]
    exact hj
   obtain ⟨hj3,rfl⟩:=gS hj2
   rw [Nat.zero_add]
   exact hH6.cell j hj3
  have hsx:=hsm zs[i].1 (by rw [← hz]; exact List.mem_map_of_mem (List.getElem_mem hzi))
  refine d1a zs[i].1.held (hq0.next (hb02.on h26)) hsx.1 hsx.2.1 hsx.2.2.1 hsx.2.2.2 (fun w7 av' yv' kv' h7 hF=>?_)
  obtain ⟨a1,n1,d1,a2,n2,d2,a3,n3,d4,rfl,rfl,rfl⟩:=a0y hF.here
  have h27:=h26.on h7
  have hs7:=h7.size
  have hG7:GIt w.heap.size w7 _ zs:=GRow.next hGz h27 (fun _ h=>h.elim)
  unfold GIt at hG7
  rw [← hzl] at hG7
  refine Xa @hiZ ?_
  have hx0:=gE hzi
  generalize hY:((zs[i].1,(a1,n1,d1),(a2,n2,d2),(a3,n3,d4)):ItP) = Y
  have hYc:f2h Y = b3m zs[i].1 (.slice a1 n1 d1) (.slice a2 n2 d2) (.slice a3 n3 d4):=by rw [← hY]
  have hYh:g1l w7 Y ∧ Y.1 = zs[i].1:=by rw [← hY]; exact ⟨hF.here,rfl⟩
  refine GRow.put (n:=18) (off:=0) (m:=14) (i:=i) (xs:=b7y zs[i].1.held (.slice a1 n1 d1) (.slice a2 n2 d2) (.slice a3 n3 d4)) (y:=Y) hG7 hx0 (by omega) b1n rfl rfl (a8a _ _ _ _ _ _ _ _ _ _ _ _ _ _ _ _ _ _ _ _) (fun _ h=>h.elim) (fun cs _ _ h=>h.imp (fun W e=>by subst e; rw [hYc]; rfl)) (fun w8 hg8 hG8=>?_)
  have hs8:=hg8.size
  have f8:Fr (fun j=>j = g) w2 w8:=(Fr.of_below h27).trans (Fr.of_by hg8) (fun j hj=>.inl hj)
  refine Xa0 ?_
  refine ⟨⟨_,i + 1,zs.set i Y,rfl,by omega,by rw [← hzl]; exact hG8,?_,?_,f2.trans f8 (fun j hj=>.inl (by subst hj; rfl)),?_⟩,by show items.length - (((i + 1:Nat):Int)).toNat < items.length - ((i:Nat):Int).toNat; omega⟩
  ·rw [List.map_set,← hz,hYh.2]
   have:(zs.map (fun y:ItP=>y.1))[i]'(by rw [List.length_map]; exact hzi) = zs[i].1:=List.getElem_map _
   rw [← this]
   exact List.set_getElem_self _
  ·rw [List.drop_set_of_lt (by omega)]
   have:=congrArg (fun l=>l.drop 1) hd
   simpa [List.drop_drop] using this
  ·intro y hy
   rw [List.take_set,List.take_succ_eq_append_getElem hzi,List.set_append_right _ _ (by simp; omega)] at hy
   have e0:i - (zs.take i).length = 0:=by rw [List.length_take]; omega
   rw [e0] at hy
   rcases List.mem_append.1 hy with hy | hy
   ·exact ((hfz y hy).fr f8 (fun j hj=>⟨hj.2,fun e=>by omega⟩)).mono (fun j hj=>⟨hj.1,by omega⟩)
   ·simp only [List.set_cons_zero,List.mem_singleton] at hy
    subst hy
    have p0:FP (fun j=>w6.heap.size ≤ j ∧ j < w7.heap.size) w7 (fun W=>g1l W y):=by rw [← hY]; exact hF
    exact (p0.fr (Fr.of_by hg8) (fun j hj=>⟨hj.2,fun e=>by omega⟩)).mono (fun j hj=>⟨by omega,by omega⟩)
theorem d1d (hP:StR s lims w p items) (hsm:∀ x ∈ items,c0f x.held) (k:∀ w' v,Bw w w' → Fresh w w' (fun W=>SRow 18 (b3o 18 c5e) W v items) → K v w') :
  a0a Tryz.prog 26 #[.pointer (some ⟨p.pb,0,none⟩)] K w:=
 e3i hP hsm fun w' v B hb hG hB ho=>k w' v hb ((hG.fp (by omega) (by have:=hP.cnt; omega)).mono (fun j hj=>by
  rcases hj with hj | hj
  ·omega
  ·have:=ho j hj; have:=(hG.own hj).1; omega))
end
end Go.Proofs
namespace Go.Proofs
open Go.Sh Tryz
variable {a0 a1:Value} {K:VK} {w:World}
def g4a (K:VK) (w:World):Prop:=
 oM prog (.build 41 #[(0,(.tmp 0)),(1,(.tmp 1)),(2,(.tmp 2))]) 41 [(.int .i64 1),(.int .i64 1440),(.int .i64 (-1))] (fun v1=>
 oM prog (.build 41 #[(0,(.tmp 0)),(2,(.tmp 1))]) 41 [(.int .i64 2),(.int .i64 (-1))] fun v2=>
 oM prog (.buildSlice 51 2 #[(0,(.tmp 0)),(1,(.tmp 1))]) 51 [v1,v2] fun v3=>
 K v3) w
theorem e7i (h:g4a K w):a0a prog 51 #[] K w:=
 cZ (fun _=>0) func51 h
def g4b (K:VK) (w:World):Prop:=
 kA 50 (fun v0=>
 oM prog (.build 48 #[(0,(.tmp 0)),(1,(.tmp 1)),(2,(.tmp 2))]) 48 [(.int .i64 23),(.int .i64 11),(.int .i64 4)] fun v1=>
 oM prog (.buildSlice 22 2 #[(0,(.tmp 0)),(1,(.tmp 1))]) 22 [(.int .i64 4),(.int .i64 9)] fun v2=>
 oM prog (.build 50 #[(0,(.tmp 0)),(1,(.tmp 1)),(2,(.tmp 2))]) 50 [v1,v2,(.int .i64 13)] fun v3=>
 kS 50 v0 v3 fun _=>
 kR 50 v0 K) w
theorem e7j (h:g4b K w):a0a prog 52 #[] K w:=
 cZ (fun _=>0) func52 h
def g4c (a0 a1:Value) (K:VK) (w:World):Prop:=
 kA 29 (fun v4=>
 oM prog (.buildSlice 22 1 #[(0,(.tmp 0))]) 22 [(.int .i64 3)] fun v8=>
 oM prog (.build 29 #[(0,(.tmp 0)),(1,(.tmp 1)),(2,(.tmp 2))]) 29 [a0,a1,v8] fun v9=>
 kA 29 fun v5=>
 kS 29 v5 v9 fun _=>
 oM prog (.buildSlice 22 2 #[(0,(.tmp 0)),(1,(.tmp 1))]) 22 [(.int .i64 1),(.int .i64 5)] fun v10=>
 oM prog (.build 24 #[(0,(.tmp 0)),(1,(.tmp 1)),(3,(.tmp 2))]) 24 [(.int .i64 2),(.int .i64 1),v10] fun v11=>
 kF 29 3 v5 fun v12=>
 kS 24 v12 v11 fun _=>
 kB .mul 3 3 (.int .i64 10) a0 fun v14=>
 kB .add 3 3 v14 a1 fun v16=>
 oM prog (.build 26 #[(0,(.tmp 0)),(1,(.tmp 1)),(2,(.tmp 2)),(3,(.tmp 3)),(4,(.tmp 4)),(5,(.tmp 5))]) 26 [(.int .i64 2),(.int .i64 9),(.int .i64 1),(.int .i64 1),(.int .i64 1),v16] fun v17=>
 kF 29 4 v5 fun v18=>
 kS 26 v18 v17 fun _=>
 kL 29 v5 fun v19=>
 kS 29 v4 v19 fun _=>
 kR 29 v4 K) w
theorem e7k (h:g4c a0 a1 K w):a0a prog 54 #[a0,a1] K w:=
 cZ (fun _=>0) func54 h
def g4d (a0 a1:Value) (K:VK) (w:World):Prop:=
 kN 22 a0 (fun v7=>
 kN 22 a1 fun v9=>
 kB .neq 3 4 v7 v9 fun v10=>
 kO v10 (K (.bool false))
 (kQ [(.bool false),(.int .i64 0)] fun J_4 m_5 l_6 u_l_6 w0_l_6=>(fun w=>(
 kN 22 a0 (fun v13=>
 kB .lss 3 4 (l_6.getD 1 undef) v13 fun v14=>
 kO v14 (kH fun C_9 w=>(((true:Bool) = true) ∧ (a0d a0 C_9 fun v17=>
 a0d (l_6.getD 1 undef) C_9 fun v18=>
 jI 22 v17 v18 C_9 fun v19=>
 jL 3 v19 C_9 fun v20=>
 a0d a1 C_9 fun v21=>
 a0d (l_6.getD 1 undef) C_9 fun v22=>
 jI 22 v21 v22 C_9 fun v23=>
 jL 3 v23 C_9 fun v24=>
 jB .neq 3 4 v20 v24 C_9 fun v25=>
 ∃ S_19:World → WK,∀ w,C_9 w → (kO v25 (K (.bool false))
 (kB .add 3 3 (l_6.getD 1 undef) (.int .i64 1) fun v16=>
 kJ J_4 m_5 l_6 w0_l_6 [(l_6.getD 0 undef),v16]) w))))
 (K (.bool true))) w)) w0_l_6)) w
theorem e7l (h:g4d a0 a1 K w):a0a prog 56 #[a0,a1] K w:=
 cZ (fun _=>(fz 9 0 0)) func56 h
def g4e (K:VK) (w:World):Prop:=
 a0a prog 51 #[] (fun v18=>
 kI 51 v18 (.int .i64 0) fun v20=>
 kL 41 v20 fun v21=>
 a0a prog 20 #[v21,(.int .i64 2900)] fun v22=>
 kC .eql 3 2 4 v22 fun v23 w=>
 gT v23 (a0c v18) (fun v25 w=>
 gT v23 (kI 51 v25 (.int .i64 0)) (fun v26 w=>
 gT v23 (kL 41 v26) (fun v27 w=>
 gT v23 (a0a prog 21 #[v27,(.int .i64 2)]) (fun v28 w=>
 gT v23 (kC .eql 3 2880 4 v28) (fun v29=>
 kP v23 v29 (.bool false) fun v30 w=>
 gT v30 (a0c v18) (fun v32 w=>
 gT v30 (kI 51 v32 (.int .i64 1)) (fun v33 w=>
 gT v30 (kL 41 v33) (fun v34 w=>
 gT v30 (a0a prog 20 #[v34,(.int .i64 2900)]) (fun v35 w=>
 gT v30 (kC .eql 3 0 4 v35) (fun v36=>
 kP v30 v36 (.bool false) fun v37 w=>
 gT v37 (a0a prog 17 #[(.int .i64 100),(.string ⟨#[112,111,111,108]⟩)]) (fun v39 w=>
 gT v37 (oM prog (.binOp .eql 9 (.tmp 0) (.const (.string ⟨#[49,48,48,59,52,58,112,111,111,108,44]⟩)) 9) 4 [v39]) (fun v40=>
 kP v37 v40 (.bool false) fun v41=>
 a0a prog 35 #[] fun v42=>
 oM prog (.binOp .eql 55 (.tmp 0) (.const (.pointer none)) 55) 4 [v42] fun v44 w=>
 gF v44 (a0c v41) (fun v46 w=>
 gF v44 (kU v46) (fun v47=>
 kP v44 (.bool true) v47 fun v48 w=>
 gF v48 (a0a prog 22 #[(.string ⟨#[57,48,59,52,58,112,111,111,108,44]⟩),(.string ⟨#[49,48,48,59,48,58,44]⟩)]) (fun v50 w=>
 gF v48 (kU v50) (fun v51=>
 kP v48 (.bool true) v51 fun v52 w=>
 gF v52 (a0a prog 22 #[(.string ⟨#[49,49,48,59,52,58,112,111,111,108,44]⟩),(.string ⟨#[49,48,48,59,48,58,44]⟩)]) (fun v54=>
 kP v52 (.bool true) v54 fun v55=>
 kO v55 (K (.bool false))
 (a0a prog 52 #[] fun v58=>
 a0a prog 34 #[v42,v58,v18] fun v60=>
 kE 0 56 v60 fun v61=>
 kE 1 62 v60 fun v62=>
 oM prog (.binOp .eql 56 (.tmp 0) (.const (.pointer none)) 56) 4 [v61] fun v64 w=>
 gF v64 (a0c v62) (fun v66 w=>
 gF v64 (kC .neq 62 0 4 v66) (fun v67=>
 kP v64 (.bool true) v67 fun v68=>
 kO v68 (K (.bool false))
 (a0a prog 54 #[(.int .i64 0),(.int .i64 2)] fun v70=>
 a0a prog 53 #[v61,v70] fun v71=>
 a0a prog 28 #[v61,(.int .i64 0),(.int .i64 2900),(.int .i64 5)] fun v74=>
 kE 0 3 v74 fun v75=>
 kE 1 62 v74 fun v76=>
 a0a prog 28 #[v61,(.int .i64 0),(.int .i64 2901),(.int .i64 6)] fun v79=>
 kE 0 3 v79 fun v80=>
 kE 1 62 v79 fun v81=>
 a0a prog 55 #[v61,(.int .i64 0)] fun v84=>
 kE 0 84 v84 fun v85=>
 kE 1 62 v84 fun v86=>
 kA 84 fun v11=>
 kS 84 v11 v85 fun _=>
 kC .neq 62 0 4 v71 fun v88 w=>
 gF v88 (a0c v75) (fun v90 w=>
 gF v88 (kC .neq 3 0 4 v90) (fun v91=>
 kP v88 (.bool true) v91 fun v92 w=>
 gF v92 (a0c v76) (fun v94 w=>
 gF v92 (kC .neq 62 0 4 v94) (fun v95=>
 kP v92 (.bool true) v95 fun v96 w=>
 gF v96 (a0c v81) (fun v98 w=>
 gF v96 (kC .neq 62 15 4 v98) (fun v99=>
 kP v96 (.bool true) v99 fun v100 w=>
 gF v100 (a0c v61) (fun v102 w=>
 gF v100 (a0a prog 27 #[v102,(.int .i64 0),(.int .i64 2900)]) (fun v103 w=>
 gF v100 (kC .neq 3 0 4 v103) (fun v104=>
 kP v100 (.bool true) v104 fun v105 w=>
 gF v105 (a0c v86) (fun v107 w=>
 gF v105 (kC .neq 62 0 4 v107) (fun v108=>
 kP v105 (.bool true) v108 fun v109 w=>
 gF v109 (kF 84 1 v11) (fun v111 w=>
 gF v109 (kL 22 v111) (fun v112 w=>
 gF v109 (oM prog (.buildSlice 22 2 #[(0,(.tmp 0)),(1,(.tmp 1))]) 22 [(.int .i64 0),(.int .i64 2)]) (fun v113 w=>
 gF v109 (a0a prog 56 #[v112,v113]) (fun v114 w=>
 gF v109 (kU v114) (fun v115=>
 kP v109 (.bool true) v115 fun v116=>
 kO v116 (K (.bool false))
 (a0a prog 32 #[v42,(.slice none 0 0)] fun v118=>
 a0a prog 33 #[v42] fun v120=>
 a0a prog 52 #[] fun v123=>
 a0a prog 34 #[v42,v123,v18] fun v125=>
 kE 0 56 v125 fun v126=>
 kE 1 62 v125 fun v127=>
 oM prog (.binOp .eql 56 (.tmp 0) (.const (.pointer none)) 56) 4 [v126] fun v129 w=>
 gF v129 (a0c v127) (fun v131 w=>
 gF v129 (kC .neq 62 0 4 v131) (fun v132=>
 kP v129 (.bool true) v132 fun v133=>
 kO v133 (K (.bool false))
 (a0a prog 55 #[v126,(.int .i64 0)] fun v136=>
 kE 0 84 v136 fun v137=>
 kE 1 62 v136 fun v138=>
 kA 84 fun v15=>
 kS 84 v15 v137 fun _=>
 a0a prog 26 #[v126] fun v140=>
 kC .eql 62 7 4 v138 fun v142 w=>
 gT v142 (a0c v140) (fun v144 w=>
 gT v142 (kN 59 v144) (fun v145 w=>
 gT v142 (kC .eql 3 1 4 v145) (fun v146=>
 kP v142 v146 (.bool false) fun v147 w=>
 gT v147 (a0c v140) (fun v149 w=>
 gT v147 (kI 59 v149 (.int .i64 0)) (fun v150 w=>
 gT v147 (kF 67 1 v150) (fun v151 w=>
 gT v147 (kL 3 v151) (fun v152 w=>
 gT v147 (kC .eql 3 3 4 v152) (fun v153=>
 kP v147 v153 (.bool false) fun v154 w=>
 gT v154 (a0c v140) (fun v156 w=>
 gT v154 (kI 59 v156 (.int .i64 0)) (fun v157 w=>
 gT v154 (kF 67 2 v157) (fun v158 w=>
 gT v154 (kL 3 v158) (fun v159 w=>
 gT v154 (kC .eql 3 5 4 v159) (fun v160=>
 kP v154 v160 (.bool false) fun v161=>
 K v161) w) w) w) w) w) w) w) w) w) w) w) w) w)) w) w)) w) w) w) w) w) w) w) w) w) w) w) w) w) w) w) w)) w) w)) w) w) w) w) w) w) w) w) w) w) w) w) w) w) w) w) w) w
theorem e7m (h:g4e K w):a0a prog 12 #[] K w:=
 cZ (fun _=>0) func12 h
end Go.Proofs
namespace Go.Proofs
open Go Go.Sh Go.RowKit FdSpec TkSpec CodeSpec PuSpec DkSpec JnSpec
section
variable {K:VK} {w w' w0 W W':World} {L:List (Addr × Value)} {rb b:Nat}
theorem d3l (T:TypeId) (a b c:Int):oM Tryz.prog (Go.Op.build 41 #[(0,(.tmp 0)),(1,(.tmp 1)),(2,(.tmp 2))]) T [.int .i64 a,.int .i64 b,.int .i64 c] = a0c (f7e ⟨a,b,c⟩):=by
 funext K w
 kernel_rfl
theorem d3m (T:TypeId) (a c:Int):oM Tryz.prog (Go.Op.build 41 #[(0,(.tmp 0)),(2,(.tmp 1))]) T [.int .i64 a,.int .i64 c] = a0c (f7e ⟨a,0,c⟩):=by
 funext K w
 kernel_rfl
theorem h4m {T:TypeId} (x y:Lim) (hx:I64 x.count ∧ I64 x.length ∧ I64 x.gate) (hy:I64 y.count ∧ I64 y.length ∧ I64 y.gate) (k:∀ v W,Bw w W → Fresh w W (fun W=>c5d W v [x,y]) → K v W) :
  oM Tryz.prog (.buildSlice 51 2 #[(0,.tmp 0),(1,.tmp 1)]) T [f7e x,f7e y] K w:=by
 rw [a7y]
 refine b7a (e:=41) (n:=2) (xs:=d3f x ++ d3f y) (by kernel_rfl) (fun g W h hg hH=>k _ W h ?_)
 exact (hH.fresh hg).imp (fun W hW=>e2u hW rfl rfl ⟨rfl,hx⟩ ⟨rfl,hy⟩)
theorem e3j (k:∀ w' v,Bw w w' → Fresh w w' (fun W=>c5d W v exL) → K v w'):a0a Tryz.prog 51 #[] K w:=by
 apply e7i
 unfold g4a
 rw [d3l]
 show oM _ _ _ _ _ _
 rw [d3m]
 show oM _ _ _ _ _ _
 refine h4m _ _ ⟨by constructor <;> decide,by constructor <;> decide,by constructor <;> decide⟩ ⟨by constructor <;> decide,by constructor <;> decide,by constructor <;> decide⟩ (fun v W h hF=>k W v h hF)
theorem g8o {T:TypeId} (x y:Int) (hx:I64 x) (hy:I64 y) (k:∀ ad c W,Bw w W → Fresh w W (fun W=>Ints W (.slice ad 2 c) [x,y]) → K (.slice ad 2 c) W):oM Tryz.prog (.buildSlice 22 2 #[(0,.tmp 0),(1,.tmp 1)]) T [.int .i64 x,.int .i64 y] K w:=by
 rw [a7y]
 have e:(Instr.buildSlice 22 2 #[(0,.int .i64 x),(1,.int .i64 y)]).run Tryz.prog w = .ok (.slice (some ⟨w.heap.size,0,none⟩) 2 2) (w.alloc (.cells #[.int .i64 x,.int .i64 y] 3)):=by kernel_rfl
 rw [e]
 exact k _ _ _ ((Below.refl _ w).alloc (rL) _) ((a4m w [x,y] _ 2 (by simp; exact ⟨hx,hy⟩) (by simp)).fresh (fun i hi=>by cases hi; exact rL))
theorem g7p (w:World):(sizeOf 50).run Tryz.prog w = .ok 5 w:=by kernel_rfl
theorem g7q (w:World):(Instr.alloc 50 true (.tuple #[])).run Tryz.prog w = .ok (.pointer (some ⟨w.heap.size,0,none⟩)) (w.alloc (.cells [.int .i64 0,.int .i64 0,.int .i64 0,.slice none 0 0,.int .i64 0].toArray 50)):=by kernel_rfl
theorem b4s:Tryz.prog.underlying 50 = some ((Tryz.prog.underlying 50).getD default):=by kernel_rfl
theorem f2j (a b c e:Int) (ad:Option Addr) (n m:Nat):∀ u ∈ ([.int .i64 a,.int .i64 b,.int .i64 c,.slice ad n m,.int .i64 e]:List Value),u.oneCell' = true:=by
 intro u hu
 simp only [List.mem_cons,List.not_mem_nil,or_false] at hu
 rcases hu with rfl | rfl | rfl | rfl | rfl <;> rfl
theorem d1e (k:∀ w' v,Bw w w' → Fresh w w' (fun W=>Ints W v exS.bases) → K (a9j exS v) w'):a0a Tryz.prog 52 #[] K w:=by
 apply e7j
 unfold g4b
 refine a0i g7q (fun g1 w1 h1 hg1 hH1=>?_)
 refine a7z ?_
 refine g8o 4 9 (by constructor <;> decide) (by constructor <;> decide) (fun ad c w2 h2 hF=>?_)
 refine a7z ?_
 have hg1l:=hH1.lt
 refine a0h (xs:=b1d exS (.slice ad 2 c)) g7p rfl rfl (f2j _ _ _ _ _ _ _) (hH1.next h2) rfl (fun w3 hg3 hH3=>?_)
 refine a4s hH3 b4s (by kernel_rfl) (by kernel_rfl) ?_
 have hs1:=h1.size
 have hs3:=hg3.size
 exact k w3 _ ((h1.on h2).grown hg3 (by have:=h2.size; omega) (fun j e=>by cases e; exact hg1)) ((FP.fr hF (Fr.of_by hg3) (fun j hj=>⟨hj.2,fun e=>by omega⟩)).mono (fun j hj=>⟨by omega,by omega⟩))
theorem h4n {T:TypeId} (x:Int) (hx:I64 x) (k:∀ ad c W,Bw w W → Fresh w W (fun W=>Ints W (.slice ad 1 c) [x]) → K (.slice ad 1 c) W):oM Tryz.prog (.buildSlice 22 1 #[(0,.tmp 0)]) T [.int .i64 x] K w:=by
 rw [a2k]
 have e:(Instr.buildSlice 22 1 #[(0,.int .i64 x)]).run Tryz.prog w = .ok (.slice (some ⟨w.heap.size,0,none⟩) 1 1) (w.alloc (.cells #[.int .i64 x] 3)):=by kernel_rfl
 rw [e]
 exact k _ _ _ ((Below.refl _ w).alloc (rL) _) ((a4m w [x] _ 1 (by simpa using hx) (by simp)).fresh (fun i hi=>by cases hi; exact rL))
theorem d3n (T:TypeId) (a b:Int) (ad:Option Addr) (n c:Nat):oM Tryz.prog (Go.Op.build 29 #[(0,(.tmp 0)),(1,(.tmp 1)),(2,(.tmp 2))]) T [.int .i64 a,.int .i64 b,.slice ad n c] = a0c (.agg #[.int .i64 a,.int .i64 b,.slice ad n c,.int .i64 0,.int .i64 0,.int .i64 0,.slice none 0 0,.int .i64 0,.int .i64 0,.int .i64 0,.int .i64 0,.int .i64 0,.int .i64 0,.slice none 0 0]):=by
 funext K w
 kernel_rfl
theorem d3o (T:TypeId) (a b:Int) (ad:Option Addr) (n c:Nat):oM Tryz.prog (Go.Op.build 24 #[(0,(.tmp 0)),(1,(.tmp 1)),(3,(.tmp 2))]) T [.int .i64 a,.int .i64 b,.slice ad n c] = a0c (.agg #[.int .i64 a,.int .i64 b,.int .i64 0,.slice ad n c]):=by
 funext K w
 kernel_rfl
theorem f7k:WHld exH:=by
 have r:∀ n:Int,-100 ≤ n ∧ n ≤ 100 → InR n:=fun n h=>by unfold InR; omega
 refine ⟨r _ (by decide),r _ (by decide),fun v hv=>r _ ?_,by decide,r _ (by decide),r _ (by decide),r _ (by decide),fun v hv=>r _ ?_,by decide,⟨fun v hv=>r _ ?_⟩,fun _ h=>by cases h⟩
 ·simp only [exH,List.mem_cons,List.not_mem_nil,or_false] at hv; subst hv; decide
 ·simp only [exH,List.mem_cons,List.not_mem_nil,or_false] at hv; rcases hv with rfl | rfl <;> decide
 ·simp only [tktL,exH,List.mem_cons,List.not_mem_nil,or_false] at hv; rcases hv with rfl | rfl | rfl | rfl | rfl | rfl <;> decide
theorem d3p (k:∀ w' av yv kv,Bw w w' → Fresh w w' (fun W=>HldR W exH av yv kv) → K (d3g exH av yv kv) w'):a0a Tryz.prog 54 #[.int .i64 0,.int .i64 2] K w:=by
 apply e7k
 unfold g4c
 refine a0i b3l (fun g1 w1 h1 hg1 hH1=>?_)
 refine h4n 3 (by constructor <;> decide) (fun a1 c1 w2 h2 hF2=>?_)
 rw [d3n]
 show oM _ _ _ _ _ _
 refine a0i b3l (fun g3 w3 h3 hg3 hH3=>?_)
 refine a0h b1n rfl rfl (a8a _ _ _ _ _ _ _ _ _ _ _ _ _ _ _ _ _ _ _ _) hH3 rfl (fun w4 hg4 hH4=>?_)
 refine g8o 1 5 (by constructor <;> decide) (by constructor <;> decide) (fun a5 c5 w5 h5 hF5=>?_)
 rw [d3o]
 show oM _ _ _ _ _ _
 have hH5:=hH4.next h5
 refine a7z ?_
 refine a2v (o:=3) d0v rfl rfl (c8g ⟨2,1,0,[]⟩ _ _ _) hH5 (by simp) (fun w6 hg6 hH6=>?_)
 simp only [List.take_succ_cons,List.take_zero,List.drop_succ_cons,List.drop_zero,List.cons_append,List.nil_append] at hH6
 refine h1f ?_
 refine a2v (o:=7) (xs:=a8l exH.t) e2h rfl rfl (c8b exH.t) hH6 (by simp) (fun w7 hg7 hH7=>?_)
 simp only [List.take_succ_cons,List.take_zero,List.drop_succ_cons,List.drop_zero,List.cons_append,List.nil_append] at hH7
 refine a1s hH7 a8o (by kernel_rfl) (by kernel_rfl) ?_
 have l1:=hH1.lt
 have l3:=hH3.lt
 have s1:=h1.size
 have s2:=h2.size
 have s3:=h3.size
 have s4:=hg4.size
 have s5:=h5.size
 have s6:=hg6.size
 have s7:=hg7.size
 have f27:Fr (fun i=>i = g3) w2 w7:=((((Fr.of_below h3).trans (Fr.of_by hg4) (fun i hi=>.inl hi)).trans (Fr.of_below (S:=fun _=>False) h5) (fun i hi=>hi.elim)).trans (Fr.of_by hg6) (fun i hi=>.inl hi)).trans (Fr.of_by hg7) (fun i hi=>.inl hi)
 have f57:Fr (fun i=>i = g3) w5 w7:=(Fr.of_by hg6).trans (Fr.of_by hg7) (fun i hi=>.inl hi)
 have hH1':Holds w7 g1 29 hldZ:=(f27.block g1 (by omega) (by omega)).trans (hH1.next h2)
 refine a0h b1n rfl rfl (a8a _ _ _ _ _ _ _ _ _ _ _ _ _ _ _ _ _ _ _ _) hH1' rfl (fun w8 hg8 hH8=>?_)
 have s8:=hg8.size
 refine a4s hH8 a8o (by kernel_rfl) (by kernel_rfl) ?_
 have b17:Bw w w7:=(h1.on h2).trans ⟨f27.os,f27.tape,f27.output,by omega,fun i hi=>f27.block i (by omega) (by omega)⟩
 have p1:=((FP.fr hF2 f27 (fun j hj=>⟨hj.2,fun e=>by omega⟩)).fr (Fr.of_by hg8) (fun j hj=>⟨by omega,fun e=>by omega⟩))
 have p2:=((FP.fr hF5 f57 (fun j hj=>⟨hj.2,fun e=>by omega⟩)).fr (Fr.of_by hg8) (fun j hj=>⟨by omega,fun e=>by omega⟩))
 refine k w8 (.slice a1 1 c1) (.slice a5 2 c5) (.slice none 0 0) (b17.grown hg8 (by omega) (fun j e=>by cases e; exact hg1)) ?_
 exact ((p1.and p2).imp (fun W hW=>⟨hW.1,hW.2,SRow.nil,f7k⟩)).mono (fun j hj=>by rcases hj with hj | hj <;> exact ⟨by omega,by omega⟩)
end
end Go.Proofs
namespace PuSpec
open FdSpec TkSpec CodeSpec DkSpec JnSpec
variable {s:Stp} {lims:List Lim} {A:Ab} {p:Pst} {all sure:List a0f} {n:Nat}
structure Up (s:Stp) (lims:List Lim) (A:Ab) (p:Pst) (sure:List a0f) (n:Nat):Prop where
 u:Upp A
 inv:Inv s lims A p p.j.recs sure
 nb:p.j.broken = false
 cnt:p.j.recs.length ≤ n
 vs:a1j s = true
 vl:b8n lims = true
 items:p.items.length ≤ p.j.recs.length
theorem Up.live (h:Up s lims A p sure n):Live 0 A p.j p.j.recs sure:=LJ.live h.inv.lj h.nb
theorem f8u {t:a0f} (ht:t.length ≤ 20000):(form t).length ≤ 20064:=by
 have:=b2p (s:=t) (by omega)
 omega
theorem Up.append (h:Up s lims A p sure n) (hn:n ≤ 50) {t:a0f} (ht:t.length ≤ 20000) :
  ∃ B b,a0g A 0 p.j t = (0,B,⟨p.j.recs ++ [t],b,false⟩) ∧ Upp B ∧ Live 0 B ⟨p.j.recs ++ [t],b,false⟩ (p.j.recs ++ [t]) sure:=by
 have hb:=h.live.bytes_le h.cnt
 have hf:=f8u ht
 have h3:n * 20064 ≤ 50 * 20064:=Nat.mul_le_mul_right _ hn
 obtain ⟨B,e,u,l⟩:=h.u.add_rec h.live b6i h.nb ht (by omega)
 exact ⟨B,_,e,u,l⟩
theorem Up.add (h:Up s lims A p sure n) (hn:n ≤ 50) {x:Hld} (w:WHld x) :
  (a5s s lims p.items x ≠ 0 ∧ c0u s lims A p x = (a5s s lims p.items x,A,p) ∧ (a5s s lims p.items x = 1 ∨ a5s s lims p.items x = 5)) ∨
  (a5s s lims p.items x = 0 ∧ ∃ B q,c0u s lims A p x = (0,B,q) ∧ q.items = p.items ++ [a2q x] ∧ validM s lims x = true ∧ c0x p.items x.t = false ∧ Up s lims B q sure (n + 1)):=by
 by_cases he:a5s s lims p.items x = 0
 ·right
  have hv:validM s lims x = true ∧ c0x p.items x.t = false:=by
   unfold a5s at he
   split at he
   ·cases he
   ·rename_i hv
    split at he
    ·cases he
    ·rename_i hh
     exact ⟨by simpa using hv,by simpa using hh⟩
  have e0:(a2n 0).length = 2:=by decide +kernel
  obtain ⟨B,b,e,u,l⟩:=h.append hn (t:=a4e x) (by
   have:=c9u w hv.1
   simp only [a4e,List.length_append,e0]; omega)
  refine ⟨he,B,⟨⟨p.j.recs ++ [a4e x],b,false⟩,p.items ++ [a2q x]⟩,?_,rfl,hv.1,hv.2,⟨u,?_,rfl,?_,h.vs,h.vl,?_⟩⟩
  ·unfold c0u
   rw [if_neg (by simp [he]),e,if_neg (by simp)]
  ·obtain ⟨all',sure',hp,v⟩:=d9o h.inv x w
   have ea:c0u s lims A p x = (0,B,⟨⟨p.j.recs ++ [a4e x],b,false⟩,p.items ++ [a2q x]⟩):=by
    unfold c0u
    rw [if_neg (by simp [he]),e,if_neg (by simp)]
   obtain ⟨rj,h1,h2,g⟩:=a5r h.inv
   have hl:x.links.length ≤ 4:=by
    have:=hv.1
    simp only [validM,a9i,Bool.and_eq_true,decide_eq_true_eq] at this
    omega
   have hlen:p.items.length < 400:=by
    have:=h.items
    have:=h.cnt
    omega
   have ht:a3o s lims rj (a4e x) = some (rj ++ [a2q x]):=by
    rw [b9l rj x w hl,if_pos]
    exact ⟨hv.1,by rw [h2.has]; exact hv.2,by rw [h2.1]; exact hlen⟩
   have hr:a0s s lims [] (p.j.recs ++ [a4e x]) = some (rj ++ [a2q x]):=by
    rw [a4d,h1,Option.bind_some,b1s,ht]
   refine ⟨.inl ⟨rfl,l⟩,⟨_,hr⟩,⟨_,hr,h2.push _⟩,?_⟩
   intro i y hy hst
   dsimp only at hy
   rw [List.getElem?_append] at hy
   split at hy
   ·exact h.inv.spent i y hy hst
   ·have:y = a2q x:=by
     rcases hk:i - p.items.length with _ | k
     ·rw [hk] at hy; simp only [List.getElem?_cons_zero,Option.some.injEq] at hy; exact hy.symm
     ·rw [hk] at hy; simp at hy
    rw [this] at hst
    simp [a2q] at hst
  ·have:=h.cnt
   simp only [List.length_append,List.length_cons,List.length_nil]; omega
  ·have:=h.items
   simp only [List.length_append,List.length_cons,List.length_nil]; omega
 ·left
  refine ⟨he,by unfold c0u; rw [if_pos he],?_⟩
  unfold a5s at he ⊢
  split at he
  ·rename_i h1; rw [if_pos h1]; exact .inl rfl
  ·rename_i h1
   rw [if_neg h1]
   split at he
   ·rename_i h2; rw [if_pos h2]; exact .inr rfl
   ·split at he
    ·have:=h.items
     have:=h.cnt
     omega
    ·exact absurd rfl he
theorem Up.keep (h:Up s lims A p sure n) (hn:n ≤ 50) {i:Nat} {x:Itm} (hx:p.items[i]? = some x) (h0:x.status = 0) {kind dare:Int} (hk:kind = 1 ∨ kind = 3) (hd:1 ≤ dare) (hq:dare < s.g.Q) (hr:InR dare) :
  ∃ B q,a3y A p i kind dare = (0,B,q) ∧ q.items = p.items.set i { x with dare:=dare,status:=1,lent:=decide (kind = 3) } ∧ Up s lims B q q.j.recs (n + 1):=by
 have hi:(i:Int) < 9223372036854775807:=by
  have:=(List.getElem?_eq_some_iff.1 hx).1
  have:=h.items
  have:=h.cnt
  omega
 have hin:∀ m ∈ [kind,(i:Int),dare],InR m:=by
  intro m hm
  simp only [List.mem_cons,List.not_mem_nil,or_false] at hm
  rcases hm with rfl | rfl | rfl
  ·rcases hk with rfl | rfl <;> exact ⟨by decide,by decide⟩
  ·exact ⟨by omega,by omega⟩
  ·exact hr
 obtain ⟨B,b,e,u,l⟩:=h.append hn (t:=a0t [kind,i,dare]) (by have:=b1u hin (by simp); omega)
 obtain ⟨C,e2,u2,l2⟩:=u.sync_rec l b6i rfl
 have ek:a3y A p i kind dare = (0,C,⟨⟨p.j.recs ++ [a0t [kind,i,dare]],b,false⟩,p.items.set i { x with dare:=dare,status:=1,lent:=decide (kind = 3) }⟩):=by
  unfold a3y
  rw [e]
  dsimp only
  rw [if_neg (by simp),e2]
  dsimp only
  rw [if_neg (by simp),modify_set hx]
 refine ⟨C,_,ek,rfl,⟨u2,?_,rfl,?_,h.vs,h.vl,?_⟩⟩
 ·obtain ⟨rj,h1,h2,g⟩:=a5r h.inv
  obtain ⟨r,hr1,hr2⟩:=h2.get hx
  have hrs:r.status = 0:=by
   rcases hr2.rest with ⟨a,_⟩ | ⟨a,b,_⟩ <;> omega
  have hstep:a8s s [kind,i,dare] r = some { r with status:=1,dare:=dare,lent:=decide (kind = 3) }:=by
   unfold a8s
   dsimp only
   rw [if_pos (by simpa using hk),if_pos (by simp [hrs,hd,hq])]
  have ht:=b1r (s:=s) (lims:=lims) rj [kind,i,dare] hin (.inr rfl) (i:=i) rfl hr1
  rw [hstep,Option.map_some] at ht
  have hr:a0s s lims [] (p.j.recs ++ [a0t [kind,i,dare]]) = some (rj.set i { r with status:=1,dare:=dare,lent:=decide (kind = 3) }):=by
   rw [a4d,h1,Option.bind_some,b1s,ht]
  have hm:Match (rj.set i { r with status:=1,dare:=dare,lent:=decide (kind = 3) }) (p.items.set i { x with dare:=dare,status:=1,lent:=decide (kind = 3) }):=
   h2.set i ⟨hr2.held,hr2.back,.inl ⟨rfl,rfl,rfl⟩⟩
  exact ⟨.inl ⟨rfl,l2⟩,⟨_,hr⟩,⟨_,hr,hm⟩,b9m hr hm⟩
 ·have:=h.cnt
  simp only [List.length_append,List.length_cons,List.length_nil]; omega
 ·have:=h.items
  simp only [List.length_append,List.length_cons,List.length_nil,List.length_set]; omega
theorem d9q (hv:a1j s = true) (hl:b8n lims = true):∃ B,a5q s lims c2g = (some ⟨⟨[],0,false⟩,[]⟩,0,B) ∧ Up s lims B ⟨⟨[],0,false⟩,[]⟩ [] 0:=by
 obtain ⟨B,e,u,l⟩:=e8v b6i
 refine ⟨B,?_,⟨u,⟨.inl ⟨rfl,l⟩,⟨[],rfl⟩,⟨[],rfl,rfl,fun i r x h=>by simp at h⟩,fun i x h=>by simp at h⟩,rfl,Nat.le_refl _,hv,hl,Nat.le_refl _⟩⟩
 unfold a5q
 rw [if_neg (by simp [hv,hl]),e]
 rfl
end PuSpec
namespace PuSpec
open FdSpec TkSpec CodeSpec DkSpec JnSpec
variable {s:Stp} {lims:List Lim} {A:Ab} {p:Pst} {all sure:List a0f} {n:Nat}
theorem c6y (items:List Itm) (limit now:Int):(a0j lims items limit now).2 = 0 ∨ (a0j lims items limit now).2 = 1 ∨ (a0j lims items limit now).2 = 15:=by
 unfold a0j
 split
 ·exact .inr (.inl rfl)
 ·split
  ·exact .inr (.inr rfl)
  ·exact .inl rfl
end PuSpec
namespace PuSpec
open FdSpec TkSpec CodeSpec DkSpec JnSpec
variable {s:Stp} {lims:List Lim} {A:Ab} {p:Pst} {all sure:List a0f} {n:Nat}
structure Dur (s:Stp) (lims:List Lim) (p:Pst) (sure:List a0f):Prop where
 many:∃ rs,a0s s lims [] sure = some rs ∧ p.items.length ≤ rs.length
 nb:∀ x ∈ p.items,x.status ≠ 3
theorem LaterL.len {l m:List Itm} (h:LaterL l m):l.length ≤ m.length:=by
 rcases hl:l.length with _ | k
 ·omega
 ·have hk:k < l.length:=by omega
  obtain ⟨y,hy,_⟩:=h k l[k] (List.getElem?_eq_getElem hk)
  have:=(List.getElem?_eq_some_iff.1 hy).1
  omega
theorem d9l (h:Up s lims A p sure n) (d:Dur s lims p sure) (keep:List Int) :
  ∃ B q,a5q s lims (b1i (a4c A keep)) = (some q,0,B) ∧ q.items.length = p.items.length ∧
   ∀ (i:Nat) (a b:Itm),p.items[i]? = some a → q.items[i]? = some b → b.held = a.held ∧ b.status ≠ 1 ∧ (a.status = 0 → b.status = 0) ∧ (a.status = 1 → b.status = 3 ∧ b.dare = a.dare) ∧
    (a.status ≠ 0 → a.status ≠ 1 → b.status ≠ 0 ∧ b.dare = a.dare):=by
 obtain ⟨B,j',e,u,lv,hb,hp,hs⟩:=h.u.again h.live.good b6i keep
 obtain ⟨rj,hrj,hm,g⟩:=a5r h.inv
 obtain ⟨l,hl,gl,_,ll⟩:=a6u hp hrj
 obtain ⟨rs,hrs,hmany⟩:=d.many
 obtain ⟨rs',hrs',grs,_,lr⟩:=a6u hs hl
 rw [hrs] at hrs'
 cases hrs'
 have ho:a5q s lims (b1i (a4c A keep)) = (some ⟨j',l.map a5h⟩,0,B):=by
  unfold a5q
  rw [if_neg (by simp [h.vs,h.vl]),e]
  dsimp only
  unfold b8o
  rw [hl]
  rfl
 have e1:=ll.len
 have e2:=lr.len
 have e3:=hm.1
 refine ⟨B,_,ho,by simp only [List.length_map]; omega,fun i a b ha hbi=>?_⟩
 dsimp only at hbi
 rw [List.getElem?_map] at hbi
 rcases hli:l[i]? with _ | y
 ·rw [hli] at hbi; cases hbi
 ·rw [hli] at hbi
  cases hbi
  obtain ⟨r,hr,rel⟩:=hm.get ha
  obtain ⟨r',hr',lt⟩:=ll i y hli
  rw [hr] at hr'
  cases hr'
  have na:=d.nb a (List.mem_of_getElem? ha)
  obtain ⟨q1,q2,q3⟩:a.status = r.status ∧ a.dare = r.dare ∧ a.lent = r.lent:=by
   rcases rel.rest with k | ⟨_,k,_⟩
   ·exact k
   ·exact absurd k na
  have ry:=gl.raw y (List.mem_of_getElem? hli)
  have lu:=lt.up
  have spent:a.status = 1 ∨ a.status = 2 → 1 ≤ y.status:=by
   intro hst
   obtain ⟨rs1,z,z1,z2,_,_,z5⟩:=h.inv.spent i a ha hst
   rw [hrs] at z1
   cases z1
   obtain ⟨y',hy',lt'⟩:=lr i z z2
   rw [hli] at hy'
   cases hy'
   have:=lt'.up
   omega
  have bh:(a5h y).held = y.held:=by unfold a5h; split <;> rfl
  have bd:(a5h y).dare = y.dare:=by unfold a5h; split <;> rfl
  have bs:(a5h y).status = if y.status = 1 then 3 else y.status:=by unfold a5h; split <;> rfl
  rw [bh,bd,bs]
  refine ⟨by rw [rel.held,lt.held],by split <;> omega,fun k=>by rw [if_neg (by omega)]; omega,fun k=>?_,fun k1 k2=>?_⟩
  ·have:=spent (.inl k)
   rw [if_pos (by omega),q2,(lt.dare (by omega)).1]
   exact ⟨rfl,rfl⟩
  ·have ra:=g.raw r (List.mem_of_getElem? hr)
   have:=spent (.inr (by omega))
   rw [q2,(lt.dare (by omega)).1]
   refine ⟨?_,rfl⟩
   split <;> omega
end PuSpec
namespace PuSpec
open FdSpec TkSpec CodeSpec DkSpec JnSpec
def exI1:Itm:={ a2q exH with status:=1,dare:=5 }
theorem d2f (hw:WHld exH):∃ B0 B1 B2 q1 q2,a5q exS exL c2g = (some ⟨⟨[],0,false⟩,[]⟩,0,B0) ∧ c0u exS exL B0 ⟨⟨[],0,false⟩,[]⟩ exH = (0,B1,q1) ∧ q1.items = [a2q exH] ∧
  a2l exS exL B1 q1 0 2900 5 = ((0,0),B2,q2) ∧ q2.items = [exI1] ∧ a2l exS exL B2 q2 0 2901 6 = ((0,15),B2,q2) ∧
  ∃ B3 q3 x,a5q exS exL (b1i (a4c B2 [])) = (some q3,0,B3) ∧ q3.items = [x] ∧ x.status = 3 ∧ x.dare = 5 ∧ x.held = exH:=by
 obtain ⟨f1,_,_,_,_,fv,_,fa,_,fc1,fc2,_,_⟩:=c9w
 obtain ⟨B0,e0,u0⟩:=d9q fv f1
 rcases u0.add (by omega) hw with ⟨hne,_⟩ | ⟨_,B1,q1,e1,i1,_,_,u1⟩
 ·exact absurd fa hne
 have i1':q1.items = [a2q exH]:=i1
 have hx:q1.items[0]? = some (a2q exH):=by rw [i1']; rfl
 obtain ⟨B2,q2,e2,i2,u2⟩:=u1.keep (by omega) hx rfl (kind:=1) (dare:=5) (.inl rfl) (by omega) (by decide) ⟨by omega,by omega⟩
 have i2':q2.items = [exI1]:=by rw [i2,i1']; rfl
 refine ⟨B0,B1,B2,q1,q2,e0,e1,i1',?_,i2',?_,?_⟩
 ·unfold a2l
  rw [i1',fc1]
  rw [if_neg (by decide),if_neg (by simp),e2]
  rw [if_neg (by simp)]
 ·unfold a2l
  rw [i2',show [exI1] = [{ a2q exH with status:=1,dare:=5 }] from rfl,fc2]
  rw [if_neg (by decide),if_pos (by simp)]
 ·obtain ⟨rj,hr,hm⟩:=u2.inv.live
  have hd:Dur exS exL q2 q2.j.recs:=⟨⟨rj,hr,Nat.le_of_eq hm.1.symm⟩,by rw [i2']; intro x hx; rw [List.mem_singleton] at hx; subst hx; decide⟩
  obtain ⟨B3,q3,e3,l3,h3⟩:=d9l u2 hd []
  rw [i2'] at l3 h3
  obtain ⟨x,hx3⟩:∃ x,q3.items = [x]:=List.length_eq_one_iff.1 (by simpa using l3)
  have:=h3 0 exI1 x rfl (by rw [hx3]; rfl)
  exact ⟨B3,q3,x,e3,hx3,(this.2.2.2.1 rfl).1,(this.2.2.2.1 rfl).2,this.1⟩
end PuSpec
namespace Go.Proofs
open Go Go.Sh Go.RowKit FdSpec TkSpec CodeSpec PuSpec DkSpec JnSpec
section
variable {K:VK} {w w' w0 W W':World} {L:List (Addr × Value)} {rb b:Nat}
theorem b8c {va vb:Value} {l m:List Int} (ha:Ints w va l) (hb:Ints w vb m) (k:∀ w',Bw w w' → K (.bool (decide (l = m))) w'):a0a Tryz.prog 56 #[va,vb] K w:=by
 apply e7l
 unfold g4d
 obtain ⟨a1,c1,rfl⟩:=ha.isSlice
 obtain ⟨a2,c2,rfl⟩:=hb.isSlice
 have hll:=ha.len
 by_cases hl:l.length = m.length
 ·have hlZ:(l.length:Int) = m.length:=by omega
  refine Xa @hlZ ?_
  refine ⟨fun vs W=>∃ (i:Nat),vs = [.bool false,.int .i64 (i:Int)] ∧ i ≤ l.length ∧ l.take i = m.take i ∧ Nx w W,
   (fun vs _=>match vs with | [_,.int _ i]=>l.length - i.toNat | _=>0),⟨0,rfl,by omega,rfl,bR⟩,?_⟩
  rintro _ _ w2 ⟨i,rfl,hi,he,h2⟩
  by_cases hin:i = l.length
  ·have e:l = m:=by
    rw [hin,List.take_length,hl,List.take_length] at he
    exact he
   have k:=k _ h2
   rw [decide_eq_true e] at k
   have hn:¬ (i:Int) < m.length:=by omega
   refine Xa (An2 @hn @hlZ) ?_
   exact k
  ·have hil:i < l.length:=by omega
   have him:i < m.length:=by omega
   have hiZ:(i:Int) < m.length:=by omega
   obtain ⟨b1,o1,rfl,hb1,ca,_,_⟩:=ha.at (i:=i) hil
   obtain ⟨b2,o2,rfl,hb2,cb,_,_⟩:=hb.at (i:=i) him
   refine Xa (An2 @hiZ @hlZ) ?_
   refine ⟨Nx { w2 with drawn:=w2.drawn + 1 },bR,rfl,?_⟩
   have h2d:=h2.on (.drawn (B:=w2.heap.size))
   generalize ({ w2 with drawn:=w2.drawn + 1 }:World) = W3 at h2d ⊢
   by_cases hx:l[i] = m[i]
   ·refine Xf (fun W0 hW0=>An2 (ca _ (h2d.on hW0)) (cb _ (h2d.on hW0))) (An3 @hx @hiZ @hlZ) ?_
    refine ⟨Nx,fun w4 h4=>?_⟩
    refine Xa0 ?_
    exact ⟨⟨i + 1,rfl,by omega,by rw [List.take_succ_eq_append_getElem hil,List.take_succ_eq_append_getElem him,he,hx],h2d.on h4⟩,by show l.length - (((i + 1:Nat):Int)).toNat < l.length - ((i:Nat):Int).toNat; omega⟩
   ·refine Xf (fun W0 hW0=>An2 (ca _ (h2d.on hW0)) (cb _ (h2d.on hW0))) (An3 @hx @hiZ @hlZ) ?_
    refine ⟨Nx,fun w4 h4=>?_⟩
    have k:=k _ (h2d.on h4)
    rw [decide_eq_false (fun e=>hx (by subst e; rfl))] at k
    refine Xa0 ?_
    exact k
 ·have hlZ:¬ (l.length:Int) = m.length:=by omega
  have k:=k _ (bR)
  rw [decide_eq_false (fun e=>hl (by rw [e]))] at k
  refine Xa @hlZ ?_
  exact k
theorem b8d {T:TypeId} (b:Nat) (k:K (.bool false) w):oM Tryz.prog (Go.Op.binOp Go.BinOp.eql 56 (.tmp 0) (.const (.pointer none)) 56) T [.pointer (some ⟨b,0,none⟩)] K w:=by
 refine Xa0 ?_
 exact k
set_option maxHeartbeats 4000000 in
theorem g0p (hl:Cd.LaidE w) (hdb:DbT w) (k:∀ w',Bw w w' → K (.bool true) w'):a0a Tryz.prog 12 #[] K w:=by
 apply e7m
 unfold g4e
 obtain ⟨f1,fw1,fb1,fw2,ft,fv,_,fa,_,fc1,fc2,fl,fu⟩:=c9w
 obtain ⟨fn1,fn2⟩:=d2g
 refine e3j (fun w1 lv h1 hL=>?_)
 have hL1:=hL.here
 obtain ⟨lad,lc,hlv⟩:=hL1.isSlice
 have e2:exL.length = 2:=rfl
 rw [e2] at hlv
 subst hlv
 obtain ⟨lb,lo,rfl,hlb,cs0,hcl0,hcc0,hV0,_⟩:=hL1.at (i:=0) (by decide)
 obtain ⟨lb',lo',hlo,_,cs1,hcl1,hcc1,hV1,_⟩:=hL1.at (i:=1) (by decide)
 cases hlo
 subst hV0
 subst hV1
 have a0:=hcc0 0 _ rfl
 have a1:=hcc0 1 _ rfl
 have a2:=hcc0 2 _ rfl
 have b0:=hcc1 0 _ rfl
 have b1:=hcc1 1 _ rfl
 have b2:=hcc1 2 _ rfl
 simp only [exL,List.getElem_cons_zero,List.getElem_cons_succ,Nat.zero_mul,Nat.add_zero,Nat.one_mul] at a0 a1 a2 b0 b1 b2
 have q0:∀ W,Nx w1 W → W.cell? ⟨lb,lo,none⟩ = some (.int .i64 1) ∧ W.cell? ⟨lb,lo + 1,none⟩ = some (.int .i64 1440) ∧ W.cell? ⟨lb,lo + 2,none⟩ = some (.int .i64 (-1)) ∧ W.cell? ⟨lb,lo + 3,none⟩ = some (.int .i64 2) ∧ W.cell? ⟨lb,lo + 3 + 1,none⟩ = some (.int .i64 0) ∧ W.cell? ⟨lb,lo + 3 + 2,none⟩ = some (.int .i64 (-1)):=fun W h=>⟨(h.cell hlb).trans a0,(h.cell hlb).trans a1,(h.cell hlb).trans a2,(h.cell hlb).trans b0,(h.cell hlb).trans b1,(h.cell hlb).trans b2⟩
 have q:=q0 _ (bR)
 refine Xa @q ?_
 refine b7u ⟨1,1440,-1⟩ 2900 (fun w2 h2=>?_)
 rw [fw1]
 have q:=q0 _ h2
 refine Xa @q ?_
 refine e2g ⟨1,1440,-1⟩ 2 (fun w3 h3=>?_)
 rw [fb1]
 have h13:=h2.on h3
 have q:=q0 _ h13
 refine Xa @q ?_
 refine b7u ⟨2,0,-1⟩ 2900 (fun w4 h4=>?_)
 rw [fw2]
 have h14:=h13.on h4
 refine Xa0 ?_
 have hl4:=hl.below (h1.on h14) hl.size
 refine d0r 100 [112,111,111,108] (by decide) hl4 (fun w5 h5=>?_)
 rw [ft]
 have h15:=h14.on h5
 have z15':=h15.size
 refine Xa0 ?_
 refine f6g (fun w6 d dk hd6 f6 ho6 hr6=>?_)
 have h6:Bw w5 w6:=⟨f6.os,f6.tape,f6.output,f6.size,fun i hi=>f6.block i hi id⟩
 have h16:=h15.on h6
 have h06:=h1.on h16
 have hw8:=hl.size
 have s6:Sys w6 d c2g dk:=⟨hd6,hl.below h06 hl.size,fun i hi=>by have:=ho6 i hi; have:=(h1.on h15).size; omega⟩
 refine Xa0 ?_
 refine b4h _ _ (by decide) (by decide) s6.l (fun w7 h7=>?_)
 rw [fn1]
 have s7:=s6.below h7
 refine Xa0 ?_
 refine b4h _ _ (by decide) (by decide) s7.l (fun w8 h8=>?_)
 rw [fn2]
 have s8:=s7.below h8
 refine Xa0 ?_
 show a1o (.bool false) _ _
 refine Xa0 ?_
 refine d1e (fun w9 bv h9 hB9=>?_)
 have s9:=s8.below h9
 have h69:=(h7.on h8).on h9
 have h09:=h06.on h69
 have h19:=h16.on h69
 have gE:f7x exS.g:=⟨by constructor <;> decide,by constructor <;> decide,by constructor <;> decide⟩
 have hsl9:FP (fun i=>i < w9.heap.size ∧ ¬ Own d dk i) w9 (fun W=>SetR W exS bv ∧ c5d W (.slice (some ⟨lb,lo,none⟩) 2 lc) exL):=by
  have r1:=e2r (DbT.next hdb h09)
  have r2:=FP.next hL h19 (fun i hi=>hi.2)
  have z1:=h1.size
  have z15:=h15.size
  have z6:=f6.size
  have z68:=(h7.on h8).size
  have z9:=h9.size
  refine (((FP.and hB9 r1).and r2).imp (fun W hW=>⟨⟨gE,hW.1.1,by constructor <;> decide,hW.1.2⟩,hW.2⟩)).mono (fun i hi=>?_)
  rcases hi with (hi | hi) | hi
  ·exact ⟨hi.2,fun e=>by have:i < w6.heap.size:=s6.d.lt (.inl e); omega⟩
  ·exact ⟨by omega,fun e=>by have:=ho6 i e; omega⟩
  ·exact ⟨by omega,fun e=>by have:=ho6 i e; omega⟩
 refine c8l (w0:=w) hl.size h09 s9 (fun i hi=>by
  rcases hi with hi | hi
  ·have:=ho6 i hi; have:=(h1.on h15).size; omega
  ·exact absurd hi (hr6 i)) (fun i hi=>hi) hsl9 (fun w10 dk10 r10 s10 t10 o10=>?_)
 obtain ⟨B0,B1,B2,q1,q2,e0,e1,i1,e2,i2,e3,B3,q3,x3,e4,i3,x3s,x3d,x3h⟩:=d2f f7k
 rw [e0] at s10 o10 ⊢
 obtain ⟨p,hpb,hph,rfl,hP,hMu⟩:=o10
 refine Xa0 ?_
 refine b8d p.pb ?_
 refine Xa0 ?_
 refine d3p (fun w11 av yv kv h11 hx=>?_)
 have hP11:=hP.next h11
 refine e3e hP11 exH (D:=fun i=>w10.heap.size ≤ i ∧ i < w11.heap.size) (fun i hi=>⟨hi.2,fun e=>by have:=hP.mu_lt i e; omega⟩) hx (fun w12 p12 hP12 t12 ⟨epb12,eb12⟩=>?_)
 rw [e1] at hP12 ⊢
 rw [← epb12]
 refine b2h hP12 0 2900 5 ⟨by omega,by omega⟩ (fun w13 p13 hP13 t13 ⟨epb13,eb13⟩=>?_)
 rw [e2] at hP13 ⊢
 rw [← epb13]
 refine Xa0 ?_
 refine b2h hP13 0 2901 6 ⟨by omega,by omega⟩ (fun w14 p14 hP14 t14 ⟨epb14,eb14⟩=>?_)
 rw [e3] at hP14 ⊢
 rw [← epb14]
 refine Xa0 ?_
 refine b8b hP14.st 0 (fun w15 ov h15 hov=>?_)
 have eA:a9g exS q2.items 0 = (⟨5,[0,2]⟩,0):=by
  rw [i2]
  show (if exI1.status = 1 ∨ exI1.status = 2 then ((c5u exS exI1).1,(0:Int)) else (⟨0,[]⟩,7)) = _
  rw [if_pos (.inl rfl)]
  have:c5u exS exI1 = (⟨5,[0,2]⟩,true):=fu
  rw [this]
 rw [eA] at hov ⊢
 have hP15:=hP14.next h15
 obtain ⟨oa,oc,rfl⟩:=hov.here.isSlice
 refine c1r ?_
 refine a0i b0k (fun g16 w16 h16' hg16 hH16=>?_)
 refine a0h a9f rfl rfl (a6n _ _ _ _) hH16 rfl (fun w17 hg17 hH17=>?_)
 have h1517:Bw w15 w17:=a0k h16' hg17 hg16
 have hP17:=hP15.next h1517
 refine Xa0 ?_
 refine f2g hP17.st 0 2900 (fun w18 h18=>?_)
 rw [show e9j exL q2.items 0 2900 = 0 by rw [i2]; exact fl]
 have hP18:=hP17.next h18
 have c18:=(hH17.next h18).cell 1 (by simp)
 simp only [List.getElem_cons_zero,List.getElem_cons_succ] at c18
 refine h4j @c18 ?_
 have gstep:∀ {o:Op} {T:TypeId} {xs:List Value} {K:VK} {w:World},oM Tryz.prog o T xs K w → gdM (gd (.bool false) false) (oM Tryz.prog o T xs) K w:=fun h=>by
  refine a7z ?_
  exact h
 refine gstep ?_
 refine g8o 0 2 d3a (b8x 2 (by omega)) (fun a20 c20 w20 h20 hF20=>?_)
 have hov20:=((hov.here.next h1517).next h18).next h20
 refine b8c hov20 hF20.here (fun w21 h21=>?_)
 have hP21:=(hP18.next h20).next h21
 have ebd:p14.b = d:=eb14.trans (eb13.trans (eb12.trans hpb))
 refine Xa0 ?_
 have hd21:=hP21.sys.d
 rw [ebd] at hd21
 refine c0m hd21 (kl:=[]) ⟨none,0,rfl,fun _=>⟨rfl,rfl⟩,.inl rfl⟩ (by decide) (fun w' _=>⟨none,0,rfl,fun _=>⟨rfl,rfl⟩,.inl rfl⟩) (fun w22 dk22 hd22 t22=>?_)
 refine Xa0 ?_
 refine c9a hd22 (fun w23 hd23 t23=>?_)
 refine Xa0 ?_
 have hS21:=hP21.sys
 rw [ebd] at hS21
 have s23:=(hS21.step hd22 t22).step hd23 t23
 have hy23:∀ i,Own d dk22 i ∨ Rdb dk22 i → w.heap.size ≤ i:=fun i hi=>by
  have hz:=hP21.bl.size
  rcases hi with hi | hi
  ·rcases t22.own i hi with e | e
   ·exact hP21.yg i (.inl (by rw [ebd]; exact e))
   ·omega
  ·rcases t22.rd i hi with e | e
   ·exact hP21.yg i (.inr (.inl e))
   ·omega
 have b22:Bw w w22:=hP21.bl.trans ⟨t22.fr.os,t22.fr.tape,t22.fr.output,t22.fr.size,fun i hi=>t22.fr.block i (by have:=hP21.bl.size; omega) (fun e=>by have:=hP21.yg i (.inl (by rw [ebd]; exact e)); omega)⟩
 have b23:Bw w w23:=b22.trans ⟨t23.fr.os,t23.fr.tape,t23.fr.output,t23.fr.size,fun i hi=>t23.fr.block i (by have:=b22.size; omega) (fun e=>by have:=hy23 i (.inl e); omega)⟩
 refine d1e (fun w24 bv2 h24 hB24=>?_)
 have s24:=s23.below h24
 have b24:=b23.trans (h24.mono b23.size)
 have hsl24:FP (fun i=>i < w24.heap.size ∧ ¬ Own d dk22 i) w24 (fun W=>SetR W exS bv2 ∧ c5d W (.slice (some ⟨lb,lo,none⟩) 2 lc) exL):=by
  have z1:=h1.size
  have z15:=h15.size
  have z19:=h19.size
  have z10:=t10.fr.size
  have z11:=h11.size
  have z12:=t12.fr.size
  have z13:=t13.fr.size
  have z14:=t14.fr.size
  have n0:∀ i,Own d dk i ∨ Rdb dk i → w1.heap.size ≤ i:=fun i hi=>by
   rcases hi with hi | hi
   ·have:=ho6 i hi; omega
   ·exact absurd hi (hr6 i)
  have m0:∀ i,Mu p i → w1.heap.size ≤ i:=fun i hi=>by
   rcases hMu i hi with e | e | e
   ·rcases t10.own i e with e | e
    ·exact n0 i (.inl e)
    ·omega
   ·rcases t10.rd i e with e | e
    ·exact n0 i (.inr e)
    ·omega
   ·omega
  have m12:∀ i,Mu p12 i → w1.heap.size ≤ i:=fun i hi=>(t12.mu i hi).elim (m0 i) (fun e=>by omega)
  have m13:∀ i,Mu p13 i → w1.heap.size ≤ i:=fun i hi=>(t13.mu i hi).elim (m12 i) (fun e=>by omega)
  have m14:∀ i,Mu p14 i → w1.heap.size ≤ i:=fun i hi=>(t14.mu i hi).elim (m13 i) (fun e=>by omega)
  have o22:∀ i,Own d dk22 i → w1.heap.size ≤ i:=fun i hi=>by
   rcases t22.own i hi with e | e
   ·exact m14 i (.inl (by rw [ebd]; exact e))
   ·have:=((((h15.on h1517).on h18).on h20).on h21).size; omega
  have g9:=FP.next hL h19 (fun i hi=>hi.2)
  have g10:=FP.fr g9 t10.fr (fun i hi=>⟨by omega,fun e=>by have:=n0 i (.inl e); omega⟩)
  have g11:=FP.next g10 h11 (fun i hi=>by omega)
  have g12:=FP.fr g11 t12.fr (fun i hi=>⟨by omega,fun e=>by have:=m0 i e; omega⟩)
  have g13:=FP.fr g12 t13.fr (fun i hi=>⟨by omega,fun e=>by have:=m12 i e; omega⟩)
  have g14:=FP.fr g13 t14.fr (fun i hi=>⟨by omega,fun e=>by have:=m13 i e; omega⟩)
  have h1421:=(((h15.on h1517).on h18).on h20).on h21
  have z21:=h1421.size
  have g21:=FP.next g14 h1421 (fun i hi=>by omega)
  have z22:=t22.fr.size
  have z23:=t23.fr.size
  have z24:=h24.size
  have g22:=FP.fr g21 t22.fr (fun i hi=>⟨by omega,fun e=>by have:=m14 i (.inl (by rw [ebd]; exact e)); omega⟩)
  have g23:=FP.fr g22 t23.fr (fun i hi=>⟨by omega,fun e=>by have:=o22 i e; omega⟩)
  have g24:=FP.next g23 h24 (fun i hi=>by omega)
  have r1:=e2r (DbT.next hdb b24)
  have hw8':=hl.size
  refine (((FP.and hB24 r1).and g24).imp (fun W hW=>⟨⟨gE,hW.1.1,by constructor <;> decide,hW.1.2⟩,hW.2⟩)).mono (fun i hi=>?_)
  rcases hi with (hi | hi) | hi
  ·exact ⟨hi.2,fun e=>by have:i < w23.heap.size:=s23.d.lt (.inl e); omega⟩
  ·exact ⟨by omega,fun e=>by have:=o22 i e; omega⟩
  ·exact ⟨by omega,fun e=>by have:=o22 i e; omega⟩
 refine c8l (w0:=w) hl.size b24 s24 hy23 (fun i hi=>hi) hsl24 (fun w25 dk25 r25 s25 t25 o25=>?_)
 rw [e4] at s25 o25 ⊢
 obtain ⟨p3,hpb3,hph3,rfl,hQ,hMu3⟩:=o25
 refine Xa0 ?_
 refine b8d p3.pb ?_
 refine Xa0 ?_
 refine b8b hQ.st 0 (fun w26 ov2 h26 hov2=>?_)
 have eA2:a9g exS q3.items 0 = (⟨0,[]⟩,7):=by
  rw [i3]
  show (if x3.status = 1 ∨ x3.status = 2 then ((c5u exS x3).1,(0:Int)) else (⟨0,[]⟩,7)) = _
  rw [if_neg (by omega)]
 rw [eA2] at hov2 ⊢
 have hQ26:=hQ.next h26
 obtain ⟨oa2,oc2,rfl⟩:=hov2.here.isSlice
 refine c1r ?_
 refine a0i b0k (fun g27 w27 h27 hg27 hH27=>?_)
 refine a0h a9f rfl rfl (a6n _ _ _ _) hH27 rfl (fun w28 hg28 hH28=>?_)
 have h2628:Bw w26 w28:=a0k h27 hg28 hg27
 have hQ28:=hQ26.next h2628
 refine d1d hQ28.st (fun x hx=>by rw [i3,List.mem_singleton] at hx; subst hx; rw [x3h]; exact ⟨by decide,by decide,by decide,fun y hy=>by cases hy⟩) (fun w29 v29 h29 hI29=>?_)
 have hR:=hI29.here
 obtain ⟨va,vc,hva⟩:=hR.isSlice
 rw [i3] at hR hva
 have e1':[x3].length = 1:=rfl
 rw [e1'] at hva
 subst hva
 obtain ⟨vb,vo,rfl,hvb,cs,hcl,hcc,av3,yv3,lv3,rfl,_⟩:=hR.at (i:=0) (by simp)
 have k14:=hcc 14 _ rfl
 have k15:=hcc 15 _ rfl
 simp only [List.getElem_cons_zero,Nat.zero_mul,Nat.add_zero] at k14 k15
 rw [x3s] at k14
 rw [x3d] at k15
 have k:=k w29 ((hQ28.next h29).bl)
 refine Xa (An2 @k14 @k15) ?_
 exact k
end
end Go.Proofs
