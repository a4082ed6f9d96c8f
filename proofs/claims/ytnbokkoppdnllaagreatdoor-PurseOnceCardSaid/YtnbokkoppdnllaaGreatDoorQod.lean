/- Parts of the proof of the seat's statements (JnLaw2, JnSum, JA, JB, JdkA, JdkB, JdkC, JdkD, JdkE, JdkF, ShMap6, JdkG, JdkH, JdkI0, JdkI1, JdkJ, JC, JD, JE, JF, PuLaw3, PuLaw4, UpM, UpQ, UpS, UpT, UpU, UpV, UpW, PuLaw5, FdPoly, FdInv, FdThr, PrUnit, GrLaw, PrSpec, PrFill, PrCom, PrLaw, PrLaw2, PrLaw3, PrLaw4, PrLaw5, PrLaw6, PrSign, PrText, PrCode, PrRange, LsSpec, PrOpen, PuUse, PuLaw6): lemmas about the given translation and plain laws. No condition of their own. -/
import Derived.Test.YtnbokkoppdnllaaGreatDoorQoc
import Derived.Laws.CopyRow
import Derived.Laws.IdiomCopy
set_option linter.all false
set_option maxRecDepth 100000
namespace JnSpec
open CodeSpec DkSpec
variable {all sure:List Bs} {f:Int} {A:Ab} {j:Jn}
def LJ (f:Int) (A:Ab) (j:Jn) (all sure:List Bs):Prop:=(j.broken = false ∧ Live f A j all sure) ∨ (j.broken = true ∧ GoodJ f A all sure)
theorem LJ.good (h:LJ f A j all sure):GoodJ f A all sure:=h.elim (fun h=>h.2.good) (fun h=>h.2)
theorem c9j (s t:Bs) (ht:t ≠ []):a9k s s.length t = s ++ t:=by
 unfold a9k
 rw [if_neg ht]
 have e:s.length + t.length - s.length = t.length:=by omega
 rw [e,List.take_left',List.drop_eq_nil_of_le (by simp),List.append_nil]
 rfl
theorem Live.add (h:Live f A j all sure) (hf:0 ≤ f ∧ f ≤ 15) {t:Bs} (ht:t.length ≤ 20000) (hb:j.bytes + (form t).length ≤ 1048576) {A':Ab} (hF:A'.F = A.F) (hw:WF A') (hd:A'.down = A.down) :
  Live f (b9a A' f j.bytes (form t)) ⟨j.recs ++ [t],j.bytes + (form t).length,false⟩ (all ++ [t]) sure:=by
 have hne:form t ≠ []:=List.length_pos_iff.1 (a7o t)
 have hw2:=f7o hw f j.bytes (form t) (by omega) (by omega)
 have e:(b9a A' f j.bytes (form t)).F f = (a2h (j.recs ++ [t]),(A.F f).2):=by
  unfold b9a
  rw [if_neg hne]
  show b0n A'.F f _ f = _
  rw [a2o,hF,h.x,h.bytes,c9j _ _ hne,a4k]
  simp [a2h]
 have hg:=h.good.more ht
 refine ⟨⟨hw2,hg.few,hg.sub,?_,?_⟩,by rw [h.recs],h.pre.trans (List.prefix_append _ _),by rw [e],?_,?_⟩
 ·rw [e,h.recs]; exact Ok.own (h.pre.trans (List.prefix_append _ _))
 ·rw [e]; exact hg.y
 ·dsimp only
  rw [a4k,List.length_append,h.bytes]
  simp [a2h]
 ·have:(b9a A' f j.bytes (form t)).down = A'.down:=by
   unfold b9a; rw [if_neg hne]
  rw [this,hd]; exact h.up
theorem d8w {A:Ab} (hd:A.down = false) (hf:0 ≤ f ∧ f ≤ 15) {n:Nat} {s:Bs} (hb:n + s.length ≤ 16777216) :
  ((a6s A f n s).1 = 0 ∧ (a6s A f n s).2 = b9a (a3m A).2 f n s) ∨ ((a6s A f n s).1 = 8 ∧ ∃ keep,(a6s A f n s).2 = a4c (b9a (a3m A).2 f n s) keep):=by
 have hw:wrA (a3m A).2 f n s = (0,b9a (a3m A).2 f n s):=by
  unfold wrA
  rw [b1q (by rw [(a5c A).2.1]; exact hd) (by omega),if_neg (by simp),if_neg (by omega),if_neg (by omega)]
  simp
 unfold a6s
 rw [hw]
 split
 ·exact .inr ⟨rfl,_,rfl⟩
 ·exact .inl ⟨rfl,rfl⟩
theorem b6a (h:LJ f A j all sure) (hf:0 ≤ f ∧ f ≤ 15) (t:Bs) :
  ((a0g A f j t).1 = 0 ∧ (a0g A f j t).2.2.recs = j.recs ++ [t] ∧ LJ f (a0g A f j t).2.1 (a0g A f j t).2.2 (all ++ [t]) sure) ∨
  ((a0g A f j t).1 = 8 ∧ (a0g A f j t).2.2.recs = j.recs ∧ LJ f (a0g A f j t).2.1 (a0g A f j t).2.2 (all ++ [t]) sure) ∨
  (((a0g A f j t).1 = 7 ∨ (a0g A f j t).1 = 3 ∨ (a0g A f j t).1 = 6) ∧ (a0g A f j t).2.2.recs = j.recs ∧ LJ f (a0g A f j t).2.1 (a0g A f j t).2.2 all sure):=by
 rcases h with ⟨hb,hl⟩ | ⟨hb,hg⟩
 ·unfold a0g
  rw [if_neg (by rw [hb]; simp)]
  by_cases h1:20000 < t.length
  ·rw [if_pos h1]; exact .inr (.inr ⟨.inr (.inl rfl),rfl,.inl ⟨hb,hl⟩⟩)
  rw [if_neg h1]
  by_cases h2:1048576 < j.bytes + (form t).length
  ·rw [if_pos h2]; exact .inr (.inr ⟨.inr (.inr rfl),rfl,.inl ⟨hb,hl⟩⟩)
  rw [if_neg h2]
  have ha:=hl.add hf (t:=t) (by omega) (by omega) (A':=(a3m A).2) (a5c A).1 (b5b hl.good.wf) (a5c A).2.1
  rcases d8w hl.up hf (n:=j.bytes) (s:=form t) (by omega) with ⟨w1,w2⟩ | ⟨w1,keep,w2⟩
  ·rw [if_neg (by rw [w1]; simp)]
   refine .inl ⟨rfl,rfl,.inl ⟨rfl,?_⟩⟩
   dsimp only
   rw [w2]; exact ha
  ·rw [if_pos (by rw [w1]; simp)]
   refine .inr (.inl ⟨w1,rfl,.inr ⟨rfl,?_⟩⟩)
   dsimp only
   rw [w2]; exact ha.good.crash keep
 ·unfold a0g
  rw [if_pos hb]
  exact .inr (.inr ⟨.inl rfl,rfl,.inr ⟨hb,hg⟩⟩)
theorem c3h (h:LJ f A j all sure) (hf:0 ≤ f ∧ f ≤ 15) :
  (a5p A f j).2.2.recs = j.recs ∧ (((a5p A f j).1 = 0 ∧ LJ f (a5p A f j).2.1 (a5p A f j).2.2 all j.recs) ∨ ((a5p A f j).1 ≠ 0 ∧ LJ f (a5p A f j).2.1 (a5p A f j).2.2 all sure)):=by
 rcases h with ⟨hb,hl⟩ | ⟨hb,hg⟩
 ·have hs:=hl.good.sync
  unfold a5p
  rw [if_neg (by rw [hb]; simp)]
  dsimp only
  refine ⟨rfl,?_⟩
  by_cases he:(a3i A f).1 = 0
  ·refine .inl ⟨he,.inl ⟨by simp [he],?_⟩⟩
   obtain ⟨_,_,hd,hfi,_,_⟩:=d3z hl.good.wf he
   have hF:=hfi.1
   rw [hl.x] at hF
   have hfew:=hl.good.few
   have hrec:=hl.recs
   have ho:Ok all j.recs (a2h j.recs):=by rw [hrec]; exact Ok.own (List.prefix_refl _)
   exact ⟨⟨hs.wf,hs.few,by rw [hrec]; exact List.prefix_refl _,by rw [hF]; exact ho,by rw [hF]; exact ho⟩,hrec,List.prefix_refl _,by rw [hF],hl.bytes,hd⟩
  ·exact .inr ⟨he,.inr ⟨by simp [he],hs⟩⟩
 ·unfold a5p
  rw [if_pos hb]
  exact ⟨rfl,.inr ⟨by simp,.inr ⟨hb,hg⟩⟩⟩
theorem GoodJ.start (h:GoodJ f A all sure):GoodJ f (b1i A) all sure:=h.same (d4h h.wf) rfl
theorem GoodJ.lose (h:GoodJ f A all sure) (n:Int) (hn:n < 2 ^ 63):GoodJ f (d4b A n) all sure:=h.same (e4r h.wf n hn) rfl
theorem GoodJ.arm (h:GoodJ f A all sure) (n:Int) (hn:n < 2 ^ 63) (keep:List Int) (hk:∀ x ∈ keep,-2 ^ 63 ≤ x ∧ x < 2 ^ 63) (hl:keep.length < 2 ^ 62):GoodJ f (g1n A n keep) all sure:=h.same (d4g h.wf n hn keep hk hl) rfl
theorem Live.same (h:Live f A j all sure) {B:Ab} (hg:GoodJ f B all sure) (hF:B.F = A.F) (hd:B.down = A.down):Live f B j all sure:=⟨hg,h.recs,h.pre,by rw [hF]; exact h.x,h.bytes,by rw [hd]; exact h.up⟩
theorem LJ.lose (h:LJ f A j all sure) (n:Int) (hn:n < 2 ^ 63):LJ f (d4b A n) j all sure:=
 h.imp (fun h=>⟨h.1,h.2.same (h.2.good.lose n hn) rfl rfl⟩) (fun h=>⟨h.1,h.2.lose n hn⟩)
theorem LJ.arm (h:LJ f A j all sure) (n:Int) (hn:n < 2 ^ 63) (keep:List Int) (hk:∀ x ∈ keep,-2 ^ 63 ≤ x ∧ x < 2 ^ 63) (hl:keep.length < 2 ^ 62):LJ f (g1n A n keep) j all sure:=
 h.imp (fun h=>⟨h.1,h.2.same (h.2.good.arm n hn keep hk hl) rfl rfl⟩) (fun h=>⟨h.1,h.2.arm n hn keep hk hl⟩)
theorem b9i (f:Int):GoodJ f c2g [] []:=⟨d4e,(fun t ht=>by cases ht),List.prefix_refl _,⟨trivial,List.nil_prefix⟩,⟨trivial,List.nil_prefix⟩⟩
end JnSpec
namespace JnSpec
open CodeSpec
theorem b8l (a b:a0f):∀ i:Nat,a3n i (a ++ b) = a3n i a + a3n (i + a.length) b:=by
 induction a with
 | nil=>intro i; simp [a3n]
 | cons c a ih=>
  intro i
  simp only [List.cons_append,a3n,List.length_cons]
  rw [ih (i + 1)]
  have:i + 1 + a.length = i + (a.length + 1):=by omega
  rw [this]
  omega
theorem c9k (s:a0f) (i:Nat) (h:i < s.length):b2o (s.take (i + 1)) = b2o (s.take i) + (s[i].toNat:Int) * ((i:Int) + 1):=by
 have e:s.take (i + 1) = s.take i ++ [s[i]]:=by rw [List.take_add_one,List.getElem?_eq_getElem h]; rfl
 unfold b2o
 have hl:(s.take i).length = i:=by rw [List.length_take]; omega
 rw [e,b8l,Nat.zero_add,hl]
 simp only [a3n]
 omega
theorem b1j {s:a0f} (hs:s.length ≤ 16777216) (i:Nat):0 ≤ b2o (s.take i) ∧ b2o (s.take i) < 9223372036854775807:=by
 have h1:=b0t (s:=s.take i) (by rw [List.length_take]; omega)
 have h2:=b3r (s.take i)
 have h3:=g5b (n:=(s.take i).length) (m:=16777216) (by rw [List.length_take]; omega)
 have:(255:Int) * (16777216:Nat) * (16777216:Nat) < 9223372036854775807:=by decide
 exact ⟨h1.2,by omega⟩
theorem b2p {s:a0f} (hs:s.length ≤ 16777216):(form s).length ≤ s.length + 64:=by
 have h1:=(b0t hs)
 have h2:=a6d s.length 20 (by omega) (by omega)
 have h3:=a6d (b2o s).toNat 20 (by omega) (by have:=h1.1.2; omega)
 have e1:Go.Lib.itoa (s.length:Int) = Go.Lib.decDigits s.length:=by
  unfold Go.Lib.itoa
  rw [if_neg (by omega)]
  simp
 have e2:Go.Lib.itoa (b2o s) = Go.Lib.decDigits (b2o s).toNat:=by
  unfold Go.Lib.itoa
  rw [if_neg (by omega)]
 rw [b3s]
 simp only [List.length_append,List.length_cons,List.length_nil,e1,e2]
 omega
end JnSpec
namespace Go.Proofs
open Go Go.Sh Go.RowKit CodeSpec JnSpec
section
variable {K:VK} {w w0:World} {L:List (Addr × Value)}
def SuJ (s:List UInt8) (w0:World) (vs:List Value) (w':World):Prop:=w' = w0 ∧ ∃ (u:Value) (i:Nat),vs = [u,.int .i64 (b2o (s.take i)),.int .i64 (i:Int)] ∧ i ≤ s.length
def h2n (n:Nat):List Value → World → Nat
 | [_,_,.int _ i],_=>n - i.toNat
 | _,_=>0
theorem f8h (n:Nat) (a b:Value) (k:IntKind) (i:Int) (w:World):h2n n [a,b,.int k i] w = n - i.toNat:=rfl
theorem d8d (s:List UInt8) (hs:s.length ≤ 16777216) (k:K (.int .i64 (b2o s)) w):a0a Tryz.prog 170 #[.string ⟨s.toArray⟩] K w:=by
 apply d6b
 unfold f4g
 refine Xa0 ?_
 refine ⟨SuJ s w,h2n s.length,⟨rfl,undef,0,rfl,by omega⟩,?_⟩
 rintro _ _ _ ⟨rfl,u,i,rfl,hi⟩
 by_cases hin:i = s.length
 ·rw [List.take_of_length_le (by omega)]
  refine Xa0 ?_
  exact k
 have hlt:i < s.length:=by omega
 have hb:=b1j hs (i + 1)
 have hb0:=b1j hs i
 rw [c9k s i hlt] at hb
 refine Xa0 ?_
 have ec:s[i]?.getD 0 = s[i]:=by rw [gE hlt]; rfl
 have hst:=c9k s i hlt
 rw [ec]
 have hc:=s[i].toNat_lt
 generalize s[i].toNat = c at *
 have hp:0 ≤ (c:Int) * ((i:Int) + 1):=Int.mul_nonneg (by omega) (by omega)
 have e1:IntKind.i64.wrap (c:Int) = c:=by rw [a0o] <;> omega
 rw [e1]
 generalize (c:Int) * ((i:Int) + 1) = p at *
 have e2:IntKind.i64.wrap p = p:=by rw [a0o] <;> omega
 rw [e2]
 have e3:IntKind.i64.wrap (b2o (s.take i) + p) = b2o (s.take i) + p:=by rw [a0o] <;> omega
 rw [e3,← hst]
 refine ⟨⟨rfl,_,i + 1,rfl,by omega⟩,?_⟩
 simp only [f8h]; omega
theorem d8e (s:List UInt8) (hs:s.length ≤ 16777216) (hl:Cd.LaidE w) (k:∀ w',Bw w w' → K (.string ⟨(form s).toArray⟩) w'):a0a Tryz.prog 156 #[.string ⟨s.toArray⟩] K w:=by
 apply d6c
 unfold f4h
 refine Cd.pText_ok s (by omega) hl.toLaid (fun w1 h1=>?_)
 refine d8d s hs ?_
 refine Cd.pNum_ok (b2o s) (b0t hs).1 (hl.below h1 hl.size).toLaid (fun w2 h2=>?_)
 have h1l:=Cd.encText_len s (by omega)
 have h3:=b2p hs
 have h4:(form s).length = (a1g s).length + (a2n (b2o s)).length:=by simp [form]
 refine Xa0 ?_
 exact Cd.K_eq (k _ (h1.trans (h2.mono h1.size))) (by simp [form])
end
end Go.Proofs
namespace Go.Proofs
open Go Go.Sh Go.RowKit CodeSpec JnSpec Go.Lib
theorem d8f {w w2 w3:World} {B:Nat} {e:TypeId} {sz n:Nat} {v:Value} {xs:List Value} (h:Below B w w2) (hown:w2.ownsRow B e sz v n xs) (hB:B ≤ w2.heap.size) (hg:w2.grownBy w3 v.ownBlock):Below B w w3:=
 h.trans (Cd.below_of_grown hg hB (fun k hk=>by
  rcases hown.2 with ⟨rfl,_⟩ | ⟨g,cap,cur,rfl,hb,_⟩
  ·cases hk
  ·simp [Value.ownBlock] at hk; omega))
theorem d8g (s:List UInt8):(a1w ⟨s,false⟩).1.length ≤ s.length:=by
 rcases a5b ⟨s,false⟩ Rd.ok_good with h | ⟨t,u,h,h2,_⟩
 ·rw [h]; simp
 ·rw [h]
  have:=congrArg (fun r=>r.rest.length) h2
  simp [a1g] at this ⊢
  omega
theorem b8j (s:List UInt8):(a1w ⟨s,false⟩).2.rest.length ≤ s.length:=by
 rcases a5b ⟨s,false⟩ Rd.ok_good with h | ⟨t,u,h,h2,_⟩
 ·rw [h]; simp [failed]
 ·rw [h]
  have:=congrArg (fun r=>r.rest.length) h2
  simp [a1g] at this ⊢
  omega
section
variable {K:VK} {w w0:World}
def RdJ (s:List UInt8) (w:World) (vs:List Value) (w':World):Prop:=∃ (a b c d e v:Value) (n:Nat) (xs:List (List UInt8)),vs = [a,b,c,d,e,v,.int .i64 (n:Int)] ∧ n ≤ s.length ∧ w'.ownsRow w.heap.size 9 1 v xs.length (xs.map Cd.strV) ∧ Bw w w' ∧ readJ s = (xs ++ (readJ (s.drop n)).1,n + (readJ (s.drop n)).2) ∧ xs.length ≤ n
def RdE (s:List UInt8) (w:World) (vs:List Value) (w':World):Prop:=∃ (a b c d e v:Value),vs = [a,b,c,d,e,v,.int .i64 (((readJ s).2:Nat):Int)] ∧ w'.ownsRow w.heap.size 9 1 v (readJ s).1.length ((readJ s).1.map Cd.strV) ∧ Bw w w'
def h2o (m:Nat):List Value → World → Nat
 | [_,_,_,_,_,_,.int _ i],_=>m - i.toNat
 | _,_=>0
theorem f8i (m:Nat) (a b c d e v:Value) (k:IntKind) (i:Int) (w:World):h2o m [a,b,c,d,e,v,.int k i] w = m - i.toNat:=rfl
theorem e8d (s:List UInt8) (hs:s.length ≤ 16777216) (hl:Cd.LaidE w) (k:∀ v w',w'.ownsRow w.heap.size 9 1 v (readJ s).1.length ((readJ s).1.map Cd.strV) → Bw w w' → K (.tuple #[v,.int .i64 (readJ s).2]) w'):a0a Tryz.prog 129 #[.string ⟨s.toArray⟩] K w:=by
 apply d6d
 unfold f4i
 refine Xa0 ?_
 refine ⟨RdE s w,?_,?_⟩
 rotate_left
 ·rintro _ _ w2 ⟨_,_,_,_,_,v,rfl,hown,hb⟩
  simp only [List.getD_cons_zero,List.getD_cons_succ]
  exact k v w2 hown hb
 refine ⟨RdJ s w,h2o s.length,⟨_,_,_,_,_,_,0,[],rfl,by omega,World.ownsRow_nil _ _ _ _,bR,by simp,by simp⟩,?_⟩
 rintro _ _ w2 ⟨_,_,_,_,_,v,n,xs,rfl,hn,hown,hb2,hrd,hxn⟩
 simp only [List.getD_cons_zero,List.getD_cons_succ]
 have hz2:=hb2.size
 by_cases hlt:n < s.length
 ·have hdl:(s.drop n).length = s.length - n:=by simp
  have htl:List.take s.length s = s:=List.take_length
  refine Xa @htl ?_
  refine Cd.open_ok _ (fun w3 hr3 hb3=>?_)
  have hb23:=hb2.trans (hb3.mono hz2)
  have hz3:=hb3.size
  have hlt3:=hr3.lt
  have hl3:Cd.LaidE w3:=hl.below hb23 hl.size
  have hown3:=hown.kept (Cd.grown_of_below hb3 none) (by
   rcases hown.2 with ⟨rfl,_⟩ | ⟨g,cap,cur,rfl,_⟩
   ·left; rfl
   ·right; simp [Value.ownBlock])
  refine Cd.rtext_ok _ _ hl3 (by simp; omega) hr3 (fun w4 hr4 hg4=>?_)
  have ht:=d8g (s.drop n)
  have ht2:=b8j (s.drop n)
  have hb4:Below w2.heap.size w3 w4:=Cd.below_of_grown hg4 (by omega) (fun k hk=>by cases hk; omega)
  have hz4:=hb4.size
  have hl4:Cd.LaidE w4:=hl3.below (hb4.mono hz2) hl.size
  refine Cd.rnum_ok _ _ hl4 (by omega) hr4 (fun w5 hr5 hg5=>?_)
  have hb5:Below w2.heap.size w4 w5:=Cd.below_of_grown hg5 (by omega) (fun k hk=>by cases hk; omega)
  have hz5:=hb5.size
  have hl5:Cd.LaidE w5:=hl4.below (hb5.mono hz2) hl.size
  obtain ⟨t,et⟩:∃ t,t = (a1w ⟨s.drop n,false⟩).1:=⟨_,rfl⟩
  obtain ⟨m,em⟩:∃ m,m = (a3w (a1w ⟨s.drop n,false⟩).2).1:=⟨_,rfl⟩
  rw [← et,← em]
  rw [← et] at ht
  refine d8e t (by omega) hl5 (fun w6 hb6=>?_)
  have hfl:=b2p (s:=t) (by omega)
  have hfp:=a7o t
  have hz6:=hb6.size
  have hb36:Bw w2 w6:=(hb3.trans (hb4.trans (hb5.trans (hb6.mono (by omega)))))
  have hown6:=hown.kept (Cd.grown_of_below hb36 none) (by
   rcases hown.2 with ⟨rfl,_⟩ | ⟨g,cap,cur,rfl,_⟩
   ·left; rfl
   ·right; simp [Value.ownBlock])
  have hb06:=hb2.trans (hb36.mono hz2)
  have hf1:first (s.drop n) = if d1u (s.drop n) t m then none else some t:=by rw [et,em]; rfl
  refine ⟨fun vs w'=>vs = [.bool (decide (d1u (s.drop n) t m))] ∧ w' = w6,?_,?_⟩
  ·by_cases h1:20000 < t.length
   ·have hb:d1u (s.drop n) t m:=.inl h1
    refine Xa0 ?_
    exact ⟨by simp [hb]; omega,rfl⟩
   ·by_cases h2:m = b2o t
    ·have e1:¬ (20000:Int) < t.length:=by omega
     refine Xa0 ?_
     refine d8d t (by omega) ?_
     by_cases h3:(s.drop n).length < (form t).length
     ·have hb:d1u (s.drop n) t m:=.inr (.inr (.inl h3))
      refine Xa0 ?_
      exact ⟨by simp [hb]; omega,rfl⟩
     ·have e4:((n:Int) + ((form t).length:Int)).toNat = n + (form t).length:=by omega
      have e5:(s.take (n + (form t).length)).drop n = (s.drop n).take (form t).length:=by
       rw [List.drop_take]
       congr 1
       omega
      have hb:d1u (s.drop n) t m ↔ ¬ (s.drop n).take (form t).length = form t:=by
       unfold d1u
       constructor
       ·rintro (h | h | h | h)
        ·exact absurd h h1
        ·exact absurd h2 h
        ·exact absurd h h3
        ·exact h
       ·exact fun h=>.inr (.inr (.inr h))
      refine Xa0 ?_
      refine ⟨?_,rfl⟩
      rw [e4,e5]
      simp [hb]
    ·have hb:d1u (s.drop n) t m:=.inr (.inl h2)
     refine Xa0 ?_
     refine d8d t (by omega) ?_
     refine Xa0 ?_
     exact ⟨by simp [hb]; exact h2,rfl⟩
  ·rintro _ _ w7 ⟨rfl,rfl⟩
   simp only [List.getD_cons_zero]
   by_cases hbad:d1u (s.drop n) t m
   ·rw [if_pos hbad] at hf1
    rw [a6o hf1] at hrd
    simp only [hbad,decide_true]
    refine Xa0 ?_
    have e2:(readJ s).2 = n:=by rw [hrd]; rfl
    have e3:(readJ s).1 = xs:=by rw [hrd]; simp
    unfold RdE
    rw [e2,e3]
    exact ⟨_,_,_,_,_,v,rfl,hown6,hb06⟩
   ·rw [if_neg hbad] at hf1
    have hfs:=a8e hf1
    rw [b0u hf1] at hrd
    simp only [hbad,decide_false]
    have hl1:=congrArg List.length hfs.2
    rw [List.length_append] at hl1
    have hby:(xs.length + 1) * Tryz.t9.bytes ≤ 140737488355328:=by
     have:Tryz.t9.bytes = 16:=by kernel_rfl
     rw [this]
     omega
    refine Xa0 ?_
    refine b3e (base:=w.heap.size) (n:=xs.length) (xs:=xs.map Cd.strV) (i:=Tryz.t9) (z:=.string ⟨#[]⟩) (cs:=#[Cd.strV t]) Tryz.underlying157 (by kernel_rfl) (by kernel_rfl) rfl rfl (by simp) (by simp [Value.oneCell',Cd.strV]) hown6 (by omega) (by unfold maxLen; omega) hby ?_
    intro v' w8 ho8 hg8
    refine Xa0 ?_
    refine ⟨⟨_,_,_,_,_,v',n + (form t).length,xs ++ [t],rfl,by omega,by simpa using ho8,d8f hb06 hown6 (by omega) hg8,?_,by simp; omega⟩,by simp only [f8i]; omega⟩
    rw [hrd,List.drop_drop]
    simp [Nat.add_assoc]
 ·obtain rfl:n = s.length:=by omega
  have e0:readJ (s.drop s.length) = ([],0):=by rw [List.drop_length]; exact a6o a9s
  rw [e0] at hrd
  refine Xa0 ?_
  have e2:(readJ s).2 = s.length:=by rw [hrd]; rfl
  have e3:(readJ s).1 = xs:=by rw [hrd]; simp
  unfold RdE
  rw [e2,e3]
  exact ⟨_,_,_,_,_,v,rfl,hown,hb2⟩
end
end Go.Proofs
namespace Go.Proofs
open Go Go.Sh Go.RowKit DkSpec
@[reducible] def bsV (s:Bs):Value:=.string ⟨s.toArray⟩
def flV (x:Bs × Bs):Value:=.agg #[bsV x.1,bsV x.2]
def c3b (n:Int):Value:=.int .i64 n
def b8k (p:Int × Int):Value:=.agg #[.int .i64 p.1,.int .i64 p.2]
def b5f (p:Int × Int):List Value:=[.int .i64 p.1,.int .i64 p.2]
theorem g8s:KeyOK Tryz.prog 3 c3b:=g6c (by kernel_rfl)
theorem g8t:KeyOK Tryz.prog 147 b8k where
 find:=fun w k es ks h=>by
  refine (run_findKey_eq w (by kernel_rfl) _ _).trans ?_
  have:=c4i (P:=Tryz.prog) (kt:=147) b8k (fun w a b=>by
   simp [Op.equal,Op.maxDepth,b8k,go_sem]
   obtain ⟨a1,a2⟩:=a
   obtain ⟨b1,b2⟩:=b
   by_cases h1:a1 = b1 <;> by_cases h2:a2 = b2 <;> simp [h1,h2]) w k es ks 0 h
  simpa using this
 check:=fun b w k=>by
  have h:∀ n,(Instr.checkKey b (n + 2) 147 (b8k k)).run Tryz.prog w = .ok () w:=by
   intro n
   simp [Instr.checkKey,b8k,go_sem]
  exact h 9998
 same:=fun k=>by simp [b8k,Instr.sameBits]
structure Dk where
 fm:Nat
 sm:Nat
 q:Value
 kp:Value
def a0x (A:Ab) (h:Dk):Array Value:=#[.map (some h.fm),h.q,.map (some h.sm),.int .i64 A.lost,.bool A.down,.int .i64 A.armed,h.kp]
structure IsDk (w:World) (b:Nat) (A:Ab) (h:Dk):Prop where
 blk:w.heap[b]? = some (.cells (a0x A h) 145 (0,0))
 files:∃ l,MapIs c3b w h.fm l ∧ ∀ f,(a3k l f).getD (flV ([],[])) = flV (A.F f)
 set:∃ sl,MapIs b8k w h.sm sl ∧ ∀ p,a3k sl p = if p ∈ A.queue then some (.bool true) else none
 que:w.ownsRow 0 147 2 h.q A.queue.length (a2g b5f A.queue)
 kep:w.ownsRow 0 3 1 h.kp A.keep.length (A.keep.map c3b)
 ne:h.fm ≠ h.sm
 wf:WF A
def Own (b:Nat) (h:Dk) (i:Nat):Prop:=i = b ∨ i = h.fm ∨ i = h.sm ∨ h.q.ownBlock = some i
def Rdb (h:Dk) (i:Nat):Prop:=h.kp.ownBlock = some i
structure Step (w:World) (b:Nat) (h:Dk) (w':World) (h':Dk):Prop where
 fr:Fr (Own b h) w w'
 own:∀ i,Own b h' i → Own b h i ∨ w.heap.size ≤ i
 rd:∀ i,Rdb h' i → Rdb h i ∨ w.heap.size ≤ i
theorem Step.refl (w:World) (b:Nat) (h:Dk):Step w b h w h:=⟨Fr.refl _ _,fun _ h=>.inl h,fun _ h=>.inl h⟩
theorem Step.trans {w w1 w2:World} {b:Nat} {h h1 h2:Dk} (a:Step w b h w1 h1) (c:Step w1 b h1 w2 h2):Step w b h w2 h2:=
 ⟨a.fr.trans c.fr a.own,fun i hi=>(c.own i hi).elim (a.own i) (fun h=>.inr (Nat.le_trans a.fr.size h)),fun i hi=>(c.rd i hi).elim (a.rd i) (fun h=>.inr (Nat.le_trans a.fr.size h))⟩
section
variable {w w':World} {b:Nat} {A:Ab} {h:Dk}
theorem IsDk.lt (d:IsDk w b A h) {i:Nat} (hi:Own b h i ∨ Rdb h i):i < w.heap.size:=by
 rcases hi with (rfl | rfl | rfl | hi) | hi
 ·exact (Array.getElem?_eq_some_iff.1 d.blk).1
 ·obtain ⟨l,hl,_⟩:=d.files; exact hl.lt
 ·obtain ⟨l,hl,_⟩:=d.set; exact hl.lt
 ·exact (a0p d.que hi).1
 ·exact (a0p d.kep hi).1
theorem IsDk.keep (d:IsDk w b A h) (hk:∀ i,Own b h i ∨ Rdb h i → w'.heap[i]? = w.heap[i]?):IsDk w' b A h:=by
 refine ⟨?_,?_,?_,a0r d.que (fun i hi=>hk i (.inl (.inr (.inr (.inr hi))))),a0r d.kep (fun i hi=>hk i (.inr hi)),d.ne,d.wf⟩
 ·rw [hk b (.inl (.inl rfl))]; exact d.blk
 ·obtain ⟨l,hl,h2⟩:=d.files
  exact ⟨l,hl.of_block (hk _ (.inl (.inr (.inl rfl)))),h2⟩
 ·obtain ⟨l,hl,h2⟩:=d.set
  exact ⟨l,hl.of_block (hk _ (.inl (.inr (.inr (.inl rfl))))),h2⟩
theorem MapIs.isMap {κ:Type} {mk:κ → Value} {i:Nat} {l:List (κ × Value)} (h:MapIs mk w i l):∃ es c,w.heap[i]? = some (.map es c):=by
 obtain ⟨es,c,h,_⟩:=h; exact ⟨es,c,h⟩
theorem IsDk.bfm (d:IsDk w b A h):b ≠ h.fm:=by
 obtain ⟨l,hl,_⟩:=d.files
 obtain ⟨es,c,h1⟩:=MapIs.isMap hl
 intro e
 have h2:=d.blk
 rw [e,h1] at h2; cases h2
theorem IsDk.bsm (d:IsDk w b A h):b ≠ h.sm:=by
 obtain ⟨l,hl,_⟩:=d.set
 obtain ⟨es,c,h1⟩:=MapIs.isMap hl
 intro e
 have h2:=d.blk
 rw [e,h1] at h2; cases h2
theorem IsDk.qne (d:IsDk w b A h) {i:Nat} (hi:h.q.ownBlock = some i):i ≠ b ∧ i ≠ h.fm ∧ i ≠ h.sm:=by
 obtain ⟨_,_,cur,hc⟩:=a0p d.que hi
 refine ⟨?_,?_,?_⟩
 ·rintro rfl; rw [d.blk] at hc; cases hc
 ·rintro rfl
  obtain ⟨l,hl,_⟩:=d.files
  obtain ⟨es,c,h1⟩:=MapIs.isMap hl
  rw [h1] at hc; cases hc
 ·rintro rfl
  obtain ⟨l,hl,_⟩:=d.set
  obtain ⟨es,c,h1⟩:=MapIs.isMap hl
  rw [h1] at hc; cases hc
theorem IsDk.kne (d:IsDk w b A h) {i:Nat} (hi:h.kp.ownBlock = some i):i ≠ b ∧ i ≠ h.fm ∧ i ≠ h.sm ∧ h.q.ownBlock ≠ some i:=by
 obtain ⟨_,_,cur,hc⟩:=a0p d.kep hi
 refine ⟨?_,?_,?_,?_⟩
 ·rintro rfl; rw [d.blk] at hc; cases hc
 ·rintro rfl
  obtain ⟨l,hl,_⟩:=d.files
  obtain ⟨es,c,h1⟩:=MapIs.isMap hl
  rw [h1] at hc; cases hc
 ·rintro rfl
  obtain ⟨l,hl,_⟩:=d.set
  obtain ⟨es,c,h1⟩:=MapIs.isMap hl
  rw [h1] at hc; cases hc
 ·intro hq
  obtain ⟨_,_,cur',hc'⟩:=a0p d.que hq
  rw [hc] at hc'; cases hc'
theorem IsDk.cells (d:IsDk w b A h) {A':Ab} (hF:A'.F = A.F) (hq:A'.queue = A.queue) (hk:A'.keep = A.keep) (hw:WF A') (hb:w'.heap[b]? = some (.cells (a0x A' h) 145 (0,0))) (ho:∀ i,i ≠ b → w'.heap[i]? = w.heap[i]?):IsDk w' b A' h:=by
 refine ⟨hb,?_,?_,?_,?_,d.ne,hw⟩
 ·obtain ⟨l,hl,h2⟩:=d.files
  exact ⟨l,hl.of_block (ho _ d.bfm.symm),by rw [hF]; exact h2⟩
 ·obtain ⟨l,hl,h2⟩:=d.set
  exact ⟨l,hl.of_block (ho _ d.bsm.symm),by rw [hq]; exact h2⟩
 ·rw [hq]; exact a0r d.que (fun i hi=>ho i (d.qne hi).1)
 ·rw [hk]; exact a0r d.kep (fun i hi=>ho i (d.kne hi).1)
theorem IsDk.c (d:IsDk w b A h) (i:Nat):w.cell? ⟨b,i,none⟩ = (a0x A h)[i]?:=a0b d.blk i
theorem IsDk.fz (d:IsDk w b A h) (i:Nat):w.frozen? ⟨b,i,none⟩ = false:=a0v d.blk i
theorem IsDk.set3 (d:IsDk w b A h) (n:Int) (hn:0 ≤ n ∧ n < 2 ^ 63):IsDk (w.setCell ⟨b,3,none⟩ (.int .i64 n)) b { A with lost:=n } h:=
 d.cells rfl rfl rfl ⟨hn.1,hn.2,d.wf.a0,d.wf.a1,d.wf.nd,d.wf.qr,d.wf.sz,d.wf.kr,d.wf.kl⟩ (by rw [a2i d.blk]; rfl) (fun i hi=>a0l _ _ _ _ hi)
theorem IsDk.set4 (d:IsDk w b A h) (t:Bool):IsDk (w.setCell ⟨b,4,none⟩ (.bool t)) b { A with down:=t } h:=
 d.cells rfl rfl rfl ⟨d.wf.l0,d.wf.l1,d.wf.a0,d.wf.a1,d.wf.nd,d.wf.qr,d.wf.sz,d.wf.kr,d.wf.kl⟩ (by rw [a2i d.blk]; rfl) (fun i hi=>a0l _ _ _ _ hi)
theorem IsDk.set5 (d:IsDk w b A h) (n:Int) (hn:0 ≤ n ∧ n < 2 ^ 63):IsDk (w.setCell ⟨b,5,none⟩ (.int .i64 n)) b { A with armed:=n } h:=
 d.cells rfl rfl rfl ⟨d.wf.l0,d.wf.l1,hn.1,hn.2,d.wf.nd,d.wf.qr,d.wf.sz,d.wf.kr,d.wf.kl⟩ (by rw [a2i d.blk]; rfl) (fun i hi=>a0l _ _ _ _ hi)
theorem b0r (w:World) (b i:Nat) (h:Dk) (u:Value):Step w b h (w.setCell ⟨b,i,none⟩ u) h:=⟨(Fr.refl _ _).set _ _ (.inl (.inl rfl)),fun _ h=>.inl h,fun _ h=>.inl h⟩
theorem IsDk.look (d:IsDk w b A h) (f:Int):(Instr.lookup 141 (.map (some h.fm)) (.int .i64 f) false).run Tryz.prog w = .ok (flV (A.F f)) w:=by
 obtain ⟨l,hl,h2⟩:=d.files
 have:=b9x (P:=Tryz.prog) (t:=141) (et:=149) (z:=flV ([],[])) g8s (by kernel_rfl) (fun w=>by kernel_rfl) hl f
 rw [h2] at this
 exact this
end
@[reducible] def dkP (b:Nat):Value:=.pointer (some ⟨b,0,none⟩)
section
variable {w:World} {b:Nat} {A:Ab} {h:Dk} {K:VK}
theorem d8l (d:IsDk w b A h) (f:Int) (k:K (.int .i64 (A.F f).1.length) w):a0a Tryz.prog 128 #[dkP b,.int .i64 f] K w:=by
 apply d5s
 unfold f3x dkP
 have c0:=d.c 0
 simp only [a0x] at c0
 have hl:=d.look f
 repeat (any_goals ((with_reducible refine oG fun X Y=>?_); simp [go_sem,c0,hl,flV,bsV]; apply Y; clear Y X))
 exact k
theorem c8z (d:IsDk w b A h) (f:Int) (k:K (.int .i64 (b8z A f)) w):a0a Tryz.prog 118 #[dkP b,.int .i64 f] K w:=by
 apply d5p
 unfold f3u dkP
 have c4:=d.c 4
 simp only [a0x] at c4
 unfold b8z at k
 repeat (any_goals (first
 | (with_reducible first|refine a1b ?_|((refine b2a ?_); ((refine a7k ?_); first|refine zI ?_|refine zJ ?_|refine zK (fun hg=>?_) fun hg=>?_))|((refine a3s ?_); first|refine yD ?_|refine yE ?_)|((refine a1q ?_); first|refine yL ?_|refine yP (fun hg=>?_) fun hg=>?_|refine yY (fun hg=>?_) fun hg=>?_))
 | ((with_reducible refine oG fun X Y=>?_); simp [go_sem,c4]; apply Y; clear Y X)))
 all_goals (try simp_all)
theorem c9a (d:IsDk w b A h) (k:∀ w',IsDk w' b (b1i A) h → Step w b h w' h → K (.tuple #[]) w'):a0a Tryz.prog 33 #[dkP b] K w:=by
 apply e5j
 unfold g2b dkP
 have c4:=d.c 4
 have f4:=d.fz 4
 simp only [a0x] at c4
 refine Xg (An2 @c4 @f4) ?_
 exact k _ (d.set4 false) (b0r _ _ _ _ _)
theorem f8j (d:IsDk w b A h) (n:Int) (hn:n < 2 ^ 63) (k:∀ w',IsDk w' b (d4b A n) h → Step w b h w' h → K (.tuple #[]) w'):a0a Tryz.prog 36 #[dkP b,.int .i64 n] K w:=by
 apply e5k
 unfold g2c dkP
 have c3:=d.c 3
 have f3:=d.fz 3
 simp only [a0x] at c3
 refine Xg (An2 @c3 @f3) ?_
 exact k _ (d.set3 (max n 0) (by omega)) (b0r _ _ _ _ _)
theorem c6f (d:IsDk w b A h) (k:∀ w',IsDk w' b (a3m A).2 h → Step w b h w' h → K (.bool (a3m A).1) w'):a0a Tryz.prog 117 #[dkP b] K w:=by
 apply d5o
 unfold f3t dkP
 have c4:=d.c 4
 have c5:=d.c 5
 have f5:=d.fz 5
 simp only [a0x] at c4 c5
 have a0:=d.wf.a0
 have a1:=d.wf.a1
 unfold a3m at k
 repeat (any_goals (first
 | (with_reducible first|refine a1b ?_|((refine b2a ?_); first|refine zY ?_|refine zZ ?_|refine yA (fun hg=>?_) fun hg=>?_)|((refine a3s ?_); first|refine yJ ?_|refine yK ?_)|((refine a1q ?_); first|refine yL ?_|refine yP (fun hg=>?_) fun hg=>?_))
 | ((with_reducible refine oG fun X Y=>?_); simp [go_sem,c4,c5,f5]; (try simp (disch:=omega) only [a0o,a2x,a1n]); apply Y; clear Y X)))
 ·rw [if_pos (.inl hg)] at k
  exact k _ d (Step.refl _ _ _)
 ·rw [if_pos (.inr hg)] at k
  exact k _ d (Step.refl _ _ _)
 ·rename_i hg2
  rw [if_neg (by rw [hg2]; simp [hg])] at k
  have e:decide (A.armed - 1 = 0) = decide (A.armed = 1):=by
   by_cases h1:A.armed = 1
   ·simp [h1]
   ·have:¬ A.armed - 1 = 0:=by omega
    simp [h1,this]
  rw [e]
  exact k _ (d.set5 (A.armed - 1) (by omega)) (b0r _ _ _ _ _)
end
def intC (n:Int):List Value:=[c3b n]
theorem c9b (x:List UInt8) (i j:Nat):(⟨x.toArray⟩:ByteArray).extract i j = ⟨((x.drop i).take (j - i)).toArray⟩:=by
 apply ByteArray.ext
 rw [ByteArray.data_extract]
 simp [List.extract_eq_take_drop]
theorem e8g (l:List UInt8) (a n:Int) (ha:0 ≤ a) (hn:0 ≤ n):((⟨l.toArray⟩:ByteArray).extract (min a l.length).toNat l.length).extract 0 (min n ((l.length - (min a (l.length:Int)).toNat:Nat):Int)).toNat = ⟨((l.drop a.toNat).take n.toNat).toArray⟩:=by
 rw [c9b,c9b]
 congr 2
 rw [List.drop_zero,List.take_take]
 by_cases h:a ≤ l.length
 ·have e:(min a (l.length:Int)).toNat = a.toNat:=by omega
  rw [e,List.take_eq_take_iff,List.length_drop]
  omega
 ·have e:(min a (l.length:Int)).toNat = l.length:=by omega
  rw [e,List.drop_of_length_le (rL),List.drop_of_length_le (by omega)]
  simp
theorem d8m (l:List UInt8) (a n:Int) (ha:0 ≤ a) (hn:0 ≤ n):(l.drop (min a (l.length:Int)).toNat).take (min n ((l.length - (min a (l.length:Int)).toNat:Nat):Int)).toNat = (l.drop a.toNat).take n.toNat:=by
 by_cases h:a ≤ l.length
 ·have e:(min a (l.length:Int)).toNat = a.toNat:=by omega
  rw [e,List.take_eq_take_iff,List.length_drop]
  omega
 ·have e:(min a (l.length:Int)).toNat = l.length:=by omega
  rw [e,List.drop_of_length_le (rL),List.drop_of_length_le (by omega)]
  simp
theorem e8h {P:Program} {w:World} {K:VK} {t e T:TypeId} {a:Option Addr} {n c:Nat} (ht:P.underlying t = some (.slice e)) (k:K (.bool a.isNone) w):oM P (.binOp .eql t (.tmp 0) (.const (.slice none 0 0)) t) T [.slice a n c] K w:=by
 rw [d0l]
 have:=Lib.run_eql_slice_nil (P:=P) w t e a n c 0 0 ht
 simp only [Sem.run_bind]
 have h2:(eqGuard .eql t (.tmp 0) (.const (.slice none 0 0)) (.slice a n c) (.slice none 0 0)).run P w = .ok () w:=by
  simp [eqGuard]
 rw [h2,Result.andThen_ok,this]
 exact k
section
variable {w:World} {b:Nat} {A:Ab} {h:Dk} {K:VK}
theorem f6g (k:∀ w' b h,IsDk w' b c2g h → Fr (fun _=>False) w w' → (∀ i,Own b h i → w.heap.size ≤ i) → (∀ i,¬ Rdb h i) → K (dkP b) w'):a0a Tryz.prog 35 #[] K w:=by
 apply e5h
 unfold g1z
 refine Xc0 ?_
 have s1:(w.alloc (.map #[] 0)).heap.size = w.heap.size + 1:=a0q _ _
 have s2:((w.alloc (.map #[] 0)).alloc (.map #[] 0)).heap.size = w.heap.size + 1 + 1:=by rw [a0q,a0q]
 have m1:MapIs c3b (w.alloc (.map #[] 0)) w.heap.size []:=b7f w
 have m2:MapIs b8k ((w.alloc (.map #[] 0)).alloc (.map #[] 0)) (w.heap.size + 1) []:=by
  have:=b7f (mk:=b8k) (w.alloc (.map #[] 0))
  rw [s1] at this
  exact this
 refine k _ (w.heap.size + 1 + 1) ⟨w.heap.size,w.heap.size + 1,.slice none 0 0,.slice none 0 0⟩ ⟨?_,?_,?_,?_,?_,?_,d4e⟩ (((Fr.refl _ _).alloc _).alloc _ |>.alloc _) ?_ ?_
 ·have:=heap_alloc_new ((w.alloc (.map #[] 0)).alloc (.map #[] 0)) (.cells (a0x c2g ⟨w.heap.size,w.heap.size + 1,.slice none 0 0,.slice none 0 0⟩) 145 (0,0))
  rw [s2] at this
  exact this
 ·exact ⟨[],(m1.alloc _).alloc _,fun f=>rfl⟩
 ·exact ⟨[],m2.alloc _,fun p=>by simp [c2g,a6y]⟩
 ·exact World.ownsRow_nil _ _ _ _
 ·exact World.ownsRow_nil _ _ _ _
 ·simp
 ·rintro i (rfl | rfl | rfl | hi)
  ·omega
  ·exact rL
  ·simp
  ·cases hi
 ·intro i hi; cases hi
theorem c6g {v:Value} {l:List Int} (hr:RowR intC 1 w v l) (hl:l.length < 2 ^ 40) (k:∀ v' w',w'.ownsRow 0 3 1 v' l.length (a2g intC l) → Fr (fun _=>False) w w' → (∀ i,v'.ownBlock = some i → w.heap.size ≤ i) → K v' w'):a0a Tryz.prog 81 #[v] K w:=by
 apply c8y
 unfold f8g
 obtain ⟨ad,c,rfl,h0,hc⟩:=id hr
 refine e8h (e:=3) (by kernel_rfl) ?_
 cases ad with
 | none=>
  obtain ⟨hl0,rfl⟩:=h0 rfl
  obtain rfl:l = []:=List.eq_nil_of_length_eq_zero hl0
  simp only [Option.isNone_none]
  refine Xc0 ?_
  exact k _ _ (World.ownsRow_nil _ _ _ _) (Fr.refl _ _) (fun i hi=>by cases hi)
 | some a=>
  simp only [Option.isNone_some]
  refine Xc0 ?_
  have hr2:RowR intC 1 (w.alloc (.cells #[] 3)) (.slice (some a) l.length c) l:=hr.keep (by rw [a0q]; omega) (fun i _ hi=>heap_alloc_old _ _ hi)
  refine b3f 22 22 3 ((Tryz.prog.info? 3).getD default) (.int .i64 0) 1 8 (by kernel_rfl) (by kernel_rfl) (by kernel_rfl) (by kernel_rfl) (by kernel_rfl) (by kernel_rfl) (by omega) (fun _=>rfl) (fun x u hu=>by simp [intC] at hu; subst hu; rfl) hr2 (World.ownsRow_lit w #[] 0 (Nat.zero_le _) (Nat.zero_le _) rfl) (B:=w.heap.size) (by rw [a0q]; omega) (fun i hi=>by cases hi; exact rL) (by omega) (by omega) ?_
  intro v' w' ho hg hv
  exact k v' w' ho (((Fr.refl _ _).alloc _).by hg (fun i hi=>by cases hi; exact .inr (rL))) hv
theorem f8k (d:IsDk w b A h) (f at_ size:Int) (k:K (.tuple #[bsV (b2j A f at_ size).1,.int .i64 (b2j A f at_ size).2]) w):a0a Tryz.prog 127 #[dkP b,.int .i64 f,.int .i64 at_,.int .i64 size] K w:=by
 apply d5r
 unfold f3w
 refine c8z d f ?_
 have c0:=d.c 0
 simp only [a0x] at c0
 have hl:=d.look f
 unfold b2j at k
 unfold dkP
 repeat (any_goals (first
 | (with_reducible first|refine a1b ?_|((refine b2a ?_); ((refine a7k ?_); first|refine zI ?_|refine zJ ?_|refine zK (fun hg=>?_) fun hg=>?_))|((refine a3s ?_); first|refine yD ?_|refine yE ?_)|((refine a1q ?_); first|refine yL ?_|refine yP (fun hg=>?_) fun hg=>?_|refine yS (fun hg=>?_) fun hg=>?_))
 | ((with_reducible refine oG fun X Y=>?_); simp [go_sem,c0,hl,flV,bsV]; (first|refine Y _ _ ?_|refine And.intro (by omega) (Y _ _ ?_)); clear Y X)))
 ·rename_i h0
  rw [if_neg (by omega),if_pos (.inl hg)] at k
  exact k
 ·rename_i h0
  rw [if_neg (by omega),if_pos (.inr hg)] at k
  exact k
 ·rename_i h0
  rw [if_neg (by omega),if_neg (by omega)] at k
  first | rw [e8g _ _ _ (by omega) (by omega)] | rw [d8m _ _ _ (by omega) (by omega)]
  exact k
 ·rw [if_pos hg] at k
  exact k
theorem g4w (t:List UInt8):((⟨t.toArray⟩:ByteArray) = ⟨#[]⟩) ↔ t = []:=by
 constructor
 ·intro h
  have:=congrArg (fun b=>b.data.toList) h
  simpa using this
 ·rintro rfl; rfl
theorem c0l {α:Type} (f:α → Value) (l:List α):a2g (fun x=>[f x]) l = l.map f:=by
 induction l with
 | nil=>rfl
 | cons x l ih=>rw [b0c,ih]; rfl
theorem c9c (s t:Bs) (a:Int) (h0:0 ≤ a) (ha:a + t.length ≤ 16777216) (hs:s.length ≤ 16777216) (k:∀ w',Fr (fun _=>False) w w' → K (bsV (a9k s a.toNat t)) w'):a0a Tryz.prog 76 #[bsV s,.int .i64 a,bsV t] K w:=by
 apply e5n
 unfold g2f bsV
 by_cases ht:t = []
 ·subst ht
  refine Xc0 ?_
  exact k _ (Fr.refl _ _)
 ·have hne:¬ ((⟨t.toArray⟩:ByteArray) = ⟨#[]⟩):=fun e=>ht ((g4w t).1 e)
  obtain ⟨n,rfl⟩:=Int.eq_ofNat_of_zero_le h0
  have hmax:max (s.length:Int) ((n:Int) + t.length) = ((max s.length (n + t.length):Nat):Int):=by omega
  refine Xg @hmax ?_
  have hpos:0 < t.length:=List.length_pos_iff.2 ht
  refine c4d (e:=5) (i:=(Tryz.prog.info? 5).getD default) (by kernel_rfl) (by kernel_rfl) (by kernel_rfl) (by kernel_rfl) (by kernel_rfl) _ (by omega) (fun hB=>?_)
  have g1:Fr (fun _=>False) w (w.alloc (.cells (Lib.byteCells (List.replicate (max s.length (n + t.length)) 0)).toArray 5)):=(Fr.refl _ _).alloc _
  generalize (w.alloc (.cells (Lib.byteCells (List.replicate (max s.length (n + t.length)) 0)).toArray 5)) = w1 at *
  refine b9u (e:=5) (by kernel_rfl) (by kernel_rfl) hB s (by omega) (by simp; omega) (fun w2 hB2 hg2=>?_)
  have g2:=g1.by hg2 (fun i hi=>by cases hi; exact .inr (rL))
  refine b4n (sz:=1) (by kernel_rfl) (fun w=>by kernel_rfl) n (by omega) (by omega) ?_
  rw [Nat.zero_add,Nat.mul_one]
  refine b9u (e:=5) (by kernel_rfl) (by kernel_rfl) hB2 t (by omega) (by simp; omega) (fun w3 hB3 hg3=>?_)
  have g3:=g2.by hg3 (fun i hi=>by cases hi; exact .inr (rL))
  have e1:(List.replicate (max s.length (n + t.length)) (0:UInt8)).take 0 ++ s ++ (List.replicate (max s.length (n + t.length)) 0).drop (0 + s.length) = s ++ List.replicate (n + t.length - s.length) 0:=by
   rw [List.take_zero,List.nil_append,List.drop_replicate]
   congr 2
   omega
  have e2:=a5d s n t
  rw [if_neg ht] at e2
  have e3:(s ++ List.replicate (n + t.length - s.length) 0).take n ++ t ++ (s ++ List.replicate (n + t.length - s.length) 0).drop (n + t.length) = a9k s n t:=by
   unfold a9k
   rw [if_neg ht]
  rw [e1,e3] at hB3
  refine f0f (e:=5) (by kernel_rfl) (by kernel_rfl) (by kernel_rfl) hB3 e2.symm ?_
  have:=k w3 g3
  rw [Int.toNat_natCast] at this
  exact this
theorem d8n (s t:Bs) (a:Int) (h0:0 ≤ a) (ha:a + t.length ≤ 16777216) (hs:s.length ≤ 16777216) (k:∀ w',Fr (fun _=>False) w w' → K (bsV (a9k s a.toNat t)) w'):a0a Tryz.prog 76 #[.string ⟨s.toArray⟩,.int .i64 a,.string ⟨t.toArray⟩] K w:=c9c s t a h0 ha hs k
theorem g4x (d:IsDk w b A h) (n:Int) (hn:n < 2 ^ 63) {v:Value} {l:List Int} (hr:RowR intC 1 w v l) (hl:l.length < 2 ^ 40) (hk:∀ x ∈ l,-2 ^ 63 ≤ x ∧ x < 2 ^ 63) (k:∀ w' h',IsDk w' b (g1n A n l) h' → Step w b h w' h' → K (.tuple #[]) w'):a0a Tryz.prog 37 #[dkP b,.int .i64 n,v] K w:=by
 apply e5l
 unfold g2d dkP
 repeat (any_goals (first
 | (with_reducible refine c6g hr hl ?_)
 | ((with_reducible refine oG fun X Y=>?_); simp [go_sem]; apply Y; clear Y X)))
 intro v' w1 ho hf hv
 obtain ⟨va,vc,rfl⟩:=a1v ho
 have d1:IsDk w1 b A h:=d.keep (fun i hi=>hf.block i (d.lt hi) (fun h=>h))
 have c5:=d1.c 5
 have f5:=d1.fz 5
 simp only [a0x] at c5
 have d2:=d1.set5 (max n 0) (by omega)
 have c6:=d2.c 6
 have f6:=d2.fz 6
 simp only [a0x] at c6
 refine Xg (An4 @c5 @f5 @c6 @f6) ?_
 have hb:=d2.blk
 have hsz:=hf.size
 have hfl:a2g intC l = l.map c3b:=c0l c3b l
 have hvb:∀ i,(Value.slice va l.length vc).ownBlock = some i → w.heap.size ≤ i:=hv
 have hblt:b < w.heap.size:=d.lt (.inl (.inl rfl))
 generalize hw2:w1.setCell ⟨b,5,none⟩ (.int .i64 (max n 0)) = w2 at *
 have hne:∀ i,i ≠ b → (w2.setCell ⟨b,6,none⟩ (.slice va l.length vc)).heap[i]? = w2.heap[i]?:=fun i hi=>a0l _ _ _ _ hi
 have ho2:w2.ownsRow 0 3 1 (.slice va l.length vc) l.length (a2g intC l):=a0r ho (fun i hi=>by
  rw [← hw2,a0l _ _ _ _ (fun e=>by have:=hvb i hi; simp at e; omega)])
 refine k _ { h with kp:=.slice va l.length vc } ⟨?_,?_,?_,?_,?_,d.ne,d4g d.wf n hn l hk (by omega)⟩ ⟨?_,?_,?_⟩
 ·rw [a2i hb]; rfl
 ·obtain ⟨l,hl,h2⟩:=d2.files
  exact ⟨l,hl.of_block (hne _ d2.bfm.symm),h2⟩
 ·obtain ⟨l,hl,h2⟩:=d2.set
  exact ⟨l,hl.of_block (hne _ d2.bsm.symm),h2⟩
 ·exact a0r d2.que (fun i hi=>hne i (d2.qne hi).1)
 ·show World.ownsRow _ 0 _ 1 (.slice va l.length vc) l.length (l.map c3b)
  rw [← hfl]
  exact a0r ho2 (fun i hi=>hne i (fun e=>by have:=hvb i hi; omega))
 ·have:Fr (Own b h) w w1:=hf.mono (fun i _ h=>h.elim)
  rw [← hw2]
  exact (this.set ⟨b,5,none⟩ _ (.inl (.inl rfl))).set ⟨b,6,none⟩ _ (.inl (.inl rfl))
 ·intro i hi
  exact .inl hi
 ·intro i hi
  exact .inr (hv i hi)
theorem b0s (p:Int × Int):(b5f p).length = 2:=rfl
theorem e8i (p:Int × Int):∀ u ∈ b5f p,u.oneCell' = true:=by
 intro u hu
 simp [b5f] at hu
 rcases hu with rfl | rfl <;> rfl
theorem a5o {w w':World} (h:w'.heap = w.heap) (a:Addr):w'.cell? a = w.cell? a:=by
 unfold World.cell?; rw [h]
theorem IsDk.heap {w':World} (d:IsDk w b A h) (e:w'.heap = w.heap):IsDk w' b A h:=d.keep (fun i _=>by rw [e])
theorem IsDk.fresh {w':World} (d:IsDk w b A h) (f:Fr (fun _=>False) w w'):IsDk w' b A h:=d.keep (fun i hi=>f.block i (d.lt hi) (fun h=>h))
theorem Step.fresh {w':World} (f:Fr (fun _=>False) w w'):Step w b h w' h:=⟨f.mono (fun _ _ h=>h.elim),fun _ h=>.inl h,fun _ h=>.inl h⟩
def a7n (n m:Nat):List Int:=(List.range' n (m + 1 - n)).map Int.ofNat
theorem c6h {n m:Nat} (h:n ≤ m):a7n n m = (n:Int) :: a7n (n + 1) m:=by
 unfold a7n
 have e:m + 1 - n = (m + 1 - (n + 1)) + 1:=by omega
 rw [e,List.range'_succ]
 rfl
theorem c6i {n m:Nat} (h:m < n):a7n n m = []:=by
 unfold a7n
 have e:m + 1 - n = 0:=by omega
 rw [e]
 rfl
theorem f8l (hw:WF A) {f n:Int} (hf:0 ≤ f ∧ f < 16) (hn:0 ≤ n ∧ n < 262144) (hq:(f,n) ∉ A.queue):WF { A with queue:=A.queue ++ [(f,n)] }:=by
 refine ⟨hw.l0,hw.l1,hw.a0,hw.a1,?_,?_,hw.sz,hw.kr,hw.kl⟩
 ·show (A.queue ++ [(f,n)]).Nodup
  rw [List.nodup_append]
  refine ⟨hw.nd,by simp,?_⟩
  intro a ha c hc
  simp only [List.mem_singleton] at hc
  subst hc
  rintro rfl
  exact hq ha
 ·intro p hp
  rcases List.mem_append.1 hp with hp | hp
  ·exact hw.qr p hp
  ·simp only [List.mem_singleton] at hp
   subst hp
   exact ⟨hf.1,hf.2,hn.1,hn.2⟩
theorem IsDk.lookS (d:IsDk w b A h) (p:Int × Int):(Instr.lookup 143 (.map (some h.sm)) (.agg #[.int .i64 p.1,.int .i64 p.2]) false).run Tryz.prog w = .ok (.bool (decide (p ∈ A.queue))) w:=by
 obtain ⟨l,hl,h2⟩:=d.set
 have:=b9x (P:=Tryz.prog) (t:=143) (et:=4) (z:=.bool false) g8t (by kernel_rfl) (fun w=>by kernel_rfl) hl p
 rw [h2] at this
 unfold b8k at this
 rw [this]
 by_cases hp:p ∈ A.queue <;> simp [hp]
theorem IsDk.setFile (d:IsDk w b A h) (f:Int) (x:Bs × Bs) (hx:x.1.length ≤ 16777216 ∧ x.2.length ≤ 16777216):∃ w',(Instr.mapUpdate 141 (.map (some h.fm)) (.int .i64 f) (.agg #[.string ⟨x.1.toArray⟩,.string ⟨x.2.toArray⟩])).run Tryz.prog w = .ok () w' ∧ IsDk w' b { A with F:=b0n A.F f x } h ∧ Step w b h w' h:=by
 obtain ⟨l,m,hl⟩:=d.files
 obtain ⟨w',hr,m',g,z⟩:=d2o (P:=Tryz.prog) (t:=141) (et:=149) g8s (by kernel_rfl) m f (flV x)
 have hne:∀ i,i < w.heap.size → i ≠ h.fm → w'.heap[i]? = w.heap[i]?:=fun i hi hn=>g.block i hi (fun e=>hn (by cases e; rfl))
 refine ⟨w',hr,⟨?_,⟨_,m',?_⟩,?_,?_,?_,d.ne,?_⟩,⟨(Fr.refl _ _).by g (fun i hi=>by cases hi; exact .inl (.inr (.inl rfl))),fun _ h=>.inl h,fun _ h=>.inl h⟩⟩
 ·rw [hne b (d.lt (.inl (.inl rfl))) d.bfm]; exact d.blk
 ·intro g
  rw [c4f]
  show _ = flV (b0n A.F f x g)
  by_cases hg:g = f
  ·subst hg
   rw [if_pos rfl,a2o]; rfl
  ·rw [if_neg hg,b3q _ _ _ _ hg]; exact hl g
 ·obtain ⟨ls,ms,hs⟩:=d.set
  exact ⟨ls,ms.of_block (hne _ ms.lt (Ne.symm d.ne)),hs⟩
 ·exact a0r d.que (fun i hi=>hne i (d.lt (.inl (.inr (.inr (.inr hi))))) (d.qne hi).2.1)
 ·exact a0r d.kep (fun i hi=>hne i (d.lt (.inr hi)) (d.kne hi).2.1)
 ·refine ⟨d.wf.l0,d.wf.l1,d.wf.a0,d.wf.a1,d.wf.nd,d.wf.qr,?_,d.wf.kr,d.wf.kl⟩
  intro g
  show (b0n A.F f x g).1.length ≤ _ ∧ (b0n A.F f x g).2.length ≤ _
  by_cases hg:g = f
  ·subst hg; rw [a2o]; exact hx
  ·rw [b3q _ _ _ _ hg]; exact d.wf.sz g
theorem d8o {w9 w10 w13:World} {p:Int × Int} {v':Value} {ls:List ((Int × Int) × Value)} (d9:IsDk w9 b A h) (hg10:w9.grownBy w10 h.q.ownBlock) (ho:w10.ownsRow 0 147 2 v' (A.queue.length + 1) (a2g b5f A.queue ++ b5f p)) (hv:∀ i,v'.ownBlock = some i → h.q.ownBlock = some i ∨ w9.heap.size ≤ i)
  (m13:MapIs b8k w13 h.sm (c5t ls p (.bool true))) (hls:∀ p,a3k ls p = if p ∈ A.queue then some (.bool true) else none) (g13:(w10.setCell ⟨b,1,none⟩ v').grownBy w13 (some h.sm)) (hwf:WF { A with queue:=A.queue ++ [p] }) :
  IsDk w13 b { A with queue:=A.queue ++ [p] } { h with q:=v' } ∧ Step w9 b h w13 { h with q:=v' }:=by
 have hs10:=hg10.size
 have hb9:=d9.lt (.inl (.inl rfl))
 have hf9:h.fm < w9.heap.size:=d9.lt (.inl (.inr (.inl rfl)))
 have hsm9:h.sm < w9.heap.size:=d9.lt (.inl (.inr (.inr (.inl rfl))))
 have k10:∀ i,i < w9.heap.size → h.q.ownBlock ≠ some i → w10.heap[i]? = w9.heap[i]?:=fun i hi hn=>hg10.block i hi (fun e=>hn e.symm)
 have hsz11:(w10.setCell ⟨b,1,none⟩ v').heap.size = w10.heap.size:=by simp [World.setCell]
 have k13:∀ i,i < w10.heap.size → i ≠ h.sm → i ≠ b → w13.heap[i]? = w10.heap[i]?:=fun i hi hn hb=>by
  rw [g13.block i (by rw [hsz11]; exact hi) (fun e=>hn (by cases e; rfl)),a0l _ _ _ _ hb]
 have hqb:h.q.ownBlock ≠ some b:=fun e=>(d9.qne e).1 rfl
 have hqf:h.q.ownBlock ≠ some h.fm:=fun e=>(d9.qne e).2.1 rfl
 have hqs:h.q.ownBlock ≠ some h.sm:=fun e=>(d9.qne e).2.2 rfl
 have hvne:∀ i,v'.ownBlock = some i → i ≠ b ∧ i ≠ h.sm:=fun i hi=>by
  rcases hv i hi with e | e
  ·exact ⟨(d9.qne e).1,(d9.qne e).2.2⟩
  ·omega
 refine ⟨⟨?_,?_,?_,?_,?_,d9.ne,hwf⟩,⟨?_,?_,fun i hi=>.inl hi⟩⟩
 ·have hb10:=k10 b hb9 hqb
  rw [d9.blk] at hb10
  rw [g13.block b (by rw [hsz11]; omega) (fun e=>d9.bsm (by cases e; rfl)),a2i hb10]
  rfl
 ·obtain ⟨l,m,hl⟩:=d9.files
  refine ⟨l,m.of_block ?_,hl⟩
  rw [k13 _ (by omega) d9.ne d9.bfm.symm,k10 _ hf9 hqf]
 ·refine ⟨_,m13,fun r=>?_⟩
  rw [c4f,hls]
  by_cases hr:r = p
  ·subst hr; simp
  ·simp [hr]
 ·show w13.ownsRow 0 _ 2 v' (A.queue ++ [p]).length (a2g b5f (A.queue ++ [p]))
  rw [flat_snoc,List.length_append]
  exact a0r ho (fun i hi=>k13 i (a0p ho hi).1 (hvne i hi).2 (hvne i hi).1)
 ·refine a0r d9.kep (fun i hi=>?_)
  have hi':=d9.lt (.inr hi)
  have:=d9.kne hi
  rw [k13 i (by omega) this.2.2.1 this.1,k10 i hi' this.2.2.2]
 ·refine (((Fr.refl _ _).by hg10 (fun i hi=>.inl (.inr (.inr (.inr hi))))).set ⟨b,1,none⟩ v' (.inl (.inl rfl))).by g13 (fun i hi=>?_)
  cases hi
  exact .inl (.inr (.inr (.inl rfl)))
 ·rintro i (rfl | rfl | rfl | hi)
  ·exact .inl (.inl rfl)
  ·exact .inl (.inr (.inl rfl))
  ·exact .inl (.inr (.inr (.inl rfl)))
  ·exact (hv i hi).imp (fun e=>.inr (.inr (.inr e))) id
set_option maxHeartbeats 1000000 in
theorem e8j (d:IsDk w b A h) (f at_:Int) (s:Bs) (hs:s.length < 2 ^ 60) (hat:-2 ^ 63 ≤ at_ ∧ at_ < 2 ^ 63) (k:∀ w' h',IsDk w' b (wrA A f at_ s).2 h' → Step w b h w' h' → K (.int .i64 (wrA A f at_ s).1) w'):a0a Tryz.prog 198 #[dkP b,.int .i64 f,.int .i64 at_,bsV s] K w:=by
 apply d5z
 unfold f4e
 refine c8z d f ?_
 have k':∀ r A',wrA A f at_ s = (r,A') → ∀ w' h',IsDk w' b A' h' → Step w b h w' h' → K (.int .i64 r) w':=by
  intro r A' e w' h' h1 h2
  have:=k w' h' (by rw [e]; exact h1) h2
  rw [e] at this
  exact this
 clear k
 unfold wrA at k'
 have c0:=d.c 0
 simp only [a0x] at c0
 have hl:=d.look f
 unfold dkP bsV
 repeat (any_goals (first
 | (with_reducible first|refine a1b ?_|((refine b2a ?_); ((refine a7k ?_); first|refine zI ?_|refine zJ ?_|refine zK (fun hg=>?_) fun hg=>?_))|((refine a3s ?_); first|refine yD ?_|refine yE ?_)|((refine a1q ?_); first|refine yL ?_|refine yP (fun hg=>?_) fun hg=>?_|refine yS (fun hg=>?_) fun hg=>?_))
 | ((with_reducible refine oG fun X Y=>?_); simp [go_sem,c0,hl,flV,bsV]; (try simp (disch:=omega) only [a0o,a2x,a1n]); apply Y; clear Y X)))
 ·rename_i hm
  exact k' 1 A (by rw [if_neg (by omega),if_pos hg]) w h d (Step.refl _ _ _)
 ·rename_i hm h1
  exact k' 6 A (by rw [if_neg (by omega),if_neg h1,if_pos (by omega)]) w h d (Step.refl _ _ _)
 ·rename_i hm h1 h2
  exact k' 6 A (by rw [if_neg (by omega),if_neg h1,if_pos (by omega)]) w h d (Step.refl _ _ _)
 ·rename_i hm h1 h2 h3
  exact k' 0 A (by rw [if_neg (by omega),if_neg h1,if_neg (by omega),hg]; rfl) w h d (Step.refl _ _ _)
 ·rename_i hm h1 h2 h3
  have hmay:=c6a hm
  have hsne:¬ s = []:=hg
  have k0:=k' 0 (b9a A f at_.toNat s) (by rw [if_neg (by omega),if_neg h1,if_neg (by omega)])
  clear k'
  obtain ⟨a,rfl⟩:=Int.eq_ofNat_of_zero_le (by omega:0 ≤ at_)
  rw [Int.toNat_natCast] at k0
  have hlen:0 < s.length:=List.length_pos_iff.2 hg
  have hn:=heap_alloc_new w (.cells #[bsV (A.F f).1,bsV (A.F f).2] 149 (0,0))
  have f0:Fr (fun _=>False) w (w.alloc (.cells #[bsV (A.F f).1,bsV (A.F f).2] 149 (0,0))):=(Fr.refl _ _).alloc _
  have z0:=a0q w (.cells #[bsV (A.F f).1,bsV (A.F f).2] 149 (0,0))
  simp only [bsV] at hn f0 z0
  generalize w.alloc (.cells #[.string ⟨(A.F f).1.toArray⟩,.string ⟨(A.F f).2.toArray⟩] 149 (0,0)) = w0 at *
  have e0:=a0b hn 0
  simp at e0
  repeat (any_goals (with_reducible refine d8n (A.F f).1 s (a:Int) (by omega) (by omega) (d.wf.sz f).1 ?_))
  intro w1 g1
  have f1:=f0.trans g1 (fun _ h=>h.elim)
  have z1:=g1.size
  have hn1:=(g1.block w.heap.size (by omega) (fun h=>h)).trans hn
  have y0:=a0v hn1 0
  have e1:=a0b hn1 0
  simp at e1
  have hn2:=a2i (i:=0) hn1 (bsV (a9k (A.F f).1 a s))
  unfold bsV at hn2
  repeat (any_goals ((with_reducible refine oG fun X Y=>?_); simp [go_sem,y0,e1,bsV]; apply Y; clear Y X))
  have f2:=f1.set ⟨w.heap.size,0,none⟩ (.string ⟨(a9k (A.F f).1 a s).toArray⟩) (.inr (rL))
  generalize w1.setCell ⟨w.heap.size,0,none⟩ (.string ⟨(a9k (A.F f).1 a s).toArray⟩) = w2 at *
  have d2:=d.fresh f2
  have c20:=d2.c 0
  simp only [a0x] at c20
  have e20:=a0b hn2 0
  have e21:=a0b hn2 1
  simp at e20 e21
  refine ⟨fun s w'=>s ≤ 0 → w'.heap = w2.heap,fun _=>rfl,?_⟩
  repeat (first | (with_reducible refine pX ?_) | (with_reducible refine a3t ?_) | (with_reducible refine a2m rfl ?_) | (with_reducible refine a2b rfl ?_) | (refine a1z ⟨_,rfl⟩ (fun W0 hW0=>by (obtain ⟨s0,hs0,hC⟩:=hW0); (refine oG (fun X Y=>?_)); simp [go_sem,a5o (hC (by omega)),c20,e20,e21]; (first | exact Y _ _ ⟨rfl,rfl⟩ | exact ⟨by omega,Y _ _ ⟨rfl,rfl⟩⟩)) ?_))
  generalize hw3:({ w2 with drawn:=w2.drawn + 1 }:World) = w3
  have d3:IsDk w3 b A h:=d2.heap (by rw [← hw3])
  have f3:Fr (fun _=>False) w w3:=by rw [← hw3]; exact f2.drew
  have hpl:=a5d (A.F f).1 a s
  rw [if_neg hg] at hpl
  obtain ⟨w4,hr4,d4,t4⟩:=d3.setFile f (a9k (A.F f).1 a s,(A.F f).2) ⟨by show List.length (a9k _ _ _) ≤ _; rw [hpl]; have:=(d.wf.sz f).1; omega,(d.wf.sz f).2⟩
  simp only at hr4
  have t04:Step w b h w4 h:=(Step.fresh f3).trans t4
  repeat (any_goals (first
  | (with_reducible refine And.intro (fun hs=>absurd hs (by decide)) ?_)
  | ((with_reducible refine oG fun X Y=>?_); simp [go_sem,hr4]; (try simp (disch:=omega) only [a0o,a2x,a1n]); apply Y; clear Y X)))
  obtain ⟨m,hm'⟩:∃ m,m = (a + s.length - 1) / 64:=⟨_,rfl⟩
  have hd1:((a:Int) + (s.length:Int) - 1).tdiv 64 = (m:Int):=by
   rw [g9z _ _ (by omega)]; omega
  have hd2:((a:Int) + (s.length:Int) - 1) / 64 = (m:Int):=by omega
  have hmb:m < 262144:=by omega
  have hbs:w.heap.size ≤ w4.heap.size:=t04.fr.size
  refine ⟨fun l w'=>∃ (n:Nat) (q:List (Int × Int)) (h1:Dk),l = [.int .i64 (n:Int)] ∧ n ≤ m + 1 ∧ IsDk w' b { A with F:=b0n A.F f (a9k (A.F f).1 a s,(A.F f).2),queue:=q } h1 ∧ Step w b h w' h1 ∧ b4t f q (a7n n m) = b4t f A.queue (g1m a s.length),fun l _=>match l with | [.int _ n]=>((m:Int) + 1 - n).toNat | _=>0,⟨a / 64,A.queue,h,by simp,by omega,d4,t04,by rw [hm']; rfl⟩,?_⟩
  rintro l u w5 ⟨n,q,h5,rfl,hnm,d5,t5,hp⟩
  simp only [List.getD_cons_zero]
  repeat (any_goals (first
  | (with_reducible ((refine a1q ?_); refine yP (fun hg=>?_) fun hg=>?_))
  | ((with_reducible refine oG fun X Y=>?_); simp [go_sem,hd1,hd2]; (try simp (disch:=omega) only [a0o,a2x,a1n]); apply Y; clear Y X)))
  ·rw [c6h hg] at hp
   have hp:b4t f (if (f,(n:Int)) ∈ q then q else q ++ [(f,(n:Int))]) (a7n (n + 1) m) = _:=hp
   refine ⟨fun _ w'=>∃ (q':List (Int × Int)) (h':Dk),IsDk w' b { A with F:=b0n A.F f (a9k (A.F f).1 a s,(A.F f).2),queue:=q' } h' ∧ Step w b h w' h' ∧ b4t f q' (a7n (n + 1) m) = b4t f A.queue (g1m a s.length),?_,?_⟩
   ·refine Xc0 ?_
    have p0:=heap_alloc_new w5 (.cells #[.int .i64 f,.int .i64 (n:Int)] 147 (0,0))
    have pf:Fr (fun _=>False) w5 (w5.alloc (.cells #[.int .i64 f,.int .i64 (n:Int)] 147 (0,0))):=(Fr.refl _ _).alloc _
    have pz:=a0q w5 (.cells #[.int .i64 f,.int .i64 (n:Int)] 147 (0,0))
    generalize w5.alloc (.cells #[.int .i64 f,.int .i64 (n:Int)] 147 (0,0)) = w6 at *
    have d6:=d5.fresh pf
    have c62:=d6.c 2
    simp only [a0x] at c62
    have p00:=a0b p0 0
    have p01:=a0b p0 1
    simp at p00 p01
    have lk:∀ W:World,W.heap = w6.heap → _:=fun W hW=>(d6.heap hW).lookS (f,(n:Int))
    simp only at lk
    refine ⟨fun s w'=>s ≤ 0 → w'.heap = w6.heap,fun _=>rfl,?_⟩
    repeat (first | (with_reducible refine pX ?_) | (with_reducible refine a3t ?_) | (with_reducible refine a2m rfl ?_) | (with_reducible refine a2b rfl ?_) | (refine a1z ⟨_,rfl⟩ (fun W0 hW0=>by (obtain ⟨s0,hs0,hC⟩:=hW0); (refine oG (fun X Y=>?_)); simp [go_sem,a5o (hC (by omega)),c62,p00,p01,lk W0 (hC (by omega))]; (first | exact Y _ _ ⟨rfl,rfl⟩ | exact ⟨by omega,Y _ _ ⟨rfl,rfl⟩⟩)) ?_))
    generalize hw7:({ w6 with drawn:=w6.drawn + 1 }:World) = w7
    have d7:IsDk w7 b _ h5:=d6.heap (by rw [← hw7])
    have t7:Step w b h w7 h5:=t5.trans (Step.fresh (by rw [← hw7]; exact pf.drew))
    have p7:w7.heap[w5.heap.size]? = some (.cells #[.int .i64 f,.int .i64 (n:Int)] 147 (0,0)):=by rw [← hw7]; exact p0
    have z7:w7.heap.size = w5.heap.size + 1:=by rw [← hw7]; exact pz
    clear hw7
    have b5:b < w5.heap.size:=d5.lt (.inl (.inl rfl))
    repeat (any_goals (with_reducible ((refine a1q ?_); refine yS (fun hg=>?_) fun hg=>?_)))
    ·rename_i hin
     rw [if_pos (by assumption)] at hp
     exact ⟨q,h5,d7,t7,hp⟩
    ·rename_i hin
     refine ⟨fun sg w'=>sg ≤ 5 → w'.heap[w5.heap.size]? = some (.cells #[.int .i64 f,.int .i64 (n:Int)] 147 (0,0)) ∧ (sg ≤ 2 → w'.heap[b]? = some (.cells (a0x { A with F:=b0n A.F f (a9k (A.F f).1 a s,(A.F f).2),queue:=q } h5) 145 (0,0))),fun _=>⟨p7,fun _=>d7.blk⟩,?_⟩
     iterate 5 (first | (with_reducible refine pX ?_) | (with_reducible refine a3t ?_) | (with_reducible refine a2m rfl ?_) | (with_reducible refine a2b rfl ?_) | (refine a1z ⟨_,rfl⟩ (fun W0 hW0=>by (obtain ⟨s0,hs0,hC⟩:=hW0); (have hsk:s0 ≤ 2:=by omega); (refine oG (fun X Y=>?_)); simp [go_sem,a0b (hC (Nat.le_trans hsk (by decide))).1,a0b ((hC (Nat.le_trans hsk (by decide))).2 hsk),a0x]; (first | exact Y _ _ ⟨rfl,rfl⟩ | exact ⟨by omega,Y _ _ ⟨rfl,rfl⟩⟩)) ?_))
     iterate 1 (first | (with_reducible refine pX ?_) | (with_reducible refine a3t ?_) | (with_reducible refine a2m rfl ?_) | (with_reducible refine a2b rfl ?_) | (refine a1z ⟨_,rfl⟩ (fun W0 hW0=>by (obtain ⟨s0,hs0,hC⟩:=hW0); (have hsk:s0 ≤ 5:=by omega); (refine oG (fun X Y=>?_)); simp [go_sem,a0b (hC hsk).1]; (first | exact Y _ _ ⟨rfl,rfl⟩ | exact ⟨by omega,Y _ _ ⟨rfl,rfl⟩⟩)) ?_))
     repeat (first | (with_reducible refine pX ?_) | (with_reducible refine a3t ?_) | (with_reducible refine a2m rfl ?_) | (with_reducible refine a2b rfl ?_) | (refine a1z ⟨_,rfl⟩ (fun W0 hW0=>by (obtain ⟨s0,hs0,hC⟩:=hW0); (have hsk:s0 ≤ 2:=by omega); (refine oG (fun X Y=>?_)); simp [go_sem,a0b (hC (Nat.le_trans hsk (by decide))).1,a0b ((hC (Nat.le_trans hsk (by decide))).2 hsk),a0x]; (first | exact Y _ _ ⟨rfl,rfl⟩ | exact ⟨by omega,Y _ _ ⟨rfl,rfl⟩⟩)) ?_))
     generalize hw8:({ w7 with drawn:=w7.drawn + 1 }:World) = w8
     have d8:IsDk w8 b _ h5:=d7.heap (by rw [← hw8])
     have t8:Step w b h w8 h5:=t7.trans (Step.fresh (by rw [← hw8]; exact (Fr.refl _ _).drew))
     have p8:w8.heap[w5.heap.size]? = some (.cells #[.int .i64 f,.int .i64 (n:Int)] 147 (0,0)):=by rw [← hw8]; exact p7
     clear hw8
     refine Xc0 ?_
     have hnq:(f,(n:Int)) ∉ q:=by assumption
     rw [if_neg hnq] at hp
     have hql:q.length ≤ 4194304:=d8.wf.ql
     have b8:b < w8.heap.size:=d8.lt (.inl (.inl rfl))
     have p8l:=(Array.getElem?_eq_some_iff.1 p8).1
     have g9:Fr (fun _=>False) w8 (w8.alloc (.cells #[.int .i64 f,.int .i64 (n:Int)] 147 (0,0))):=(Fr.refl _ _).alloc _
     have n9:=heap_alloc_new w8 (.cells #[.int .i64 f,.int .i64 (n:Int)] 147 (0,0))
     have z9:=a0q w8 (.cells #[.int .i64 f,.int .i64 (n:Int)] 147 (0,0))
     generalize w8.alloc (.cells #[.int .i64 f,.int .i64 (n:Int)] 147 (0,0)) = w9 at *
     have d9:=d8.fresh g9
     have p9:=(g9.block _ p8l (fun h=>h)).trans p8
     refine ⟨fun _=>⟨p9,fun _=>d9.blk⟩,?_⟩
     refine a7a 142 142 147 ((Tryz.prog.info? 147).getD default) (.agg #[.int .i64 0,.int .i64 0]) 2 16 (by kernel_rfl) (by kernel_rfl) (by kernel_rfl) (by kernel_rfl) (by kernel_rfl) (by kernel_rfl) (by omega) d9.que (b5f (f,(n:Int))) rfl ?_ ?_ (e8i _) (by simp only [maxLen]; show q.length + 1 ≤ _; omega) (by show (q.length + 1) * 16 ≤ _; omega) ?_
     ·intro h; cases h
     ·rintro ad hu j x hj
      cases hu
      rw [a2d,Nat.zero_add,a0b n9]
      match j,hj with
      | 0,hj=>exact hj
      | 1,hj=>exact hj
     intro v' w10 ho hg10 hv
     have hqb:h5.q.ownBlock ≠ some b:=fun e=>(d9.qne e).1 rfl
     have p10:=(hg10.block w5.heap.size (by omega) (fun e=>by
      have hq5:=(a0p d5.que e.symm).1
      omega)).trans p9
     have b10:=(hg10.block b (by omega) (fun e=>hqb e.symm)).trans d9.blk
     have c101:=a0b b10 1
     have y101:=a0v b10 1
     simp [a0x] at c101
     obtain ⟨va,vc,rfl⟩:=a1v ho
     have n11:b ≠ w5.heap.size:=by omega
     have p11:(w10.setCell ⟨b,1,none⟩ (.slice va (q.length + 1) vc)).heap[w5.heap.size]? = _:=(a0l w10 ⟨b,1,none⟩ _ _ (Ne.symm n11)).trans p10
     refine ⟨fun _=>⟨p10,fun _=>b10⟩,?_⟩
     obtain ⟨ls,ms,hls⟩:=d9.set
     have hsm9:h5.sm < w9.heap.size:=d9.lt (.inl (.inr (.inr (.inl rfl))))
     have m10:MapIs b8k w10 h5.sm ls:=ms.of_block (hg10.block _ hsm9 (fun e=>(d9.qne e.symm).2.2 rfl))
     have m11:MapIs b8k (w10.setCell ⟨b,1,none⟩ (.slice va (q.length + 1) vc)) h5.sm ls:=m10.of_block (a0l _ _ _ _ d9.bsm.symm)
     obtain ⟨w12,st,hr12,g12,z12,hst⟩:=c4j (P:=Tryz.prog) (t:=143) (et:=4) (z:=.bool false) g8t (by kernel_rfl) (fun w=>by kernel_rfl) m11 (f,(n:Int)) (by rw [hls]; exact if_neg hnq)
     obtain ⟨w13,hr13,m13,g13,z13⟩:=hst (.bool true)
     simp only [b8k] at hr12
     repeat (any_goals (first
     | (with_reducible refine And.intro (fun _=>And.intro p10 (fun hs=>absurd hs (by decide))) ?_) | (with_reducible refine And.intro (fun _=>And.intro p11 (fun hs=>absurd hs (by decide))) ?_) | (with_reducible refine And.intro (fun hs=>absurd hs (by decide)) ?_)
     | ((with_reducible refine oG fun X Y=>?_); simp [go_sem,c101,y101,hr12,hr13]; apply Y; clear Y X)))
     obtain ⟨d13,t13⟩:=d8o d9 hg10 ho hv m13 hls (a1e g12 g13) (f8l d9.wf hmay.2 (by omega) hnq)
     exact ⟨q ++ [(f,(n:Int))],_,d13,t8.trans ((Step.fresh g9).trans t13),hp⟩
   ·rintro l u w6 ⟨q',h6,d6,t6,hp6⟩
    repeat (any_goals ((with_reducible refine oG fun X Y=>?_); simp [go_sem]; (try simp (disch:=omega) only [a0o,a2x,a1n]); apply Y; clear Y X))
    refine ⟨⟨n + 1,q',h6,by simp,by omega,d6,t6,hp6⟩,?_⟩
    show ((m:Int) + 1 - ((n:Int) + 1)).toNat < ((m:Int) + 1 - (n:Int)).toNat
    omega
  ·rw [c6i (by omega)] at hp
   have hp:q = _:=hp
   refine k0 w5 h5 ?_ t5
   have e:b9a A f a s = { A with F:=b0n A.F f (a9k (A.F f).1 a s,(A.F f).2),queue:=q }:=by
    unfold b9a
    rw [if_neg hsne,hp]
   rw [e]
   exact d5
 ·exact k' (b8z A f) A (by rw [if_pos hg]) w h d (Step.refl _ _ _)
end
attribute [local go_sem] a1m
section
variable {w:World} {b:Nat} {A:Ab} {h:Dk} {K:VK}
theorem c9d:a8f Tryz.prog 165 = true:=by kernel_rfl
theorem e8k:a8f Tryz.prog 167 = true:=by kernel_rfl
theorem c9e {x:Nat} {f:Int} (p:Int × Int) (hx:w.heap[x]? = some (.cells #[.int .i64 f] 3 (0,0))) (k:∀ w',Fr (fun _=>False) w w' → K (.bool (decide (p.1 = f))) w'):a0a Tryz.prog 165 #[.agg #[.int .i64 p.1,.int .i64 p.2],.pointer (some ⟨x,0,none⟩)] K w:=by
 apply d5w
 unfold f4b
 have hlt:=(Array.getElem?_eq_some_iff.1 hx).1
 have f0:Fr (fun _=>False) w (w.alloc (.cells #[.int .i64 p.1,.int .i64 p.2] 147 (0,0))):=(Fr.refl _ _).alloc _
 have hx2:=(f0.block x hlt (fun h=>h)).trans hx
 have e:=a0b hx2 0
 simp at e
 refine Xg @e ?_
 exact k _ f0
theorem e8l {x:Nat} {f:Int} (p:Int × Int) (v:Value) (hx:w.heap[x]? = some (.cells #[.int .i64 f] 3 (0,0))) (k:∀ w',Fr (fun _=>False) w w' → K (.bool (decide (p.1 = f))) w'):a0a Tryz.prog 167 #[.agg #[.int .i64 p.1,.int .i64 p.2],v,.pointer (some ⟨x,0,none⟩)] K w:=by
 apply d5y
 unfold f4d
 have hlt:=(Array.getElem?_eq_some_iff.1 hx).1
 have f0:Fr (fun _=>False) w (w.alloc (.cells #[.int .i64 p.1,.int .i64 p.2] 147 (0,0))):=(Fr.refl _ _).alloc _
 have hx2:=(f0.block x hlt (fun h=>h)).trans hx
 have e:=a0b hx2 0
 simp at e
 refine Xg @e ?_
 exact k _ f0
def idxOf (f:Int):List (Int × Int) → Int
 | []=>-1
 | p :: q=>if p.1 = f then 0 else if idxOf f q = -1 then -1 else idxOf f q + 1
theorem c6j (f:Int) (q:List (Int × Int)):(idxOf f q = -1 ∧ ∀ p ∈ q,p.1 ≠ f) ∨ ∃ q1 p q2,q = q1 ++ p :: q2 ∧ p.1 = f ∧ (∀ r ∈ q1,r.1 ≠ f) ∧ idxOf f q = q1.length:=by
 induction q with
 | nil=>exact .inl ⟨rfl,by simp⟩
 | cons p q ih=>
  by_cases hp:p.1 = f
  ·exact .inr ⟨[],p,q,rfl,hp,by simp,by simp [idxOf,hp]⟩
  ·rcases ih with ⟨h1,h2⟩ | ⟨q1,r,q2,rfl,h2,h3,h4⟩
   ·refine .inl ⟨by simp [idxOf,hp,h1],?_⟩
    intro r hr
    rcases List.mem_cons.1 hr with rfl | hr
    ·exact hp
    ·exact h2 r hr
   ·refine .inr ⟨p :: q1,r,q2,rfl,h2,?_,?_⟩
    ·intro x hx
     rcases List.mem_cons.1 hx with rfl | hx
     ·exact hp
     ·exact h3 x hx
    ·simp only [idxOf,hp,if_false,h4,List.length_cons]
     rw [if_neg (by omega)]
     omega
theorem d1q (f:Int) (q:List (Int × Int)) (j:Nat) (hj:∀ p ∈ q.take j,p.1 ≠ f) (p:Int × Int) (hp:q[j]? = some p) (hf:p.1 = f):idxOf f q = j:=by
 induction q generalizing j with
 | nil=>simp at hp
 | cons r q ih=>
  cases j with
  | zero=>
   simp only [List.getElem?_cons_zero,Option.some.injEq] at hp
   subst hp
   simp [idxOf,hf]
  | succ j=>
   have hr:r.1 ≠ f:=hj r (by simp)
   have:=ih j (fun x hx=>hj x (by simp [hx])) (by simpa using hp)
   simp only [idxOf,hr,if_false,this]
   rw [if_neg (by omega)]
   omega
theorem d1r (f:Int) (q:List (Int × Int)) (h:∀ p ∈ q,p.1 ≠ f):idxOf f q = -1:=by
 induction q with
 | nil=>rfl
 | cons r q ih=>
  have hr:r.1 ≠ f:=h r (List.mem_cons_self ..)
  simp [idxOf,hr,ih (fun p hp=>h p (List.mem_cons_of_mem _ hp))]
theorem c3c {v:Value} {q:List (Int × Int)} (ho:w.ownsRow 0 147 2 v q.length (a2g b5f q)) {j:Nat} {p:Int × Int} (hj:q[j]? = some p):∃ g c,v = .slice (some ⟨g,0,none⟩) q.length c ∧ w.cell? ⟨g,j * 2,none⟩ = some (.int .i64 p.1) ∧ w.cell? ⟨g,j * 2 + 1,none⟩ = some (.int .i64 p.2):=by
 have hlt:=(gS hj).1
 obtain ⟨g,cap,cur,rfl,_,_,_,_,_,hc⟩:=a2t ho (by omega)
 refine ⟨g,cap,rfl,hc _ _ ?_,hc _ _ ?_⟩
 ·have:=b0d b0s q j 0 hj (by omega)
  simpa [b5f] using this
 ·have:=b0d b0s q j 1 hj (by omega)
  simpa [b5f] using this
theorem c9f {g n c k:Nat} (hk:k < n) (w:World):(Instr.indexAt 142 (.slice (some ⟨g,0,none⟩) n c) (.int .i64 k)).run Tryz.prog w = .ok (.pointer (some ⟨g,k * 2,none⟩)) w:=by
 rw [run_indexAt_slice (h:=by kernel_rfl),if_pos (by omega)]
 have hs:(sizeOf (Tryz.prog.elem 142)).run Tryz.prog w = .ok 2 w:=by kernel_rfl
 rw [hs]
 simp only [Result.andThen,Int.toNat_natCast,a2d,Nat.zero_add]
theorem e8m {x:Nat} {f:Int} {v:Value} {q:List (Int × Int)} (hq:q.length < 2 ^ 40) (hx:w.heap[x]? = some (.cells #[.int .i64 f] 3 (0,0))) (ho:w.ownsRow 0 147 2 v q.length (a2g b5f q)) (k:∀ w',Fr (fun _=>False) w w' → K (.int .i64 (idxOf f q)) w'):a0a Tryz.prog 204 #[v,.func (.func 165) #[] #[.pointer (some ⟨x,0,none⟩)]] K w:=by
 apply d6a
 unfold f4f
 obtain ⟨va,vc,rfl⟩:=a1v ho
 refine Xc0 ?_
 refine ⟨fun l w'=>∃ u1 u2,∃ j:Nat,l = [u1,u2,.int .i64 (j:Int)] ∧ j ≤ q.length ∧ (∀ p ∈ q.take j,p.1 ≠ f) ∧ Fr (fun _=>False) w w',fun l _=>match l with | [_,_,.int _ n]=>((q.length:Int) - n).toNat | _=>0,⟨_,_,0,rfl,by omega,by simp,Fr.refl _ _⟩,?_⟩
 rintro l u w1 ⟨u1,u2,j,rfl,hj,hpre,fr⟩
 simp only [List.getD_cons_zero,List.getD_cons_succ]
 repeat (any_goals (first
 | (with_reducible ((refine a1q ?_); refine yP (fun hg=>?_) fun hg=>?_))
 | ((with_reducible refine oG fun X Y=>?_); simp [go_sem]; apply Y; clear Y X)))
 ·have hlt:j < q.length:=by omega
  have hx1:=(fr.block x (Array.getElem?_eq_some_iff.1 hx).1 (fun h=>h)).trans hx
  have ho1:w1.ownsRow 0 147 2 (.slice va q.length vc) q.length (a2g b5f q):=a0r ho (fun i hi=>fr.block i (a0p ho hi).1 (fun h=>h))
  obtain ⟨g,c,hv,e0,e1⟩:=c3c ho1 (gE hlt)
  cases hv
  have hix:=c9f (c:=vc) (g:=g) hlt w1
  repeat (any_goals (first
  | (with_reducible refine a3c c9d ?_)
  | ((with_reducible refine oG fun X Y=>?_); simp [go_sem,hix,e0,e1]; apply Y; clear Y X)))
  refine c9e (f:=f) q[j] hx1 (fun w2 f2=>?_)
  repeat (any_goals (first
  | (with_reducible ((refine a1q ?_); refine yP (fun hg=>?_) fun hg=>?_))
  | ((with_reducible refine oG fun X Y=>?_); simp [go_sem]; (try simp (disch:=omega) only [a0o,a2x,a1n]); apply Y; clear Y X)))
  ·have hg':q[j].1 = f:=by assumption
   rw [d1q f q j hpre _ (gE hlt) hg'] at k
   exact k w2 (fr.trans f2 (fun _ h=>h.elim))
  ·have hg':¬ q[j].1 = f:=by assumption
   refine ⟨⟨_,_,j + 1,rfl,by omega,?_,fr.trans f2 (fun _ h=>h.elim)⟩,?_⟩
   ·intro p hp
    rw [List.take_succ_eq_append_getElem hlt] at hp
    rcases List.mem_append.1 hp with hp | hp
    ·exact hpre p hp
    ·simp only [List.mem_singleton] at hp
     rw [hp]; exact hg'
   ·show ((q.length:Int) - ((j:Int) + 1)).toNat < ((q.length:Int) - (j:Int)).toNat
    omega
 ·rw [d1r f q (by
   rw [List.take_of_length_le (by omega)] at hpre
   exact hpre)] at k
  exact k w1 fr
theorem e8n {t T e:TypeId} {z:Value} {g o n c:Nat} {cur:Array Value} {zs:List Value} (ht:Tryz.prog.underlying t = some (.slice e)) (hv:∀ w,(zeroValue e).run Tryz.prog w = .ok z w) (hn:0 < n) (hzs:(Builtin.zeroCells z.cells n).toList = zs) (h1:∀ v ∈ zs,v.oneCell' = true) (hg:w.heap[g]? = some (.cells cur e (0,0))) (hfit:o + zs.length ≤ cur.size)
  (k:∀ w' cur',w.grownBy w' (some g) → w'.heap[g]? = some (.cells cur' e (0,0)) → cur'.size = cur.size → (∀ i,i < o → cur'[i]? = cur[i]?) → K (.tuple #[]) w'):oM Tryz.prog (.call { callee:=.builtin .clear,args:=#[.tmp 0],argTypes:=#[t] }) T [.slice (some ⟨g,o,none⟩) n c] K w:=by
 have hst:=run_storeCells_at Tryz.prog g o e zs 0 cur w hg (by simpa using hfit) h1
 rw [f0p]
 have hr:(Builtin.clear_ #[t] T #[.slice (some ⟨g,o,none⟩) n c]).run Tryz.prog w = .ok (.tuple #[]) (w.setRow g (cur.toList.take o ++ zs ++ cur.toList.drop (o + zs.length)).toArray):=by
  obtain ⟨m,rfl⟩:∃ m,n = m + 1:=⟨n - 1,by omega⟩
  simp only [Nat.add_zero] at hst
  simp [Builtin.clear_,run_underlying ht,hv,hzs,hst]
 rw [hr]
 refine k _ _ (a2w _ _ _) (setRow_heap w g _ _ e (0,0) hg) ?_ ?_
 ·simp
  omega
 ·intro i hi
  simp only [List.getElem?_toArray,List.append_assoc]
  rw [List.getElem?_append_left (by simp; omega),List.getElem?_take_of_lt hi]
  simp
theorem b5x {t T e:TypeId} {x y:Value} {g o:Nat} {cur:Array Value} (hs:∀ w,(sizeOf t).run Tryz.prog w = .ok 2 w) (hx:x.oneCell' = true) (hy:y.oneCell' = true) (hg:w.heap[g]? = some (.cells cur e (0,0))) (hfit:o + 2 ≤ cur.size)
  (k:∀ w' cur',w.grownBy w' (some g) → w'.heap[g]? = some (.cells cur' e (0,0)) → cur'.size = cur.size → (∀ i,i ≠ o → i ≠ o + 1 → cur'[i]? = cur[i]?) → cur'[o]? = some x → cur'[o + 1]? = some y → K undef w'):oM Tryz.prog (.store t (.tmp 0) (.tmp 1)) T [.pointer (some ⟨g,o,none⟩),.agg #[x,y]] K w:=by
 have hst:=run_storeCells_at Tryz.prog g o e [x,y] 0 cur w hg (by simpa using hfit) (by
  intro v hv
  simp at hv
  rcases hv with rfl | rfl
  ·exact hx
  ·exact hy)
 rw [a9a]
 have hr:(Instr.storeAt t (.pointer (some ⟨g,o,none⟩)) (.agg #[x,y])).run Tryz.prog w = .ok () (w.setRow g (cur.toList.take o ++ [x,y] ++ cur.toList.drop (o + 2)).toArray):=by
  simp only [Nat.add_zero,List.length_cons,List.length_nil,Nat.zero_add] at hst
  have e2:(Value.agg #[x,y]).cells = #[x,y]:=rfl
  simp [Instr.storeAt,storeVar,hs,e2,go_sem]
  simpa [go_sem] using hst
 rw [hr]
 have hl:(cur.toList.take o).length = o:=by simp; omega
 refine k _ _ (a2w _ _ _) (setRow_heap w g _ _ e (0,0) hg) ?_ ?_ ?_ ?_
 ·simp
  omega
 ·intro i h1 h2
  simp only [List.getElem?_toArray,List.append_assoc,List.cons_append,List.nil_append]
  by_cases hi:i < o
  ·rw [List.getElem?_append_left (by rw [hl]; exact hi),List.getElem?_take_of_lt hi]
   simp
  ·rw [List.getElem?_append_right (by rw [hl]; omega),hl]
   obtain ⟨m,rfl⟩:∃ m,i = o + (m + 2):=⟨i - o - 2,by omega⟩
   have e3:o + (m + 2) - o = m + 2:=by omega
   rw [e3]
   simp only [List.getElem?_cons_succ,List.getElem?_drop,Array.getElem?_toList]
   congr 1
   omega
 ·simp only [List.getElem?_toArray,List.append_assoc,List.cons_append,List.nil_append]
  rw [List.getElem?_append_right (by rw [hl]; omega),hl]
  simp
 ·simp only [List.getElem?_toArray,List.append_assoc,List.cons_append,List.nil_append]
  rw [List.getElem?_append_right (by rw [hl]; omega),hl]
  have e3:o + 1 - o = 1:=by omega
  rw [e3]
  simp
theorem e8o (n:Nat):(Builtin.zeroCells (Value.agg #[.int .i64 0,.int .i64 0]).cells n).toList.length = n * 2 ∧ ∀ v ∈ (Builtin.zeroCells (Value.agg #[.int .i64 0,.int .i64 0]).cells n).toList,v.oneCell' = true:=by
 constructor
 ·simp [Builtin.zeroCells,Value.cells]
 ·intro v hv
  simp only [Builtin.zeroCells,Array.toList_map,List.mem_map] at hv
  obtain ⟨i,_,rfl⟩:=hv
  have:i % 2 = 0 ∨ i % 2 = 1:=by omega
  rcases this with e | e <;> simp [Value.cells,e,Value.oneCell']
def a4o (f:Int) (q:List (Int × Int)):List (Int × Int):=q.filter (fun p=>decide (p.1 ≠ f))
theorem b9h (f:Int) (q:List (Int × Int)) (j:Nat) (h:j < q.length):a4o f (q.take (j + 1)) = if q[j].1 = f then a4o f (q.take j) else a4o f (q.take j) ++ [q[j]]:=by
 unfold a4o
 rw [List.take_succ_eq_append_getElem h,List.filter_append]
 by_cases hf:q[j].1 = f
 ·rw [if_pos hf]; simp [hf]
 ·rw [if_neg hf]; simp [hf]
def d8p (w:World) (g cap:Nat) (f:Int) (q:List (Int × Int)) (j:Nat):Prop:=
 ∃ cur:Array Value,w.heap[g]? = some (.cells cur 147 (0,0)) ∧ cur.size = cap * 2 ∧ (∀ (k:Nat) (x:Value),(a2g b5f (a4o f (q.take j)))[k]? = some x → cur[k]? = some x) ∧ (∀ (k:Nat) (x:Value),2 * j ≤ k → (a2g b5f q)[k]? = some x → cur[k]? = some x)
theorem d8q {x:Nat} {f:Int} {v:Value} {q:List (Int × Int)} (hq:q.length < 2 ^ 40) (hx:w.heap[x]? = some (.cells #[.int .i64 f] 3 (0,0))) (ho:w.ownsRow 0 147 2 v q.length (a2g b5f q)) (k:∀ v' w',w'.ownsRow 0 147 2 v' (a4o f q).length (a2g b5f (a4o f q)) → Fr (fun i=>v.ownBlock = some i) w w' → (∀ i,v'.ownBlock = some i → v.ownBlock = some i) → K v' w'):a0a Tryz.prog 164 #[v,.func (.func 165) #[] #[.pointer (some ⟨x,0,none⟩)]] K w:=by
 apply d5v
 unfold f4a
 refine e8m hq hx ho (fun w1 f1=>?_)
 have hx1:=(f1.block x (Array.getElem?_eq_some_iff.1 hx).1 (fun h=>h)).trans hx
 have ho1:w1.ownsRow 0 147 2 v q.length (a2g b5f q):=a0r ho (fun i hi=>f1.block i (a0p ho hi).1 (fun h=>h))
 rcases c6j f q with ⟨hi,hall⟩ | ⟨q1,p,q2,hsp,hpf,hpre,hi⟩
 ·rw [hi]
  have hk:a4o f q = q:=List.filter_eq_self.2 (fun p hp=>by simpa using hall p hp)
  rw [hk] at k
  refine Xc0 ?_
  exact k v w1 ho1 (f1.mono (fun _ _ h=>h.elim)) (fun i h=>h)
 ·rw [hi]
  have hlen:q.length = q1.length + 1 + q2.length:=by rw [hsp]; simp; omega
  obtain ⟨g,cap,cur,rfl,hg,_,hcur,hcs,hnc,hcell⟩:=a2t ho1 (by omega)
  have ht1:q.take q1.length = q1:=by rw [hsp]; simp
  have hk1:a4o f (q.take q1.length) = q1:=by
   rw [ht1]
   exact List.filter_eq_self.2 (fun p hp=>by simpa using hpre p hp)
  have hqg:q[q1.length]? = some p:=by rw [hsp]; simp
  have hk2:a4o f (q.take (q1.length + 1)) = q1:=by
   rw [b9h f q q1.length (by omega),hk1,if_pos]
   rw [gE (by omega)] at hqg
   rw [oI hqg]; exact hpf
  have hcf:∀ (k:Nat) (x:Value),(a2g b5f q)[k]? = some x → cur[k]? = some x:=fun k x h=>by
   have:=hcell k x h
   rw [a0b hcur] at this
   exact this
  have hxg:x ≠ g:=fun e=>by rw [e,hcur] at hx1; cases hx1
  refine Xc0 ?_
  have T1:d8p w1 g cap f q (q1.length + 1):=⟨cur,hcur,hcs,fun k x h=>by
   rw [hk2] at h
   refine hcf k x ?_
   rw [hsp,b7k]
   rw [List.getElem?_append_left (by have:=(gS h).1; exact this)]
   exact h,fun k x _ h=>hcf k x h⟩
  refine ⟨fun l w'=>∃ j:Nat,l = [.int .i64 ((a4o f (q.take j)).length:Int),.int .i64 (j:Int)] ∧ (a4o f (q.take j)).length + 1 ≤ j ∧ j ≤ q.length ∧ d8p w' g cap f q j ∧ Fr (fun i=>i = g) w w',fun l _=>match l with | [_,.int _ n]=>((q.length:Int) - n).toNat | _=>0,⟨q1.length + 1,by rw [hk2]; rfl,by rw [hk2]; omega,by omega,T1,f1.mono (fun _ _ h=>h.elim)⟩,?_⟩
  rintro l u w2 ⟨j,rfl,hij,hjn,T2,f2⟩
  simp only [List.getD_cons_zero,List.getD_cons_succ]
  repeat (any_goals (first
  | (with_reducible ((refine a1q ?_); refine yP (fun hg=>?_) fun hg=>?_))
  | ((with_reducible refine oG fun X Y=>?_); simp [go_sem]; apply Y; clear Y X)))
  ·have hlt:j < q.length:=by omega
   obtain ⟨cur2,hcur2,hcs2,hlo2,hhi2⟩:=T2
   have hx2:=(f2.block x (Array.getElem?_eq_some_iff.1 hx).1 (fun h=>hxg h)).trans hx
   have e0:w2.cell? ⟨g,j * 2,none⟩ = some (.int .i64 q[j].1):=by
    rw [a0b hcur2]
    exact hhi2 _ _ (by omega) (by have:=b0d b0s q j 0 (gE hlt) (by omega); simpa [b5f] using this)
   have e1:w2.cell? ⟨g,j * 2 + 1,none⟩ = some (.int .i64 q[j].2):=by
    rw [a0b hcur2]
    exact hhi2 _ _ (by omega) (by have:=b0d b0s q j 1 (gE hlt) (by omega); simpa [b5f] using this)
   have hix:=c9f (c:=cap) (g:=g) hlt w2
   refine ⟨fun l w'=>l = [.int .i64 ((a4o f (q.take (j + 1))).length:Int)] ∧ (a4o f (q.take (j + 1))).length + 1 ≤ j + 1 ∧ d8p w' g cap f q (j + 1) ∧ Fr (fun i=>i = g) w w',?_,?_⟩
   ·refine Xg (An3 @hix @e0 @e1) ?_
    have pf:Fr (fun _=>False) w2 (w2.alloc (.cells #[.int .i64 q[j].1,.int .i64 q[j].2] 147 (0,0))):=(Fr.refl _ _).alloc _
    have p0:=heap_alloc_new w2 (.cells #[.int .i64 q[j].1,.int .i64 q[j].2] 147 (0,0))
    have pz:=a0q w2 (.cells #[.int .i64 q[j].1,.int .i64 q[j].2] 147 (0,0))
    generalize w2.alloc (.cells #[.int .i64 q[j].1,.int .i64 q[j].2] 147 (0,0)) = w3 at *
    have hx3:=(pf.block x (Array.getElem?_eq_some_iff.1 hx2).1 (fun h=>h)).trans hx2
    refine a3c c9d (c9e (f:=f) q[j] hx3 (fun w4 f4=>?_))
    have hg2:=(Array.getElem?_eq_some_iff.1 hcur2).1
    have f24:=pf.trans f4 (fun _ h=>h.elim)
    have hcur4:=(f24.block g hg2 (fun h=>h)).trans hcur2
    have p4:=(f4.block w2.heap.size (by omega) (fun h=>h)).trans p0
    have p40:=a0b p4 0
    have p41:=a0b p4 1
    simp at p40 p41
    have fr4:Fr (fun i=>i = g) w w4:=f2.trans f24 (fun _ h=>h.elim)
    have hkt:=b9h f q j hlt
    have hix4:=c9f (c:=cap) (g:=g) (n:=q.length) (k:=(a4o f (q.take j)).length) (by omega) w4
    obtain ⟨i,hii⟩:∃ i,i = (a4o f (q.take j)).length:=⟨_,rfl⟩
    rw [← hii] at hix4 hij ⊢
    have z0:=a0b hcur4 (i * 2)
    have z1:=a0v hcur4 (i * 2)
    have z3:=a0v hcur4 (i * 2 + 1)
    have s0:(cur2[i * 2]?).isSome = true:=by simp; omega
    have s1:(cur2[i * 2 + 1]?).isSome = true:=by simp; omega
    have T4:(∀ (k:Nat) (x:Value),2 * (j + 1) ≤ k → (a2g b5f q)[k]? = some x → cur2[k]? = some x):=fun k x h1 h2=>hhi2 k x (by omega) h2
    repeat (any_goals (first
    | (with_reducible ((refine a1q ?_); refine yS (fun hg=>?_) fun hg=>?_))
    | ((with_reducible refine oG fun X Y=>?_); simp [go_sem,p40,p41,hix4]; apply Y; clear Y X)))
    ·have hpf':q[j].1 = f:=by assumption
     rw [if_pos hpf'] at hkt
     refine ⟨by rw [hkt,hii],by rw [hkt]; omega,⟨cur2,hcur4,hcs2,by rw [hkt]; exact hlo2,T4⟩,fr4⟩
    ·have hpf':¬ q[j].1 = f:=by assumption
     rw [if_neg hpf'] at hkt
     refine b5x (fun w=>by kernel_rfl) rfl rfl hcur4 (by omega) (fun w5 cur5 hg5 hcur5 hs5 hne5 ha5 hb5=>?_)
     refine Xc0 ?_
     have hfl:=a6z b0s (a4o f (q.take j))
     refine ⟨by rw [hkt,List.length_append,← hii]; rfl,by rw [hkt,List.length_append,← hii]; simp; omega,⟨cur5,hcur5,by rw [hs5,hcs2],?_,?_⟩,fr4.by hg5 (fun i hi=>by cases hi; exact .inl rfl)⟩
     ·intro k x hk
      rw [hkt,flat_snoc] at hk
      by_cases hki:k < i * 2
      ·rw [List.getElem?_append_left (by rw [hfl,← hii]; exact hki)] at hk
       rw [hne5 k (by omega) (by omega)]
       exact hlo2 k x hk
      ·rw [List.getElem?_append_right (by rw [hfl,← hii]; omega),hfl,← hii] at hk
       have hk2:k - i * 2 < 2:=by have:=(gS hk).1; exact this
       obtain ⟨m,rfl⟩:∃ m,k = i * 2 + m:=⟨k - i * 2,by omega⟩
       have e3:i * 2 + m - i * 2 = m:=by omega
       rw [e3] at hk hk2
       match m,hk2,hk with
       | 0,_,hk=>rw [Nat.add_zero,ha5]; exact hk
       | 1,_,hk=>rw [hb5]; exact hk
     ·intro k x h1 h2
      rw [hne5 k (by omega) (by omega)]
      exact T4 k x h1 h2
   ·rintro l u w3 ⟨rfl,hij3,T3,f3⟩
    simp only [List.getD_cons_zero]
    repeat (any_goals ((with_reducible refine oG fun X Y=>?_); simp [go_sem]; (try simp (disch:=omega) only [a0o,a2x,a1n]); apply Y; clear Y X))
    refine ⟨⟨j + 1,rfl,hij3,by omega,T3,f3⟩,?_⟩
    show ((q.length:Int) - ((j:Int) + 1)).toNat < ((q.length:Int) - (j:Int)).toNat
    omega
  ·have hjq:j = q.length:=by omega
   subst hjq
   obtain ⟨cur2,hcur2,hcs2,hlo2,hhi2⟩:=T2
   have htk:q.take q.length = q:=List.take_of_length_le (rL)
   rw [htk] at hij hlo2 ⊢
   obtain ⟨hz1,hz2⟩:=e8o (q.length - (a4o f q).length)
   refine b4n (sz:=2) (by kernel_rfl) (fun w=>by kernel_rfl) _ (by omega) (by omega) ?_
   rw [Nat.zero_add]
   refine e8n (by kernel_rfl) (z:=.agg #[.int .i64 0,.int .i64 0]) (fun w=>by kernel_rfl) (by omega) rfl hz2 hcur2 (by rw [hz1]; omega) (fun w3 cur3 hg3 hcur3 hs3 hlo3=>?_)
   refine b9v (sz:=2) (by kernel_rfl) (fun w=>by kernel_rfl) _ (by omega) ?_
   have f3:Fr (fun i=>i = g) w w3:=f2.by hg3 (fun i hi=>by cases hi; exact .inl rfl)
   have hfl:=a6z b0s (a4o f q)
   refine k _ w3 ⟨hfl,.inr ⟨g,cap,cur3,rfl,Nat.zero_le _,hcur3,by omega,?_,by rw [hs3,hcs2],?_⟩⟩ (f3.mono (fun i _ hi=>by rw [hi]; rfl)) (fun i hi=>hi)
   ·rcases ho.2 with ⟨h1,_⟩ | ⟨g',cap',cur',h1,_,_,_,hm,_⟩
    ·cases h1
    ·cases h1; exact hm
   ·apply List.ext_getElem?
    intro i
    by_cases hi:i < (a4o f q).length * 2
    ·rw [List.getElem?_take_of_lt hi]
     have hx':(a2g b5f (a4o f q))[i]? = some ((a2g b5f (a4o f q))[i]'(by rw [hfl]; exact hi)):=gE _
     rw [hx',Array.getElem?_toList,hlo3 i hi]
     exact hlo2 i _ hx'
    ·rw [List.getElem?_eq_none (by simp; omega),List.getElem?_eq_none (by rw [hfl]; omega)]
end
end Go.Proofs
namespace Go.Sh
open Go Go.RowKit
theorem a6j {κ:Type} [DecidableEq κ] (d ks:List κ) (hn:d.Nodup) (hs:∀ x ∈ d,x ∈ ks):d.length ≤ ks.length:=by
 induction d generalizing ks with
 | nil=>simp
 | cons a d ih=>
  rw [List.nodup_cons] at hn
  have ha:=hs a (List.mem_cons_self ..)
  have:=ih (ks.erase a) hn.2 (fun x hx=>by
   have hne:x ≠ a:=fun e=>hn.1 (by rw [← e]; exact hx)
   exact (List.mem_erase_of_ne hne).2 (hs x (List.mem_cons_of_mem _ hx)))
  rw [List.length_erase_of_mem ha] at this
  have:=List.length_pos_of_mem ha
  simp only [List.length_cons]
  omega
@[go_sem] theorem f9r {P:Program} {K:VK} {w:World} (T:TypeId) (a:Value):oM P (.extract (.tmp 0) 0) T [.tuple #[a]] K w = K a w:=a2s rfl
section
variable {w:World} {κ:Type} [DecidableEq κ] {mk:κ → Value}
theorem Ranged.seen {it b:Nat} {l:List (κ × Value)} {ks done:List κ} (h:Ranged mk w it b l ks done):(w.iterSeen it).size = done.length:=by
 obtain ⟨es,clock,seen,f,h1,h2,h3,h4,h5,h6,h7,h8,_⟩:=h
 unfold World.iterSeen
 rw [h2]
 have:=congrArg List.length h8
 simpa using this
theorem Ranged.sub {it b:Nat} {l:List (κ × Value)} {ks done:List κ} (h:Ranged mk w it b l ks done):∀ a ∈ done,a ∈ ks:=by
 obtain ⟨es,clock,seen,f,h1,h2,h3,h4,h5,h6,h7,h8,h9,h10⟩:=h
 exact h10
end
end Go.Sh
namespace Go.Proofs
open Go Go.Sh Go.RowKit DkSpec
attribute [local go_sem] a1m
section
variable {w:World} {b:Nat} {A:Ab} {h:Dk} {K:VK}
theorem d8r {P:Program} {f:FuncId} {fs cs:Array Value} {T:TypeId} {ts:Array TypeId} {x y:Value} (hb:a8f P f = true) (h:a0a P f (fs ++ #[x,y] ++ cs) K w):oM P (.call { callee:=.value (.tmp 0),args:=#[.tmp 1,.tmp 2],argTypes:=ts }) T [.func (.func f) fs cs,x,y] K w:=
 b5j _ hb (by simp [xop,execOp,a0u,evE,resolve,Deferred.ofValue,invoke]) h
theorem c3d {x sm:Nat} {f:Int} {ls:List ((Int × Int) × Value)} (hx:w.heap[x]? = some (.cells #[.int .i64 f] 3 (0,0))) (m:MapIs b8k w sm ls) (k:∀ w',MapIs b8k w' sm (ls.filter (fun y=>decide (y.1.1 ≠ f))) → Fr (fun i=>i = sm) w w' → K (.tuple #[]) w'):a0a Tryz.prog 166 #[.map (some sm),.func (.func 167) #[] #[.pointer (some ⟨x,0,none⟩)]] K w:=by
 apply d5x
 unfold f4c
 obtain ⟨o,hr,R⟩:=c4l (P:=Tryz.prog) (t:=143) (kt:=147) (et:=4) (by kernel_rfl) m
 have f0:Fr (fun i=>i = sm) w (w.alloc o):=(Fr.refl _ _).alloc _
 refine Xg @hr ?_
 generalize w.alloc o = w0 at *
 have hsm:sm < w.heap.size:=m.lt
 refine ⟨fun l w'=>∃ u done,l = [u] ∧ done.Nodup ∧ Ranged b8k w' w.heap.size sm (ls.filter (fun y=>decide (¬ (y.1 ∈ done ∧ y.1.1 = f)))) (ls.map (·.1)) done ∧ Fr (fun i=>i = sm) w w',fun _ w'=>(ls.map (·.1)).length + 1 - (w'.iterSeen w.heap.size).size,⟨_,[],rfl,List.nodup_nil,by
  have e:ls.filter (fun y=>decide (¬ (y.1 ∈ ([]:List (Int × Int)) ∧ y.1.1 = f))) = ls:=List.filter_eq_self.2 (fun y _=>by simp)
  rw [e]; exact R,f0⟩,?_⟩
 rintro l u w1 ⟨u1,done,rfl,hnd,R1,f1⟩
 have hlen:=a6j done _ hnd R1.sub
 have hseen:=R1.seen
 rcases d0k (P:=Tryz.prog) (ty:=0) R1 with ⟨hall,hn⟩ | ⟨y,hy,hyd,w2,hn,R2,g2,z2⟩
 ·refine Xg @hn ?_
  refine k w1 ?_ f1
  have:=R1.map
  have e:ls.filter (fun y=>decide (¬ (y.1 ∈ done ∧ y.1.1 = f))) = ls.filter (fun y=>decide (y.1.1 ≠ f)):=by
   apply List.filter_congr
   intro y hy
   by_cases hf:y.1.1 = f
   ·by_cases hd:y.1 ∈ done
    ·simp [hf,hd]
    ·have hy':y ∈ ls.filter (fun y=>decide (¬ (y.1 ∈ done ∧ y.1.1 = f))):=List.mem_filter.2 ⟨hy,by simp [hd]⟩
     exact absurd (hall y hy') hd
   ·simp [hf]
  rw [e] at this
  exact this
 ·have he:=c4m (P:=Tryz.prog) R2 hy
  have f2:Fr (fun i=>i = sm) w w2:=f1.by g2 (fun i hi=>by cases hi; exact .inr (rL))
  simp only [b8k] at hn he
  refine Xg (An2 @hn @he) ?_
  have pf:Fr (fun _=>False) w2 (w2.alloc (.cells #[.int .i64 y.1.1,.int .i64 y.1.2] 147 (0,0))):=(Fr.refl _ _).alloc _
  have p0:=heap_alloc_new w2 (.cells #[.int .i64 y.1.1,.int .i64 y.1.2] 147 (0,0))
  have pz:=a0q w2 (.cells #[.int .i64 y.1.1,.int .i64 y.1.2] 147 (0,0))
  generalize w2.alloc (.cells #[.int .i64 y.1.1,.int .i64 y.1.2] 147 (0,0)) = w3 at *
  have hxl:=(Array.getElem?_eq_some_iff.1 hx).1
  have hxs:x ≠ sm:=fun e=>by
   obtain ⟨es,c,hm⟩:=MapIs.isMap m
   rw [e,hm] at hx; cases hx
  have hx2:=(f2.block x hxl hxs).trans hx
  have hx3:=(pf.block x (Array.getElem?_eq_some_iff.1 hx2).1 (fun h=>h)).trans hx2
  refine d8r e8k (e8l (f:=f) y.1 y.2 hx3 (fun w4 f4=>?_))
  have f24:=pf.trans f4 (fun _ h=>h.elim)
  have R4:=R2.of_blocks (f24.block sm R2.lt.1 (fun h=>h)) (f24.block w.heap.size R2.lt.2.1 (fun h=>h))
  have p4:=(f4.block w2.heap.size (by omega) (fun h=>h)).trans p0
  have p40:=a0b p4 0
  have p41:=a0b p4 1
  simp at p40 p41
  have fr4:Fr (fun i=>i = sm) w w4:=f2.trans f24 (fun _ h=>h.elim)
  have hmem:y.1 ∈ (ls.filter (fun y=>decide (¬ (y.1 ∈ done ∧ y.1.1 = f)))).map (·.1):=List.mem_map_of_mem hy
  have hlen4:=a6j (y.1 :: done) _ (List.nodup_cons.2 ⟨hyd,hnd⟩) R4.sub
  simp only [List.length_cons] at hlen4
  obtain ⟨w5,hd,R5,g5,z5⟩:=c7o (P:=Tryz.prog) (t:=143) (et:=4) (ty:=0) g8t (by kernel_rfl) R4 y.1 hmem
  simp only [b8k] at hd
  repeat (any_goals (first
  | (with_reducible ((refine a1q ?_); refine yP (fun hg=>?_) fun hg=>?_))
  | ((with_reducible refine oG fun X Y=>?_); simp [go_sem,p40,p41,hd]; apply Y; clear Y X)))
  ·have hf:y.1.1 = f:=by assumption
   refine ⟨⟨_,y.1 :: done,rfl,List.nodup_cons.2 ⟨hyd,hnd⟩,?_,fr4.by g5 (fun i hi=>by cases hi; exact .inl rfl)⟩,?_⟩
   ·have e:f0l (ls.filter (fun y=>decide (¬ (y.1 ∈ done ∧ y.1.1 = f)))) y.1 = ls.filter (fun z=>decide (¬ (z.1 ∈ y.1 :: done ∧ z.1.1 = f))):=by
     unfold f0l
     rw [List.filter_filter]
     apply List.filter_congr
     intro z _
     by_cases hz:z.1 = y.1
     ·simp [hz,hf]
     ·simp [hz]
    rw [← e]; exact R5
   ·have:=R5.seen
    simp only [List.length_cons] at this
    show _ - _ < _ - _
    omega
  ·have hf:¬ y.1.1 = f:=by assumption
   refine ⟨⟨_,y.1 :: done,rfl,List.nodup_cons.2 ⟨hyd,hnd⟩,?_,fr4⟩,?_⟩
   ·have e:ls.filter (fun y=>decide (¬ (y.1 ∈ done ∧ y.1.1 = f))) = ls.filter (fun z=>decide (¬ (z.1 ∈ y.1 :: done ∧ z.1.1 = f))):=by
     apply List.filter_congr
     intro z _
     by_cases hz:z.1 = y.1
     ·simp [hz,hf]
     ·simp [hz]
    rw [← e]; exact R4
   ·have:=R4.seen
    simp only [List.length_cons] at this
    show _ - _ < _ - _
    omega
end
end Go.Proofs
namespace Go.Proofs
open Go Go.Sh Go.RowKit DkSpec
attribute [local go_sem] a1m
section
variable {w:World} {b:Nat} {A:Ab} {h:Dk} {K:VK}
theorem c3e (d:IsDk w b A h) (f:Int) (s:Bs) (hs:s.length ≤ 16777216) (k:∀ w' h',IsDk w' b (a3e A f s) h' → Step w b h w' h' → K (.tuple #[]) w'):a0a Tryz.prog 119 #[dkP b,.int .i64 f,bsV s] K w:=by
 apply d5q
 unfold f3v
 refine Xc0 ?_
 have pf:Fr (fun _=>False) w (w.alloc (.cells #[.int .i64 f] 3 (0,0))):=(Fr.refl _ _).alloc _
 have p0:=heap_alloc_new w (.cells #[.int .i64 f] 3 (0,0))
 have pz:=a0q w (.cells #[.int .i64 f] 3 (0,0))
 generalize w.alloc (.cells #[.int .i64 f] 3 (0,0)) = w1 at *
 have d1:=d.fresh pf
 have c0:=d1.c 0
 simp only [a0x] at c0
 have p00:=a0b p0 0
 simp at p00
 refine ⟨fun sg w'=>sg ≤ 1 → w'.heap = w1.heap,fun _=>rfl,?_⟩
 repeat (first | (with_reducible refine pX ?_) | (with_reducible refine a3t ?_) | (with_reducible refine a2m rfl ?_) | (with_reducible refine a2b rfl ?_) | (refine a1z ⟨_,rfl⟩ (fun W0 hW0=>by (obtain ⟨s0,hs0,hC⟩:=hW0); (refine oG (fun X Y=>?_)); simp [go_sem,a5o (hC (by omega)),c0,p00]; (first | exact Y _ _ ⟨rfl,rfl⟩ | exact ⟨by omega,Y _ _ ⟨rfl,rfl⟩⟩)) ?_))
 generalize hw2:({ w1 with drawn:=w1.drawn + 1 }:World) = w2
 have hh:w2.heap = w1.heap:=by rw [← hw2]
 have d2:=d1.heap hh
 have f2:Fr (fun _=>False) w w2:=by rw [← hw2]; exact pf.drew
 have p2:w2.heap[w.heap.size]? = some (.cells #[.int .i64 f] 3 (0,0)):=by rw [hh]; exact p0
 rw [← hh] at pz
 clear hw2
 obtain ⟨w4,hr4,d4,t4⟩:=d2.setFile f (s,s) ⟨hs,hs⟩
 simp only at hr4
 repeat (any_goals (first
 | (with_reducible refine And.intro (fun _=>hh) ?_) | (with_reducible refine And.intro (fun hs=>absurd hs (by decide)) ?_)
 | ((with_reducible refine oG fun X Y=>?_); simp [go_sem,hr4]; apply Y; clear Y X)))
 have t04:Step w b h w4 h:=(Step.fresh f2).trans t4
 have blt:b < w.heap.size:=d.lt (.inl (.inl rfl))
 have hnown:∀ i,Own b h i → i < w.heap.size:=fun i hi=>d.lt (.inl hi)
 have p4:=(t4.fr.block w.heap.size (by omega) (fun ho=>by have:=hnown _ ho; omega)).trans p2
 have c1:=d4.c 1
 simp only [a0x] at c1
 repeat (any_goals (first
 | (with_reducible refine d8q (f:=f) (by have:=d4.wf.ql; omega) p4 d4.que ?_)
 | ((with_reducible refine oG fun X Y=>?_); simp [go_sem,c1]; apply Y; clear Y X)))
 intro v' w5 ho5 f5 hv5
 obtain ⟨va,vc,rfl⟩:=a1v ho5
 have hq4:∀ i,h.q.ownBlock = some i → i < w.heap.size:=fun i hi=>hnown i (.inr (.inr (.inr hi)))
 have k5:∀ i,i < w4.heap.size → h.q.ownBlock ≠ some i → w5.heap[i]? = w4.heap[i]?:=fun i hi hn=>f5.block i hi (fun e=>hn e)
 have hz4:=t4.fr.size
 have hz5:=f5.size
 have hqb:h.q.ownBlock ≠ some b:=fun e=>(d4.qne e).1 rfl
 have hqf:h.q.ownBlock ≠ some h.fm:=fun e=>(d4.qne e).2.1 rfl
 have hqs:h.q.ownBlock ≠ some h.sm:=fun e=>(d4.qne e).2.2 rfl
 have b5:=(k5 b (by omega) hqb).trans d4.blk
 have p5:=(k5 w.heap.size (by omega) (fun e=>by have:=hq4 _ e; omega)).trans p4
 have e1:=a0b b5 1
 have y1:=a0v b5 1
 have b6:=a2i (i:=1) b5 (.slice va (a4o f A.queue).length vc)
 have e2:=a0b b6 2
 simp [a0x] at e1 e2
 refine Xg (An3 @e1 @y1 @e2) ?_
 have k6:∀ i,i ≠ b → (w5.setCell ⟨b,1,none⟩ (.slice va (a4o f A.queue).length vc)).heap[i]? = w5.heap[i]?:=fun i hi=>a0l _ _ _ _ hi
 have z6:=a9b w5 ⟨b,1,none⟩ (.slice va (a4o f A.queue).length vc)
 have zz6:(w5.setCell ⟨b,1,none⟩ (.slice va (a4o f A.queue).length vc)).heap.size = w5.heap.size:=by simp [World.setCell]
 generalize w5.setCell ⟨b,1,none⟩ (.slice va (a4o f A.queue).length vc) = w6 at *
 have p6:=(k6 w.heap.size (by omega)).trans p5
 have hsm4:h.sm < w.heap.size:=hnown _ (.inr (.inr (.inl rfl)))
 have hfm4:h.fm < w.heap.size:=hnown _ (.inr (.inl rfl))
 obtain ⟨ls,ms,hls⟩:=d4.set
 have m6:MapIs b8k w6 h.sm ls:=ms.of_block ((k6 _ d4.bsm.symm).trans (k5 _ (by omega) hqs))
 refine c3d (f:=f) p6 m6 (fun w7 m7 f7=>?_)
 have k7:∀ i,i < w4.heap.size → i ≠ h.sm → w7.heap[i]? = w6.heap[i]?:=fun i hi hn=>f7.block i (by omega) hn
 have hvn:∀ i,(Value.slice va (a4o f A.queue).length vc).ownBlock = some i → i ≠ b ∧ i ≠ h.sm ∧ i < w.heap.size:=fun i hi=>⟨(d4.qne (hv5 i hi)).1,(d4.qne (hv5 i hi)).2.2,hq4 i (hv5 i hi)⟩
 refine k w7 { h with q:=.slice va (a4o f A.queue).length vc } ⟨?_,?_,?_,?_,?_,d.ne,b0o d.wf f s hs⟩ ⟨?_,?_,fun i hi=>.inl hi⟩
 ·rw [k7 b (by omega) d4.bsm,b6]; rfl
 ·obtain ⟨l,m,hl⟩:=d4.files
  exact ⟨l,m.of_block (by rw [k7 _ (by omega) d4.ne,k6 _ d4.bfm.symm,k5 _ (by omega) hqf]),hl⟩
 ·refine ⟨_,m7,fun p=>?_⟩
  rw [c4g (fun p:Int × Int=>decide (p.1 ≠ f)),hls]
  show _ = if p ∈ A.queue.filter (fun p=>decide (p.1 ≠ f)) then _ else _
  by_cases hp:p.1 = f
  ·simp [hp]
  ·simp [hp]
 ·exact a0r ho5 (fun i hi=>by
   have:=hvn i hi
   rw [k7 i (by omega) this.2.1,k6 i this.1])
 ·refine a0r d4.kep (fun i hi=>?_)
  have h1:=d4.kne hi
  have h2:=d4.lt (.inr hi)
  rw [k7 i h2 h1.2.2.1,k6 i h1.1,k5 i h2 h1.2.2.2]
 ·have fA:Fr (Own b h) w w5:=t04.fr.trans f5 (fun i hi=>.inl (.inr (.inr (.inr hi))))
  have fB:Fr (Own b h) w w6:=fA.by z6 (fun i hi=>by cases hi; exact .inl (.inl rfl))
  exact fB.trans f7 (fun i hi=>.inl (.inr (.inr (.inl hi))))
 ·rintro i (rfl | rfl | rfl | hi)
  ·exact .inl (.inl rfl)
  ·exact .inl (.inr (.inl rfl))
  ·exact .inl (.inr (.inr (.inl rfl)))
  ·exact .inl (.inr (.inr (.inr (hv5 i hi))))
end
end Go.Proofs
namespace Go.Proofs
open Go Go.Sh Go.RowKit DkSpec
attribute [local go_sem] a1m
def f6h (a0 v5_20 v6_32 v39_31 x:Value) (M_16:List Value → World → Prop) (w:World):Prop:=
 (a3p w (fun C_52 w=>(oH Tryz.prog (Go.Op.fieldAddr 149 (.tmp 0) 1) 0 [v6_32] (a0m C_52 0) (fun v61_53=>
 oH Tryz.prog (Go.Op.load 9 (.tmp 0)) 9 [v61_53] (a0m C_52 0) (fun v62_54=>
 a0d v39_31 (a0m C_52 0) (fun v63_55=>
 oH Tryz.prog (Go.Op.fieldAddr 149 (.tmp 0) 0) 0 [v6_32] (a0m C_52 0) (fun v64_56=>
 oH Tryz.prog (Go.Op.load 9 (.tmp 0)) 9 [v64_56] (a0m C_52 0) (fun v65_57=>
 a0d v39_31 (a0m C_52 0) (fun v66_58=>
 a0d v39_31 (a0m C_52 0) (fun v67_59=>
 oH Tryz.prog (Go.Op.binOp Go.BinOp.add 3 (.tmp 0) (.tmp 1) 3) 3 [v67_59,(.int .i64 64)] (a0m C_52 0) (fun v68_60=>
 oH Tryz.prog (Go.Op.fieldAddr 149 (.tmp 0) 0) 0 [v6_32] (a0m C_52 0) (fun v69_61=>
 oH Tryz.prog (Go.Op.load 9 (.tmp 0)) 9 [v69_61] (a0m C_52 0) (fun v70_62=>
 oH Tryz.prog (Go.Op.call (Go.Call.mk (Go.Callee.builtin Go.Builtin.len) #[(.tmp 0)] #[9])) 3 [v70_62] (a0m C_52 0) (fun v71_63=>
 oH Tryz.prog (Go.Op.call (Go.Call.mk (Go.Callee.builtin Go.Builtin.min) #[(.tmp 0),(.tmp 1)] #[3,3])) 3 [v68_60,v71_63] (a0m C_52 0) (fun v72_64=>
 oH Tryz.prog (Go.Op.slice 9 (.tmp 0) (some (.tmp 1)) (some (.tmp 2)) none) 9 [v65_57,v66_58,v72_64] (a0m C_52 0) (fun v73_65=>
 a0a Tryz.prog 76 #[v62_54,v63_55,v73_65] (fun v74_66 w=>C_52 1 w ∧ (
 oM Tryz.prog (Go.Op.fieldAddr 149 (.tmp 0) 1) 0 [v6_32] (fun v75_67 w=>C_52 2 w ∧ (
 oM Tryz.prog (Go.Op.store 9 (.tmp 0) (.tmp 1)) 0 [v75_67,v74_66] (fun _ w=>C_52 3 w ∧ (
 a3p w (fun C_68 w=>(a0d a0 (a0m C_68 0) (fun v76_69=>
 oH Tryz.prog (Go.Op.nilCheck (.tmp 0)) 0 [v76_69] (a0m C_68 0) (fun v77_70=>
 oH Tryz.prog (Go.Op.fieldAddr 145 (.tmp 0) 0) 0 [v77_70] (a0m C_68 0) (fun v78_71=>
 oH Tryz.prog (Go.Op.load 141 (.tmp 0)) 141 [v78_71] (a0m C_68 0) (fun v79_72=>
 oH Tryz.prog (Go.Op.fieldAddr 147 (.tmp 0) 0) 0 [v5_20] (a0m C_68 0) (fun v80_73=>
 oH Tryz.prog (Go.Op.load 3 (.tmp 0)) 3 [v80_73] (a0m C_68 0) (fun v81_74=>
 oH Tryz.prog (Go.Op.load 149 (.tmp 0)) 149 [v6_32] (a0m C_68 0) (fun v82_75=>
 oM Tryz.prog (Go.Op.mapUpdate 141 (.tmp 0) (.tmp 1) (.tmp 2)) 0 [v79_72,v81_74,v82_75] (fun _ w=>C_68 1 w ∧ (
 M_16 [x,v39_31] w)) w))))))))))) w)) w)) w))))))))))))))))
def g4y (a0:Value) (K:VK) (w:World):Prop:=
 (oM Tryz.prog (Go.Op.nilCheck (.tmp 0)) 0 [a0] (fun v85_77 w=>
 oM Tryz.prog (Go.Op.fieldAddr 145 (.tmp 0) 0) 0 [v85_77] (fun v86_78 w=>
 oM Tryz.prog (Go.Op.load 141 (.tmp 0)) 141 [v86_78] (fun v87_79 w=>
 oM Tryz.prog (Go.Op.range 141 (.tmp 0)) 0 [v87_79] (fun v88_80 w=>
 e9x [undef] w (fun J_81 m_82 l_83 u_l_83 w0_l_83=>(fun w=>(
 oM Tryz.prog (Go.Op.next (.tmp 0) false) 0 [v88_80] (fun v89_84 w=>
 oM Tryz.prog (Go.Op.extract (.tmp 0) 0) 4 [v89_84] (fun v90_85 w=>
 a1o v90_85
 (oM Tryz.prog (Go.Op.entry (.tmp 0)) 0 [v88_80] (fun v91_86 w=>
 oM Tryz.prog (Go.Op.extract (.tmp 0) 0) 3 [v91_86] (fun v92_87 w=>
 oM Tryz.prog (Go.Op.extract (.tmp 0) 1) 149 [v91_86] (fun v93_88 w=>
 oM Tryz.prog (Go.Op.alloc 149) 0 [] (fun v9_89 w=>
 oM Tryz.prog (Go.Op.store 149 (.tmp 0) (.tmp 1)) 0 [v9_89,v93_88] (fun _ w=>
 a3p w (fun C_90 w=>(a0d a0 (a0m C_90 1) (fun v94_91=>
 oH Tryz.prog (Go.Op.nilCheck (.tmp 0)) 0 [v94_91] (a0m C_90 1) (fun v95_92=>
 oH Tryz.prog (Go.Op.fieldAddr 145 (.tmp 0) 0) 0 [v95_92] (a0m C_90 1) (fun v96_93=>
 oH Tryz.prog (Go.Op.load 141 (.tmp 0)) 141 [v96_93] (a0m C_90 1) (fun v97_94=>
 a0d v92_87 (a0m C_90 1) (fun v98_95=>
 oH Tryz.prog (Go.Op.fieldAddr 149 (.tmp 0) 1) 0 [v9_89] (a0m C_90 0) (fun v99_96=>
 oH Tryz.prog (Go.Op.load 9 (.tmp 0)) 9 [v99_96] (a0m C_90 0) (fun v100_97=>
 oH Tryz.prog (Go.Op.fieldAddr 149 (.tmp 0) 1) 0 [v9_89] (a0m C_90 0) (fun v101_98=>
 oH Tryz.prog (Go.Op.load 9 (.tmp 0)) 9 [v101_98] (a0m C_90 0) (fun v102_99=>
 oM Tryz.prog (Go.Op.build 149 #[(0,(.tmp 0)),(1,(.tmp 1))]) 149 [v100_97,v102_99] (fun v103_100 w=>C_90 1 w ∧ (
 oM Tryz.prog (Go.Op.mapUpdate 141 (.tmp 0) (.tmp 1) (.tmp 2)) 0 [v97_94,v98_95,v103_100] (fun _ w=>C_90 2 w ∧ (
 J_81 [v92_87] w ∧ m_82 [v92_87] w < m_82 l_83 w0_l_83)) w)) w)))))))))))) w) w) w) w) w)
 (oM Tryz.prog (Go.Op.makeMap 143 none) 143 [] (fun v106_101 w=>
 oM Tryz.prog (Go.Op.nilCheck (.tmp 0)) 0 [a0] (fun v107_102 w=>
 oM Tryz.prog (Go.Op.fieldAddr 145 (.tmp 0) 1) 0 [v107_102] (fun v108_103 w=>
 oM Tryz.prog (Go.Op.store 142 (.tmp 0) (.tmp 1)) 0 [v108_103,(.slice none 0 0)] (fun _ w=>
 oM Tryz.prog (Go.Op.nilCheck (.tmp 0)) 0 [a0] (fun v109_104 w=>
 oM Tryz.prog (Go.Op.fieldAddr 145 (.tmp 0) 2) 0 [v109_104] (fun v110_105 w=>
 oM Tryz.prog (Go.Op.store 143 (.tmp 0) (.tmp 1)) 0 [v110_105,v106_101] (fun _ w=>
 K (.tuple #[]) w) w) w) w) w) w) w) w)) w) w)) w0_l_83)) w) w) w) w)
section
variable {w:World} {b:Nat} {A:Ab} {h:Dk} {K:VK}
set_option maxHeartbeats 1000000 in
theorem d8s {n m:Nat} {p:Int × Int} {x:Value} {M:List Value → World → Prop} (d:IsDk w b A h) (hp:w.heap[n]? = some (.cells #[.int .i64 p.1,.int .i64 p.2] 147 (0,0))) {cur:Array Value} (hm:w.heap[m]? = some (.cells cur 149 (0,0))) (hc0:cur[0]? = some (bsV (A.F p.1).1)) (hc1:cur[1]? = some (bsV (A.F p.1).2)) (hs:cur.size = 2)
  (hn:¬ Own b h n) (hm':¬ Own b h m) (hm2:¬ Rdb h m) (hnm:n ≠ m) (h0:0 ≤ p.2 ∧ p.2 < 262144) (hbig:64 * p.2 < ((A.F p.1).1.length:Int))
  (k:∀ w',IsDk w' b { A with F:=b0n A.F p.1 ((A.F p.1).1,a9k (A.F p.1).2 (64 * p.2).toNat (DkSpec.sector (A.F p.1).1 p.2)) } h → Fr (fun i=>Own b h i ∨ i = m) w w' → M [x,.int .i64 (64 * p.2)] w'):f6h (dkP b) (.pointer (some ⟨n,0,none⟩)) (.pointer (some ⟨m,0,none⟩)) (.int .i64 (64 * p.2)) x M w:=by
 unfold f6h
 have z0:=a0b hm 0
 have z1:=a0b hm 1
 have hsz:=d.wf.sz p.1
 obtain ⟨now,hnow⟩:∃ now,now = (A.F p.1).1:=⟨_,rfl⟩
 obtain ⟨last,hlast⟩:∃ last,last = (A.F p.1).2:=⟨_,rfl⟩
 rw [← hnow,← hlast] at hsz
 rw [← hnow] at hc0 hbig
 rw [← hlast] at hc1
 rw [hc0] at z0
 rw [hc1] at z1
 obtain ⟨a,ha⟩:∃ a:Nat,(a:Int) = 64 * p.2:=⟨(64 * p.2).toNat,by omega⟩
 have hmin:min ((a:Int) + 64) (now.length:Int) = ((min (a + 64) now.length:Nat):Int):=by omega
 rw [← ha] at hbig ⊢
 refine ⟨fun sg w'=>sg ≤ 0 → w'.heap = w.heap,fun _=>rfl,?_⟩
 have hwr:IntKind.i64.wrap ((a:Int) + 64) = (a:Int) + 64:=a0o _ (by omega) (by omega)
 repeat (first | (with_reducible refine pX ?_) | (with_reducible refine a3t ?_) | (with_reducible refine a2m rfl ?_) | (with_reducible refine a2b rfl ?_) | (refine a1z ⟨_,rfl⟩ (fun W0 hW0=>by (obtain ⟨s0,hs0,hC⟩:=hW0); (refine oG (fun X Y=>?_)); simp [go_sem,a5o (hC (by omega)),z0,z1,hwr,hmin,c9b]; (first | exact Y _ _ ⟨rfl,rfl⟩ | exact ⟨by omega,Y _ _ ⟨rfl,rfl⟩⟩)) ?_))
 have hsec:(now.drop a).take (min (a + 64) now.length - a) = DkSpec.sector now p.2:=by
  unfold DkSpec.sector
  rw [← ha,Int.toNat_natCast,List.take_eq_take_iff,List.length_drop]
  omega
 simp only [bsV,Int.toNat_natCast]
 rw [hsec]
 generalize hw2:({ w with drawn:=w.drawn + 1 }:World) = w2
 have hh:w2.heap = w.heap:=by rw [← hw2]
 have f2:Fr (fun _=>False) w w2:=by rw [← hw2]; exact (Fr.refl _ _).drew
 clear hw2
 have hsl:(DkSpec.sector now p.2).length ≤ 64:=by unfold DkSpec.sector; simp; omega
 refine d8n last (DkSpec.sector now p.2) (a:Int) (by omega) (by have:=hsl; unfold DkSpec.sector at *; simp at *; omega) hsz.2 (fun w3 f3=>⟨fun hs=>absurd hs (by decide),?_⟩)
 have f03:=f2.trans f3 (fun _ h=>h.elim)
 have d3:=d.fresh f03
 have hml:=(Array.getElem?_eq_some_iff.1 hm).1
 have hpl:=(Array.getElem?_eq_some_iff.1 hp).1
 have hm3:=(f03.block m hml (fun h=>h)).trans hm
 have hp3:=(f03.block n hpl (fun h=>h)).trans hp
 have y1:=a0v hm3 1
 have q1:=a0b hm3 1
 rw [hc1] at q1
 have hm4:=a2i (i:=1) hm3 (bsV (a9k last a (DkSpec.sector now p.2)))
 have hp4:=(a0l w3 ⟨m,1,none⟩ (bsV (a9k last a (DkSpec.sector now p.2))) n hnm).trans hp3
 have d4:IsDk (w3.setCell ⟨m,1,none⟩ (bsV (a9k last a (DkSpec.sector now p.2)))) b A h:=d3.keep (fun i hi=>a0l _ _ _ _ (fun e=>by subst e; exact hi.elim hm' hm2))
 rw [Int.toNat_natCast]
 repeat (any_goals (first
 | (with_reducible refine And.intro (fun hs=>absurd hs (by decide)) ?_)
 | ((with_reducible refine oG fun X Y=>?_); simp [go_sem,y1,q1]; apply Y; clear Y X)))
 have f04:Fr (fun i=>Own b h i ∨ i = m) w (w3.setCell ⟨m,1,none⟩ (bsV (a9k last a (DkSpec.sector now p.2)))):=(f03.mono (fun i _ hi=>hi.elim)).set ⟨m,1,none⟩ _ (.inl (.inr rfl))
 generalize w3.setCell ⟨m,1,none⟩ (bsV (a9k last a (DkSpec.sector now p.2))) = w4 at *
 have c0:=d4.c 0
 simp only [a0x] at c0
 have e0:=a0b hm4 0
 have e1:=a0b hm4 1
 have g0:=a0b hp4 0
 simp at g0
 have h1lt:1 < cur.size:=by omega
 rw [Array.getElem?_setIfInBounds_ne (by omega),hc0] at e0
 rw [Array.getElem?_setIfInBounds_self_of_lt h1lt] at e1
 refine ⟨fun sg w'=>sg ≤ 0 → w'.heap = w4.heap,fun _=>rfl,?_⟩
 repeat (first | (with_reducible refine pX ?_) | (with_reducible refine a3t ?_) | (with_reducible refine a2m rfl ?_) | (with_reducible refine a2b rfl ?_) | (refine a1z ⟨_,rfl⟩ (fun W0 hW0=>by (obtain ⟨s0,hs0,hC⟩:=hW0); (refine oG (fun X Y=>?_)); simp [go_sem,a5o (hC (by omega)),c0,e0,e1,g0]; (first | exact Y _ _ ⟨rfl,rfl⟩ | exact ⟨by omega,Y _ _ ⟨rfl,rfl⟩⟩)) ?_))
 generalize hw5:({ w4 with drawn:=w4.drawn + 1 }:World) = w5
 have d5:IsDk w5 b A h:=d4.heap (by rw [← hw5])
 have f05:Fr (fun i=>Own b h i ∨ i = m) w w5:=by rw [← hw5]; exact f04.drew
 clear hw5
 have hpl2:=a5d last a (DkSpec.sector now p.2)
 obtain ⟨w6,hr6,d6,t6⟩:=d5.setFile p.1 (now,a9k last a (DkSpec.sector now p.2)) ⟨hsz.1,by
  show (a9k last a (DkSpec.sector now p.2)).length ≤ _
  rw [hpl2]
  split
  ·exact hsz.2
  ·have hs2:(DkSpec.sector now p.2).length ≤ now.length - a:=by rw [← hsec]; simp; omega
   omega⟩
 simp only at hr6
 repeat (any_goals (first
 | (with_reducible refine And.intro (fun hs=>absurd hs (by decide)) ?_)
 | ((with_reducible refine oG fun X Y=>?_); simp [go_sem,hr6]; apply Y; clear Y X)))
 rw [← hnow,← hlast,← ha,Int.toNat_natCast] at k
 exact k w6 d6 (f05.trans t6.fr (fun i hi=>.inl (.inl hi)))
def d3v (F:Int → Bs × Bs) (l:List (Int × Value)) (done:List Int):List (Int × Value):=l.map (fun y=>(y.1,if y.1 ∈ done then flV ((F y.1).2,(F y.1).2) else y.2))
theorem e8p (F:Int → Bs × Bs) (l:List (Int × Value)):d3v F l [] = l:=by
 unfold d3v
 have:(fun y:Int × Value=>(y.1,if y.1 ∈ ([]:List Int) then flV ((F y.1).2,(F y.1).2) else y.2)) = id:=by funext y; simp
 rw [this,List.map_id]
theorem a9r (F:Int → Bs × Bs) (l:List (Int × Value)) (done:List Int):(d3v F l done).map (·.1) = l.map (·.1):=by
 unfold d3v; rw [List.map_map]; rfl
theorem e8q (F:Int → Bs × Bs) (l:List (Int × Value)) (done:List Int) (k:Int) (hk:k ∈ l.map (·.1)):c5t (d3v F l done) k (flV ((F k).2,(F k).2)) = d3v F l (k :: done):=by
 unfold c5t
 rw [if_pos ((a4l _ _).2 (by rw [a9r]; exact hk))]
 unfold d3v
 rw [List.map_map]
 apply List.map_congr_left
 intro y _
 simp only [Function.comp]
 by_cases hy:y.1 = k
 ·simp [hy]
 ·simp [hy]
theorem c3f (F:Int → Bs × Bs) (l:List (Int × Value)) (done:List Int) (k:Int):a3k (d3v F l done) k = (a3k l k).map (fun v=>if k ∈ done then flV ((F k).2,(F k).2) else v):=by
 unfold d3v
 exact c4h (fun k v=>if k ∈ done then flV ((F k).2,(F k).2) else v) l k
theorem f8m {x y:Bs × Bs} (h:flV x = flV y):x = y:=by
 obtain ⟨a,b⟩:=x
 obtain ⟨c,d⟩:=y
 simp [flV,bsV] at h
 simp [h.1,h.2]
theorem e8r (d:IsDk w b A h) (k:∀ w' h',IsDk w' b { A with F:=fun f=>((A.F f).2,(A.F f).2),queue:=[] } h' → Step w b h w' h' → K (.tuple #[]) w'):g4y (dkP b) K w:=by
 unfold g4y
 have c0:=d.c 0
 simp only [a0x] at c0
 obtain ⟨l0,m0,hl0⟩:=d.files
 have hnd0:(l0.map (·.1)).Nodup:=by obtain ⟨es,c,h1,h2,h3,_⟩:=m0; exact h3
 obtain ⟨o,hr,R⟩:=c4l (P:=Tryz.prog) (t:=141) (kt:=3) (et:=149) (by kernel_rfl) m0
 have f0:Fr (fun i=>i = h.fm) w (w.alloc o):=(Fr.refl _ _).alloc _
 refine Xg (An2 @c0 @hr) ?_
 generalize w.alloc o = w0 at *
 have hfm:h.fm < w.heap.size:=m0.lt
 have hbl:b < w.heap.size:=d.lt (.inl (.inl rfl))
 refine ⟨fun l w'=>∃ u done,l = [u] ∧ done.Nodup ∧ Ranged c3b w' w.heap.size h.fm (d3v A.F l0 done) (l0.map (·.1)) done ∧ Fr (fun i=>i = h.fm) w w',fun _ w'=>(l0.map (·.1)).length + 1 - (w'.iterSeen w.heap.size).size,⟨_,[],rfl,List.nodup_nil,by rw [e8p]; exact R,f0⟩,?_⟩
 rintro l u w1 ⟨u1,done,rfl,hnd,R1,f1⟩
 have hlen:=a6j done _ hnd R1.sub
 have hseen:=R1.seen
 rcases d0k (P:=Tryz.prog) (ty:=0) R1 with ⟨hall,hn⟩ | ⟨y,hy,hyd,w2,hn,R2,g2,z2⟩
 ·have m1:=R1.map
  have hF:∀ f,(a3k (d3v A.F l0 done) f).getD (flV ([],[])) = flV ((A.F f).2,(A.F f).2):=by
   intro f
   rw [c3f]
   have h2:=hl0 f
   cases hlk:a3k l0 f with
   | none=>
    rw [hlk] at h2
    have:=f8m h2
    simp only [Option.map_none,Option.getD_none]
    rw [← this]
   | some v=>
    have hfk:f ∈ l0.map (·.1):=(a4l _ _).1 (by rw [hlk]; rfl)
    rw [← a9r A.F l0 done] at hfk
    obtain ⟨y,hy,rfl⟩:=List.mem_map.1 hfk
    simp only [Option.map_some,Option.getD_some,if_pos (hall y hy)]
  have b1:=(f1.block b hbl d.bfm).trans d.blk
  refine Xg @hn ?_
  have pf:Fr (fun _=>False) w1 (w1.alloc (.map #[] 0)):=(Fr.refl _ _).alloc _
  have pm:MapIs b8k (w1.alloc (.map #[] 0)) w1.heap.size []:=b7f w1
  have pz:=a0q w1 (.map #[] 0)
  have hz1:=f1.size
  have hb2:=(pf.block b (by omega) (fun h=>h)).trans b1
  have m2:=m1.alloc (.map #[] 0)
  have f2:=f1.trans pf (fun _ h=>h.elim)
  generalize w1.alloc (.map #[] 0) = w2 at *
  have y1:=a0v hb2 1
  have e1:=a0b hb2 1
  have hb3:=a2i (i:=1) hb2 (.slice none 0 0)
  have y2:=a0v hb3 2
  have e2:=a0b hb3 2
  have hb4:=a2i (i:=2) hb3 (.map (some w1.heap.size))
  simp [a0x] at e1 e2
  refine Xg (An4 @y1 @e1 @y2 @e2) ?_
  have f4:=(f2.mono (S':=Own b h) (fun i _ hi=>.inr (.inl hi))).set ⟨b,1,none⟩ (.slice none 0 0) (.inl (.inl rfl)) |>.set ⟨b,2,none⟩ (.map (some w1.heap.size)) (.inl (.inl rfl))
  have k4:∀ i,i ≠ b → ((w2.setCell ⟨b,1,none⟩ (.slice none 0 0)).setCell ⟨b,2,none⟩ (.map (some w1.heap.size))).heap[i]? = w2.heap[i]?:=fun i hi=>by rw [a0l _ _ _ _ hi,a0l _ _ _ _ hi]
  generalize (w2.setCell ⟨b,1,none⟩ (.slice none 0 0)).setCell ⟨b,2,none⟩ (.map (some w1.heap.size)) = w4 at *
  have hfne:h.fm ≠ w1.heap.size:=by omega
  refine k w4 { h with q:=.slice none 0 0,sm:=w1.heap.size } ⟨?_,⟨_,m2.of_block (k4 _ d.bfm.symm),hF⟩,⟨[],pm.of_block (k4 _ (by omega)),fun p=>by simp [a6y]⟩,?_,?_,hfne,?_⟩ ⟨f4,?_,fun i hi=>.inl hi⟩
  ·rw [hb4]; rfl
  ·exact World.ownsRow_nil _ _ _ _
  ·refine a0r d.kep (fun i hi=>?_)
   have h1:=d.kne hi
   have h2:=d.lt (.inr hi)
   rw [k4 i h1.1]
   exact f2.block i h2 h1.2.1
  ·exact ⟨d.wf.l0,d.wf.l1,d.wf.a0,d.wf.a1,List.nodup_nil,fun p hp=>absurd hp (by simp),fun f=>⟨(d.wf.sz f).2,(d.wf.sz f).2⟩,d.wf.kr,d.wf.kl⟩
  ·rintro i (rfl | rfl | rfl | hi)
   ·exact .inl (.inl rfl)
   ·exact .inl (.inr (.inl rfl))
   ·exact .inr hz1
   ·cases hi
 ·have he:=c4m (P:=Tryz.prog) R2 hy
  have f2:Fr (fun i=>i = h.fm) w w2:=f1.by g2 (fun i hi=>by cases hi; exact .inr (rL))
  have hyk:y.1 ∈ l0.map (·.1):=by
   have:=List.mem_map_of_mem (f:=(·.1)) hy
   rw [a9r] at this
   exact this
  have hyv:y.2 = flV (A.F y.1):=by
   have h1:=e0m (d3v A.F l0 done) (by rw [a9r]; exact hnd0) y hy
   rw [c3f] at h1
   have h2:=hl0 y.1
   cases hlk:a3k l0 y.1 with
   | none=>rw [hlk] at h1; cases h1
   | some v=>
    rw [hlk] at h1 h2
    simp only [Option.map_some,if_neg hyd,Option.some.injEq] at h1
    simp only [Option.getD_some] at h2
    rw [← h1,h2]
  rw [hyv] at he
  simp only [c3b] at hn he
  refine Xg (An2 @hn @he) ?_
  have pf:Fr (fun _=>False) w2 (w2.alloc (.cells #[.string ⟨#[]⟩,.string ⟨#[]⟩] 149 (0,0))):=(Fr.refl _ _).alloc _
  have p0:=heap_alloc_new w2 (.cells #[.string ⟨#[]⟩,.string ⟨#[]⟩] 149 (0,0))
  have pz:=a0q w2 (.cells #[.string ⟨#[]⟩,.string ⟨#[]⟩] 149 (0,0))
  generalize w2.alloc (.cells #[.string ⟨#[]⟩,.string ⟨#[]⟩] 149 (0,0)) = w3 at *
  refine b5x (fun w=>by kernel_rfl) rfl rfl p0 (by simp) (fun w4 cur4 g4 n4 s4 _ a4 b4=>?_)
  have f24:Fr (fun _=>False) w2 w4:=pf.by g4 (fun i hi=>by cases hi; exact .inr (rL))
  have R4:=R2.of_blocks (f24.block h.fm R2.lt.1 (fun h=>h)) (f24.block w.heap.size R2.lt.2.1 (fun h=>h))
  have fr4:Fr (fun i=>i = h.fm) w w4:=f2.trans f24 (fun _ h=>h.elim)
  have b4':w4.heap[b]? = some (.cells (a0x A h) 145 (0,0)):=(fr4.block b hbl d.bfm).trans d.blk
  have e0:=a0b b4' 0
  simp only [a0x] at e0
  have z0:=a0b n4 1
  rw [Nat.zero_add] at b4
  rw [b4] at z0
  refine ⟨fun sg w'=>sg ≤ 1 → w'.heap = w4.heap,fun _=>rfl,?_⟩
  repeat (first | (with_reducible refine pX ?_) | (with_reducible refine a3t ?_) | (with_reducible refine a2m rfl ?_) | (with_reducible refine a2b rfl ?_) | (refine a1z ⟨_,rfl⟩ (fun W0 hW0=>by (obtain ⟨s0,hs0,hC⟩:=hW0); (refine oG (fun X Y=>?_)); simp [go_sem,a5o (hC (by omega)),e0,z0]; (first | exact Y _ _ ⟨rfl,rfl⟩ | exact ⟨by omega,Y _ _ ⟨rfl,rfl⟩⟩)) ?_))
  generalize hw5:({ w4 with drawn:=w4.drawn + 1 }:World) = w5
  have hh5:w5.heap = w4.heap:=by rw [← hw5]
  have f5:Fr (fun i=>i = h.fm) w w5:=by rw [← hw5]; exact fr4.drew
  have R5:=R4.of_blocks (w':=w5) (by rw [hh5]) (by rw [hh5])
  clear hw5
  obtain ⟨w6,hu,R6,g6,z6⟩:=c7n (P:=Tryz.prog) (t:=141) (et:=149) g8s (by kernel_rfl) R5 y.1 (flV ((A.F y.1).2,(A.F y.1).2)) (by rw [a9r]; exact hyk)
  rw [e8q _ _ _ _ hyk] at R6
  simp only [c3b,flV,bsV] at hu
  repeat (any_goals (first
  | (with_reducible refine And.intro (fun _=>hh5) ?_) | (with_reducible refine And.intro (fun hs=>absurd hs (by decide)) ?_)
  | ((with_reducible refine oG fun X Y=>?_); simp [go_sem,hu]; apply Y; clear Y X)))
  refine ⟨⟨_,y.1 :: done,rfl,List.nodup_cons.2 ⟨hyd,hnd⟩,R6,f5.by g6 (fun i hi=>by cases hi; exact .inl rfl)⟩,?_⟩
  have h6:=R6.seen
  have h7:=a6j (y.1 :: done) _ (List.nodup_cons.2 ⟨hyd,hnd⟩) R6.sub
  simp only [List.length_cons] at h6 h7
  show _ - _ < _ - _
  omega
end
end Go.Proofs
namespace Go.Proofs
open Go Go.Sh Go.RowKit DkSpec
attribute [local go_sem] a1m
def g4z (a0 a1 v5_20 v6_32 v39_31 x:Value) (M_16:List Value → World → Prop) (w:World):Prop:=
 (oM Tryz.prog (Go.Op.call (Go.Call.mk (Go.Callee.builtin Go.Builtin.len) #[(.tmp 0)] #[22])) 3 [a1] (fun v41_34 w=>
 oM Tryz.prog (Go.Op.binOp Go.BinOp.eql 3 (.tmp 0) (.const (.int .i64 0)) 3) 4 [v41_34] (fun v42_35 w=>
 gdM (gd v42_35 false) (a0c a1) (fun v44_36 w=>
 gdM (gd v42_35 false) (a0c x) (fun v45_37 w=>
 gdM (gd v42_35 false) (a0c a1) (fun v46_38 w=>
 gdM (gd v42_35 false) (oM Tryz.prog (Go.Op.call (Go.Call.mk (Go.Callee.builtin Go.Builtin.len) #[(.tmp 0)] #[22])) 3 [v46_38]) (fun v47_39 w=>
 gdM (gd v42_35 false) (oM Tryz.prog (Go.Op.binOp Go.BinOp.rem 3 (.tmp 0) (.tmp 1) 3) 3 [v45_37,v47_39]) (fun v48_40 w=>
 gdM (gd v42_35 false) (oM Tryz.prog (Go.Op.indexAddr 22 (.tmp 0) (.tmp 1)) 0 [v44_36,v48_40]) (fun v49_41 w=>
 gdM (gd v42_35 false) (oM Tryz.prog (Go.Op.load 3 (.tmp 0)) 3 [v49_41]) (fun v50_42 w=>
 gdM (gd v42_35 false) (oM Tryz.prog (Go.Op.binOp Go.BinOp.and 3 (.tmp 0) (.tmp 1) 3) 3 [v50_42,(.int .i64 1)]) (fun v51_43 w=>
 gdM (gd v42_35 false) (oM Tryz.prog (Go.Op.binOp Go.BinOp.eql 3 (.tmp 0) (.const (.int .i64 0)) 3) 4 [v51_43]) (fun v52_44 w=>
 oM Tryz.prog (Go.Op.pick (.tmp 0) (.tmp 1) (.tmp 2)) 4 [v42_35,(.bool true),v52_44] (fun v53_45 w=>
 gdM (gd v53_45 false) (a0c v39_31) (fun v55_46 w=>
 gdM (gd v53_45 false) (oM Tryz.prog (Go.Op.fieldAddr 149 (.tmp 0) 0) 0 [v6_32]) (fun v56_47 w=>
 gdM (gd v53_45 false) (oM Tryz.prog (Go.Op.load 9 (.tmp 0)) 9 [v56_47]) (fun v57_48 w=>
 gdM (gd v53_45 false) (oM Tryz.prog (Go.Op.call (Go.Call.mk (Go.Callee.builtin Go.Builtin.len) #[(.tmp 0)] #[9])) 3 [v57_48]) (fun v58_49 w=>
 gdM (gd v53_45 false) (oM Tryz.prog (Go.Op.binOp Go.BinOp.geq 3 (.tmp 0) (.tmp 1) 3) 4 [v55_46,v58_49]) (fun v59_50 w=>
 oM Tryz.prog (Go.Op.pick (.tmp 0) (.tmp 1) (.tmp 2)) 4 [v53_45,(.bool true),v59_50] (fun v60_51 w=>
 a1o v60_51
 (M_16 [x,v39_31] w)
 (a3p w (fun C_52 w=>(oH Tryz.prog (Go.Op.fieldAddr 149 (.tmp 0) 1) 0 [v6_32] (a0m C_52 0) (fun v61_53=>
 oH Tryz.prog (Go.Op.load 9 (.tmp 0)) 9 [v61_53] (a0m C_52 0) (fun v62_54=>
 a0d v39_31 (a0m C_52 0) (fun v63_55=>
 oH Tryz.prog (Go.Op.fieldAddr 149 (.tmp 0) 0) 0 [v6_32] (a0m C_52 0) (fun v64_56=>
 oH Tryz.prog (Go.Op.load 9 (.tmp 0)) 9 [v64_56] (a0m C_52 0) (fun v65_57=>
 a0d v39_31 (a0m C_52 0) (fun v66_58=>
 a0d v39_31 (a0m C_52 0) (fun v67_59=>
 oH Tryz.prog (Go.Op.binOp Go.BinOp.add 3 (.tmp 0) (.tmp 1) 3) 3 [v67_59,(.int .i64 64)] (a0m C_52 0) (fun v68_60=>
 oH Tryz.prog (Go.Op.fieldAddr 149 (.tmp 0) 0) 0 [v6_32] (a0m C_52 0) (fun v69_61=>
 oH Tryz.prog (Go.Op.load 9 (.tmp 0)) 9 [v69_61] (a0m C_52 0) (fun v70_62=>
 oH Tryz.prog (Go.Op.call (Go.Call.mk (Go.Callee.builtin Go.Builtin.len) #[(.tmp 0)] #[9])) 3 [v70_62] (a0m C_52 0) (fun v71_63=>
 oH Tryz.prog (Go.Op.call (Go.Call.mk (Go.Callee.builtin Go.Builtin.min) #[(.tmp 0),(.tmp 1)] #[3,3])) 3 [v68_60,v71_63] (a0m C_52 0) (fun v72_64=>
 oH Tryz.prog (Go.Op.slice 9 (.tmp 0) (some (.tmp 1)) (some (.tmp 2)) none) 9 [v65_57,v66_58,v72_64] (a0m C_52 0) (fun v73_65=>
 a0a Tryz.prog 76 #[v62_54,v63_55,v73_65] (fun v74_66 w=>C_52 1 w ∧ (
 oM Tryz.prog (Go.Op.fieldAddr 149 (.tmp 0) 1) 0 [v6_32] (fun v75_67 w=>C_52 2 w ∧ (
 oM Tryz.prog (Go.Op.store 9 (.tmp 0) (.tmp 1)) 0 [v75_67,v74_66] (fun _ w=>C_52 3 w ∧ (
 a3p w (fun C_68 w=>(a0d a0 (a0m C_68 0) (fun v76_69=>
 oH Tryz.prog (Go.Op.nilCheck (.tmp 0)) 0 [v76_69] (a0m C_68 0) (fun v77_70=>
 oH Tryz.prog (Go.Op.fieldAddr 145 (.tmp 0) 0) 0 [v77_70] (a0m C_68 0) (fun v78_71=>
 oH Tryz.prog (Go.Op.load 141 (.tmp 0)) 141 [v78_71] (a0m C_68 0) (fun v79_72=>
 oH Tryz.prog (Go.Op.fieldAddr 147 (.tmp 0) 0) 0 [v5_20] (a0m C_68 0) (fun v80_73=>
 oH Tryz.prog (Go.Op.load 3 (.tmp 0)) 3 [v80_73] (a0m C_68 0) (fun v81_74=>
 oH Tryz.prog (Go.Op.load 149 (.tmp 0)) 149 [v6_32] (a0m C_68 0) (fun v82_75=>
 oM Tryz.prog (Go.Op.mapUpdate 141 (.tmp 0) (.tmp 1) (.tmp 2)) 0 [v79_72,v81_74,v82_75] (fun _ w=>C_68 1 w ∧ (
 M_16 [x,v39_31] w)) w))))))))))) w)) w)) w))))))))))))))))) w) w) w) w) w) w) w) w) w) w) w) w) w) w) w) w) w) w)
def f6i (a0 a1 v23_10 x:Value) (M_16:List Value → World → Prop) (w:World):Prop:=
 (oM Tryz.prog (Go.Op.indexAddr 142 (.tmp 0) (.tmp 1)) 0 [v23_10,x] (fun v28_18 w=>
 oM Tryz.prog (Go.Op.load 147 (.tmp 0)) 147 [v28_18] (fun v29_19 w=>
 oM Tryz.prog (Go.Op.alloc 147) 0 [] (fun v5_20 w=>
 oM Tryz.prog (Go.Op.store 147 (.tmp 0) (.tmp 1)) 0 [v5_20,v29_19] (fun _ w=>
 a3p w (fun C_21 w=>(a0d a0 (a0m C_21 1) (fun v30_22=>
 oH Tryz.prog (Go.Op.nilCheck (.tmp 0)) 0 [v30_22] (a0m C_21 1) (fun v31_23=>
 oH Tryz.prog (Go.Op.fieldAddr 145 (.tmp 0) 0) 0 [v31_23] (a0m C_21 1) (fun v32_24=>
 oH Tryz.prog (Go.Op.load 141 (.tmp 0)) 141 [v32_24] (a0m C_21 1) (fun v33_25=>
 oH Tryz.prog (Go.Op.fieldAddr 147 (.tmp 0) 0) 0 [v5_20] (a0m C_21 1) (fun v34_26=>
 oH Tryz.prog (Go.Op.load 3 (.tmp 0)) 3 [v34_26] (a0m C_21 1) (fun v35_27=>
 oH Tryz.prog (Go.Op.lookup 141 (.tmp 0) (.tmp 1) false) 149 [v33_25,v35_27] (a0m C_21 1) (fun v36_28=>
 oH Tryz.prog (Go.Op.fieldAddr 147 (.tmp 0) 1) 0 [v5_20] (a0m C_21 2) (fun v37_29=>
 oH Tryz.prog (Go.Op.load 3 (.tmp 0)) 3 [v37_29] (a0m C_21 2) (fun v38_30=>
 oH Tryz.prog (Go.Op.binOp Go.BinOp.mul 3 (.tmp 0) (.tmp 1) 3) 3 [v38_30,(.int .i64 64)] (a0m C_21 2) (fun v39_31=>
 oM Tryz.prog (Go.Op.alloc 149) 0 [] (fun v6_32 w=>C_21 1 w ∧ (
 oM Tryz.prog (Go.Op.store 149 (.tmp 0) (.tmp 1)) 0 [v6_32,v36_28] (fun _ w=>C_21 2 w ∧ (
 C_21 3 w ∧ (oM Tryz.prog (Go.Op.call (Go.Call.mk (Go.Callee.builtin Go.Builtin.len) #[(.tmp 0)] #[22])) 3 [a1] (fun v41_34 w=>
 oM Tryz.prog (Go.Op.binOp Go.BinOp.eql 3 (.tmp 0) (.const (.int .i64 0)) 3) 4 [v41_34] (fun v42_35 w=>
 gdM (gd v42_35 false) (a0c a1) (fun v44_36 w=>
 gdM (gd v42_35 false) (a0c x) (fun v45_37 w=>
 gdM (gd v42_35 false) (a0c a1) (fun v46_38 w=>
 gdM (gd v42_35 false) (oM Tryz.prog (Go.Op.call (Go.Call.mk (Go.Callee.builtin Go.Builtin.len) #[(.tmp 0)] #[22])) 3 [v46_38]) (fun v47_39 w=>
 gdM (gd v42_35 false) (oM Tryz.prog (Go.Op.binOp Go.BinOp.rem 3 (.tmp 0) (.tmp 1) 3) 3 [v45_37,v47_39]) (fun v48_40 w=>
 gdM (gd v42_35 false) (oM Tryz.prog (Go.Op.indexAddr 22 (.tmp 0) (.tmp 1)) 0 [v44_36,v48_40]) (fun v49_41 w=>
 gdM (gd v42_35 false) (oM Tryz.prog (Go.Op.load 3 (.tmp 0)) 3 [v49_41]) (fun v50_42 w=>
 gdM (gd v42_35 false) (oM Tryz.prog (Go.Op.binOp Go.BinOp.and 3 (.tmp 0) (.tmp 1) 3) 3 [v50_42,(.int .i64 1)]) (fun v51_43 w=>
 gdM (gd v42_35 false) (oM Tryz.prog (Go.Op.binOp Go.BinOp.eql 3 (.tmp 0) (.const (.int .i64 0)) 3) 4 [v51_43]) (fun v52_44 w=>
 oM Tryz.prog (Go.Op.pick (.tmp 0) (.tmp 1) (.tmp 2)) 4 [v42_35,(.bool true),v52_44] (fun v53_45 w=>
 gdM (gd v53_45 false) (a0c v39_31) (fun v55_46 w=>
 gdM (gd v53_45 false) (oM Tryz.prog (Go.Op.fieldAddr 149 (.tmp 0) 0) 0 [v6_32]) (fun v56_47 w=>
 gdM (gd v53_45 false) (oM Tryz.prog (Go.Op.load 9 (.tmp 0)) 9 [v56_47]) (fun v57_48 w=>
 gdM (gd v53_45 false) (oM Tryz.prog (Go.Op.call (Go.Call.mk (Go.Callee.builtin Go.Builtin.len) #[(.tmp 0)] #[9])) 3 [v57_48]) (fun v58_49 w=>
 gdM (gd v53_45 false) (oM Tryz.prog (Go.Op.binOp Go.BinOp.geq 3 (.tmp 0) (.tmp 1) 3) 4 [v55_46,v58_49]) (fun v59_50 w=>
 oM Tryz.prog (Go.Op.pick (.tmp 0) (.tmp 1) (.tmp 2)) 4 [v53_45,(.bool true),v59_50] (fun v60_51 w=>
 a1o v60_51
 (M_16 [x,v39_31] w)
 (a3p w (fun C_52 w=>(oH Tryz.prog (Go.Op.fieldAddr 149 (.tmp 0) 1) 0 [v6_32] (a0m C_52 0) (fun v61_53=>
 oH Tryz.prog (Go.Op.load 9 (.tmp 0)) 9 [v61_53] (a0m C_52 0) (fun v62_54=>
 a0d v39_31 (a0m C_52 0) (fun v63_55=>
 oH Tryz.prog (Go.Op.fieldAddr 149 (.tmp 0) 0) 0 [v6_32] (a0m C_52 0) (fun v64_56=>
 oH Tryz.prog (Go.Op.load 9 (.tmp 0)) 9 [v64_56] (a0m C_52 0) (fun v65_57=>
 a0d v39_31 (a0m C_52 0) (fun v66_58=>
 a0d v39_31 (a0m C_52 0) (fun v67_59=>
 oH Tryz.prog (Go.Op.binOp Go.BinOp.add 3 (.tmp 0) (.tmp 1) 3) 3 [v67_59,(.int .i64 64)] (a0m C_52 0) (fun v68_60=>
 oH Tryz.prog (Go.Op.fieldAddr 149 (.tmp 0) 0) 0 [v6_32] (a0m C_52 0) (fun v69_61=>
 oH Tryz.prog (Go.Op.load 9 (.tmp 0)) 9 [v69_61] (a0m C_52 0) (fun v70_62=>
 oH Tryz.prog (Go.Op.call (Go.Call.mk (Go.Callee.builtin Go.Builtin.len) #[(.tmp 0)] #[9])) 3 [v70_62] (a0m C_52 0) (fun v71_63=>
 oH Tryz.prog (Go.Op.call (Go.Call.mk (Go.Callee.builtin Go.Builtin.min) #[(.tmp 0),(.tmp 1)] #[3,3])) 3 [v68_60,v71_63] (a0m C_52 0) (fun v72_64=>
 oH Tryz.prog (Go.Op.slice 9 (.tmp 0) (some (.tmp 1)) (some (.tmp 2)) none) 9 [v65_57,v66_58,v72_64] (a0m C_52 0) (fun v73_65=>
 a0a Tryz.prog 76 #[v62_54,v63_55,v73_65] (fun v74_66 w=>C_52 1 w ∧ (
 oM Tryz.prog (Go.Op.fieldAddr 149 (.tmp 0) 1) 0 [v6_32] (fun v75_67 w=>C_52 2 w ∧ (
 oM Tryz.prog (Go.Op.store 9 (.tmp 0) (.tmp 1)) 0 [v75_67,v74_66] (fun _ w=>C_52 3 w ∧ (
 a3p w (fun C_68 w=>(a0d a0 (a0m C_68 0) (fun v76_69=>
 oH Tryz.prog (Go.Op.nilCheck (.tmp 0)) 0 [v76_69] (a0m C_68 0) (fun v77_70=>
 oH Tryz.prog (Go.Op.fieldAddr 145 (.tmp 0) 0) 0 [v77_70] (a0m C_68 0) (fun v78_71=>
 oH Tryz.prog (Go.Op.load 141 (.tmp 0)) 141 [v78_71] (a0m C_68 0) (fun v79_72=>
 oH Tryz.prog (Go.Op.fieldAddr 147 (.tmp 0) 0) 0 [v5_20] (a0m C_68 0) (fun v80_73=>
 oH Tryz.prog (Go.Op.load 3 (.tmp 0)) 3 [v80_73] (a0m C_68 0) (fun v81_74=>
 oH Tryz.prog (Go.Op.load 149 (.tmp 0)) 149 [v6_32] (a0m C_68 0) (fun v82_75=>
 oM Tryz.prog (Go.Op.mapUpdate 141 (.tmp 0) (.tmp 1) (.tmp 2)) 0 [v79_72,v81_74,v82_75] (fun _ w=>C_68 1 w ∧ (
 M_16 [x,v39_31] w)) w))))))))))) w)) w)) w))))))))))))))))) w) w) w) w) w) w) w) w) w) w) w) w) w) w) w) w) w) w))) w)) w))))))))))))) w) w) w) w)
theorem c3g (keep:List Int) (q:List (Int × Int)) (p:Int × Int) (F:Int → Bs × Bs) (i:Nat):a2j keep F i (q ++ [p]) = a5n keep (a2j keep F i q) (i + q.length) p:=by
 induction q generalizing F i with
 | nil=>rfl
 | cons r q ih=>
  show a2j keep (a5n keep F i r) (i + 1) (q ++ [p]) = a5n keep (a2j keep (a5n keep F i r) (i + 1) q) (i + (q.length + 1)) p
  rw [ih]
  congr 1
  omega
section
variable {w:World} {b:Nat} {A:Ab} {h:Dk} {K:VK}
theorem IsDk.reF (d:IsDk w b A h) {F:Int → Bs × Bs} (e:F = A.F):IsDk w b { A with F:=F } h:=by
 rw [e]; exact d
set_option maxHeartbeats 1000000 in
theorem e8s {n m i:Nat} {p:Int × Int} {M:List Value → World → Prop} (d:IsDk w b A h) (hp:w.heap[n]? = some (.cells #[.int .i64 p.1,.int .i64 p.2] 147 (0,0))) {cur:Array Value} (hm:w.heap[m]? = some (.cells cur 149 (0,0))) (hc0:cur[0]? = some (bsV (A.F p.1).1)) (hc1:cur[1]? = some (bsV (A.F p.1).2)) (hs:cur.size = 2)
  (hn:¬ Own b h n) (hm':¬ Own b h m) (hm2:¬ Rdb h m) (hnm:n ≠ m) (h0:0 ≤ p.2 ∧ p.2 < 262144) (hi:i < 2 ^ 40) {kv:Value} {kl:List Int} (hkr:RowR intC 1 w kv kl) (hkl:kl.length < 2 ^ 62)
  (k:∀ w',IsDk w' b { A with F:=a5n kl A.F i p } h → Fr (fun j=>Own b h j ∨ j = m) w w' → M [.int .i64 (i:Int),.int .i64 (64 * p.2)] w'):g4z (dkP b) kv (.pointer (some ⟨n,0,none⟩)) (.pointer (some ⟨m,0,none⟩)) (.int .i64 (64 * p.2)) (.int .i64 (i:Int)) M w:=by
 unfold g4z
 have z7:=a0b hm 0
 have z71:=a0b hm 1
 have hsz:=d.wf.sz p.1
 have hlen:(A.F p.1).1.length ≤ 16777216:=hsz.1
 rw [hc0] at z7
 rw [hc1] at z71
 obtain ⟨ad,c,rfl,h0',hc⟩:=id hkr
 by_cases hkn:kl = []
 ·subst hkn
  have hsv:a5n [] A.F i p = A.F:=by unfold a5n; rw [if_pos (.inl rfl)]
  refine Xc0 ?_
  exact k w (d.reF hsv) (Fr.refl _ _)
 ·rcases hc with hc | ⟨kb,ko,rfl,hkb,hc⟩
  ·exact absurd hc hkn
  have hkpos:0 < kl.length:=List.length_pos_iff.2 hkn
  have hmod:((i:Int)).tmod (kl.length:Int) = ((i % kl.length:Nat):Int):=by
   rw [h1a _ _ (by omega)]; rfl
  have hml:i % kl.length < kl.length:=Nat.mod_lt _ hkpos
  have hki:=hc (i % kl.length) (c3b kl[i % kl.length]) (by rw [show a2g intC kl = kl.map c3b from c0l c3b kl]; simp [hml])
  unfold c3b at hki
  have hixk:(Instr.indexAt 22 (.slice (some ⟨kb,ko,none⟩) kl.length c) (.int .i64 ((i % kl.length:Nat):Int))).run Tryz.prog w = .ok (.pointer (some ⟨kb,ko + i % kl.length,none⟩)) w:=by
   rw [run_indexAt_slice (h:=by kernel_rfl),if_pos (by omega)]
   have hs:(sizeOf (Tryz.prog.elem 22)).run Tryz.prog w = .ok 1 w:=by kernel_rfl
   rw [hs]
   simp only [Result.andThen,Int.toNat_natCast,a2d,Nat.mul_one]
  rw [Int.natCast_emod] at hixk
  have hgd:kl.getD (i % kl.length) 0 = kl[i % kl.length]:=by simp [List.getD,hml]
  clear hkr hc h0'
  obtain ⟨kx,hkx⟩:∃ kx,kx = kl[i % kl.length]:=⟨_,rfl⟩
  rw [← hkx] at hki hgd
  clear hkx
  repeat (any_goals (first
  | (with_reducible first|refine a1b ?_|((refine b2a ?_); ((refine a7k ?_); first|refine zI ?_|refine zJ ?_|refine zK (fun hg=>?_) fun hg=>?_))|((refine a3s ?_); first|refine yD ?_|refine yE ?_)|((refine a1q ?_); first|refine yL ?_|refine yP (fun hg=>?_) fun hg=>?_))
  | ((with_reducible refine oG fun X Y=>?_); simp [go_sem,hmod,hixk,hki,z7,z71]; (first|refine Y _ _ ?_|refine And.intro (by omega) (Y _ _ ?_)); clear Y X)))
  ·have hsv:a5n kl A.F i p = A.F:=by unfold a5n; rw [if_pos (.inr (.inl (by rw [hgd]; assumption)))]
   exact k w (d.reF hsv) (Fr.refl _ _)
  ·have hsv:a5n kl A.F i p = A.F:=by unfold a5n; rw [if_pos (.inr (.inr (by assumption)))]
   exact k w (d.reF hsv) (Fr.refl _ _)
  ·have hbig:¬ ((A.F p.1).1.length:Int) ≤ 64 * p.2:=by assumption
   have hodd:¬ kx % 2 = 0:=by assumption
   have hsv:a5n kl A.F i p = b0n A.F p.1 ((A.F p.1).1,a9k (A.F p.1).2 (64 * p.2).toNat (DkSpec.sector (A.F p.1).1 p.2)):=by
    unfold a5n
    rw [if_neg]
    rw [hgd]
    rintro (h | h | h)
    ·exact hkn h
    ·exact hodd h
    ·exact hbig h
   refine d8s (n:=n) (m:=m) (p:=p) d hp hm hc0 hc1 hs hn hm' hm2 hnm h0 (by omega) (fun w8 d8 f8=>?_)
   refine k w8 ?_ f8
   rw [hsv]
   exact d8
set_option maxHeartbeats 1000000 in
theorem d8t {i:Nat} {p:Int × Int} {M:List Value → World → Prop} (d:IsDk w b A h) {qa:Option Addr} {qc:Nat} (hq:h.q = .slice qa A.queue.length qc) (hqi:A.queue[i]? = some p) {kv:Value} {kl:List Int} (hkr:RowR intC 1 w kv kl) (hkl:kl.length < 2 ^ 62)
  (k:∀ w' (at_:Int),IsDk w' b { A with F:=a5n kl A.F i p } h → Step w b h w' h → M [.int .i64 (i:Int),.int .i64 at_] w'):f6i (dkP b) kv (.slice qa A.queue.length qc) (.int .i64 (i:Int)) M w:=by
 unfold f6i
 have hlt:i < A.queue.length:=(gS hqi).1
 have hql:=d.wf.ql
 have hpr:=d.wf.qr p (List.mem_of_getElem? hqi)
 have ho3:=d.que
 rw [hq] at ho3
 obtain ⟨g,c,hv,e0,e1⟩:=c3c ho3 hqi
 cases hv
 have hix:=c9f (c:=qc) (g:=g) hlt w
 refine Xg (An3 @hix @e0 @e1) ?_
 have pf:Fr (fun _=>False) w (w.alloc (.cells #[.int .i64 p.1,.int .i64 p.2] 147 (0,0))):=(Fr.refl _ _).alloc _
 have p0:=heap_alloc_new w (.cells #[.int .i64 p.1,.int .i64 p.2] 147 (0,0))
 have pz:=a0q w (.cells #[.int .i64 p.1,.int .i64 p.2] 147 (0,0))
 generalize w.alloc (.cells #[.int .i64 p.1,.int .i64 p.2] 147 (0,0)) = w4 at *
 have d4:=d.fresh pf
 have p00:=a0b p0 0
 have p01:=a0b p0 1
 simp at p00 p01
 have c0:=d4.c 0
 simp only [a0x] at c0
 have lk:∀ W:World,IsDk W b A h → _:=fun W hW=>hW.look p.1
 simp only [flV,bsV] at lk
 have hwr:IntKind.i64.wrap (p.2 * 64) = 64 * p.2:=by rw [a0o _ (by omega) (by omega)]; omega
 refine ⟨fun sg w'=>sg ≤ 2 → IsDk w' b A h ∧ w'.heap[w.heap.size]? = some (.cells #[.int .i64 p.1,.int .i64 p.2] 147 (0,0)),fun _=>⟨d4.heap rfl,p0⟩,?_⟩
 repeat (first | (with_reducible refine pX ?_) | (with_reducible refine a3t ?_) | (with_reducible refine a2m rfl ?_) | (with_reducible refine a2b rfl ?_) | (refine a1z ⟨_,rfl⟩ (fun W0 hW0=>by (obtain ⟨s0,hs0,hC⟩:=hW0); (refine oG (fun X Y=>?_)); simp [go_sem,a0b (hC (by omega)).1.blk,a0b (hC (by omega)).2,a0x,lk W0 (hC (by omega)).1,hwr]; (first | exact Y _ _ ⟨rfl,rfl⟩ | exact ⟨by omega,Y _ _ ⟨rfl,rfl⟩⟩)) ?_))
 generalize hw5:({ w4 with drawn:=w4.drawn + 1 }:World) = w5
 have f35:Fr (fun _=>False) w w5:=by rw [← hw5]; exact pf.drew
 have d5:=d.fresh f35
 have p5:w5.heap[w.heap.size]? = some (.cells #[.int .i64 p.1,.int .i64 p.2] 147 (0,0)):=by rw [← hw5]; exact p0
 clear hw5
 refine Xc0 ?_
 have z35:=f35.size
 have p5l:=(Array.getElem?_eq_some_iff.1 p5).1
 have g6:Fr (fun _=>False) w5 (w5.alloc (.cells #[.string ⟨#[]⟩,.string ⟨#[]⟩] 149 (0,0))):=(Fr.refl _ _).alloc _
 have n6:=heap_alloc_new w5 (.cells #[.string ⟨#[]⟩,.string ⟨#[]⟩] 149 (0,0))
 generalize w5.alloc (.cells #[.string ⟨#[]⟩,.string ⟨#[]⟩] 149 (0,0)) = w6 at *
 refine ⟨fun _=>⟨d5.fresh g6,(g6.block _ p5l (fun h=>h)).trans p5⟩,?_⟩
 refine b5x (fun w=>by kernel_rfl) rfl rfl n6 (by simp) (fun w7 cur7 g7 n7 s7 _ a7 b7=>?_)
 have f7:Fr (fun _=>False) w5 w7:=g6.by g7 (fun i hi=>by cases hi; exact .inr (rL))
 have f37:=f35.trans f7 (fun _ h=>h.elim)
 have d7:=d.fresh f37
 have p7:=(f7.block _ p5l (fun h=>h)).trans p5
 refine ⟨fun _=>⟨d7,p7⟩,fun hs=>absurd hs (by decide),?_⟩
 rw [Nat.zero_add] at b7
 have hz37:=f37.size
 have hown:∀ i,Own b h i ∨ Rdb h i → i < w.heap.size:=fun i hi=>d.lt hi
 have hkr7:RowR intC 1 w7 kv kl:=hkr.keep hz37 (fun i _ hi=>f37.block i hi (fun h=>h))
 refine e8s (n:=w.heap.size) (m:=w5.heap.size) (p:=p) d7 p7 n7 a7 b7 (by rw [s7]; rfl) (fun e=>by have:=hown _ (.inl e); omega) (fun e=>by have:=hown _ (.inl e); omega) (fun e=>by have:=hown _ (.inr e); omega) (by omega) ⟨hpr.2.2.1,hpr.2.2.2⟩ (by omega) hkr7 hkl (fun w8 d8 f8=>?_)
 exact k w8 _ d8 ⟨(f37.mono (fun i _ hi=>hi.elim)).trans f8 (fun i hi=>hi.elim .inl (fun e=>.inr (by omega))),fun _ h=>.inl h,fun _ h=>.inl h⟩
set_option maxHeartbeats 1000000 in
theorem c0m (d:IsDk w b A h) {kv:Value} {kl:List Int} (hkr:RowR intC 1 w kv kl) (hkl:kl.length < 2 ^ 62) (hkv:∀ w',Fr (Own b h) w w' → RowR intC 1 w' kv kl) (k:∀ w' h',IsDk w' b (a4c A kl) h' → Step w b h w' h' → K (.tuple #[]) w'):a0a Tryz.prog 32 #[dkP b,kv] K w:=by
 apply e5i
 unfold g2a
 have c4:=d.c 4
 have f4:=d.fz 4
 simp only [a0x] at c4
 have d1:=d.set4 true
 have c5:=d1.c 5
 have f5:=d1.fz 5
 simp only [a0x] at c5
 have d2:=d1.set5 0 (by omega)
 have c1:=d2.c 1
 simp only [a0x] at c1
 obtain ⟨qa,qc,hq⟩:=a1v d.que
 repeat (any_goals (first
 | (with_reducible ((refine a1q ?_); refine yY (fun hg=>?_) fun hg=>?_))
 | ((with_reducible refine oG fun X Y=>?_); simp [go_sem,c4,f4,c5,f5,c1,hq]; apply Y; clear Y X)))
 ·have e:a4c A kl = A:=by unfold a4c; rw [if_pos hg]
  rw [e] at k
  exact k w h d (Step.refl _ _ _)
 have hdown:A.down = false:=hg
 have t2:Step w b h ((w.setCell ⟨b,4,none⟩ (.bool true)).setCell ⟨b,5,none⟩ (.int .i64 0)) h:=(b0r _ _ _ _ _).trans (b0r _ _ _ _ _)
 generalize (w.setCell ⟨b,4,none⟩ (.bool true)).setCell ⟨b,5,none⟩ (.int .i64 0) = w2 at *
 refine ⟨fun l w'=>∃ u1 u2,∃ i:Nat,l = [u1,u2,.int .i64 (i:Int)] ∧ i ≤ A.queue.length ∧ IsDk w' b { A with F:=a2j kl A.F 0 (A.queue.take i),down:=true,armed:=0 } h ∧ Step w b h w' h,fun l _=>match l with | [_,_,.int _ n]=>((A.queue.length:Int) - n).toNat | _=>0,⟨_,_,0,rfl,by omega,d2,t2⟩,?_⟩
 rintro l u w3 ⟨u1,u2,i,rfl,hin,d3,t3⟩
 have hqlen:=d.wf.ql
 simp only [List.getD_cons_zero,List.getD_cons_succ]
 repeat (any_goals (first
 | (with_reducible ((refine a1q ?_); refine yP (fun hg=>?_) fun hg=>?_))
 | ((with_reducible refine oG fun X Y=>?_); simp [go_sem]; apply Y; clear Y X)))
 ·have hlt:i < A.queue.length:=by omega
  obtain ⟨Fi,hFi⟩:∃ Fi,Fi = a2j kl A.F 0 (A.queue.take i):=⟨_,rfl⟩
  rw [← hFi] at d3
  obtain ⟨p,hp⟩:∃ p,p = A.queue[i]:=⟨_,rfl⟩
  have hqi:A.queue[i]? = some p:=by rw [hp]; exact gE hlt
  have hnext:a2j kl A.F 0 (A.queue.take (i + 1)) = a5n kl Fi i p:=by
   rw [List.take_succ_eq_append_getElem hlt,c3g,← hFi,hp,List.length_take,Nat.zero_add,Nat.min_eq_left (by omega)]
  have hkr3:RowR intC 1 w3 kv kl:=hkv _ t3.fr
  refine ⟨fun l w'=>∃ u1,∃ at_:Int,l = [u1,.int .i64 at_] ∧ IsDk w' b { A with F:=a2j kl A.F 0 (A.queue.take (i + 1)),down:=true,armed:=0 } h ∧ Step w b h w' h,?_,?_⟩
  ·refine d8t (M:=fun l w'=>∃ u1,∃ at_:Int,l = [u1,.int .i64 at_] ∧ IsDk w' b { A with F:=a2j kl A.F 0 (A.queue.take (i + 1)),down:=true,armed:=0 } h ∧ Step w b h w' h) (p:=p) d3 hq hqi hkr3 hkl (fun w' at_ d' t'=>⟨_,at_,rfl,?_,t3.trans t'⟩)
   rw [hnext]
   exact d'
  ·rintro l u w4 ⟨u3,at_,rfl,d4,t4⟩
   simp only [List.getD_cons_zero,List.getD_cons_succ]
   repeat (any_goals ((with_reducible refine oG fun X Y=>?_); simp [go_sem]; (try simp (disch:=omega) only [a0o,a2x,a1n]); apply Y; clear Y X))
   refine ⟨⟨_,_,i + 1,rfl,by omega,d4,t4⟩,?_⟩
   show ((A.queue.length:Int) - ((i:Int) + 1)).toNat < ((A.queue.length:Int) - (i:Int)).toNat
   omega
 ·have hi:i = A.queue.length:=by omega
  subst hi
  rw [List.take_of_length_le (rL)] at d3
  have e:a4c A kl = { ({ A with F:=a2j kl A.F 0 A.queue,down:=true,armed:=0 }:Ab) with F:=fun f=>((a2j kl A.F 0 A.queue f).2,(a2j kl A.F 0 A.queue f).2),queue:=[] }:=by
   unfold a4c
   rw [if_neg (by rw [hdown]; simp)]
  rw [e] at k
  exact e8r d3 (fun w' h' d' t'=>k w' h' d' (t3.trans t'))
end
end Go.Proofs
namespace Go.Proofs
open Go Go.Sh Go.RowKit DkSpec
attribute [local go_sem] a1m
section
variable {w:World} {b:Nat} {A:Ab} {h:Dk} {K:VK}
theorem c6l {B:Nat} {e:TypeId} {sz:Nat} {v:Value} {n:Nat} {xs:List Value} (ho:w.ownsRow B e sz v n xs) {i:Nat} (hi:Value.inBlock v = some i):v.ownBlock = some i:=by
 rcases ho.2 with ⟨rfl,_⟩ | ⟨g,cap,cur,rfl,_⟩
 ·cases hi
 ·cases hi; rfl
theorem IsDk.keepRow (d:IsDk w b A h):RowR intC 1 w h.kp A.keep:=by
 have:=d.kep
 rw [show A.keep.map c3b = a2g intC A.keep from (c0l c3b A.keep).symm] at this
 exact RowR.of_owns this
theorem b5y (d:IsDk w b A h) (k:∀ w' h',IsDk w' b (a4c A A.keep) h' → Step w b h w' h' → K (.tuple #[]) w'):a0a Tryz.prog 32 #[dkP b,h.kp] K w:=
 c0m d d.keepRow d.wf.kl (fun w' f=>d.keepRow.keep f.size (fun i hi hlt=>f.block i hlt (fun ho=>by
  have hk:=c6l d.kep hi
  have:=d.kne hk
  rcases ho with rfl | rfl | rfl | ho
  ·exact this.1 rfl
  ·exact this.2.1 rfl
  ·exact this.2.2.1 rfl
  ·exact this.2.2.2 ho))) k
theorem e8t (d:IsDk w b A h) (f at_:Int) (s:Bs) (hs:s.length < 2 ^ 60) (hat:-2 ^ 63 ≤ at_ ∧ at_ < 2 ^ 63) (k:∀ w' h',IsDk w' b (a6s A f at_ s).2 h' → Step w b h w' h' → K (.int .i64 (a6s A f at_ s).1) w'):a0a Tryz.prog 157 #[dkP b,.int .i64 f,.int .i64 at_,bsV s] K w:=by
 apply d5u
 unfold f3z
 refine c6f d (fun w1 d1 t1=>?_)
 refine e8j d1 f at_ s hs hat (fun w2 h2 d2 t2=>?_)
 have t02:=t1.trans t2
 unfold a6s at k
 cases he:(a3m A).1 with
 | false=>
  rw [he] at k
  simp only [Bool.false_eq_true,if_false] at k
  refine Xc0 ?_
  exact k w2 h2 d2 t02
 | true=>
  rw [he] at k
  simp only [if_true] at k
  have c6:=d2.c 6
  simp only [a0x] at c6
  repeat (any_goals (first
  | (with_reducible refine b5y d2 ?_)
  | (with_reducible refine yL ?_)
  | ((with_reducible refine oG fun X Y=>?_); simp [go_sem,c6]; apply Y; clear Y X)))
  intro w3 h3 d3 t3
  refine Xc0 ?_
  exact k w3 h3 d3 (t02.trans t3)
theorem d8u (d:IsDk w b A h) (f:Int) (k:∀ w' h',IsDk w' b (a3i A f).2 h' → Step w b h w' h' → K (.int .i64 (a3i A f).1) w'):a0a Tryz.prog 69 #[dkP b,.int .i64 f] K w:=by
 apply e5m
 unfold g2e
 refine ⟨fun l w'=>l = [] ∧ ∃ h',IsDk w' b (a0z A) h' ∧ Step w b h w' h',?_,?_⟩
 ·refine c6f d (fun w1 d1 t1=>?_)
  unfold a0z
  cases he:(a3m A).1 with
  | false=>
   simp only [Bool.false_eq_true,if_false]
   refine Xc0 ?_
   exact ⟨by first | trivial | rfl,h,d1,t1⟩
  | true=>
   simp only [if_true]
   have c6:=d1.c 6
   simp only [a0x] at c6
   repeat (any_goals (first
   | (with_reducible refine b5y d1 ?_)
   | (with_reducible refine yL ?_)
   | ((with_reducible refine oG fun X Y=>?_); simp [go_sem,c6]; apply Y; clear Y X)))
   intro w3 h3 d3 t3
   exact ⟨by first | trivial | rfl,h3,d3,t1.trans t3⟩
 ·rintro l u w1 ⟨rfl,h1,d1,t1⟩
  refine c8z d1 f ?_
  have c0:=d1.c 0
  have c3:=d1.c 3
  have f3:=d1.fz 3
  simp only [a0x] at c0 c3
  have hl:=d1.look f
  have l0:=d1.wf.l0
  have l1:=d1.wf.l1
  unfold a3i at k
  repeat (any_goals (first
  | (with_reducible ((refine a1q ?_); first|refine yP (fun hg=>?_) fun hg=>?_|refine yS (fun hg=>?_) fun hg=>?_))
  | ((with_reducible refine oG fun X Y=>?_); simp [go_sem,c0,c3,f3,hl,flV,bsV]; (try simp (disch:=omega) only [a0o,a2x,a1n]); apply Y; clear Y X)))
  ·rename_i hm
   rw [if_neg (by omega),if_pos hg] at k
   exact k _ _ (d1.set3 ((a0z A).lost - 1) (by omega)) (t1.trans (b0r _ _ _ _ _))
  ·rename_i hm
   rw [if_neg (by omega),if_neg hg] at k
   refine c3e d1 f ((a0z A).F f).1 (d1.wf.sz f).1 (fun w2 h2 d2 t2=>?_)
   refine Xc0 ?_
   exact k w2 h2 d2 (t1.trans t2)
  ·rw [if_pos hg] at k
   exact k _ _ d1 t1
theorem c9g (d:IsDk w b A h) (f n:Int) (k:∀ w' h',IsDk w' b (a4j A f n).2 h' → Step w b h w' h' → K (.int .i64 (a4j A f n).1) w'):a0a Tryz.prog 130 #[dkP b,.int .i64 f,.int .i64 n] K w:=by
 apply d5t
 unfold f3y
 refine ⟨fun l w'=>l = [] ∧ ∃ h',IsDk w' b (a0z A) h' ∧ Step w b h w' h',?_,?_⟩
 ·refine c6f d (fun w1 d1 t1=>?_)
  unfold a0z
  cases he:(a3m A).1 with
  | false=>
   simp only [Bool.false_eq_true,if_false]
   refine Xc0 ?_
   exact ⟨by first | trivial | rfl,h,d1,t1⟩
  | true=>
   simp only [if_true]
   have c6:=d1.c 6
   simp only [a0x] at c6
   repeat (any_goals (first
   | (with_reducible refine b5y d1 ?_)
   | (with_reducible refine yL ?_)
   | ((with_reducible refine oG fun X Y=>?_); simp [go_sem,c6]; apply Y; clear Y X)))
   intro w3 h3 d3 t3
   exact ⟨by first | trivial | rfl,h3,d3,t1.trans t3⟩
 ·rintro l u w1 ⟨rfl,h1,d1,t1⟩
  refine c8z d1 f ?_
  have c0:=d1.c 0
  simp only [a0x] at c0
  have hl:=d1.look f
  unfold a4j at k
  repeat (any_goals (first
  | (with_reducible refine d8l d1 f ?_)
  | (with_reducible first|refine a1b ?_|((refine b2a ?_); ((refine a7k ?_); first|refine zI ?_|refine zJ ?_|refine zK (fun hg=>?_) fun hg=>?_))|((refine a3s ?_); first|refine yD ?_|refine yE ?_)|((refine a1q ?_); first|refine yL ?_|refine yP (fun hg=>?_) fun hg=>?_|refine yS (fun hg=>?_) fun hg=>?_))
  | ((with_reducible refine oG fun X Y=>?_); simp [go_sem,c0,hl,flV,bsV]; (first|refine Y _ _ ?_|refine And.intro (by omega) (Y _ _ ?_)); clear Y X)))
  ·rename_i hm
   rw [if_neg (by omega),if_pos (.inl hg)] at k
   exact k _ _ d1 t1
  ·rename_i hm h0
   rw [if_neg (by omega),if_pos (.inr (by omega))] at k
   exact k _ _ d1 t1
  ·rename_i hm h0
   rw [if_neg (by omega),if_neg (by omega)] at k
   have hsz:=(d1.wf.sz f).1
   have e:(⟨((a0z A).F f).1.toArray⟩:ByteArray).extract 0 n.toNat = ⟨(((a0z A).F f).1.take n.toNat).toArray⟩:=by
    rw [c9b]; simp
   try rw [e]
   refine c3e d1 f (((a0z A).F f).1.take n.toNat) (by simp; omega) (fun w2 h2 d2 t2=>?_)
   refine Xc0 ?_
   exact k w2 h2 d2 (t1.trans t2)
  ·rw [if_pos hg] at k
   exact k _ _ d1 t1
end
end Go.Proofs
namespace Go.Proofs
open Go Go.Sh Go.RowKit CodeSpec JnSpec DkSpec
attribute [local go_sem] a1m
def JO (p:Nat) (v:Value) (i:Nat):Prop:=i = p ∨ v.ownBlock = some i
def a5e (b:Nat) (f:Int) (v:Value) (j:Jn):Array Value:=#[dkP b,.int .i64 f,v,.int .i64 (j.bytes:Int),.bool j.broken]
structure IsJn (w:World) (b:Nat) (h:Dk) (p:Nat) (f:Int) (j:Jn) (v:Value):Prop where
 blk:w.heap[p]? = some (.cells (a5e b f v j) 212 (0,0))
 row:w.ownsRow 0 9 1 v j.recs.length (j.recs.map Cd.strV)
 sep:∀ i,JO p v i → ¬ Own b h i ∧ ¬ Rdb h i
 six:∀ i,JO p v i → 8 ≤ i
 len:j.recs.length ≤ j.bytes ∧ j.bytes ≤ 16777216
structure Sys (w:World) (b:Nat) (A:Ab) (h:Dk):Prop where
 d:IsDk w b A h
 l:Cd.LaidE w
 six:∀ i,Own b h i → 8 ≤ i
section
variable {w w':World} {b p:Nat} {A A':Ab} {h h':Dk} {f:Int} {j j':Jn} {v v':Value} {K:VK}
theorem Sys.step (s:Sys w b A h) (d:IsDk w' b A' h') (t:Step w b h w' h'):Sys w' b A' h':=
 ⟨d,s.l.keep (fun k hk=>t.fr.block k (by have:=s.l.size; omega) (fun ho=>by have:=s.six k ho; omega)) t.fr.size,fun i hi=>(t.own i hi).elim (s.six i) (fun hn=>by have:=s.l.size; omega)⟩
theorem Sys.fresh (s:Sys w b A h) {S:Nat → Prop} (f:Fr S w w') (hs:∀ i,S i → ¬ (Own b h i ∨ Rdb h i) ∧ 8 ≤ i):Sys w' b A h:=
 ⟨s.d.keep (fun i hi=>f.block i (s.d.lt hi) (fun hx=>(hs i hx).1 hi)),s.l.keep (fun k hk=>f.block k (by have:=s.l.size; omega) (fun hx=>by have:=(hs k hx).2; omega)) f.size,s.six⟩
theorem Sys.below (s:Sys w b A h) (f:Bw w w'):Sys w' b A h:=
 s.fresh (S:=fun _=>False) ⟨f.os,f.tape,f.output,f.size,fun i hi _=>f.block i hi⟩ (fun _ h=>h.elim)
theorem IsJn.lt (jn:IsJn w b h p f j v) {i:Nat} (hi:JO p v i):i < w.heap.size:=by
 rcases hi with rfl | hi
 ·exact (Array.getElem?_eq_some_iff.1 jn.blk).1
 ·exact (a0p jn.row hi).1
theorem IsJn.pv (jn:IsJn w b h p f j v):v.ownBlock ≠ some p:=fun hp=>by
 obtain ⟨_,_,cur,hc⟩:=a0p jn.row hp
 rw [jn.blk] at hc; cases hc
theorem IsJn.keep (jn:IsJn w b h p f j v) {S:Nat → Prop} (g:Fr S w w') (hs:∀ i,S i → ¬ JO p v i) (ho:∀ i,Own b h' i ∨ Rdb h' i → Own b h i ∨ Rdb h i ∨ w.heap.size ≤ i):IsJn w' b h' p f j v:=by
 have hb:∀ i,JO p v i → w'.heap[i]? = w.heap[i]?:=fun i hi=>g.block i (jn.lt hi) (fun hx=>hs i hx hi)
 refine ⟨by rw [hb p (.inl rfl)]; exact jn.blk,a0r jn.row (fun i hi=>hb i (.inr hi)),fun i hi=>?_,jn.six,jn.len⟩
 have hl:=jn.lt hi
 have hs:=jn.sep i hi
 exact ⟨fun hx=>(ho i (.inl hx)).elim hs.1 (fun hy=>hy.elim hs.2 (fun hz=>by omega)),fun hx=>(ho i (.inr hx)).elim hs.1 (fun hy=>hy.elim hs.2 (fun hz=>by omega))⟩
theorem IsJn.step (jn:IsJn w b h p f j v) (t:Step w b h w' h'):IsJn w' b h' p f j v:=
 jn.keep t.fr (fun i hi hj=>(jn.sep i hj).1 hi) (fun i hi=>hi.elim (fun hx=>(t.own i hx).elim .inl (fun hy=>.inr (.inr hy))) (fun hx=>(t.rd i hx).elim (fun hy=>.inr (.inl hy)) (fun hy=>.inr (.inr hy))))
theorem IsJn.below (jn:IsJn w b h p f j v) (g:Bw w w'):IsJn w' b h p f j v:=
 jn.keep (S:=fun _=>False) ⟨g.os,g.tape,g.output,g.size,fun i hi _=>g.block i hi⟩ (fun _ h=>h.elim) (fun i hi=>hi.elim .inl (fun h=>.inr (.inl h)))
theorem IsJn.c (jn:IsJn w b h p f j v) (i:Nat):w.cell? ⟨p,i,none⟩ = (a5e b f v j)[i]?:=a0b jn.blk i
theorem IsJn.fz (jn:IsJn w b h p f j v) (i:Nat):w.frozen? ⟨p,i,none⟩ = false:=a0v jn.blk i
@[reducible] def jnP (p:Nat):Value:=.pointer (some ⟨p,0,none⟩)
end
end Go.Proofs
namespace Go.Proofs
open Go Go.Sh Go.RowKit CodeSpec JnSpec DkSpec
section
variable {w w':World} {b p:Nat} {A A':Ab} {h h':Dk} {f:Int} {j j':Jn} {v v':Value} {K:VK}
theorem g4v (jn:IsJn w b h p f j v) (k:∀ v' w',w'.ownsRow w.heap.size 9 1 v' j.recs.length (j.recs.map Cd.strV) → Bw w w' → K v' w'):a0a Tryz.prog 83 #[jnP p] K w:=by
 apply e5p
 unfold g2h jnP
 have c2:=jn.c 2
 simp only [a5e] at c2
 have hlen:=jn.len
 have hrow:=jn.row
 obtain ⟨va,vc,rfl⟩:=a1v hrow
 have hmk:=run_make (P:=Tryz.prog) w 157 9 Tryz.t9 (.string ⟨#[]⟩) Tryz.underlying157 (by kernel_rfl) (by kernel_rfl) .i64 .i64 (j.recs.length:Int) (j.recs.length:Int) (by omega) (Int.le_refl _) (by
  have:Tryz.t9.bytes = 16:=by kernel_rfl
  rw [this]; omega) (by omega)
 simp only [Int.toNat_natCast] at hmk
 have hsz:Tryz.t9.size = 1:=by kernel_rfl
 rw [hsz,Nat.mul_one] at hmk
 obtain ⟨cs,hcs⟩:∃ cs,cs = madeCells (Value.string ⟨#[]⟩).cells j.recs.length:=⟨_,rfl⟩
 have hcz:cs.size = j.recs.length:=by rw [hcs]; simp [madeCells]
 rw [← hcs] at hmk
 have hb1:Below w.heap.size w (w.alloc (.cells cs 9)):=(bR).alloc (rL) _
 have h1:=heap_alloc_new w (.cells cs 9)
 have jn1:=jn.below hb1
 have c21:=jn1.c 2
 simp only [a5e] at c21
 refine Xa (An2 @c2 @hmk) ?_
 generalize w.alloc (.cells cs 9) = w1 at *
 by_cases hn:j.recs.length = 0
 ·have hcp:=run_copy_none (P:=Tryz.prog) w1 157 157 3 9 (some ⟨w.heap.size,0,none⟩) va j.recs.length j.recs.length j.recs.length vc Tryz.underlying157 (by kernel_rfl) (by rw [hn]; rfl)
  refine Xa (An2 @c21 @hcp) ?_
  have e0:j.recs = []:=List.length_eq_zero_iff.1 hn
  refine k _ w1 ⟨by simp,.inr ⟨_,_,_,rfl,rL,h1,rL,by unfold maxLen; omega,by omega,by rw [hn,e0]; simp⟩⟩ hb1
 ·obtain ⟨g,cap,cur,hv,hg,_,hcur,hcs2,hnc,hcell⟩:=a2t jn1.row (by omega)
  cases hv
  have hxl:(j.recs.map Cd.strV).length = j.recs.length:=by simp
  have hcp:=run_copy_row (P:=Tryz.prog) w1 157 157 3 9 w.heap.size 0 j.recs.length j.recs.length ⟨g,0,none⟩ j.recs.length vc cs 9 (j.recs.map Cd.strV) Tryz.underlying157 (by kernel_rfl) h1 (by rw [hxl]; exact (Nat.min_self _).symm) (fun i x hx=>by
   rw [Cd.addr_add,Nat.zero_add]; exact hcell i x hx) (by omega) (by
   intro x hx
   obtain ⟨s,_,rfl⟩:=List.mem_map.1 hx
   rfl)
  refine Xa (An2 @c21 @hcp) ?_
  have e1:cs.toList.drop j.recs.length = []:=List.drop_eq_nil_of_le (by simp; omega)
  rw [e1,List.append_nil]
  have h2:=setRow_heap w1 w.heap.size cs (j.recs.map Cd.strV).toArray 9 (0,0) h1
  refine k _ _ ⟨by simp,.inr ⟨_,_,_,rfl,rL,h2,rL,by unfold maxLen; omega,by simp,by rw [Nat.mul_one,List.take_of_length_le (by simp)]⟩⟩ (hb1.trans (Cd.below_of_grown (a2w _ _ _) hb1.size (fun i hi=>by cases hi; exact rL)))
end
end Go.Proofs
namespace Go.Proofs
open Go Go.Sh Go.RowKit CodeSpec JnSpec DkSpec
structure JSt (w:World) (b:Nat) (h:Dk) (p:Nat) (v:Value) (w':World) (h':Dk) (v':Value):Prop where
 fr:Fr (fun i=>Own b h i ∨ JO p v i) w w'
 own:∀ i,Own b h' i → Own b h i ∨ w.heap.size ≤ i
 rd:∀ i,Rdb h' i → Rdb h i ∨ w.heap.size ≤ i
 jo:∀ i,JO p v' i → JO p v i ∨ w.heap.size ≤ i
def Same (w W:World):Prop:=W.heap = w.heap ∧ W.os = w.os ∧ W.tape = w.tape ∧ W.output = w.output
theorem Same.below {w W:World} (h:Same w W):Bw w W:=⟨h.2.1,h.2.2.1,h.2.2.2,by rw [h.1]; exact rL,fun i _=>by rw [h.1]⟩
section
variable {w w' w2:World} {b p:Nat} {A A':Ab} {h h' h2:Dk} {f:Int} {j j':Jn} {v v' v2:Value} {K:VK}
theorem JSt.refl:JSt w b h p v w h v:=⟨Fr.refl _ _,fun _ h=>.inl h,fun _ h=>.inl h,fun _ h=>.inl h⟩
theorem JSt.of_step (t:Step w b h w' h'):JSt w b h p v w' h' v:=⟨t.fr.mono (fun _ _ h=>.inl h),t.own,t.rd,fun _ h=>.inl h⟩
theorem JSt.trans (t:JSt w b h p v w' h' v') (u:JSt w' b h' p v' w2 h2 v2):JSt w b h p v w2 h2 v2:=
 ⟨t.fr.trans u.fr (fun i hi=>hi.elim (fun h=>(t.own i h).elim (fun h=>.inl (.inl h)) .inr) (fun h=>(t.jo i h).elim (fun h=>.inl (.inr h)) .inr)),
  fun i hi=>(u.own i hi).elim (t.own i) (fun h=>.inr (Nat.le_trans t.fr.size h)),
  fun i hi=>(u.rd i hi).elim (t.rd i) (fun h=>.inr (Nat.le_trans t.fr.size h)),
  fun i hi=>(u.jo i hi).elim (t.jo i) (fun h=>.inr (Nat.le_trans t.fr.size h))⟩
theorem JSt.below (g:Bw w w'):JSt w b h p v w' h v:=⟨⟨g.os,g.tape,g.output,g.size,fun i hi _=>g.block i hi⟩,fun _ h=>.inl h,fun _ h=>.inl h,fun _ h=>.inl h⟩
theorem IsJn.set4 (jn:IsJn w b h p f j v) (t:Bool):IsJn (w.setCell ⟨p,4,none⟩ (.bool t)) b h p f { j with broken:=t } v:=by
 refine ⟨by rw [a2i jn.blk]; rfl,a0r jn.row (fun i hi=>a0l _ _ _ _ (fun e=>jn.pv (by rw [hi]; exact congrArg some e))),jn.sep,jn.six,jn.len⟩
theorem JSt.set (i:Nat) (u:Value):JSt w b h p v (w.setCell ⟨p,i,none⟩ u) h v:=⟨(Fr.refl _ _).set _ _ (.inl (.inr (.inl rfl))),fun _ h=>.inl h,fun _ h=>.inl h,fun _ h=>.inl h⟩
theorem Sys.set (s:Sys w b A h) (jn:IsJn w b h p f j v) (i:Nat) (u:Value):Sys (w.setCell ⟨p,i,none⟩ u) b A h:=
 s.fresh (S:=fun k=>k = p) ((Fr.refl _ _).set _ _ (.inl rfl)) (fun k hk=>by
  subst hk
  have h1:=jn.sep k (.inl rfl)
  exact ⟨fun h=>h.elim h1.1 h1.2,jn.six k (.inl rfl)⟩)
theorem Sys.drew (s:Sys w b A h):Sys { w with drawn:=w.drawn + 1 } b A h:=s.fresh (S:=fun _=>False) ((Fr.refl _ _).drew) (fun _ h=>h.elim)
theorem e8e (s:Sys w b A h) (jn:IsJn w b h p f j v) (k:∀ w' h',Sys w' b (a5p A f j).2.1 h' → IsJn w' b h' p f (a5p A f j).2.2 v → JSt w b h p v w' h' v → K (.int .i64 (a5p A f j).1) w'):a0a Tryz.prog 100 #[jnP p] K w:=by
 apply d6f
 unfold f4k jnP
 have c0:=jn.c 0
 have c1:=jn.c 1
 have c4:=jn.c 4
 simp only [a5e] at c0 c1 c4
 cases hb:j.broken with
 | true=>
  rw [hb] at c4
  unfold a5p at k
  rw [if_pos hb] at k
  refine Xa @c4 ?_
  exact k w h s jn JSt.refl
 | false=>
  rw [hb] at c4
  unfold a5p at k
  rw [if_neg (by rw [hb]; simp)] at k
  refine Xa @c4 ?_
  refine ⟨Same w,⟨rfl,rfl,rfl,rfl⟩,?_⟩
  refine ⟨rfl,?_⟩
  repeat (first | (with_reducible refine pX ?_) | (with_reducible refine a3t ?_) | (with_reducible refine a2m rfl ?_) | (with_reducible refine a2b rfl ?_) | (refine a1z ⟨_,rfl⟩ (fun W0 hW0=>by (refine oG (fun X Y=>?_)); simp [go_sem,a5o hW0.1,c0,c1]; (first | exact Y _ _ ⟨rfl,rfl⟩ | exact ⟨by omega,Y _ _ ⟨rfl,rfl⟩⟩)) ?_))
  refine ⟨fun _ _=>True,fun w1 hw1=>?_⟩
  have s1:=s.below hw1.below
  have jn1:=jn.below hw1.below
  refine d8u s1.d f (fun w2 h2 d2 t2=>?_)
  have s2:=s1.step d2 t2
  have jn2:=jn1.step t2
  have c42:=jn2.c 4
  have f42:=jn2.fz 4
  simp only [a5e] at c42
  have e1:(decide ((a3i A f).1 ≠ 0)) = !decide ((a3i A f).1 = 0):=by simp
  refine Xa (An2 @c42 @f42) ?_
  rw [← e1]
  exact k _ h2 (s2.set jn2 4 _) (jn2.set4 _) ((JSt.below hw1.below).trans ((JSt.of_step t2).trans (JSt.set 4 _)))
theorem b5w (s:Sys w b A h) (jn:IsJn w b h p f j v) (hf:0 ≤ f ∧ f ≤ 15) (t:List UInt8) (ht:t.length ≤ 16777216) (k:∀ w' h' v',Sys w' b (a0g A f j t).2.1 h' → IsJn w' b h' p f (a0g A f j t).2.2 v' → JSt w b h p v w' h' v' → K (.int .i64 (a0g A f j t).1) w'):a0a Tryz.prog 106 #[jnP p,.string ⟨t.toArray⟩] K w:=by
 apply d6e
 unfold f4j jnP
 refine d8e t ht s.l (fun w1 hb1=>?_)
 have s1:=s.below hb1
 have jn1:=jn.below hb1
 have j1:JSt w b h p v w1 h v:=JSt.below hb1
 have hfl:=b2p ht
 have hfp:=a7o t
 have hl:=jn.len
 clear hb1 s jn
 have c0:=jn1.c 0
 have c1:=jn1.c 1
 have c3:=jn1.c 3
 have c4:=jn1.c 4
 simp only [a5e] at c0 c1 c3 c4
 cases hb:j.broken with
 | true=>
  rw [hb] at c4
  unfold a0g at k
  rw [if_pos hb] at k
  refine Xa @c4 ?_
  exact k w1 h v s1 jn1 j1
 | false=>
  rw [hb] at c4
  unfold a0g at k
  rw [if_neg (by rw [hb]; simp)] at k
  by_cases h1:20000 < t.length
  ·rw [if_pos h1] at k
   refine Xa @c4 ?_
   exact k w1 h v s1 jn1 j1
  rw [if_neg h1] at k
  by_cases h2:1048576 < j.bytes + (form t).length
  ·rw [if_pos h2] at k
   refine Xa (An2 @c4 @c3) ?_
   exact k w1 h v s1 jn1 j1
  rw [if_neg h2] at k
  refine Xa (An2 @c4 @c3) ?_
  refine ⟨Same w1,⟨rfl,rfl,rfl,rfl⟩,?_⟩
  refine ⟨rfl,?_⟩
  repeat (first | (with_reducible refine pX ?_) | (with_reducible refine a3t ?_) | (with_reducible refine a2m rfl ?_) | (with_reducible refine a2b rfl ?_) | (refine a1z ⟨_,rfl⟩ (fun W0 hW0=>by (refine oG (fun X Y=>?_)); simp [go_sem,a5o hW0.1,c0,c1,c3]; (first | exact Y _ _ ⟨rfl,rfl⟩ | exact ⟨by omega,Y _ _ ⟨rfl,rfl⟩⟩)) ?_))
  refine ⟨fun _ _=>True,fun w2 hw2=>?_⟩
  have s2:=s1.below hw2.below
  have jn2:=jn1.below hw2.below
  have j2:=j1.trans (JSt.below hw2.below)
  clear s1 jn1 j1 hw2 c0 c1 c3 c4
  refine e8t s2.d f j.bytes (form t) (by omega) (by omega) (fun w3 hh3 d3 t3=>?_)
  have s3:=s2.step d3 t3
  have jn3:=jn2.step t3
  have j3:=j2.trans (JSt.of_step t3)
  clear s2 jn2 j2 t3 d3
  by_cases h3:(a6s A f j.bytes (form t)).1 = 0
  ·rw [if_neg (by rw [h3]; simp)] at k
   refine Xa0 ?_
   have b3:=jn3.blk
   have hwr:IntKind.i64.wrap ((j.bytes:Int) + ((form t).length:Int)) = ((j.bytes + (form t).length:Nat):Int):=by rw [a0o] <;> omega
   refine ⟨fun sg W=>sg ≤ 2 → W.heap[p]? = some (.cells (a5e b f v j) 212 (0,0)),fun _=>b3,?_⟩
   iterate 11 (first | (with_reducible refine pX ?_) | (with_reducible refine a3t ?_) | (with_reducible refine a2m rfl ?_) | (with_reducible refine a2b rfl ?_) | (refine a1z ⟨_,rfl⟩ (fun W0 hW0=>by (obtain ⟨s0,hs0,hC⟩:=hW0); (have hsk:s0 ≤ 2:=by omega); (refine oG (fun X Y=>?_)); simp [go_sem,a0b (hC hsk),a5e]; (first | exact Y _ _ ⟨rfl,rfl⟩ | exact ⟨by omega,Y _ _ ⟨rfl,rfl⟩⟩)) ?_))
   repeat (first | (with_reducible refine pX ?_) | (with_reducible refine a3t ?_) | (with_reducible refine a2m rfl ?_) | (with_reducible refine a2b rfl ?_) | (refine a1z ⟨_,rfl⟩ (fun W0 hW0=>by (obtain ⟨s0,hs0,hC⟩:=hW0); (refine oG (fun X Y=>?_)); simp [go_sem,hwr]; (first | exact Y _ _ ⟨rfl,rfl⟩ | exact ⟨by omega,Y _ _ ⟨rfl,rfl⟩⟩)) ?_))
   have s4:=s3.drew
   have jn4:=jn3.below (w':={ w3 with drawn:=w3.drawn + 1 }) ((bR).drew)
   have j4:=j3.trans (JSt.below (w':={ w3 with drawn:=w3.drawn + 1 }) ((bR).drew))
   generalize ({ w3 with drawn:=w3.drawn + 1 }:World) = w4 at *
   clear s3 jn3 j3 b3
   refine Xa0 ?_
   have hb5:Below w4.heap.size w4 (w4.alloc (.cells #[.string ⟨t.toArray⟩] 9)):=(bR).alloc (rL) _
   have hn5:=heap_alloc_new w4 (.cells #[.string ⟨t.toArray⟩] 9)
   have s5:=s4.below hb5
   have jn5:=jn4.below hb5
   have j5:=j4.trans (JSt.below hb5)
   generalize w4.alloc (.cells #[.string ⟨t.toArray⟩] 9) = w5 at *
   clear s4 jn4 j4
   have b5:=jn5.blk
   have hp5:=jn5.lt (.inl rfl)
   refine ⟨fun _=>b5,?_⟩
   refine a7a 157 157 9 Tryz.t9 (.string ⟨#[]⟩) 1 16 Tryz.underlying157 (by kernel_rfl) (by kernel_rfl) (by kernel_rfl) (by kernel_rfl) rfl (by omega) jn5.row [Cd.strV t] rfl (fun e=>by cases e) (fun a ha i u hu=>by
    cases ha
    rw [Cd.addr_add,Nat.zero_add,a0b hn5]
    match i,hu with
    | 0,hu=>exact hu
    | i + 1,hu=>simp at hu) (by intro u hu; simp only [List.mem_singleton] at hu; subst hu; rfl) (by unfold maxLen; omega) (by omega) (fun v6 w6 ho6 hg6 hv6=>?_)
   have b6:w6.heap[p]? = some (.cells (a5e b f v j) 212 (0,0)):=(hg6.block p hp5 (fun e=>jn5.pv e.symm)).trans b5
   refine ⟨fun _=>b6,?_⟩
   have f62:=a0v b6 2
   have c63:=a2i (i:=2) b6 v6
   have f63:=a0v c63 3
   have c62:=a0b b6 2
   have c633:=a0b c63 3
   simp [a5e] at c62 c633
   obtain ⟨va6,vc6,rfl⟩:=a1v ho6
   repeat (any_goals (first
   | (refine ⟨fun hh=>absurd hh (by decide),?_⟩)
   | ((with_reducible refine oG fun X Y=>?_); simp [go_sem,c62,c633,f62,f63]; apply Y; clear Y X)))
   obtain ⟨v6,hv6e⟩:∃ v6,v6 = Value.slice va6 (j.recs.length + 1) vc6:=⟨_,rfl⟩
   rw [← hv6e] at c63 ho6 hv6 ⊢
   have c64:=a2i (i:=3) c63 (.int .i64 ((j.bytes + (form t).length:Nat):Int))
   have hz6:=hg6.size
   have hpv6:v6.ownBlock ≠ some p:=fun e=>(hv6 p e).elim (fun e=>jn5.pv e) (fun e=>by omega)
   have hz5:=s5.l.size
   have hF:Fr (JO p v) w5 ((w6.setCell ⟨p,2,none⟩ v6).setCell ⟨p,3,none⟩ (.int .i64 ((j.bytes + (form t).length:Nat):Int))):=
    (((Fr.refl (JO p v) w5).by hg6 (fun i e=>.inl (.inr e))).set _ _ (.inl (.inl rfl))).set _ _ (.inl (.inl rfl))
   refine k _ hh3 v6 (s5.fresh hF (fun i hi=>⟨fun e=>e.elim (jn5.sep i hi).1 (jn5.sep i hi).2,jn5.six i hi⟩)) ⟨?_,?_,?_,?_,?_⟩ (j5.trans ⟨hF.mono (fun _ _ h=>.inr h),fun _ h=>.inl h,fun _ h=>.inl h,?_⟩)
   ·refine Eq.trans c64 ?_
    simp [a5e,hb]
   ·simp only [List.length_append,List.length_singleton,List.map_append,List.map_cons,List.map_nil]
    refine a0r ho6 (fun i hi=>?_)
    have hip:i ≠ p:=fun e=>hpv6 (by rw [← e]; exact hi)
    rw [a0l _ _ _ _ hip,a0l _ _ _ _ hip]
   ·rintro i (rfl | hi)
    ·exact jn5.sep _ (.inl rfl)
    ·rcases hv6 i hi with e | e
     ·exact jn5.sep i (.inr e)
     ·exact ⟨fun ho=>by have:=s5.d.lt (.inl ho); omega,fun ho=>by have:=s5.d.lt (.inr ho); omega⟩
   ·rintro i (rfl | hi)
    ·exact jn5.six _ (.inl rfl)
    ·rcases hv6 i hi with e | e
     ·exact jn5.six i (.inr e)
     ·omega
   ·simp only [List.length_append,List.length_singleton]
    omega
   ·rintro i (rfl | hi)
    ·exact .inl (.inl rfl)
    ·exact (hv6 i hi).imp .inr id
  ·rw [if_pos h3] at k
   have c43:=jn3.c 4
   have f43:=jn3.fz 4
   simp only [a5e] at c43
   refine Xa (An2 @c43 @f43) ?_
   exact k _ hh3 v (s3.set jn3 4 _) (jn3.set4 _) (j3.trans (JSt.set 4 _))
end
end Go.Proofs
namespace Go.Proofs
open Go Go.Sh Go.RowKit CodeSpec JnSpec DkSpec
section
variable {w w' w2:World} {b p:Nat} {A A':Ab} {h h' h2:Dk} {f:Int} {j j':Jn} {v v' v2:Value} {K:VK}
theorem Step.below (g:Bw w w'):Step w b h w' h:=⟨⟨g.os,g.tape,g.output,g.size,fun i hi _=>g.block i hi⟩,fun _ h=>.inl h,fun _ h=>.inl h⟩
theorem d8h (A:Ab) (f a n:Int):(b2j A f a n).1.length ≤ (A.F f).1.length:=by
 unfold b2j
 split
 ·simp
 ·split
  ·simp
  ·simp; omega
theorem d8i (l:List Bs):l.length ≤ (a2h l).length:=by
 induction l with
 | nil=>simp
 | cons t l ih=>
  have:=a7o t
  rw [a5f,List.length_append,List.length_cons]
  omega
def d8j (w:World) (b:Nat) (h:Dk) (w0:World) (f:Int) (r:Value):Option Jn → Prop
 | none=>r = .pointer none
 | some j=>∃ p v,r = jnP p ∧ IsJn w b h p f j v ∧ ∀ i,JO p v i → w0.heap.size ≤ i
theorem d8k {w:World} {B:Nat} {e:TypeId} {sz n:Nat} {v:Value} {xs:List Value} (h:w.ownsRow B e sz v n xs):w.ownsRow 0 e sz v n xs:=by
 refine ⟨h.1,h.2.imp id ?_⟩
 rintro ⟨g,cap,cur,a,b,c⟩
 exact ⟨g,cap,cur,a,Nat.zero_le _,c⟩
theorem b9g {w0 w2 w3:World} {C:Ab} {h1 h3:Dk} {recs:List Bs} {n:Nat} (s3:Sys w3 b C h3) (t3:Step w2 b h1 w3 h3) (ho:w2.ownsRow 0 9 1 v recs.length (recs.map Cd.strV)) (hvo:∀ i,v.ownBlock = some i → w0.heap.size ≤ i)
  (hvd:∀ i,v.ownBlock = some i → ¬ Own b h1 i ∧ ¬ Rdb h1 i) (h6:8 ≤ w0.heap.size) (hz:w0.heap.size ≤ w2.heap.size) (hn:recs.length ≤ n ∧ n ≤ 16777216) :
  Sys (w3.alloc (.cells #[dkP b,.int .i64 f,v,.int .i64 (n:Int),.bool false] 212)) b C h3 ∧ Step w2 b h1 (w3.alloc (.cells #[dkP b,.int .i64 f,v,.int .i64 (n:Int),.bool false] 212)) h3 ∧
  d8j (w3.alloc (.cells #[dkP b,.int .i64 f,v,.int .i64 (n:Int),.bool false] 212)) b h3 w0 f (jnP w3.heap.size) (some ⟨recs,n,false⟩):=by
 have hb:Below w3.heap.size w3 (w3.alloc (.cells #[dkP b,.int .i64 f,v,.int .i64 (n:Int),.bool false] 212)):=(bR).alloc (rL) _
 have hnew:=heap_alloc_new w3 (.cells #[dkP b,.int .i64 f,v,.int .i64 (n:Int),.bool false] 212)
 generalize w3.alloc (.cells #[dkP b,.int .i64 f,v,.int .i64 (n:Int),.bool false] 212) = w4 at *
 have hz3:=t3.fr.size
 refine ⟨s3.below hb,t3.trans (Step.below hb),_,v,rfl,⟨hnew,?_,?_,?_,hn⟩,?_⟩
 ·refine a0r ho (fun i hi=>?_)
  have hl:=(a0p ho hi).1
  rw [hb.block i (by omega)]
  exact t3.fr.block i hl (hvd i hi).1
 ·rintro i (rfl | hi)
  ·exact ⟨fun ho=>by have:=s3.d.lt (.inl ho); omega,fun ho=>by have:=s3.d.lt (.inr ho); omega⟩
  ·have hl:=(a0p ho hi).1
   exact ⟨fun hx=>(t3.own i hx).elim (hvd i hi).1 (fun h=>by omega),fun hx=>(t3.rd i hx).elim (hvd i hi).2 (fun h=>by omega)⟩
 ·rintro i (rfl | hi)
  ·omega
  ·have:=hvo i hi; omega
 ·rintro i (rfl | hi)
  ·omega
  ·exact hvo i hi
theorem e8f (s:Sys w b A h) (f:Int) (k:∀ w' h' r,Sys w' b (openJ A f).2.2 h' → Step w b h w' h' → d8j w' b h' w f r (openJ A f).1 → K (.tuple #[r,.int .i64 (openJ A f).2.1]) w'):a0a Tryz.prog 80 #[dkP b,.int .i64 f] K w:=by
 apply e5o
 unfold g2g
 unfold openJ at k
 by_cases hf:f < 0 ∨ 15 < f
 ·rw [if_pos hf] at k
  by_cases h0:f < 0
  ·refine Xa0 ?_
   exact k w h _ s (Step.refl _ _ _) rfl
  ·have h1:15 < f:=hf.resolve_left h0
   refine Xa0 ?_
   exact k w h _ s (Step.refl _ _ _) rfl
 rw [if_neg hf] at k
 have h0:¬ f < 0:=fun e=>hf (.inl e)
 have h1:¬ 15 < f:=fun e=>hf (.inr e)
 refine Xa0 ?_
 refine d8u s.d f (fun w1 h1' d1 t1=>?_)
 have s1:=s.step d1 t1
 by_cases he:(a3i A f).1 = 0
 ·rw [if_neg (by simp [he])] at k
  refine Xa0 ?_
  refine d8l s1.d f ?_
  refine f8k s1.d f 0 _ ?_
  have hrl:=d8h (a3i A f).2 f 0 ((((a3i A f).2.F f).1.length:Nat):Int)
  have hsz:=(s1.d.wf.sz f).1
  generalize (a3i A f).2 = B at *
  unfold d1s at k
  generalize b2j B f 0 (((B.F f).1.length:Nat):Int) = r at *
  obtain ⟨x,e⟩:=r
  dsimp only at k hrl ⊢
  by_cases h2:e = 0
  ·rw [if_neg (by simp [h2])] at k
   refine Xa0 ?_
   refine e8d x (by omega) s1.l (fun v w2 ho2 hb2=>?_)
   have hrs:=a5g x
   have hrl1:=d8i (readJ x).1
   rw [← hrs.2.1] at hrl1
   have hrl2:(readJ x).2 ≤ x.length:=by
    have:=congrArg List.length hrs.2.2.1
    rw [List.length_append,← hrs.2.1] at this
    omega
   clear hrs
   have s2:=s1.below hb2
   have t2:=t1.trans (Step.below (b:=b) (h:=h1') hb2)
   have hz1:=t1.fr.size
   have hvo:∀ i,v.ownBlock = some i → w1.heap.size ≤ i:=fun i hi=>(a0p ho2 hi).2.1
   have ho20:w2.ownsRow 0 9 1 v (readJ x).1.length ((readJ x).1.map Cd.strV):=d8k ho2
   have hvd:∀ i,v.ownBlock = some i → ¬ Own b h1' i ∧ ¬ Rdb h1' i:=fun i hi=>by
    have h3:=hvo i hi
    exact ⟨fun ho=>by have:=s1.d.lt (.inl ho); omega,fun ho=>by have:=s1.d.lt (.inr ho); omega⟩
   have hz2:=hb2.size
   have hz5:=s.l.size
   by_cases h3:(readJ x).2 < x.length
   ·rw [if_pos h3] at k
    by_cases h4:(a4j B f (readJ x).2).1 = 0
    ·rw [if_neg (by simp [h4])] at k
     refine Xa0 ?_
     refine ⟨fun vs W=>∃ u h',vs = [u,.pointer none,.int .i64 0] ∧ Sys W b (a4j B f (readJ x).2).2 h' ∧ Step w2 b h1' W h',?_,?_⟩
     ·refine Xa0 ?_
      refine c9g s2.d f (readJ x).2 (fun w3 h3' d3 t3=>?_)
      refine Xa0 ?_
      exact ⟨_,h3',rfl,s2.step d3 t3,t3⟩
     ·rintro _ _ w3 ⟨u,h3',rfl,s3,t3⟩
      obtain ⟨va,vc,hve⟩:=a1v ho20
      have hve2:=hve
      subst hve
      refine Xa0 ?_
      obtain ⟨s4,t4,o4⟩:=b9g (f:=f) (w0:=w) (n:=(readJ x).2) s3 t3 ho20 (fun i hi=>Nat.le_trans hz1 (hvo i hi)) hvd (by omega) (by omega) ⟨hrl1,by omega⟩
      exact k _ h3' _ s4 (t2.trans t4) o4
    ·rw [if_pos h4] at k
     refine Xa0 ?_
     refine ⟨fun _ _=>False,?_,fun _ _ _ h=>h.elim⟩
     refine Xa0 ?_
     refine c9g s2.d f (readJ x).2 (fun w3 h3' d3 t3=>?_)
     refine Xa0 ?_
     exact k w3 h3' _ (s2.step d3 t3) (t2.trans t3) rfl
   ·rw [if_neg h3] at k
    refine Xa0 ?_
    refine ⟨fun vs W=>∃ u h',vs = [u,.pointer none,.int .i64 0] ∧ Sys W b B h' ∧ Step w2 b h1' W h',?_,?_⟩
    ·refine Xa0 ?_
     exact ⟨_,h1',rfl,s2,Step.refl _ _ _⟩
    ·rintro _ _ w3 ⟨u,h3',rfl,s3,t3⟩
     obtain ⟨va,vc,hve⟩:=a1v ho20
     subst hve
     refine Xa0 ?_
     obtain ⟨s4,t4,o4⟩:=b9g (f:=f) (w0:=w) (n:=(readJ x).2) s3 t3 ho20 (fun i hi=>Nat.le_trans hz1 (hvo i hi)) hvd (by omega) (by omega) ⟨hrl1,by omega⟩
     exact k _ h3' _ s4 (t2.trans t4) o4
  ·rw [if_pos h2] at k
   refine Xa0 ?_
   exact k w1 h1' _ s1 t1 rfl
 ·rw [if_pos he] at k
  refine Xa0 ?_
  exact k w1 h1' _ s1 t1 rfl
end
end Go.Proofs
namespace PuSpec
open FdSpec TkSpec CodeSpec
variable {s:Stp} {lims:List Lim}
theorem d2b:b8m ⟨[],false⟩ = true:=rfl
theorem c3o (vs:List Int) (hl:Len vs.length) (h:∀ v ∈ vs,InR v):a1d ⟨a0t vs,false⟩ = (vs,⟨[],false⟩):=by
 have:=b0m vs [] hl h
 rw [List.append_nil] at this
 exact this
theorem c3p (vs:List Int) (h:vs.length = 2 ∨ vs.length = 3):¬ [48,59] <+: a0t vs:=by
 have e:a0t vs = Go.Lib.itoa vs.length ++ 91 :: ((vs.map a1r).flatten ++ [93]):=by simp [a0t,a0n,a4h]
 rw [e]
 rcases h with h | h <;> rw [h]
 ·rw [show Go.Lib.itoa ((2:Nat):Int) = [50] by decide +kernel]
  intro hp
  have:=List.cons_prefix_cons.1 hp
  exact absurd this.1 (by decide)
 ·rw [show Go.Lib.itoa ((3:Nat):Int) = [51] by decide +kernel]
  intro hp
  have:=List.cons_prefix_cons.1 hp
  exact absurd this.1 (by decide)
theorem b9l (items:List Itm) (h:Hld) (w:WHld h) (hl:h.links.length ≤ 4) :
  a3o s lims items (a4e h) = if validM s lims h = true ∧ c0x items h.t = false ∧ items.length < 400 then some (items ++ [a2q h]) else none:=by
 have e0:a4e h = [48,59] ++ b2u h:=by
  have:a2n 0 = [48,59]:=by decide +kernel
  rw [a4e,this]
 unfold a3o
 rw [if_pos (by rw [e0]; exact List.prefix_append _ _)]
 rw [e0]
 have e1:([48,59] ++ b2u h).drop 2 = b2u h:=rfl
 rw [e1]
 unfold f8v
 rw [d2a h w hl]
 dsimp only
 by_cases hc:validM s lims h = true ∧ c0x items h.t = false ∧ items.length < 400
 ·rw [if_pos hc,if_neg]
  simp only [Bool.not_true,Bool.false_or,hc.1,hc.2.1,Bool.or_false,decide_eq_true_eq]
  omega
 ·rw [if_neg hc,if_pos]
  simp only [Bool.not_true,Bool.false_or,Bool.or_eq_true,decide_eq_true_eq,Bool.not_eq_true']
  by_cases h1:validM s lims h = true
  ·by_cases h2:c0x items h.t = true
   ·exact .inr h2
   ·by_cases h3:items.length < 400
    ·exact absurd ⟨h1,by simpa using h2,h3⟩ hc
    ·exact .inl (.inl (by omega))
  ·exact .inl (.inr (by simpa using h1))
theorem b1r (items:List Itm) (n:List Int) (h:∀ v ∈ n,InR v) (hn:n.length = 2 ∨ n.length = 3) {i:Nat} (hi:n.getD 1 0 = i) {x:Itm} (hx:items[i]? = some x) :
  a3o s lims items (a0t n) = (a8s s n x).map fun y=>items.set i y:=by
 unfold a3o
 rw [if_neg (c3p n hn),c3o n (by simp only [Len]; omega) h]
 rw [if_neg (by simp [d2b]; omega)]
 dsimp only
 rw [hi,if_neg (by omega)]
 simp only [Int.toNat_natCast,hx]
 cases a8s s n x <;> rfl
theorem a4d:∀ (a b:List a0f) (items:List Itm),a0s s lims items (a ++ b) = (a0s s lims items a).bind fun l=>a0s s lims l b
 | [],b,items=>rfl
 | r :: a,b,items=>by
  rw [List.cons_append,a0s,a0s]
  cases a3o s lims items r with
  | none=>rfl
  | some l=>exact a4d a b l
theorem b1s (items:List Itm) (r:a0f):a0s s lims items [r] = a3o s lims items r:=by
 rw [a0s]
 cases a3o s lims items r <;> rfl
structure Later (x y:Itm):Prop where
 held:y.held = x.held
 up:x.status ≤ y.status
 dare:x.status ≠ 0 → y.dare = x.dare ∧ y.lent = x.lent
 back:x.back = true → y.back = true
def LaterL (l m:List Itm):Prop:=∀ (i:Nat) (x:Itm),l[i]? = some x → ∃ y,m[i]? = some y ∧ Later x y
theorem Later.refl (x:Itm):Later x x:=⟨rfl,Int.le_refl _,fun _=>⟨rfl,rfl⟩,id⟩
theorem LaterL.refl (l:List Itm):LaterL l l:=fun _ x h=>⟨x,h,.refl x⟩
def Raw (l:List Itm):Prop:=∀ x ∈ l,x.status = 0 ∨ x.status = 1 ∨ x.status = 2
theorem Later.trans {x y z:Itm} (h:Later x y) (k:Later y z) (hx:0 ≤ x.status):Later x z:=
 ⟨k.held.trans h.held,Int.le_trans h.up k.up,fun hn=>by
  have hy:y.status ≠ 0:=by have:=h.up; omega
  exact ⟨(k.dare hy).1.trans (h.dare hn).1,(k.dare hy).2.trans (h.dare hn).2⟩,fun hb=>k.back (h.back hb)⟩
theorem d2c {n:List Int} {x y:Itm} (h:a8s s n x = some y):Later x y ∧ (y.status = x.status ∨ y.status = 1 ∨ y.status = 2):=by
 unfold a8s at h
 split at h
 ·split at h
  ·split at h
   ·rename_i _ hc
    simp only [Option.some.injEq] at h
    subst h
    simp only [Bool.and_eq_true,decide_eq_true_eq] at hc
    exact ⟨⟨rfl,by dsimp only; omega,fun hn=>absurd hc.1.1 hn,id⟩,.inr (.inl rfl)⟩
   ·cases h
  ·cases h
 ·split at h
  ·split at h
   ·rename_i hc
    simp only [Option.some.injEq] at h
    subst h
    exact ⟨⟨rfl,by dsimp only; omega,fun _=>⟨rfl,rfl⟩,id⟩,.inr (.inr rfl)⟩
   ·cases h
  ·split at h
   ·split at h
    ·simp only [Option.some.injEq] at h
     subst h
     exact ⟨⟨rfl,Int.le_refl _,fun _=>⟨rfl,rfl⟩,fun _=>rfl⟩,.inl rfl⟩
    ·cases h
   ·cases h
 ·cases h
def Fr (s:Stp) (x:Itm):Prop:=(x.status = 0 → x = a2q x.held) ∧ (x.status ≠ 0 → 1 ≤ x.dare ∧ x.dare < s.g.Q)
theorem f8t {n:List Int} {x y:Itm} (h:a8s s n x = some y) (hx:Fr s x):Fr s y:=by
 unfold a8s at h
 split at h
 ·split at h
  ·split at h
   ·rename_i _ hc
    simp only [Option.some.injEq] at h
    subst h
    simp only [Bool.and_eq_true,decide_eq_true_eq] at hc
    exact ⟨fun e=>absurd e (by simp),fun _=>⟨hc.1.2,hc.2⟩⟩
   ·cases h
  ·cases h
 ·split at h
  ·split at h
   ·rename_i hc
    simp only [Option.some.injEq] at h
    subst h
    exact ⟨fun e=>absurd e (by simp),fun _=>hx.2 (by rw [hc]; decide)⟩
   ·cases h
  ·split at h
   ·split at h
    ·rename_i hc
     simp only [Option.some.injEq] at h
     subst h
     have hn:x.status ≠ 0:=fun e=>by
      have:=hx.1 e
      rw [this] at hc
      simp [a2q] at hc
     exact ⟨fun e=>absurd e hn,fun _=>hx.2 hn⟩
    ·cases h
   ·cases h
 ·cases h
theorem a2f (h:Hld):Fr s (a2q h):=⟨fun _=>rfl,fun e=>absurd rfl e⟩
def g5e (l:List Itm):Prop:=∀ (i j:Nat) (x y:Itm),l[i]? = some x → l[j]? = some y → x.held.t = y.held.t → i = j
def h3p (s:Stp) (lims:List Lim) (l:List Itm):Prop:=∀ x ∈ l,validM s lims x.held = true
theorem d9n {l:List Itm} {i:Nat} {x y:Itm} (hx:l[i]? = some x) (h:Later x y):LaterL l (l.set i y):=by
 intro j z hz
 rw [List.getElem?_set]
 by_cases hj:i = j
 ·subst hj
  rw [hx] at hz
  cases hz
  have hl:i < l.length:=(List.getElem?_eq_some_iff.1 hx).1
  rw [if_pos rfl,if_pos hl]
  exact ⟨y,rfl,h⟩
 ·rw [if_neg hj]
  exact ⟨z,hz,.refl z⟩
theorem c3q (l:List Itm) (m:List Itm):LaterL l (l ++ m):=fun i x hx=>⟨x,by rw [List.getElem?_append_left (List.getElem?_eq_some_iff.1 hx).1]; exact hx,.refl x⟩
theorem LaterL.trans {l m n:List Itm} (h:LaterL l m) (k:LaterL m n) (hr:Raw l):LaterL l n:=by
 intro i x hx
 obtain ⟨y,hy,h1⟩:=h i x hx
 obtain ⟨z,hz,h2⟩:=k i y hy
 exact ⟨z,hz,h1.trans h2 (by rcases hr x (List.mem_of_getElem? hx) with e | e | e <;> omega)⟩
theorem e9g {l:List Itm} (h:g5e l) {i:Nat} {x y:Itm} (hx:l[i]? = some x) (hy:y.held = x.held):g5e (l.set i y):=by
 have key:∀ (j:Nat) (z:Itm),(l.set i y)[j]? = some z → ∃ w,l[j]? = some w ∧ w.held = z.held:=by
  intro j z hz
  rw [List.getElem?_set] at hz
  by_cases hj:i = j
  ·subst hj
   rw [if_pos rfl] at hz
   split at hz
   ·cases hz; exact ⟨x,hx,hy.symm⟩
   ·cases hz
  ·rw [if_neg hj] at hz
   exact ⟨z,hz,rfl⟩
 intro a b u v hu hv e
 obtain ⟨u',hu',eu⟩:=key a u hu
 obtain ⟨v',hv',ev⟩:=key b v hv
 exact h a b u' v' hu' hv' (by rw [eu,ev]; exact e)
theorem d2d {l:List Itm} {t:Tkt} (h:c0x l t = false):∀ x ∈ l,x.held.t ≠ t:=by
 intro x hx e
 have:c0x l t = true:=List.any_eq_true.2 ⟨x,hx,by simpa using e⟩
 rw [h] at this; cases this
theorem c6v {l:List Itm} (h:g5e l) {x:Itm} (hx:c0x l x.held.t = false):g5e (l ++ [x]):=by
 have hn:=d2d hx
 have key:∀ (j:Nat) (z:Itm),(l ++ [x])[j]? = some z → (l[j]? = some z ∧ j < l.length) ∨ (z = x ∧ j = l.length):=by
  intro j z hz
  rw [List.getElem?_append] at hz
  split at hz
  ·rename_i hj; exact .inl ⟨hz,hj⟩
  ·rename_i hj
   right
   have hj0:j - l.length = 0:=by
    rcases hk:j - l.length with _ | k
    ·rfl
    ·rw [hk] at hz; simp at hz
   rw [hj0] at hz
   simp only [List.getElem?_cons_zero,Option.some.injEq] at hz
   exact ⟨hz.symm,by omega⟩
 intro a b u v hu hv e
 rcases key a u hu with ⟨u1,u2⟩ | ⟨u1,u2⟩ <;> rcases key b v hv with ⟨v1,v2⟩ | ⟨v1,v2⟩
 ·exact h a b u v u1 v1 e
 ·subst v1; exact absurd e (hn u (List.mem_of_getElem? u1))
 ·subst u1; exact absurd e.symm (hn v (List.mem_of_getElem? v1))
 ·omega
structure GoodI (s:Stp) (lims:List Lim) (l:List Itm):Prop where
 raw:Raw l
 uniq:g5e l
 val:h3p s lims l
 fr:∀ x ∈ l,Fr s x
theorem a9u:GoodI s lims [] where
 raw x h:=by cases h
 uniq i j x y h:=by simp at h
 val x h:=by cases h
 fr x h:=by cases h
theorem c3r {l m:List Itm} {r:a0f} (g:GoodI s lims l) (h:a3o s lims l r = some m):GoodI s lims m ∧ LaterL l m:=by
 unfold a3o at h
 split at h
 ·unfold f8v at h
  generalize a4i (List.drop 2 r) = d at h
  split at h
  ·cases h
  ·rename_i hc
   simp only [Option.some.injEq] at h
   subst h
   simp only [Bool.or_eq_true,Bool.not_eq_true',decide_eq_true_eq,not_or,Bool.not_eq_false,Bool.not_eq_true] at hc
   refine ⟨⟨?_,c6v g.uniq hc.2,?_,?_⟩,c3q _ _⟩
   ·intro x hx
    rcases List.mem_append.1 hx with hx | hx
    ·exact g.raw x hx
    ·simp only [List.mem_singleton] at hx
     subst hx; exact .inl rfl
   ·intro x hx
    rcases List.mem_append.1 hx with hx | hx
    ·exact g.val x hx
    ·simp only [List.mem_singleton] at hx
     subst hx; exact hc.1.2
   ·intro x hx
    rcases List.mem_append.1 hx with hx | hx
    ·exact g.fr x hx
    ·simp only [List.mem_singleton] at hx
     subst hx; exact a2f _
 ·split at h
  ·cases h
  ·dsimp only at h
   split at h
   ·cases h
   ·split at h
    ·cases h
    ·rename_i x hx
     split at h
     ·cases h
     ·rename_i y hy
      simp only [Option.some.injEq] at h
      subst h
      obtain ⟨k1,k2⟩:=d2c hy
      have gx:=g.raw x (List.mem_of_getElem? hx)
      refine ⟨⟨?_,e9g g.uniq hx k1.held,?_,?_⟩,d9n hx k1⟩
      ·intro z hz
       rcases List.mem_or_eq_of_mem_set hz with hz | rfl
       ·exact g.raw z hz
       ·rcases k2 with e | e | e
        ·rw [e]; exact gx
        ·exact .inr (.inl e)
        ·exact .inr (.inr e)
      ·intro z hz
       rcases List.mem_or_eq_of_mem_set hz with hz | rfl
       ·exact g.val z hz
       ·rw [k1.held]; exact g.val x (List.mem_of_getElem? hx)
      ·intro z hz
       rcases List.mem_or_eq_of_mem_set hz with hz | rfl
       ·exact g.fr z hz
       ·exact f8t hy (g.fr x (List.mem_of_getElem? hx))
theorem a2z:∀ (rs:List a0f) {l m:List Itm},GoodI s lims l → a0s s lims l rs = some m → GoodI s lims m ∧ LaterL l m
 | [],l,m,g,h=>by
  rw [a0s,Option.some.injEq] at h
  subst h
  exact ⟨g,.refl _⟩
 | r :: rs,l,m,g,h=>by
  rw [a0s] at h
  split at h
  ·cases h
  ·rename_i k hk
   obtain ⟨g1,h1⟩:=c3r g hk
   obtain ⟨g2,h2⟩:=a2z rs g1 h
   exact ⟨g2,h1.trans h2 g.raw⟩
theorem a6u {a b:List a0f} (h:a <+: b) {m:List Itm} (hb:a0s s lims [] b = some m):∃ l,a0s s lims [] a = some l ∧ GoodI s lims l ∧ GoodI s lims m ∧ LaterL l m:=by
 obtain ⟨c,rfl⟩:=h
 rw [a4d] at hb
 rcases e:a0s s lims [] a with _ | l
 ·rw [e] at hb; cases hb
 ·rw [e] at hb
  obtain ⟨g1,_⟩:=a2z a a9u e
  obtain ⟨g2,h2⟩:=a2z c g1 hb
  exact ⟨l,rfl,g1,g2,h2⟩
end PuSpec
namespace PuSpec
open FdSpec TkSpec CodeSpec DkSpec JnSpec
structure Pst where
 j:Jn
 items:List Itm
def a5q (s:Stp) (lims:List Lim) (A:Ab):Option Pst × Int × Ab:=
 if !a1j s || !b8n lims then (none,1,A)
 else match openJ A 0 with
  | (none,e,B)=>(none,e,B)
  | (some j,_,B)=>match b8o s lims j.recs with
   | none=>(none,2,B)
   | some l=>(some ⟨j,l⟩,0,B)
def c0u (s:Stp) (lims:List Lim) (A:Ab) (p:Pst) (h:Hld):Int × Ab × Pst:=
 if a5s s lims p.items h ≠ 0 then (a5s s lims p.items h,A,p)
 else if (a0g A 0 p.j (a4e h)).1 ≠ 0 then ((a0g A 0 p.j (a4e h)).1,(a0g A 0 p.j (a4e h)).2.1,⟨(a0g A 0 p.j (a4e h)).2.2,p.items⟩)
 else (0,(a0g A 0 p.j (a4e h)).2.1,⟨(a0g A 0 p.j (a4e h)).2.2,p.items ++ [a2q h]⟩)
def a3y (A:Ab) (p:Pst) (i:Nat) (kind dare:Int):Int × Ab × Pst:=
 let a:=a0g A 0 p.j (a0t [kind,i,dare])
 if a.1 ≠ 0 then (a.1,a.2.1,⟨a.2.2,p.items⟩)
 else
  let b:=a5p a.2.1 0 a.2.2
  if b.1 ≠ 0 then (b.1,b.2.1,⟨b.2.2,p.items.modify i fun x=>{ x with dare:=dare,status:=3 }⟩)
  else (0,b.2.1,⟨b.2.2,p.items.modify i fun x=>{ x with dare:=dare,status:=1,lent:=decide (kind = 3) }⟩)
def a2l (s:Stp) (lims:List Lim) (A:Ab) (p:Pst) (limit now dare:Int):(Nat × Int) × Ab × Pst:=
 if (a0j lims p.items limit now).2 = 1 ∨ dare < 1 ∨ s.g.Q ≤ dare then ((0,1),A,p)
 else if (a0j lims p.items limit now).2 ≠ 0 then ((0,(a0j lims p.items limit now).2),A,p)
 else if (a3y A p (a0j lims p.items limit now).1 1 dare).1 ≠ 0 then ((0,(a3y A p (a0j lims p.items limit now).1 1 dare).1),(a3y A p (a0j lims p.items limit now).1 1 dare).2)
 else (((a0j lims p.items limit now).1,0),(a3y A p (a0j lims p.items limit now).1 1 dare).2)
def b2t (kind:Int) (x:Itm):Option Itm:=
 if kind = 2 ∧ x.status = 1 then some { x with status:=2 } else if kind = 4 ∧ x.lent = true ∧ x.back = false then some { x with back:=true } else none
def a6f (A:Ab) (p:Pst) (i kind:Int):Int × Ab × Pst:=
 if i < 0 then (4,A,p)
 else match p.items[i.toNat]? with
  | none=>(4,A,p)
  | some x=>match b2t kind x with
   | none=>(7,A,p)
   | some y=>
    let a:=a0g A 0 p.j (a0t [kind,i])
    if a.1 ≠ 0 then (a.1,a.2.1,⟨a.2.2,p.items⟩) else (0,a.2.1,⟨a.2.2,p.items.set i.toNat y⟩)
structure RelI (r x:Itm):Prop where
 held:x.held = r.held
 back:x.back = r.back
 rest:(x.status = r.status ∧ x.dare = r.dare ∧ x.lent = r.lent) ∨ (r.status = 1 ∧ x.status = 3 ∧ x.dare = r.dare ∧ (x.lent = true → r.lent = true))
def Match (l m:List Itm):Prop:=l.length = m.length ∧ ∀ (i:Nat) (r x:Itm),l[i]? = some r → m[i]? = some x → RelI r x
theorem RelI.refl (x:Itm):RelI x x:=⟨rfl,rfl,.inl ⟨rfl,rfl,rfl⟩⟩
theorem RelI.burn (x:Itm):RelI x (a5h x):=by
 unfold a5h
 split
 ·rename_i h; exact ⟨rfl,rfl,.inr ⟨h,rfl,rfl,id⟩⟩
 ·exact .refl x
theorem Match.burn (l:List Itm):Match l (l.map a5h):=by
 refine ⟨by simp,fun i r x hr hx=>?_⟩
 rw [List.getElem?_map,hr] at hx
 cases hx
 exact .burn r
theorem Match.get {l m:List Itm} (h:Match l m) {i:Nat} {x:Itm} (hx:m[i]? = some x):∃ r,l[i]? = some r ∧ RelI r x:=by
 have hi:i < l.length:=by rw [h.1]; exact (List.getElem?_eq_some_iff.1 hx).1
 exact ⟨l[i],List.getElem?_eq_getElem hi,h.2 i _ _ (List.getElem?_eq_getElem hi) hx⟩
theorem Match.set {l m:List Itm} (h:Match l m) (i:Nat) {r x:Itm} (k:RelI r x):Match (l.set i r) (m.set i x):=by
 refine ⟨by simp [h.1],fun j a b ha hb=>?_⟩
 rw [List.getElem?_set] at ha hb
 by_cases hj:i = j
 ·subst hj
  rw [if_pos rfl] at ha hb
  split at ha <;> split at hb
  ·cases ha; cases hb; exact k
  all_goals first | (cases hb; done) | (cases ha; done)
 ·rw [if_neg hj] at ha hb
  exact h.2 j a b ha hb
theorem Match.push {l m:List Itm} (h:Match l m) (x:Itm):Match (l ++ [x]) (m ++ [x]):=by
 refine ⟨by simp [h.1],fun j a b ha hb=>?_⟩
 rw [List.getElem?_append] at ha hb
 rw [h.1] at ha
 split at ha
 ·rename_i hj; rw [if_pos hj] at hb; exact h.2 j a b ha hb
 ·rename_i hj
  rw [if_neg hj,ha] at hb
  cases hb
  exact .refl _
theorem Match.has {l m:List Itm} (h:Match l m) (t:Tkt):c0x l t = c0x m t:=by
 rw [Bool.eq_iff_iff]
 simp only [c0x,List.any_eq_true,decide_eq_true_eq]
 constructor
 ·rintro ⟨r,hr,e⟩
  obtain ⟨i,hi⟩:=List.mem_iff_getElem?.1 hr
  have hl:i < m.length:=by rw [← h.1]; exact (List.getElem?_eq_some_iff.1 hi).1
  have k:=h.2 i r m[i] hi (List.getElem?_eq_getElem hl)
  exact ⟨m[i],List.getElem_mem hl,by rw [k.held]; exact e⟩
 ·rintro ⟨x,hx,e⟩
  obtain ⟨i,hi⟩:=List.mem_iff_getElem?.1 hx
  obtain ⟨r,hr,k⟩:=h.get hi
  exact ⟨r,List.mem_of_getElem? hr,by rw [← k.held]; exact e⟩
variable {s:Stp} {lims:List Lim}
structure Inv (s:Stp) (lims:List Lim) (A:Ab) (p:Pst) (all sure:List a0f):Prop where
 lj:LJ 0 A p.j all sure
 all:∃ ra,a0s s lims [] all = some ra
 live:∃ rj,a0s s lims [] p.j.recs = some rj ∧ Match rj p.items
 spent:∀ (i:Nat) (x:Itm),p.items[i]? = some x → x.status = 1 ∨ x.status = 2 →
  ∃ rs y,a0s s lims [] sure = some rs ∧ rs[i]? = some y ∧ y.held = x.held ∧ y.dare = x.dare ∧ (y.status = 1 ∨ y.status = 2)
theorem b6i:(0:Int) ≤ 0 ∧ (0:Int) ≤ 15:=by omega
theorem LJ.recs {A:Ab} {j:Jn} {all sure:List a0f} (h:LJ 0 A j all sure) (hb:j.broken = false):all = j.recs:=by
 rcases h with ⟨_,h⟩ | ⟨h,_⟩
 ·exact h.recs
 ·rw [hb] at h; cases h
theorem c9r {A:Ab} {all sure:List a0f} (hg:GoodJ 0 A all sure) (ha:∃ ra,a0s s lims [] all = some ra) :
  GoodJ 0 (a5q s lims A).2.2 all sure ∧
  (((a5q s lims A).1 = none ∧ (a5q s lims A).2.1 ≠ 0) ∨
   ∃ p,(a5q s lims A).1 = some p ∧ (a5q s lims A).2.1 = 0 ∧ a1j s = true ∧ b8n lims = true ∧ p.j.broken = false ∧ p.j.recs <+: all ∧ sure <+: p.j.recs ∧ Inv s lims (a5q s lims A).2.2 p p.j.recs p.j.recs ∧
    b8o s lims p.j.recs = some p.items):=by
 unfold a5q
 by_cases hv:a1j s = true ∧ b8n lims = true
 ·rw [if_neg (by simp [hv.1,hv.2])]
  have ho:=b5z hg b6i
  rcases e:openJ A 0 with ⟨_ | j,er,B⟩
  ·rw [e] at ho
   refine ⟨ho.1,.inl ⟨rfl,?_⟩⟩
   rcases ho.2 with h | ⟨j,h,_⟩
   ·rcases h.2 with h | h
    ·show er ≠ 0
     have:er = 8:=h
     omega
    ·show er ≠ 0
     have:er = 9:=h
     omega
   ·cases h
  ·rw [e] at ho
   rcases ho.2 with h | ⟨j',h,h0,h1,h2,h3,h4⟩
   ·cases h.1
   ·cases h
    dsimp only at h0 h4 ⊢
    obtain ⟨ra,hra⟩:=ha
    obtain ⟨l,hl,gl,_,_⟩:=a6u h2 hra
    have ho2:b8o s lims j.recs = some (l.map a5h):=by unfold b8o; rw [hl]; rfl
    rw [ho2]
    dsimp only
    refine ⟨ho.1,.inr ⟨_,rfl,rfl,hv.1,hv.2,h1,h2,h3,⟨.inl ⟨h1,h4⟩,⟨l,hl⟩,⟨l,hl,.burn l⟩,?_⟩,ho2⟩⟩
    intro i x hx hst
    rw [List.getElem?_map] at hx
    rcases hy:l[i]? with _ | y
    ·rw [hy] at hx; cases hx
    ·rw [hy] at hx
     cases hx
     refine ⟨l,y,hl,hy,?_⟩
     unfold a5h at hst ⊢
     split at hst
     ·exact absurd hst (by simp)
     ·rename_i hn
      rw [if_neg hn]
      exact ⟨rfl,rfl,hst⟩
 ·rw [if_pos (by
   simp only [Bool.or_eq_true,Bool.not_eq_true']
   by_cases h1:a1j s = true
   ·right
    by_cases h2:b8n lims = true
    ·exact absurd ⟨h1,h2⟩ hv
    ·simpa using h2
   ·left; simpa using h1)]
  exact ⟨hg,.inl ⟨rfl,show (1:Int) ≠ 0 by decide⟩⟩
theorem b3v {A:Ab} {p:Pst} {all sure:List a0f} (v:Inv s lims A p all sure) {t:a0f} {rj rj':List Itm} (hj:a0s s lims [] p.j.recs = some rj) (ht:a3o s lims rj t = some rj') :
  ((a0g A 0 p.j t).1 = 0 ∧ (a0g A 0 p.j t).2.2.recs = p.j.recs ++ [t] ∧ LJ 0 (a0g A 0 p.j t).2.1 (a0g A 0 p.j t).2.2 (all ++ [t]) sure ∧
   a0s s lims [] (p.j.recs ++ [t]) = some rj' ∧ a0s s lims [] (all ++ [t]) = some rj') ∨
  ((a0g A 0 p.j t).1 ≠ 0 ∧ ∃ all',all <+: all' ∧ Inv s lims (a0g A 0 p.j t).2.1 ⟨(a0g A 0 p.j t).2.2,p.items⟩ all' sure):=by
 have hr:a0s s lims [] (p.j.recs ++ [t]) = some rj':=by
  rw [a4d,hj,Option.bind_some,b1s,ht]
 have hall:p.j.broken = false → a0s s lims [] (all ++ [t]) = some rj':=fun hb=>by rw [LJ.recs v.lj hb]; exact hr
 rcases b6a v.lj b6i t with ⟨a1,a2,a3⟩ | ⟨a1,a2,a3⟩ | ⟨a1,a2,a3⟩
 ·have hb:p.j.broken = false:=by
   cases hb:p.j.broken with
   | false=>rfl
   | true=>
    unfold a0g at a1
    rw [if_pos hb] at a1
    cases a1
  exact .inl ⟨a1,a2,a3,hr,hall hb⟩
 ·have hb:p.j.broken = false:=by
   cases hb:p.j.broken with
   | false=>rfl
   | true=>
    unfold a0g at a1
    rw [if_pos hb] at a1
    cases a1
  refine .inr ⟨by rw [a1]; decide,all ++ [t],List.prefix_append _ _,⟨a3,⟨rj',hall hb⟩,?_,v.spent⟩⟩
  obtain ⟨r,h1,h2⟩:=v.live
  exact ⟨r,by dsimp only; rw [a2]; exact h1,h2⟩
 ·refine .inr ⟨by rcases a1 with e | e | e <;> rw [e] <;> decide,all,List.prefix_refl _,⟨a3,v.all,?_,v.spent⟩⟩
  obtain ⟨r,h1,h2⟩:=v.live
  exact ⟨r,by dsimp only; rw [a2]; exact h1,h2⟩
end PuSpec
namespace Go.Proofs
open Go Go.Sh Go.RowKit FdSpec TkSpec CodeSpec PuSpec DkSpec JnSpec
section
variable {K:VK} {w w' w0 W W':World} {L:List (Addr × Value)}
structure Ph where
 b:Nat
 h:Dk
 q:Nat
 u:Value
 pb:Nat
 iv:Value
 lv:Value
 bv:Value
 x:Nat → Prop:=fun _=>False
def Mu (p:Ph) (i:Nat):Prop:=Own p.b p.h i ∨ Rdb p.h i ∨ JO p.q p.u i ∨ i = p.pb ∨ p.iv.ownBlock = some i
def Im (p:Ph) (W:World) (i:Nat):Prop:=i < W.heap.size ∧ ¬ Mu p i ∧ ¬ p.x i
@[reducible] def puC (s:Stp) (p:Ph):List Value:=[.int .i64 s.g.P,.int .i64 s.g.Q,.int .i64 s.g.G,p.bv,.int .i64 s.blind,p.lv,p.iv,jnP p.q]
structure StR (s:Stp) (lims:List Lim) (W:World) (p:Ph) (items:List Itm):Prop where
 pur:Holds W p.pb 136 (puC s p)
 itm:GRow 18 67 c5e 0 (Im p W) W p.iv items
 rd:FP (Im p W) W (fun W=>SetR W s p.bv ∧ c5d W p.lv lims)
 cnt:items.length ≤ 400
 sp:¬ Own p.b p.h p.pb ∧ ¬ Rdb p.h p.pb ∧ ¬ JO p.q p.u p.pb
 si:∀ i,p.iv.ownBlock = some i → ¬ Own p.b p.h i ∧ ¬ Rdb p.h i ∧ ¬ JO p.q p.u i ∧ i ≠ p.pb
 xl:∀ i,p.x i → i < W.heap.size
theorem StR.set {s:Stp} {lims:List Lim} {p:Ph} {items:List Itm} (h:StR s lims W p items):SetR W s p.bv:=h.rd.here.1
theorem StR.lim {s:Stp} {lims:List Lim} {p:Ph} {items:List Itm} (h:StR s lims W p items):c5d W p.lv lims:=h.rd.here.2
theorem StR.items {s:Stp} {lims:List Lim} {p:Ph} {items:List Itm} (h:StR s lims W p items):SRow 18 (b3o 18 c5e) W p.iv items:=h.itm.srow (by omega) (by have:=h.cnt; omega)
theorem e2r (h:DbT w):FP (fun i=>i < 8) w DbT:=fun w' _ _ _ hs e=>⟨lL h.1 hs,fun j hj=>by rw [World.cell?_of_block (show w'.heap[4]? = w.heap[4]? from e _ (by decide))]; exact h.2 j hj⟩
structure PuR (s:Stp) (lims:List Lim) (w0 W:World) (p:Ph) (A:Ab) (P:Pst):Prop where
 sys:Sys W p.b A p.h
 jn:IsJn W p.b p.h p.q 0 P.j p.u
 st:StR s lims W p P.items
 yg:∀ i,Mu p i → w0.heap.size ≤ i
 bl:Bw w0 W
 low:8 ≤ w0.heap.size
structure PuSt (p:Ph) (W:World) (p':Ph) (W':World):Prop where
 fr:Fr (Mu p) W W'
 mu:∀ i,Mu p' i → Mu p i ∨ W.heap.size ≤ i
 x:p'.x = p.x
theorem PuSt.refl (p:Ph) (W:World):PuSt p W p W:=⟨Fr.refl _ _,fun _ h=>.inl h,rfl⟩
theorem PuSt.trans {p p1 p2:Ph} {W1 W2:World} (a:PuSt p W p1 W1) (b:PuSt p1 W1 p2 W2):PuSt p W p2 W2:=
 ⟨a.fr.trans b.fr a.mu,fun i hi=>(b.mu i hi).elim (a.mu i) (fun h=>.inr (Nat.le_trans a.fr.size h)),b.x.trans a.x⟩
structure PuIt (p:Ph) (W:World) (p':Ph) (W':World):Prop where
 fr:Fr (fun i=>i = p.pb ∨ p.iv.ownBlock = some i) W W'
 iv:∀ i,p'.iv.ownBlock = some i → p.iv.ownBlock = some i ∨ W.heap.size ≤ i
 eq:p' = { p with iv:=p'.iv }
theorem PuIt.below {p:Ph} (hb:Bw W W'):PuIt p W p W':=⟨⟨hb.os,hb.tape,hb.output,hb.size,fun i hi _=>hb.block i hi⟩,fun _ h=>.inl h,rfl⟩
theorem PuIt.refl (p:Ph) (W:World):PuIt p W p W:=⟨Fr.refl _ _,fun _ h=>.inl h,rfl⟩
theorem PuIt.trans {p p1 p2:Ph} {W1 W2:World} (a:PuIt p W p1 W1) (b:PuIt p1 W1 p2 W2):PuIt p W p2 W2:=by
 obtain ⟨a1,a2,a3⟩:=a
 obtain ⟨b1,b2,b3⟩:=b
 rw [a3] at b1 b2 b3
 exact ⟨a1.trans b1 (fun i hi=>hi.elim (fun h=>.inl (.inl h)) (fun h=>(a2 i h).imp .inr id)),fun i hi=>(b2 i hi).elim (a2 i) (fun h=>.inr (Nat.le_trans a1.size h)),b3⟩
theorem PuIt.st {p p':Ph} (t:PuIt p W p' W'):PuSt p W p' W':=by
 obtain ⟨a,c,e⟩:=t
 refine ⟨a.mono (fun i _ hi=>hi.elim (fun h=>.inr (.inr (.inr (.inl h)))) (fun h=>.inr (.inr (.inr (.inr h))))),fun i hi=>?_,by rw [e]⟩
 rw [e] at hi
 rcases hi with hi | hi | hi | hi | hi
 ·exact .inl (.inl hi)
 ·exact .inl (.inr (.inl hi))
 ·exact .inl (.inr (.inr (.inl hi)))
 ·exact .inl (.inr (.inr (.inr (.inl hi))))
 ·exact (c i hi).imp (fun h=>.inr (.inr (.inr (.inr h)))) id
theorem Im.mono {p p':Ph} (hs:W.heap.size ≤ W'.heap.size) (hm:∀ i,Mu p' i → Mu p i ∨ W.heap.size ≤ i) (hx:p'.x = p.x):∀ i,Im p W i → Im p' W' i:=fun i hi=>⟨lL hi.1 hs,fun h=>(hm i h).elim hi.2.1 (fun h2=>by have:=hi.1; omega),by rw [hx]; exact hi.2.2⟩
theorem c2c {p p':Ph} {f:WK} (h:FP (Im p W) W f) (t:PuSt p W p' W'):FP (Im p' W') W' f:=(h.fr t.fr (fun i hi=>⟨hi.1,hi.2.1⟩)).mono (Im.mono t.fr.size t.mu t.x)
theorem PuSt.below {p:Ph} (hb:Bw W W'):PuSt p W p W':=⟨⟨hb.os,hb.tape,hb.output,hb.size,fun i hi _=>hb.block i hi⟩,fun _ h=>.inl h,rfl⟩
theorem StR.keep {s:Stp} {lims:List Lim} {p p':Ph} {items:List Itm} {S:Nat → Prop} (h:StR s lims W p items) (hf:Fr S W W') (hS:∀ i,S i → Mu p i ∧ i ≠ p.pb ∧ p.iv.ownBlock ≠ some i)
  (hm:∀ i,Mu p' i → Mu p i ∨ W.heap.size ≤ i) (e:p'.pb = p.pb ∧ p'.iv = p.iv ∧ p'.lv = p.lv ∧ p'.bv = p.bv ∧ p'.q = p.q ∧ p'.x = p.x) (hsp:∀ i,Own p'.b p'.h i ∨ Rdb p'.h i ∨ JO p'.q p'.u i → Own p.b p.h i ∨ Rdb p.h i ∨ JO p.q p.u i ∨ W.heap.size ≤ i):StR s lims W' p' items:=by
 obtain ⟨e1,e2,e3,e4,e5,e6⟩:=e
 have t:PuSt p W p' W':=⟨hf.mono (fun i _ hi=>(hS i hi).1),hm,e6⟩
 have hlt:=h.pur.lt
 have no:∀ i,i < W.heap.size → ¬ Own p.b p.h i → ¬ Rdb p.h i → ¬ JO p.q p.u i → ¬ Own p'.b p'.h i ∧ ¬ Rdb p'.h i ∧ ¬ JO p'.q p'.u i:=fun i hl a b c=>by
  have key:∀ h:Own p'.b p'.h i ∨ Rdb p'.h i ∨ JO p'.q p'.u i,False:=fun h=>by
   rcases hsp i h with h | h | h | h
   ·exact a h
   ·exact b h
   ·exact c h
   ·omega
  exact ⟨fun h=>key (.inl h),fun h=>key (.inr (.inl h)),fun h=>key (.inr (.inr h))⟩
 refine ⟨?_,?_,?_,h.cnt,?_,?_,by rw [e6]; exact fun i hi=>lL (h.xl i hi) hf.size⟩
 ·have:puC s p' = puC s p:=by simp only [puC,e2,e3,e4,e5]
  rw [this,e1]
  exact (hf.block p.pb hlt (fun hs=>(hS _ hs).2.1 rfl)).trans h.pur
 ·rw [e2]
  exact (h.itm.keep hf (fun i hi=>⟨hi.1,fun hs=>hi.2.1 (hS i hs).1⟩) (fun i hi hs=>(hS i hs).2.2 hi)).mono (Im.mono hf.size hm e6)
 ·rw [e3,e4]
  exact c2c h.rd t
 ·rw [e1]
  exact no _ hlt h.sp.1 h.sp.2.1 h.sp.2.2
 ·rw [e2,e1]
  intro i hi
  have h1:=h.si i hi
  have h2:=no i (h.itm.own hi).1 h1.1 h1.2.1 h1.2.2.1
  exact ⟨h2.1,h2.2.1,h2.2.2,h1.2.2.2⟩
theorem StR.next {s:Stp} {lims:List Lim} {p:Ph} {items:List Itm} (h:StR s lims W p items) (hb:Bw W W'):StR s lims W' p items:=
 h.keep (S:=fun _=>False) ⟨hb.os,hb.tape,hb.output,hb.size,fun i hi _=>hb.block i hi⟩ (fun _ h=>h.elim) (fun _ h=>.inl h) ⟨rfl,rfl,rfl,rfl,rfl,rfl⟩ (fun i h=>by rcases h with h | h | h; exact .inl h; exact .inr (.inl h); exact .inr (.inr (.inl h)))
theorem PuR.next {s:Stp} {lims:List Lim} {p:Ph} {A:Ab} {P:Pst} (h:PuR s lims w0 W p A P) (hb:Bw W W'):PuR s lims w0 W' p A P:=
 ⟨h.sys.below hb,h.jn.below hb,h.st.next hb,h.yg,h.bl.trans (hb.mono h.bl.size),h.low⟩
theorem PuR.jour {s:Stp} {lims:List Lim} {p:Ph} {A A':Ab} {P:Pst} {j':Jn} {h':Dk} {u':Value} (h:PuR s lims w0 W p A P) (s':Sys W' p.b A' h') (jn':IsJn W' p.b h' p.q 0 j' u') (t:JSt W p.b p.h p.q p.u W' h' u') :
  PuR s lims w0 W' { p with h:=h',u:=u' } A' ⟨j',P.items⟩ ∧ PuSt p W { p with h:=h',u:=u' } W':=by
 have hz:=h.bl.size
 have hm:∀ i,Mu { p with h:=h',u:=u' } i → Mu p i ∨ W.heap.size ≤ i:=by
  rintro i (hi | hi | hi | hi | hi)
  ·exact (t.own i hi).imp .inl id
  ·exact (t.rd i hi).imp (fun h=>.inr (.inl h)) id
  ·exact (t.jo i hi).imp (fun h=>.inr (.inr (.inl h))) id
  ·exact .inl (.inr (.inr (.inr (.inl hi))))
  ·exact .inl (.inr (.inr (.inr (.inr hi))))
 have hst:StR s lims W' { p with h:=h',u:=u' } P.items:=h.st.keep t.fr (fun i hi=>by
  rcases hi with hi | hi
  ·exact ⟨.inl hi,fun e=>h.st.sp.1 (e ▸ hi),fun e=>(h.st.si i e).1 hi⟩
  ·exact ⟨.inr (.inr (.inl hi)),fun e=>h.st.sp.2.2 (e ▸ hi),fun e=>(h.st.si i e).2.2.1 hi⟩) hm ⟨rfl,rfl,rfl,rfl,rfl,rfl⟩ (fun i hi=>by
  rcases hi with hi | hi | hi
  ·exact (t.own i hi).imp id (fun h=>.inr (.inr h))
  ·exact (t.rd i hi).elim (fun h=>.inr (.inl h)) (fun h=>.inr (.inr (.inr h)))
  ·exact (t.jo i hi).elim (fun h=>.inr (.inr (.inl h))) (fun h=>.inr (.inr (.inr h))))
 have fr:Fr (Mu p) W W':=t.fr.mono (fun i _ hi=>by rcases hi with hi | hi; exact .inl hi; exact .inr (.inr (.inl hi)))
 refine ⟨⟨s',jn',hst,fun i hi=>(hm i hi).elim (h.yg i) (fun h=>by omega),h.bl.trans ⟨fr.os,fr.tape,fr.output,fr.size,fun i hi=>fr.block i (by omega) (fun hx=>by have:=h.yg i hx; omega)⟩,h.low⟩,fr,hm,rfl⟩
end
end Go.Proofs
namespace Go.Proofs
open Go Go.Sh Go.RowKit FdSpec TkSpec CodeSpec PuSpec
section
variable {α β:Type} {n:Nat} {e:TypeId} {V:World → List Value → α → Prop} {w w' W:World} {v:Value} {l:List α} {mk:β → List Value} {B:Nat} {D E:Nat → Prop} {ys:List β}
theorem c2d (hm:∀ y,(mk y).length = n) (h:w.ownsRow B e n v ys.length (a2g mk ys)):GRow n e (fun _ c y=>c = mk y) B (fun _=>False) w v ys:=by
 refine ⟨ys.map (fun y=>⟨mk y,hm y⟩),?_,fun W _ _ _ _ _=>⟨by simp,fun i c x hc hx=>?_⟩⟩
 ·have e1:a2g Cl.cs (ys.map (fun y=>(⟨mk y,hm y⟩:Cl n))) = a2g mk ys:=by
   unfold a2g
   rw [List.flatMap_map]
   rfl
  rw [e1]
  exact h
 ·rw [List.getElem?_map,hx] at hc
  simp at hc
  rw [← hc]
theorem GRow.conv {f:β → α} (h:GRow n e (fun _ c y=>c = mk y) B D w v ys) (hE:FP E w (fun W=>∀ y ∈ ys,V W (mk y) (f y))):GRow n e V B E w v (ys.map f):=by
 obtain ⟨cs,h1,h2⟩:=h.ex
 refine ⟨cs,by rw [List.length_map]; exact h1,hE.imp fun W hW=>?_⟩
 obtain ⟨a,b⟩:=h2.here
 refine ⟨by simpa using a,fun i c x hc hx=>?_⟩
 rw [List.getElem?_map,Option.map_eq_some_iff] at hx
 obtain ⟨y,hy,rfl⟩:=hx
 rw [b i c y hc hy]
 exact hW y (List.mem_of_getElem? hy)
theorem c5i {f:β → α} {Q:World → β → Prop} (hm:∀ y,(mk y).length = n) (hp:∀ c x,V w c x → ∃ y,c = mk y ∧ f y = x ∧ Q w y) {b:Nat} (hb:b < w.heap.size):∀ (l:List α) (o:Nat),(∀ (i:Nat) (h:i < l.length),b3o n V w b (o + i * n) l[i]) →
  ∃ ys:List β,ys.map f = l ∧ (∀ y ∈ ys,Q w y) ∧ ∀ (k:Nat) (x:Value),(a2g mk ys)[k]? = some x → w.cell? ⟨b,o + k,none⟩ = some x
 | [],o,_=>⟨[],rfl,(fun _ h=>by cases h),(fun k x h=>by simp [a2g] at h)⟩
 | a :: l,o,h=>by
  obtain ⟨c1,hc1,hc2,hc3⟩:=h 0 (by simp)
  obtain ⟨y,rfl,hy2,hy3⟩:=hp c1 a hc3
  obtain ⟨ys,h1,h2,h3⟩:=c5i (f:=f) (Q:=Q) hm hp hb l (o + n) (fun i hi=>by
   have:=h (i + 1) (by simp; omega)
   rw [Nat.succ_mul] at this
   rw [show o + n + i * n = o + (i * n + n) by omega]
   exact this)
  refine ⟨y :: ys,by simp [hy2,h1],fun z hz=>?_,fun k x hk=>?_⟩
  ·rcases List.mem_cons.1 hz with rfl | hz
   ·exact hy3
   ·exact h2 z hz
  ·rw [b0c] at hk
   by_cases hkn:k < n
   ·rw [List.getElem?_append_left (by rw [hm]; omega)] at hk
    have:=hc2 k x hk
    rwa [Nat.zero_mul,Nat.add_zero] at this
   ·rw [List.getElem?_append_right (by rw [hm]; omega),hm] at hk
    have:=h3 (k - n) x hk
    rwa [show o + n + (k - n) = o + k by omega] at this
theorem SRow.rowR {f:β → α} {Q:World → β → Prop} {a:Addr} {m c:Nat} (hm:∀ y,(mk y).length = n) (hp:∀ c x,V w c x → ∃ y,c = mk y ∧ f y = x ∧ Q w y) (h:SRow n (b3o n V) w (.slice (some a) m c) l) :
  ∃ ys:List β,ys.map f = l ∧ (∀ y ∈ ys,Q w y) ∧ RowR mk n w (.slice (some a) m c) ys:=by
 obtain ⟨⟨ad,c',hv,hr⟩,_⟩:=h
 cases hv
 rcases hr with rfl | ⟨b,o,hbo,hlt,hc⟩
 ·exact ⟨[],rfl,(fun _ h=>by cases h),_,_,rfl,(fun h=>by cases h),.inl rfl⟩
 ·obtain ⟨ys,h1,h2,h3⟩:=c5i (f:=f) (Q:=Q) hm hp hlt l o hc
  refine ⟨ys,h1,h2,_,_,by rw [← h1,List.length_map],(fun h=>by cases h),.inr ⟨b,o,hbo,hlt,h3⟩⟩
end
abbrev LkP:=Lnk × (Option Addr × Nat × Nat)
@[reducible] def g7m (y:LkP):Value:=.slice y.2.1 y.2.2.1 y.2.2.2
@[reducible] def f7g (y:LkP):List Value:=lkC y.1 (g7m y)
section
variable {K:VK} {w w' w0 W W':World} {L:List (Addr × Value)} {rb b:Nat}
theorem f2a (c:List Value) (x:Lnk) (h:d0w w c x):∃ y:LkP,c = f7g y ∧ y.1 = x ∧ (Ints w (g7m y) y.1.spend.answers ∧ WLnk y.1):=by
 obtain ⟨av,rfl,h1,h2⟩:=h
 obtain ⟨ad,c,rfl⟩:=h1.isSlice
 exact ⟨(x,ad,_,c),rfl,rfl,h1,h2⟩
def LkRow (w:World) (v:Value) (ys:List LkP):Prop:=(∃ c,v = .slice none ys.length c ∧ ys = []) ∨ ∃ a c,v = .slice (some a) ys.length c ∧ RowR f7g 9 w v ys
theorem f2b {v:Value} {l:List Lnk} (hr:b4z w v l):∃ ys,ys.map (fun y:LkP=>y.1) = l ∧ (∀ y ∈ ys,Ints w (g7m y) y.1.spend.answers ∧ WLnk y.1) ∧ LkRow w v ys:=by
 obtain ⟨ad,c,rfl⟩:=hr.isSlice
 cases ad with
 | none=>
  have:l = []:=by
   obtain ⟨⟨a',c',hv,h⟩,_⟩:=hr
   cases hv
   rcases h with h | ⟨b,o,hb,_⟩
   ·exact h
   ·cases hb
  subst this
  exact ⟨[],rfl,(fun _ h=>by cases h),.inl ⟨c,rfl,rfl⟩⟩
 | some a=>
  obtain ⟨ys,rfl,hq,hi⟩:=hr.rowR (mk:=f7g) (f:=fun y:LkP=>y.1) (Q:=fun w y=>Ints w (g7m y) y.1.spend.answers ∧ WLnk y.1) (fun _=>rfl) (fun c x h=>f2a c x h)
  exact ⟨ys,rfl,hq,.inr ⟨a,c,by rw [List.length_map],hi⟩⟩
theorem LkRow.next {v:Value} {ys:List LkP} (h:LkRow w v ys) (hb:Bw w w'):LkRow w' v ys:=h.imp id (fun ⟨a,c,e,h⟩=>⟨a,c,e,h.keep hb.size (fun i _ hi=>hb.block i hi)⟩)
theorem c8h {v:Value} {ys:List LkP} (hr:LkRow w v ys) (hl:ys.length < 1000) (k:∀ v' w',GRow 9 86 (fun _ c y=>c = f7g y) w.heap.size (fun _=>False) w' v' ys → Bw w w' → K v' w'):a0a Tryz.prog 120 #[v] K w:=by
 apply d6r
 unfold f4w
 rcases hr with ⟨c,rfl,rfl⟩ | ⟨a,c,rfl,hi⟩
 ·refine b3i (e:=86) (by kernel_rfl) ?_
  simp only [Option.isNone_none]
  refine Xa0 ?_
  exact k _ _ .nil (bR)
 ·refine b3i (e:=86) (by kernel_rfl) ?_
  simp only [Option.isNone_some]
  refine Xa0 ?_
  have hr2:RowR f7g 9 (w.alloc (.cells #[] 86)) _ ys:=hi.keep (by rw [a0q]; omega) (fun i _ hi=>heap_alloc_old _ _ hi)
  refine b3f 27 27 86 ((Tryz.prog.info? 86).getD default) (.agg lnkZ.toArray) 9 96 (by kernel_rfl) (by kernel_rfl) (by kernel_rfl) (by kernel_rfl) (by kernel_rfl) (by kernel_rfl) (by omega) (fun _=>rfl) (fun x=>b4i _ _ _ _) hr2 (World.ownsRow_lit w #[] 0 (Nat.zero_le _) (Nat.zero_le _) rfl) (B:=w.heap.size) (by rw [a0q]; omega) (fun i hi=>by cases hi; exact rL) (by omega) (by omega) ?_
  intro v' w' ho hg hv
  refine k v' w' (c2d (fun _=>rfl) (a7w ho hv)) ?_
  exact a0k ((Below.refl _ w).alloc (rL) _) hg (rL)
end
end Go.Proofs
namespace Go.Proofs
open Go Go.Sh Go.RowKit FdSpec TkSpec CodeSpec PuSpec
section
variable {K:VK} {w w' w0 W W':World} {L:List (Addr × Value)} {rb b:Nat}
theorem b3n {B:Nat} {v:Value} {l:List Int} (h:OwnI w B v l) (hb:Bw w w'):OwnI w' B v l:=a0r h (fun i hi=>hb.block i (a0p h hi).1)
theorem _root_.Go.Sh.GRow.base {α:Type} {n:Nat} {e:TypeId} {V:World → List Value → α → Prop} {B C:Nat} {D:Nat → Prop} {v:Value} {l:List α} (h:GRow n e V B D w v l) (hC:C ≤ B):GRow n e V C D w v l:=by
 obtain ⟨cs,h1,h2⟩:=h.ex
 exact ⟨cs,a4v h1 hC,h2⟩
theorem _root_.Go.Sh.GRow.typ {α:Type} {n:Nat} {e:TypeId} {V:World → List Value → α → Prop} {B:Nat} {D:Nat → Prop} {v:Value} {l:List α} (h:GRow n e V B D w v l) {i:Nat} (hi:v.ownBlock = some i):∃ cur,w.heap[i]? = some (.cells cur e (0,0)):=by
 obtain ⟨cs,h1,h2⟩:=h.ex
 exact (a0p h1 hi).2.2
def GLk (B:Nat) (w:World) (v:Value) (ys:List LkP):Prop:=GRow 9 86 (fun _ c y=>c = f7g y) B (fun _=>False) w v ys
theorem c5k (h:Hld) {av yv kv:Value} (hh:HldR w h av yv kv) (ha:h.attrs.length < 1099511627776) (hy:h.bl.ys.length < 1099511627776) (hk:h.links.length < 1000) (hx:∀ x ∈ h.links,x.spend.answers.length < 1099511627776)
  (k:∀ w' av yv kv,Bw w w' → Fresh w w' (fun W=>HldR W h av yv kv) → GRow 9 86 d0w w.heap.size (fun j=>w.heap.size ≤ j ∧ j < w'.heap.size ∧ kv.ownBlock ≠ some j) w' kv h.links → K (d3g h av yv kv) w'):a0a Tryz.prog 71 #[d3g h av yv kv] K w:=by
 apply e6s
 unfold g3k
 obtain ⟨a1,c1,rfl⟩:=hh.attrs.isSlice
 obtain ⟨a2,c2,rfl⟩:=hh.ys.isSlice
 obtain ⟨ys,he,hq,hR⟩:=f2b hh.links
 have hyl:ys.length = h.links.length:=by rw [← he,List.length_map]
 obtain ⟨a3,c3,rfl⟩:=hh.links.isSlice
 refine a3f (cs:=b7y h (.slice a1 h.attrs.length c1) (.slice a2 h.bl.ys.length c2) (.slice a3 h.links.length c3)) rfl (fun b1 w1 h1 hb1 hB=>?_)
 refine a0i b3l (fun g2 w2 h2 hg2 hG=>?_)
 have hlt1:b1 < g2:=lL hB.lt hg2
 have hB:=(hB.next h2).next (.drawn (B:=w2.heap.size))
 have hG:=hG.next (.drawn (B:=w2.heap.size))
 have h03:=(h1.on h2).on (.drawn (B:=w2.heap.size))
 refine ⟨Nx { w2 with drawn:=w2.drawn + 1 },bR,rfl,?_⟩
 generalize ({ w2 with drawn:=w2.drawn + 1 }:World) = W3 at hB hG h03 ⊢
 have hlW3:=hB.lt
 have hgW3:=hG.lt
 refine Xc (fun W0 hW0=>(hB.next hW0).are) ?_
 refine ⟨Nx,?_⟩
 refine a7x (fun v w'=>OwnI w' W3.heap.size v h.attrs) (fun v w w1 hS h=>b3n h hS) ?_ ?_
 ·intro w4 h4
  exact b3j (hh.attrs.next (h03.on h4)) ha (fun v' w5 ho h5 hv=>⟨h4.on h5,h5,a7w ho (fun i hi=>Nat.le_trans h4.size (hv i hi))⟩)
 refine a7x (fun v w'=>OwnI w' W3.heap.size v h.bl.ys) (fun v w w1 hS h=>b3n h hS) ?_ ?_
 ·intro w4 h4
  exact b3j (hh.ys.next (h03.on h4)) hy (fun v' w5 ho h5 hv=>⟨h4.on h5,h5,a7w ho (fun i hi=>Nat.le_trans h4.size (hv i hi))⟩)
 refine a7x (fun v w'=>GLk W3.heap.size w' v ys) (fun v w w1 hS h=>GRow.next h hS (fun _ h=>h.elim)) ?_ ?_
 ·intro w4 h4
  exact c8h (hR.next (h03.on h4)) (by omega) (fun v' w5 hG h5=>⟨h4.on h5,h5,hG.base h4.size⟩)
 refine Xd0 ?_
 rintro w9 h9 v1 o1 v2 o2 v3 hGk _ rfl
 have hB:=hB.next h9
 have hG:=hG.next h9
 have hs9:=h9.size
 have hbl:=h03.size
 have hb3:=h9.size
 obtain ⟨d1,e1,rfl⟩:∃ ad c,v1 = .slice ad h.attrs.length c:=a1v o1
 obtain ⟨d2,e2,rfl⟩:∃ ad c,v2 = .slice ad h.bl.ys.length c:=a1v o2
 obtain ⟨d3,e3,rfl⟩:∃ ad c,v3 = .slice ad ys.length c:=GRow.isSlice hGk
 rw [hyl] at hGk ⊢
 have hdis1:∀ i,(Value.slice d3 h.links.length e3).ownBlock = some i → Value.inBlock (.slice d1 h.attrs.length e1) = some i → False:=fun i a b=>by
  obtain ⟨_,t1⟩:=GRow.typ hGk a
  obtain ⟨_,_,_,t2⟩:=a0p o1 (b0j o1 b)
  rw [t1] at t2
  cases t2
 have hdis2:∀ i,(Value.slice d3 h.links.length e3).ownBlock = some i → Value.inBlock (.slice d2 h.bl.ys.length e2) = some i → False:=fun i a b=>by
  obtain ⟨_,t1⟩:=GRow.typ hGk a
  obtain ⟨_,_,_,t2⟩:=a0p o2 (b0j o2 b)
  rw [t1] at t2
  cases t2
 have p1:=(o1.ints (fun x hx=>a1h (hh.wf.attrs x hx)) hh.attrs.len).fp
 have p2:=(o2.ints (fun x hx=>a1h (hh.wf.ys x hx)) hh.ys.len).fp
 have q1:∀ i,Value.inBlock (.slice d1 h.attrs.length e1) = some i → W3.heap.size ≤ i:=fun i hi=>(a0p o1 (b0j o1 hi)).2.1
 have q2:∀ i,Value.inBlock (.slice d2 h.bl.ys.length e2) = some i → W3.heap.size ≤ i:=fun i hi=>(a0p o2 (b0j o2 hi)).2.1
 refine a3g (i:=2) b4g rfl rfl hB (by simp) (fun w10 hg10 hB=>?_)
 simp only [List.set_cons_succ,List.set_cons_zero] at hB
 refine Xa0 ?_
 refine a3g (i:=6) b4g rfl rfl hB (by simp) (fun w11 hg11 hB=>?_)
 simp only [List.set_cons_succ,List.set_cons_zero] at hB
 refine Xa0 ?_
 refine a3g (i:=13) e2j rfl rfl hB (by simp) (fun w12 hg12 hB=>?_)
 simp only [List.set_cons_succ,List.set_cons_zero] at hB
 have f12:Fr (fun i=>i = b1) w9 w12:=((Fr.of_by hg10).trans (Fr.of_by hg11) (fun i hi=>.inl hi)).trans (Fr.of_by hg12) (fun i hi=>.inl hi)
 have c12:=hB.are
 refine Xa @c12 ?_
 have h12s:=f12.size
 have hb12:∀ i,i < w.heap.size → w12.heap[i]? = w.heap[i]?:=fun i hi=>(f12.block i (by omega) (by omega)).trans ((h9.block i (by omega)).trans (h03.block i hi))
 have hb012:Bw w w12:=⟨f12.os.trans (h9.os.trans h03.os),f12.tape.trans (h9.tape.trans h03.tape),f12.output.trans (h9.output.trans h03.output),by omega,hb12⟩
 have hB1:=hB.lt
 have hg3:∀ i,(Value.slice d3 h.links.length e3).ownBlock = some i → W3.heap.size ≤ i ∧ i < w12.heap.size:=fun i hi=>by have:=GRow.own hGk hi; omega
 have hGk:GLk W3.heap.size w12 (.slice d3 h.links.length e3) ys:=GRow.keep hGk f12 (fun _ h=>h.elim) (fun i hi e=>by have:=(hg3 i hi).1; omega)
 have p1:=p1.fr f12 (fun i hi=>⟨hi.2,fun e=>by have:=q1 i hi.1; omega⟩)
 have p2:=p2.fr f12 (fun i hi=>⟨hi.2,fun e=>by have:=q2 i hi.1; omega⟩)
 generalize hv3:Value.slice d3 h.links.length e3 = v3 at *
 refine ⟨fun vs W=>∃ (u:Value) (i:Nat) (zs:List LkP),vs = [u,.int .i64 (i:Int)] ∧ i ≤ h.links.length ∧ GLk W3.heap.size W v3 zs ∧ zs.map (fun y:LkP=>y.1) = h.links ∧ zs.drop i = ys.drop i ∧ Fr (fun j=>v3.ownBlock = some j) w12 W ∧ (∀ y ∈ zs.take i,FP (fun j=>w12.heap.size ≤ j ∧ j < W.heap.size) W (fun W=>Ints W (g7m y) y.1.spend.answers)),
  (fun vs _=>match vs with | [_,.int _ i]=>h.links.length - i.toNat | _=>0),⟨_,0,ys,rfl,by omega,hGk,he,rfl,Fr.refl _ _,by simp⟩,?_⟩
 rintro _ _ w13 ⟨u,i,zs,rfl,hi,hGz,hz,hd,f13,hfz⟩
 have hs13:=f13.size
 have hB13:Holds w13 b1 29 _:=(f13.block b1 hB1 (fun e=>by have:=(hg3 _ e).1; omega)).trans hB
 by_cases hin:i = h.links.length
 ·have hzl:zs.length = h.links.length:=by rw [← hz,List.length_map]
  subst hin
  rw [← hzl,List.take_length] at hfz
  have p1:=p1.fr f13 (fun i hi=>⟨by omega,fun e=>hdis1 i e hi.1⟩)
  have p2:=p2.fr f13 (fun i hi=>⟨by omega,fun e=>hdis2 i e hi.1⟩)
  have hwz:∀ y ∈ zs,WLnk y.1:=fun y hy=>hh.wf.links _ (by rw [← hz]; exact List.mem_map_of_mem hy)
  have p3:FP (fun j=>w12.heap.size ≤ j ∧ j < w13.heap.size) w13 (fun W=>∀ y ∈ zs,d0w W (f7g y) y.1):=fun w' a b c d e y hy=>⟨_,rfl,hfz y hy w' a b c d e,hwz y hy⟩
  have hGl:=GRow.conv (V:=d0w) (f:=fun y:LkP=>y.1) hGz p3
  rw [hz] at hGl
  have p3:=hGl.fp (by omega) (by have:=hh.links.len; omega)
  have hG13:Holds w13 g2 29 hldZ:=(f13.block g2 (by omega) (fun e=>by have:=(hg3 _ e).1; omega)).trans ((f12.block g2 (by omega) (by omega)).trans hG)
  have P:FP (fun i=>W3.heap.size ≤ i ∧ i < w13.heap.size) w13 (fun W=>HldR W h (.slice d1 h.attrs.length e1) (.slice d2 h.bl.ys.length e2) v3):=((p1.and p2).and p3 |>.imp (fun W hW=>⟨hW.1.1,hW.1.2,hW.2,hh.wf⟩)).mono (fun i hi=>by
   rcases hi with (hi | hi) | hi | hi
   ·have:=q1 i hi.1; omega
   ·have:=q2 i hi.1; omega
   ·omega
   ·have:=hg3 i hi; omega)
  refine Xa0 ?_
  obtain ⟨d3',e3',rfl⟩:=hGl.isSlice
  refine a1s hB13 a8o (by kernel_rfl) (by kernel_rfl) ?_
  refine a0h b1n rfl rfl (a8a _ _ _ _ _ _ _ _ _ _ _ _ _ _ _ _ _ _ _ _) hG13 rfl (fun w14 hg14 hG14=>?_)
  refine a4s hG14 a8o (by kernel_rfl) (by kernel_rfl) ?_
  have hs14:=hg14.size
  refine k _ _ _ _ ⟨hg14.os.trans (f13.os.trans hb012.os),hg14.tape.trans (f13.tape.trans hb012.tape),hg14.output.trans (f13.output.trans hb012.output),by omega,fun i hi=>(hg14.block i (by omega) (fun e=>by cases e; omega)).trans ((f13.block i (by omega) (fun e=>by have:=(hg3 _ e).1; omega)).trans (hb12 i hi))⟩ ?_ ?_
  ·exact (P.fr (Fr.of_by hg14) (fun i hi=>⟨hi.2,fun e=>by omega⟩)).mono (fun i hi=>⟨by omega,by omega⟩)
  ·exact ((hGl.keep (Fr.of_by hg14) (fun i hi=>⟨hi.2,fun e=>by omega⟩) (fun i hi e=>by have:=hg3 i hi; omega)).base (by omega)).mono (fun i hi=>⟨by omega,by omega,fun e=>by have:=hg3 i e; omega⟩)
 ·have hil:i < h.links.length:=by omega
  have hiZ:(i:Int) < h.links.length:=by omega
  have hzl:zs.length = h.links.length:=by rw [← hz,List.length_map]
  have hzi:i < zs.length:=by omega
  have hyi:i < ys.length:=by omega
  have ezy:zs[i] = ys[i]:=by
   have:=congrArg (fun l=>l[0]?) hd
   simp only [List.getElem?_drop,Nat.add_zero] at this
   rw [gE hzi,gE hyi] at this
   exact oI this
  have hq0:=hq ys[i] (List.getElem_mem hyi)
  obtain ⟨g,c,cs,hvg,hgl,hgB,hcl,hcc,hVc⟩:=GRow.elem hGz (gE hzi)
  have hcs:=hVc.here
  subst hcs
  rw [hzl] at hvg
  subst hvg
  refine Xa @hiZ ?_
  refine a1t hcc c5f (by kernel_rfl) (by kernel_rfl) ?_
  refine a0i d0t (fun g14 w14 h14 hg14 hL=>?_)
  have hL14:=hL.lt
  refine a0h d0u (xs:=f7g zs[i]) rfl rfl (b4i _ _ _ _) hL rfl (fun w15 hg15 hL=>?_)
  have hb1w:b1 < w13.heap.size:=hB13.lt
  have hs14:=h14.size
  have hs15:=hg15.size
  have hB15:=((hB13.next h14).other hg15 (by omega)).next (.drawn (B:=w15.heap.size))
  have hL:=hL.next (.drawn (B:=w15.heap.size))
  have f16:Fr (fun _=>False) w13 { w15 with drawn:=w15.drawn + 1 }:=((Fr.of_below (S:=fun _=>False) h14).trans (Fr.of_by hg15) (fun i hi=>.inr (by omega))).trans (Fr.of_below (S:=fun _=>False) .drawn) (fun i hi=>hi.elim)
  have hx0:=gE hzi
  have hwy:∀ x ∈ zs[i].1.spend.answers,I64 x:=fun x hx=>a1h ((hh.wf.links _ (by rw [← hz]; exact List.mem_map_of_mem (List.getElem_mem hzi))).ans x hx)
  have hxl:zs[i].1.spend.answers.length < 1099511627776:=hx _ (by rw [← hz]; exact List.mem_map_of_mem (List.getElem_mem hzi))
  refine ⟨Nx { w15 with drawn:=w15.drawn + 1 },bR,rfl,?_⟩
  generalize ({ w15 with drawn:=w15.drawn + 1 }:World) = W16 at hB15 hL f16 ⊢
  have hs16:=f16.size
  have hb016:Bw w W16:=⟨f16.os.trans (f13.os.trans hb012.os),f16.tape.trans (f13.tape.trans hb012.tape),f16.output.trans (f13.output.trans hb012.output),by omega,fun i hi=>(f16.block i (by omega) id).trans ((f13.block i (by omega) (fun e=>by have:=(hg3 _ e).1; omega)).trans (hb12 i hi))⟩
  rw [← ezy] at hq0
  refine Xc (fun W0 hW0=>An2 ((hB15.next hW0).are) ((hL.next hW0).are)) ?_
  refine ⟨Nx,?_⟩
  refine a7x (fun v w'=>OwnI w' W16.heap.size v zs[i].1.spend.answers) (fun v w w1 hS h=>b3n h hS) ?_ ?_
  ·intro w4 h4
   exact b3j (hq0.1.next (hb016.on h4)) hxl (fun v' w5 ho h5 hv=>⟨h4.on h5,h5,a7w ho (fun i hi=>Nat.le_trans h4.size (hv i hi))⟩)
  rintro w17 h17 v17 o17
  obtain ⟨d17,e17,rfl⟩:∃ ad c,v17 = .slice ad zs[i].1.spend.answers.length c:=a1v o17
  have hs17:=h17.size
  have f17:Fr (fun _=>False) w13 w17:=f16.trans (Fr.of_below (S:=fun _=>False) h17) (fun i hi=>hi.elim)
  have hG17:GLk W3.heap.size w17 _ zs:=GRow.keep hGz f17 (fun _ h=>h.elim) (fun _ _=>id)
  have p17:=(o17.ints hwy (by omega)).fp
  have q17:∀ j,Value.inBlock (.slice d17 zs[i].1.spend.answers.length e17) = some j → W16.heap.size ≤ j:=fun j hj=>(a0p o17 (b0j o17 hj)).2.1
  unfold GLk at hG17
  rw [← hzl] at hG17
  refine Xa @hiZ ?_
  refine GRow.put (off:=7) (m:=1) (xs:=[.slice d17 zs[i].1.spend.answers.length e17]) (y:=((zs[i].1,d17,zs[i].1.spend.answers.length,e17):LkP)) hG17 hx0 (by omega) b4g rfl rfl (fun u hu=>by rw [List.mem_singleton] at hu; subst hu; rfl) (fun _ h=>h.elim) (fun cs _ _ h=>h.imp (fun W e=>by subst e; rfl)) (fun w18 hg18 hG18=>?_)
  have hs18:=hg18.size
  have hgw:=(hg3 g rfl).2
  refine Xa0 ?_
  refine ⟨⟨_,i + 1,zs.set i (zs[i].1,d17,zs[i].1.spend.answers.length,e17),rfl,by omega,by rw [← hzl]; exact hG18,?_,?_,(f13.trans f17 (fun i hi=>hi.elim)).trans (Fr.of_by hg18) (fun j hj=>.inl (by subst hj; rfl)),?_⟩,by show h.links.length - (((i + 1:Nat):Int)).toNat < h.links.length - ((i:Nat):Int).toNat; omega⟩
  ·rw [List.map_set,← hz]
   have:(zs.map (fun y:LkP=>y.1))[i]'(by rw [List.length_map]; exact hzi) = zs[i].1:=List.getElem_map _
   rw [← this]
   exact List.set_getElem_self _
  ·rw [List.drop_set_of_lt (by omega)]
   have:=congrArg (fun l=>l.drop 1) hd
   simpa [List.drop_drop] using this
  ·intro y hy
   rw [List.take_set,List.take_succ_eq_append_getElem hzi,List.set_append_right _ _ (by simp; omega)] at hy
   have e0:i - (zs.take i).length = 0:=by rw [List.length_take]; omega
   rw [e0] at hy
   rcases List.mem_append.1 hy with hy | hy
   ·exact ((hfz y hy).fr (((f17.mono (fun _ _ h=>h.elim)).trans (Fr.of_by hg18) (fun j hj=>.inl hj):Fr (fun j=>j = g) w13 w18)) (fun j hj=>⟨hj.2,fun e=>by omega⟩)).mono (fun j hj=>⟨hj.1,by omega⟩)
   ·simp only [List.set_cons_zero,List.mem_singleton] at hy
    subst hy
    exact (p17.fr (Fr.of_by hg18) (fun j hj=>⟨hj.2,fun e=>by have:=q17 j hj.1; omega⟩)).mono (fun j hj=>⟨by have:=q17 j hj.1; omega,by omega⟩)
theorem d1a (h:Hld) {av yv kv:Value} (hh:HldR w h av yv kv) (ha:h.attrs.length < 1099511627776) (hy:h.bl.ys.length < 1099511627776) (hk:h.links.length < 1000) (hx:∀ x ∈ h.links,x.spend.answers.length < 1099511627776)
  (k:∀ w' av yv kv,Bw w w' → Fresh w w' (fun W=>HldR W h av yv kv) → K (d3g h av yv kv) w'):a0a Tryz.prog 71 #[d3g h av yv kv] K w:=
 c5k h hh ha hy hk hx (fun w' av yv kv hb hF _=>k w' av yv kv hb hF)
end
end Go.Proofs
namespace Go.Proofs
open Go Go.Sh Go.RowKit FdSpec TkSpec CodeSpec PuSpec DkSpec JnSpec
section
variable {K:VK} {w w' w0 W W':World} {L:List (Addr × Value)} {rb b:Nat} {s:Stp} {lims:List Lim} {p:Ph} {items:List Itm}
theorem g0n (x:Itm) (t:Tkt) {av yv lv:Value} {b:Nat} (hh:HldR w x.held av yv lv) (hb:a1y w (cellsOf [] b 0 (a8l t))) (k:∀ w',Bw w w' → K (.bool (decide (x.held.t = t))) w'):a0a Tryz.prog 155 #[g0j x av yv lv,.pointer (some ⟨b,0,none⟩)] K w:=by
 apply d6t
 unfold f4y
 obtain ⟨a1,n1,c1,a2,n2,c2,a3,n3,c3,rfl,rfl,rfl⟩:=a0y hh
 have hk:Kn w (cellsOf [] b 0 (a8l t)) w:=⟨bR,hb⟩
 refine a1i (cs:=b3m x (.slice a1 n1 c1) (.slice a2 n2 c2) (.slice a3 n3 c3)) rfl hk fun b1 W hk hb1 hbb=>?_
 refine Xa hk.cells ?_
 refine g0h x.held.t t (fun w2 h2=>?_)
 refine Xa0 ?_
 exact k _ (hk.next h2).below
theorem f7h (h:StR s lims w p items) (t:Tkt) (k:∀ w',Bw w w' → K (.bool (c0x items t)) w'):a0a Tryz.prog 105 #[.pointer (some ⟨p.pb,0,none⟩),b7r t] K w:=by
 apply d6s
 unfold f4x
 refine a1i (cs:=a8l t) rfl (.start w) fun b1 W hk hb1 hbb=>?_
 have hp:=(h.pur.next hk.below).cell 6 (by simp)
 simp only [List.getElem_cons_zero,List.getElem_cons_succ] at hp
 refine Xa @hp ?_
 refine b8w (fun i=>decide (i.held.t = t)) (h.items.next (a1k b7z) hk.below) ?_ (fun w2 h2=>?_)
 ·rintro w' x cs K' T hb hx ⟨av,yv,lv,rfl,hh,_⟩ h'
  refine a3c (by kernel_rfl) ?_
  exact g0n x t hh (hk.next hb).cells h'
 ·have k:=k _ (hk.below.on h2)
  unfold c0x at k
  refine Xa0 ?_
  exact k
theorem StR.grew (h:StR s lims W p items) (hmu:∀ i,Mu p i → i < W.heap.size) {x:Itm} {v':Value} {W2:World} (hG:GRow 18 67 c5e 0 (Im p W) W' v' (items ++ [x])) (hg:W.grownBy W' p.iv.ownBlock) (hv:∀ i,v'.ownBlock = some i → p.iv.ownBlock = some i ∨ W.heap.size ≤ i)
  (hs:W'.grownBy W2 (some p.pb)) (hH:Holds W2 p.pb 136 ((puC s p).set 6 v')) (hc:items.length + 1 ≤ 400):StR s lims W2 { p with iv:=v' } (items ++ [x]) ∧ PuIt p W { p with iv:=v' } W2:=by
 have hs1:=hg.size
 have hs2:=hs.size
 have hpb:=hmu p.pb (.inr (.inr (.inr (.inl rfl))))
 have f1:Fr (fun i=>i = p.pb ∨ p.iv.ownBlock = some i) W W':=(Fr.of_by' hg).mono (fun i _ hi=>.inr hi)
 have f2:Fr (fun i=>i = p.pb) W' W2:=Fr.of_by hs
 have t:PuIt p W { p with iv:=v' } W2:=⟨f1.trans f2 (fun i hi=>.inl (.inl hi)),hv,rfl⟩
 refine ⟨⟨hH,?_,c2c h.rd t.st,by rw [List.length_append]; exact hc,h.sp,fun i hi=>?_,fun i hi=>by have:=h.xl i hi; omega⟩,t⟩
 ·refine GRow.mono (GRow.keep hG f2 (fun i hi=>⟨by have:=hi.1; omega,fun e=>hi.2.1 (.inr (.inr (.inr (.inl e))))⟩) (fun i hi e=>?_)) (Im.mono t.fr.size t.st.mu rfl)
  rcases hv i hi with h1 | h1
  ·exact (h.si i h1).2.2.2 e
  ·omega
 ·rcases hv i hi with h1 | h1
  ·exact h.si i h1
  ·refine ⟨fun e=>?_,fun e=>?_,fun e=>?_,(show i ≠ p.pb by omega)⟩
   ·have:=hmu i (.inl e); omega
   ·have:=hmu i (.inr (.inl e)); omega
   ·have:=hmu i (.inr (.inr (.inl e))); omega
theorem d1b (hmu:∀ i,Mu p i → i < w0.heap.size) (hx:∀ i,p.x i → i < w0.heap.size) {f:WK} (h:Fresh w0 W f):FP (Im p W) W f:=h.mono (fun i hi=>⟨hi.2,fun e=>by have:=hmu i e; omega,fun e=>by have:=hx i e; omega⟩)
@[reducible] def itmZ:List Value:=hldZ ++ [.int .i64 0,.int .i64 0,.bool false,.bool false]
theorem b2g (a b c d e f g h i j k:Int) (a1 a2 a3:Option Addr) (n1 n2 n3 c1 c2 c3:Nat) (l m:Int) (x y:Bool):∀ u ∈ ([.int .i64 a,.int .i64 b,.slice a1 n1 c1,.int .i64 c,.int .i64 d,.int .i64 e,.slice a2 n2 c2,.int .i64 f,.int .i64 g,.int .i64 h,.int .i64 i,.int .i64 j,.int .i64 k,.slice a3 n3 c3,.int .i64 l,.int .i64 m,.bool x,.bool y]:List Value),u.oneCell' = true:=by
 intro u hu
 simp only [List.mem_cons,List.not_mem_nil,or_false] at hu
 rcases hu with rfl | rfl | rfl | rfl | rfl | rfl | rfl | rfl | rfl | rfl | rfl | rfl | rfl | rfl | rfl | rfl | rfl | rfl <;> rfl
theorem c5l (T:TypeId) (h:Hld) (a1 a2 a3:Option Addr) (n1 n2 n3 c1 c2 c3:Nat):oM Tryz.prog (Go.Op.build 67 #[(0,(.tmp 0))]) T [d3g h (.slice a1 n1 c1) (.slice a2 n2 c2) (.slice a3 n3 c3)] = a0c (g0j (a2q h) (.slice a1 n1 c1) (.slice a2 n2 c2) (.slice a3 n3 c3)):=by
 funext K w
 kernel_rfl
theorem e2v {T:TypeId} (x:Itm) {a1 a2 a3:Option Addr} {n1 n2 n3 c1 c2 c3:Nat} (k:∀ g W,Bw w W → w.heap.size ≤ g → Holds W g 67 (b3m x (.slice a1 n1 c1) (.slice a2 n2 c2) (.slice a3 n3 c3)) → K (.slice (some ⟨g,0,none⟩) 1 1) W):oM Tryz.prog (.buildSlice 59 1 #[(0,.tmp 0)]) T [g0j x (.slice a1 n1 c1) (.slice a2 n2 c2) (.slice a3 n3 c3)] K w:=by
 rw [a2k]; exact b7a (by kernel_rfl) k
theorem c5m {B:Nat} {D:Nat → Prop} {v:Value} {l:List Itm} {x:Itm} {T:TypeId} {a1 a2 a3:Option Addr} {n1 n2 n3 c1 c2 c3:Nat} {q:Nat} (h:GRow 18 67 c5e B D w v l) (hB:B ≤ w.heap.size) (hq:Holds w q 67 (b3m x (.slice a1 n1 c1) (.slice a2 n2 c2) (.slice a3 n3 c3)))
  (hx:FP D w (fun w=>c5e w (b3m x (.slice a1 n1 c1) (.slice a2 n2 c2) (.slice a3 n3 c3)) x)) (hD:∀ i,D i → i < w.heap.size ∧ v.ownBlock ≠ some i) (hl:l.length < 1000)
  (k:∀ v' w',GRow 18 67 c5e B D w' v' (l ++ [x]) → w.grownBy w' v.ownBlock → (∀ i,v'.ownBlock = some i → v.ownBlock = some i ∨ w.heap.size ≤ i) → K v' w') :
  oM Tryz.prog (.call { callee:=.builtin .append,args:=#[.tmp 0,.tmp 1],argTypes:=#[59,59] }) T [v,.slice (some ⟨q,0,none⟩) 1 1] K w:=
 b4o 59 T ((Tryz.prog.info? 67).getD default) (.agg itmZ.toArray) 184 (by kernel_rfl) (by kernel_rfl) (by kernel_rfl) (by kernel_rfl) (by kernel_rfl) (by kernel_rfl) (by omega) (by omega) h hB (x:=x) (xs:=b3m x (.slice a1 n1 c1) (.slice a2 n2 c2) (.slice a3 n3 c3)) rfl
  (fun j u hj=>by
   obtain ⟨hj1,rfl⟩:=gS hj
   rw [Nat.zero_add]
   exact hq.cell j hj1) (b2g _ _ _ _ _ _ _ _ _ _ _ _ _ _ _ _ _ _ _ _ _ _ _ _) hx hD (by omega) (fun v' w' a b c _=>k v' w' a b c)
end
end Go.Proofs
namespace Go.Proofs
open Go Go.Sh Go.RowKit FdSpec TkSpec CodeSpec PuSpec DkSpec JnSpec
section
variable {K:VK} {w w' w0 W W':World} {L:List (Addr × Value)} {rb b:Nat} {s:Stp} {lims:List Lim} {p:Ph} {items:List Itm}
theorem e2w (w:World):(sizeOf 59).run Tryz.prog w = .ok 1 w:=by kernel_rfl
theorem _root_.Go.Sh.Holds.other' {w w':World} {g:Nat} {o:Option Nat} {T:TypeId} {vs:List Value} (h:Holds w g T vs) (hg:w.grownBy w' o) (hne:o ≠ some g):Holds w' g T vs:=(hg.block g h.lt (by first | exact hne | exact fun e=>hne e.symm)).trans h
theorem g7n (h:StR s lims w p items) (hmu:∀ i,Mu p i → i < w.heap.size) (hl:Cd.LaidE w) (text:a0f) (ht:text.length < 2 ^ 40) (k0:f8v s lims items text = none → ∀ w',Bw w w' → K (.bool false) w')
  (k1:∀ items',f8v s lims items text = some items' → ∀ w' iv',StR s lims w' { p with iv:=iv' } items' → PuIt p w { p with iv:=iv' } w' → K (.bool true) w'):a0a Tryz.prog 132 #[.pointer (some ⟨p.pb,0,none⟩),.string ⟨text.toArray⟩] K w:=by
 apply d6u
 unfold f4z
 refine e2q text ht hl (fun w1 av yv lv h1 hF=>?_)
 unfold f8v at k0 k1
 generalize (a4i text).2 = ok at *
 generalize (a4i text).1 = x at *
 obtain ⟨a1,n1,c1,a2,n2,c2,a3,n3,c3,rfl,rfl,rfl⟩:=a0y hF.here
 refine c1r ?_
 refine a0i b3l (fun g5 w5 h5 hg5 hH5=>?_)
 refine a0h b1n rfl rfl (a8a _ _ _ _ _ _ _ _ _ _ _ _ _ _ _ _ _ _ _ _) hH5 rfl (fun w6 hg6 hH6=>?_)
 have hs1:=h1.size
 have hs5:=h5.size
 have hs6:=hg6.size
 have hb6:Bw w w6:=(h1.on h5).grown hg6 (by omega) (fun i e=>by cases e; omega)
 have hF6:Fresh w w6 (fun W=>HldR W x (.slice a1 n1 c1) (.slice a2 n2 c2) (.slice a3 n3 c3)):=((FP.next hF h5 (fun i hi=>hi.2)).fr (Fr.of_by hg6) (fun i hi=>⟨by omega,fun e=>by omega⟩)).mono (fun i hi=>⟨hi.1,by omega⟩)
 have hst:=(h.next hb6).next (.drawn (B:=w6.heap.size))
 have hb7:=hb6.on (.drawn (B:=w6.heap.size))
 have hF7:=hF6.next (.drawn (B:=w6.heap.size))
 have hH7:=hH6.next (.drawn (B:=w6.heap.size))
 refine ⟨Nx { w6 with drawn:=w6.drawn + 1 },bR,rfl,?_⟩
 generalize ({ w6 with drawn:=w6.drawn + 1 }:World) = W7 at hst hb7 hF7 hH7 ⊢
 clear hb6 hF6 hH6 hF hH5
 obtain ⟨ivad,ivc,hiv⟩:=hst.items.isSlice
 obtain ⟨lvad,lvc,hlv⟩:=hst.lim.isSlice
 obtain ⟨bvad,bvc,hbv⟩:=hst.set.ints.isSlice
 have P7:=hst.pur
 unfold puC at P7
 rw [hiv,hlv,hbv] at P7
 have skip:(∀ w',Bw w w' → K (.bool false) w') → ∀ w',Nx W7 w' → K (.bool false) w':=fun k w' h=>k w' (hb7.on h)
 cases ok with
 | false=>
  have k0:=skip (k0 rfl)
  refine Xc (fun W0 hW0=>An2 ((P7.next hW0).are) ((hH7.next hW0).are)) ?_
  refine ⟨Nx,?_⟩
  refine Xd0 ?_
  rintro w8 h8 _ rfl _ rfl _ rfl _ rfl _ rfl _ rfl _ rfl
  refine Xa0 ?_
  exact k0 _ h8
 | true=>
 by_cases h4:400 ≤ items.length
 ·have h4Z:(400:Int) ≤ items.length:=by omega
  have k0:=skip (k0 (by rw [decide_eq_true h4]; rfl))
  refine Xf (fun W0 hW0=>An2 ((P7.next hW0).are) ((hH7.next hW0).are)) @h4Z ?_
  refine ⟨Nx,?_⟩
  refine Xd0 ?_
  rintro w8 h8 _ rfl _ rfl _ rfl _ rfl _ rfl _ rfl _ rfl
  refine Xa0 ?_
  exact k0 _ h8
 have h4Z:¬ (400:Int) ≤ items.length:=by omega
 have hSet:=hst.set
 rw [hbv] at hSet
 have hLim:=hst.lim
 rw [hlv] at hLim
 repeat (any_goals (first
 | (with_reducible first|refine pX ?_|((refine b7d ?_); refine a4t fun _=>?_)|refine zC ?_)
 | ((with_reducible refine b0z ?_); first|(with_reducible first|refine vB ?_|refine a3t ?_)|(with_reducible refine a1z ⟨_,rfl⟩ (fun W0 hW0=>by (refine oG (fun X Y=>?_)); simp [go_sem,(P7.next hW0).are,(hH7.next hW0).are,h4Z]; (first | exact Y _ _ ⟨rfl,rfl⟩ | exact ⟨by omega,Y _ _ ⟨rfl,rfl⟩⟩)) ?_))))
 dsimp only
 refine ⟨Nx,?_⟩
 apply a7l
 ·intro w9 h9
  refine Xa0 ?_
  exact d0y s lims x (hSet.next h9) (hLim.next (a1k a7i) h9) ((hF7.next h9).here) (fun w2 h2=>⟨h9.on h2,h2,rfl⟩)
 cases hv:PuSpec.validM s lims x with
 | false=>
  have k0:=skip (k0 (by rw [hv]; simp))
  refine Xd0 ?_
  rintro w8 h8 _ rfl _ rfl _ rfl _ rfl _ rfl _ rfl _ rfl
  refine Xa0 ?_
  exact k0 _ h8
 | true=>
  refine Xd (fun w9 h9=>(hH7.next h9).are) ?_
  rintro w8 h8 _ rfl _ rfl _ rfl _ rfl _ rfl _ rfl _ rfl
  refine Xa0 ?_
  refine f7h (hst.next h8) x.t (fun w9 h9=>?_)
  have h89:=h8.on h9
  cases hq:c0x items x.t with
  | true=>
   have k0:=skip (k0 (by rw [hv,hq]; simp))
   refine Xa0 ?_
   exact k0 _ h89
  | false=>
   have k1:=k1 _ (by rw [hv,hq,decide_eq_false h4]; rfl)
   refine Xa0 ?_
   have h8d:=h89.on (.drawn (B:=w9.heap.size))
   refine ⟨fun sg W=>sg ≤ 2 → Nx { w9 with drawn:=w9.drawn + 1 } W,fun _=>bR,?_⟩
   generalize ({ w9 with drawn:=w9.drawn + 1 }:World) = W10 at h8d ⊢
   have P10:=P7.next h8d
   have hH10:=hH7.next h8d
   repeat (first | (with_reducible refine pX ?_) | (with_reducible refine a3t ?_) | (with_reducible refine a2m rfl ?_) | (with_reducible refine a2b rfl ?_) | (refine a1z ⟨_,rfl⟩ (fun W0 hW0=>by (obtain ⟨s0,hs0,hC⟩:=hW0); (have hsk:s0 ≤ 2:=by omega); (refine oG (fun X Y=>?_)); simp [go_sem,(P10.next (hC hsk)).are,(hH10.next (hC hsk)).are]; (first | exact Y _ _ ⟨rfl,rfl⟩ | exact ⟨by omega,Y _ _ ⟨rfl,rfl⟩⟩)) ?_))
   rw [c5l]
   show _ ∧ _
   refine ⟨fun _=>bR,?_⟩
   refine e2v (a2q x) (fun q w11 h11 hQ1 hQ=>⟨fun _=>h11,?_⟩)
   have h711:=h8d.on h11
   have hst11:=hst.next h711
   have hmu11:∀ i,Mu p i → i < w11.heap.size:=fun i hi=>by have:=hmu i hi; have:=hb7.size; have:=h711.size; omega
   rw [← hiv]
   refine c5m (D:=Im p w11) hst11.itm (Nat.zero_le _) hQ ?_ (fun i hi=>⟨hi.1,fun e=>hi.2.1 (.inr (.inr (.inr (.inr e))))⟩) (by omega) (fun v' w12 hG hg hv'=>⟨fun h=>by omega,?_⟩)
   ·exact (d1b hmu h.xl (hF7.next h711)).imp (fun W hW=>⟨_,_,_,rfl,hW,d3a,d3a⟩)
   refine a7z ?_
   refine ⟨fun h=>by omega,?_⟩
   refine a7z ?_
   refine ⟨fun h=>by omega,?_⟩
   obtain ⟨va,vc,hva⟩:=hG.isSlice
   have hP12:Holds w12 p.pb 136 (puC s p):=hst11.pur.other' hg (fun e=>(hst11.si _ e).2.2.2 rfl)
   refine a3g (i:=6) e2w (by rw [hva]; rfl) (by rw [hva]; rfl) hP12 (by simp) (fun w13 hg13 hH13=>⟨fun h=>by omega,?_⟩)
   obtain ⟨r1,r2⟩:=hst11.grew hmu11 hG hg hv' hg13 hH13 (by omega)
   exact k1 _ _ r1 ((PuIt.below (hb7.on h711)).trans r2)
end
end Go.Proofs
namespace Go.Proofs
open Go Go.Sh Go.RowKit FdSpec TkSpec CodeSpec PuSpec DkSpec JnSpec
section
variable {K:VK} {w w' w0 W W':World} {L:List (Addr × Value)} {rb b:Nat} {s:Stp} {lims:List Lim} {p:Ph} {items:List Itm}
theorem b8x (n:Nat) (h:n < 100):I64 (n:Int):=by unfold I64; omega
theorem StR.put1 (h:StR s lims w p items) (hmu:∀ i,Mu p i → i < w.heap.size) {i g c off:Nat} {x y:Itm} {u:Value} {T T':TypeId} (hx:items[i]? = some x) (hg:p.iv = .slice (some ⟨g,0,none⟩) items.length c) (hoff:off < 18) (hT:∀ w,(sizeOf T).run Tryz.prog w = .ok 1 w)
  (hu:u.cells = #[u]) (h1:u.oneCell' = true) (hV:∀ av yv lv,(b3m x av yv lv).set off u = b3m y av yv lv) (hh:y.held = x.held) (hI:I64 y.status ∧ I64 y.dare) (k:∀ W,StR s lims W p (items.set i y) → PuIt p w p W → K undef W) :
  oM Tryz.prog (.store T (.tmp 0) (.tmp 1)) T' [.pointer (some ⟨g,i * 18 + off,none⟩),u] K w:=by
 have hG:=h.itm
 rw [hg] at hG
 have hgo:p.iv.ownBlock = some g:=by rw [hg]; rfl
 refine GRow.put (off:=off) (m:=1) (xs:=[u]) (y:=y) hG hx (by omega) hT hu rfl (fun v hv=>by rw [List.mem_singleton] at hv; subst hv; exact h1) (fun j hj=>⟨hj.1,fun e=>hj.2.1 (.inr (.inr (.inr (.inr (by rw [e]; exact hgo)))))⟩) (fun cs hcl _ hf=>hf.imp (fun W=>?_)) (fun W hgr hG2=>?_)
 ·rintro ⟨av,yv,lv,rfl,h2,h3⟩
  refine ⟨av,yv,lv,?_,by rw [hh]; exact h2,hI⟩
  rw [← hV av yv lv,List.set_eq_take_append_cons_drop,if_pos (by exact hoff)]
  rfl
 ·have hf:Fr (fun i=>i = p.pb ∨ p.iv.ownBlock = some i) w W:=(Fr.of_by hgr).mono (fun j _ hj=>.inr (by rw [hj]; exact hgo))
  have t:PuIt p w p W:=⟨hf,fun j hj=>.inl hj,rfl⟩
  refine k W ⟨?_,?_,c2c h.rd t.st,by rw [List.length_set]; exact h.cnt,h.sp,h.si,fun i hi=>lL (h.xl i hi) hf.size⟩ t
  ·exact h.pur.other hgr (fun e=>(h.si g hgo).2.2.2 e.symm)
  ·rw [hg]
   exact hG2.mono (Im.mono hf.size (fun j hj=>.inl hj) rfl)
theorem StR.at (h:StR s lims w p items) {i:Nat} {x:Itm} (hx:items[i]? = some x):∃ g c av yv lv,p.iv = .slice (some ⟨g,0,none⟩) items.length c ∧ g < w.heap.size ∧ HldR w x.held av yv lv ∧ I64 x.status ∧ I64 x.dare ∧ ∀ (j:Nat) (u:Value),(b3m x av yv lv)[j]? = some u → w.cell? ⟨g,i * 18 + j,none⟩ = some u:=by
 obtain ⟨g,c,cs,h1,h2,_,_,h4,h5⟩:=h.itm.elem hx
 obtain ⟨av,yv,lv,rfl,h6,h7,h8⟩:=h5.here
 exact ⟨g,c,av,yv,lv,h1,h2,h6,h7,h8,h4⟩
def b5o (s:Stp) (kind dare:Int) (x:Itm):Option Itm:=if decide (x.status = 0) && decide (1 ≤ dare) && decide (dare < s.g.Q) then some { x with status:=1,dare:=dare,lent:=decide (kind = 3) } else none
theorem d3j (h:StR s lims w p items) (hmu:∀ i,Mu p i → i < w.heap.size) {i g c:Nat} {x:Itm} (hx:items[i]? = some x) (hgv:p.iv = .slice (some ⟨g,0,none⟩) items.length c) (kind dare:Int) (hd:I64 dare) (k0:b5o s kind dare x = none → K (.bool false) w)
  (k1:∀ y,b5o s kind dare x = some y → ∀ w',StR s lims w' p (items.set i y) → PuIt p w p w' → K (.bool true) w'):a0a Tryz.prog 133 #[.pointer (some ⟨p.pb,0,none⟩),.pointer (some ⟨g,i * 18,none⟩),.int .i64 kind,.int .i64 dare] K w:=by
 apply d6v
 unfold f5a
 obtain ⟨g',c',av,yv,lv,hg',hgl,hH,hI,hJ,hc⟩:=h.at hx
 rw [hgv] at hg'
 cases hg'
 have c14:=hc 14 _ rfl
 have P:=h.pur.are
 unfold b5o at k0 k1
 repeat (any_goals (first
 | (with_reducible first|refine a1b ?_|((refine b2a ?_); first|refine zD ?_|((refine a7k ?_); first|refine zI ?_|refine zJ ?_|refine zK (fun hg=>?_) fun hg=>?_)|((refine c7k ?_); first|refine zO ?_|refine zP ?_|refine zQ (fun hg=>?_) fun hg=>?_))|((refine a3s ?_); first|refine yB ?_|refine yD ?_|refine yE ?_|refine yF ?_|refine yG ?_)|((refine a1q ?_); first|refine yL ?_|refine yP (fun hg=>?_) fun hg=>?_))
 | ((with_reducible refine oG fun X Y=>?_); simp [go_sem,c14,P]; apply Y; clear Y X)))
 ·exact k0 (by rw [decide_eq_false (by omega:¬ 1 ≤ dare)]; simp)
 ·exact k0 (by rw [decide_eq_false (by omega:¬ dare < s.g.Q)]; simp)
 rotate_left
 ·exact k0 (by rw [decide_eq_false hg]; simp)
 have k1:=k1 _ (by rw [decide_eq_true (by omega:x.status = 0),decide_eq_true (by omega:1 ≤ dare),decide_eq_true (by omega:dare < s.g.Q)]; rfl)
 have len1:∀ y,(items.set i y).length = items.length:=fun y=>List.length_set
 have set1:∀ y,(items.set i y)[i]? = some y:=fun y=>List.getElem?_set_self (gS hx).1
 refine h.put1 hmu (y:={ x with status:=1 }) hx hgv (by omega) a8b rfl rfl (fun _ _ _=>rfl) rfl ⟨b8x 1 (by omega),hJ⟩ (fun w2 h2 t2=>?_)
 have hmu2:∀ i,Mu p i → i < w2.heap.size:=fun i hi=>lL (hmu i hi) t2.fr.size
 refine Xa0 ?_
 refine h2.put1 hmu2 (y:={ x with status:=1,dare:=dare }) (set1 _) (by rw [len1]; exact hgv) (by omega) a8b rfl rfl (fun _ _ _=>rfl) rfl ⟨b8x 1 (by omega),hd⟩ (fun w3 h3 t3=>?_)
 have hmu3:∀ i,Mu p i → i < w3.heap.size:=fun i hi=>lL (hmu2 i hi) t3.fr.size
 refine Xa0 ?_
 rw [List.set_set] at h3
 refine h3.put1 hmu3 (y:={ x with status:=1,dare:=dare,lent:=decide (kind = 3) }) (set1 _) (by rw [len1]; exact hgv) (by omega) b4j rfl rfl (fun _ _ _=>rfl) rfl ⟨b8x 1 (by omega),hd⟩ (fun w4 h4 t4=>?_)
 rw [List.set_set] at h4
 refine Xa0 ?_
 exact k1 _ h4 ((t2.trans t3).trans t4)
theorem f2c (h:StR s lims w p items) (hmu:∀ i,Mu p i → i < w.heap.size) {i g c:Nat} {x:Itm} (hx:items[i]? = some x) (hgv:p.iv = .slice (some ⟨g,0,none⟩) items.length c) (kind z:Int) (k0:b2t kind x = none → K (.bool false) w)
  (k1:∀ y,b2t kind x = some y → ∀ w',StR s lims w' p (items.set i y) → PuIt p w p w' → K (.bool true) w'):a0a Tryz.prog 134 #[.pointer (some ⟨p.pb,0,none⟩),.pointer (some ⟨g,i * 18,none⟩),.int .i64 kind,.int .i64 z] K w:=by
 apply c2z
 unfold d6w
 obtain ⟨g',c',av,yv,lv,hg',hgl,hH,hI,hJ,hc⟩:=h.at hx
 rw [hgv] at hg'
 cases hg'
 have c14:=hc 14 _ rfl
 have c16:=hc 16 _ rfl
 have c17:=hc 17 _ rfl
 refine ⟨fun _ W=>K (.bool true) W,?_,fun l u w2 h2=>h2⟩
 unfold b2t at k0 k1
 by_cases h2:kind = 2
 ·by_cases hs:x.status = 1
  ·have k1:=k1 _ (if_pos ⟨h2,hs⟩)
   refine Xa (An3 @c14 @h2 @hs) ?_
   refine h.put1 hmu (y:={ x with status:=2 }) hx hgv (by omega) a8b rfl rfl (fun _ _ _=>rfl) rfl ⟨b8x 2 (by omega),hJ⟩ (fun w2 h2 t2=>?_)
   refine Xa0 ?_
   exact k1 _ h2 t2
  ·have k0:=k0 (by rw [if_neg (fun h=>hs h.2),if_neg (fun h=>by omega)])
   refine Xa (An3 @c14 @h2 @hs) ?_
   exact k0
 ·by_cases h4:kind = 4
  ·cases hl:x.lent with
   | false=>
    have k0:=k0 (by rw [if_neg (fun h=>h2 h.1),if_neg (fun h=>by rw [hl] at h; exact absurd h.2.1 (by simp))])
    rw [hl] at c16
    refine Xa (An3 @c16 @h2 @h4) ?_
    exact k0
   | true=>
    rw [hl] at c16
    cases hb:x.back with
    | true=>
     rw [hb] at c17
     have k0:=k0 (by rw [if_neg (fun h=>h2 h.1),if_neg (fun h=>by rw [hb] at h; exact absurd h.2.2 (by simp))])
     refine Xa (An4 @c16 @c17 @h2 @h4) ?_
     exact k0
    | false=>
     rw [hb] at c17
     have k1:=k1 _ (by rw [if_neg (fun h=>h2 h.1),if_pos ⟨h4,hl,hb⟩])
     refine Xa (An4 @c16 @c17 @h2 @h4) ?_
     refine h.put1 hmu (y:={ x with back:=true }) hx hgv (by omega) b4j rfl rfl (fun _ _ _=>rfl) rfl ⟨hI,hJ⟩ (fun w2 h2 t2=>?_)
     refine Xa0 ?_
     exact k1 _ h2 t2
  ·have k0:=k0 (by rw [if_neg (fun h=>h2 h.1),if_neg (fun h=>h4 h.1)])
   refine Xa (An2 @h2 @h4) ?_
   exact k0
end
end Go.Proofs
namespace Go.Proofs
open Go Go.Sh Go.RowKit FdSpec TkSpec CodeSpec PuSpec DkSpec JnSpec
section
variable {K:VK} {w w' w0 W W':World} {L:List (Addr × Value)} {rb b:Nat} {s:Stp} {lims:List Lim} {p:Ph} {items:List Itm}
theorem c5n {P:Program} {f:FuncId} {fs cs:Array Value} {T:TypeId} {ts:Array TypeId} {x y z:Value} (hb:a8f P f = true) (h:a0a P f (fs ++ #[x,y,z] ++ cs) K w):oM P (.call { callee:=.value (.tmp 0),args:=#[.tmp 1,.tmp 2,.tmp 3],argTypes:=ts }) T [.func (.func f) fs cs,x,y,z] K w:=
 b5j _ hb (by simp [xop,execOp,a0u,evE,resolve,Deferred.ofValue,invoke]) h
theorem h1y:a2n 0 = [48,59]:=by decide +kernel
theorem e2x (r:a0f):Lib.hasPrefix r [48,59] = decide ([48,59] <+: r):=by
 unfold Lib.hasPrefix
 rw [Bool.eq_iff_iff]
 simp [List.isPrefixOf_iff_prefix]
theorem e2y (s:Stp) (k i d:Int) (x:Itm):a8s s [k,i,d] x = if decide (k = 1) || decide (k = 3) then b5o s k d x else none:=rfl
theorem e2z (s:Stp) (k i:Int) (x:Itm):a8s s [k,i] x = if k = 2 ∨ k = 4 then b2t k x else none:=by
 unfold a8s b2t
 by_cases h2:k = 2
 ·subst h2
  by_cases hs:x.status = 1 <;> simp [hs]
 ·by_cases h4:k = 4
  ·subst h4
   cases x.lent <;> cases x.back <;> simp
  ·simp [h2,h4]
theorem g7o {l:List Int} (h:¬ l.length < 2):∃ a b m,l = a :: b :: m:=by
 rcases l with _ | ⟨a,_ | ⟨b,m⟩⟩
 ·exact absurd (by simp) h
 ·exact absurd (by simp) h
 ·exact ⟨a,b,m,rfl⟩
theorem e3a (h:StR s lims w p items) (hmu:∀ i,Mu p i → i < w.heap.size) (hl:Cd.LaidE w) (r:a0f) (hr:r.length < 2 ^ 40) (k0:a3o s lims items r = none → ∀ w',Bw w w' → K (.bool false) w')
  (k1:∀ items',a3o s lims items r = some items' → ∀ w' iv',StR s lims w' { p with iv:=iv' } items' → PuIt p w { p with iv:=iv' } w' → K (.bool true) w'):a0a Tryz.prog 84 #[.pointer (some ⟨p.pb,0,none⟩),.string ⟨r.toArray⟩] K w:=by
 apply e6t
 unfold g3l
 refine Cd.pNum_ok 0 ⟨by omega,by omega⟩ hl.toLaid (fun w1 h1=>?_)
 rw [h1y]
 refine Cd.cutPrefix_ok r [48,59] ?_
 rw [e2x]
 have h01:=h.next h1
 have hmu1:∀ i,Mu p i → i < w1.heap.size:=fun i hi=>lL (hmu i hi) h1.size
 have hl1:=hl.below h1 hl.size
 unfold a3o at k0 k1
 by_cases hp:[48,59] <+: r
 ·have et:Lib.trimPrefix r [48,59] = r.drop 2:=by unfold Lib.trimPrefix; rw [e2x,if_pos (by simpa using hp)]; rfl
  rw [if_pos hp] at k0 k1
  rw [et,decide_eq_true hp]
  refine Xa0 ?_
  refine g7n h01 hmu1 hl1 _ (by rw [List.length_drop]; omega) (fun e w' hb=>?_) (fun items' e w' iv' a b=>?_)
  ·have k0:=k0 e w' (h1.on hb)
   refine Xa0 ?_
   exact k0
  ·have k1:=k1 items' e w' iv' a ((PuIt.below h1).trans b)
   refine Xa0 ?_
   exact k1
 ·rw [if_neg hp] at k0 k1
  rw [decide_eq_false hp]
  refine Xa0 ?_
  refine Cd.open_ok r (fun w2 hr2 h2=>?_)
  have hw8:=hl.size
  have h1s:=h1.size
  refine Cd.itemsNum_ok w1.heap.size ⟨r,false⟩ (hl1.below h2 hl1.size) (by omega) hr Rd.ok_good hr2 (fun v w3 hr3 hg3 ho=>?_)
  have h13:Bw w1 w3:=h2.grown hg3 (by have:=h2.size; omega) (fun i e=>by cases e; exact rL)
  have hw3:=h1.on h13
  have hst:=h.next hw3
  have hin:=d0s (r:=⟨r,false⟩) Rd.ok_good
  have hoI:OwnI w3 w2.heap.size v (a1d ⟨r,false⟩).1:=by
   show w3.ownsRow _ _ 1 v _ (a2g Go.Sh.intC _)
   rw [Go.Sh.flat_int]
   exact ho
  have hn:Ints w3 v (a1d ⟨r,false⟩).1:=hoI.ints (fun x hx=>a1h (hin.1 x hx)) (by have:=hin.2; omega)
  obtain ⟨ivad,ivc,hiv⟩:=hst.items.isSlice
  have P3:=hst.pur
  unfold puC at P3
  rw [hiv] at P3
  generalize (a1d ⟨r,false⟩).2 = rd at *
  generalize hN:(a1d ⟨r,false⟩).1 = N at *
  have hw3d:=hw3.on (.drawn (B:=w3.heap.size))
  have hr3d:=hr3.below (.drawn (B:=w3.heap.size)) hr3.lt
  have P3:=P3.next (.drawn (B:=w3.heap.size))
  have hn:=hn.next (.drawn (B:=w3.heap.size))
  have hoI:=b3n hoI (.drawn (B:=w3.heap.size))
  have hst:=hst.next (.drawn (B:=w3.heap.size))
  refine ⟨Nx { w3 with drawn:=w3.drawn + 1 },bR,?_⟩
  generalize ({ w3 with drawn:=w3.drawn + 1 }:World) = W4 at hr3d P3 hn hoI hst hw3d ⊢
  refine Xa0 ?_
  refine Cd.done_ok _ _ hr3d ⟨bR,?_⟩
  rw [b7v]
  have skip:(∀ w',Bw w w' → K (.bool false) w') → ∀ w',Nx W4 w' → K (.bool false) w':=fun k w' h=>k w' (hw3d.on h)
  obtain ⟨vad,vc,rfl⟩:=hn.isSlice
  cases hd:b8m rd with
  | false=>
   have k0:=skip (k0 (by rw [hd]; rfl))
   refine Xc (fun W0 hW0=>(P3.next hW0).are) ?_
   exact k0 _ (bR)
  | true=>
  by_cases hlen:N.length < 2
  ·have hlenZ:(N.length:Int) < 2:=by omega
   have k0:=skip (k0 (by rw [decide_eq_true hlen]; simp))
   refine Xf (fun W0 hW0=>(P3.next hW0).are) @hlenZ ?_
   exact k0 _ (bR)
  have hlenZ:¬ (N.length:Int) < 2:=by omega
  rw [hd,decide_eq_false hlen] at k0 k1
  obtain ⟨kd,ix,rest,rfl⟩:=g7o hlen
  obtain ⟨gv,cv,hvg,hvl,hvB,hvc⟩:=hoI.cells (by simp)
  cases hvg
  have c0:=hvc 0 _ rfl
  have c1:=hvc 1 _ rfl
  have cc:∀ W0,Nx W4 W0 → W0.cell? ⟨gv,0,none⟩ = some (.int .i64 kd) ∧ W0.cell? ⟨gv,1,none⟩ = some (.int .i64 ix):=fun W0 h=>⟨(h.cell hvl).trans c0,(h.cell hvl).trans c1⟩
  by_cases hix:ix < 0
  ·have k0:=skip (k0 (by simp [hix]))
   refine Xf (fun W0 hW0=>An2 ((P3.next hW0).are) (cc _ hW0)) (An2 @hlenZ @hix) ?_
   exact k0 _ (bR)
  by_cases hil:(items.length:Int) ≤ ix
  ·have k0:=skip (k0 (by simp [hix]; rw [List.getElem?_eq_none (by omega)]))
   refine Xf (fun W0 hW0=>An2 ((P3.next hW0).are) (cc _ hW0)) (An3 @hlenZ @hix @hil) ?_
   exact k0 _ (bR)
  have hn0:((kd :: ix :: rest).length:Int) > 1:=by simp; omega
  refine Xf (fun W0 hW0=>An2 ((P3.next hW0).are) (cc _ hW0)) (An3 @hlenZ @hix @hil) ?_
  obtain ⟨x,hx⟩:∃ x,items[ix.toNat]? = some x:=⟨_,gE (by omega)⟩
  obtain ⟨g,c,yv,zv,wv,hgv,hgl,_⟩:=hst.at hx
  rw [hiv] at hgv
  cases hgv
  have k0:a8s s (kd :: ix :: rest) x = none → ∀ w',Nx W4 w' → K (.bool false) w':=fun e=>skip (k0 (by simp [hix,hx,e]))
  have k1:∀ y,a8s s (kd :: ix :: rest) x = some y → ∀ w',StR s lims w' p (items.set ix.toNat y) → PuIt p w p w' → K (.bool true) w':=fun y e w' a b=>k1 _ (by simp [hix,hx,e]) w' p.iv a b
  by_cases hk:kd = 1 ∨ kd = 3
  ·refine ⟨fun l W=>Nx W4 W ∧ l.getD 1 undef = .func (.func 133) #[.pointer (some ⟨p.pb,0,none⟩)] #[] ∧ l.getD 2 undef = .int .i64 3,?_,?_⟩
   ·refine Xa @c0 ?_
    refine ⟨fun l W=>W = W4 ∧ l.getD 0 undef = .bool true,?_,?_⟩
    ·rcases hk with rfl | rfl
     ·refine Xa0 ?_
      exact ⟨rfl,rfl⟩
     ·refine Xa0 ?_
      exact ⟨rfl,rfl⟩
    ·rintro l u W ⟨rfl,hl0⟩
     rw [hl0]
     refine Xa0 ?_
     exact ⟨bR,rfl,rfl⟩
   ·rintro l u W ⟨hW,f1,f2⟩
    rw [f1,f2]
    have h4W:=hW.on (.drawn (B:=W.heap.size))
    refine ⟨Nx { W with drawn:=W.drawn + 1 },bR,rfl,?_⟩
    generalize ({ W with drawn:=W.drawn + 1 }:World) = W5 at h4W ⊢
    have P5:=P3.next h4W
    have cc5:∀ W0,Nx W5 W0 → W0.cell? ⟨gv,0,none⟩ = some (.int .i64 kd) ∧ W0.cell? ⟨gv,1,none⟩ = some (.int .i64 ix):=fun W0 h=>cc W0 (h4W.on h)
    clear cc
    rcases rest with _ | ⟨d,_ | ⟨e,m⟩⟩
    ·have k0:=k0 (by rw [e2z,if_neg (by omega)])
     refine Xc (fun W0 hW0=>An2 ((P5.next hW0).are) (cc5 _ hW0)) ?_
     refine ⟨Nx,fun W6 h6=>?_⟩
     refine Xa0 ?_
     exact k0 _ (h4W.on h6)
    ·have hvd:=hvc 2 _ rfl
     have hvd5:∀ W0,Nx W5 W0 → W0.cell? ⟨gv,2,none⟩ = some (.int .i64 d):=fun W0 h=>((h4W.on h).cell hvl).trans hvd
     have hdI:I64 d:=hn.rng d (by simp)
     have hixZ:ix < (items.length:Int):=by omega
     have hixN:0 ≤ ix:=by omega
     have hw2:IntKind.i64.wrap 2 = 2:=by decide
     refine Xf (fun W0 hW0=>An3 ((P5.next hW0).are) (cc5 _ hW0) (hvd5 _ hW0)) (An3 @hixZ @hixN @hw2) ?_
     refine ⟨Nx,fun W6 h6=>?_⟩
     refine Xa0 ?_
     refine c5n (by kernel_rfl) ?_
     have hwW6:=hw3d.on (h4W.on h6)
     have k0:=k0
     rw [e2y,if_pos (by simpa using hk)] at k0 k1
     refine d3j (hst.next (h4W.on h6)) (fun i hi=>lL (hmu i hi) hwW6.size) hx hiv kd d hdI (fun e=>?_) (fun y e w' a b=>?_)
     ·have k0:=k0 e _ (h4W.on h6)
      refine Xa0 ?_
      exact k0
     ·have k1:=k1 y e w' a ((PuIt.below hwW6).trans b)
      refine Xa0 ?_
      exact k1
    ·have k0:=k0 rfl
     have hne:¬ ((kd :: ix :: d :: e :: m).length:Int) = 3:=by simp only [List.length_cons]; omega
     refine Xf (fun W0 hW0=>An2 ((P5.next hW0).are) (cc5 _ hW0)) @hne ?_
     refine ⟨Nx,fun W6 h6=>?_⟩
     refine Xa0 ?_
     exact k0 _ (h4W.on h6)
  ·have hk1:¬ kd = 1:=fun e=>hk (.inl e)
   have hk3:¬ kd = 3:=fun e=>hk (.inr e)
   refine ⟨fun l W=>(kd = 2 ∨ kd = 4) ∧ Nx W4 W ∧ l.getD 1 undef = .func (.func 134) #[.pointer (some ⟨p.pb,0,none⟩)] #[] ∧ l.getD 2 undef = .int .i64 2,?_,?_⟩
   ·refine Xa @c0 ?_
    refine ⟨fun l W=>W = W4 ∧ l.getD 0 undef = .bool false,?_,?_⟩
    ·refine Xa (An2 @hk1 @hk3) ?_
     exact ⟨rfl,rfl⟩
    ·rintro l u W ⟨rfl,hl0⟩
     rw [hl0]
     refine Xa0 ?_
     refine ⟨fun l W2=>W2 = W ∧ l.getD 0 undef = .bool (decide (kd = 2 ∨ kd = 4)),?_,?_⟩
     ·by_cases h2:kd = 2
      ·have e:decide (kd = 2 ∨ kd = 4) = true:=decide_eq_true (.inl h2)
       rw [e]
       refine Xa @h2 ?_
       exact ⟨rfl,rfl⟩
      ·by_cases h4:kd = 4
       ·have e:decide (kd = 2 ∨ kd = 4) = true:=decide_eq_true (.inr h4)
        rw [e]
        refine Xa (An2 @h2 @h4) ?_
        exact ⟨rfl,rfl⟩
       ·have e:decide (kd = 2 ∨ kd = 4) = false:=decide_eq_false (by omega)
        rw [e]
        refine Xa (An2 @h2 @h4) ?_
        exact ⟨rfl,rfl⟩
     ·rintro l2 u2 W2 ⟨rfl,hl2⟩
      rw [hl2]
      by_cases hk4:kd = 2 ∨ kd = 4
      ·rw [decide_eq_true hk4]
       refine Xa0 ?_
       exact ⟨hk4,bR,rfl,rfl⟩
      ·rw [decide_eq_false hk4]
       have k0:=k0 (by
        rcases rest with _ | ⟨d,_ | ⟨e,m⟩⟩
        ·rw [e2z,if_neg hk4]
        ·rw [e2y,if_neg (by simpa using hk)]
        ·rfl) _ (bR)
       refine Xa0 ?_
       exact k0
   ·rintro l u W ⟨hk4,hW,f1,f2⟩
    rw [f1,f2]
    have h4W:=hW.on (.drawn (B:=W.heap.size))
    refine ⟨Nx { W with drawn:=W.drawn + 1 },bR,rfl,?_⟩
    generalize ({ W with drawn:=W.drawn + 1 }:World) = W5 at h4W ⊢
    have P5:=P3.next h4W
    have cc5:∀ W0,Nx W5 W0 → W0.cell? ⟨gv,0,none⟩ = some (.int .i64 kd) ∧ W0.cell? ⟨gv,1,none⟩ = some (.int .i64 ix):=fun W0 h=>cc W0 (h4W.on h)
    clear cc
    rcases rest with _ | ⟨d,m⟩
    ·have hixZ:ix < (items.length:Int):=by omega
     have hixN:0 ≤ ix:=by omega
     have hw2:IntKind.i64.wrap 1 = 1:=by decide
     refine Xf (fun W0 hW0=>An2 ((P5.next hW0).are) (cc5 _ hW0)) (An3 @hixZ @hixN @hw2) ?_
     refine ⟨Nx,fun W6 h6=>?_⟩
     refine Xa0 ?_
     refine c5n (by kernel_rfl) ?_
     have hwW6:=hw3d.on (h4W.on h6)
     have k0:=k0
     rw [e2z,if_pos hk4] at k0 k1
     refine f2c (hst.next (h4W.on h6)) (fun i hi=>lL (hmu i hi) hwW6.size) hx hiv kd ix (fun e=>?_) (fun y e w' a b=>?_)
     ·have k0:=k0 e _ (h4W.on h6)
      refine Xa0 ?_
      exact k0
     ·have k1:=k1 y e w' a ((PuIt.below hwW6).trans b)
      refine Xa0 ?_
      exact k1
    ·have k0:=k0 (by
      rcases m with _ | ⟨e,m⟩
      ·rw [e2y,if_neg (by simpa using hk)]
      ·rfl)
     have hne:¬ ((kd :: ix :: d :: m).length:Int) = 2:=by simp only [List.length_cons]; omega
     refine Xf (fun W0 hW0=>An2 ((P5.next hW0).are) (cc5 _ hW0)) @hne ?_
     refine ⟨Nx,fun W6 h6=>?_⟩
     refine Xa0 ?_
     exact k0 _ (h4W.on h6)
end
end Go.Proofs
namespace PuSpec
open FdSpec TkSpec CodeSpec DkSpec JnSpec
variable {s:Stp} {lims:List Lim} {A:Ab} {p:Pst} {all sure:List a0f}
theorem a5r (v:Inv s lims A p all sure):∃ rj,a0s s lims [] p.j.recs = some rj ∧ Match rj p.items ∧ GoodI s lims rj:=by
 obtain ⟨rj,h1,h2⟩:=v.live
 exact ⟨rj,h1,h2,(a2z _ a9u h1).1⟩
def f6k (s:Stp) (lims:List Lim) (sure:List a0f) (B:Ab) (q:Pst):Prop:=∃ all' sure',sure <+: sure' ∧ Inv s lims B q all' sure'
theorem Inv.kept (v:Inv s lims A p all sure):f6k s lims sure A p:=⟨all,sure,List.prefix_refl _,v⟩
theorem b9m {rj items:List Itm} {recs:List a0f} (hr:a0s s lims [] recs = some rj) (hm:Match rj items):∀ (i:Nat) (x:Itm),items[i]? = some x → x.status = 1 ∨ x.status = 2 →
  ∃ rs y,a0s s lims [] recs = some rs ∧ rs[i]? = some y ∧ y.held = x.held ∧ y.dare = x.dare ∧ (y.status = 1 ∨ y.status = 2):=by
 intro i x hx hst
 obtain ⟨r,h1,h2⟩:=hm.get hx
 refine ⟨rj,r,hr,h1,h2.held.symm,?_⟩
 rcases h2.rest with ⟨a,b,_⟩ | ⟨_,a,_⟩
 ·exact ⟨b.symm,by rw [← a]; exact hst⟩
 ·omega
theorem d9o (v:Inv s lims A p all sure) (h:Hld) (w:WHld h) :
  f6k s lims sure (c0u s lims A p h).2.1 (c0u s lims A p h).2.2:=by
 unfold c0u
 by_cases he:a5s s lims p.items h = 0
 ·rw [if_neg (by simp [he])]
  obtain ⟨rj,h1,h2,g⟩:=a5r v
  have hc:validM s lims h = true ∧ c0x p.items h.t = false ∧ p.items.length < 400:=by
   unfold a5s at he
   split at he
   ·cases he
   ·rename_i hv
    split at he
    ·cases he
    ·rename_i hh
     split at he
     ·cases he
     ·rename_i hl
      exact ⟨by simpa using hv,by simpa using hh,by omega⟩
  have hl:h.links.length ≤ 4:=by
   have:=hc.1
   simp only [validM,a9i,Bool.and_eq_true,decide_eq_true_eq] at this
   omega
  have ht:a3o s lims rj (a4e h) = some (rj ++ [a2q h]):=by
   rw [b9l rj h w hl,if_pos]
   exact ⟨hc.1,by rw [h2.has]; exact hc.2.1,by rw [h2.1]; exact hc.2.2⟩
  rcases b3v v h1 ht with ⟨a1,a2,a3,a4,a5⟩ | ⟨a1,all',a2,a3⟩
  ·rw [if_neg (by rw [a1]; simp)]
   refine ⟨all ++ [a4e h],sure,List.prefix_refl _,⟨a3,⟨_,a5⟩,⟨_,by dsimp only; rw [a2]; exact a4,h2.push _⟩,?_⟩⟩
   intro i x hx hst
   dsimp only at hx
   rw [List.getElem?_append] at hx
   split at hx
   ·exact v.spent i x hx hst
   ·have:x = a2q h:=by
     rcases hk:i - p.items.length with _ | k
     ·rw [hk] at hx; simp only [List.getElem?_cons_zero,Option.some.injEq] at hx; exact hx.symm
     ·rw [hk] at hx; simp at hx
    rw [this] at hst
    simp [a2q] at hst
  ·rw [if_pos a1]
   exact ⟨all',sure,List.prefix_refl _,a3⟩
 ·rw [if_pos he]
  exact v.kept
theorem modify_set {l:List Itm} {i:Nat} {x:Itm} (h:l[i]? = some x) (f:Itm → Itm):l.modify i f = l.set i (f x):=by
 apply List.ext_getElem?
 intro j
 rw [List.getElem?_modify,List.getElem?_set]
 by_cases hj:i = j
 ·subst hj
  have hl:=(List.getElem?_eq_some_iff.1 h).1
  rw [h,if_pos rfl,if_pos hl]
  simp
 ·rw [if_neg hj]
  cases l[j]? <;> simp [hj]
theorem c9s (v:Inv s lims A p all sure) {i:Nat} {x:Itm} (hx:p.items[i]? = some x) (h0:x.status = 0) (hi:(i:Int) < 9223372036854775807) {kind dare:Int} (hk:kind = 1 ∨ kind = 3) (hd:1 ≤ dare) (hq:dare < s.g.Q) (hr:InR dare) :
  f6k s lims sure (a3y A p i kind dare).2.1 (a3y A p i kind dare).2.2:=by
 obtain ⟨rj,h1,h2,g⟩:=a5r v
 obtain ⟨r,hr1,hr2⟩:=h2.get hx
 have hrs:r.status = 0:=by
  rcases hr2.rest with ⟨a,_⟩ | ⟨a,b,_⟩ <;> omega
 have hstep:a8s s [kind,i,dare] r = some { r with status:=1,dare:=dare,lent:=decide (kind = 3) }:=by
  unfold a8s
  dsimp only
  rw [if_pos (by simpa using hk),if_pos (by simp [hrs,hd,hq])]
 have hin:∀ n ∈ [kind,(i:Int),dare],InR n:=by
  intro n hn
  simp only [List.mem_cons,List.not_mem_nil,or_false] at hn
  rcases hn with rfl | rfl | rfl
  ·rcases hk with rfl | rfl <;> exact ⟨by decide,by decide⟩
  ·exact ⟨by omega,by omega⟩
  ·exact hr
 have ht:=b1r (s:=s) (lims:=lims) rj [kind,i,dare] hin (.inr rfl) (i:=i) rfl hr1
 rw [hstep,Option.map_some] at ht
 unfold a3y
 rcases b3v v h1 ht with ⟨a1,a2,a3,a4,a5⟩ | ⟨a1,all',a2,a3⟩
 ·dsimp only
  rw [if_neg (by rw [a1]; simp)]
  obtain ⟨b1,b2⟩:=c3h a3 b6i
  rw [modify_set hx,modify_set hx]
  rcases b2 with ⟨b2,b3⟩ | ⟨b2,b3⟩
  ·rw [if_neg (by rw [b2]; simp)]
   have hm:Match (rj.set i { r with status:=1,dare:=dare,lent:=decide (kind = 3) }) (p.items.set i { x with dare:=dare,status:=1,lent:=decide (kind = 3) }):=
    h2.set i ⟨hr2.held,hr2.back,.inl ⟨rfl,rfl,rfl⟩⟩
   have hpre:sure <+: p.j.recs ++ [a0t [kind,i,dare]]:=by
    have:=b3.good.sub
    rw [a2] at this
    have hb:=a3.good.sub
    rcases a3 with ⟨_,hl⟩ | ⟨hbr,_⟩
    ·have:=hl.pre; rw [a2] at this; exact this
    ·exfalso
     unfold a5p at b2
     rw [if_pos hbr] at b2
     cases b2
   refine ⟨_,_,hpre,⟨by rw [a2] at b3; exact b3,⟨_,a5⟩,⟨_,by dsimp only; rw [b1,a2]; exact a4,hm⟩,b9m a4 hm⟩⟩
  ·rw [if_pos b2]
   have hl:x.lent = false:=by
    rcases hr2.rest with ⟨_,_,e⟩ | ⟨a,_⟩
    ·rw [e,(g.fr r (List.mem_of_getElem? hr1)).1 hrs]; rfl
    ·omega
   have hm:Match (rj.set i { r with status:=1,dare:=dare,lent:=decide (kind = 3) }) (p.items.set i { x with dare:=dare,status:=3 }):=
    h2.set i ⟨hr2.held,hr2.back,.inr ⟨rfl,rfl,rfl,fun e=>by rw [hl] at e; cases e⟩⟩
   refine ⟨_,sure,List.prefix_refl _,⟨b3,⟨_,a5⟩,⟨_,by dsimp only; rw [b1,a2]; exact a4,hm⟩,?_⟩⟩
   intro k y hy hst
   dsimp only at hy
   rw [List.getElem?_set] at hy
   split at hy
   ·split at hy
    ·cases hy; simp at hst
    ·cases hy
   ·exact v.spent k y hy hst
 ·dsimp only
  rw [if_pos a1]
  exact ⟨all',sure,List.prefix_refl _,a3⟩
theorem b1t {items:List Itm} {limit now:Int} (h:(a0j lims items limit now).2 = 0):∃ x,items[(a0j lims items limit now).1]? = some x ∧ a6w lims limit now x = true ∧ 0 ≤ limit ∧ limit < lims.length ∧ a6g now = true:=by
 unfold a0j at h ⊢
 split at h
 ·cases h
 ·rename_i hc
  rw [if_neg hc]
  simp only [Bool.or_eq_true,decide_eq_true_eq,Bool.not_eq_true',not_or,Bool.not_eq_false] at hc
  split at h
  ·cases h
  ·rename_i i hi
   dsimp only
   obtain ⟨hl,h1,_⟩:=List.findIdx?_eq_some_iff_getElem.1 hi
   exact ⟨items[i],List.getElem?_eq_getElem hl,h1,by omega,by omega,hc.2⟩
theorem c3s {limit now:Int} {x:Itm} (h:a6w lims limit now x = true):x.status = 0:=by
 simp only [a6w,Bool.and_eq_true,decide_eq_true_eq] at h
 exact h.1.1
theorem c6w (v:Inv s lims A p all sure) {limit now dare:Int} (hr:InR dare) (hn:(p.items.length:Int) ≤ 1000000) :
  f6k s lims sure (a2l s lims A p limit now dare).2.1 (a2l s lims A p limit now dare).2.2:=by
 unfold a2l
 split
 ·exact v.kept
 ·rename_i h1
  split
  ·exact v.kept
  ·rename_i h2
   obtain ⟨x,hx,hf,_⟩:=b1t (Decidable.not_not.1 h2)
   have hl:=(List.getElem?_eq_some_iff.1 hx).1
   have k:=c9s v hx (c3s hf) (by omega) (kind:=1) (.inl rfl) (dare:=dare) (by omega) (by omega) hr
   split <;> exact k
theorem c9t (v:Inv s lims A p all sure) {i kind:Int} (hk:kind = 2 ∨ kind = 4) (hr:InR i) :
  f6k s lims sure (a6f A p i kind).2.1 (a6f A p i kind).2.2:=by
 unfold a6f
 split
 ·exact v.kept
 ·rename_i h0
  split
  ·exact v.kept
  ·rename_i x hx
   split
   ·exact v.kept
   ·rename_i y hy
    obtain ⟨rj,h1,h2,g⟩:=a5r v
    obtain ⟨r,hr1,hr2⟩:=h2.get hx
    have hin:∀ n ∈ [kind,i],InR n:=by
     intro n hn
     simp only [List.mem_cons,List.not_mem_nil,or_false] at hn
     rcases hn with rfl | rfl
     ·rcases hk with rfl | rfl <;> exact ⟨by decide,by decide⟩
     ·exact hr
    have ht:=b1r (s:=s) (lims:=lims) rj [kind,i] hin (.inl rfl) (i:=i.toNat) (show i = _ by omega) hr1
    have key:∃ r',a8s s [kind,i] r = some r' ∧ RelI r' y ∧ (y.status = 1 ∨ y.status = 2 → x.status = 1 ∨ x.status = 2) ∧ y.held = x.held ∧ y.dare = x.dare:=by
     unfold b2t at hy
     split at hy
     ·rename_i hc
      cases hy
      have hrs:r.status = 1 ∧ x.dare = r.dare ∧ x.lent = r.lent:=by
       rcases hr2.rest with ⟨a,b,c⟩ | ⟨_,a,_⟩
       ·exact ⟨by rw [← a]; exact hc.2,b,c⟩
       ·omega
      refine ⟨{ r with status:=2 },?_,⟨hr2.held,hr2.back,.inl ⟨rfl,hrs.2.1,hrs.2.2⟩⟩,fun _=>.inl hc.2,rfl,rfl⟩
      unfold a8s
      dsimp only
      rw [if_pos hc.1,if_pos hrs.1]
     ·split at hy
      ·rename_i hc
       cases hy
       have hrl:r.lent = true ∧ r.back = false:=by
        refine ⟨?_,by rw [← hr2.back]; exact hc.2.2⟩
        rcases hr2.rest with ⟨_,_,c⟩ | ⟨_,_,_,c⟩
        ·rw [← c]; exact hc.2.1
        ·exact c hc.2.1
       refine ⟨{ r with back:=true },?_,⟨hr2.held,rfl,hr2.rest⟩,id,rfl,rfl⟩
       unfold a8s
       dsimp only
       rw [if_neg (by omega),if_pos hc.1,if_pos (by simp [hrl.1,hrl.2])]
      ·cases hy
    obtain ⟨r',k1,k2,k3,k4,k5⟩:=key
    rw [k1,Option.map_some] at ht
    rcases b3v v h1 ht with ⟨a1,a2,a3,a4,a5⟩ | ⟨a1,all',a2,a3⟩
    ·dsimp only
     rw [if_neg (by rw [a1]; simp)]
     refine ⟨_,sure,List.prefix_refl _,⟨a3,⟨_,a5⟩,⟨_,by dsimp only; rw [a2]; exact a4,h2.set _ k2⟩,?_⟩⟩
     intro k z hz hst
     dsimp only at hz
     rw [List.getElem?_set] at hz
     split at hz
     ·rename_i hik
      split at hz
      ·cases hz
       obtain ⟨rs,u,u1,u2,u3,u4,u5⟩:=v.spent _ x hx (k3 hst)
       exact ⟨rs,u,u1,by rw [← hik]; exact u2,by rw [k4]; exact u3,by rw [k5]; exact u4,u5⟩
      ·cases hz
     ·exact v.spent k z hz hst
    ·dsimp only
     rw [if_pos a1]
     exact ⟨all',sure,List.prefix_refl _,a3⟩
end PuSpec
namespace FdPoly
end FdPoly
namespace FdPoly
open FdSpec
theorem e5a {n a b:Int} (hn:okN n):n ∣ c8v n a b - (a + b):=by
 unfold c8v; rw [if_pos hn]
 have:=Int.emod_add_mul_ediv (a + b) n
 exact ⟨-((a + b) / n),by grind⟩
theorem b5d {n a b:Int} (hn:okN n):n ∣ b5e n a b - a * b:=by
 unfold b5e; rw [if_pos hn]
 have:=Int.emod_add_mul_ediv (a * b) n
 exact ⟨-(a * b / n),by grind⟩
theorem f7w (n a:Int):n ∣ a % n - a:=by
 have:=Int.emod_add_mul_ediv a n
 exact ⟨-(a / n),by grind⟩
end FdPoly
namespace FdPoly
open FdSpec
theorem g1v {q a b:Int} (h:q ∣ a - b) (ha:0 ≤ a ∧ a < q) (hb:0 ≤ b ∧ b < q):a = b:=by
 obtain ⟨k,hk⟩:=h
 have h1:k < 1:=by
  refine Classical.byContradiction fun hn=>?_
  have:q * 1 ≤ q * k:=Int.mul_le_mul_of_nonneg_left (by omega) (by omega)
  omega
 have h2:-1 < k:=by
  refine Classical.byContradiction fun hn=>?_
  have:q * k ≤ q * (-1):=Int.mul_le_mul_of_nonneg_left (by omega) (by omega)
  omega
 have:k = 0:=by omega
 subst this
 omega
end FdPoly
namespace FdPoly
open FdSpec
end FdPoly
namespace GrLaw
open FdSpec FdPoly TkSpec
def Cg (P a b:Int):Prop:=P ∣ a - b
section
variable {P a b c d x y:Int}
theorem Cg.refl (P a:Int):Cg P a a:=⟨0,by omega⟩
theorem Cg.symm (h:Cg P a b):Cg P b a:=by obtain ⟨k,hk⟩:=h; exact ⟨-k,by grind⟩
theorem Cg.trans (h:Cg P a b) (h2:Cg P b c):Cg P a c:=by obtain ⟨k,hk⟩:=h; obtain ⟨m,hm⟩:=h2; exact ⟨k + m,by grind⟩
theorem Cg.mul (h:Cg P a b) (h2:Cg P c d):Cg P (a * c) (b * d):=by obtain ⟨k,hk⟩:=h; obtain ⟨m,hm⟩:=h2; exact ⟨k * c + b * m,by grind⟩
theorem Cg.pow (h:Cg P a b):∀ n:Nat,Cg P (a ^ n) (b ^ n)
 | 0=>by rw [Int.pow_zero,Int.pow_zero]; exact Cg.refl _ _
 | n + 1=>by rw [Int.pow_succ,Int.pow_succ]; exact (Cg.pow h n).mul h
theorem Cg.mod (P a:Int):Cg P (a % P) a:=f7w P a
theorem Cg.emod (h:Cg P a b):a % P = b % P:=by
 obtain ⟨k,hk⟩:=h
 have:a = b + P * k:=by omega
 rw [this,Int.add_mul_emod_self_left]
theorem Cg.of_emod (h:a % P = b % P):Cg P a b:=(Cg.mod P a).symm.trans (by rw [h]; exact Cg.mod P b)
theorem Cg.eq (h:Cg P a b) (ha:0 ≤ a ∧ a < P) (hb:0 ≤ b ∧ b < P):a = b:=g1v h ha hb
theorem d4p {n:Nat} (h:Cg P (x ^ n) 1) (k:Nat):Cg P (x ^ k) (x ^ (k % n)):=by
 have e:x ^ k = (x ^ n) ^ (k / n) * x ^ (k % n):=by
  rw [← Int.pow_mul,← Int.pow_add,Nat.div_add_mod]
 rw [e]
 have h1:=h.pow (k / n)
 rw [Int.one_pow] at h1
 have:=h1.mul (Cg.refl P (x ^ (k % n)))
 rwa [Int.one_mul] at this
theorem c8w {n:Nat} (h:Cg P (x ^ n) 1) {j k:Nat} (e:j % n = k % n):Cg P (x ^ j) (x ^ k):=by
 have h1:=d4p h j
 rw [e] at h1
 exact h1.trans (d4p h k).symm
end
structure Gv (g:Grp):Prop where
 q0:5 ≤ g.Q
 q1:g.Q < 1152921504606846976
 p:g.P = 2 * g.Q + 1
 g0:2 ≤ g.G
 g1:g.G < g.P
 pq:b2m g.Q = true
 gq:pw g.P g.G g.Q.toNat = 1
theorem g8r {g:Grp} (h:a4z g = true):Gv g:=by
 unfold a4z at h
 split at h
 ·cases h
 ·simp only [Bool.and_eq_true,decide_eq_true_eq] at h
  exact ⟨by omega,by omega,by omega,by omega,by omega,h.1.1,h.2⟩
def Ex (g:Grp) (x k:Int):Int:=x ^ (k % g.Q).toNat
def El (g:Grp) (x:Int):Prop:=Cg g.P (x ^ g.Q.toNat) 1
section
variable {g:Grp} {x y a b:Int}
theorem Gv.okP (h:Gv g):okN g.P:=by have:=h.q0; have:=h.q1; have:=h.p; exact ⟨by omega,by omega⟩
theorem Gv.okQ (h:Gv g):okN g.Q:=by have:=h.q0; have:=h.q1; exact ⟨by omega,by omega⟩
theorem El.of_pw (h:Gv g) (hx:pw g.P x g.Q.toNat = 1):El g x:=by
 refine Cg.of_emod ?_
 have e:x ^ g.Q.toNat % g.P = 1:=hx
 rw [e,Int.emod_eq_of_lt (by omega) (by have:=h.q0; have:=h.p; omega)]
theorem El.of_elem (h:Gv g) (hx:b5t g x = true):El g x ∧ 1 ≤ x ∧ x < g.P:=by
 unfold b5t at hx
 simp only [Bool.and_eq_true,decide_eq_true_eq] at hx
 exact ⟨El.of_pw h hx.2,hx.1.1.1,hx.1.1.2⟩
theorem El.mul (hx:El g x) (hy:El g y):El g (x * y):=by
 unfold El
 rw [Int.mul_pow]
 have:=Cg.mul hx hy
 rwa [Int.one_mul] at this
theorem El.pow (hx:El g x) (n:Nat):El g (x ^ n):=by
 unfold El
 rw [← Int.pow_mul,Nat.mul_comm,Int.pow_mul]
 have:=Cg.pow hx n
 rwa [Int.one_pow] at this
theorem a8d {Q k:Int} (hQ:0 < Q):(((k % Q).toNat:Nat):Int) = k % Q:=Int.toNat_of_nonneg (Int.emod_nonneg _ (by omega))
theorem d4q {Q:Int} (hQ:0 < Q) {m n:Nat} (h:(m:Int) % Q = (n:Int) % Q):m % Q.toNat = n % Q.toNat:=by
 have hq:((Q.toNat:Nat):Int) = Q:=Int.toNat_of_nonneg (by omega)
 have:((m % Q.toNat:Nat):Int) = ((n % Q.toNat:Nat):Int):=by
  rw [Int.natCast_emod,Int.natCast_emod,hq]; exact h
 omega
theorem g1w (h:Gv g) (hx:El g x) (a b:Int):Cg g.P (Ex g x (a + b)) (Ex g x a * Ex g x b):=by
 unfold Ex
 rw [← Int.pow_add]
 have hQ:0 < g.Q:=by have:=h.q0; omega
 refine c8w hx (d4q hQ ?_)
 push_cast
 rw [a8d hQ,a8d hQ,a8d hQ]
 rw [Int.emod_emod_of_dvd _ (Int.dvd_refl _),← Int.add_emod]
theorem f2v (h:Gv g) (hx:El g x) (a b:Int):Cg g.P (Ex g x (a * b)) (Ex g x a ^ (b % g.Q).toNat):=by
 unfold Ex
 rw [← Int.pow_mul]
 have hQ:0 < g.Q:=by have:=h.q0; omega
 refine c8w hx (d4q hQ ?_)
 push_cast
 rw [a8d hQ,a8d hQ,a8d hQ]
 rw [Int.emod_emod_of_dvd _ (Int.dvd_refl _),← Int.mul_emod]
theorem f8e (e:a % g.Q = b % g.Q):Ex g x a = Ex g x b:=by unfold Ex; rw [e]
theorem g1x (h:Cg g.P x y) (a:Int):Cg g.P (Ex g x a) (Ex g y a):=h.pow _
theorem El.ex (hx:El g x) (a:Int):El g (Ex g x a):=hx.pow _
theorem c2x (h:Gv g) (x k:Int):a3h g x k = Ex g x k % g.P:=by
 unfold a3h
 rw [if_pos ⟨h.okP,h.okQ⟩]; rfl
theorem b5u (h:Gv g) (x k:Int):Cg g.P (a3h g x k) (Ex g x k):=by rw [c2x h]; exact Cg.mod _ _
theorem d4r (h:Gv g) (a b:Int):Cg g.P (a9h g a b) (a * b):=by
 unfold a9h
 rw [if_pos h.okQ]
 exact b5d h.okP
theorem c2y (h:Gv g) (a b:Int):0 ≤ a9h g a b ∧ a9h g a b < g.P:=by
 unfold a9h
 rw [if_pos h.okQ]
 exact b0q _ _ _ h.okP
def PX (g:Grp):List (Int × Int) → Int
 | []=>1
 | (b,e) :: l=>Ex g b e * PX g l
theorem c8x (h:Gv g):∀ (l:List (Int × Int)) (out:Int),Cg g.P (b2n g out l) (out * PX g l)
 | [],out=>by simp [b2n,PX]; exact Cg.refl _ _
 | (b,e) :: l,out=>by
  rw [b2n,PX]
  refine (c8x h l _).trans ?_
  have h1:Cg g.P (b5e g.P out (a3h g b e)) (out * Ex g b e):=(show Cg g.P _ _ from b5d h.okP).trans ((Cg.refl _ out).mul (b5u h b e))
  have:=h1.mul (Cg.refl g.P (PX g l))
  have e2:out * Ex g b e * PX g l = out * (Ex g b e * PX g l):=Int.mul_assoc _ _ _
  rwa [e2] at this
theorem b5v (h:Gv g):∀ (l:List (Int × Int)) (out:Int),0 ≤ out ∧ out < g.P → 0 ≤ b2n g out l ∧ b2n g out l < g.P
 | [],out,ho=>ho
 | (b,e) :: l,out,_=>by rw [b2n]; exact b5v h l _ (b0q _ _ _ h.okP)
theorem f2w {T:Type} (h:Gv g) (f:T → Int) (u v w:T → Int) (d:Int):∀ l:List T,(∀ t ∈ l,El g (f t)) → (∀ t ∈ l,w t % g.Q = (u t + d * v t) % g.Q) →
  Cg g.P (PX g (l.map fun t=>(f t,w t))) (PX g (l.map fun t=>(f t,u t)) * PX g (l.map fun t=>(f t,v t)) ^ (d % g.Q).toNat)
 | [],_,_=>by simp [PX,Int.one_pow]; exact Cg.refl _ _
 | t :: l,he,hw=>by
  have ih:=f2w h f u v w d l (fun s hs=>he s (by simp [hs])) (fun s hs=>hw s (by simp [hs]))
  have ht:=he t (by simp)
  simp only [List.map_cons,PX]
  have h1:Cg g.P (Ex g (f t) (w t)) (Ex g (f t) (u t) * Ex g (f t) (v t) ^ (d % g.Q).toNat):=by
   rw [f8e (hw t (by simp))]
   refine (g1w h ht _ _).trans ((Cg.refl _ _).mul ?_)
   rw [Int.mul_comm d]
   exact f2v h ht _ _
  have h2:=h1.mul ih
  rw [Int.mul_pow]
  have e:Ex g (f t) (u t) * Ex g (f t) (v t) ^ (d % g.Q).toNat * (PX g (l.map fun t=>(f t,u t)) * PX g (l.map fun t=>(f t,v t)) ^ (d % g.Q).toNat) = Ex g (f t) (u t) * PX g (l.map fun t=>(f t,u t)) * (Ex g (f t) (v t) ^ (d % g.Q).toNat * PX g (l.map fun t=>(f t,v t)) ^ (d % g.Q).toNat):=by
   generalize Ex g (f t) (u t) = A
   generalize Ex g (f t) (v t) ^ (d % g.Q).toNat = B
   generalize PX g (l.map fun t=>(f t,u t)) = C
   generalize PX g (l.map fun t=>(f t,v t)) ^ (d % g.Q).toNat = D
   grind
  rw [e] at h2
  exact h2
theorem g1y {T:Type} (h:Gv g) (f u:T → Int):∀ l:List T,(∀ t ∈ l,El g (f t)) → El g (PX g (l.map fun t=>(f t,u t)))
 | [],_=>by simp [PX,El,Int.one_pow]; exact Cg.refl _ _
 | t :: l,he=>by
  simp only [List.map_cons,PX]
  exact ((he t (by simp)).ex _).mul (g1y h f u l (fun s hs=>he s (by simp [hs])))
end
end GrLaw
namespace PrSpec
open FdSpec TkSpec CodeSpec FdPoly
end PrSpec
namespace PrSpec
open FdSpec TkSpec CodeSpec FdPoly GrLaw
end PrSpec
namespace PrSpec
open FdSpec TkSpec CodeSpec FdPoly GrLaw
end PrSpec
namespace PrSpec
open FdSpec TkSpec CodeSpec FdPoly GrLaw
end PrSpec
namespace PrSpec
open FdSpec TkSpec CodeSpec FdPoly GrLaw
end PrSpec
namespace PrSpec
open FdSpec TkSpec CodeSpec FdPoly GrLaw
end PrSpec
namespace PrSpec
open FdSpec TkSpec CodeSpec FdPoly GrLaw
end PrSpec
namespace PrSpec
open FdSpec TkSpec CodeSpec FdPoly GrLaw
end PrSpec
namespace PrSpec
open FdSpec TkSpec CodeSpec FdPoly GrLaw
end PrSpec
namespace PrSpec
open FdSpec TkSpec CodeSpec FdPoly GrLaw
theorem b9j {n:Int} (hn:okN n):∀ (l:List UInt8) (o:Int),0 ≤ o ∧ o < n → 0 ≤ l.foldl (b2c n) o ∧ l.foldl (b2c n) o < n
 | [],o,h=>h
 | b :: l,o,h=>b9j hn l _ (a8c _ _ _ hn)
theorem numberM_in {n:Int} (hn:okN n) (s:a0f):0 ≤ a7h s n ∧ a7h s n < n:=by
 unfold a7h
 rw [if_pos hn]
 exact b9j hn _ 0 ⟨by omega,by have:=hn.1; omega⟩
end PrSpec
namespace PrSpec
open FdSpec TkSpec CodeSpec FdPoly GrLaw
end PrSpec
namespace PrSpec
open FdSpec TkSpec CodeSpec FdPoly GrLaw
end PrSpec
namespace PrSpec
open FdSpec TkSpec CodeSpec FdPoly GrLaw
end PrSpec
namespace PrSpec
open FdSpec TkSpec CodeSpec FdPoly GrLaw
end PrSpec
namespace PrSpec
open FdSpec TkSpec CodeSpec FdPoly GrLaw
theorem c6u {g:Grp} (h:Gv g) {bs es:List Int} (hl:bs.length = es.length):Cg g.P (a5z g bs es).1 (PX g (bs.zip es)) ∧ 0 ≤ (a5z g bs es).1 ∧ (a5z g bs es).1 < g.P:=by
 have hp:=h.okP
 have hq:=h.okQ
 have hp0:0 < g.P:=by have:=hp.1; omega
 unfold a5z
 rw [if_pos ⟨hp,hq,hl⟩]
 have h1:=c8x h (bs.zip es) (1 % g.P)
 have h2:=b5v h (bs.zip es) (1 % g.P) ⟨Int.emod_nonneg _ (by omega),Int.emod_lt_of_pos _ hp0⟩
 refine ⟨h1.trans ?_,h2⟩
 have:=(Cg.mod g.P 1).mul (Cg.refl g.P (PX g (bs.zip es)))
 rwa [Int.one_mul] at this
end PrSpec
namespace PuSpec
open FdSpec TkSpec CodeSpec GrLaw FdPoly PrSpec
theorem b2v {s:Stp} (h:a1j s = true):Gv s.g ∧ (∀ x ∈ s.bases,El s.g x):=by
 simp only [a1j,Bool.and_eq_true,List.all_eq_true] at h
 have g:=g8r h.1.1.1.1
 refine ⟨g,fun x hx=>?_⟩
 have:=h.1.2 x hx
 simp only [a8m,Bool.and_eq_true] at this
 exact (El.of_elem g this.2).1
theorem c9x:∀ (a b c:List Int),b.length = a.length → c.length = a.length → (a.zip (b.zip c)).map (fun t=>(t.1,t.2.1)) = a.zip b ∧ (a.zip (b.zip c)).map (fun t=>(t.1,t.2.2)) = a.zip c
 | [],b,c,_,_=>by simp
 | x :: a,[],c,h,_=>by simp at h
 | x :: a,y :: b,[],_,h=>by simp at h
 | x :: a,y :: b,z :: c,h,k=>by
  obtain ⟨h1,h2⟩:=c9x a b c (by simpa using h) (by simpa using k)
  simp only [List.zip_cons_cons,List.map_cons,h1,h2,and_self]
theorem c9y (f:Int × Int → Int):∀ (a b c:List Int),b.length = a.length → c.length = a.length → (a.zip (b.zip c)).map (fun t=>(t.1,f (t.2.2,t.2.1))) = a.zip ((c.zip b).map f)
 | [],b,c,_,_=>by simp
 | x :: a,[],c,h,_=>by simp at h
 | x :: a,y :: b,[],_,h=>by simp at h
 | x :: a,y :: b,z :: c,h,k=>by
  have h1:=c9y f a b c (by simpa using h) (by simpa using k)
  simp only [List.zip_cons_cons,List.map_cons,h1]
structure Hv (s:Stp) (h:Hld):Prop where
 vs:a1j s = true
 al:h.attrs.length + 1 = s.bases.length
 yl:h.bl.ys.length = s.bases.length
 ar:∀ n ∈ h.attrs,0 ≤ n ∧ n < s.g.Q
 yr:∀ n ∈ h.bl.ys,0 ≤ n ∧ n < s.g.Q
 s1:1 ≤ h.bl.s ∧ h.bl.s < s.g.Q
 u1:1 ≤ h.bl.u ∧ h.bl.u < s.g.Q
 v1:0 ≤ h.bl.v ∧ h.bl.v < s.g.Q
 hd:1 ≤ h.attrs.headD 0
 fm:a6b s h.t = true
 mq:h.t.mark = a3h s.g (a9m s h.attrs).1 h.bl.s
 fs:h.t.first = (a5z s.g s.bases h.bl.ys).1
theorem c3w (q:Int) (l:List Int):a2p q l = true ↔ ∀ n ∈ l,0 ≤ n ∧ n < q:=by
 simp only [a2p,Bool.not_eq_true',List.any_eq_false,Bool.or_eq_true,decide_eq_true_eq,not_or]
 constructor <;> intro h n hn <;> have:=h n hn <;> omega
theorem e9k {s:Stp} {lims:List Lim} {h:Hld} (v:validM s lims h = true):Hv s h:=by
 simp only [validM,Bool.and_eq_true,decide_eq_true_eq,c3w] at v
 obtain ⟨⟨⟨⟨⟨⟨⟨⟨⟨⟨⟨⟨⟨⟨⟨⟨v1,v2⟩,v3⟩,v4⟩,v5⟩,v6⟩,v7⟩,v8⟩,v9⟩,v10⟩,v11⟩,v12⟩,v13⟩,v14⟩,v15⟩,v16⟩,v17⟩:=v
 have a:=v12 h.bl.s (by simp)
 have b:=v12 h.bl.u (by simp)
 have c:=v12 h.bl.v (by simp)
 exact ⟨v1,by omega,v9,v10,v11,by omega,by omega,c,v8,v15,v16,v17⟩
theorem b2w {s:Stp} {n:Int} {l:List Int}:a5l s n l = true ↔ ∀ x ∈ l,n ≤ x ∧ x < s.g.Q:=by simp [a5l]
theorem b6m {s:Stp} {h:Hld} (v:Hv s h) {dare:Int} (hd:1 ≤ dare ∧ dare < s.g.Q) :
  (b7s s h.attrs h.bl dare).2 = true ∧ (b7s s h.attrs h.bl dare).1.dare = dare ∧ a4b s h.t (b7s s h.attrs h.bl dare).1 = true:=by
 obtain ⟨g,el⟩:=b2v v.vs
 have ok:=g.okQ
 have okP:=g.okP
 have hm:a9m s h.attrs = ((a5z s.g s.bases (a5m h.attrs)).1,true):=by
  unfold a9m
  rw [if_pos]
  have:=v.hd
  simp only [v.vs,v.al,decide_true,Bool.and_true,Bool.true_and,Bool.and_eq_true,b2w,Bool.not_eq_true',decide_eq_false_iff_not]
  exact ⟨v.ar,by omega⟩
 have le:(a5m h.attrs).length = s.bases.length:=by simp [a5m,v.al]
 obtain ⟨pe,pe0,pe1⟩:=c6u g (bs:=s.bases) (es:=a5m h.attrs) le.symm
 obtain ⟨py,py0,py1⟩:=c6u g (bs:=s.bases) (es:=h.bl.ys) v.yl.symm
 generalize hM:(a5z s.g s.bases (a5m h.attrs)).1 = M at *
 have hmk:h.t.mark = a3h s.g M h.bl.s:=by rw [v.mq,hm]
 have hne:M ≠ 1:=by
  intro e
  have hf:=v.fm
  simp only [a6b,Bool.and_eq_true,Bool.not_eq_true',decide_eq_false_iff_not] at hf
  apply hf.1.1.2
  rw [hmk,c2x g,e]
  have:=g.okP.1
  have:=g.q0
  have:=g.p
  unfold Ex
  rw [Int.one_pow]
  exact Int.emod_eq_of_lt (by omega) (by omega)
 have hu:(a7f s h.attrs).2 = true:=by simp [a7f,hm,hne]
 have hb:a7g s h.bl = true:=by
  simp only [a7g,Bool.and_eq_true,b2w,decide_eq_true_eq]
  refine ⟨⟨⟨?_,?_⟩,v.yl⟩,v.yr⟩
  ·intro x hx
   simp only [List.mem_cons,List.not_mem_nil,or_false] at hx
   rcases hx with rfl | rfl
   ·exact v.s1
   ·exact v.u1
  ·intro x hx
   simp only [List.mem_cons,List.not_mem_nil,or_false] at hx
   subst hx; exact v.v1
 have hn1:a5l s 1 [dare] = true:=b2w.2 (by intro x hx; simp only [List.mem_cons,List.not_mem_nil,or_false] at hx; subst hx; exact hd)
 have hu2:b7s s h.attrs h.bl dare = (⟨dare,((a5m h.attrs).zip h.bl.ys).map fun p=>b4y s p.2 (c7x s dare [h.bl.s,p.1])⟩,true):=by
  unfold b7s
  rw [if_pos (by simp [hu,hb,hn1])]
 rw [hu2]
 refine ⟨rfl,rfl,?_⟩
 have hal:(((a5m h.attrs).zip h.bl.ys).map fun p=>b4y s p.2 (c7x s dare [h.bl.s,p.1])).length = s.bases.length:=by
  rw [List.length_map,List.length_zip,le,v.yl]; omega
 have hrange:a5l s 0 (((a5m h.attrs).zip h.bl.ys).map fun p=>b4y s p.2 (c7x s dare [h.bl.s,p.1])) = true:=by
  rw [b2w]
  intro x hx
  obtain ⟨p,_,rfl⟩:=List.mem_map.1 hx
  exact a8c _ _ _ ok
 unfold a4b
 dsimp only
 rw [if_pos (by simp only [v.fm,hn1,hal,decide_true,hrange,Bool.and_self]),decide_eq_true_eq]
 obtain ⟨pa,pa0,pa1⟩:=c6u g (bs:=s.bases) (es:=((a5m h.attrs).zip h.bl.ys).map fun p=>b4y s p.2 (c7x s dare [h.bl.s,p.1])) hal.symm
 have hadd:=f2w g (T:=Int × Int × Int) (fun t=>t.1) (fun t=>t.2.1) (fun t=>t.2.2) (fun t=>b4y s t.2.1 (c7x s dare [h.bl.s,t.2.2])) (dare * h.bl.s) (s.bases.zip (h.bl.ys.zip (a5m h.attrs)))
  (fun t ht=>el _ (List.of_mem_zip ht).1) (fun t _=>by
   apply Cg.emod
   have h1:Cg s.g.Q (c7x s dare [h.bl.s,t.2.2]) (dare * h.bl.s * t.2.2):=by
    show Cg s.g.Q (b5e s.g.Q (b5e s.g.Q dare h.bl.s) t.2.2) _
    exact (show Cg s.g.Q _ _ from b5d ok).trans ((show Cg s.g.Q _ _ from b5d ok).mul (Cg.refl _ _))
   have h2:Cg s.g.Q (b4y s t.2.1 (c7x s dare [h.bl.s,t.2.2])) (t.2.1 + c7x s dare [h.bl.s,t.2.2]):=e5a ok
   refine h2.trans ?_
   obtain ⟨k,hk⟩:=h1
   exact ⟨k,by rw [← hk]; omega⟩)
 obtain ⟨z1,z2⟩:=c9x s.bases h.bl.ys (a5m h.attrs) v.yl le
 have z3:=c9y (fun p=>b4y s p.2 (c7x s dare [h.bl.s,p.1])) s.bases h.bl.ys (a5m h.attrs) v.yl le
 rw [z1,z2,z3] at hadd
 have hr:c5a s (a3h s.g h.t.mark dare) [h.t.first] = a9h s.g (a3h s.g h.t.mark dare) h.t.first:=rfl
 rw [hr]
 obtain ⟨t0,t1⟩:=c2y g (a3h s.g h.t.mark dare) h.t.first
 refine Cg.eq ?_ ⟨pa0,pa1⟩ ⟨t0,t1⟩
 refine pa.trans (hadd.trans ?_)
 refine Cg.symm ((d4r g _ _).trans ?_)
 have e1:Cg s.g.P (a3h s.g h.t.mark dare) (Ex s.g (PX s.g (s.bases.zip (a5m h.attrs))) (dare * h.bl.s)):=by
  have elp:El s.g (PX s.g (s.bases.zip (a5m h.attrs))):=by
   have:=g1y g (T:=Int × Int × Int) (fun t=>t.1) (fun t=>t.2.2) (s.bases.zip (h.bl.ys.zip (a5m h.attrs))) (fun t ht=>el _ (List.of_mem_zip ht).1)
   rwa [z2] at this
  refine (b5u g _ _).trans ?_
  rw [hmk,Int.mul_comm dare]
  refine Cg.trans (g1x ((b5u g _ _).trans (g1x pe _)) dare) ?_
  exact (f2v g elp h.bl.s dare).symm
 have e2:=e1.mul (show Cg s.g.P h.t.first (PX s.g (s.bases.zip h.bl.ys)) by rw [v.fs]; exact py)
 refine e2.trans ?_
 rw [Int.mul_comm (PX s.g (s.bases.zip h.bl.ys))]
 exact Cg.refl _ _
end PuSpec
namespace PuSpec
open FdSpec TkSpec CodeSpec DkSpec JnSpec
abbrev Sps:=List (Tkt × Spd)
def b4u (l:Sps) (t:Tkt) (sp:Spd):Sps × Bool:=
 match l.find? fun e=>decide (e.1 = t) with
 | some e=>(l,decide (e.2 = sp))
 | none=>(l ++ [(t,sp)],true)
def b5g (s:Stp) (x:Itm):Spd:=(b7s s x.held.attrs x.held.bl x.dare).1
def a7s (s:Stp):List Itm → Sps → Sps × Bool
 | [],l=>(l,true)
 | x :: xs,l=>
  if x.status = 1 ∨ x.status = 2 then
   if !(b4u l x.held.t (b5g s x)).2 || !decide ((b5g s x).dare = x.dare) || !a4b s x.held.t (b5g s x) then (l,false)
   else a7s s xs (b4u l x.held.t (b5g s x)).1
  else a7s s xs l
variable {s:Stp} {lims:List Lim} {A:Ab} {p:Pst} {all sure:List a0f}
def Borne (s:Stp) (lims:List Lim) (sure:List a0f) (t:Tkt) (sp:Spd):Prop:=
 ∃ (rs:List Itm) (i:Nat) (y:Itm),a0s s lims [] sure = some rs ∧ rs[i]? = some y ∧ (y.status = 1 ∨ y.status = 2) ∧ y.held.t = t ∧ sp = b5g s y
def b6j (s:Stp) (lims:List Lim) (sure:List a0f) (l:Sps):Prop:=∀ e ∈ l,Borne s lims sure e.1 e.2
theorem Borne.same {t:Tkt} {a b:Spd} (h:Borne s lims sure t a) (k:Borne s lims sure t b):a = b:=by
 obtain ⟨rs,i,y,h1,h2,h3,h4,rfl⟩:=h
 obtain ⟨rs',j,z,k1,k2,k3,k4,rfl⟩:=k
 rw [h1] at k1
 cases k1
 have g:=(a2z _ a9u h1).1
 have e:=g.uniq i j y z h2 k2 (by rw [h4,k4])
 subst e
 rw [h2] at k2
 cases k2
 rfl
theorem Borne.ok {t:Tkt} {a:Spd} (h:Borne s lims sure t a):a4b s t a = true:=by
 obtain ⟨rs,i,y,h1,h2,h3,h4,rfl⟩:=h
 have g:=(a2z _ a9u h1).1
 have m:=List.mem_of_getElem? h2
 have:=(b6m (e9k (g.val y m)) ((g.fr y m).2 (by omega))).2.2
 rw [h4] at this
 exact this
theorem Borne.mono {sure':List a0f} {t:Tkt} {a:Spd} (h:Borne s lims sure t a) (hp:sure <+: sure') {m:List Itm} (hr:a0s s lims [] sure' = some m):Borne s lims sure' t a:=by
 obtain ⟨rs,i,y,h1,h2,h3,h4,rfl⟩:=h
 obtain ⟨l,e1,g1,g2,lt⟩:=a6u hp hr
 rw [h1] at e1
 cases e1
 obtain ⟨z,hz,k⟩:=lt i y h2
 have mz:=g2.raw z (List.mem_of_getElem? hz)
 have ku:=k.up
 refine ⟨m,i,z,hr,hz,by omega,by rw [k.held]; exact h4,?_⟩
 unfold b5g
 rw [k.held,(k.dare (by omega)).1]
theorem c9c {l:Sps} (h:b6j s lims sure l) {t:Tkt} {a:Spd} (k:Borne s lims sure t a):(b4u l t a).2 = true ∧ b6j s lims sure (b4u l t a).1:=by
 unfold b4u
 split
 ·rename_i e he
  refine ⟨?_,h⟩
  have hm:=List.mem_of_find?_eq_some he
  have ht:e.1 = t:=by simpa using List.find?_some he
  have:=h e hm
  rw [ht] at this
  rw [decide_eq_true_eq]
  exact this.same k
 ·refine ⟨rfl,fun e he=>?_⟩
  rcases List.mem_append.1 he with he | he
  ·exact h e he
  ·simp only [List.mem_singleton] at he
   subst he; exact k
theorem c6x:∀ (xs:List Itm) {l:Sps},b6j s lims sure l → (∀ x ∈ xs,x.status = 1 ∨ x.status = 2 → Borne s lims sure x.held.t (b5g s x) ∧ (b5g s x).dare = x.dare) → (a7s s xs l).2 = true ∧ b6j s lims sure (a7s s xs l).1
 | [],l,h,_=>⟨rfl,h⟩
 | x :: xs,l,h,hx=>by
  rw [a7s]
  by_cases hs:x.status = 1 ∨ x.status = 2
  ·rw [if_pos hs]
   obtain ⟨b,e⟩:=hx x (by simp) hs
   obtain ⟨p1,p2⟩:=c9c h b
   rw [if_neg (by simp [p1,e,b.ok])]
   exact c6x xs p2 fun y hy=>hx y (by simp [hy])
  ·rw [if_neg hs]
   exact c6x xs h fun y hy=>hx y (by simp [hy])
theorem c3t (v:Inv s lims A p all sure):∀ x ∈ p.items,x.status = 1 ∨ x.status = 2 → Borne s lims sure x.held.t (b5g s x) ∧ (b5g s x).dare = x.dare:=by
 intro x hx hs
 obtain ⟨i,hi⟩:=List.mem_iff_getElem?.1 hx
 obtain ⟨rs,y,h1,h2,h3,h4,h5⟩:=v.spent i x hi hs
 have g:=(a2z _ a9u h1).1
 have m:=List.mem_of_getElem? h2
 have e:b5g s y = b5g s x:=by unfold b5g; rw [h3,h4]
 refine ⟨⟨rs,i,y,h1,h2,h5,by rw [h3],e.symm⟩,?_⟩
 have:=(b6m (e9k (g.val y m)) ((g.fr y m).2 (by omega))).2.1
 unfold b5g at e ⊢
 rw [← e,this,h4]
def Whole (s:Stp) (lims:List Lim) (A:Ab) (q:Option Pst) (l:Sps):Prop:=
 ∃ all sure,GoodJ 0 A all sure ∧ (∃ ra,a0s s lims [] all = some ra) ∧ b6j s lims sure l ∧ ∀ p,q = some p → Inv s lims A p all sure
theorem c3u (hg:GoodJ 0 A all sure) (ha:∃ ra,a0s s lims [] all = some ra):∃ rs,a0s s lims [] sure = some rs:=by
 obtain ⟨ra,hr⟩:=ha
 obtain ⟨l,h,_⟩:=a6u hg.sub hr
 exact ⟨l,h⟩
theorem d9p (s:Stp) (lims:List Lim):Whole s lims c2g none []:=⟨[],[],b9i 0,⟨[],rfl⟩,(fun e he=>by cases he),fun p hp=>by cases hp⟩
theorem Whole.kept {l:Sps} (h:Whole s lims A (some p) l) {B:Ab} {q:Pst} (k:∀ all sure,Inv s lims A p all sure → f6k s lims sure B q):Whole s lims B (some q) l:=by
 obtain ⟨all,sure,h1,h2,h3,h4⟩:=h
 obtain ⟨all',sure',hp,v⟩:=k all sure (h4 p rfl)
 obtain ⟨rs,hrs⟩:=c3u v.lj.good v.all
 exact ⟨all',sure',v.lj.good,v.all,fun e he=>(h3 e he).mono hp hrs,fun p' hp'=>by cases hp'; exact v⟩
theorem Whole.look {l:Sps} (h:Whole s lims A (some p) l) (n:Nat):(a7s s (p.items.take n) l).2 = true ∧ Whole s lims A (some p) (a7s s (p.items.take n) l).1:=by
 obtain ⟨all,sure,h1,h2,h3,h4⟩:=h
 obtain ⟨a,b⟩:=c6x (p.items.take n) h3 (fun x hx=>c3t (h4 p rfl) x (List.mem_of_mem_take hx))
 exact ⟨a,all,sure,h1,h2,b,h4⟩
theorem Whole.open_ {l:Sps} {q:Option Pst} (h:Whole s lims A q l):Whole s lims (a5q s lims A).2.2 (a5q s lims A).1 l:=by
 obtain ⟨all,sure,h1,h2,h3,h4⟩:=h
 obtain ⟨hg,ho⟩:=c9r (s:=s) (lims:=lims) h1 h2
 rcases ho with ⟨e,_⟩ | ⟨p,e,_,_,_,_,hp,hs,v,_⟩
 ·exact ⟨all,sure,hg,h2,h3,fun p hp=>by rw [e] at hp; cases hp⟩
 ·obtain ⟨rs,hrs⟩:=v.all
  exact ⟨p.j.recs,p.j.recs,v.lj.good,v.all,fun x hx=>(h3 x hx).mono hs hrs,fun p' hp'=>by rw [e] at hp'; cases hp'; exact v⟩
theorem Whole.disk {l:Sps} {q:Option Pst} (h:Whole s lims A q l) {B:Ab} (k:∀ all sure,GoodJ 0 A all sure → GoodJ 0 B all sure):Whole s lims B none l:=by
 obtain ⟨all,sure,h1,h2,h3,h4⟩:=h
 exact ⟨all,sure,k all sure h1,h2,h3,fun p hp=>by cases hp⟩
theorem Whole.lose {l:Sps} {q:Option Pst} (h:Whole s lims A q l) (n:Int) (hn:n < 2 ^ 63):Whole s lims (d4b A n) q l:=by
 obtain ⟨all,sure,h1,h2,h3,h4⟩:=h
 exact ⟨all,sure,h1.lose n hn,h2,h3,fun p hp=>⟨(h4 p hp).lj.lose n hn,(h4 p hp).all,(h4 p hp).live,(h4 p hp).spent⟩⟩
theorem Whole.arm {l:Sps} {q:Option Pst} (h:Whole s lims A q l) (n:Int) (hn:n < 2 ^ 63) (keep:List Int) (hk:∀ x ∈ keep,-2 ^ 63 ≤ x ∧ x < 2 ^ 63) (hl:keep.length < 2 ^ 62):Whole s lims (g1n A n keep) q l:=by
 obtain ⟨all,sure,h1,h2,h3,h4⟩:=h
 exact ⟨all,sure,h1.arm n hn keep hk hl,h2,h3,fun p hp=>⟨(h4 p hp).lj.arm n hn keep hk hl,(h4 p hp).all,(h4 p hp).live,(h4 p hp).spent⟩⟩
end PuSpec
