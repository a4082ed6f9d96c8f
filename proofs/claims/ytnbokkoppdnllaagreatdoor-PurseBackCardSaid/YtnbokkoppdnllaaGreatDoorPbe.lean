/- Parts of the proof of the seat's statements (PuLaw4, UpM, UpQ, UpS, UpT, UpU, UpV, UpW, PuLaw5, FdPoly, FdInv, FdThr, PrUnit, GrLaw, PrSpec, PrFill, PrCom, PrLaw, PrLaw2, PrLaw3, PrLaw4, PrLaw5, PrLaw6, PrSign, PrText, PrCode, PrRange, LsSpec, PrOpen, PuUse, PuLaw6, JnUp, JnRec, PuLaw7, UpX, UpY, UpZ, UqA, UqB, UqC, UqD, UqE, UqF, UqG, HPz, UqH, PuLaw8, PuLaw9, PuLaw10, PuSane, UqI, UqJ): lemmas about the given translation and plain laws. No condition of their own. -/
import Derived.Test.YtnbokkoppdnllaaGreatDoorPbd
import Derived.Test.YtnbokkoppdnllaaGreatDoorProg
set_option linter.all false
set_option maxRecDepth 100000
namespace PuSpec
open FdSpec TkSpec CodeSpec DkSpec JnSpec
structure Pst where
 j:Jn
 items:List Itm
def openP (s:Stp) (lims:List Lim) (A:Ab):Option Pst × Int × Ab:=
 if !validS s || !limsM lims then (none,1,A)
 else match openJ A 0 with
  | (none,e,B)=>(none,e,B)
  | (some j,_,B)=>match openM s lims j.recs with
   | none=>(none,2,B)
   | some l=>(some ⟨j,l⟩,0,B)
def addP (s:Stp) (lims:List Lim) (A:Ab) (p:Pst) (h:Hld):Int × Ab × Pst:=
 if addErr s lims p.items h ≠ 0 then (addErr s lims p.items h,A,p)
 else if (appendJ A 0 p.j (recAdd h)).1 ≠ 0 then ((appendJ A 0 p.j (recAdd h)).1,(appendJ A 0 p.j (recAdd h)).2.1,⟨(appendJ A 0 p.j (recAdd h)).2.2,p.items⟩)
 else (0,(appendJ A 0 p.j (recAdd h)).2.1,⟨(appendJ A 0 p.j (recAdd h)).2.2,p.items ++ [freshI h]⟩)
def keepP (A:Ab) (p:Pst) (i:Nat) (kind dare:Int):Int × Ab × Pst:=
 let a:=appendJ A 0 p.j (recNums [kind,i,dare])
 if a.1 ≠ 0 then (a.1,a.2.1,⟨a.2.2,p.items⟩)
 else
  let b:=syncJ a.2.1 0 a.2.2
  if b.1 ≠ 0 then (b.1,b.2.1,⟨b.2.2,p.items.modify i fun x=>{ x with dare:=dare,status:=3 }⟩)
  else (0,b.2.1,⟨b.2.2,p.items.modify i fun x=>{ x with dare:=dare,status:=1,lent:=decide (kind = 3) }⟩)
def reserveP (s:Stp) (lims:List Lim) (A:Ab) (p:Pst) (limit now dare:Int):(Nat × Int) × Ab × Pst:=
 if (chooseM lims p.items limit now).2 = 1 ∨ dare < 1 ∨ s.g.Q ≤ dare then ((0,1),A,p)
 else if (chooseM lims p.items limit now).2 ≠ 0 then ((0,(chooseM lims p.items limit now).2),A,p)
 else if (keepP A p (chooseM lims p.items limit now).1 1 dare).1 ≠ 0 then ((0,(keepP A p (chooseM lims p.items limit now).1 1 dare).1),(keepP A p (chooseM lims p.items limit now).1 1 dare).2)
 else (((chooseM lims p.items limit now).1,0),(keepP A p (chooseM lims p.items limit now).1 1 dare).2)
def markI (kind:Int) (x:Itm):Option Itm:=
 if kind = 2 ∧ x.status = 1 then some { x with status:=2 } else if kind = 4 ∧ x.lent = true ∧ x.back = false then some { x with back:=true } else none
structure RelI (r x:Itm):Prop where
 held:x.held = r.held
 back:x.back = r.back
 rest:(x.status = r.status ∧ x.dare = r.dare ∧ x.lent = r.lent) ∨ (r.status = 1 ∧ x.status = 3 ∧ x.dare = r.dare ∧ (x.lent = true → r.lent = true))
def Match (l m:List Itm):Prop:=l.length = m.length ∧ ∀ (i:Nat) (r x:Itm),l[i]? = some r → m[i]? = some x → RelI r x
theorem RelI.refl (x:Itm):RelI x x:=⟨rfl,rfl,.inl ⟨rfl,rfl,rfl⟩⟩
theorem Match.get {l m:List Itm} (h:Match l m) {i:Nat} {x:Itm} (hx:m[i]? = some x):∃ r,l[i]? = some r ∧ RelI r x:=by
 have hi:i < l.length:=by rw [h.1]; exact (List.getElem?_eq_some_iff.1 hx).1
 exact ⟨l[i],List.getElem?_eq_getElem hi,h.2 i _ _ (List.getElem?_eq_getElem hi) hx⟩
theorem Match.set {l m:List Itm} (h:Match l m) (i:Nat) {r x:Itm} (k:RelI r x):Match (l.set i r) (m.set i x):=by
 refine ⟨by simp [h.1],fun j a b ha hb=>?_⟩
 rw [List.getElem?_set] at ha hb
 by_cases hj:i = j
 ·subst hj
  rw [if_pos rfl] at ha hb
  split at ha <;> split at hb
  ·cases ha; cases hb; exact k
  all_goals first | (cases hb; done) | (cases ha; done)
 ·rw [if_neg hj] at ha hb
  exact h.2 j a b ha hb
theorem Match.push {l m:List Itm} (h:Match l m) (x:Itm):Match (l ++ [x]) (m ++ [x]):=by
 refine ⟨by simp [h.1],fun j a b ha hb=>?_⟩
 rw [List.getElem?_append] at ha hb
 rw [h.1] at ha
 split at ha
 ·rename_i hj; rw [if_pos hj] at hb; exact h.2 j a b ha hb
 ·rename_i hj
  rw [if_neg hj,ha] at hb
  cases hb
  exact .refl _
theorem Match.has {l m:List Itm} (h:Match l m) (t:Tkt):hasM l t = hasM m t:=by
 rw [Bool.eq_iff_iff]
 simp only [hasM,List.any_eq_true,decide_eq_true_eq]
 constructor
 ·rintro ⟨r,hr,e⟩
  obtain ⟨i,hi⟩:=List.mem_iff_getElem?.1 hr
  have hl:i < m.length:=by rw [← h.1]; exact (List.getElem?_eq_some_iff.1 hi).1
  have k:=h.2 i r m[i] hi (List.getElem?_eq_getElem hl)
  exact ⟨m[i],List.getElem_mem hl,by rw [k.held]; exact e⟩
 ·rintro ⟨x,hx,e⟩
  obtain ⟨i,hi⟩:=List.mem_iff_getElem?.1 hx
  obtain ⟨r,hr,k⟩:=h.get hi
  exact ⟨r,List.mem_of_getElem? hr,by rw [← k.held]; exact e⟩
variable {s:Stp} {lims:List Lim}
structure Inv (s:Stp) (lims:List Lim) (A:Ab) (p:Pst) (all sure:List Bytes):Prop where
 lj:LJ 0 A p.j all sure
 all:∃ ra,replayL s lims [] all = some ra
 live:∃ rj,replayL s lims [] p.j.recs = some rj ∧ Match rj p.items
 spent:∀ (i:Nat) (x:Itm),p.items[i]? = some x → x.status = 1 ∨ x.status = 2 →
  ∃ rs y,replayL s lims [] sure = some rs ∧ rs[i]? = some y ∧ y.held = x.held ∧ y.dare = x.dare ∧ (y.status = 1 ∨ y.status = 2)
theorem zero15:(0:Int) ≤ 0 ∧ (0:Int) ≤ 15:=by omega
theorem LJ.recs {A:Ab} {j:Jn} {all sure:List Bytes} (h:LJ 0 A j all sure) (hb:j.broken = false):all = j.recs:=by
 rcases h with ⟨_,h⟩ | ⟨h,_⟩
 ·exact h.recs
 ·rw [hb] at h; cases h
theorem inv_append {A:Ab} {p:Pst} {all sure:List Bytes} (v:Inv s lims A p all sure) {t:Bytes} {rj rj':List Itm} (hj:replayL s lims [] p.j.recs = some rj) (ht:replayM s lims rj t = some rj') :
  ((appendJ A 0 p.j t).1 = 0 ∧ (appendJ A 0 p.j t).2.2.recs = p.j.recs ++ [t] ∧ LJ 0 (appendJ A 0 p.j t).2.1 (appendJ A 0 p.j t).2.2 (all ++ [t]) sure ∧
   replayL s lims [] (p.j.recs ++ [t]) = some rj' ∧ replayL s lims [] (all ++ [t]) = some rj') ∨
  ((appendJ A 0 p.j t).1 ≠ 0 ∧ ∃ all',all <+: all' ∧ Inv s lims (appendJ A 0 p.j t).2.1 ⟨(appendJ A 0 p.j t).2.2,p.items⟩ all' sure):=by
 have hr:replayL s lims [] (p.j.recs ++ [t]) = some rj':=by
  rw [replayL_append,hj,Option.bind_some,replayL_one,ht]
 have hall:p.j.broken = false → replayL s lims [] (all ++ [t]) = some rj':=fun hb=>by rw [LJ.recs v.lj hb]; exact hr
 rcases append_spec v.lj zero15 t with ⟨a1,a2,a3⟩ | ⟨a1,a2,a3⟩ | ⟨a1,a2,a3⟩
 ·have hb:p.j.broken = false:=by
   cases hb:p.j.broken with
   | false=>rfl
   | true=>
    unfold appendJ at a1
    rw [if_pos hb] at a1
    cases a1
  exact .inl ⟨a1,a2,a3,hr,hall hb⟩
 ·have hb:p.j.broken = false:=by
   cases hb:p.j.broken with
   | false=>rfl
   | true=>
    unfold appendJ at a1
    rw [if_pos hb] at a1
    cases a1
  refine .inr ⟨by rw [a1]; decide,all ++ [t],List.prefix_append _ _,⟨a3,⟨rj',hall hb⟩,?_,v.spent⟩⟩
  obtain ⟨r,h1,h2⟩:=v.live
  exact ⟨r,by dsimp only; rw [a2]; exact h1,h2⟩
 ·refine .inr ⟨by rcases a1 with e | e | e <;> rw [e] <;> decide,all,List.prefix_refl _,⟨a3,v.all,?_,v.spent⟩⟩
  obtain ⟨r,h1,h2⟩:=v.live
  exact ⟨r,by dsimp only; rw [a2]; exact h1,h2⟩
end PuSpec
namespace Go.Proofs
open Go Go.Sh Go.RowKit FdSpec TkSpec CodeSpec PuSpec DkSpec JnSpec
section
variable {K:VK} {w w' w0 W W':World} {L:List (Addr × Value)}
structure Ph where
 b:Nat
 h:Dk
 q:Nat
 u:Value
 pb:Nat
 iv:Value
 lv:Value
 bv:Value
 x:Nat → Prop:=fun _=>False
def Mu (p:Ph) (i:Nat):Prop:=Own p.b p.h i ∨ Rdb p.h i ∨ JO p.q p.u i ∨ i = p.pb ∨ p.iv.ownBlock = some i
def Im (p:Ph) (W:World) (i:Nat):Prop:=i < W.heap.size ∧ ¬ Mu p i ∧ ¬ p.x i
@[reducible] def puC (s:Stp) (p:Ph):List Value:=[.int .i64 s.g.P,.int .i64 s.g.Q,.int .i64 s.g.G,p.bv,.int .i64 s.blind,p.lv,p.iv,jnP p.q]
structure StR (s:Stp) (lims:List Lim) (W:World) (p:Ph) (items:List Itm):Prop where
 pur:Holds W p.pb 136 (puC s p)
 itm:GRow 18 67 VItm 0 (Im p W) W p.iv items
 rd:FP (Im p W) W (fun W=>SetR W s p.bv ∧ LimR W p.lv lims)
 cnt:items.length ≤ 400
 sp:¬ Own p.b p.h p.pb ∧ ¬ Rdb p.h p.pb ∧ ¬ JO p.q p.u p.pb
 si:∀ i,p.iv.ownBlock = some i → ¬ Own p.b p.h i ∧ ¬ Rdb p.h i ∧ ¬ JO p.q p.u i ∧ i ≠ p.pb
 xl:∀ i,p.x i → i < W.heap.size
theorem StR.set {s:Stp} {lims:List Lim} {p:Ph} {items:List Itm} (h:StR s lims W p items):SetR W s p.bv:=h.rd.here.1
theorem StR.lim {s:Stp} {lims:List Lim} {p:Ph} {items:List Itm} (h:StR s lims W p items):LimR W p.lv lims:=h.rd.here.2
theorem StR.items {s:Stp} {lims:List Lim} {p:Ph} {items:List Itm} (h:StR s lims W p items):SRow 18 (AtOf 18 VItm) W p.iv items:=h.itm.srow (by omega) (by have:=h.cnt; omega)
theorem dbT_fp (h:DbT w):FP (fun i=>i < 8) w DbT:=fun w' _ _ _ hs e=>⟨lL h.1 hs,fun j hj=>by rw [World.cell?_of_block (show w'.heap[4]? = w.heap[4]? from e _ (by decide))]; exact h.2 j hj⟩
structure PuR (s:Stp) (lims:List Lim) (w0 W:World) (p:Ph) (A:Ab) (P:Pst):Prop where
 sys:Sys W p.b A p.h
 jn:IsJn W p.b p.h p.q 0 P.j p.u
 st:StR s lims W p P.items
 yg:∀ i,Mu p i → w0.heap.size ≤ i
 bl:Bw w0 W
 low:8 ≤ w0.heap.size
structure PuSt (p:Ph) (W:World) (p':Ph) (W':World):Prop where
 fr:Fr (Mu p) W W'
 mu:∀ i,Mu p' i → Mu p i ∨ W.heap.size ≤ i
 x:p'.x = p.x
theorem PuSt.refl (p:Ph) (W:World):PuSt p W p W:=⟨Fr.refl _ _,fun _ h=>.inl h,rfl⟩
theorem PuSt.trans {p p1 p2:Ph} {W1 W2:World} (a:PuSt p W p1 W1) (b:PuSt p1 W1 p2 W2):PuSt p W p2 W2:=
 ⟨a.fr.trans b.fr a.mu,fun i hi=>(b.mu i hi).elim (a.mu i) (fun h=>.inr (Nat.le_trans a.fr.size h)),b.x.trans a.x⟩
structure PuIt (p:Ph) (W:World) (p':Ph) (W':World):Prop where
 fr:Fr (fun i=>i = p.pb ∨ p.iv.ownBlock = some i) W W'
 iv:∀ i,p'.iv.ownBlock = some i → p.iv.ownBlock = some i ∨ W.heap.size ≤ i
 eq:p' = { p with iv:=p'.iv }
theorem PuIt.below {p:Ph} (hb:Bw W W'):PuIt p W p W':=⟨⟨hb.os,hb.tape,hb.output,hb.size,fun i hi _=>hb.block i hi⟩,fun _ h=>.inl h,rfl⟩
theorem PuIt.refl (p:Ph) (W:World):PuIt p W p W:=⟨Fr.refl _ _,fun _ h=>.inl h,rfl⟩
theorem PuIt.trans {p p1 p2:Ph} {W1 W2:World} (a:PuIt p W p1 W1) (b:PuIt p1 W1 p2 W2):PuIt p W p2 W2:=by
 obtain ⟨a1,a2,a3⟩:=a
 obtain ⟨b1,b2,b3⟩:=b
 rw [a3] at b1 b2 b3
 exact ⟨a1.trans b1 (fun i hi=>hi.elim (fun h=>.inl (.inl h)) (fun h=>(a2 i h).imp .inr id)),fun i hi=>(b2 i hi).elim (a2 i) (fun h=>.inr (Nat.le_trans a1.size h)),b3⟩
theorem PuIt.st {p p':Ph} (t:PuIt p W p' W'):PuSt p W p' W':=by
 obtain ⟨a,c,e⟩:=t
 refine ⟨a.mono (fun i _ hi=>hi.elim (fun h=>.inr (.inr (.inr (.inl h)))) (fun h=>.inr (.inr (.inr (.inr h))))),fun i hi=>?_,by rw [e]⟩
 rw [e] at hi
 rcases hi with hi | hi | hi | hi | hi
 ·exact .inl (.inl hi)
 ·exact .inl (.inr (.inl hi))
 ·exact .inl (.inr (.inr (.inl hi)))
 ·exact .inl (.inr (.inr (.inr (.inl hi))))
 ·exact (c i hi).imp (fun h=>.inr (.inr (.inr (.inr h)))) id
theorem Im.mono {p p':Ph} (hs:W.heap.size ≤ W'.heap.size) (hm:∀ i,Mu p' i → Mu p i ∨ W.heap.size ≤ i) (hx:p'.x = p.x):∀ i,Im p W i → Im p' W' i:=fun i hi=>⟨lL hi.1 hs,fun h=>(hm i h).elim hi.2.1 (fun h2=>by have:=hi.1; omega),by rw [hx]; exact hi.2.2⟩
theorem im_keep {p p':Ph} {f:WK} (h:FP (Im p W) W f) (t:PuSt p W p' W'):FP (Im p' W') W' f:=(h.fr t.fr (fun i hi=>⟨hi.1,hi.2.1⟩)).mono (Im.mono t.fr.size t.mu t.x)
theorem PuSt.below {p:Ph} (hb:Bw W W'):PuSt p W p W':=⟨⟨hb.os,hb.tape,hb.output,hb.size,fun i hi _=>hb.block i hi⟩,fun _ h=>.inl h,rfl⟩
theorem StR.keep {s:Stp} {lims:List Lim} {p p':Ph} {items:List Itm} {S:Nat → Prop} (h:StR s lims W p items) (hf:Fr S W W') (hS:∀ i,S i → Mu p i ∧ i ≠ p.pb ∧ p.iv.ownBlock ≠ some i)
  (hm:∀ i,Mu p' i → Mu p i ∨ W.heap.size ≤ i) (e:p'.pb = p.pb ∧ p'.iv = p.iv ∧ p'.lv = p.lv ∧ p'.bv = p.bv ∧ p'.q = p.q ∧ p'.x = p.x) (hsp:∀ i,Own p'.b p'.h i ∨ Rdb p'.h i ∨ JO p'.q p'.u i → Own p.b p.h i ∨ Rdb p.h i ∨ JO p.q p.u i ∨ W.heap.size ≤ i):StR s lims W' p' items:=by
 obtain ⟨e1,e2,e3,e4,e5,e6⟩:=e
 have t:PuSt p W p' W':=⟨hf.mono (fun i _ hi=>(hS i hi).1),hm,e6⟩
 have hlt:=h.pur.lt
 have no:∀ i,i < W.heap.size → ¬ Own p.b p.h i → ¬ Rdb p.h i → ¬ JO p.q p.u i → ¬ Own p'.b p'.h i ∧ ¬ Rdb p'.h i ∧ ¬ JO p'.q p'.u i:=fun i hl a b c=>by
  have key:∀ h:Own p'.b p'.h i ∨ Rdb p'.h i ∨ JO p'.q p'.u i,False:=fun h=>by
   rcases hsp i h with h | h | h | h
   ·exact a h
   ·exact b h
   ·exact c h
   ·omega
  exact ⟨fun h=>key (.inl h),fun h=>key (.inr (.inl h)),fun h=>key (.inr (.inr h))⟩
 refine ⟨?_,?_,?_,h.cnt,?_,?_,by rw [e6]; exact fun i hi=>lL (h.xl i hi) hf.size⟩
 ·have:puC s p' = puC s p:=by simp only [puC,e2,e3,e4,e5]
  rw [this,e1]
  exact (hf.block p.pb hlt (fun hs=>(hS _ hs).2.1 rfl)).trans h.pur
 ·rw [e2]
  exact (h.itm.keep hf (fun i hi=>⟨hi.1,fun hs=>hi.2.1 (hS i hs).1⟩) (fun i hi hs=>(hS i hs).2.2 hi)).mono (Im.mono hf.size hm e6)
 ·rw [e3,e4]
  exact im_keep h.rd t
 ·rw [e1]
  exact no _ hlt h.sp.1 h.sp.2.1 h.sp.2.2
 ·rw [e2,e1]
  intro i hi
  have h1:=h.si i hi
  have h2:=no i (h.itm.own hi).1 h1.1 h1.2.1 h1.2.2.1
  exact ⟨h2.1,h2.2.1,h2.2.2,h1.2.2.2⟩
theorem StR.next {s:Stp} {lims:List Lim} {p:Ph} {items:List Itm} (h:StR s lims W p items) (hb:Bw W W'):StR s lims W' p items:=
 h.keep (S:=fun _=>False) ⟨hb.os,hb.tape,hb.output,hb.size,fun i hi _=>hb.block i hi⟩ (fun _ h=>h.elim) (fun _ h=>.inl h) ⟨rfl,rfl,rfl,rfl,rfl,rfl⟩ (fun i h=>by rcases h with h | h | h; exact .inl h; exact .inr (.inl h); exact .inr (.inr (.inl h)))
theorem PuR.next {s:Stp} {lims:List Lim} {p:Ph} {A:Ab} {P:Pst} (h:PuR s lims w0 W p A P) (hb:Bw W W'):PuR s lims w0 W' p A P:=
 ⟨h.sys.below hb,h.jn.below hb,h.st.next hb,h.yg,h.bl.trans (hb.mono h.bl.size),h.low⟩
theorem PuR.jour {s:Stp} {lims:List Lim} {p:Ph} {A A':Ab} {P:Pst} {j':Jn} {h':Dk} {u':Value} (h:PuR s lims w0 W p A P) (s':Sys W' p.b A' h') (jn':IsJn W' p.b h' p.q 0 j' u') (t:JSt W p.b p.h p.q p.u W' h' u') :
  PuR s lims w0 W' { p with h:=h',u:=u' } A' ⟨j',P.items⟩ ∧ PuSt p W { p with h:=h',u:=u' } W':=by
 have hz:=h.bl.size
 have hm:∀ i,Mu { p with h:=h',u:=u' } i → Mu p i ∨ W.heap.size ≤ i:=by
  rintro i (hi | hi | hi | hi | hi)
  ·exact (t.own i hi).imp .inl id
  ·exact (t.rd i hi).imp (fun h=>.inr (.inl h)) id
  ·exact (t.jo i hi).imp (fun h=>.inr (.inr (.inl h))) id
  ·exact .inl (.inr (.inr (.inr (.inl hi))))
  ·exact .inl (.inr (.inr (.inr (.inr hi))))
 have hst:StR s lims W' { p with h:=h',u:=u' } P.items:=h.st.keep t.fr (fun i hi=>by
  rcases hi with hi | hi
  ·exact ⟨.inl hi,fun e=>h.st.sp.1 (e ▸ hi),fun e=>(h.st.si i e).1 hi⟩
  ·exact ⟨.inr (.inr (.inl hi)),fun e=>h.st.sp.2.2 (e ▸ hi),fun e=>(h.st.si i e).2.2.1 hi⟩) hm ⟨rfl,rfl,rfl,rfl,rfl,rfl⟩ (fun i hi=>by
  rcases hi with hi | hi | hi
  ·exact (t.own i hi).imp id (fun h=>.inr (.inr h))
  ·exact (t.rd i hi).elim (fun h=>.inr (.inl h)) (fun h=>.inr (.inr (.inr h)))
  ·exact (t.jo i hi).elim (fun h=>.inr (.inr (.inl h))) (fun h=>.inr (.inr (.inr h))))
 have fr:Fr (Mu p) W W':=t.fr.mono (fun i _ hi=>by rcases hi with hi | hi; exact .inl hi; exact .inr (.inr (.inl hi)))
 refine ⟨⟨s',jn',hst,fun i hi=>(hm i hi).elim (h.yg i) (fun h=>by omega),h.bl.trans ⟨fr.os,fr.tape,fr.output,fr.size,fun i hi=>fr.block i (by omega) (fun hx=>by have:=h.yg i hx; omega)⟩,h.low⟩,fr,hm,rfl⟩
end
end Go.Proofs
namespace Go.Proofs
open Go Go.Sh Go.RowKit FdSpec TkSpec CodeSpec PuSpec
section
variable {α β:Type} {n:Nat} {e:TypeId} {V:World → List Value → α → Prop} {w w' W:World} {v:Value} {l:List α} {mk:β → List Value} {B:Nat} {D E:Nat → Prop} {ys:List β}
theorem own_grow (hm:∀ y,(mk y).length = n) (h:w.ownsRow B e n v ys.length (flat mk ys)):GRow n e (fun _ c y=>c = mk y) B (fun _=>False) w v ys:=by
 refine ⟨ys.map (fun y=>⟨mk y,hm y⟩),?_,fun W _ _ _ _ _=>⟨by simp,fun i c x hc hx=>?_⟩⟩
 ·have e1:flat Cl.cs (ys.map (fun y=>(⟨mk y,hm y⟩:Cl n))) = flat mk ys:=by
   unfold flat
   rw [List.flatMap_map]
   rfl
  rw [e1]
  exact h
 ·rw [List.getElem?_map,hx] at hc
  simp at hc
  rw [← hc]
theorem GRow.conv {f:β → α} (h:GRow n e (fun _ c y=>c = mk y) B D w v ys) (hE:FP E w (fun W=>∀ y ∈ ys,V W (mk y) (f y))):GRow n e V B E w v (ys.map f):=by
 obtain ⟨cs,h1,h2⟩:=h.ex
 refine ⟨cs,by rw [List.length_map]; exact h1,hE.imp fun W hW=>?_⟩
 obtain ⟨a,b⟩:=h2.here
 refine ⟨by simpa using a,fun i c x hc hx=>?_⟩
 rw [List.getElem?_map,Option.map_eq_some_iff] at hx
 obtain ⟨y,hy,rfl⟩:=hx
 rw [b i c y hc hy]
 exact hW y (List.mem_of_getElem? hy)
theorem srow_pick {f:β → α} {Q:World → β → Prop} (hm:∀ y,(mk y).length = n) (hp:∀ c x,V w c x → ∃ y,c = mk y ∧ f y = x ∧ Q w y) {b:Nat} (hb:b < w.heap.size):∀ (l:List α) (o:Nat),(∀ (i:Nat) (h:i < l.length),AtOf n V w b (o + i * n) l[i]) →
  ∃ ys:List β,ys.map f = l ∧ (∀ y ∈ ys,Q w y) ∧ ∀ (k:Nat) (x:Value),(flat mk ys)[k]? = some x → w.cell? ⟨b,o + k,none⟩ = some x
 | [],o,_=>⟨[],rfl,(fun _ h=>by cases h),(fun k x h=>by simp [flat] at h)⟩
 | a :: l,o,h=>by
  obtain ⟨c1,hc1,hc2,hc3⟩:=h 0 (by simp)
  obtain ⟨y,rfl,hy2,hy3⟩:=hp c1 a hc3
  obtain ⟨ys,h1,h2,h3⟩:=srow_pick (f:=f) (Q:=Q) hm hp hb l (o + n) (fun i hi=>by
   have:=h (i + 1) (by simp; omega)
   rw [Nat.succ_mul] at this
   rw [show o + n + i * n = o + (i * n + n) by omega]
   exact this)
  refine ⟨y :: ys,by simp [hy2,h1],fun z hz=>?_,fun k x hk=>?_⟩
  ·rcases List.mem_cons.1 hz with rfl | hz
   ·exact hy3
   ·exact h2 z hz
  ·rw [flat_cons] at hk
   by_cases hkn:k < n
   ·rw [List.getElem?_append_left (by rw [hm]; omega)] at hk
    have:=hc2 k x hk
    rwa [Nat.zero_mul,Nat.add_zero] at this
   ·rw [List.getElem?_append_right (by rw [hm]; omega),hm] at hk
    have:=h3 (k - n) x hk
    rwa [show o + n + (k - n) = o + k by omega] at this
theorem SRow.rowR {f:β → α} {Q:World → β → Prop} {a:Addr} {m c:Nat} (hm:∀ y,(mk y).length = n) (hp:∀ c x,V w c x → ∃ y,c = mk y ∧ f y = x ∧ Q w y) (h:SRow n (AtOf n V) w (.slice (some a) m c) l) :
  ∃ ys:List β,ys.map f = l ∧ (∀ y ∈ ys,Q w y) ∧ RowR mk n w (.slice (some a) m c) ys:=by
 obtain ⟨⟨ad,c',hv,hr⟩,_⟩:=h
 cases hv
 rcases hr with rfl | ⟨b,o,hbo,hlt,hc⟩
 ·exact ⟨[],rfl,(fun _ h=>by cases h),_,_,rfl,(fun h=>by cases h),.inl rfl⟩
 ·obtain ⟨ys,h1,h2,h3⟩:=srow_pick (f:=f) (Q:=Q) hm hp hlt l o hc
  refine ⟨ys,h1,h2,_,_,by rw [← h1,List.length_map],(fun h=>by cases h),.inr ⟨b,o,hbo,hlt,h3⟩⟩
end
abbrev LkP:=Lnk × (Option Addr × Nat × Nat)
@[reducible] def lkPv (y:LkP):Value:=.slice y.2.1 y.2.2.1 y.2.2.2
@[reducible] def lkPc (y:LkP):List Value:=lkC y.1 (lkPv y)
section
variable {K:VK} {w w' w0 W W':World} {L:List (Addr × Value)} {rb b:Nat}
theorem lnk_pick (c:List Value) (x:Lnk) (h:VLnk w c x):∃ y:LkP,c = lkPc y ∧ y.1 = x ∧ (Ints w (lkPv y) y.1.spend.answers ∧ WLnk y.1):=by
 obtain ⟨av,rfl,h1,h2⟩:=h
 obtain ⟨ad,c,rfl⟩:=h1.isSlice
 exact ⟨(x,ad,_,c),rfl,rfl,h1,h2⟩
def LkRow (w:World) (v:Value) (ys:List LkP):Prop:=(∃ c,v = .slice none ys.length c ∧ ys = []) ∨ ∃ a c,v = .slice (some a) ys.length c ∧ RowR lkPc 9 w v ys
theorem lkRow_of {v:Value} {l:List Lnk} (hr:LnksR w v l):∃ ys,ys.map (fun y:LkP=>y.1) = l ∧ (∀ y ∈ ys,Ints w (lkPv y) y.1.spend.answers ∧ WLnk y.1) ∧ LkRow w v ys:=by
 obtain ⟨ad,c,rfl⟩:=hr.isSlice
 cases ad with
 | none=>
  have:l = []:=by
   obtain ⟨⟨a',c',hv,h⟩,_⟩:=hr
   cases hv
   rcases h with h | ⟨b,o,hb,_⟩
   ·exact h
   ·cases hb
  subst this
  exact ⟨[],rfl,(fun _ h=>by cases h),.inl ⟨c,rfl,rfl⟩⟩
 | some a=>
  obtain ⟨ys,rfl,hq,hi⟩:=hr.rowR (mk:=lkPc) (f:=fun y:LkP=>y.1) (Q:=fun w y=>Ints w (lkPv y) y.1.spend.answers ∧ WLnk y.1) (fun _=>rfl) (fun c x h=>lnk_pick c x h)
  exact ⟨ys,rfl,hq,.inr ⟨a,c,by rw [List.length_map],hi⟩⟩
theorem LkRow.next {v:Value} {ys:List LkP} (h:LkRow w v ys) (hb:Bw w w'):LkRow w' v ys:=h.imp id (fun ⟨a,c,e,h⟩=>⟨a,c,e,h.keep hb.size (fun i _ hi=>hb.block i hi)⟩)
theorem CloneLnk_ok {v:Value} {ys:List LkP} (hr:LkRow w v ys) (hl:ys.length < 1000) (k:∀ v' w',GRow 9 86 (fun _ c y=>c = lkPc y) w.heap.size (fun _=>False) w' v' ys → Bw w w' → K v' w'):callM Tryz.prog 120 #[v] K w:=by
 apply sh_120_ok
 unfold sh_120
 rcases hr with ⟨c,rfl,rfl⟩ | ⟨a,c,rfl,hi⟩
 ·refine eqNil_at (e:=86) (by kernel_rfl) ?_
  simp only [Option.isNone_none]
  repeat (any_goals (with_reducible refine yL ?_))
  exact k _ _ .nil (bR)
 ·refine eqNil_at (e:=86) (by kernel_rfl) ?_
  simp only [Option.isNone_some]
  repeat (any_goals (first
  | (with_reducible refine yM ?_)
  | ((with_reducible refine oG fun X Y=>?_); simp [go_sem]; apply Y; clear Y X)))
  have hr2:RowR lkPc 9 (w.alloc (.cells #[] 86)) _ ys:=hi.keep (by rw [alloc_size]; omega) (fun i _ hi=>heap_alloc_old _ _ hi)
  refine clone_at 27 27 86 ((Tryz.prog.info? 86).getD default) (.agg lnkZ.toArray) 9 96 (by kernel_rfl) (by kernel_rfl) (by kernel_rfl) (by kernel_rfl) (by kernel_rfl) (by kernel_rfl) (by omega) (fun _=>rfl) (fun x=>lnk_one _ _ _ _) hr2 (World.ownsRow_lit w #[] 0 (Nat.zero_le _) (Nat.zero_le _) rfl) (B:=w.heap.size) (by rw [alloc_size]; omega) (fun i hi=>by cases hi; exact rL) (by omega) (by omega) ?_
  intro v' w' ho hg hv
  refine k v' w' (own_grow (fun _=>rfl) (owns_up ho hv)) ?_
  exact grown_below ((Below.refl _ w).alloc (rL) _) hg (rL)
theorem ownI_next {B:Nat} {v:Value} {l:List Int} (h:OwnI w B v l) (hb:Bw w w'):OwnI w' B v l:=owns_keep h (fun i hi=>hb.block i (owns_own h hi).1)
theorem _root_.Go.Sh.GRow.base {α:Type} {n:Nat} {e:TypeId} {V:World → List Value → α → Prop} {B C:Nat} {D:Nat → Prop} {v:Value} {l:List α} (h:GRow n e V B D w v l) (hC:C ≤ B):GRow n e V C D w v l:=by
 obtain ⟨cs,h1,h2⟩:=h.ex
 exact ⟨cs,owns_base h1 hC,h2⟩
theorem _root_.Go.Sh.GRow.typ {α:Type} {n:Nat} {e:TypeId} {V:World → List Value → α → Prop} {B:Nat} {D:Nat → Prop} {v:Value} {l:List α} (h:GRow n e V B D w v l) {i:Nat} (hi:v.ownBlock = some i):∃ cur,w.heap[i]? = some (.cells cur e (0,0)):=by
 obtain ⟨cs,h1,h2⟩:=h.ex
 exact (owns_own h1 hi).2.2
def GLk (B:Nat) (w:World) (v:Value) (ys:List LkP):Prop:=GRow 9 86 (fun _ c y=>c = lkPc y) B (fun _=>False) w v ys
theorem fresh_own (h:Hld) {av yv kv:Value} (hh:HldR w h av yv kv) (ha:h.attrs.length < 1099511627776) (hy:h.bl.ys.length < 1099511627776) (hk:h.links.length < 1000) (hx:∀ x ∈ h.links,x.spend.answers.length < 1099511627776)
  (k:∀ w' av yv kv,Bw w w' → Fresh w w' (fun W=>HldR W h av yv kv) → GRow 9 86 VLnk w.heap.size (fun j=>w.heap.size ≤ j ∧ j < w'.heap.size ∧ kv.ownBlock ≠ some j) w' kv h.links → K (hldV h av yv kv) w'):callM Tryz.prog 71 #[hldV h av yv kv] K w:=by
 apply sh_71_ok
 unfold sh_71
 obtain ⟨a1,c1,rfl⟩:=hh.attrs.isSlice
 obtain ⟨a2,c2,rfl⟩:=hh.ys.isSlice
 obtain ⟨ys,he,hq,hR⟩:=lkRow_of hh.links
 have hyl:ys.length = h.links.length:=by rw [← he,List.length_map]
 obtain ⟨a3,c3,rfl⟩:=hh.links.isSlice
 refine arr_box (cs:=hldC h (.slice a1 h.attrs.length c1) (.slice a2 h.bl.ys.length c2) (.slice a3 h.links.length c3)) rfl (fun b1 w1 h1 hb1 hB=>?_)
 refine arr_alloc al_hld (fun g2 w2 h2 hg2 hG=>?_)
 have hlt1:b1 < g2:=lL hB.lt hg2
 have hB:=(hB.next h2).next (.drawn (B:=w2.heap.size))
 have hG:=hG.next (.drawn (B:=w2.heap.size))
 have h03:=(h1.on h2).on (.drawn (B:=w2.heap.size))
 refine ⟨Nx { w2 with drawn:=w2.drawn + 1 },bR,rfl,?_⟩
 generalize ({ w2 with drawn:=w2.drawn + 1 }:World) = W3 at hB hG h03 ⊢
 have hlW3:=hB.lt
 have hgW3:=hG.lt
 repeat (any_goals ((with_reducible refine idOH ?_); (with_reducible refine oH_of ⟨_,rfl⟩ (fun W0 hW0=>by (refine oG (fun X Y=>?_)); simp [go_sem,(hB.next hW0).are]; (first | exact Y _ _ ⟨rfl,rfl⟩ | exact ⟨by omega,Y _ _ ⟨rfl,rfl⟩⟩)) ?_)))
 refine ⟨Nx,?_⟩
 refine monoR (fun v w'=>OwnI w' W3.heap.size v h.attrs) (fun v w w1 hS h=>ownI_next h hS) ?_ ?_
 ·intro w4 h4
  exact Clone_ok (hh.attrs.next (h03.on h4)) ha (fun v' w5 ho h5 hv=>⟨h4.on h5,h5,owns_up ho (fun i hi=>Nat.le_trans h4.size (hv i hi))⟩)
 refine monoR (fun v w'=>OwnI w' W3.heap.size v h.bl.ys) (fun v w w1 hS h=>ownI_next h hS) ?_ ?_
 ·intro w4 h4
  exact Clone_ok (hh.ys.next (h03.on h4)) hy (fun v' w5 ho h5 hv=>⟨h4.on h5,h5,owns_up ho (fun i hi=>Nat.le_trans h4.size (hv i hi))⟩)
 refine monoR (fun v w'=>GLk W3.heap.size w' v ys) (fun v w w1 hS h=>GRow.next h hS (fun _ h=>h.elim)) ?_ ?_
 ·intro w4 h4
  exact CloneLnk_ok (hR.next (h03.on h4)) (by omega) (fun v' w5 hG h5=>⟨h4.on h5,h5,hG.base h4.size⟩)
 repeat (apply monoE; focus (intro w9 h9; (repeat (intro v9 e9; try (obtain rfl:=e9))); (repeat (any_goals ((with_reducible refine oG fun X Y=>?_); simp [go_sem]; apply Y; clear Y X))); exact ⟨h9,bR,rfl⟩))
 rintro w9 h9 v1 o1 v2 o2 v3 hGk _ rfl
 have hB:=hB.next h9
 have hG:=hG.next h9
 have hs9:=h9.size
 have hbl:=h03.size
 have hb3:=h9.size
 obtain ⟨d1,e1,rfl⟩:∃ ad c,v1 = .slice ad h.attrs.length c:=owns_len o1
 obtain ⟨d2,e2,rfl⟩:∃ ad c,v2 = .slice ad h.bl.ys.length c:=owns_len o2
 obtain ⟨d3,e3,rfl⟩:∃ ad c,v3 = .slice ad ys.length c:=GRow.isSlice hGk
 rw [hyl] at hGk ⊢
 have hdis1:∀ i,(Value.slice d3 h.links.length e3).ownBlock = some i → Value.inBlock (.slice d1 h.attrs.length e1) = some i → False:=fun i a b=>by
  obtain ⟨_,t1⟩:=GRow.typ hGk a
  obtain ⟨_,_,_,t2⟩:=owns_own o1 (own_inB o1 b)
  rw [t1] at t2
  cases t2
 have hdis2:∀ i,(Value.slice d3 h.links.length e3).ownBlock = some i → Value.inBlock (.slice d2 h.bl.ys.length e2) = some i → False:=fun i a b=>by
  obtain ⟨_,t1⟩:=GRow.typ hGk a
  obtain ⟨_,_,_,t2⟩:=owns_own o2 (own_inB o2 b)
  rw [t1] at t2
  cases t2
 have p1:=(o1.ints (fun x hx=>inR_I64 (hh.wf.attrs x hx)) hh.attrs.len).fp
 have p2:=(o2.ints (fun x hx=>inR_I64 (hh.wf.ys x hx)) hh.ys.len).fp
 have q1:∀ i,Value.inBlock (.slice d1 h.attrs.length e1) = some i → W3.heap.size ≤ i:=fun i hi=>(owns_own o1 (own_inB o1 hi)).2.1
 have q2:∀ i,Value.inBlock (.slice d2 h.bl.ys.length e2) = some i → W3.heap.size ≤ i:=fun i hi=>(owns_own o2 (own_inB o2 hi)).2.1
 refine arr_set (i:=2) sz_ints rfl rfl hB (by simp) (fun w10 hg10 hB=>?_)
 simp only [List.set_cons_succ,List.set_cons_zero] at hB
 repeat (any_goals ((with_reducible refine oG fun X Y=>?_); simp [go_sem]; apply Y; clear Y X))
 refine arr_set (i:=6) sz_ints rfl rfl hB (by simp) (fun w11 hg11 hB=>?_)
 simp only [List.set_cons_succ,List.set_cons_zero] at hB
 repeat (any_goals ((with_reducible refine oG fun X Y=>?_); simp [go_sem]; apply Y; clear Y X))
 refine arr_set (i:=13) sz_lnks rfl rfl hB (by simp) (fun w12 hg12 hB=>?_)
 simp only [List.set_cons_succ,List.set_cons_zero] at hB
 have f12:Fr (fun i=>i = b1) w9 w12:=((Fr.of_by hg10).trans (Fr.of_by hg11) (fun i hi=>.inl hi)).trans (Fr.of_by hg12) (fun i hi=>.inl hi)
 have c12:=hB.are
 repeat (any_goals ((with_reducible refine oG fun X Y=>?_); simp [go_sem,c12]; apply Y; clear Y X))
 have h12s:=f12.size
 have hb12:∀ i,i < w.heap.size → w12.heap[i]? = w.heap[i]?:=fun i hi=>(f12.block i (by omega) (by omega)).trans ((h9.block i (by omega)).trans (h03.block i hi))
 have hb012:Bw w w12:=⟨f12.os.trans (h9.os.trans h03.os),f12.tape.trans (h9.tape.trans h03.tape),f12.output.trans (h9.output.trans h03.output),by omega,hb12⟩
 have hB1:=hB.lt
 have hg3:∀ i,(Value.slice d3 h.links.length e3).ownBlock = some i → W3.heap.size ≤ i ∧ i < w12.heap.size:=fun i hi=>by have:=GRow.own hGk hi; omega
 have hGk:GLk W3.heap.size w12 (.slice d3 h.links.length e3) ys:=GRow.keep hGk f12 (fun _ h=>h.elim) (fun i hi e=>by have:=(hg3 i hi).1; omega)
 have p1:=p1.fr f12 (fun i hi=>⟨hi.2,fun e=>by have:=q1 i hi.1; omega⟩)
 have p2:=p2.fr f12 (fun i hi=>⟨hi.2,fun e=>by have:=q2 i hi.1; omega⟩)
 generalize hv3:Value.slice d3 h.links.length e3 = v3 at *
 refine ⟨fun vs W=>∃ (u:Value) (i:Nat) (zs:List LkP),vs = [u,.int .i64 (i:Int)] ∧ i ≤ h.links.length ∧ GLk W3.heap.size W v3 zs ∧ zs.map (fun y:LkP=>y.1) = h.links ∧ zs.drop i = ys.drop i ∧ Fr (fun j=>v3.ownBlock = some j) w12 W ∧ (∀ y ∈ zs.take i,FP (fun j=>w12.heap.size ≤ j ∧ j < W.heap.size) W (fun W=>Ints W (lkPv y) y.1.spend.answers)),
  (fun vs _=>match vs with | [_,.int _ i]=>h.links.length - i.toNat | _=>0),⟨_,0,ys,rfl,by omega,hGk,he,rfl,Fr.refl _ _,by simp⟩,?_⟩
 rintro _ _ w13 ⟨u,i,zs,rfl,hi,hGz,hz,hd,f13,hfz⟩
 have hs13:=f13.size
 have hB13:Holds w13 b1 29 _:=(f13.block b1 hB1 (fun e=>by have:=(hg3 _ e).1; omega)).trans hB
 by_cases hin:i = h.links.length
 ·have hzl:zs.length = h.links.length:=by rw [← hz,List.length_map]
  subst hin
  rw [← hzl,List.take_length] at hfz
  have p1:=p1.fr f13 (fun i hi=>⟨by omega,fun e=>hdis1 i e hi.1⟩)
  have p2:=p2.fr f13 (fun i hi=>⟨by omega,fun e=>hdis2 i e hi.1⟩)
  have hwz:∀ y ∈ zs,WLnk y.1:=fun y hy=>hh.wf.links _ (by rw [← hz]; exact List.mem_map_of_mem hy)
  have p3:FP (fun j=>w12.heap.size ≤ j ∧ j < w13.heap.size) w13 (fun W=>∀ y ∈ zs,VLnk W (lkPc y) y.1):=fun w' a b c d e y hy=>⟨_,rfl,hfz y hy w' a b c d e,hwz y hy⟩
  have hGl:=GRow.conv (V:=VLnk) (f:=fun y:LkP=>y.1) hGz p3
  rw [hz] at hGl
  have p3:=hGl.fp (by omega) (by have:=hh.links.len; omega)
  have hG13:Holds w13 g2 29 hldZ:=(f13.block g2 (by omega) (fun e=>by have:=(hg3 _ e).1; omega)).trans ((f12.block g2 (by omega) (by omega)).trans hG)
  have P:FP (fun i=>W3.heap.size ≤ i ∧ i < w13.heap.size) w13 (fun W=>HldR W h (.slice d1 h.attrs.length e1) (.slice d2 h.bl.ys.length e2) v3):=((p1.and p2).and p3 |>.imp (fun W hW=>⟨hW.1.1,hW.1.2,hW.2,hh.wf⟩)).mono (fun i hi=>by
   rcases hi with (hi | hi) | hi | hi
   ·have:=q1 i hi.1; omega
   ·have:=q2 i hi.1; omega
   ·omega
   ·have:=hg3 i hi; omega)
  repeat (any_goals (first
  | (with_reducible refine yM ?_)
  | ((with_reducible refine oG fun X Y=>?_); simp [go_sem]; apply Y; clear Y X)))
  obtain ⟨d3',e3',rfl⟩:=hGl.isSlice
  refine arr_load hB13 un_hld (by kernel_rfl) (by kernel_rfl) ?_
  refine arr_store sz_hld rfl rfl (hld_one _ _ _ _ _ _ _ _ _ _ _ _ _ _ _ _ _ _ _ _) hG13 rfl (fun w14 hg14 hG14=>?_)
  refine arr_ret hG14 un_hld (by kernel_rfl) (by kernel_rfl) ?_
  have hs14:=hg14.size
  refine k _ _ _ _ ⟨hg14.os.trans (f13.os.trans hb012.os),hg14.tape.trans (f13.tape.trans hb012.tape),hg14.output.trans (f13.output.trans hb012.output),by omega,fun i hi=>(hg14.block i (by omega) (fun e=>by cases e; omega)).trans ((f13.block i (by omega) (fun e=>by have:=(hg3 _ e).1; omega)).trans (hb12 i hi))⟩ ?_ ?_
  ·exact (P.fr (Fr.of_by hg14) (fun i hi=>⟨hi.2,fun e=>by omega⟩)).mono (fun i hi=>⟨by omega,by omega⟩)
  ·exact ((hGl.keep (Fr.of_by hg14) (fun i hi=>⟨hi.2,fun e=>by omega⟩) (fun i hi e=>by have:=hg3 i hi; omega)).base (by omega)).mono (fun i hi=>⟨by omega,by omega,fun e=>by have:=hg3 i e; omega⟩)
 ·have hil:i < h.links.length:=by omega
  have hiZ:(i:Int) < h.links.length:=by omega
  have hzl:zs.length = h.links.length:=by rw [← hz,List.length_map]
  have hzi:i < zs.length:=by omega
  have hyi:i < ys.length:=by omega
  have ezy:zs[i] = ys[i]:=by
   have:=congrArg (fun l=>l[0]?) hd
   simp only [List.getElem?_drop,Nat.add_zero] at this
   rw [gE hzi,gE hyi] at this
   exact oI this
  have hq0:=hq ys[i] (List.getElem_mem hyi)
  obtain ⟨g,c,cs,hvg,hgl,hgB,hcl,hcc,hVc⟩:=GRow.elem hGz (gE hzi)
  have hcs:=hVc.here
  subst hcs
  rw [hzl] at hvg
  subst hvg
  repeat (any_goals (first
  | (with_reducible refine yL ?_)
  | ((with_reducible refine oG fun X Y=>?_); simp [go_sem,hiZ]; apply Y; clear Y X)))
  refine row_load hcc un_lnk (by kernel_rfl) (by kernel_rfl) ?_
  refine arr_alloc al_lnk (fun g14 w14 h14 hg14 hL=>?_)
  have hL14:=hL.lt
  refine arr_store sz_lnk (xs:=lkPc zs[i]) rfl rfl (lnk_one _ _ _ _) hL rfl (fun w15 hg15 hL=>?_)
  have hb1w:b1 < w13.heap.size:=hB13.lt
  have hs14:=h14.size
  have hs15:=hg15.size
  have hB15:=((hB13.next h14).other hg15 (by omega)).next (.drawn (B:=w15.heap.size))
  have hL:=hL.next (.drawn (B:=w15.heap.size))
  have f16:Fr (fun _=>False) w13 { w15 with drawn:=w15.drawn + 1 }:=((Fr.of_below (S:=fun _=>False) h14).trans (Fr.of_by hg15) (fun i hi=>.inr (by omega))).trans (Fr.of_below (S:=fun _=>False) .drawn) (fun i hi=>hi.elim)
  have hx0:=gE hzi
  have hwy:∀ x ∈ zs[i].1.spend.answers,I64 x:=fun x hx=>inR_I64 ((hh.wf.links _ (by rw [← hz]; exact List.mem_map_of_mem (List.getElem_mem hzi))).ans x hx)
  have hxl:zs[i].1.spend.answers.length < 1099511627776:=hx _ (by rw [← hz]; exact List.mem_map_of_mem (List.getElem_mem hzi))
  refine ⟨Nx { w15 with drawn:=w15.drawn + 1 },bR,rfl,?_⟩
  generalize ({ w15 with drawn:=w15.drawn + 1 }:World) = W16 at hB15 hL f16 ⊢
  have hs16:=f16.size
  have hb016:Bw w W16:=⟨f16.os.trans (f13.os.trans hb012.os),f16.tape.trans (f13.tape.trans hb012.tape),f16.output.trans (f13.output.trans hb012.output),by omega,fun i hi=>(f16.block i (by omega) id).trans ((f13.block i (by omega) (fun e=>by have:=(hg3 _ e).1; omega)).trans (hb12 i hi))⟩
  rw [← ezy] at hq0
  repeat (any_goals (first
  | (with_reducible refine pX ?_)
  | ((with_reducible refine idOH ?_); (with_reducible refine oH_of ⟨_,rfl⟩ (fun W0 hW0=>by (refine oG (fun X Y=>?_)); simp [go_sem,(hB15.next hW0).are,(hL.next hW0).are]; (first | exact Y _ _ ⟨rfl,rfl⟩ | exact ⟨by omega,Y _ _ ⟨rfl,rfl⟩⟩)) ?_))))
  refine ⟨Nx,?_⟩
  refine monoR (fun v w'=>OwnI w' W16.heap.size v zs[i].1.spend.answers) (fun v w w1 hS h=>ownI_next h hS) ?_ ?_
  ·intro w4 h4
   exact Clone_ok (hq0.1.next (hb016.on h4)) hxl (fun v' w5 ho h5 hv=>⟨h4.on h5,h5,owns_up ho (fun i hi=>Nat.le_trans h4.size (hv i hi))⟩)
  rintro w17 h17 v17 o17
  obtain ⟨d17,e17,rfl⟩:∃ ad c,v17 = .slice ad zs[i].1.spend.answers.length c:=owns_len o17
  have hs17:=h17.size
  have f17:Fr (fun _=>False) w13 w17:=f16.trans (Fr.of_below (S:=fun _=>False) h17) (fun i hi=>hi.elim)
  have hG17:GLk W3.heap.size w17 _ zs:=GRow.keep hGz f17 (fun _ h=>h.elim) (fun _ _=>id)
  have p17:=(o17.ints hwy (by omega)).fp
  have q17:∀ j,Value.inBlock (.slice d17 zs[i].1.spend.answers.length e17) = some j → W16.heap.size ≤ j:=fun j hj=>(owns_own o17 (own_inB o17 hj)).2.1
  unfold GLk at hG17
  rw [← hzl] at hG17
  repeat (any_goals ((with_reducible refine oG fun X Y=>?_); simp [go_sem,hiZ]; apply Y; clear Y X))
  refine GRow.put (off:=7) (m:=1) (xs:=[.slice d17 zs[i].1.spend.answers.length e17]) (y:=((zs[i].1,d17,zs[i].1.spend.answers.length,e17):LkP)) hG17 hx0 (by omega) sz_ints rfl rfl (fun u hu=>by rw [List.mem_singleton] at hu; subst hu; rfl) (fun _ h=>h.elim) (fun cs _ _ h=>h.imp (fun W e=>by subst e; rfl)) (fun w18 hg18 hG18=>?_)
  have hs18:=hg18.size
  have hgw:=(hg3 g rfl).2
  repeat (any_goals ((with_reducible refine oG fun X Y=>?_); simp [go_sem]; (try simp (disch:=omega) only [wrapI64,wrapU8,wrapU32,wrapU64]); apply Y; clear Y X))
  refine ⟨⟨_,i + 1,zs.set i (zs[i].1,d17,zs[i].1.spend.answers.length,e17),rfl,by omega,by rw [← hzl]; exact hG18,?_,?_,(f13.trans f17 (fun i hi=>hi.elim)).trans (Fr.of_by hg18) (fun j hj=>.inl (by subst hj; rfl)),?_⟩,by show h.links.length - (((i + 1:Nat):Int)).toNat < h.links.length - ((i:Nat):Int).toNat; omega⟩
  ·rw [List.map_set,← hz]
   have:(zs.map (fun y:LkP=>y.1))[i]'(by rw [List.length_map]; exact hzi) = zs[i].1:=List.getElem_map _
   rw [← this]
   exact List.set_getElem_self _
  ·rw [List.drop_set_of_lt (by omega)]
   have:=congrArg (fun l=>l.drop 1) hd
   simpa [List.drop_drop] using this
  ·intro y hy
   rw [List.take_set,List.take_succ_eq_append_getElem hzi,List.set_append_right _ _ (by simp; omega)] at hy
   have e0:i - (zs.take i).length = 0:=by rw [List.length_take]; omega
   rw [e0] at hy
   rcases List.mem_append.1 hy with hy | hy
   ·exact ((hfz y hy).fr (((f17.mono (fun _ _ h=>h.elim)).trans (Fr.of_by hg18) (fun j hj=>.inl hj):Fr (fun j=>j = g) w13 w18)) (fun j hj=>⟨hj.2,fun e=>by omega⟩)).mono (fun j hj=>⟨hj.1,by omega⟩)
   ·simp only [List.set_cons_zero,List.mem_singleton] at hy
    subst hy
    exact (p17.fr (Fr.of_by hg18) (fun j hj=>⟨hj.2,fun e=>by have:=q17 j hj.1; omega⟩)).mono (fun j hj=>⟨by have:=q17 j hj.1; omega,by omega⟩)
theorem fresh_ok (h:Hld) {av yv kv:Value} (hh:HldR w h av yv kv) (ha:h.attrs.length < 1099511627776) (hy:h.bl.ys.length < 1099511627776) (hk:h.links.length < 1000) (hx:∀ x ∈ h.links,x.spend.answers.length < 1099511627776)
  (k:∀ w' av yv kv,Bw w w' → Fresh w w' (fun W=>HldR W h av yv kv) → K (hldV h av yv kv) w'):callM Tryz.prog 71 #[hldV h av yv kv] K w:=
 fresh_own h hh ha hy hk hx (fun w' av yv kv hb hF _=>k w' av yv kv hb hF)
end
end Go.Proofs
namespace Go.Proofs
open Go Go.Sh Go.RowKit FdSpec TkSpec CodeSpec PuSpec DkSpec JnSpec
section
variable {K:VK} {w w' w0 W W':World} {L:List (Addr × Value)} {rb b:Nat} {s:Stp} {lims:List Lim} {p:Ph} {items:List Itm}
theorem has1_ok (x:Itm) (t:Tkt) {av yv lv:Value} {b:Nat} (hh:HldR w x.held av yv lv) (hb:cellsAre w (cellsOf [] b 0 (tktC t))) (k:∀ w',Bw w w' → K (.bool (decide (x.held.t = t))) w'):callM Tryz.prog 155 #[itmV x av yv lv,.pointer (some ⟨b,0,none⟩)] K w:=by
 apply sh_155_ok
 unfold sh_155
 obtain ⟨a1,n1,c1,a2,n2,c2,a3,n3,c3,rfl,rfl,rfl⟩:=hldR_slices hh
 have hk:Kn w (cellsOf [] b 0 (tktC t)) w:=⟨bR,hb⟩
 refine box_kn (cs:=itmC x (.slice a1 n1 c1) (.slice a2 n2 c2) (.slice a3 n3 c3)) rfl hk fun b1 W hk hb1 hbb=>?_
 repeat (any_goals ((with_reducible refine oG fun X Y=>?_); simp [go_sem,hk.cells]; apply Y; clear Y X))
 refine Same_ok x.held.t t (fun w2 h2=>?_)
 skip
 exact k _ (hk.next h2).below
theorem has_ok (h:StR s lims w p items) (t:Tkt) (k:∀ w',Bw w w' → K (.bool (hasM items t)) w'):callM Tryz.prog 105 #[.pointer (some ⟨p.pb,0,none⟩),tktV t] K w:=by
 apply sh_105_ok
 unfold sh_105
 refine box_kn (cs:=tktC t) rfl (.start w) fun b1 W hk hb1 hbb=>?_
 have hp:=(h.pur.next hk.below).cell 6 (by simp)
 simp only [List.getElem_cons_zero,List.getElem_cons_succ] at hp
 repeat (any_goals ((with_reducible refine oG fun X Y=>?_); simp [go_sem,hp]; apply Y; clear Y X))
 refine ContainsItm_ok (fun i=>decide (i.held.t = t)) (h.items.next (atOf_stay itm_vstay) hk.below) ?_ (fun w2 h2=>?_)
 ·rintro w' x cs K' T hb hx ⟨av,yv,lv,rfl,hh,_⟩ h'
  refine oM_callv1 (by kernel_rfl) ?_
  exact has1_ok x t hh (hk.next hb).cells h'
 ·have k:=k _ (hk.below.on h2)
  unfold hasM at k
  skip
  exact k
theorem StR.grew (h:StR s lims W p items) (hmu:∀ i,Mu p i → i < W.heap.size) {x:Itm} {v':Value} {W2:World} (hG:GRow 18 67 VItm 0 (Im p W) W' v' (items ++ [x])) (hg:W.grownBy W' p.iv.ownBlock) (hv:∀ i,v'.ownBlock = some i → p.iv.ownBlock = some i ∨ W.heap.size ≤ i)
  (hs:W'.grownBy W2 (some p.pb)) (hH:Holds W2 p.pb 136 ((puC s p).set 6 v')) (hc:items.length + 1 ≤ 400):StR s lims W2 { p with iv:=v' } (items ++ [x]) ∧ PuIt p W { p with iv:=v' } W2:=by
 have hs1:=hg.size
 have hs2:=hs.size
 have hpb:=hmu p.pb (.inr (.inr (.inr (.inl rfl))))
 have f1:Fr (fun i=>i = p.pb ∨ p.iv.ownBlock = some i) W W':=(Fr.of_by' hg).mono (fun i _ hi=>.inr hi)
 have f2:Fr (fun i=>i = p.pb) W' W2:=Fr.of_by hs
 have t:PuIt p W { p with iv:=v' } W2:=⟨f1.trans f2 (fun i hi=>.inl (.inl hi)),hv,rfl⟩
 refine ⟨⟨hH,?_,im_keep h.rd t.st,by rw [List.length_append]; exact hc,h.sp,fun i hi=>?_,fun i hi=>by have:=h.xl i hi; omega⟩,t⟩
 ·refine GRow.mono (GRow.keep hG f2 (fun i hi=>⟨by have:=hi.1; omega,fun e=>hi.2.1 (.inr (.inr (.inr (.inl e))))⟩) (fun i hi e=>?_)) (Im.mono t.fr.size t.st.mu rfl)
  rcases hv i hi with h1 | h1
  ·exact (h.si i h1).2.2.2 e
  ·omega
 ·rcases hv i hi with h1 | h1
  ·exact h.si i h1
  ·refine ⟨fun e=>?_,fun e=>?_,fun e=>?_,(show i ≠ p.pb by omega)⟩
   ·have:=hmu i (.inl e); omega
   ·have:=hmu i (.inr (.inl e)); omega
   ·have:=hmu i (.inr (.inr (.inl e))); omega
theorem fresh_im (hmu:∀ i,Mu p i → i < w0.heap.size) (hx:∀ i,p.x i → i < w0.heap.size) {f:WK} (h:Fresh w0 W f):FP (Im p W) W f:=h.mono (fun i hi=>⟨hi.2,fun e=>by have:=hmu i e; omega,fun e=>by have:=hx i e; omega⟩)
@[reducible] def itmZ:List Value:=hldZ ++ [.int .i64 0,.int .i64 0,.bool false,.bool false]
theorem itm_one (a b c d e f g h i j k:Int) (a1 a2 a3:Option Addr) (n1 n2 n3 c1 c2 c3:Nat) (l m:Int) (x y:Bool):∀ u ∈ ([.int .i64 a,.int .i64 b,.slice a1 n1 c1,.int .i64 c,.int .i64 d,.int .i64 e,.slice a2 n2 c2,.int .i64 f,.int .i64 g,.int .i64 h,.int .i64 i,.int .i64 j,.int .i64 k,.slice a3 n3 c3,.int .i64 l,.int .i64 m,.bool x,.bool y]:List Value),u.oneCell' = true:=by
 intro u hu
 simp only [List.mem_cons,List.not_mem_nil,or_false] at hu
 rcases hu with rfl | rfl | rfl | rfl | rfl | rfl | rfl | rfl | rfl | rfl | rfl | rfl | rfl | rfl | rfl | rfl | rfl | rfl <;> rfl
theorem build_itm (T:TypeId) (h:Hld) (a1 a2 a3:Option Addr) (n1 n2 n3 c1 c2 c3:Nat):oM Tryz.prog (Go.Op.build 67 #[(0,(.tmp 0))]) T [hldV h (.slice a1 n1 c1) (.slice a2 n2 c2) (.slice a3 n3 c3)] = pureM (itmV (freshI h) (.slice a1 n1 c1) (.slice a2 n2 c2) (.slice a3 n3 c3)):=by
 funext K w
 kernel_rfl
theorem lit_itm {T:TypeId} (x:Itm) {a1 a2 a3:Option Addr} {n1 n2 n3 c1 c2 c3:Nat} (k:∀ g W,Bw w W → w.heap.size ≤ g → Holds W g 67 (itmC x (.slice a1 n1 c1) (.slice a2 n2 c2) (.slice a3 n3 c3)) → K (.slice (some ⟨g,0,none⟩) 1 1) W):oM Tryz.prog (.buildSlice 59 1 #[(0,.tmp 0)]) T [itmV x (.slice a1 n1 c1) (.slice a2 n2 c2) (.slice a3 n3 c3)] K w:=by
 rw [oM_buildSlice1]; exact lit_run (by kernel_rfl) k
theorem items_add {B:Nat} {D:Nat → Prop} {v:Value} {l:List Itm} {x:Itm} {T:TypeId} {a1 a2 a3:Option Addr} {n1 n2 n3 c1 c2 c3:Nat} {q:Nat} (h:GRow 18 67 VItm B D w v l) (hB:B ≤ w.heap.size) (hq:Holds w q 67 (itmC x (.slice a1 n1 c1) (.slice a2 n2 c2) (.slice a3 n3 c3)))
  (hx:FP D w (fun w=>VItm w (itmC x (.slice a1 n1 c1) (.slice a2 n2 c2) (.slice a3 n3 c3)) x)) (hD:∀ i,D i → i < w.heap.size ∧ v.ownBlock ≠ some i) (hl:l.length < 1000)
  (k:∀ v' w',GRow 18 67 VItm B D w' v' (l ++ [x]) → w.grownBy w' v.ownBlock → (∀ i,v'.ownBlock = some i → v.ownBlock = some i ∨ w.heap.size ≤ i) → K v' w') :
  oM Tryz.prog (.call { callee:=.builtin .append,args:=#[.tmp 0,.tmp 1],argTypes:=#[59,59] }) T [v,.slice (some ⟨q,0,none⟩) 1 1] K w:=
 grow_appendB 59 T ((Tryz.prog.info? 67).getD default) (.agg itmZ.toArray) 184 (by kernel_rfl) (by kernel_rfl) (by kernel_rfl) (by kernel_rfl) (by kernel_rfl) (by kernel_rfl) (by omega) (by omega) h hB (x:=x) (xs:=itmC x (.slice a1 n1 c1) (.slice a2 n2 c2) (.slice a3 n3 c3)) rfl
  (fun j u hj=>by
   obtain ⟨hj1,rfl⟩:=gS hj
   rw [Nat.zero_add]
   exact hq.cell j hj1) (itm_one _ _ _ _ _ _ _ _ _ _ _ _ _ _ _ _ _ _ _ _ _ _ _ _) hx hD (by omega) (fun v' w' a b c _=>k v' w' a b c)
theorem sz_itms (w:World):(sizeOf 59).run Tryz.prog w = .ok 1 w:=by kernel_rfl
theorem _root_.Go.Sh.Holds.other' {w w':World} {g:Nat} {o:Option Nat} {T:TypeId} {vs:List Value} (h:Holds w g T vs) (hg:w.grownBy w' o) (hne:o ≠ some g):Holds w' g T vs:=(hg.block g h.lt (by first | exact hne | exact fun e=>hne e.symm)).trans h
theorem add_ok (h:StR s lims w p items) (hmu:∀ i,Mu p i → i < w.heap.size) (hl:Cd.LaidE w) (text:Bytes) (ht:text.length < 2 ^ 40) (k0:addR s lims items text = none → ∀ w',Bw w w' → K (.bool false) w')
  (k1:∀ items',addR s lims items text = some items' → ∀ w' iv',StR s lims w' { p with iv:=iv' } items' → PuIt p w { p with iv:=iv' } w' → K (.bool true) w'):callM Tryz.prog 132 #[.pointer (some ⟨p.pb,0,none⟩),.string ⟨text.toArray⟩] K w:=by
 apply sh_132_ok
 unfold sh_132
 refine Decode_ok text ht hl (fun w1 av yv lv h1 hF=>?_)
 unfold addR at k0 k1
 generalize (decodeH text).2 = ok at *
 generalize (decodeH text).1 = x at *
 obtain ⟨a1,n1,c1,a2,n2,c2,a3,n3,c3,rfl,rfl,rfl⟩:=hldR_slices hF.here
 iterate 2 (any_goals ((with_reducible refine oG fun X Y=>?_); simp [go_sem]; apply Y; clear Y X))
 refine arr_alloc al_hld (fun g5 w5 h5 hg5 hH5=>?_)
 refine arr_store sz_hld rfl rfl (hld_one _ _ _ _ _ _ _ _ _ _ _ _ _ _ _ _ _ _ _ _) hH5 rfl (fun w6 hg6 hH6=>?_)
 have hs1:=h1.size
 have hs5:=h5.size
 have hs6:=hg6.size
 have hb6:Bw w w6:=(h1.on h5).grown hg6 (by omega) (fun i e=>by cases e; omega)
 have hF6:Fresh w w6 (fun W=>HldR W x (.slice a1 n1 c1) (.slice a2 n2 c2) (.slice a3 n3 c3)):=((FP.next hF h5 (fun i hi=>hi.2)).fr (Fr.of_by hg6) (fun i hi=>⟨by omega,fun e=>by omega⟩)).mono (fun i hi=>⟨hi.1,by omega⟩)
 have hst:=(h.next hb6).next (.drawn (B:=w6.heap.size))
 have hb7:=hb6.on (.drawn (B:=w6.heap.size))
 have hF7:=hF6.next (.drawn (B:=w6.heap.size))
 have hH7:=hH6.next (.drawn (B:=w6.heap.size))
 refine ⟨Nx { w6 with drawn:=w6.drawn + 1 },bR,rfl,?_⟩
 generalize ({ w6 with drawn:=w6.drawn + 1 }:World) = W7 at hst hb7 hF7 hH7 ⊢
 clear hb6 hF6 hH6 hF hH5
 obtain ⟨ivad,ivc,hiv⟩:=hst.items.isSlice
 obtain ⟨lvad,lvc,hlv⟩:=hst.lim.isSlice
 obtain ⟨bvad,bvc,hbv⟩:=hst.set.ints.isSlice
 have P7:=hst.pur
 unfold puC at P7
 rw [hiv,hlv,hbv] at P7
 have skip:(∀ w',Bw w w' → K (.bool false) w') → ∀ w',Nx W7 w' → K (.bool false) w':=fun k w' h=>k w' (hb7.on h)
 cases ok with
 | false=>
  have k0:=skip (k0 rfl)
  repeat (any_goals (first
  | (with_reducible first|refine pX ?_|((refine idGdH ?_); refine gdH_conv fun _=>?_)|refine zD ?_)
  | ((with_reducible refine idOH ?_); first|(with_reducible refine vA ?_)|(with_reducible refine oH_of ⟨_,rfl⟩ (fun W0 hW0=>by (refine oG (fun X Y=>?_)); simp [go_sem,(P7.next hW0).are,(hH7.next hW0).are]; (first | exact Y _ _ ⟨rfl,rfl⟩ | exact ⟨by omega,Y _ _ ⟨rfl,rfl⟩⟩)) ?_))))
  refine ⟨Nx,?_⟩
  repeat (apply monoE; focus (intro w9 h9; (repeat (intro v9 e9; try (obtain rfl:=e9))); (repeat (any_goals (with_reducible first|refine zD ?_|refine yB ?_))); exact ⟨h9,bR,rfl⟩))
  rintro w8 h8 _ rfl _ rfl _ rfl _ rfl _ rfl _ rfl _ rfl
  repeat (any_goals (with_reducible first|refine zD ?_|refine yB ?_|refine yL ?_))
  exact k0 _ h8
 | true=>
 by_cases h4:400 ≤ items.length
 ·have h4Z:(400:Int) ≤ items.length:=by omega
  have k0:=skip (k0 (by rw [decide_eq_true h4]; rfl))
  repeat (any_goals (first
  | (with_reducible first|refine pX ?_|((refine idGdH ?_); refine gdH_conv fun _=>?_)|((refine idGd ?_); first|refine zC ?_|refine zD ?_))
  | ((with_reducible refine idOH ?_); first|(with_reducible first|refine vB ?_|refine oH_nil ?_)|(with_reducible refine oH_of ⟨_,rfl⟩ (fun W0 hW0=>by (refine oG (fun X Y=>?_)); simp [go_sem,(P7.next hW0).are,(hH7.next hW0).are,h4Z]; (first | exact Y _ _ ⟨rfl,rfl⟩ | exact ⟨by omega,Y _ _ ⟨rfl,rfl⟩⟩)) ?_))))
  refine ⟨Nx,?_⟩
  repeat (apply monoE; focus (intro w9 h9; (repeat (intro v9 e9; try (obtain rfl:=e9))); (repeat (any_goals (with_reducible first|refine zD ?_|refine yB ?_))); exact ⟨h9,bR,rfl⟩))
  rintro w8 h8 _ rfl _ rfl _ rfl _ rfl _ rfl _ rfl _ rfl
  repeat (any_goals (with_reducible first|refine zD ?_|refine yB ?_|refine yL ?_))
  exact k0 _ h8
 have h4Z:¬ (400:Int) ≤ items.length:=by omega
 have hSet:=hst.set
 rw [hbv] at hSet
 have hLim:=hst.lim
 rw [hlv] at hLim
 repeat (any_goals (first
 | (with_reducible first|refine pX ?_|((refine idGdH ?_); refine gdH_conv fun _=>?_)|refine zC ?_)
 | ((with_reducible refine idOH ?_); first|(with_reducible first|refine vB ?_|refine oH_nil ?_)|(with_reducible refine oH_of ⟨_,rfl⟩ (fun W0 hW0=>by (refine oG (fun X Y=>?_)); simp [go_sem,(P7.next hW0).are,(hH7.next hW0).are,h4Z]; (first | exact Y _ _ ⟨rfl,rfl⟩ | exact ⟨by omega,Y _ _ ⟨rfl,rfl⟩⟩)) ?_))))
 dsimp only
 refine ⟨Nx,?_⟩
 apply monoE
 ·intro w9 h9
  repeat (any_goals (with_reducible refine zC ?_))
  exact Valid_ok s lims x (hSet.next h9) (hLim.next (atOf_stay lim_vstay) h9) ((hF7.next h9).here) (fun w2 h2=>⟨h9.on h2,h2,rfl⟩)
 cases hv:PuSpec.validM s lims x with
 | false=>
  have k0:=skip (k0 (by rw [hv]; simp))
  repeat (apply monoE; focus (intro w9 h9; (repeat (intro v9 e9; try (obtain rfl:=e9))); (repeat (any_goals (first
   | (with_reducible first|((refine idGd ?_); first|refine zC ?_|refine zD ?_)|refine yC ?_)
   | ((with_reducible refine oG fun X Y=>?_); simp [go_sem]; apply Y; clear Y X)))); exact ⟨h9,bR,rfl⟩))
  rintro w8 h8 _ rfl _ rfl _ rfl _ rfl _ rfl _ rfl _ rfl
  repeat (any_goals (with_reducible first|refine zD ?_|refine yB ?_|refine yL ?_))
  exact k0 _ h8
 | true=>
  repeat (apply monoE; focus (intro w9 h9; (repeat (intro v9 e9; try (obtain rfl:=e9))); (repeat (any_goals (first
   | (with_reducible first|refine pureM_in ?_|refine zC ?_|refine yC ?_)
   | ((with_reducible refine oG fun X Y=>?_); simp [go_sem,(hH7.next h9).are]; apply Y; clear Y X)))); exact ⟨h9,bR,rfl⟩))
  rintro w8 h8 _ rfl _ rfl _ rfl _ rfl _ rfl _ rfl _ rfl
  repeat (any_goals (with_reducible refine zC ?_))
  refine has_ok (hst.next h8) x.t (fun w9 h9=>?_)
  have h89:=h8.on h9
  cases hq:hasM items x.t with
  | true=>
   have k0:=skip (k0 (by rw [hv,hq]; simp))
   repeat (any_goals (with_reducible first|refine yC ?_|refine yL ?_))
   exact k0 _ h89
  | false=>
   have k1:=k1 _ (by rw [hv,hq,decide_eq_false h4]; rfl)
   repeat (any_goals (with_reducible first|refine yC ?_|refine yM ?_))
   have h8d:=h89.on (.drawn (B:=w9.heap.size))
   refine ⟨fun sg W=>sg ≤ 2 → Nx { w9 with drawn:=w9.drawn + 1 } W,fun _=>bR,?_⟩
   generalize ({ w9 with drawn:=w9.drawn + 1 }:World) = W10 at h8d ⊢
   have P10:=P7.next h8d
   have hH10:=hH7.next h8d
   repeat (first | (with_reducible refine pX ?_) | (with_reducible refine oH_nil ?_) | (with_reducible refine gdH_true rfl ?_) | (with_reducible refine gdH_false rfl ?_) | (refine oH_of ⟨_,rfl⟩ (fun W0 hW0=>by (obtain ⟨s0,hs0,hC⟩:=hW0); (have hsk:s0 ≤ 2:=by omega); (refine oG (fun X Y=>?_)); simp [go_sem,(P10.next (hC hsk)).are,(hH10.next (hC hsk)).are]; (first | exact Y _ _ ⟨rfl,rfl⟩ | exact ⟨by omega,Y _ _ ⟨rfl,rfl⟩⟩)) ?_))
   rw [build_itm]
   show _ ∧ _
   refine ⟨fun _=>bR,?_⟩
   refine lit_itm (freshI x) (fun q w11 h11 hQ1 hQ=>⟨fun _=>h11,?_⟩)
   have h711:=h8d.on h11
   have hst11:=hst.next h711
   have hmu11:∀ i,Mu p i → i < w11.heap.size:=fun i hi=>by have:=hmu i hi; have:=hb7.size; have:=h711.size; omega
   rw [← hiv]
   refine items_add (D:=Im p w11) hst11.itm (Nat.zero_le _) hQ ?_ (fun i hi=>⟨hi.1,fun e=>hi.2.1 (.inr (.inr (.inr (.inr e))))⟩) (by omega) (fun v' w12 hG hg hv'=>⟨fun h=>by omega,?_⟩)
   ·exact (fresh_im hmu h.xl (hF7.next h711)).imp (fun W hW=>⟨_,_,_,rfl,hW,I64_0,I64_0⟩)
   iterate 1 (any_goals ((with_reducible refine oG fun X Y=>?_); simp [go_sem]; apply Y; clear Y X))
   refine ⟨fun h=>by omega,?_⟩
   iterate 1 (any_goals ((with_reducible refine oG fun X Y=>?_); simp [go_sem]; apply Y; clear Y X))
   refine ⟨fun h=>by omega,?_⟩
   obtain ⟨va,vc,hva⟩:=hG.isSlice
   have hP12:Holds w12 p.pb 136 (puC s p):=hst11.pur.other' hg (fun e=>(hst11.si _ e).2.2.2 rfl)
   refine arr_set (i:=6) sz_itms (by rw [hva]; rfl) (by rw [hva]; rfl) hP12 (by simp) (fun w13 hg13 hH13=>⟨fun h=>by omega,?_⟩)
   obtain ⟨r1,r2⟩:=hst11.grew hmu11 hG hg hv' hg13 hH13 (by omega)
   exact k1 _ _ r1 ((PuIt.below (hb7.on h711)).trans r2)
theorem I64_k (n:Nat) (h:n < 100):I64 (n:Int):=by unfold I64; omega
theorem StR.put1 (h:StR s lims w p items) (hmu:∀ i,Mu p i → i < w.heap.size) {i g c off:Nat} {x y:Itm} {u:Value} {T T':TypeId} (hx:items[i]? = some x) (hg:p.iv = .slice (some ⟨g,0,none⟩) items.length c) (hoff:off < 18) (hT:∀ w,(sizeOf T).run Tryz.prog w = .ok 1 w)
  (hu:u.cells = #[u]) (h1:u.oneCell' = true) (hV:∀ av yv lv,(itmC x av yv lv).set off u = itmC y av yv lv) (hh:y.held = x.held) (hI:I64 y.status ∧ I64 y.dare) (k:∀ W,StR s lims W p (items.set i y) → PuIt p w p W → K undef W) :
  oM Tryz.prog (.store T (.tmp 0) (.tmp 1)) T' [.pointer (some ⟨g,i * 18 + off,none⟩),u] K w:=by
 have hG:=h.itm
 rw [hg] at hG
 have hgo:p.iv.ownBlock = some g:=by rw [hg]; rfl
 refine GRow.put (off:=off) (m:=1) (xs:=[u]) (y:=y) hG hx (by omega) hT hu rfl (fun v hv=>by rw [List.mem_singleton] at hv; subst hv; exact h1) (fun j hj=>⟨hj.1,fun e=>hj.2.1 (.inr (.inr (.inr (.inr (by rw [e]; exact hgo)))))⟩) (fun cs hcl _ hf=>hf.imp (fun W=>?_)) (fun W hgr hG2=>?_)
 ·rintro ⟨av,yv,lv,rfl,h2,h3⟩
  refine ⟨av,yv,lv,?_,by rw [hh]; exact h2,hI⟩
  rw [← hV av yv lv,List.set_eq_take_append_cons_drop,if_pos (by exact hoff)]
  rfl
 ·have hf:Fr (fun i=>i = p.pb ∨ p.iv.ownBlock = some i) w W:=(Fr.of_by hgr).mono (fun j _ hj=>.inr (by rw [hj]; exact hgo))
  have t:PuIt p w p W:=⟨hf,fun j hj=>.inl hj,rfl⟩
  refine k W ⟨?_,?_,im_keep h.rd t.st,by rw [List.length_set]; exact h.cnt,h.sp,h.si,fun i hi=>lL (h.xl i hi) hf.size⟩ t
  ·exact h.pur.other hgr (fun e=>(h.si g hgo).2.2.2 e.symm)
  ·rw [hg]
   exact hG2.mono (Im.mono hf.size (fun j hj=>.inl hj) rfl)
theorem StR.at (h:StR s lims w p items) {i:Nat} {x:Itm} (hx:items[i]? = some x):∃ g c av yv lv,p.iv = .slice (some ⟨g,0,none⟩) items.length c ∧ g < w.heap.size ∧ HldR w x.held av yv lv ∧ I64 x.status ∧ I64 x.dare ∧ ∀ (j:Nat) (u:Value),(itmC x av yv lv)[j]? = some u → w.cell? ⟨g,i * 18 + j,none⟩ = some u:=by
 obtain ⟨g,c,cs,h1,h2,_,_,h4,h5⟩:=h.itm.elem hx
 obtain ⟨av,yv,lv,rfl,h6,h7,h8⟩:=h5.here
 exact ⟨g,c,av,yv,lv,h1,h2,h6,h7,h8,h4⟩
def reserveI (s:Stp) (kind dare:Int) (x:Itm):Option Itm:=if decide (x.status = 0) && decide (1 ≤ dare) && decide (dare < s.g.Q) then some { x with status:=1,dare:=dare,lent:=decide (kind = 3) } else none
theorem reserve_ok (h:StR s lims w p items) (hmu:∀ i,Mu p i → i < w.heap.size) {i g c:Nat} {x:Itm} (hx:items[i]? = some x) (hgv:p.iv = .slice (some ⟨g,0,none⟩) items.length c) (kind dare:Int) (hd:I64 dare) (k0:reserveI s kind dare x = none → K (.bool false) w)
  (k1:∀ y,reserveI s kind dare x = some y → ∀ w',StR s lims w' p (items.set i y) → PuIt p w p w' → K (.bool true) w'):callM Tryz.prog 133 #[.pointer (some ⟨p.pb,0,none⟩),.pointer (some ⟨g,i * 18,none⟩),.int .i64 kind,.int .i64 dare] K w:=by
 apply sh_133_ok
 unfold sh_133
 obtain ⟨g',c',av,yv,lv,hg',hgl,hH,hI,hJ,hc⟩:=h.at hx
 rw [hgv] at hg'
 cases hg'
 have c14:=hc 14 _ rfl
 have P:=h.pur.are
 unfold reserveI at k0 k1
 repeat (any_goals (first
 | (with_reducible first|refine pureM_in ?_|((refine idGd ?_); first|refine zD ?_|((refine idGdD ?_); first|refine zI ?_|refine zJ ?_|refine zK (fun hg=>?_) fun hg=>?_)|((refine idGdN ?_); first|refine zO ?_|refine zP ?_|refine zQ (fun hg=>?_) fun hg=>?_))|((refine idPick ?_); first|refine yB ?_|refine yD ?_|refine yE ?_|refine yF ?_|refine yG ?_)|((refine idCond ?_); first|refine yL ?_|refine yP (fun hg=>?_) fun hg=>?_))
 | ((with_reducible refine oG fun X Y=>?_); simp [go_sem,c14,P]; apply Y; clear Y X)))
 ·exact k0 (by rw [decide_eq_false (by omega:¬ 1 ≤ dare)]; simp)
 ·exact k0 (by rw [decide_eq_false (by omega:¬ dare < s.g.Q)]; simp)
 rotate_left
 ·exact k0 (by rw [decide_eq_false hg]; simp)
 have k1:=k1 _ (by rw [decide_eq_true (by omega:x.status = 0),decide_eq_true (by omega:1 ≤ dare),decide_eq_true (by omega:dare < s.g.Q)]; rfl)
 have len1:∀ y,(items.set i y).length = items.length:=fun y=>List.length_set
 have set1:∀ y,(items.set i y)[i]? = some y:=fun y=>List.getElem?_set_self (gS hx).1
 refine h.put1 hmu (y:={ x with status:=1 }) hx hgv (by omega) sz_int1 rfl rfl (fun _ _ _=>rfl) rfl ⟨I64_k 1 (by omega),hJ⟩ (fun w2 h2 t2=>?_)
 have hmu2:∀ i,Mu p i → i < w2.heap.size:=fun i hi=>lL (hmu i hi) t2.fr.size
 repeat (any_goals ((with_reducible refine oG fun X Y=>?_); simp [go_sem]; apply Y; clear Y X))
 refine h2.put1 hmu2 (y:={ x with status:=1,dare:=dare }) (set1 _) (by rw [len1]; exact hgv) (by omega) sz_int1 rfl rfl (fun _ _ _=>rfl) rfl ⟨I64_k 1 (by omega),hd⟩ (fun w3 h3 t3=>?_)
 have hmu3:∀ i,Mu p i → i < w3.heap.size:=fun i hi=>lL (hmu2 i hi) t3.fr.size
 repeat (any_goals ((with_reducible refine oG fun X Y=>?_); simp [go_sem]; apply Y; clear Y X))
 rw [List.set_set] at h3
 refine h3.put1 hmu3 (y:={ x with status:=1,dare:=dare,lent:=decide (kind = 3) }) (set1 _) (by rw [len1]; exact hgv) (by omega) sz_bool rfl rfl (fun _ _ _=>rfl) rfl ⟨I64_k 1 (by omega),hd⟩ (fun w4 h4 t4=>?_)
 rw [List.set_set] at h4
 skip
 exact k1 _ h4 ((t2.trans t3).trans t4)
theorem mark_ok' (h:StR s lims w p items) (hmu:∀ i,Mu p i → i < w.heap.size) {i g c:Nat} {x:Itm} (hx:items[i]? = some x) (hgv:p.iv = .slice (some ⟨g,0,none⟩) items.length c) (kind z:Int) (k0:markI kind x = none → K (.bool false) w)
  (k1:∀ y,markI kind x = some y → ∀ w',StR s lims w' p (items.set i y) → PuIt p w p w' → K (.bool true) w'):callM Tryz.prog 134 #[.pointer (some ⟨p.pb,0,none⟩),.pointer (some ⟨g,i * 18,none⟩),.int .i64 kind,.int .i64 z] K w:=by
 apply sh_134_ok
 unfold sh_134
 obtain ⟨g',c',av,yv,lv,hg',hgl,hH,hI,hJ,hc⟩:=h.at hx
 rw [hgv] at hg'
 cases hg'
 have c14:=hc 14 _ rfl
 have c16:=hc 16 _ rfl
 have c17:=hc 17 _ rfl
 refine ⟨fun _ W=>K (.bool true) W,?_,fun l u w2 h2=>h2⟩
 unfold markI at k0 k1
 by_cases h2:kind = 2
 ·by_cases hs:x.status = 1
  ·have k1:=k1 _ (if_pos ⟨h2,hs⟩)
   repeat (any_goals (first
   | (with_reducible first|refine pureM_in ?_|refine zA ?_|refine yB ?_|refine yL ?_)
   | ((with_reducible refine oG fun X Y=>?_); simp [go_sem,c14,h2,hs]; apply Y; clear Y X)))
   refine h.put1 hmu (y:={ x with status:=2 }) hx hgv (by omega) sz_int1 rfl rfl (fun _ _ _=>rfl) rfl ⟨I64_k 2 (by omega),hJ⟩ (fun w2 h2 t2=>?_)
   skip
   exact k1 _ h2 t2
  ·have k0:=k0 (by rw [if_neg (fun h=>hs h.2),if_neg (fun h=>by omega)])
   repeat (any_goals (first
   | (with_reducible first|refine pureM_in ?_|((refine idGd ?_); first|refine zA ?_|refine zB ?_)|((refine idPick ?_); first|refine yB ?_|refine yC ?_)|refine yM ?_)
   | ((with_reducible refine oG fun X Y=>?_); simp [go_sem,c14,h2,hs]; apply Y; clear Y X)))
   exact k0
 ·by_cases h4:kind = 4
  ·cases hl:x.lent with
   | false=>
    have k0:=k0 (by rw [if_neg (fun h=>h2 h.1),if_neg (fun h=>by rw [hl] at h; exact absurd h.2.1 (by simp))])
    rw [hl] at c16
    repeat (any_goals (first
    | (with_reducible first|refine pureM_in ?_|((refine idGd ?_); first|refine zA ?_|refine zB ?_)|((refine idPick ?_); first|refine yB ?_|refine yC ?_)|refine yM ?_)
    | ((with_reducible refine oG fun X Y=>?_); simp [go_sem,c16,h2,h4]; apply Y; clear Y X)))
    exact k0
   | true=>
    rw [hl] at c16
    cases hb:x.back with
    | true=>
     rw [hb] at c17
     have k0:=k0 (by rw [if_neg (fun h=>h2 h.1),if_neg (fun h=>by rw [hb] at h; exact absurd h.2.2 (by simp))])
     repeat (any_goals (first
     | (with_reducible first|refine pureM_in ?_|((refine idGd ?_); first|refine zA ?_|refine zB ?_)|((refine idPick ?_); first|refine yB ?_|refine yC ?_)|refine yM ?_)
     | ((with_reducible refine oG fun X Y=>?_); simp [go_sem,c16,c17,h2,h4]; apply Y; clear Y X)))
     exact k0
    | false=>
     rw [hb] at c17
     have k1:=k1 _ (by rw [if_neg (fun h=>h2 h.1),if_pos ⟨h4,hl,hb⟩])
     repeat (any_goals (first
     | (with_reducible first|refine pureM_in ?_|((refine idGd ?_); first|refine zA ?_|refine zB ?_)|((refine idPick ?_); first|refine yB ?_|refine yC ?_)|((refine idCond ?_); first|refine yL ?_|refine yM ?_))
     | ((with_reducible refine oG fun X Y=>?_); simp [go_sem,c16,c17,h2,h4]; apply Y; clear Y X)))
     refine h.put1 hmu (y:={ x with back:=true }) hx hgv (by omega) sz_bool rfl rfl (fun _ _ _=>rfl) rfl ⟨hI,hJ⟩ (fun w2 h2 t2=>?_)
     skip
     exact k1 _ h2 t2
  ·have k0:=k0 (by rw [if_neg (fun h=>h2 h.1),if_neg (fun h=>h4 h.1)])
   repeat (any_goals (first
   | (with_reducible first|refine zB ?_|refine yC ?_|refine yM ?_)
   | ((with_reducible refine oG fun X Y=>?_); simp [go_sem,h2,h4]; apply Y; clear Y X)))
   exact k0
theorem oM_callv3 {P:Program} {f:FuncId} {fs cs:Array Value} {T:TypeId} {ts:Array TypeId} {x y z:Value} (hb:isBody P f = true) (h:callM P f (fs ++ #[x,y,z] ++ cs) K w):oM P (.call { callee:=.value (.tmp 0),args:=#[.tmp 1,.tmp 2,.tmp 3],argTypes:=ts }) T [.func (.func f) fs cs,x,y,z] K w:=
 oM_callv _ hb (by simp [xop,execOp,evalL,evE,resolve,Deferred.ofValue,invoke]) h
theorem enc0:encNum 0 = [48,59]:=by decide +kernel
theorem prefix0 (r:Bytes):Lib.hasPrefix r [48,59] = decide ([48,59] <+: r):=by
 unfold Lib.hasPrefix
 rw [Bool.eq_iff_iff]
 simp [List.isPrefixOf_iff_prefix]
theorem stepR3 (s:Stp) (k i d:Int) (x:Itm):stepR s [k,i,d] x = if decide (k = 1) || decide (k = 3) then reserveI s k d x else none:=rfl
theorem stepR2 (s:Stp) (k i:Int) (x:Itm):stepR s [k,i] x = if k = 2 ∨ k = 4 then markI k x else none:=by
 unfold stepR markI
 by_cases h2:k = 2
 ·subst h2
  by_cases hs:x.status = 1 <;> simp [hs]
 ·by_cases h4:k = 4
  ·subst h4
   cases x.lent <;> cases x.back <;> simp
  ·simp [h2,h4]
theorem two_le {l:List Int} (h:¬ l.length < 2):∃ a b m,l = a :: b :: m:=by
 rcases l with _ | ⟨a,_ | ⟨b,m⟩⟩
 ·exact absurd (by simp) h
 ·exact absurd (by simp) h
 ·exact ⟨a,b,m,rfl⟩
theorem replay_ok (h:StR s lims w p items) (hmu:∀ i,Mu p i → i < w.heap.size) (hl:Cd.LaidE w) (r:Bytes) (hr:r.length < 2 ^ 40) (k0:replayM s lims items r = none → ∀ w',Bw w w' → K (.bool false) w')
  (k1:∀ items',replayM s lims items r = some items' → ∀ w' iv',StR s lims w' { p with iv:=iv' } items' → PuIt p w { p with iv:=iv' } w' → K (.bool true) w'):callM Tryz.prog 84 #[.pointer (some ⟨p.pb,0,none⟩),.string ⟨r.toArray⟩] K w:=by
 apply sh_84_ok
 unfold sh_84
 refine Cd.pNum_ok 0 ⟨by omega,by omega⟩ hl.toLaid (fun w1 h1=>?_)
 rw [enc0]
 refine Cd.cutPrefix_ok r [48,59] ?_
 rw [prefix0]
 have h01:=h.next h1
 have hmu1:∀ i,Mu p i → i < w1.heap.size:=fun i hi=>lL (hmu i hi) h1.size
 have hl1:=hl.below h1 hl.size
 unfold replayM at k0 k1
 by_cases hp:[48,59] <+: r
 ·have et:Lib.trimPrefix r [48,59] = r.drop 2:=by unfold Lib.trimPrefix; rw [prefix0,if_pos (by simpa using hp)]; rfl
  rw [if_pos hp] at k0 k1
  rw [et,decide_eq_true hp]
  repeat (any_goals (first
  | (with_reducible refine yL ?_)
  | ((with_reducible refine oG fun X Y=>?_); simp [go_sem]; apply Y; clear Y X)))
  refine add_ok h01 hmu1 hl1 _ (by rw [List.length_drop]; omega) (fun e w' hb=>?_) (fun items' e w' iv' a b=>?_)
  ·have k0:=k0 e w' (h1.on hb)
   skip
   exact k0
  ·have k1:=k1 items' e w' iv' a ((PuIt.below h1).trans b)
   skip
   exact k1
 ·rw [if_neg hp] at k0 k1
  rw [decide_eq_false hp]
  repeat (any_goals (first
  | (with_reducible refine yM ?_)
  | ((with_reducible refine oG fun X Y=>?_); simp [go_sem]; apply Y; clear Y X)))
  refine Cd.open_ok r (fun w2 hr2 h2=>?_)
  have hw8:=hl.size
  have h1s:=h1.size
  refine Cd.itemsNum_ok w1.heap.size ⟨r,false⟩ (hl1.below h2 hl1.size) (by omega) hr Rd.ok_good hr2 (fun v w3 hr3 hg3 ho=>?_)
  have h13:Bw w1 w3:=h2.grown hg3 (by have:=h2.size; omega) (fun i e=>by cases e; exact rL)
  have hw3:=h1.on h13
  have hst:=h.next hw3
  have hin:=nums_inR (r:=⟨r,false⟩) Rd.ok_good
  have hoI:OwnI w3 w2.heap.size v (rdNums ⟨r,false⟩).1:=by
   show w3.ownsRow _ _ 1 v _ (flat Go.Sh.intC _)
   rw [Go.Sh.flat_int]
   exact ho
  have hn:Ints w3 v (rdNums ⟨r,false⟩).1:=hoI.ints (fun x hx=>inR_I64 (hin.1 x hx)) (by have:=hin.2; omega)
  obtain ⟨ivad,ivc,hiv⟩:=hst.items.isSlice
  have P3:=hst.pur
  unfold puC at P3
  rw [hiv] at P3
  generalize (rdNums ⟨r,false⟩).2 = rd at *
  generalize hN:(rdNums ⟨r,false⟩).1 = N at *
  have hw3d:=hw3.on (.drawn (B:=w3.heap.size))
  have hr3d:=hr3.below (.drawn (B:=w3.heap.size)) hr3.lt
  have P3:=P3.next (.drawn (B:=w3.heap.size))
  have hn:=hn.next (.drawn (B:=w3.heap.size))
  have hoI:=ownI_next hoI (.drawn (B:=w3.heap.size))
  have hst:=hst.next (.drawn (B:=w3.heap.size))
  refine ⟨Nx { w3 with drawn:=w3.drawn + 1 },bR,?_⟩
  generalize ({ w3 with drawn:=w3.drawn + 1 }:World) = W4 at hr3d P3 hn hoI hst hw3d ⊢
  skip
  refine Cd.done_ok _ _ hr3d ⟨bR,?_⟩
  rw [rdDone_eq]
  have skip:(∀ w',Bw w w' → K (.bool false) w') → ∀ w',Nx W4 w' → K (.bool false) w':=fun k w' h=>k w' (hw3d.on h)
  obtain ⟨vad,vc,rfl⟩:=hn.isSlice
  cases hd:doneR rd with
  | false=>
   have k0:=skip (k0 (by rw [hd]; rfl))
   repeat (any_goals (first
   | (with_reducible first|refine pX ?_|((refine idGdH ?_); refine gdH_conv fun _=>?_)|refine zD ?_|refine yL ?_)
   | ((with_reducible refine idOH ?_); first|(with_reducible refine vA ?_)|(with_reducible refine oH_of ⟨_,rfl⟩ (fun W0 hW0=>by (refine oG (fun X Y=>?_)); simp [go_sem,(P3.next hW0).are]; (first | exact Y _ _ ⟨rfl,rfl⟩ | exact ⟨by omega,Y _ _ ⟨rfl,rfl⟩⟩)) ?_))))
   exact k0 _ (bR)
  | true=>
  by_cases hlen:N.length < 2
  ·have hlenZ:(N.length:Int) < 2:=by omega
   have k0:=skip (k0 (by rw [decide_eq_true hlen]; simp))
   repeat (any_goals (first
   | (with_reducible first|refine pX ?_|((refine idGdH ?_); refine gdH_conv fun _=>?_)|((refine idGd ?_); first|refine zC ?_|refine zD ?_)|refine yL ?_)
   | ((with_reducible refine idOH ?_); first|(with_reducible first|refine vA ?_|refine vB ?_)|(with_reducible refine oH_of ⟨_,rfl⟩ (fun W0 hW0=>by (refine oG (fun X Y=>?_)); simp [go_sem,(P3.next hW0).are,hlenZ]; (first | exact Y _ _ ⟨rfl,rfl⟩ | exact ⟨by omega,Y _ _ ⟨rfl,rfl⟩⟩)) ?_))))
   exact k0 _ (bR)
  have hlenZ:¬ (N.length:Int) < 2:=by omega
  rw [hd,decide_eq_false hlen] at k0 k1
  obtain ⟨kd,ix,rest,rfl⟩:=two_le hlen
  obtain ⟨gv,cv,hvg,hvl,hvB,hvc⟩:=hoI.cells (by simp)
  cases hvg
  have c0:=hvc 0 _ rfl
  have c1:=hvc 1 _ rfl
  have cc:∀ W0,Nx W4 W0 → W0.cell? ⟨gv,0,none⟩ = some (.int .i64 kd) ∧ W0.cell? ⟨gv,1,none⟩ = some (.int .i64 ix):=fun W0 h=>⟨(h.cell hvl).trans c0,(h.cell hvl).trans c1⟩
  by_cases hix:ix < 0
  ·have k0:=skip (k0 (by simp [hix]))
   repeat (any_goals (first
   | (with_reducible first|refine pX ?_|((refine idGdH ?_); refine gdH_conv fun _=>?_)|((refine idGd ?_); first|refine zC ?_|refine zD ?_|((refine idGdD ?_); refine zI ?_))|refine yL ?_)
   | ((with_reducible refine idOH ?_); first|(with_reducible first|refine vA ?_|refine vB ?_|refine vD ?_)|(with_reducible refine oH_of ⟨_,rfl⟩ (fun W0 hW0=>by (refine oG (fun X Y=>?_)); simp [go_sem,(P3.next hW0).are,hlenZ,cc _ hW0,hix]; (first | exact Y _ _ ⟨rfl,rfl⟩ | exact ⟨by omega,Y _ _ ⟨rfl,rfl⟩⟩)) ?_))))
   exact k0 _ (bR)
  by_cases hil:(items.length:Int) ≤ ix
  ·have k0:=skip (k0 (by simp [hix]; rw [List.getElem?_eq_none (by omega)]))
   repeat (any_goals (first
   | (with_reducible first|refine pX ?_|((refine idGdH ?_); refine gdH_conv fun _=>?_)|((refine idGd ?_); first|refine zC ?_|((refine idGdD ?_); refine zI ?_))|refine yL ?_)
   | ((with_reducible refine idOH ?_); first|(with_reducible first|refine vB ?_|refine vD ?_|refine oH_nil ?_)|(with_reducible refine oH_of ⟨_,rfl⟩ (fun W0 hW0=>by (refine oG (fun X Y=>?_)); simp [go_sem,(P3.next hW0).are,hlenZ,cc _ hW0,hix,hil]; (first | exact Y _ _ ⟨rfl,rfl⟩ | exact ⟨by omega,Y _ _ ⟨rfl,rfl⟩⟩)) ?_))))
   exact k0 _ (bR)
  have hn0:((kd :: ix :: rest).length:Int) > 1:=by simp; omega
  repeat (any_goals (first
  | (with_reducible first|refine pX ?_|((refine idGdH ?_); refine gdH_conv fun _=>?_)|((refine idGd ?_); first|refine zC ?_|((refine idGdD ?_); refine zI ?_))|refine yM ?_)
  | ((with_reducible refine idOH ?_); first|(with_reducible first|refine vB ?_|refine vD ?_|refine oH_nil ?_)|(with_reducible refine oH_of ⟨_,rfl⟩ (fun W0 hW0=>by (refine oG (fun X Y=>?_)); simp [go_sem,(P3.next hW0).are,hlenZ,cc _ hW0,hix,hil]; (first | exact Y _ _ ⟨rfl,rfl⟩ | exact ⟨by omega,Y _ _ ⟨rfl,rfl⟩⟩)) ?_))))
  obtain ⟨x,hx⟩:∃ x,items[ix.toNat]? = some x:=⟨_,gE (by omega)⟩
  obtain ⟨g,c,yv,zv,wv,hgv,hgl,_⟩:=hst.at hx
  rw [hiv] at hgv
  cases hgv
  have k0:stepR s (kd :: ix :: rest) x = none → ∀ w',Nx W4 w' → K (.bool false) w':=fun e=>skip (k0 (by simp [hix,hx,e]))
  have k1:∀ y,stepR s (kd :: ix :: rest) x = some y → ∀ w',StR s lims w' p (items.set ix.toNat y) → PuIt p w p w' → K (.bool true) w':=fun y e w' a b=>k1 _ (by simp [hix,hx,e]) w' p.iv a b
  by_cases hk:kd = 1 ∨ kd = 3
  ·refine ⟨fun l W=>Nx W4 W ∧ l.getD 1 undef = .func (.func 133) #[.pointer (some ⟨p.pb,0,none⟩)] #[] ∧ l.getD 2 undef = .int .i64 3,?_,?_⟩
   ·repeat (any_goals ((with_reducible refine oG fun X Y=>?_); simp [go_sem,c0]; (first|refine Y _ _ ?_|refine And.intro (by omega) (Y _ _ ?_)); clear Y X))
    refine ⟨fun l W=>W = W4 ∧ l.getD 0 undef = .bool true,?_,?_⟩
    ·rcases hk with rfl | rfl
     ·repeat (any_goals (first
      | (with_reducible refine yL ?_)
      | ((with_reducible refine oG fun X Y=>?_); simp [go_sem]; apply Y; clear Y X)))
      exact ⟨rfl,rfl⟩
     ·repeat (any_goals (first
      | (with_reducible refine yM ?_)
      | ((with_reducible refine oG fun X Y=>?_); simp [go_sem]; apply Y; clear Y X)))
      exact ⟨rfl,rfl⟩
    ·rintro l u W ⟨rfl,hl0⟩
     rw [hl0]
     repeat (any_goals (first
     | (with_reducible refine yL ?_)
     | ((with_reducible refine oG fun X Y=>?_); simp [go_sem]; apply Y; clear Y X)))
     exact ⟨bR,rfl,rfl⟩
   ·rintro l u W ⟨hW,f1,f2⟩
    rw [f1,f2]
    have h4W:=hW.on (.drawn (B:=W.heap.size))
    refine ⟨Nx { W with drawn:=W.drawn + 1 },bR,rfl,?_⟩
    generalize ({ W with drawn:=W.drawn + 1 }:World) = W5 at h4W ⊢
    have P5:=P3.next h4W
    have cc5:∀ W0,Nx W5 W0 → W0.cell? ⟨gv,0,none⟩ = some (.int .i64 kd) ∧ W0.cell? ⟨gv,1,none⟩ = some (.int .i64 ix):=fun W0 h=>cc W0 (h4W.on h)
    clear cc
    rcases rest with _ | ⟨d,_ | ⟨e,m⟩⟩
    ·have k0:=k0 (by rw [stepR2,if_neg (by omega)])
     repeat (any_goals (first
     | (with_reducible first|refine pX ?_|((refine idGdH ?_); refine gdH_conv fun _=>?_)|refine zB ?_)
     | ((with_reducible refine idOH ?_); (with_reducible refine oH_of ⟨_,rfl⟩ (fun W0 hW0=>by (refine oG (fun X Y=>?_)); simp [go_sem,(P5.next hW0).are,cc5 _ hW0]; (first | exact Y _ _ ⟨rfl,rfl⟩ | exact ⟨by omega,Y _ _ ⟨rfl,rfl⟩⟩)) ?_))))
     refine ⟨Nx,fun W6 h6=>?_⟩
     repeat (any_goals (with_reducible first|refine zB ?_|refine yC ?_))
     exact k0 _ (h4W.on h6)
    ·have hvd:=hvc 2 _ rfl
     have hvd5:∀ W0,Nx W5 W0 → W0.cell? ⟨gv,2,none⟩ = some (.int .i64 d):=fun W0 h=>((h4W.on h).cell hvl).trans hvd
     have hdI:I64 d:=hn.rng d (by simp)
     have hixZ:ix < (items.length:Int):=by omega
     have hixN:0 ≤ ix:=by omega
     have hw2:IntKind.i64.wrap 2 = 2:=by decide
     repeat (any_goals (first
     | (with_reducible first|refine pX ?_|((refine idGdH ?_); refine gdH_conv fun _=>?_)|refine zA ?_)
     | ((with_reducible refine idOH ?_); first|(with_reducible refine oH_nil ?_)|(with_reducible refine oH_of ⟨_,rfl⟩ (fun W0 hW0=>by (refine oG (fun X Y=>?_)); simp [go_sem,(P5.next hW0).are,cc5 _ hW0,hvd5 _ hW0,hixZ,hixN,hw2]; (first | exact Y _ _ ⟨rfl,rfl⟩ | exact ⟨by omega,Y _ _ ⟨rfl,rfl⟩⟩)) ?_))))
     refine ⟨Nx,fun W6 h6=>?_⟩
     repeat (any_goals (with_reducible refine zA ?_))
     refine oM_callv3 (by kernel_rfl) ?_
     have hwW6:=hw3d.on (h4W.on h6)
     have k0:=k0
     rw [stepR3,if_pos (by simpa using hk)] at k0 k1
     refine reserve_ok (hst.next (h4W.on h6)) (fun i hi=>lL (hmu i hi) hwW6.size) hx hiv kd d hdI (fun e=>?_) (fun y e w' a b=>?_)
     ·have k0:=k0 e _ (h4W.on h6)
      repeat (any_goals (with_reducible refine yB ?_))
      exact k0
     ·have k1:=k1 y e w' a ((PuIt.below hwW6).trans b)
      repeat (any_goals (with_reducible refine yB ?_))
      exact k1
    ·have k0:=k0 rfl
     have hne:¬ ((kd :: ix :: d :: e :: m).length:Int) = 3:=by simp only [List.length_cons]; omega
     repeat (any_goals (first
     | (with_reducible first|refine pX ?_|((refine idGdH ?_); refine gdH_conv fun _=>?_)|((refine idGd ?_); ((refine idGdD ?_); refine zG ?_)))
     | ((with_reducible refine idOH ?_); (with_reducible refine oH_of ⟨_,rfl⟩ (fun W0 hW0=>by (refine oG (fun X Y=>?_)); simp [go_sem,(P5.next hW0).are,cc5 _ hW0,hne]; (first | exact Y _ _ ⟨rfl,rfl⟩ | exact ⟨by omega,Y _ _ ⟨rfl,rfl⟩⟩)) ?_))))
     refine ⟨Nx,fun W6 h6=>?_⟩
     repeat (any_goals (with_reducible first|((refine idGd ?_); ((refine idGdD ?_); refine zG ?_))|refine yE ?_))
     exact k0 _ (h4W.on h6)
  ·have hk1:¬ kd = 1:=fun e=>hk (.inl e)
   have hk3:¬ kd = 3:=fun e=>hk (.inr e)
   refine ⟨fun l W=>(kd = 2 ∨ kd = 4) ∧ Nx W4 W ∧ l.getD 1 undef = .func (.func 134) #[.pointer (some ⟨p.pb,0,none⟩)] #[] ∧ l.getD 2 undef = .int .i64 2,?_,?_⟩
   ·repeat (any_goals ((with_reducible refine oG fun X Y=>?_); simp [go_sem,c0]; (first|refine Y _ _ ?_|refine And.intro (by omega) (Y _ _ ?_)); clear Y X))
    refine ⟨fun l W=>W = W4 ∧ l.getD 0 undef = .bool false,?_,?_⟩
    ·repeat (any_goals (first
     | (with_reducible refine yM ?_)
     | ((with_reducible refine oG fun X Y=>?_); simp [go_sem,hk1,hk3]; apply Y; clear Y X)))
     exact ⟨rfl,rfl⟩
    ·rintro l u W ⟨rfl,hl0⟩
     rw [hl0]
     repeat (any_goals (with_reducible refine yM ?_))
     refine ⟨fun l W2=>W2 = W ∧ l.getD 0 undef = .bool (decide (kd = 2 ∨ kd = 4)),?_,?_⟩
     ·by_cases h2:kd = 2
      ·have e:decide (kd = 2 ∨ kd = 4) = true:=decide_eq_true (.inl h2)
       rw [e]
       repeat (any_goals (first
       | (with_reducible refine yL ?_)
       | ((with_reducible refine oG fun X Y=>?_); simp [go_sem,h2]; apply Y; clear Y X)))
       exact ⟨rfl,rfl⟩
      ·by_cases h4:kd = 4
       ·have e:decide (kd = 2 ∨ kd = 4) = true:=decide_eq_true (.inr h4)
        rw [e]
        repeat (any_goals (first
        | (with_reducible refine yM ?_)
        | ((with_reducible refine oG fun X Y=>?_); simp [go_sem,h2,h4]; apply Y; clear Y X)))
        exact ⟨rfl,rfl⟩
       ·have e:decide (kd = 2 ∨ kd = 4) = false:=decide_eq_false (by omega)
        rw [e]
        repeat (any_goals (first
        | (with_reducible refine yM ?_)
        | ((with_reducible refine oG fun X Y=>?_); simp [go_sem,h2,h4]; apply Y; clear Y X)))
        exact ⟨rfl,rfl⟩
     ·rintro l2 u2 W2 ⟨rfl,hl2⟩
      rw [hl2]
      by_cases hk4:kd = 2 ∨ kd = 4
      ·rw [decide_eq_true hk4]
       repeat (any_goals (first
       | (with_reducible refine yL ?_)
       | ((with_reducible refine oG fun X Y=>?_); simp [go_sem]; apply Y; clear Y X)))
       exact ⟨hk4,bR,rfl,rfl⟩
      ·rw [decide_eq_false hk4]
       have k0:=k0 (by
        rcases rest with _ | ⟨d,_ | ⟨e,m⟩⟩
        ·rw [stepR2,if_neg hk4]
        ·rw [stepR3,if_neg (by simpa using hk)]
        ·rfl) _ (bR)
       repeat (any_goals (with_reducible refine yM ?_))
       exact k0
   ·rintro l u W ⟨hk4,hW,f1,f2⟩
    rw [f1,f2]
    have h4W:=hW.on (.drawn (B:=W.heap.size))
    refine ⟨Nx { W with drawn:=W.drawn + 1 },bR,rfl,?_⟩
    generalize ({ W with drawn:=W.drawn + 1 }:World) = W5 at h4W ⊢
    have P5:=P3.next h4W
    have cc5:∀ W0,Nx W5 W0 → W0.cell? ⟨gv,0,none⟩ = some (.int .i64 kd) ∧ W0.cell? ⟨gv,1,none⟩ = some (.int .i64 ix):=fun W0 h=>cc W0 (h4W.on h)
    clear cc
    rcases rest with _ | ⟨d,m⟩
    ·have hixZ:ix < (items.length:Int):=by omega
     have hixN:0 ≤ ix:=by omega
     have hw2:IntKind.i64.wrap 1 = 1:=by decide
     repeat (any_goals (first
     | (with_reducible first|refine pX ?_|((refine idGdH ?_); refine gdH_conv fun _=>?_)|refine zA ?_)
     | ((with_reducible refine idOH ?_); first|(with_reducible refine oH_nil ?_)|(with_reducible refine oH_of ⟨_,rfl⟩ (fun W0 hW0=>by (refine oG (fun X Y=>?_)); simp [go_sem,(P5.next hW0).are,cc5 _ hW0,hixZ,hixN,hw2]; (first | exact Y _ _ ⟨rfl,rfl⟩ | exact ⟨by omega,Y _ _ ⟨rfl,rfl⟩⟩)) ?_))))
     refine ⟨Nx,fun W6 h6=>?_⟩
     repeat (any_goals (with_reducible refine zA ?_))
     refine oM_callv3 (by kernel_rfl) ?_
     have hwW6:=hw3d.on (h4W.on h6)
     have k0:=k0
     rw [stepR2,if_pos hk4] at k0 k1
     refine mark_ok' (hst.next (h4W.on h6)) (fun i hi=>lL (hmu i hi) hwW6.size) hx hiv kd ix (fun e=>?_) (fun y e w' a b=>?_)
     ·have k0:=k0 e _ (h4W.on h6)
      repeat (any_goals (with_reducible refine yB ?_))
      exact k0
     ·have k1:=k1 y e w' a ((PuIt.below hwW6).trans b)
      repeat (any_goals (with_reducible refine yB ?_))
      exact k1
    ·have k0:=k0 (by
      rcases m with _ | ⟨e,m⟩
      ·rw [stepR3,if_neg (by simpa using hk)]
      ·rfl)
     have hne:¬ ((kd :: ix :: d :: m).length:Int) = 2:=by simp only [List.length_cons]; omega
     repeat (any_goals (first
     | (with_reducible first|refine pX ?_|((refine idGdH ?_); refine gdH_conv fun _=>?_)|((refine idGd ?_); ((refine idGdD ?_); refine zG ?_)))
     | ((with_reducible refine idOH ?_); (with_reducible refine oH_of ⟨_,rfl⟩ (fun W0 hW0=>by (refine oG (fun X Y=>?_)); simp [go_sem,(P5.next hW0).are,cc5 _ hW0,hne]; (first | exact Y _ _ ⟨rfl,rfl⟩ | exact ⟨by omega,Y _ _ ⟨rfl,rfl⟩⟩)) ?_))))
     refine ⟨Nx,fun W6 h6=>?_⟩
     repeat (any_goals (with_reducible first|((refine idGd ?_); ((refine idGdD ?_); refine zG ?_))|refine yE ?_))
     exact k0 _ (h4W.on h6)
end
end Go.Proofs
namespace PuSpec
open FdSpec TkSpec CodeSpec DkSpec JnSpec
variable {s:Stp} {lims:List Lim} {A:Ab} {p:Pst} {all sure:List Bytes}
theorem live_good (v:Inv s lims A p all sure):∃ rj,replayL s lims [] p.j.recs = some rj ∧ Match rj p.items ∧ GoodI s lims rj:=by
 obtain ⟨rj,h1,h2⟩:=v.live
 exact ⟨rj,h1,h2,(replayL_later _ goodI_nil h1).1⟩
def Kept (s:Stp) (lims:List Lim) (sure:List Bytes) (B:Ab) (q:Pst):Prop:=∃ all' sure',sure <+: sure' ∧ Inv s lims B q all' sure'
theorem Inv.kept (v:Inv s lims A p all sure):Kept s lims sure A p:=⟨all,sure,List.prefix_refl _,v⟩
theorem spent_sure {rj items:List Itm} {recs:List Bytes} (hr:replayL s lims [] recs = some rj) (hm:Match rj items):∀ (i:Nat) (x:Itm),items[i]? = some x → x.status = 1 ∨ x.status = 2 →
  ∃ rs y,replayL s lims [] recs = some rs ∧ rs[i]? = some y ∧ y.held = x.held ∧ y.dare = x.dare ∧ (y.status = 1 ∨ y.status = 2):=by
 intro i x hx hst
 obtain ⟨r,h1,h2⟩:=hm.get hx
 refine ⟨rj,r,hr,h1,h2.held.symm,?_⟩
 rcases h2.rest with ⟨a,b,_⟩ | ⟨_,a,_⟩
 ·exact ⟨b.symm,by rw [← a]; exact hst⟩
 ·omega
theorem add_inv (v:Inv s lims A p all sure) (h:Hld) (w:WHld h) :
  Kept s lims sure (addP s lims A p h).2.1 (addP s lims A p h).2.2:=by
 unfold addP
 by_cases he:addErr s lims p.items h = 0
 ·rw [if_neg (by simp [he])]
  obtain ⟨rj,h1,h2,g⟩:=live_good v
  have hc:validM s lims h = true ∧ hasM p.items h.t = false ∧ p.items.length < 400:=by
   unfold addErr at he
   split at he
   ·cases he
   ·rename_i hv
    split at he
    ·cases he
    ·rename_i hh
     split at he
     ·cases he
     ·rename_i hl
      exact ⟨by simpa using hv,by simpa using hh,by omega⟩
  have hl:h.links.length ≤ 4:=by
   have:=hc.1
   simp only [validM,linksM,Bool.and_eq_true,decide_eq_true_eq] at this
   omega
  have ht:replayM s lims rj (recAdd h) = some (rj ++ [freshI h]):=by
   rw [replay_add rj h w hl,if_pos]
   exact ⟨hc.1,by rw [h2.has]; exact hc.2.1,by rw [h2.1]; exact hc.2.2⟩
  rcases inv_append v h1 ht with ⟨a1,a2,a3,a4,a5⟩ | ⟨a1,all',a2,a3⟩
  ·rw [if_neg (by rw [a1]; simp)]
   refine ⟨all ++ [recAdd h],sure,List.prefix_refl _,⟨a3,⟨_,a5⟩,⟨_,by dsimp only; rw [a2]; exact a4,h2.push _⟩,?_⟩⟩
   intro i x hx hst
   dsimp only at hx
   rw [List.getElem?_append] at hx
   split at hx
   ·exact v.spent i x hx hst
   ·have:x = freshI h:=by
     rcases hk:i - p.items.length with _ | k
     ·rw [hk] at hx; simp only [List.getElem?_cons_zero,Option.some.injEq] at hx; exact hx.symm
     ·rw [hk] at hx; simp at hx
    rw [this] at hst
    simp [freshI] at hst
  ·rw [if_pos a1]
   exact ⟨all',sure,List.prefix_refl _,a3⟩
 ·rw [if_pos he]
  exact v.kept
theorem modify_set {l:List Itm} {i:Nat} {x:Itm} (h:l[i]? = some x) (f:Itm → Itm):l.modify i f = l.set i (f x):=by
 apply List.ext_getElem?
 intro j
 rw [List.getElem?_modify,List.getElem?_set]
 by_cases hj:i = j
 ·subst hj
  have hl:=(List.getElem?_eq_some_iff.1 h).1
  rw [h,if_pos rfl,if_pos hl]
  simp
 ·rw [if_neg hj]
  cases l[j]? <;> simp [hj]
end PuSpec
namespace FdPoly
def ev:List Int → Int → Int
 | [],_=>0
 | c :: p,x=>c + x * ev p x
def sd (a:Int):List Int → List Int
 | []=>[]
 | [_]=>[]
 | _ :: d :: p=>ev (d :: p) a :: sd a (d :: p)
theorem sd_len (a:Int):∀ p:List Int,(sd a p).length = p.length - 1
 | []=>rfl
 | [_]=>rfl
 | c :: d :: p=>by
  have:=sd_len a (d :: p)
  simp only [sd,List.length_cons] at this ⊢
  omega
theorem sd_ev (a x:Int):∀ p:List Int,(x - a) * ev (sd a p) x = ev p x - ev p a
 | []=>by simp [sd,ev]
 | [c]=>by simp [sd,ev]
 | c :: d :: p=>by
  have h:=sd_ev a x (d :: p)
  have e1:ev (sd a (c :: d :: p)) x = ev (d :: p) a + x * ev (sd a (d :: p)) x:=rfl
  have e2:ev (c :: d :: p) x = c + x * ev (d :: p) x:=rfl
  have e3:ev (c :: d :: p) a = c + a * ev (d :: p) a:=rfl
  rw [e1,e2,e3]
  generalize ev (sd a (d :: p)) x = s at *
  generalize ev (d :: p) x = u at *
  generalize ev (d :: p) a = v at *
  grind
def U (q a:Int):Prop:=∃ u,q ∣ u * a - 1
theorem U.cancel {q a b:Int} (h:U q a) (hd:q ∣ a * b):q ∣ b:=by
 obtain ⟨u,k,hk⟩:=h
 obtain ⟨m,hm⟩:=hd
 exact ⟨u * m - k * b,by grind⟩
def Z (q:Int) (p:List Int):Prop:=∀ c ∈ p,q ∣ c
theorem Z.ev {q:Int}:∀ {p:List Int},Z q p → ∀ x,q ∣ FdPoly.ev p x
 | [],_,_=>Int.dvd_zero q
 | c :: p,h,x=>by
  have h1:=h c (by simp)
  have h2:=Z.ev (p:=p) (fun d hd=>h d (by simp [hd])) x
  exact Int.dvd_add h1 (Int.dvd_mul_of_dvd_right h2)
theorem Z.of_sd {q a:Int}:∀ {p:List Int},Z q (sd a p) → q ∣ FdPoly.ev p a → Z q p
 | [],_,_=>fun c hc=>by cases hc
 | [c],_,h=>fun d hd=>by
  simp only [List.mem_singleton] at hd
  subst hd
  simpa [FdPoly.ev] using h
 | c :: d :: p,hz,h=>by
  have h1:q ∣ FdPoly.ev (d :: p) a:=hz _ (by simp [sd])
  have h2:Z q (sd a (d :: p)):=fun e he=>hz e (by simp [sd,he])
  have h3:=Z.of_sd h2 h1
  intro e he
  rcases List.mem_cons.1 he with rfl | he
  ·have e3:FdPoly.ev (e :: d :: p) a = e + a * FdPoly.ev (d :: p) a:=rfl
   rw [e3] at h
   have h5:q ∣ a * FdPoly.ev (d :: p) a:=Int.dvd_mul_of_dvd_right h1
   have:=Int.dvd_sub h h5
   have e4:e + a * FdPoly.ev (d :: p) a - a * FdPoly.ev (d :: p) a = e:=by omega
   rwa [e4] at this
  ·exact h3 e he
def Apart (q:Int):List Int → Prop
 | []=>True
 | a :: xs=>(∀ x ∈ xs,U q (x - a)) ∧ Apart q xs
theorem vanish {q:Int}:∀ {xs p:List Int},Apart q xs → p.length ≤ xs.length → (∀ x ∈ xs,q ∣ ev p x) → Z q p
 | [],p,_,hl,_=>by
  have:p = []:=List.length_eq_zero_iff.1 (by simpa using hl)
  subst this
  exact fun c hc=>by cases hc
 | a :: xs,p,hA,hl,hz=>by
  have h1:=hz a (by simp)
  refine Z.of_sd (a:=a) (vanish hA.2 (by rw [sd_len]; simp only [List.length_cons] at hl; omega) (fun x hx=>?_)) h1
  have h2:=hz x (by simp [hx])
  have h3:=sd_ev a x p
  refine (hA.1 x hx).cancel ?_
  rw [h3]
  exact Int.dvd_sub h2 h1
def addL:List Int → List Int → List Int
 | [],p=>p
 | p,[]=>p
 | c :: p,d :: r=>(c + d) :: addL p r
def scl (k:Int) (p:List Int):List Int:=p.map (fun c=>k * c)
theorem addL_ev (x:Int):∀ p r:List Int,ev (addL p r) x = ev p x + ev r x
 | [],r=>by simp [addL,ev]
 | c :: p,[]=>by simp [addL,ev]
 | c :: p,d :: r=>by
  simp only [addL,ev,addL_ev x p r]
  grind
theorem addL_len:∀ p r:List Int,(addL p r).length = max p.length r.length
 | [],r=>by simp [addL]
 | c :: p,[]=>by simp [addL]
 | c :: p,d :: r=>by simp only [addL,List.length_cons,addL_len p r]; omega
theorem addL_get:∀ (p r:List Int) (i:Nat),(addL p r).getD i 0 = p.getD i 0 + r.getD i 0
 | [],r,i=>by simp [addL]
 | c :: p,[],i=>by simp [addL]
 | c :: p,d :: r,0=>by simp [addL]
 | c :: p,d :: r,i + 1=>by
  have:=addL_get p r i
  simpa [addL] using this
theorem scl_ev (k x:Int) (p:List Int):ev (scl k p) x = k * ev p x:=by
 induction p with
 | nil=>simp [scl,ev]
 | cons c p ih=>
  have e:scl k (c :: p) = (k * c) :: scl k p:=rfl
  rw [e]
  simp only [ev,ih]
  grind
theorem scl_len (k:Int) (p:List Int):(scl k p).length = p.length:=by simp [scl]
theorem scl_get (k:Int) (p:List Int) (i:Nat):(scl k p).getD i 0 = k * p.getD i 0:=by
 induction p generalizing i with
 | nil=>simp [scl]
 | cons c p ih=>
  cases i with
  | zero=>simp [scl]
  | succ i=>simpa [scl] using ih i
def lin (a:Int) (p:List Int):List Int:=addL (0 :: p) (scl (-a) p)
theorem lin_ev (a x:Int) (p:List Int):ev (lin a p) x = (x - a) * ev p x:=by
 unfold lin
 rw [addL_ev,scl_ev]
 simp only [ev]
 grind
theorem lin_len (a:Int) (p:List Int):(lin a p).length = p.length + 1:=by
 unfold lin
 rw [addL_len,scl_len,List.length_cons]; omega
theorem lin_top (a:Int) (p:List Int):(lin a p).getD p.length 0 = p.getD (p.length - 1) 0:=by
 unfold lin
 rw [addL_get,scl_get]
 have h1:p.getD p.length 0 = 0:=by simp [List.getD]
 rw [h1]
 cases p with
 | nil=>simp
 | cons c p=>simp
structure Ip (q:Int) (X Y:Nat → Int) (i n:Nat) (p:List Int) (t:Int):Prop where
 len:p.length = n + 1
 val:∀ j,i ≤ j → j ≤ i + n → q ∣ ev p (X j) - Y j
 top:q ∣ p.getD n 0 - t
theorem Ip.uniq {q:Int} {X Y:Nat → Int} {i n:Nat} {p p':List Int} {t t':Int} (h:Ip q X Y i n p t) (h':Ip q X Y i n p' t') (hA:∀ a b,i ≤ a → a < b → b ≤ i + n → U q (X b - X a)):Z q (addL p (scl (-1) p')):=by
 refine vanish (xs:=(List.range' i (n + 1)).map X) ?_ ?_ ?_
 ·have:∀ m k,i ≤ k → k + m ≤ i + n + 1 → Apart q ((List.range' k m).map X):=by
   intro m
   induction m with
   | zero=>intro k _ _; exact trivial
   | succ m ih=>
    intro k hk hm
    rw [List.range'_succ,List.map_cons]
    refine ⟨fun x hx=>?_,ih (k + 1) (by omega) (by omega)⟩
    obtain ⟨b,hb,rfl⟩:=List.mem_map.1 hx
    rw [List.mem_range'_1] at hb
    exact hA k b hk (by omega) (by omega)
  exact this (n + 1) i (Nat.le_refl _) (by omega)
 ·rw [addL_len,scl_len,h.len,h'.len,List.length_map,List.length_range']; omega
 ·intro x hx
  obtain ⟨b,hb,rfl⟩:=List.mem_map.1 hx
  rw [List.mem_range'_1] at hb
  rw [addL_ev,scl_ev]
  have h1:=h.val b hb.1 (by omega)
  have h2:=h'.val b hb.1 (by omega)
  have:=Int.dvd_sub h1 h2
  have e:ev p (X b) - Y b - (ev p' (X b) - Y b) = ev p (X b) + -1 * ev p' (X b):=by omega
  rwa [e] at this
theorem Ip.step {q:Int} {X Y:Nat → Int} {i n:Nat} {p r:List Int} {t s u:Int} (h:Ip q X Y i n p t) (h':Ip q X Y (i + 1) n r s) (hu:q ∣ u * (X (i + n + 1) - X i) - 1) :
  Ip q X Y i (n + 1) (scl u (addL (lin (X i) r) (scl (-1) (lin (X (i + n + 1)) p)))) ((s - t) * u):=by
 refine ⟨?_,fun j h1 h2=>?_,?_⟩
 ·rw [scl_len,addL_len,scl_len,lin_len,lin_len,h.len,h'.len]; omega
 ·rw [scl_ev,addL_ev,scl_ev,lin_ev,lin_ev]
  obtain ⟨k,hk⟩:=hu
  by_cases hj:j = i
  ·subst hj
   obtain ⟨a,ha⟩:=h.val j (Nat.le_refl _) (by omega)
   generalize ev p (X j) = P at *
   generalize ev r (X j) = R at *
   generalize X (j + n + 1) = xn at *
   generalize X j = xj at *
   generalize Y j = y at *
   exact ⟨u * (xn - xj) * a + k * y,by grind⟩
  ·by_cases hj2:j = i + n + 1
   ·subst hj2
    obtain ⟨a,ha⟩:=h'.val (i + n + 1) (by omega) (by omega)
    generalize ev p (X (i + n + 1)) = P at *
    generalize ev r (X (i + n + 1)) = R at *
    generalize X (i + n + 1) = xn at *
    generalize X i = xj at *
    generalize Y (i + n + 1) = y at *
    exact ⟨u * (xn - xj) * a + k * y,by grind⟩
   ·obtain ⟨a,ha⟩:=h.val j (by omega) (by omega)
    obtain ⟨b,hb⟩:=h'.val j (by omega) (by omega)
    generalize ev p (X j) = P at *
    generalize ev r (X j) = R at *
    generalize X (i + n + 1) = xn at *
    generalize X i = xi at *
    generalize X j = xj at *
    generalize Y j = y at *
    exact ⟨u * (xj - xi) * b - u * (xj - xn) * a + k * y,by grind⟩
 ·rw [scl_get,addL_get,scl_get]
  have e1:(lin (X i) r).getD (n + 1) 0 = r.getD n 0:=by have:=lin_top (X i) r; rw [h'.len] at this; exact this
  have e2:(lin (X (i + n + 1)) p).getD (n + 1) 0 = p.getD n 0:=by have:=lin_top (X (i + n + 1)) p; rw [h.len] at this; exact this
  rw [e1,e2]
  obtain ⟨a,ha⟩:=h.top
  obtain ⟨b,hb⟩:=h'.top
  exact ⟨u * b - u * a,by grind⟩
theorem Ip.one (q:Int) (X Y:Nat → Int) (i:Nat):Ip q X Y i 0 [Y i] (Y i):=
 ⟨rfl,fun j h1 h2=>by
  have:j = i:=by omega
  subst this
  simp [ev],by simp⟩
def pr (X:Nat → Int):Nat → List Int
 | 0=>[1]
 | n + 1=>lin (X n) (pr X n)
end FdPoly
namespace FdPoly
open FdSpec
theorem addM_dvd {n a b:Int} (hn:okN n):n ∣ addM n a b - (a + b):=by
 unfold addM; rw [if_pos hn]
 have:=Int.emod_add_mul_ediv (a + b) n
 exact ⟨-((a + b) / n),by grind⟩
theorem mulM_dvd {n a b:Int} (hn:okN n):n ∣ mulM n a b - a * b:=by
 unfold mulM; rw [if_pos hn]
 have:=Int.emod_add_mul_ediv (a * b) n
 exact ⟨-(a * b / n),by grind⟩
theorem mod_dvd (n a:Int):n ∣ a % n - a:=by
 have:=Int.emod_add_mul_ediv a n
 exact ⟨-(a / n),by grind⟩
end FdPoly
namespace FdPoly
open FdSpec
theorem res_eq {q a b:Int} (h:q ∣ a - b) (ha:0 ≤ a ∧ a < q) (hb:0 ≤ b ∧ b < q):a = b:=by
 obtain ⟨k,hk⟩:=h
 have h1:k < 1:=by
  refine Classical.byContradiction fun hn=>?_
  have:q * 1 ≤ q * k:=Int.mul_le_mul_of_nonneg_left (by omega) (by omega)
  omega
 have h2:-1 < k:=by
  refine Classical.byContradiction fun hn=>?_
  have:q * k ≤ q * (-1):=Int.mul_le_mul_of_nonneg_left (by omega) (by omega)
  omega
 have:k = 0:=by omega
 subst this
 omega
section
variable {q:Int} {xs ys:List Int}
def d0 (q:Int) (ys:List Int):List Int:=ys.map (fun y=>y % q)
end
def hNew (q x d:Int) (o:List Int) (n:Nat):Int:=if n = 0 then addM q (subM q 0 (mulM q (o.getD 0 0) x)) d else addM q (subM q 0 (mulM q (o.getD n 0) x)) (o.getD (n - 1) 0)
def hStep (q x d:Int) (o:List Int):List Int:=(List.range o.length).map (hNew q x d o)
theorem hStep_get (q x d:Int) (o:List Int) (n:Nat):(hStep q x d o).getD n 0 = if n < o.length then hNew q x d o n else 0:=by
 unfold hStep
 rw [List.getD_eq_getElem?_getD,List.getElem?_map]
 by_cases h:n < o.length
 ·rw [List.getElem?_range h,if_pos h]; rfl
 ·rw [if_neg h,List.getElem?_eq_none (by simp; omega)]; rfl
def Zr (c:Nat) (o:List Int):Prop:=∀ n,c ≤ n → o.getD n 0 = 0
theorem mul0 {q x:Int} (hq:okN q):mulM q 0 x = 0:=by unfold mulM; rw [if_pos hq]; simp
theorem sub0 {q:Int} (hq:okN q):subM q 0 0 = 0:=by unfold subM; rw [if_pos hq]; simp
theorem add0 {q:Int} (hq:okN q):addM q 0 0 = 0:=by unfold addM; rw [if_pos hq]; simp
theorem Zr.step {q x d:Int} (hq:okN q) {c:Nat} {o:List Int} (h:Zr c o):Zr (c + 1) (hStep q x d o):=by
 intro n hn
 rw [hStep_get]
 split
 ·unfold hNew
  rw [if_neg (by omega),h n (by omega),h (n - 1) (by omega),mul0 hq,sub0 hq,add0 hq]
 ·rfl
end FdPoly
namespace FdPoly
open FdSpec
theorem U.mul {q a b:Int} (ha:U q a) (hb:U q b):U q (a * b):=by
 obtain ⟨u,k,hk⟩:=ha
 obtain ⟨v,m,hm⟩:=hb
 exact ⟨u * v,v * b * k + m,by grind⟩
theorem U.neg {q a:Int} (ha:U q a):U q (-a):=by
 obtain ⟨u,k,hk⟩:=ha
 exact ⟨-u,k,by grind⟩
theorem U.one (q:Int):U q 1:=⟨1,0,by omega⟩
theorem U.list {q:Int} (l:List Int) (h:∀ x ∈ l,U q x) {d:Int} (hd:d = l.foldr (· * ·) 1):U q d:=by
 subst hd
 induction l with
 | nil=>exact U.one q
 | cons x l ih=>exact (h x (by simp)).mul (ih (fun y hy=>h y (by simp [hy])))
end FdPoly
namespace GrLaw
open FdSpec FdPoly TkSpec
def Cg (P a b:Int):Prop:=P ∣ a - b
section
variable {P a b c d x y:Int}
theorem Cg.refl (P a:Int):Cg P a a:=⟨0,by omega⟩
theorem Cg.symm (h:Cg P a b):Cg P b a:=by obtain ⟨k,hk⟩:=h; exact ⟨-k,by grind⟩
theorem Cg.trans (h:Cg P a b) (h2:Cg P b c):Cg P a c:=by obtain ⟨k,hk⟩:=h; obtain ⟨m,hm⟩:=h2; exact ⟨k + m,by grind⟩
theorem Cg.mul (h:Cg P a b) (h2:Cg P c d):Cg P (a * c) (b * d):=by obtain ⟨k,hk⟩:=h; obtain ⟨m,hm⟩:=h2; exact ⟨k * c + b * m,by grind⟩
theorem Cg.pow (h:Cg P a b):∀ n:Nat,Cg P (a ^ n) (b ^ n)
 | 0=>by rw [Int.pow_zero,Int.pow_zero]; exact Cg.refl _ _
 | n + 1=>by rw [Int.pow_succ,Int.pow_succ]; exact (Cg.pow h n).mul h
theorem Cg.mod (P a:Int):Cg P (a % P) a:=mod_dvd P a
theorem Cg.emod (h:Cg P a b):a % P = b % P:=by
 obtain ⟨k,hk⟩:=h
 have:a = b + P * k:=by omega
 rw [this,Int.add_mul_emod_self_left]
theorem Cg.of_emod (h:a % P = b % P):Cg P a b:=(Cg.mod P a).symm.trans (by rw [h]; exact Cg.mod P b)
theorem Cg.eq (h:Cg P a b) (ha:0 ≤ a ∧ a < P) (hb:0 ≤ b ∧ b < P):a = b:=res_eq h ha hb
theorem Cg.cancel (hu:U P c) (h:Cg P (a * c) (b * c)):Cg P a b:=by
 refine hu.cancel ?_
 obtain ⟨k,hk⟩:=h
 exact ⟨k,by grind⟩
theorem pow_mod {n:Nat} (h:Cg P (x ^ n) 1) (k:Nat):Cg P (x ^ k) (x ^ (k % n)):=by
 have e:x ^ k = (x ^ n) ^ (k / n) * x ^ (k % n):=by
  rw [← Int.pow_mul,← Int.pow_add,Nat.div_add_mod]
 rw [e]
 have h1:=h.pow (k / n)
 rw [Int.one_pow] at h1
 have:=h1.mul (Cg.refl P (x ^ (k % n)))
 rwa [Int.one_mul] at this
theorem pow_same {n:Nat} (h:Cg P (x ^ n) 1) {j k:Nat} (e:j % n = k % n):Cg P (x ^ j) (x ^ k):=by
 have h1:=pow_mod h j
 rw [e] at h1
 exact h1.trans (pow_mod h k).symm
end
structure Gv (g:Grp):Prop where
 q0:5 ≤ g.Q
 q1:g.Q < 1152921504606846976
 p:g.P = 2 * g.Q + 1
 g0:2 ≤ g.G
 g1:g.G < g.P
 pq:primeM g.Q = true
 gq:pw g.P g.G g.Q.toNat = 1
theorem gv_of {g:Grp} (h:validG g = true):Gv g:=by
 unfold validG at h
 split at h
 ·cases h
 ·simp only [Bool.and_eq_true,decide_eq_true_eq] at h
  exact ⟨by omega,by omega,by omega,by omega,by omega,h.1.1,h.2⟩
def Ex (g:Grp) (x k:Int):Int:=x ^ (k % g.Q).toNat
def El (g:Grp) (x:Int):Prop:=Cg g.P (x ^ g.Q.toNat) 1
section
variable {g:Grp} {x y a b:Int}
theorem Gv.okP (h:Gv g):okN g.P:=by have:=h.q0; have:=h.q1; have:=h.p; exact ⟨by omega,by omega⟩
theorem Gv.okQ (h:Gv g):okN g.Q:=by have:=h.q0; have:=h.q1; exact ⟨by omega,by omega⟩
theorem El.of_pw (h:Gv g) (hx:pw g.P x g.Q.toNat = 1):El g x:=by
 refine Cg.of_emod ?_
 have e:x ^ g.Q.toNat % g.P = 1:=hx
 rw [e,Int.emod_eq_of_lt (by omega) (by have:=h.q0; have:=h.p; omega)]
theorem El.of_elem (h:Gv g) (hx:elemG g x = true):El g x ∧ 1 ≤ x ∧ x < g.P:=by
 unfold elemG at hx
 simp only [Bool.and_eq_true,decide_eq_true_eq] at hx
 exact ⟨El.of_pw h hx.2,hx.1.1.1,hx.1.1.2⟩
theorem El.mul (hx:El g x) (hy:El g y):El g (x * y):=by
 unfold El
 rw [Int.mul_pow]
 have:=Cg.mul hx hy
 rwa [Int.one_mul] at this
theorem El.pow (hx:El g x) (n:Nat):El g (x ^ n):=by
 unfold El
 rw [← Int.pow_mul,Nat.mul_comm,Int.pow_mul]
 have:=Cg.pow hx n
 rwa [Int.one_pow] at this
theorem toNat_mod {Q k:Int} (hQ:0 < Q):(((k % Q).toNat:Nat):Int) = k % Q:=Int.toNat_of_nonneg (Int.emod_nonneg _ (by omega))
theorem nat_mod {Q:Int} (hQ:0 < Q) {m n:Nat} (h:(m:Int) % Q = (n:Int) % Q):m % Q.toNat = n % Q.toNat:=by
 have hq:((Q.toNat:Nat):Int) = Q:=Int.toNat_of_nonneg (by omega)
 have:((m % Q.toNat:Nat):Int) = ((n % Q.toNat:Nat):Int):=by
  rw [Int.natCast_emod,Int.natCast_emod,hq]; exact h
 omega
theorem Ex_add (h:Gv g) (hx:El g x) (a b:Int):Cg g.P (Ex g x (a + b)) (Ex g x a * Ex g x b):=by
 unfold Ex
 rw [← Int.pow_add]
 have hQ:0 < g.Q:=by have:=h.q0; omega
 refine pow_same hx (nat_mod hQ ?_)
 push_cast
 rw [toNat_mod hQ,toNat_mod hQ,toNat_mod hQ]
 rw [Int.emod_emod_of_dvd _ (Int.dvd_refl _),← Int.add_emod]
theorem Ex_mul (h:Gv g) (hx:El g x) (a b:Int):Cg g.P (Ex g x (a * b)) (Ex g x a ^ (b % g.Q).toNat):=by
 unfold Ex
 rw [← Int.pow_mul]
 have hQ:0 < g.Q:=by have:=h.q0; omega
 refine pow_same hx (nat_mod hQ ?_)
 push_cast
 rw [toNat_mod hQ,toNat_mod hQ,toNat_mod hQ]
 rw [Int.emod_emod_of_dvd _ (Int.dvd_refl _),← Int.mul_emod]
theorem Ex_cong (e:a % g.Q = b % g.Q):Ex g x a = Ex g x b:=by unfold Ex; rw [e]
theorem Ex_cg (h:Cg g.P x y) (a:Int):Cg g.P (Ex g x a) (Ex g y a):=h.pow _
theorem El.ex (hx:El g x) (a:Int):El g (Ex g x a):=hx.pow _
theorem powerG_eq (h:Gv g) (x k:Int):powerG g x k = Ex g x k % g.P:=by
 unfold powerG
 rw [if_pos ⟨h.okP,h.okQ⟩]; rfl
theorem powerG_cg (h:Gv g) (x k:Int):Cg g.P (powerG g x k) (Ex g x k):=by rw [powerG_eq h]; exact Cg.mod _ _
theorem timesG_cg (h:Gv g) (a b:Int):Cg g.P (timesG g a b) (a * b):=by
 unfold timesG
 rw [if_pos h.okQ]
 exact mulM_dvd h.okP
theorem timesG_range (h:Gv g) (a b:Int):0 ≤ timesG g a b ∧ timesG g a b < g.P:=by
 unfold timesG
 rw [if_pos h.okQ]
 exact mulM_range _ _ _ h.okP
def PX (g:Grp):List (Int × Int) → Int
 | []=>1
 | (b,e) :: l=>Ex g b e * PX g l
theorem prodL_cg (h:Gv g):∀ (l:List (Int × Int)) (out:Int),Cg g.P (prodL g out l) (out * PX g l)
 | [],out=>by simp [prodL,PX]; exact Cg.refl _ _
 | (b,e) :: l,out=>by
  rw [prodL,PX]
  refine (prodL_cg h l _).trans ?_
  have h1:Cg g.P (mulM g.P out (powerG g b e)) (out * Ex g b e):=(show Cg g.P _ _ from mulM_dvd h.okP).trans ((Cg.refl _ out).mul (powerG_cg h b e))
  have:=h1.mul (Cg.refl g.P (PX g l))
  have e2:out * Ex g b e * PX g l = out * (Ex g b e * PX g l):=Int.mul_assoc _ _ _
  rwa [e2] at this
theorem prodL_range (h:Gv g):∀ (l:List (Int × Int)) (out:Int),0 ≤ out ∧ out < g.P → 0 ≤ prodL g out l ∧ prodL g out l < g.P
 | [],out,ho=>ho
 | (b,e) :: l,out,_=>by rw [prodL]; exact prodL_range h l _ (mulM_range _ _ _ h.okP)
theorem PX_add {T:Type} (h:Gv g) (f:T → Int) (u v w:T → Int) (d:Int):∀ l:List T,(∀ t ∈ l,El g (f t)) → (∀ t ∈ l,w t % g.Q = (u t + d * v t) % g.Q) →
  Cg g.P (PX g (l.map fun t=>(f t,w t))) (PX g (l.map fun t=>(f t,u t)) * PX g (l.map fun t=>(f t,v t)) ^ (d % g.Q).toNat)
 | [],_,_=>by simp [PX,Int.one_pow]; exact Cg.refl _ _
 | t :: l,he,hw=>by
  have ih:=PX_add h f u v w d l (fun s hs=>he s (by simp [hs])) (fun s hs=>hw s (by simp [hs]))
  have ht:=he t (by simp)
  simp only [List.map_cons,PX]
  have h1:Cg g.P (Ex g (f t) (w t)) (Ex g (f t) (u t) * Ex g (f t) (v t) ^ (d % g.Q).toNat):=by
   rw [Ex_cong (hw t (by simp))]
   refine (Ex_add h ht _ _).trans ((Cg.refl _ _).mul ?_)
   rw [Int.mul_comm d]
   exact Ex_mul h ht _ _
  have h2:=h1.mul ih
  rw [Int.mul_pow]
  have e:Ex g (f t) (u t) * Ex g (f t) (v t) ^ (d % g.Q).toNat * (PX g (l.map fun t=>(f t,u t)) * PX g (l.map fun t=>(f t,v t)) ^ (d % g.Q).toNat) = Ex g (f t) (u t) * PX g (l.map fun t=>(f t,u t)) * (Ex g (f t) (v t) ^ (d % g.Q).toNat * PX g (l.map fun t=>(f t,v t)) ^ (d % g.Q).toNat):=by
   generalize Ex g (f t) (u t) = A
   generalize Ex g (f t) (v t) ^ (d % g.Q).toNat = B
   generalize PX g (l.map fun t=>(f t,u t)) = C
   generalize PX g (l.map fun t=>(f t,v t)) ^ (d % g.Q).toNat = D
   grind
  rw [e] at h2
  exact h2
theorem PX_el {T:Type} (h:Gv g) (f u:T → Int):∀ l:List T,(∀ t ∈ l,El g (f t)) → El g (PX g (l.map fun t=>(f t,u t)))
 | [],_=>by simp [PX,El,Int.one_pow]; exact Cg.refl _ _
 | t :: l,he=>by
  simp only [List.map_cons,PX]
  exact ((he t (by simp)).ex _).mul (PX_el h f u l (fun s hs=>he s (by simp [hs])))
end
end GrLaw
namespace PrSpec
open FdSpec TkSpec CodeSpec FdPoly
structure Trm where
 var:Int
 base:Int
deriving DecidableEq
structure Eqn where
 target:Int
 terms:List Trm
deriving DecidableEq
structure Clm where
 vars:Int
 eqs:List Eqn
deriving DecidableEq
structure Cls where
 need:Int
 claims:List Clm
deriving DecidableEq
structure Knw where
 has:Bool
 values:List Int
deriving DecidableEq
def exponentM (s:Stp) (n:Int):Bool:=decide (0 ≤ n) && decide (n < s.g.Q)
def leftM (s:Stp) (e:Eqn) (vs:List Int):Int:=(prodG s.g (e.terms.map fun t=>t.base) (e.terms.map fun t=>vs.getD t.var.toNat 0)).1
end PrSpec
namespace PrSpec
open FdSpec TkSpec CodeSpec FdPoly GrLaw
section
variable {q root:Int} {bs:List Bool} {ds:List Int}
end
end PrSpec
namespace PrSpec
open FdSpec TkSpec CodeSpec FdPoly GrLaw
section
variable {s:Stp} {c:Clm} {d:Int} {n vs:List Int}
end
def Kept:List Bool → List Int → List Int → Prop
 | b :: bs,x :: xs,d :: ds=>(b = false → x = d) ∧ Kept bs xs ds
 | [],[],[]=>True
 | _,_,_=>False
end PrSpec
namespace PrSpec
open FdSpec TkSpec CodeSpec FdPoly GrLaw
section
variable {s:Stp} {c:Cls} {ds D:List Int} {ns:List (List Int)} {ks:List Knw} {root:Int}
end
end PrSpec
namespace PrSpec
open FdSpec TkSpec CodeSpec FdPoly GrLaw
end PrSpec
namespace PrSpec
open FdSpec TkSpec CodeSpec FdPoly GrLaw
end PrSpec
namespace PrSpec
open FdSpec TkSpec CodeSpec FdPoly GrLaw
end PrSpec
namespace PrSpec
open FdSpec TkSpec CodeSpec FdPoly GrLaw
end PrSpec
namespace PrSpec
open FdSpec TkSpec CodeSpec FdPoly GrLaw
end PrSpec
namespace PrSpec
open FdSpec TkSpec CodeSpec FdPoly GrLaw
def chalM (s:Stp) (pub a:Int) (msg:Bytes):Int:=numberM (encText msg ++ encNums [pub,a]) s.g.Q
def signedM (s:Stp) (pub:Int) (msg:Bytes) (c z:Int):Bool:=
 validS s && elemG s.g pub && exponentM s c && exponentM s z && decide (chalM s pub (overG s.g (powerG s.g s.g.G z) (powerG s.g pub c)) msg = c)
end PrSpec
namespace PrSpec
open FdSpec TkSpec CodeSpec FdPoly GrLaw
end PrSpec
namespace PrSpec
open FdSpec TkSpec CodeSpec FdPoly GrLaw
end PrSpec
namespace PrSpec
open FdSpec TkSpec CodeSpec FdPoly GrLaw
end PrSpec
namespace PrSpec
open FdSpec TkSpec CodeSpec FdPoly GrLaw
def ex:Stp:=⟨⟨23,11,4⟩,[16,18],12⟩
end PrSpec
namespace PrSpec
open FdSpec TkSpec CodeSpec FdPoly GrLaw
theorem prod_cg {g:Grp} (h:Gv g) {bs es:List Int} (hl:bs.length = es.length):Cg g.P (prodG g bs es).1 (PX g (bs.zip es)) ∧ 0 ≤ (prodG g bs es).1 ∧ (prodG g bs es).1 < g.P:=by
 have hp:=h.okP
 have hq:=h.okQ
 have hp0:0 < g.P:=by have:=hp.1; omega
 unfold prodG
 rw [if_pos ⟨hp,hq,hl⟩]
 have h1:=prodL_cg h (bs.zip es) (1 % g.P)
 have h2:=prodL_range h (bs.zip es) (1 % g.P) ⟨Int.emod_nonneg _ (by omega),Int.emod_lt_of_pos _ hp0⟩
 refine ⟨h1.trans ?_,h2⟩
 have:=(Cg.mod g.P 1).mul (Cg.refl g.P (PX g (bs.zip es)))
 rwa [Int.one_mul] at this
end PrSpec
namespace PuSpec
open FdSpec TkSpec CodeSpec GrLaw FdPoly PrSpec
theorem validS_gv {s:Stp} (h:validS s = true):Gv s.g ∧ (∀ x ∈ s.bases,El s.g x):=by
 simp only [validS,Bool.and_eq_true,List.all_eq_true] at h
 have g:=gv_of h.1.1.1.1
 refine ⟨g,fun x hx=>?_⟩
 have:=h.1.2 x hx
 simp only [otherM,Bool.and_eq_true] at this
 exact (El.of_elem g this.2).1
theorem zip3_fst:∀ (a b c:List Int),b.length = a.length → c.length = a.length → (a.zip (b.zip c)).map (fun t=>(t.1,t.2.1)) = a.zip b ∧ (a.zip (b.zip c)).map (fun t=>(t.1,t.2.2)) = a.zip c
 | [],b,c,_,_=>by simp
 | x :: a,[],c,h,_=>by simp at h
 | x :: a,y :: b,[],_,h=>by simp at h
 | x :: a,y :: b,z :: c,h,k=>by
  obtain ⟨h1,h2⟩:=zip3_fst a b c (by simpa using h) (by simpa using k)
  simp only [List.zip_cons_cons,List.map_cons,h1,h2,and_self]
theorem zip3_ans (f:Int × Int → Int):∀ (a b c:List Int),b.length = a.length → c.length = a.length → (a.zip (b.zip c)).map (fun t=>(t.1,f (t.2.2,t.2.1))) = a.zip ((c.zip b).map f)
 | [],b,c,_,_=>by simp
 | x :: a,[],c,h,_=>by simp at h
 | x :: a,y :: b,[],_,h=>by simp at h
 | x :: a,y :: b,z :: c,h,k=>by
  have h1:=zip3_ans f a b c (by simpa using h) (by simpa using k)
  simp only [List.zip_cons_cons,List.map_cons,h1]
structure Hv (s:Stp) (h:Hld):Prop where
 vs:validS s = true
 al:h.attrs.length + 1 = s.bases.length
 yl:h.bl.ys.length = s.bases.length
 ar:∀ n ∈ h.attrs,0 ≤ n ∧ n < s.g.Q
 yr:∀ n ∈ h.bl.ys,0 ≤ n ∧ n < s.g.Q
 s1:1 ≤ h.bl.s ∧ h.bl.s < s.g.Q
 u1:1 ≤ h.bl.u ∧ h.bl.u < s.g.Q
 v1:0 ≤ h.bl.v ∧ h.bl.v < s.g.Q
 hd:1 ≤ h.attrs.headD 0
 fm:formedM s h.t = true
 mq:h.t.mark = powerG s.g (markM s h.attrs).1 h.bl.s
 fs:h.t.first = (prodG s.g s.bases h.bl.ys).1
theorem residues_iff (q:Int) (l:List Int):residuesM q l = true ↔ ∀ n ∈ l,0 ≤ n ∧ n < q:=by
 simp only [residuesM,Bool.not_eq_true',List.any_eq_false,Bool.or_eq_true,decide_eq_true_eq,not_or]
 constructor <;> intro h n hn <;> have:=h n hn <;> omega
theorem hv_of {s:Stp} {lims:List Lim} {h:Hld} (v:validM s lims h = true):Hv s h:=by
 simp only [validM,Bool.and_eq_true,decide_eq_true_eq,residues_iff] at v
 obtain ⟨⟨⟨⟨⟨⟨⟨⟨⟨⟨⟨⟨⟨⟨⟨⟨v1,v2⟩,v3⟩,v4⟩,v5⟩,v6⟩,v7⟩,v8⟩,v9⟩,v10⟩,v11⟩,v12⟩,v13⟩,v14⟩,v15⟩,v16⟩,v17⟩:=v
 have a:=v12 h.bl.s (by simp)
 have b:=v12 h.bl.u (by simp)
 have c:=v12 h.bl.v (by simp)
 exact ⟨v1,by omega,v9,v10,v11,by omega,by omega,c,v8,v15,v16,v17⟩
theorem numsM_iff {s:Stp} {n:Int} {l:List Int}:numsM s n l = true ↔ ∀ x ∈ l,n ≤ x ∧ x < s.g.Q:=by simp [numsM]
theorem use_accepts {s:Stp} {h:Hld} (v:Hv s h) {dare:Int} (hd:1 ≤ dare ∧ dare < s.g.Q) :
  (useM s h.attrs h.bl dare).2 = true ∧ (useM s h.attrs h.bl dare).1.dare = dare ∧ acceptsM s h.t (useM s h.attrs h.bl dare).1 = true:=by
 obtain ⟨g,el⟩:=validS_gv v.vs
 have ok:=g.okQ
 have okP:=g.okP
 have hm:markM s h.attrs = ((prodG s.g s.bases (expsM h.attrs)).1,true):=by
  unfold markM
  rw [if_pos]
  have:=v.hd
  simp only [v.vs,v.al,decide_true,Bool.and_true,Bool.true_and,Bool.and_eq_true,numsM_iff,Bool.not_eq_true',decide_eq_false_iff_not]
  exact ⟨v.ar,by omega⟩
 have le:(expsM h.attrs).length = s.bases.length:=by simp [expsM,v.al]
 obtain ⟨pe,pe0,pe1⟩:=prod_cg g (bs:=s.bases) (es:=expsM h.attrs) le.symm
 obtain ⟨py,py0,py1⟩:=prod_cg g (bs:=s.bases) (es:=h.bl.ys) v.yl.symm
 generalize hM:(prodG s.g s.bases (expsM h.attrs)).1 = M at *
 have hmk:h.t.mark = powerG s.g M h.bl.s:=by rw [v.mq,hm]
 have hne:M ≠ 1:=by
  intro e
  have hf:=v.fm
  simp only [formedM,Bool.and_eq_true,Bool.not_eq_true',decide_eq_false_iff_not] at hf
  apply hf.1.1.2
  rw [hmk,powerG_eq g,e]
  have:=g.okP.1
  have:=g.q0
  have:=g.p
  unfold Ex
  rw [Int.one_pow]
  exact Int.emod_eq_of_lt (by omega) (by omega)
 have hu:(usableM s h.attrs).2 = true:=by simp [usableM,hm,hne]
 have hb:blindsM s h.bl = true:=by
  simp only [blindsM,Bool.and_eq_true,numsM_iff,decide_eq_true_eq]
  refine ⟨⟨⟨?_,?_⟩,v.yl⟩,v.yr⟩
  ·intro x hx
   simp only [List.mem_cons,List.not_mem_nil,or_false] at hx
   rcases hx with rfl | rfl
   ·exact v.s1
   ·exact v.u1
  ·intro x hx
   simp only [List.mem_cons,List.not_mem_nil,or_false] at hx
   subst hx; exact v.v1
 have hn1:numsM s 1 [dare] = true:=numsM_iff.2 (by intro x hx; simp only [List.mem_cons,List.not_mem_nil,or_false] at hx; subst hx; exact hd)
 have hu2:useM s h.attrs h.bl dare = (⟨dare,((expsM h.attrs).zip h.bl.ys).map fun p=>plusQ s p.2 (mulQ s dare [h.bl.s,p.1])⟩,true):=by
  unfold useM
  rw [if_pos (by simp [hu,hb,hn1])]
 rw [hu2]
 refine ⟨rfl,rfl,?_⟩
 have hal:(((expsM h.attrs).zip h.bl.ys).map fun p=>plusQ s p.2 (mulQ s dare [h.bl.s,p.1])).length = s.bases.length:=by
  rw [List.length_map,List.length_zip,le,v.yl]; omega
 have hrange:numsM s 0 (((expsM h.attrs).zip h.bl.ys).map fun p=>plusQ s p.2 (mulQ s dare [h.bl.s,p.1])) = true:=by
  rw [numsM_iff]
  intro x hx
  obtain ⟨p,_,rfl⟩:=List.mem_map.1 hx
  exact addM_range _ _ _ ok
 unfold acceptsM
 dsimp only
 rw [if_pos (by simp only [v.fm,hn1,hal,decide_true,hrange,Bool.and_self]),decide_eq_true_eq]
 obtain ⟨pa,pa0,pa1⟩:=prod_cg g (bs:=s.bases) (es:=((expsM h.attrs).zip h.bl.ys).map fun p=>plusQ s p.2 (mulQ s dare [h.bl.s,p.1])) hal.symm
 have hadd:=PX_add g (T:=Int × Int × Int) (fun t=>t.1) (fun t=>t.2.1) (fun t=>t.2.2) (fun t=>plusQ s t.2.1 (mulQ s dare [h.bl.s,t.2.2])) (dare * h.bl.s) (s.bases.zip (h.bl.ys.zip (expsM h.attrs)))
  (fun t ht=>el _ (List.of_mem_zip ht).1) (fun t _=>by
   apply Cg.emod
   have h1:Cg s.g.Q (mulQ s dare [h.bl.s,t.2.2]) (dare * h.bl.s * t.2.2):=by
    show Cg s.g.Q (mulM s.g.Q (mulM s.g.Q dare h.bl.s) t.2.2) _
    exact (show Cg s.g.Q _ _ from mulM_dvd ok).trans ((show Cg s.g.Q _ _ from mulM_dvd ok).mul (Cg.refl _ _))
   have h2:Cg s.g.Q (plusQ s t.2.1 (mulQ s dare [h.bl.s,t.2.2])) (t.2.1 + mulQ s dare [h.bl.s,t.2.2]):=addM_dvd ok
   refine h2.trans ?_
   obtain ⟨k,hk⟩:=h1
   exact ⟨k,by rw [← hk]; omega⟩)
 obtain ⟨z1,z2⟩:=zip3_fst s.bases h.bl.ys (expsM h.attrs) v.yl le
 have z3:=zip3_ans (fun p=>plusQ s p.2 (mulQ s dare [h.bl.s,p.1])) s.bases h.bl.ys (expsM h.attrs) v.yl le
 rw [z1,z2,z3] at hadd
 have hr:timesM s (powerG s.g h.t.mark dare) [h.t.first] = timesG s.g (powerG s.g h.t.mark dare) h.t.first:=rfl
 rw [hr]
 obtain ⟨t0,t1⟩:=timesG_range g (powerG s.g h.t.mark dare) h.t.first
 refine Cg.eq ?_ ⟨pa0,pa1⟩ ⟨t0,t1⟩
 refine pa.trans (hadd.trans ?_)
 refine Cg.symm ((timesG_cg g _ _).trans ?_)
 have e1:Cg s.g.P (powerG s.g h.t.mark dare) (Ex s.g (PX s.g (s.bases.zip (expsM h.attrs))) (dare * h.bl.s)):=by
  have elp:El s.g (PX s.g (s.bases.zip (expsM h.attrs))):=by
   have:=PX_el g (T:=Int × Int × Int) (fun t=>t.1) (fun t=>t.2.2) (s.bases.zip (h.bl.ys.zip (expsM h.attrs))) (fun t ht=>el _ (List.of_mem_zip ht).1)
   rwa [z2] at this
  refine (powerG_cg g _ _).trans ?_
  rw [hmk,Int.mul_comm dare]
  refine Cg.trans (Ex_cg ((powerG_cg g _ _).trans (Ex_cg pe _)) dare) ?_
  exact (Ex_mul g elp h.bl.s dare).symm
 have e2:=e1.mul (show Cg s.g.P h.t.first (PX s.g (s.bases.zip h.bl.ys)) by rw [v.fs]; exact py)
 refine e2.trans ?_
 rw [Int.mul_comm (PX s.g (s.bases.zip h.bl.ys))]
 exact Cg.refl _ _
end PuSpec
namespace PuSpec
open FdSpec TkSpec CodeSpec DkSpec JnSpec
abbrev Sps:=List (Tkt × Spd)
def putM (l:Sps) (t:Tkt) (sp:Spd):Sps × Bool:=
 match l.find? fun e=>decide (e.1 = t) with
 | some e=>(l,decide (e.2 = sp))
 | none=>(l ++ [(t,sp)],true)
def ansM (s:Stp) (x:Itm):Spd:=(useM s x.held.attrs x.held.bl x.dare).1
def lookM (s:Stp):List Itm → Sps → Sps × Bool
 | [],l=>(l,true)
 | x :: xs,l=>
  if x.status = 1 ∨ x.status = 2 then
   if !(putM l x.held.t (ansM s x)).2 || !decide ((ansM s x).dare = x.dare) || !acceptsM s x.held.t (ansM s x) then (l,false)
   else lookM s xs (putM l x.held.t (ansM s x)).1
  else lookM s xs l
variable {s:Stp} {lims:List Lim} {A:Ab} {p:Pst} {all sure:List Bytes}
def Borne (s:Stp) (lims:List Lim) (sure:List Bytes) (t:Tkt) (sp:Spd):Prop:=
 ∃ (rs:List Itm) (i:Nat) (y:Itm),replayL s lims [] sure = some rs ∧ rs[i]? = some y ∧ (y.status = 1 ∨ y.status = 2) ∧ y.held.t = t ∧ sp = ansM s y
def SpentOk (s:Stp) (lims:List Lim) (sure:List Bytes) (l:Sps):Prop:=∀ e ∈ l,Borne s lims sure e.1 e.2
theorem Borne.same {t:Tkt} {a b:Spd} (h:Borne s lims sure t a) (k:Borne s lims sure t b):a = b:=by
 obtain ⟨rs,i,y,h1,h2,h3,h4,rfl⟩:=h
 obtain ⟨rs',j,z,k1,k2,k3,k4,rfl⟩:=k
 rw [h1] at k1
 cases k1
 have g:=(replayL_later _ goodI_nil h1).1
 have e:=g.uniq i j y z h2 k2 (by rw [h4,k4])
 subst e
 rw [h2] at k2
 cases k2
 rfl
theorem Borne.ok {t:Tkt} {a:Spd} (h:Borne s lims sure t a):acceptsM s t a = true:=by
 obtain ⟨rs,i,y,h1,h2,h3,h4,rfl⟩:=h
 have g:=(replayL_later _ goodI_nil h1).1
 have m:=List.mem_of_getElem? h2
 have:=(use_accepts (hv_of (g.val y m)) ((g.fr y m).2 (by omega))).2.2
 rw [h4] at this
 exact this
theorem Borne.mono {sure':List Bytes} {t:Tkt} {a:Spd} (h:Borne s lims sure t a) (hp:sure <+: sure') {m:List Itm} (hr:replayL s lims [] sure' = some m):Borne s lims sure' t a:=by
 obtain ⟨rs,i,y,h1,h2,h3,h4,rfl⟩:=h
 obtain ⟨l,e1,g1,g2,lt⟩:=replayL_pre hp hr
 rw [h1] at e1
 cases e1
 obtain ⟨z,hz,k⟩:=lt i y h2
 have mz:=g2.raw z (List.mem_of_getElem? hz)
 have ku:=k.up
 refine ⟨m,i,z,hr,hz,by omega,by rw [k.held]; exact h4,?_⟩
 unfold ansM
 rw [k.held,(k.dare (by omega)).1]
theorem put_ok {l:Sps} (h:SpentOk s lims sure l) {t:Tkt} {a:Spd} (k:Borne s lims sure t a):(putM l t a).2 = true ∧ SpentOk s lims sure (putM l t a).1:=by
 unfold putM
 split
 ·rename_i e he
  refine ⟨?_,h⟩
  have hm:=List.mem_of_find?_eq_some he
  have ht:e.1 = t:=by simpa using List.find?_some he
  have:=h e hm
  rw [ht] at this
  rw [decide_eq_true_eq]
  exact this.same k
 ·refine ⟨rfl,fun e he=>?_⟩
  rcases List.mem_append.1 he with he | he
  ·exact h e he
  ·simp only [List.mem_singleton] at he
   subst he; exact k
theorem look_ok:∀ (xs:List Itm) {l:Sps},SpentOk s lims sure l → (∀ x ∈ xs,x.status = 1 ∨ x.status = 2 → Borne s lims sure x.held.t (ansM s x) ∧ (ansM s x).dare = x.dare) → (lookM s xs l).2 = true ∧ SpentOk s lims sure (lookM s xs l).1
 | [],l,h,_=>⟨rfl,h⟩
 | x :: xs,l,h,hx=>by
  rw [lookM]
  by_cases hs:x.status = 1 ∨ x.status = 2
  ·rw [if_pos hs]
   obtain ⟨b,e⟩:=hx x (by simp) hs
   obtain ⟨p1,p2⟩:=put_ok h b
   rw [if_neg (by simp [p1,e,b.ok])]
   exact look_ok xs p2 fun y hy=>hx y (by simp [hy])
  ·rw [if_neg hs]
   exact look_ok xs h fun y hy=>hx y (by simp [hy])
theorem inv_borne (v:Inv s lims A p all sure):∀ x ∈ p.items,x.status = 1 ∨ x.status = 2 → Borne s lims sure x.held.t (ansM s x) ∧ (ansM s x).dare = x.dare:=by
 intro x hx hs
 obtain ⟨i,hi⟩:=List.mem_iff_getElem?.1 hx
 obtain ⟨rs,y,h1,h2,h3,h4,h5⟩:=v.spent i x hi hs
 have g:=(replayL_later _ goodI_nil h1).1
 have m:=List.mem_of_getElem? h2
 have e:ansM s y = ansM s x:=by unfold ansM; rw [h3,h4]
 refine ⟨⟨rs,i,y,h1,h2,h5,by rw [h3],e.symm⟩,?_⟩
 have:=(use_accepts (hv_of (g.val y m)) ((g.fr y m).2 (by omega))).2.1
 unfold ansM at e ⊢
 rw [← e,this,h4]
def Whole (s:Stp) (lims:List Lim) (A:Ab) (q:Option Pst) (l:Sps):Prop:=
 ∃ all sure,GoodJ 0 A all sure ∧ (∃ ra,replayL s lims [] all = some ra) ∧ SpentOk s lims sure l ∧ ∀ p,q = some p → Inv s lims A p all sure
theorem sure_replays (hg:GoodJ 0 A all sure) (ha:∃ ra,replayL s lims [] all = some ra):∃ rs,replayL s lims [] sure = some rs:=by
 obtain ⟨ra,hr⟩:=ha
 obtain ⟨l,h,_⟩:=replayL_pre hg.sub hr
 exact ⟨l,h⟩
theorem Whole.kept {l:Sps} (h:Whole s lims A (some p) l) {B:Ab} {q:Pst} (k:∀ all sure,Inv s lims A p all sure → Kept s lims sure B q):Whole s lims B (some q) l:=by
 obtain ⟨all,sure,h1,h2,h3,h4⟩:=h
 obtain ⟨all',sure',hp,v⟩:=k all sure (h4 p rfl)
 obtain ⟨rs,hrs⟩:=sure_replays v.lj.good v.all
 exact ⟨all',sure',v.lj.good,v.all,fun e he=>(h3 e he).mono hp hrs,fun p' hp'=>by cases hp'; exact v⟩
theorem Whole.look {l:Sps} (h:Whole s lims A (some p) l) (n:Nat):(lookM s (p.items.take n) l).2 = true ∧ Whole s lims A (some p) (lookM s (p.items.take n) l).1:=by
 obtain ⟨all,sure,h1,h2,h3,h4⟩:=h
 obtain ⟨a,b⟩:=look_ok (p.items.take n) h3 (fun x hx=>inv_borne (h4 p rfl) x (List.mem_of_mem_take hx))
 exact ⟨a,all,sure,h1,h2,b,h4⟩
end PuSpec
namespace JnSpec
open CodeSpec DkSpec
structure Upp (A:Ab):Prop where
 down:A.down = false
 armed:A.armed = 0
 lost:A.lost = 0
variable {all sure:List Bs} {f:Int} {A:Ab} {j:Jn}
theorem Upp.ends (u:Upp A):endsA A = (false,A):=by unfold endsA; rw [if_pos (.inr u.armed)]
theorem Upp.comes (u:Upp A):comesA A = A:=by unfold comesA; rw [u.ends]; simp
theorem Upp.settle (u:Upp A) (s:Bs):Upp (settleA A f s):=⟨u.down,u.armed,u.lost⟩
theorem Upp.add (u:Upp A) (n:Nat) (s:Bs):Upp (addA A f n s):=by
 unfold addA
 split
 ·exact u
 ·exact ⟨u.down,u.armed,u.lost⟩
theorem Upp.sync (u:Upp A) (hf:0 ≤ f ∧ f ≤ 15):syncA A f = (0,settleA A f (A.F f).1):=by
 unfold syncA
 rw [u.comes,mayA_up u.down (by omega),if_neg (by simp),if_neg (by have:=u.lost; omega)]
theorem Upp.write (u:Upp A) (hf:0 ≤ f ∧ f ≤ 15) {n:Nat} {s:Bs} (hb:n + s.length ≤ 16777216):writeA A f n s = (0,addA A f n s):=by
 unfold writeA
 rw [u.ends]
 simp only [Bool.false_eq_true,if_false]
 unfold wrA
 rw [mayA_up u.down (by omega),if_neg (by simp),if_neg (by omega),if_neg (by omega)]
 simp
theorem Upp.openJ (u:Upp A) (hf:0 ≤ f ∧ f ≤ 15):∃ B,JnSpec.openJ A f = (some ⟨(readJ (A.F f).1).1,(readJ (A.F f).1).2,false⟩,0,B) ∧ Upp B ∧ (B.F f).1 = (A.F f).1.take (readJ (A.F f).1).2 ∧ ∀ g,g ≠ f → (B.F g) = A.F g:=by
 have u2:Upp (settleA A f (A.F f).1):=u.settle _
 have e1:(settleA A f (A.F f).1).F f = ((A.F f).1,(A.F f).1):=setF_same _ _ _
 have e2:∀ g,g ≠ f → (settleA A f (A.F f).1).F g = A.F g:=fun g hg=>by show setF A.F f _ g = _; simp [setF,hg]
 have hle:(readJ (A.F f).1).2 ≤ (A.F f).1.length:=by
  have h:=readJ_spec (A.F f).1
  have h1:=congrArg List.length h.2.2.1
  rw [List.length_append,← h.2.1] at h1
  omega
 unfold JnSpec.openJ
 rw [if_neg (by omega),u.sync hf,if_neg (by simp)]
 dsimp only
 rw [read_all u2.down hf,e1]
 generalize settleA A f (A.F f).1 = B at *
 generalize hx:(A.F f).1 = x at *
 unfold openB
 rw [if_neg (by simp)]
 dsimp only
 by_cases hlt:(readJ x).2 < x.length
 ·rw [if_pos hlt]
  have ht:truncA B f (readJ x).2 = (0,settleA B f (x.take (readJ x).2)):=by
   unfold truncA
   rw [u2.comes,mayA_up u2.down (by omega),if_neg (by simp),if_neg (by rw [e1]; dsimp only; omega),e1]
   simp
  rw [ht,if_neg (by simp)]
  refine ⟨_,rfl,u2.settle _,?_,fun g hg=>?_⟩
  ·show (setF B.F f _ f).1 = _
   rw [setF_same]
  ·show setF B.F f _ g = _
   rw [← e2 g hg]
   simp [setF,hg]
 ·rw [if_neg hlt]
  refine ⟨B,rfl,u2,?_,e2⟩
  rw [e1,List.take_of_length_le (by omega)]
theorem Upp.append (u:Upp A) (hf:0 ≤ f ∧ f ≤ 15) {t:Bs} (hj:j.broken = false) (hx:(A.F f).1.length = j.bytes) (ht:t.length ≤ 20000) (hb:j.bytes + (form t).length ≤ 1048576) :
  ∃ B,appendJ A f j t = (0,B,⟨j.recs ++ [t],j.bytes + (form t).length,false⟩) ∧ Upp B ∧ (B.F f).1 = (A.F f).1 ++ form t ∧ ∀ g,g ≠ f → (B.F g) = A.F g:=by
 have hne:form t ≠ []:=List.length_pos_iff.1 (form_pos t)
 refine ⟨addA A f j.bytes (form t),?_,u.add _ _,?_,fun g hg=>?_⟩
 ·unfold appendJ
  rw [if_neg (by rw [hj]; simp),if_neg (by omega),if_neg (by omega),u.write hf (by omega),if_neg (by simp)]
 ·unfold addA
  rw [if_neg hne]
  show (setF A.F f _ f).1 = _
  rw [setF_same,← hx,putB_end _ _ hne]
 ·unfold addA
  rw [if_neg hne]
  show setF A.F f _ g = _
  simp [setF,hg]
theorem formL_bound {l:List Bs} (h:∀ t ∈ l,t.length ≤ 20000):(formL l).length ≤ l.length * 20064:=by
 induction l with
 | nil=>simp [formL]
 | cons t l ih=>
  have h1:=ih (fun x hx=>h x (by simp [hx]))
  have h2:=h t (by simp)
  have h3:=form_len (s:=t) (by omega)
  rw [formL_cons,List.length_append,List.length_cons]
  omega
end JnSpec
namespace JnSpec
open CodeSpec DkSpec
variable {all sure:List Bs} {f:Int} {A:Ab} {j:Jn}
theorem LJ.live (h:LJ f A j all sure) (hb:j.broken = false):Live f A j all sure:=by
 rcases h with h | h
 ·exact h.2
 ·rw [hb] at h; cases h.1
theorem Upp.add_rec (u:Upp A) (h:Live f A j all sure) (hf:0 ≤ f ∧ f ≤ 15) (hj:j.broken = false) {t:Bs} (ht:t.length ≤ 20000) (hb:j.bytes + (form t).length ≤ 1048576) :
  ∃ B,appendJ A f j t = (0,B,⟨j.recs ++ [t],j.bytes + (form t).length,false⟩) ∧ Upp B ∧ Live f B ⟨j.recs ++ [t],j.bytes + (form t).length,false⟩ (all ++ [t]) sure:=by
 obtain ⟨B,e,u',_,_⟩:=u.append hf hj (by rw [h.x,h.bytes]) ht hb
 refine ⟨B,e,u',?_⟩
 have hs:=append_spec (.inl ⟨hj,h⟩) hf t
 rw [e] at hs
 dsimp only at hs
 rcases hs with ⟨_,_,h3⟩ | ⟨h1,_⟩ | ⟨h1,_⟩
 ·exact h3.live rfl
 ·cases h1
 ·rcases h1 with h1 | h1 | h1 <;> cases h1
theorem Upp.sync_rec (u:Upp A) (h:Live f A j all sure) (hf:0 ≤ f ∧ f ≤ 15) (hj:j.broken = false) :
  ∃ B,syncJ A f j = (0,B,j) ∧ Upp B ∧ Live f B j all j.recs:=by
 have hs:=u.sync hf
 have e:syncJ A f j = (0,settleA A f (A.F f).1,j):=by
  unfold syncJ
  rw [if_neg (by rw [hj]; simp),hs]
  cases j
  simp only at hj
  subst hj
  rfl
 refine ⟨_,e,u.settle _,?_⟩
 have hs:=sync_spec (.inl ⟨hj,h⟩) hf
 rw [e] at hs
 dsimp only at hs
 rcases hs.2 with ⟨_,h3⟩ | ⟨h1,_⟩
 ·exact h3.live hj
 ·exact absurd rfl h1
theorem Upp.crash (u:Upp A) (keep:List Int):Upp (startA (crashA A keep)):=by
 unfold startA crashA
 rw [if_neg (by rw [u.down]; simp)]
 exact ⟨rfl,rfl,u.lost⟩
theorem Upp.again (u:Upp A) (h:GoodJ f A all sure) (hf:0 ≤ f ∧ f ≤ 15) (keep:List Int) :
  ∃ B j',JnSpec.openJ (startA (crashA A keep)) f = (some j',0,B) ∧ Upp B ∧ Live f B j' j'.recs j'.recs ∧ j'.broken = false ∧ j'.recs <+: all ∧ sure <+: j'.recs:=by
 have u1:=u.crash keep
 have g1:=(h.crash keep).start
 obtain ⟨B,e,uB,_,_⟩:=u1.openJ hf
 refine ⟨B,_,e,uB,?_⟩
 have hs:=(open_spec g1 hf).2
 rw [e] at hs
 dsimp only at hs
 rcases hs with ⟨hn,_⟩ | ⟨j',e2,_,hb,h1,h2,h3⟩
 ·cases hn
 ·cases e2
  exact ⟨h3,rfl,h1,h2⟩
theorem Live.bytes_le (h:Live f A j all sure) {n:Nat} (hn:j.recs.length ≤ n):j.bytes ≤ n * 20064:=by
 have h1:=h.good.few
 rw [h.recs] at h1
 have h2:=formL_bound h1
 have h3:j.recs.length * 20064 ≤ n * 20064:=Nat.mul_le_mul_right _ hn
 rw [h.bytes]; exact Nat.le_trans h2 h3
theorem up_new:Upp newA:=⟨rfl,rfl,rfl⟩
theorem open_empty (u:Upp A) (h:GoodJ f A [] []) (h0:(A.F f).1 = []) (hf:0 ≤ f ∧ f ≤ 15):∃ B,JnSpec.openJ A f = (some ⟨[],0,false⟩,0,B) ∧ Upp B ∧ Live f B ⟨[],0,false⟩ [] []:=by
 obtain ⟨B,e,uB,_,_⟩:=u.openJ hf
 have e0:readJ [] = ([],0):=readJ_none first_nil
 rw [h0,e0] at e
 have hs:=(open_spec h hf).2
 rw [e] at hs
 dsimp only at hs
 rcases hs with ⟨hn,_⟩ | ⟨j',e2,_,hb,h1,h2,h3⟩
 ·cases hn
 ·cases e2
  exact ⟨B,e,uB,h3⟩
theorem open_new (hf:0 ≤ f ∧ f ≤ 15):∃ B,JnSpec.openJ newA f = (some ⟨[],0,false⟩,0,B) ∧ Upp B ∧ Live f B ⟨[],0,false⟩ [] []:=open_empty up_new (good_start f) rfl hf
end JnSpec
namespace PuSpec
open FdSpec TkSpec CodeSpec DkSpec JnSpec
variable {s:Stp} {lims:List Lim} {A:Ab} {p:Pst} {all sure:List Bytes}
theorem encInt_len {n:Int} (h:InR n):(encInt n).length ≤ 21:=by
 have:=itoa_len n h
 simp only [encInt,List.length_append,List.length_cons,List.length_nil]; omega
theorem encNum_len {n:Int} (h:InR n):(encNum n).length ≤ 21:=by
 unfold encNum
 split
 ·simp
 ·exact encInt_len h
theorem flat_len {α:Type} (f:α → Bytes) (m:Nat):∀ l:List α,(∀ x ∈ l,(f x).length ≤ m) → (l.map f).flatten.length ≤ l.length * m
 | [],_=>by simp
 | x :: l,h=>by
  have h1:=h x (by simp)
  have h2:=flat_len f m l fun y hy=>h y (by simp [hy])
  simp only [List.map_cons,List.flatten_cons,List.length_append,List.length_cons,Nat.succ_mul]
  omega
theorem encNums_len {l:List Int} (h:∀ n ∈ l,InR n) (hl:l.length ≤ 1000):(encNums l).length ≤ 22 + l.length * 21:=by
 have h1:=flat_len encInt 21 l fun n hn=>encInt_len (h n hn)
 have h2:=itoa_len (l.length:Int) ⟨by omega,by omega⟩
 simp only [encNums,encList,List.length_append,List.length_cons,List.length_map,List.length_nil]
 omega
theorem lnkE_len {x:Lnk} (w:WLnk x) (ha:x.spend.answers.length ≤ 7) (ht:x.terms.length ≤ 200):(lnkE x).length ≤ 600:=by
 have h1:=encNums_len w.t.all (by simp [tktL])
 have h2:=encInt_len w.dare
 have h3:=encNums_len w.ans (by omega)
 have h4:=itoa_len (x.terms.length:Int) ⟨by omega,by omega⟩
 have e:(tktL x.ticket).length = 6:=rfl
 rw [e] at h1
 simp only [lnkE,List.length_append,encText,List.length_cons,List.length_nil] at *
 omega
theorem held_len {h:Hld} (w:WHld h) (v:validM s lims h = true):(heldE h).length ≤ 4000:=by
 have hv:=hv_of v
 have hb:s.bases.length ≤ 7:=by
  have:=hv.vs
  simp only [validS,Bool.and_eq_true,decide_eq_true_eq] at this
  omega
 have hl:linksM h.links = true:=by
  simp only [validM,Bool.and_eq_true] at v
  exact v.1.1.1.1.1.1.1.1.1.1.1.1.2
 simp only [linksM,Bool.and_eq_true,decide_eq_true_eq,Bool.not_eq_true',List.any_eq_false,Bool.or_eq_true,not_or] at hl
 have h1:=encNums_len (l:=[h.limit,h.window]) (by simp [w.limit,w.window]) (by simp)
 have h2:=encNums_len w.attrs (by have:=hv.al; omega)
 have h3:=encNums_len (l:=[h.bl.s,h.bl.u,h.bl.v]) (by simp [w.s,w.u,w.v]) (by simp)
 have h4:=encNums_len w.ys (by have:=hv.yl; omega)
 have h5:=encNums_len w.t.all (by simp [tktL])
 have h6:=encNum_len (n:=(h.links.length:Int)) ⟨by omega,by omega⟩
 have h7:=flat_len lnkE 600 h.links fun x hx=>lnkE_len (w.links x hx) (by have:=(hl.2 x hx).2; omega) (by have:=(hl.2 x hx).1; omega)
 have ha:=hv.al
 have hy:=hv.yl
 have e:(tktL h.t).length = 6:=rfl
 rw [e] at h5
 simp only [heldE,List.length_append,List.length_cons,List.length_nil] at *
 have h8:h.links.length * 600 ≤ 4 * 600:=Nat.mul_le_mul_right _ hl.1
 omega
theorem recNums_len {l:List Int} (h:∀ n ∈ l,InR n) (hl:l.length ≤ 3):(recNums l).length ≤ 100:=by
 have:=encNums_len h (by omega)
 unfold recNums
 omega
end PuSpec
namespace Go.Proofs
open Go Go.Sh Go.RowKit FdSpec TkSpec CodeSpec PuSpec DkSpec JnSpec
section
variable {K:VK} {w w' w0 W W':World} {L:List (Addr × Value)} {rb b:Nat} {s:Stp} {lims:List Lim} {p p':Ph} {items items':List Itm} {A:Ab} {P:Pst}
theorem PuR.mu_lt (h:PuR s lims w0 W p A P):∀ i,Mu p i → i < W.heap.size:=by
 rintro i (hi | hi | hi | hi | hi)
 ·exact h.sys.d.lt (.inl hi)
 ·exact h.sys.d.lt (.inr hi)
 ·exact h.jn.lt hi
 ·rw [hi]; exact h.st.pur.lt
 ·exact (h.st.itm.own hi).1
theorem PuR.mu8 (h:PuR s lims w0 W p A P):∀ i,Mu p i → 8 ≤ i:=fun i hi=>by have:=h.yg i hi; have:=h.low; omega
theorem PuR.it (h:PuR s lims w0 W p A P) (hst:StR s lims W' p' items') (t:PuIt p W p' W'):PuR s lims w0 W' p' A ⟨P.j,items'⟩:=by
 have hp:=h.st.sp
 have hy:=h.yg p.pb (.inr (.inr (.inr (.inl rfl))))
 have hm:=t.st.mu
 have ts:=t.fr.size
 have hz:=h.bl.size
 have hyg:∀ i,Mu p' i → w0.heap.size ≤ i:=fun i hi=>(hm i hi).elim (h.yg i) (fun h=>by omega)
 have hsi:∀ i,i = p.pb ∨ p.iv.ownBlock = some i → ¬ (Own p.b p.h i ∨ Rdb p.h i) ∧ 8 ≤ i:=fun i hi=>by
  rcases hi with rfl | hi
  ·exact ⟨fun e=>e.elim hp.1 hp.2.1,by have:=h.low; omega⟩
  ·have h2:=h.st.si i hi
   exact ⟨fun e=>e.elim h2.1 h2.2.1,h.mu8 i (.inr (.inr (.inr (.inr hi))))⟩
 have s':=h.sys.fresh t.fr hsi
 have j':=h.jn.keep (h':=p.h) t.fr (fun i hi=>by
  rcases hi with rfl | hi
  ·exact hp.2.2
  ·exact (h.st.si i hi).2.2.1) (fun i hi=>hi.elim .inl (fun h=>.inr (.inl h)))
 have bl:Bw w0 W':=h.bl.trans ⟨t.fr.os,t.fr.tape,t.fr.output,t.fr.size,fun i hi=>t.fr.block i (by omega) (fun hx=>by
  rcases hx with hx | hx
  ·omega
  ·have:=h.yg i (.inr (.inr (.inr (.inr hx)))); omega)⟩
 have e:=t.eq
 obtain ⟨b0,h0,q0,u0,pb0,iv0,lv0,bv0,x0⟩:=p'
 cases e
 exact ⟨s',j',hst,hyg,bl,h.low⟩
theorem openJ_few {f:Int} {j:Jn} (h:(openJ A f).1 = some j):Few j.recs:=by
 unfold openJ openB at h
 split at h
 ·cases h
 ·split at h
  ·cases h
  ·split at h
   ·cases h
   ·split at h
    ·split at h
     ·cases h
     ·cases h; exact (readJ_spec _).1
    ·cases h; exact (readJ_spec _).1
theorem lim_pick (c:List Value) (x:Lim) (h:VLim w c x):∃ y:Lim,c = limC y ∧ id y = x ∧ (I64 y.count ∧ I64 y.length ∧ I64 y.gate):=⟨x,h.1,rfl,h.2⟩
theorem lim_one (x:Lim):∀ u ∈ limC x,u.oneCell' = true:=by
 intro u hu
 simp only [limC,List.mem_cons,List.not_mem_nil,or_false] at hu
 rcases hu with rfl | rfl | rfl <;> rfl
theorem CloneLim_ok {v:Value} {l:List Lim} (hr:LimR w v l) (hl:l.length < 1000) (k:∀ v' w',GRow 3 41 VLim w.heap.size (fun _=>False) w' v' l → Bw w w' → K v' w'):callM Tryz.prog 82 #[v] K w:=by
 apply sh_82_ok
 unfold sh_82
 obtain ⟨ad,c,rfl⟩:=hr.isSlice
 refine eqNil_at (e:=41) (by kernel_rfl) ?_
 cases ad with
 | none=>
  have:l = []:=by
   obtain ⟨⟨a',c',hv,h⟩,_⟩:=hr
   cases hv
   rcases h with h | ⟨b,o,hb,_⟩
   ·exact h
   ·cases hb
  subst this
  simp only [Option.isNone_none]
  repeat (any_goals (with_reducible refine yL ?_))
  exact k _ _ .nil (bR)
 | some a=>
  simp only [Option.isNone_some]
  obtain ⟨ys,he,hq,hi⟩:=hr.rowR (mk:=limC) (f:=id) (Q:=fun _ y=>I64 y.count ∧ I64 y.length ∧ I64 y.gate) (fun _=>rfl) (fun c x h=>lim_pick c x h)
  rw [List.map_id] at he
  subst he
  repeat (any_goals (first
  | (with_reducible refine yM ?_)
  | ((with_reducible refine oG fun X Y=>?_); simp [go_sem]; apply Y; clear Y X)))
  have hr2:RowR limC 3 (w.alloc (.cells #[] 41)) _ ys:=hi.keep (by rw [alloc_size]; omega) (fun i _ hi=>heap_alloc_old _ _ hi)
  refine clone_at 51 51 41 ((Tryz.prog.info? 41).getD default) (.agg #[.int .i64 0,.int .i64 0,.int .i64 0]) 3 24 (by kernel_rfl) (by kernel_rfl) (by kernel_rfl) (by kernel_rfl) (by kernel_rfl) (by kernel_rfl) (by omega) (fun _=>rfl) lim_one hr2 (World.ownsRow_lit w #[] 0 (Nat.zero_le _) (Nat.zero_le _) rfl) (B:=w.heap.size) (by rw [alloc_size]; omega) (fun i hi=>by cases hi; exact rL) (by omega) (by omega) ?_
  intro v' w' ho hg hv
  refine k v' w' ?_ ?_
  ·have:=GRow.conv (V:=VLim) (f:=id) (E:=fun _=>False) (own_grow (n:=3) (mk:=limC) (fun _=>rfl) (owns_up ho hv)) (fun _ _ _ _ _ _ y hy=>⟨rfl,hq y hy⟩)
   rwa [List.map_id] at this
  ·exact grown_below ((Below.refl _ w).alloc (rL) _) hg (rL)
end
section
variable {K:VK} {w w' w0 W W':World} {L:List (Addr × Value)} {rb b:Nat} {s:Stp} {lims:List Lim} {p p':Ph} {items items':List Itm} {A:Ab} {P:Pst} {h:Dk}
theorem openJ_val (f:Int):((openJ A f).2.1 ≠ 0 → (openJ A f).1 = none) ∧ ((openJ A f).2.1 = 0 → (openJ A f).1 ≠ none):=by
 unfold openJ openB
 split
 ·exact ⟨fun _=>rfl,fun h=>by simp at h⟩
 ·split
  ·rename_i h1
   exact ⟨fun _=>rfl,fun h=>absurd h h1⟩
  ·split
   ·rename_i h2
    exact ⟨fun _=>rfl,fun h=>absurd h h2⟩
   ·split
    ·split
     ·rename_i h3
      exact ⟨fun _=>rfl,fun h=>absurd h h3⟩
     ·exact ⟨fun h=>absurd rfl h,fun _ h=>by cases h⟩
    ·exact ⟨fun h=>absurd rfl h,fun _ h=>by cases h⟩
@[go_sem] theorem idx_strs (T:TypeId) (b o n c:Nat) (x:Int):oM Tryz.prog (.indexAddr 157 (.tmp 0) (.tmp 1)) T [.slice (some ⟨b,o,none⟩) n c,.int .i64 x] = onM (0 ≤ x ∧ x < n) (.pointer (some ⟨b,o + x.toNat * 1,none⟩)):=
 idx_row (K:=fun _ _=>True) (P:=Tryz.prog) (n:=1) 157 T (by kernel_rfl) (fun w=>by kernel_rfl) b o n c x
theorem set_same {α:Type} {l:List α} {i:Nat} {x:α} (h:l[i]? = some x):l.set i x = l:=by
 obtain ⟨hi,rfl⟩:=gS h
 exact List.set_getElem_self hi
theorem Open1_ok (l:Lim) (k:∀ w',Bw w w' → K (.bool (!limM l)) w'):callM Tryz.prog 79 #[limV l] K w:=by
 apply sh_79_ok
 unfold sh_79
 refine box_kn (cs:=limC l) rfl (.start w) fun b1 W hk hb1 hbb=>?_
 repeat (any_goals ((with_reducible refine oG fun X Y=>?_); simp [go_sem,hk.cells]; apply Y; clear Y X))
 refine ValidLimit_ok l (fun w2 h2=>?_)
 have k:=k _ (hk.next h2).below
 cases hv:limM l with
 | false=>
  rw [hv] at k
  repeat (any_goals ((with_reducible refine oG fun X Y=>?_); simp [go_sem]; apply Y; clear Y X))
  exact k
 | true=>
  rw [hv] at k
  repeat (any_goals ((with_reducible refine oG fun X Y=>?_); simp [go_sem]; apply Y; clear Y X))
  exact k
theorem build_state (T:TypeId) (s:Stp) (a1 a2:Option Addr) (n1 n2 c1 c2:Nat):oM Tryz.prog (Go.Op.build 133 #[(0,(.tmp 0)),(1,(.tmp 1))]) T [stpV s (.slice a1 n1 c1),.slice a2 n2 c2] = pureM (.agg #[.int .i64 s.g.P,.int .i64 s.g.Q,.int .i64 s.g.G,.slice a1 n1 c1,.int .i64 s.blind,.slice a2 n2 c2,.slice none 0 0]):=by
 funext K w
 kernel_rfl
theorem build_purse (T:TypeId) (s:Stp) (a1 a2:Option Addr) (n1 n2 c1 c2 q:Nat):oM Tryz.prog (Go.Op.build 136 #[(0,(.tmp 0)),(1,(.tmp 1))]) T [.agg #[.int .i64 s.g.P,.int .i64 s.g.Q,.int .i64 s.g.G,.slice a1 n1 c1,.int .i64 s.blind,.slice a2 n2 c2,.slice none 0 0],jnP q] = pureM (.agg #[.int .i64 s.g.P,.int .i64 s.g.Q,.int .i64 s.g.G,.slice a1 n1 c1,.int .i64 s.blind,.slice a2 n2 c2,.slice none 0 0,jnP q]):=by
 funext K w
 kernel_rfl
def OpenedP (w0 w':World) (b:Nat) (h':Dk) (s:Stp) (lims:List Lim) (A':Ab) (w:World) (r:Value):Option Pst → Prop
 | none=>r = .pointer none
 | some P=>∃ p:Ph,p.b = b ∧ p.h = h' ∧ r = .pointer (some ⟨p.pb,0,none⟩) ∧ PuR s lims w0 w' p A' P ∧ ∀ i,Mu p i → Own b h' i ∨ Rdb h' i ∨ w.heap.size ≤ i
set_option maxHeartbeats 4000000 in
theorem Open_ok (hw0:8 ≤ w0.heap.size) (hbl:Bw w0 w) (sy:Sys w b A h) (hy:∀ i,Own b h i ∨ Rdb h i → w0.heap.size ≤ i) {v lv:Value} {D:Nat → Prop} (hD:∀ i,D i → i < w.heap.size ∧ ¬ Own b h i) (hsl:FP D w (fun W=>SetR W s v ∧ LimR W lv lims))
  (k:∀ w' h' r,Sys w' b (openP s lims A).2.2 h' → Step w b h w' h' → OpenedP w0 w' b h' s lims (openP s lims A).2.2 w r (openP s lims A).1 → K (.tuple #[r,.int .i64 (openP s lims A).2.1]) w'):callM Tryz.prog 34 #[dkP b,stpV s v,lv] K w:=by
 apply sh_34_ok
 unfold sh_34
 obtain ⟨hs,hl⟩:=hsl.here
 obtain ⟨ad,c,rfl⟩:=hs.ints.isSlice
 obtain ⟨lad,lc,rfl⟩:=hl.isSlice
 have bad:(validS s = false ∨ limsM lims = false) → ∀ w',Bw w w' → K (.tuple #[.pointer none,.int .i64 1]) w':=fun hb w' hw=>by
  have e:openP s lims A = (none,1,A):=by
   unfold openP
   rcases hb with hb | hb
   ·rw [hb]; rfl
   ·rw [hb]; simp
  rw [e] at k
  exact k w' h _ (sy.below hw) (Step.below hw) rfl
 refine arr_box (cs:=stpC s (.slice ad s.bases.length c)) rfl (fun b1 w1 h1 hb1 hB=>?_)
 repeat (any_goals ((with_reducible refine oG fun X Y=>?_); simp [go_sem,hB.are]; apply Y; clear Y X))
 refine ValidSetup_ok s (hs.next h1) (fun w2 h2=>?_)
 have h02:=h1.on h2
 cases hv:validS s with
 | false=>
  have bad:=bad (.inl hv) _ h02
  repeat (any_goals (first
  | (with_reducible first|refine zD ?_|refine yB ?_|refine yL ?_)
  | ((with_reducible refine oG fun X Y=>?_); simp [go_sem]; apply Y; clear Y X)))
  exact bad
 | true=>
 have limB:limsM lims = (decide (1 ≤ lims.length) && decide (lims.length ≤ 16) && !(lims.any fun l=>!limM l)):=rfl
 by_cases h0:lims = []
 ·have bad:=bad (.inr (by rw [limB,h0]; rfl)) _ h02
  repeat (any_goals (first
  | (with_reducible first|refine pureM_in ?_|((refine idGd ?_); first|refine zC ?_|refine zD ?_)|((refine idPick ?_); first|refine yB ?_|refine yC ?_)|refine yL ?_)
  | ((with_reducible refine oG fun X Y=>?_); simp [go_sem,h0]; apply Y; clear Y X)))
  exact bad
 have h0l:0 < lims.length:=List.length_pos_iff.2 h0
 by_cases h16:16 < lims.length
 ·have h16Z:(16:Int) < lims.length:=by omega
  have bad:=bad (.inr (by rw [limB,decide_eq_false (by omega:¬ lims.length ≤ 16)]; simp)) _ h02
  repeat (any_goals (first
  | (with_reducible first|refine pureM_in ?_|((refine idGd ?_); first|refine zC ?_|refine zD ?_)|((refine idPick ?_); first|refine yB ?_|refine yC ?_)|refine yL ?_)
  | ((with_reducible refine oG fun X Y=>?_); simp [go_sem,h0,h16Z]; apply Y; clear Y X)))
  exact bad
 have h16Z:¬ (16:Int) < lims.length:=by omega
 repeat (any_goals (first
 | (with_reducible first|refine pureM_in ?_|refine zC ?_|refine yC ?_)
 | ((with_reducible refine oG fun X Y=>?_); simp [go_sem,h0,h16Z]; apply Y; clear Y X)))
 refine ContainsLim_ok (fun l=>!limM l) (hl.next (atOf_stay lim_vstay) h02) ?_ (fun w3 h3=>?_)
 ·rintro w' x cs K' T hb hx ⟨rfl,_⟩ h'
  refine oM_callv1 (by kernel_rfl) ?_
  exact Open1_ok x h'
 have h03:=h02.on h3
 cases ha:lims.any fun l=>!limM l with
 | true=>
  have bad:=bad (.inr (by rw [limB,ha]; simp)) _ h03
  repeat (any_goals (with_reducible first|refine yC ?_|refine yL ?_))
  exact bad
 | false=>
 have hlm:limsM lims = true:=by rw [limB,ha,decide_eq_true (by omega:1 ≤ lims.length),decide_eq_true (by omega:lims.length ≤ 16)]; rfl
 have eP:openP s lims A = (match openJ A 0 with
  | (none,e,B)=>(none,e,B)
  | (some j,_,B)=>match openM s lims j.recs with
   | none=>(none,2,B)
   | some l=>(some ⟨j,l⟩,0,B)):=by unfold openP; rw [hv,hlm]; rfl
 clear bad
 repeat (any_goals (with_reducible first|refine yC ?_|refine yM ?_))
 refine openJ_ok (sy.below h03) 0 (fun w4 h' r sy4 t4 ho4=>?_)
 have hw4:Step w b h w4 h':=(Step.below h03).trans t4
 have hB3:Holds w3 b1 50 (stpC s (.slice ad s.bases.length c)):=(hB.next h2).next h3
 have hb1':¬ Own b h b1:=fun e=>by have:=sy.d.lt (.inl e); omega
 have hB4:=(t4.fr.block b1 hB3.lt hb1').trans hB3
 have hJ:=openJ_val (A:=A) 0
 have hF:=fun j=>openJ_few (A:=A) (f:=0) (j:=j)
 generalize openJ A 0 = oj at *
 obtain ⟨oj1,oj2,oj3⟩:=oj
 by_cases he:oj2 = 0
 ·subst he
  cases oj1 with
  | none=>exact absurd rfl (hJ.2 rfl)
  | some j=>
  obtain ⟨q,u,rfl,jn4,hjo⟩:=ho4
  have hb14:b1 < w4.heap.size:=lL hB3.lt t4.fr.size
  have hsl4:=hsl.fr hw4.fr (fun i hi=>hD i hi)
  obtain ⟨hs4,hl4⟩:=hsl4.here
  have few:=hF j rfl
  rw [eP] at k
  simp only at k
  have hB4':Holds w4 b1 50 (stpC s (.slice ad s.bases.length c)):=hB4
  have c4:=hB4'.are
  repeat (any_goals (first
  | (with_reducible refine yM ?_)
  | ((with_reducible refine oG fun X Y=>?_); simp [go_sem,c4]; apply Y; clear Y X)))
  have hbl7:s.bases.length ≤ 7:=(validS_len hv).2
  refine Clone_ok hs4.ints (by omega) (fun bv w5 ho5 h5 hb5=>?_)
  obtain ⟨bad5,bc5,rfl⟩:∃ ad c,bv = .slice ad s.bases.length c:=owns_len ho5
  have hB5:=hB4'.next h5
  have c5:=hB5.are
  repeat (any_goals ((with_reducible refine oG fun X Y=>?_); simp [go_sem,c5]; apply Y; clear Y X))
  refine arr_set (i:=3) sz_ints rfl rfl hB5 (by simp) (fun w6 hg6 hB6=>?_)
  simp only [List.set_cons_succ,List.set_cons_zero] at hB6
  have hs5:=h5.size
  have hs6:=hg6.size
  have f6:Fr (fun i=>i = b1) w4 w6:=(Fr.of_below h5).trans (Fr.of_by hg6) (fun i hi=>.inl hi)
  have hB6:=hB6.next (.drawn (B:=w6.heap.size))
  have f7:Fr (fun i=>i = b1) w4 { w6 with drawn:=w6.drawn + 1 }:=f6.trans (Fr.of_below (S:=fun _=>False) .drawn) (fun i hi=>hi.elim)
  have pb6:=(OwnI.ints (B:=0) ho5 hs.ints.rng hs.ints.len).fp.fr (Fr.of_by hg6) (fun i hi=>⟨hi.2,fun e=>by have:=hb5 i (own_inB ho5 hi.1); omega⟩)
  have pb7:=pb6.next (.drawn (B:=w6.heap.size)) (fun i hi=>by have:=hi.2; omega)
  refine ⟨Nx { w6 with drawn:=w6.drawn + 1 },bR,rfl,?_⟩
  have hW7s:w6.heap.size ≤ ({ w6 with drawn:=w6.drawn + 1 }:World).heap.size:=rL
  generalize ({ w6 with drawn:=w6.drawn + 1 }:World) = W7 at hB6 f7 pb7 hW7s ⊢
  repeat (any_goals (first
  | (with_reducible refine pX ?_)
  | ((with_reducible refine idOH ?_); (with_reducible refine oH_of ⟨_,rfl⟩ (fun W0 hW0=>by (refine oG (fun X Y=>?_)); simp [go_sem,(hB6.next hW0).are]; (first | exact Y _ _ ⟨rfl,rfl⟩ | exact ⟨by omega,Y _ _ ⟨rfl,rfl⟩⟩)) ?_))))
  have hsl7:=hsl4.fr f7 (fun i hi=>⟨by have:=hD i hi; have:=h03.size; have:=t4.fr.size; omega,fun e=>by have:=hD i hi; omega⟩)
  refine ⟨Nx,?_⟩
  refine monoR (fun v w'=>GRow 3 41 VLim W7.heap.size (fun _=>False) w' v lims) (fun v w w1 hS h=>h.next hS (fun _ h=>h.elim)) ?_ ?_
  ·intro w8 h8
   exact CloneLim_ok ((hsl7.here.2).next (atOf_stay lim_vstay) h8) (by omega) (fun v' w9 hG h9=>⟨h8.on h9,h9,hG.base h8.size⟩)
  refine monoR (fun v w'=>∃ lv',v = .agg #[.int .i64 s.g.P,.int .i64 s.g.Q,.int .i64 s.g.G,.slice bad5 s.bases.length bc5,.int .i64 s.blind,lv',.slice none 0 0] ∧ GRow 3 41 VLim W7.heap.size (fun _=>False) w' lv' lims) (fun v w w1 hS ⟨lv',e,h⟩=>⟨lv',e,h.next hS (fun _ h=>h.elim)⟩) ?_ ?_
  ·intro w8 h8 v1 hG
   obtain ⟨la,lc',rfl⟩:=hG.isSlice
   rw [build_state]
   exact ⟨h8,bR,_,rfl,hG⟩
  rintro w8 h8 _ - _ ⟨lv',rfl,hG⟩
  obtain ⟨la,lc',rfl⟩:=hG.isSlice
  rw [build_purse]
  show oM _ _ _ _ _ _
  refine arr_box (cs:=[.int .i64 s.g.P,.int .i64 s.g.Q,.int .i64 s.g.G,.slice bad5 s.bases.length bc5,.int .i64 s.blind,.slice la lims.length lc',.slice none 0 0,jnP q]) rfl (fun pb w9 h9 hpb hP=>?_)
  have hs7:=f7.size
  have hs8:=h8.size
  have hs9:=h9.size
  have hb1w3:=hB3.lt
  have hs03:=h03.size
  have hs34:=t4.fr.size
  have f9:Fr (fun i=>i = b1) w4 w9:=(f7.trans (Fr.of_below (S:=fun _=>False) h8) (fun i hi=>hi.elim)).trans (Fr.of_below (S:=fun _=>False) h9) (fun i hi=>hi.elim)
  have sy9:=sy4.fresh f9 (fun i hi=>by
   subst hi
   refine ⟨fun e=>?_,by have:=hbl.size; omega⟩
   rcases e with e | e
   ·rcases t4.own _ e with e | e
    ·have:=sy.d.lt (.inl e); omega
    ·omega
   ·rcases t4.rd _ e with e | e
    ·have:=sy.d.lt (.inr e); omega
    ·omega)
  have jn9:=jn4.keep (h':=h') f9 (fun i hi hj=>by subst hi; have:=hjo _ hj; omega) (fun i hi=>hi.elim .inl (fun h=>.inr (.inl h)))
  have hP8:=(hsl7.here.1.db).next h8
  have q1:=pb7.next (h8.on h9) (fun i hi=>by have:=hi.2; omega)
  have q2:=(GRow.fp (by omega) hG (by omega)).next h9 (fun i hi=>hi.elim (fun h=>h.elim) (fun h=>(hG.own h).1))
  have q3:=dbT_fp (hP8.next h9)
  have hlow:=hbl.size
  have hyo:∀ i,Own b h' i ∨ Rdb h' i → w0.heap.size ≤ i:=fun i hi=>by
   rcases hi with e | e
   ·rcases t4.own _ e with e | e
    ·exact hy i (.inl e)
    ·omega
   ·rcases t4.rd _ e with e | e
    ·exact hy i (.inr e)
    ·omega
  generalize hp:(⟨b,h',q,u,pb,.slice none 0 0,.slice la lims.length lc',.slice bad5 s.bases.length bc5,fun _=>False⟩:Ph) = p
  have hMu:∀ i,Mu p i → Own b h' i ∨ Rdb h' i ∨ JO q u i ∨ i = pb:=fun i hi=>by
   subst hp
   rcases hi with hi | hi | hi | hi | hi
   ·exact .inl hi
   ·exact .inr (.inl hi)
   ·exact .inr (.inr (.inl hi))
   ·exact .inr (.inr (.inr hi))
   ·cases hi
  have notMu:∀ i,i < w8.heap.size → (i < 8 ∨ w4.heap.size ≤ i) → ¬ Mu p i:=fun i h1 h2 hm=>by
   rcases hMu i hm with e | e | e | e
   ·have:=sy4.d.lt (.inl e); have:=hyo i (.inl e); omega
   ·have:=sy4.d.lt (.inr e); have:=hyo i (.inr e); omega
   ·have:=jn4.lt e; have:=hjo i e; omega
   ·omega
  have hPu:PuR s lims w0 w9 p oj3 ⟨j,[]⟩:=by
   have hst:StR s lims w9 p []:=by
    have hxF:∀ i,¬ p.x i:=by subst hp; exact fun _ h=>h
    refine ⟨by subst hp; exact hP,by subst hp; exact .nil,?_,by simp,?_,?_,fun i hi=>absurd hi (hxF i)⟩
    ·have:=((q1.and q3).and q2).imp (q:=fun W=>SetR W s p.bv ∧ LimR W p.lv lims) (fun W hW=>by subst hp; exact ⟨⟨hs.grp,hW.1.1,hs.blind,hW.1.2⟩,hW.2⟩)
     refine this.mono (fun i hi=>?_)
     rcases hi with (hi | hi) | hi | hi
     ·have:=hb5 i (own_inB ho5 hi.1); have:=hi.2; exact ⟨by omega,notMu i (by omega) (.inr (by omega)),hxF i⟩
     ·exact ⟨by omega,notMu i (by omega) (.inl hi),hxF i⟩
     ·exact hi.elim
     ·have:=hG.own hi; exact ⟨by omega,notMu i (by omega) (.inr (by omega)),hxF i⟩
    ·subst hp
     exact ⟨fun e=>by have:pb < _:=sy4.d.lt (.inl e); omega,fun e=>by have:pb < _:=sy4.d.lt (.inr e); omega,fun e=>by have:pb < _:=jn4.lt e; omega⟩
    ·subst hp
     intro i hi
     cases hi
   refine ⟨by subst hp; exact sy9,by subst hp; exact jn9,hst,fun i hi=>?_,?_,hw0⟩
   ·rcases hMu i hi with e | e | e | e
    ·exact hyo i (.inl e)
    ·exact hyo i (.inr e)
    ·have:=hjo i e; omega
    ·omega
   ·exact hbl.trans ⟨f9.os.trans hw4.fr.os,f9.tape.trans hw4.fr.tape,f9.output.trans hw4.fr.output,by omega,fun i hi=>(f9.block i (by omega) (by omega)).trans (hw4.fr.block i (by omega) (fun e=>by have:=hy i (.inl e); omega))⟩
  have e1:p.q = q ∧ p.pb = pb ∧ p.b = b ∧ p.h = h' ∧ p.iv = .slice none 0 0 ∧ p.u = u:=by subst hp; exact ⟨rfl,rfl,rfl,rfl,rfl,rfl⟩
  obtain ⟨e1q,e1p,e1b,e1h,e1i,e1u⟩:=e1
  have hpl:=hP.lt
  have hjl:j.recs.length ≤ 16777216:=by have:=jn9.len; omega
  clear hp hG q1 q2 q3 hP hP8
  subst e1p
  refine all_ok jn9 (fun rv w10 hor h10=>?_)
  obtain ⟨rad,rc,rfl⟩:∃ ad c,rv = .slice ad j.recs.length c:=by
   obtain ⟨ad,c,e⟩:=owns_len hor
   exact ⟨ad,c,e⟩
  have hrI:∀ i,(Value.slice rad j.recs.length rc).ownBlock = some i → w9.heap.size ≤ i ∧ i < w10.heap.size:=fun i hi=>by have:=owns_own hor hi; omega
  have hPu:=hPu.next h10
  have hfin:∀ W p',PuIt p w10 p' W → Step w b h W h':=fun W p' t=>by
   refine ⟨((hw4.fr.trans f9 (fun i hi=>.inr (by omega))).trans (Fr.of_below (S:=fun _=>False) h10) (fun i hi=>hi.elim)).trans t.fr (fun i hi=>?_),hw4.own,hw4.rd⟩
   rcases hi with hi | hi
   ·exact .inr (by omega)
   ·rw [e1i] at hi; cases hi
  repeat (any_goals ((with_reducible refine oG fun X Y=>?_); simp [go_sem]; apply Y; clear Y X))
  refine ⟨fun vs W=>∃ (u0:Value) (i:Nat) (iv:Value) (items:List Itm),vs = [u0,.pointer none,.int .i64 0,.int .i64 (i:Int)] ∧ i ≤ j.recs.length ∧ PuR s lims w0 W { p with iv:=iv } oj3 ⟨j,items⟩ ∧ PuIt p w10 { p with iv:=iv } W ∧ replayL s lims items (j.recs.drop i) = replayL s lims [] j.recs,
   (fun vs _=>match vs with | [_,_,_,.int _ i]=>j.recs.length - i.toNat | _=>0),⟨_,0,p.iv,[],rfl,by omega,hPu,PuIt.refl _ _,rfl⟩,?_⟩
  rintro _ _ w11 ⟨u0,i,iv,items,rfl,hi,hPi,hti,hre⟩
  have hs11:=hti.fr.size
  by_cases hin:i = j.recs.length
  ·subst hin
   rw [List.drop_length] at hre
   have hop:openM s lims j.recs = some (items.map burnM):=by unfold openM; rw [← hre]; rfl
   rw [hop] at k
   have c6:=hPi.st.pur.cell 6 (by simp)
   simp only [List.getElem_cons_zero,List.getElem_cons_succ] at c6
   obtain ⟨iad,ic,hiv⟩:=hPi.st.items.isSlice
   simp only at hiv
   subst hiv
   repeat (any_goals (first
   | (with_reducible refine yM ?_)
   | ((with_reducible refine oG fun X Y=>?_); simp [go_sem,c6]; apply Y; clear Y X)))
   refine ⟨fun vs W=>∃ (u0:Value) (m:Nat),vs = [u0,.int .i64 (m:Int)] ∧ m ≤ items.length ∧ PuR s lims w0 W { p with iv:=.slice iad items.length ic } oj3 ⟨j,(items.take m).map burnM ++ items.drop m⟩ ∧ PuIt p w10 { p with iv:=.slice iad items.length ic } W,
    (fun vs _=>match vs with | [_,.int _ m]=>items.length - m.toNat | _=>0),⟨_,0,rfl,by omega,hPi,hti⟩,?_⟩
   rintro _ _ w12 ⟨u1,m,rfl,hm,hPm,htm⟩
   have hcnt:items.length ≤ 400:=hPi.st.cnt
   have hs10:=h10.size
   by_cases hmn:m = items.length
   ·subst hmn
    rw [List.take_length,List.drop_length,List.append_nil] at hPm
    repeat (any_goals (first
    | (with_reducible refine yM ?_)
    | ((with_reducible refine oG fun X Y=>?_); simp [go_sem]; apply Y; clear Y X)))
    refine k w12 h' _ (by have:=hPm.sys; simp only [e1b,e1h] at this; exact this) (hfin _ _ htm) ⟨{ p with iv:=.slice iad items.length ic },e1b,e1h,rfl,hPm,fun i hi=>?_⟩
    rcases hi with hi | hi | hi | hi | hi
    ·simp only [e1b,e1h] at hi; exact .inl hi
    ·simp only [e1h] at hi; exact .inr (.inl hi)
    ·simp only [e1q,e1u] at hi; have:=hjo i hi; exact .inr (.inr (by omega))
    ·exact .inr (.inr (by have:i = p.pb:=hi; omega))
    ·rcases htm.iv i hi with e | e
     ·rw [e1i] at e; cases e
     ·exact .inr (.inr (by omega))
   ·have hml:m < items.length:=by omega
    have hmZ:(m:Int) < items.length:=by omega
    have hLl:((items.take m).map burnM ++ items.drop m).length = items.length:=by simp; omega
    have hx:((items.take m).map burnM ++ items.drop m)[m]? = some items[m]:=by
     rw [List.getElem?_append_right (by simp; omega)]
     simp only [List.length_map,List.length_take,List.getElem?_drop]
     rw [show m + (m - min m items.length) = m by omega]
     exact gE hml
    have hnext:(items.take (m + 1)).map burnM ++ items.drop (m + 1) = ((items.take m).map burnM ++ items.drop m).set m (burnM items[m]):=by
     rw [List.take_succ_eq_append_getElem hml,List.map_append,List.set_append_right _ _ (by simp; omega)]
     simp only [List.length_map,List.length_take]
     rw [show m - min m items.length = 0 by omega]
     have:items.drop m = items[m] :: items.drop (m + 1):=List.drop_eq_getElem_cons hml
     rw [this]
     simp only [List.map_cons,List.map_nil,List.append_assoc,List.cons_append,List.nil_append,List.set_cons_zero]
    obtain ⟨g,gc,av,yv,zv,hgv,hgl,hH,hI,hJ2,hc⟩:=hPm.st.at hx
    have hgv0:=hgv
    simp only [hLl] at hgv
    cases hgv
    have c14:=hc 14 _ rfl
    have c6:=hPm.st.pur.cell 6 (by simp)
    simp only [List.getElem_cons_zero,List.getElem_cons_succ] at c6
    repeat (any_goals (first
    | (with_reducible refine yL ?_)
    | ((with_reducible refine oG fun X Y=>?_); simp [go_sem,hmZ]; apply Y; clear Y X)))
    refine ⟨fun l W=>l.getD 0 undef = .int .i64 (m:Int) ∧ PuR s lims w0 W { p with iv:=.slice (some ⟨g,0,none⟩) items.length ic } oj3 ⟨j,(items.take (m + 1)).map burnM ++ items.drop (m + 1)⟩ ∧ PuIt p w10 { p with iv:=.slice (some ⟨g,0,none⟩) items.length ic } W,?_,?_⟩
    ·by_cases hst1:items[m].status = 1
     ·repeat (any_goals (first
      | (with_reducible refine yL ?_)
      | ((with_reducible refine oG fun X Y=>?_); simp [go_sem,c6,hmZ,c14,hst1]; apply Y; clear Y X)))
      refine hPm.st.put1 hPm.mu_lt (y:=burnM items[m]) hx hgv0 (by omega) sz_int1 rfl rfl (fun _ _ _=>by unfold burnM; rw [if_pos hst1]; rfl) (by unfold burnM; rw [if_pos hst1]) (by unfold burnM; rw [if_pos hst1]; exact ⟨I64_k 3 (by omega),hJ2⟩) (fun w13 h13 t13=>?_)
      skip
      rw [hnext]
      exact ⟨rfl,hPm.it h13 t13,htm.trans t13⟩
     ·repeat (any_goals (first
      | (with_reducible refine yM ?_)
      | ((with_reducible refine oG fun X Y=>?_); simp [go_sem,c6,hmZ,c14,hst1]; apply Y; clear Y X)))
      rw [hnext]
      have:burnM items[m] = items[m]:=by unfold burnM; rw [if_neg hst1]
      rw [this,set_same hx]
      exact ⟨rfl,hPm,htm⟩
    ·rintro l u W ⟨hl0,hP',ht'⟩
     rw [hl0]
     repeat (any_goals ((with_reducible refine oG fun X Y=>?_); simp [go_sem]; (try simp (disch:=omega) only [wrapI64,wrapU8,wrapU32,wrapU64]); apply Y; clear Y X))
     exact ⟨⟨_,m + 1,rfl,by omega,hP',ht'⟩,by show items.length - (((m + 1:Nat):Int)).toNat < items.length - ((m:Nat):Int).toNat; omega⟩
  ·have hil:i < j.recs.length:=by omega
   have hiZ:(i:Int) < j.recs.length:=by omega
   have hor11:=owns_keep hor (fun i hi=>hti.fr.block i (hrI i hi).2 (fun e=>by
    rcases e with e | e
    ·have:=hrI i hi; omega
    ·rw [e1i] at e; cases e))
   obtain ⟨ad',c',hv',hcase⟩:=Cd.RowOf.of_owns (mk:=Cd.strV) hor11
   cases hv'
   rcases hcase with hnil | ⟨b3,o3,rfl,hb3,hc3⟩
   ·rw [hnil] at hil; exact absurd hil (by simp)
   have hc:=hc3 i hil
   unfold Cd.strV at hc
   have hrl:=few _ (List.getElem_mem hil)
   rw [List.drop_eq_getElem_cons hil] at hre
   repeat (any_goals (first
   | (with_reducible refine yL ?_)
   | ((with_reducible refine oG fun X Y=>?_); simp [go_sem,hiZ,hc]; apply Y; clear Y X)))
   refine replay_ok hPi.st hPi.mu_lt hPi.sys.l j.recs[i] (by omega) (fun e w' hb=>?_) (fun items' e w' iv' a b2=>?_)
   ·have hop:openM s lims j.recs = none:=by
     unfold openM
     rw [← hre,replayL,e]
     rfl
    rw [hop] at k
    have hPn:=hPi.next hb
    have hsy:=hPn.sys
    simp only [e1b,e1h] at hsy
    have k:=k w' h' _ hsy (hfin _ _ (hti.trans (PuIt.below hb))) rfl
    repeat (any_goals (first
    | (with_reducible refine yL ?_)
    | ((with_reducible refine oG fun X Y=>?_); simp [go_sem]; apply Y; clear Y X)))
    exact k
   ·have hPn:=hPi.it a b2
    rw [replayL,e] at hre
    repeat (any_goals (first
    | (with_reducible refine yM ?_)
    | ((with_reducible refine oG fun X Y=>?_); simp [go_sem]; (try simp (disch:=omega) only [wrapI64,wrapU8,wrapU32,wrapU64]); apply Y; clear Y X)))
    exact ⟨⟨_,i + 1,iv',items',rfl,by omega,hPn,hti.trans b2,hre⟩,by show j.recs.length - (((i + 1:Nat):Int)).toNat < j.recs.length - ((i:Nat):Int).toNat; omega⟩
 ·have hn:=hJ.1 he
  simp only at hn
  subst hn
  simp only [Opened] at ho4
  subst ho4
  rw [eP] at k
  have k:=k w4 h' _ sy4 hw4 rfl
  repeat (any_goals (first
  | (with_reducible refine yL ?_)
  | ((with_reducible refine oG fun X Y=>?_); simp [go_sem,he]; apply Y; clear Y X)))
  exact k
theorem valid_small {x:Hld} (h:PuSpec.validM s lims x = true):x.attrs.length < 1099511627776 ∧ x.bl.ys.length < 1099511627776 ∧ x.links.length < 1000 ∧ ∀ y ∈ x.links,y.spend.answers.length < 1099511627776:=by
 rw [validM_eq] at h
 simp only [bA,dE] at h
 obtain ⟨⟨⟨⟨⟨⟨⟨⟨⟨⟨⟨⟨⟨⟨⟨⟨hv,-⟩,-⟩,-⟩,hl⟩,ha⟩,-⟩,-⟩,hy⟩,-⟩,-⟩,-⟩,-⟩,-⟩,-⟩,-⟩,-⟩:=h
 have:=(validS_len hv).2
 unfold linksM at hl
 simp only [bA,dE,Bool.not_eq_true',List.any_eq_false,Bool.or_eq_true,not_or] at hl
 exact ⟨by omega,by omega,by omega,fun y hy=>by have:=(hl.2 y hy).2; omega⟩
set_option maxHeartbeats 4000000 in
theorem PAdd_ok (hP:PuR s lims w0 w p A P) (x:Hld) {av yv kv:Value} {D:Nat → Prop} (hD:∀ i,D i → i < w.heap.size ∧ ¬ Mu p i) (hx:FP D w (fun W=>HldR W x av yv kv))
  (k:∀ w' p',PuR s lims w0 w' p' (addP s lims A P x).2.1 (addP s lims A P x).2.2 → PuSt p w p' w' → (p'.pb = p.pb ∧ p'.b = p.b) → K (.int .i64 (addP s lims A P x).1) w'):callM Tryz.prog 53 #[.pointer (some ⟨p.pb,0,none⟩),hldV x av yv kv] K w:=by
 apply sh_53_ok
 unfold sh_53
 obtain ⟨a1,n1,c1,a2,n2,c2,a3,n3,c3,rfl,rfl,rfl⟩:=hldR_slices hx.here
 refine arr_box (cs:=hldC x (.slice a1 n1 c1) (.slice a2 n2 c2) (.slice a3 n3 c3)) rfl (fun b1 w1 h1 hb1 hB=>?_)
 have bad:addErr s lims P.items x ≠ 0 → ∀ w',Bw w w' → K (.int .i64 (addErr s lims P.items x)) w':=fun e w' hb=>by
  unfold addP at k
  rw [if_pos e] at k
  exact k w' p (hP.next hb) (PuSt.below hb) ⟨rfl,rfl⟩
 have eE:addErr s lims P.items x = if !PuSpec.validM s lims x then 1 else if hasM P.items x.t then 5 else if 400 ≤ P.items.length then 6 else 0:=rfl
 rw [eE] at bad
 have hP1:=hP.next h1
 have hw1d:=h1.on (.drawn (B:=w1.heap.size))
 have hPd:=hP1.next (.drawn (B:=w1.heap.size))
 have hBd:=hB.next (.drawn (B:=w1.heap.size))
 refine ⟨Nx { w1 with drawn:=w1.drawn + 1 },bR,rfl,?_⟩
 generalize ({ w1 with drawn:=w1.drawn + 1 }:World) = W2 at hw1d hPd hBd ⊢
 obtain ⟨ivad,ivc,hiv⟩:=hPd.st.items.isSlice
 obtain ⟨lvad,lvc,hlv⟩:=hPd.st.lim.isSlice
 obtain ⟨bvad,bvc,hbv⟩:=hPd.st.set.ints.isSlice
 have C2:=hPd.st.pur
 unfold puC at C2
 rw [hiv,hlv,hbv] at C2
 repeat (any_goals (first
 | (with_reducible refine pX ?_)
 | ((with_reducible refine idOH ?_); first|(with_reducible refine oH_nil ?_)|(with_reducible refine oH_of ⟨_,rfl⟩ (fun W0 hW0=>by (refine oG (fun X Y=>?_)); simp [go_sem,(C2.next hW0).are,(hBd.next hW0).are]; (first | exact Y _ _ ⟨rfl,rfl⟩ | exact ⟨by omega,Y _ _ ⟨rfl,rfl⟩⟩)) ?_))))
 refine ⟨Nx,fun W3 h3=>?_⟩
 have hw3:=hw1d.on h3
 have hP3:=hPd.next h3
 have hB3:=hBd.next h3
 have hx3:=hx.next hw3 (fun i hi=>(hD i hi).1)
 have hS3:=hP3.st.set
 rw [hbv] at hS3
 have hL3:=hP3.st.lim
 rw [hlv] at hL3
 refine Valid_ok s lims x hS3 hL3 hx3.here (fun w4 h4=>?_)
 have hw4:=hw3.on h4
 have hP4:=hP3.next h4
 have hB4:=hB3.next h4
 cases hv:PuSpec.validM s lims x with
 | false=>
  rw [hv] at bad
  have bad:=bad (by simp) _ hw4
  repeat (any_goals (first
  | (with_reducible refine yL ?_)
  | ((with_reducible refine oG fun X Y=>?_); simp [go_sem]; apply Y; clear Y X)))
  exact bad
 | true=>
 rw [hv] at bad
 repeat (any_goals (first
 | (with_reducible refine yM ?_)
 | ((with_reducible refine oG fun X Y=>?_); simp [go_sem]; apply Y; clear Y X)))
 have hw5:=hw4.on (.drawn (B:=w4.heap.size))
 have hP5:=hP4.next (.drawn (B:=w4.heap.size))
 have hB5:=hB4.next (.drawn (B:=w4.heap.size))
 refine ⟨Nx { w4 with drawn:=w4.drawn + 1 },bR,rfl,?_⟩
 generalize ({ w4 with drawn:=w4.drawn + 1 }:World) = W5 at hw5 hP5 hB5 ⊢
 repeat (any_goals (first
 | (with_reducible refine pX ?_)
 | ((with_reducible refine idOH ?_); first|(with_reducible refine oH_nil ?_)|(with_reducible refine oH_of ⟨_,rfl⟩ (fun W0 hW0=>by (refine oG (fun X Y=>?_)); simp [go_sem,(hB5.next hW0).are]; (first | exact Y _ _ ⟨rfl,rfl⟩ | exact ⟨by omega,Y _ _ ⟨rfl,rfl⟩⟩)) ?_))))
 refine ⟨Nx,fun W6 h6=>?_⟩
 have hw6:=hw5.on h6
 have hP6:=hP5.next h6
 have hB6:=hB5.next h6
 refine has_ok hP6.st x.t (fun w7 h7=>?_)
 have hw7:=hw6.on h7
 have hP7:=hP6.next h7
 have hB7:=hB6.next h7
 cases hh:hasM P.items x.t with
 | true=>
  rw [hh] at bad
  have bad:=bad (by simp) _ hw7
  repeat (any_goals (with_reducible refine yL ?_))
  exact bad
 | false=>
 rw [hh] at bad
 have c6:=hP7.st.pur.cell 6 (by simp)
 simp only [List.getElem_cons_zero,List.getElem_cons_succ] at c6
 rw [hiv] at c6
 by_cases h4:400 ≤ P.items.length
 ·have h4Z:(400:Int) ≤ P.items.length:=by omega
  rw [if_neg (by simp),if_neg (by simp),if_pos h4] at bad
  have bad:=bad (by omega) _ hw7
  repeat (any_goals (first
  | (with_reducible ((refine idCond ?_); first|refine yL ?_|refine yM ?_))
  | ((with_reducible refine oG fun X Y=>?_); simp [go_sem,c6,h4Z]; apply Y; clear Y X)))
  exact bad
 have h4Z:¬ (400:Int) ≤ P.items.length:=by omega
 have eE:addErr s lims P.items x = 0:=by rw [eE,hv,hh,if_neg (by simp),if_neg (by simp),if_neg h4]
 clear bad
 repeat (any_goals (first
 | (with_reducible refine yM ?_)
 | ((with_reducible refine oG fun X Y=>?_); simp [go_sem,c6,h4Z]; apply Y; clear Y X)))
 unfold addP at k
 rw [if_neg (by rw [eE]; simp)] at k
 have hw8:=hw7.on (.drawn (B:=w7.heap.size))
 have hP8:=hP7.next (.drawn (B:=w7.heap.size))
 have hB8:=hB7.next (.drawn (B:=w7.heap.size))
 refine ⟨Nx { w7 with drawn:=w7.drawn + 1 },bR,rfl,?_⟩
 generalize ({ w7 with drawn:=w7.drawn + 1 }:World) = W8 at hw8 hP8 hB8 ⊢
 have C8:=hP8.st.pur
 repeat (any_goals (first
 | (with_reducible refine pX ?_)
 | ((with_reducible refine idOH ?_); first|(with_reducible refine oH_nil ?_)|(with_reducible refine oH_of ⟨_,rfl⟩ (fun W0 hW0=>by (refine oG (fun X Y=>?_)); simp [go_sem,(C8.next hW0).are,(hB8.next hW0).are]; (first | exact Y _ _ ⟨rfl,rfl⟩ | exact ⟨by omega,Y _ _ ⟨rfl,rfl⟩⟩)) ?_))))
 have hx8:=hx.next hw8 (fun i hi=>(hD i hi).1)
 have hlen:=held_len hx8.here.wf hv
 have hrl:(recAdd x).length ≤ 4002:=by unfold recAdd; rw [List.length_append,enc0]; simp; omega
 refine ⟨Nx,?_⟩
 apply monoE
 ·intro w9 h9
  exact Cd.pNum_ok 0 ⟨by omega,by omega⟩ (hP8.next h9).sys.l.toLaid (fun w10 h10=>⟨h9.on h10,h10,rfl⟩)
 apply monoE
 ·intro w9 h9
  exact EncodeH_ok x (hx8.next h9 (fun i hi=>by have:=(hD i hi).1; have:=hw8.size; omega)).here (by omega) (hP8.next h9).sys.l (fun w10 h10=>⟨h9.on h10,h10,rfl⟩)
 apply monoE
 ·rintro w9 h9 _ rfl _ rfl
  exact add_str _ _ (by rw [enc0]; simp; omega) ⟨h9,bR,rfl⟩
 rintro w9 h9 _ - _ - _ rfl
 have hw9:=hw8.on h9
 have hP9:=hP8.next h9
 have hB9:=hB8.next h9
 have hx9:=hx8.next h9 (fun i hi=>by have:=(hD i hi).1; have:=hw8.size; omega)
 refine append_ok hP9.sys hP9.jn ⟨by omega,by omega⟩ (recAdd x) (by omega) (fun w10 h10 v10 s10 j10 t10=>?_)
 obtain ⟨hPa,ta⟩:=hP9.jour s10 j10 t10
 by_cases he:(appendJ A 0 P.j (recAdd x)).1 = 0
 ·rw [if_neg (by rw [he]; simp)] at k
  rw [he]
  repeat (any_goals (first
  | (with_reducible refine yM ?_)
  | ((with_reducible refine oG fun X Y=>?_); simp [go_sem]; apply Y; clear Y X)))
  have hb1n:¬ Mu p b1:=fun e=>by have:=hP.mu_lt b1 e; omega
  have hB10:Holds w10 b1 29 _:=(ta.fr.block b1 hB9.lt hb1n).trans hB9
  have hx10:=hx9.fr ta.fr (fun i hi=>⟨by have:=(hD i hi).1; have:=hw9.size; omega,(hD i hi).2⟩)
  have hPd:=hPa.next (.drawn (B:=w10.heap.size))
  have hBd:=hB10.next (.drawn (B:=w10.heap.size))
  have hxd:=hx10.next (.drawn (B:=w10.heap.size)) (fun i hi=>by have:=(hD i hi).1; have:=hw9.size; have:=ta.fr.size; omega)
  have td:=ta.trans (PuSt.below (.drawn (B:=w10.heap.size)))
  refine ⟨fun sg W=>sg ≤ 3 → Nx { w10 with drawn:=w10.drawn + 1 } W,fun _=>bR,?_⟩
  generalize ({ w10 with drawn:=w10.drawn + 1 }:World) = W11 at hPd hBd hxd td ⊢
  have C11:=hPd.st.pur
  have c6:=C11.cell 6 (by simp)
  simp only [List.getElem_cons_zero,List.getElem_cons_succ] at c6
  rw [hiv] at c6
  have c6k:∀ W0,Nx W11 W0 → W0.cell? ⟨p.pb,6,none⟩ = some (.slice ivad P.items.length ivc):=fun W0 h=>(h.cell C11.lt).trans c6
  obtain ⟨z1,z2,z3,z4⟩:=valid_small hv
  repeat (first | (with_reducible refine pX ?_) | (with_reducible refine oH_nil ?_) | (with_reducible refine gdH_true rfl ?_) | (with_reducible refine gdH_false rfl ?_) | (refine oH_of ⟨_,rfl⟩ (fun W0 hW0=>by (obtain ⟨s0,hs0,hC⟩:=hW0); (have hsk:s0 ≤ 3:=by omega); (refine oG (fun X Y=>?_)); simp [go_sem,c6k _ (hC hsk),(hBd.next (hC hsk)).are]; (first | exact Y _ _ ⟨rfl,rfl⟩ | exact ⟨by omega,Y _ _ ⟨rfl,rfl⟩⟩)) ?_))
  refine fresh_ok x hxd.here z1 z2 z3 z4 (fun w12 av' yv' kv' h12 hF=>⟨fun _=>h12,?_⟩)
  obtain ⟨a1',n1',c1',a2',n2',c2',a3',n3',c3',rfl,rfl,rfl⟩:=hldR_slices hF.here
  rw [build_itm]
  show _ ∧ _
  refine ⟨fun _=>h12,?_⟩
  refine lit_itm (freshI x) (fun q w13 h13 hQ1 hQ=>⟨fun _=>h12.on h13,?_⟩)
  have hw13:=h12.on h13
  have hPi:=hPd.next hw13
  rw [← hiv]
  refine items_add (D:=Im _ w13) hPi.st.itm (Nat.zero_le _) hQ ?_ (fun i hi=>⟨hi.1,fun e=>hi.2.1 (.inr (.inr (.inr (.inr e))))⟩) (by show P.items.length < 1000; omega) (fun v' w14 hG hg hv'=>⟨fun h=>by omega,?_⟩)
  ·exact (fresh_im hPd.mu_lt hPd.st.xl (hF.next h13)).imp (fun W hW=>⟨_,_,_,rfl,hW,I64_0,I64_0⟩)
  iterate 1 (any_goals ((with_reducible refine oG fun X Y=>?_); simp [go_sem]; apply Y; clear Y X))
  refine ⟨fun h=>by omega,?_⟩
  iterate 1 (any_goals ((with_reducible refine oG fun X Y=>?_); simp [go_sem]; apply Y; clear Y X))
  refine ⟨fun h=>by omega,?_⟩
  iterate 1 (any_goals ((with_reducible refine oG fun X Y=>?_); simp [go_sem]; apply Y; clear Y X))
  refine ⟨fun h=>by omega,?_⟩
  obtain ⟨va,vc,hva⟩:=hG.isSlice
  have hP14:=hPi.st.pur.other' hg (fun e=>(hPi.st.si _ e).2.2.2 rfl)
  refine arr_set (i:=6) sz_itms (by rw [hva]; rfl) (by rw [hva]; rfl) hP14 (by simp) (fun w15 hg15 hH15=>⟨fun h=>by omega,?_⟩)
  obtain ⟨r1,r2⟩:=hPi.st.grew hPi.mu_lt hG hg hv' hg15 hH15 (by show P.items.length + 1 ≤ 400; omega)
  exact k w15 _ (hPi.it r1 r2) (((PuSt.below hw9).trans td).trans ((PuSt.below hw13).trans r2.st)) ⟨rfl,rfl⟩
 ·rw [if_pos he] at k
  have k:=k w10 _ hPa ((PuSt.below hw9).trans ta) ⟨rfl,rfl⟩
  repeat (any_goals (first
  | (with_reducible refine yL ?_)
  | ((with_reducible refine oG fun X Y=>?_); simp [go_sem,he]; apply Y; clear Y X)))
  exact k
theorem fits_ok (hP:StR s lims w p items) (x:Itm) {av yv kv:Value} (hx:HldR w x.held av yv kv) {limit:Int} (now:Int) (h0:0 ≤ limit) (h1:limit < lims.length) (k:∀ w',Bw w w' → K (.bool (fitsI lims limit now x)) w') :
  callM Tryz.prog 72 #[.pointer (some ⟨p.pb,0,none⟩),itmV x av yv kv,.int .i64 limit,.int .i64 now] K w:=by
 apply sh_72_ok
 unfold sh_72
 obtain ⟨a1,n1,c1,a2,n2,c2,a3,n3,c3,rfl,rfl,rfl⟩:=hldR_slices hx
 refine arr_box (cs:=itmC x (.slice a1 n1 c1) (.slice a2 n2 c2) (.slice a3 n3 c3)) rfl (fun b1 w1 hb1 hbb hB=>?_)
 have hw:=hb1.on (.drawn (B:=w1.heap.size))
 have hBd:=hB.next (.drawn (B:=w1.heap.size))
 have hPd:=hP.next hw
 refine ⟨Nx { w1 with drawn:=w1.drawn + 1 },bR,rfl,?_⟩
 generalize ({ w1 with drawn:=w1.drawn + 1 }:World) = W2 at hw hBd hPd ⊢
 have eF:fitsI lims limit now x = (decide (x.status = 0) && decide (x.held.limit = limit) && decide (x.held.window = windowM (lims.getD limit.toNat ⟨0,0,0⟩) now)):=rfl
 have k2:∀ w' r,fitsI lims limit now x = r → Nx W2 w' → K (.bool r) w':=fun w' r e hn=>by rw [← e]; exact k w' (hw.on hn)
 rw [eF] at k2
 clear k eF
 obtain ⟨lvad,lvc,hlv⟩:=hPd.lim.isSlice
 have C:=hPd.pur
 unfold puC at C
 have hL:=hPd.lim
 rw [hlv] at C hL
 have hli:limit.toNat < lims.length:=by omega
 obtain ⟨lb,lo,rfl,hlb,cs,hcl,hcc,hV⟩:=hL.at hli
 obtain ⟨rfl,hI⟩:=hV
 have eD:lims.getD limit.toNat ⟨0,0,0⟩ = lims[limit.toNat]:=by rw [List.getD_eq_getElem?_getD,gE hli]; rfl
 rw [eD] at k2
 generalize lims[limit.toNat] = lm at *
 have g0:∀ W0,Nx W2 W0 → W0.cell? ⟨lb,lo + limit.toNat * 3,none⟩ = some (.int .i64 lm.count):=fun W0 h=>(h.cell hlb).trans (hcc 0 _ rfl)
 have g1:∀ W0,Nx W2 W0 → W0.cell? ⟨lb,lo + limit.toNat * 3 + 1,none⟩ = some (.int .i64 lm.length):=fun W0 h=>(h.cell hlb).trans (hcc 1 _ rfl)
 have g2:∀ W0,Nx W2 W0 → W0.cell? ⟨lb,lo + limit.toNat * 3 + 2,none⟩ = some (.int .i64 lm.gate):=fun W0 h=>(h.cell hlb).trans (hcc 2 _ rfl)
 by_cases hs:x.status = 0
 ·by_cases hl:x.held.limit = limit
  ·repeat (any_goals (first
   | (with_reducible first|refine pX ?_|((refine idGdH ?_); refine gdH_conv fun _=>?_)|refine zA ?_)
   | ((with_reducible refine idOH ?_); first|(with_reducible first|refine vA ?_|refine oH_nil ?_)|(with_reducible refine oH_of ⟨_,rfl⟩ (fun W0 hW0=>by (refine oG (fun X Y=>?_)); simp [go_sem,(C.next hW0).are,(hBd.next hW0).are,hs,hl,h0,h1,g0 _ hW0,g1 _ hW0,g2 _ hW0]; (first | exact Y _ _ ⟨rfl,rfl⟩ | exact ⟨by omega,Y _ _ ⟨rfl,rfl⟩⟩)) ?_))))
   dsimp only
   refine ⟨Nx,?_⟩
   apply monoE
   ·intro w9 h9
    repeat (any_goals (with_reducible refine zA ?_))
    exact Window_ok lm now (fun w2 h2=>⟨h9.on h2,h2,rfl⟩)
   rintro w8 h8 _ rfl
   by_cases hw:x.held.window = windowM lm now
   ·have k:=k2 _ true (by rw [decide_eq_true hs,decide_eq_true hl,decide_eq_true hw]; rfl) h8
    repeat (any_goals (first
    | (with_reducible first|refine zA ?_|refine yB ?_)
    | ((with_reducible refine oG fun X Y=>?_); simp [go_sem,hw]; apply Y; clear Y X)))
    exact k
   ·have k:=k2 _ false (by rw [decide_eq_false hw]; simp) h8
    repeat (any_goals (first
    | (with_reducible first|refine zA ?_|refine yB ?_)
    | ((with_reducible refine oG fun X Y=>?_); simp [go_sem,hw]; apply Y; clear Y X)))
    exact k
  ·repeat (any_goals (first
   | (with_reducible first|refine pX ?_|((refine idGdH ?_); refine gdH_conv fun _=>?_)|((refine idGd ?_); first|refine zA ?_|refine zB ?_))
   | ((with_reducible refine idOH ?_); first|(with_reducible refine vA ?_)|(with_reducible refine oH_of ⟨_,rfl⟩ (fun W0 hW0=>by (refine oG (fun X Y=>?_)); simp [go_sem,(C.next hW0).are,(hBd.next hW0).are,hs,hl]; (first | exact Y _ _ ⟨rfl,rfl⟩ | exact ⟨by omega,Y _ _ ⟨rfl,rfl⟩⟩)) ?_))))
   refine ⟨Nx,?_⟩
   repeat (apply monoE; focus (intro w9 h9; (repeat (intro v9 e9; try (obtain rfl:=e9))); (repeat (any_goals (with_reducible refine zB ?_))); exact ⟨h9,bR,rfl⟩))
   rintro w8 h8 _ rfl
   repeat (any_goals (with_reducible first|refine zB ?_|refine yC ?_))
   exact k2 _ _ (by rw [decide_eq_false hl]; simp) h8
 ·repeat (any_goals (first
  | (with_reducible first|refine pX ?_|((refine idGdH ?_); refine gdH_conv fun _=>?_)|refine zB ?_)
  | ((with_reducible refine idOH ?_); first|(with_reducible refine vB ?_)|(with_reducible refine oH_of ⟨_,rfl⟩ (fun W0 hW0=>by (refine oG (fun X Y=>?_)); simp [go_sem,(C.next hW0).are,(hBd.next hW0).are,hs]; (first | exact Y _ _ ⟨rfl,rfl⟩ | exact ⟨by omega,Y _ _ ⟨rfl,rfl⟩⟩)) ?_))))
  refine ⟨Nx,?_⟩
  repeat (apply monoE; focus (intro w9 h9; (repeat (intro v9 e9; try (obtain rfl:=e9))); (repeat (any_goals (with_reducible refine zB ?_))); exact ⟨h9,bR,rfl⟩))
  rintro w8 h8 _ rfl
  repeat (any_goals (with_reducible first|refine zB ?_|refine yC ?_))
  exact k2 _ _ (by rw [decide_eq_false hs]; simp) h8
theorem cell_lt {a:Addr} {v:Value} (h:w.cell? a = some v):a.block < w.heap.size:=(cells_lt (L:=[(a,v)]) ⟨h,trivial⟩) _ (List.mem_singleton.2 rfl)
theorem choose1_ok (hP:StR s lims w p items) (x:Itm) {av yv kv:Value} (hx:HldR w x.held av yv kv) {limit:Int} (now:Int) (h0:0 ≤ limit) (h1:limit < lims.length) {b1 b2 b3:Nat} (c1:w.cell? ⟨b1,0,none⟩ = some (.pointer (some ⟨p.pb,0,none⟩))) (c2:w.cell? ⟨b2,0,none⟩ = some (.int .i64 limit)) (c3:w.cell? ⟨b3,0,none⟩ = some (.int .i64 now))
  (k:∀ w',Bw w w' → K (.bool (fitsI lims limit now x)) w'):callM Tryz.prog 122 #[itmV x av yv kv,.pointer (some ⟨b1,0,none⟩),.pointer (some ⟨b2,0,none⟩),.pointer (some ⟨b3,0,none⟩)] K w:=by
 apply sh_122_ok
 unfold sh_122
 obtain ⟨a1,n1,d1,a2,n2,d2,a3,n3,d3,rfl,rfl,rfl⟩:=hldR_slices hx
 refine arr_box (cs:=itmC x (.slice a1 n1 d1) (.slice a2 n2 d2) (.slice a3 n3 d3)) rfl (fun b4 W hb1 hbb hB=>?_)
 have e1:=(hb1.cell (cell_lt c1)).trans c1
 have e2:=(hb1.cell (cell_lt c2)).trans c2
 have e3:=(hb1.cell (cell_lt c3)).trans c3
 iterate 1 (any_goals ((with_reducible refine oG fun X Y=>?_); simp [go_sem,e1]; apply Y; clear Y X))
 refine arr_load hB un_itm (by kernel_rfl) (by kernel_rfl) ?_
 repeat (any_goals ((with_reducible refine oG fun X Y=>?_); simp [go_sem,e2,e3]; apply Y; clear Y X))
 refine fits_ok (hP.next hb1) x (hx.next hb1) now h0 h1 (fun w2 h2=>?_)
 skip
 exact k _ (hb1.on h2)
@[go_sem] theorem oM_makeFunc3 {P:Program} {K:VK} {w:World} (fn:Fn) (T:TypeId) (x y z:Value):oM P (.makeFunc fn #[] #[.tmp 0,.tmp 1,.tmp 2]) T [x,y,z] K w = K (.func fn #[] #[x,y,z]) w:=oM_of_run (by simp [xop,execOp,evalL,evE,Instr.makeFunc])
theorem choose_ok (hP:StR s lims w p P.items) (limit now:Int) (k:∀ w',Bw w w' → K (.tuple #[.int .i64 (chooseM lims P.items limit now).1,.int .i64 (chooseM lims P.items limit now).2]) w') :
  callM Tryz.prog 73 #[.pointer (some ⟨p.pb,0,none⟩),.int .i64 limit,.int .i64 now] K w:=by
 apply sh_73_ok
 unfold sh_73
 have bad:(limit < 0 ∨ (lims.length:Int) ≤ limit ∨ timeB now = false) → ∀ w',Bw w w' → K (.tuple #[.int .i64 0,.int .i64 1]) w':=fun e w' hb=>by
  have:chooseM lims P.items limit now = (0,1):=by
   unfold chooseM
   rw [if_pos (by rcases e with e | e | e <;> simp [e])]
  rw [this] at k
  exact k w' hb
 refine arr_box (cs:=[.pointer (some ⟨p.pb,0,none⟩)]) rfl (fun b1 w1 h1 hb1 hB1=>?_)
 refine arr_box (cs:=[.int .i64 limit]) rfl (fun b2 w2 h2 hb2 hB2=>?_)
 refine arr_box (cs:=[.int .i64 now]) rfl (fun b3 w3 h3 hb3 hB3=>?_)
 have hw:=((h1.on h2).on h3).on (.drawn (B:=w3.heap.size))
 have hB1:=((hB1.next h2).next h3).next (.drawn (B:=w3.heap.size))
 have hB2:=(hB2.next h3).next (.drawn (B:=w3.heap.size))
 have hB3:=hB3.next (.drawn (B:=w3.heap.size))
 refine ⟨Nx { w3 with drawn:=w3.drawn + 1 },bR,rfl,?_⟩
 generalize ({ w3 with drawn:=w3.drawn + 1 }:World) = W4 at hw hB1 hB2 hB3 ⊢
 have hPd:=hP.next hw
 obtain ⟨lvad,lvc,hlv⟩:=hPd.lim.isSlice
 obtain ⟨ivad,ivc,hiv⟩:=hPd.items.isSlice
 have C:=hPd.pur
 unfold puC at C
 rw [hlv,hiv] at C
 have f5:∀ W0,Nx W4 W0 → W0.cell? ⟨p.pb,5,none⟩ = some (.slice lvad lims.length lvc):=fun W0 h=>(h.cell C.lt).trans (C.cell 5 (by simp))
 have f6:∀ W0,Nx W4 W0 → W0.cell? ⟨p.pb,6,none⟩ = some (.slice ivad P.items.length ivc):=fun W0 h=>(h.cell C.lt).trans (C.cell 6 (by simp))
 have g1:∀ W0,Nx W4 W0 → W0.cell? ⟨b1,0,none⟩ = some (.pointer (some ⟨p.pb,0,none⟩)):=fun W0 h=>(h.cell hB1.lt).trans (hB1.cell 0 (by simp))
 have g2:∀ W0,Nx W4 W0 → W0.cell? ⟨b2,0,none⟩ = some (.int .i64 limit):=fun W0 h=>(h.cell hB2.lt).trans (hB2.cell 0 (by simp))
 have g3:∀ W0,Nx W4 W0 → W0.cell? ⟨b3,0,none⟩ = some (.int .i64 now):=fun W0 h=>(h.cell hB3.lt).trans (hB3.cell 0 (by simp))
 have bad:(limit < 0 ∨ (lims.length:Int) ≤ limit ∨ timeB now = false) → ∀ w',Nx W4 w' → K (.tuple #[.int .i64 0,.int .i64 1]) w':=fun e w' hn=>bad e w' (hw.on hn)
 by_cases hl0:limit < 0
 ·have bad:=bad (.inl hl0)
  repeat (any_goals (first
  | (with_reducible first|refine pX ?_|((refine idGdH ?_); refine gdH_conv fun _=>?_)|refine zD ?_)
  | ((with_reducible refine idOH ?_); first|(with_reducible refine vA ?_)|(with_reducible refine oH_of ⟨_,rfl⟩ (fun W0 hW0=>by (refine oG (fun X Y=>?_)); simp [go_sem,f5 _ hW0,g1 _ hW0,g2 _ hW0,g3 _ hW0,hl0]; (first | exact Y _ _ ⟨rfl,rfl⟩ | exact ⟨by omega,Y _ _ ⟨rfl,rfl⟩⟩)) ?_))))
  refine ⟨Nx,fun w5 h5=>?_⟩
  repeat (any_goals (with_reducible first|refine zD ?_|refine yB ?_|refine yL ?_))
  exact bad _ h5
 by_cases hl1:(lims.length:Int) ≤ limit
 ·have bad:=bad (.inr (.inl hl1))
  repeat (any_goals (first
  | (with_reducible first|refine pX ?_|((refine idGdH ?_); refine gdH_conv fun _=>?_)|((refine idGd ?_); first|refine zC ?_|refine zD ?_))
  | ((with_reducible refine idOH ?_); first|(with_reducible first|refine vB ?_|refine oH_nil ?_)|(with_reducible refine oH_of ⟨_,rfl⟩ (fun W0 hW0=>by (refine oG (fun X Y=>?_)); simp [go_sem,f5 _ hW0,g1 _ hW0,g2 _ hW0,g3 _ hW0,hl0,hl1]; (first | exact Y _ _ ⟨rfl,rfl⟩ | exact ⟨by omega,Y _ _ ⟨rfl,rfl⟩⟩)) ?_))))
  refine ⟨Nx,fun w5 h5=>?_⟩
  repeat (any_goals (with_reducible first|refine zD ?_|refine yB ?_|refine yL ?_))
  exact bad _ h5
 repeat (any_goals (first
 | (with_reducible first|refine pX ?_|((refine idGdH ?_); refine gdH_conv fun _=>?_)|refine zC ?_)
 | ((with_reducible refine idOH ?_); first|(with_reducible first|refine vB ?_|refine oH_nil ?_)|(with_reducible refine oH_of ⟨_,rfl⟩ (fun W0 hW0=>by (refine oG (fun X Y=>?_)); simp [go_sem,f5 _ hW0,g1 _ hW0,g2 _ hW0,g3 _ hW0,hl0,hl1]; (first | exact Y _ _ ⟨rfl,rfl⟩ | exact ⟨by omega,Y _ _ ⟨rfl,rfl⟩⟩)) ?_))))
 refine ⟨Nx,fun w5 h5=>?_⟩
 repeat (any_goals (with_reducible refine zC ?_))
 refine isTime_ok now ?_
 cases ht:timeB now with
 | false=>
  have bad:=bad (.inr (.inr ht)) _ h5
  repeat (any_goals (first
  | (with_reducible first|refine zC ?_|refine yC ?_|refine yL ?_)
  | ((with_reducible refine oG fun X Y=>?_); simp [go_sem]; apply Y; clear Y X)))
  exact bad
 | true=>
 have k2:∀ w' r,chooseM lims P.items limit now = r → Nx W4 w' → K (.tuple #[.int .i64 r.1,.int .i64 r.2]) w':=fun w' r e hn=>by rw [← e]; exact k w' (hw.on hn)
 have eC:chooseM lims P.items limit now = (match P.items.findIdx? (fitsI lims limit now) with
  | none=>(0,15)
  | some i=>(i,0)):=by
  unfold chooseM
  rw [if_neg (by simp [hl0,hl1,ht])]
  rfl
 rw [eC] at k2
 clear k bad eC
 repeat (any_goals (first
 | (with_reducible first|refine zC ?_|refine yC ?_|refine yM ?_)
 | ((with_reducible refine oG fun X Y=>?_); simp [go_sem,f6 _ h5,g1 _ h5]; apply Y; clear Y X)))
 have hP5:=hPd.next h5
 have hit:=hP5.items
 rw [hiv] at hit
 refine IndexItm_ok (fitsI lims limit now) hit ?_ (fun w6 h6=>?_)
 ·rintro w' x cs K' T hb hx ⟨av,yv,lv,rfl,hh,_⟩ h'
  refine oM_callv1 (by kernel_rfl) ?_
  exact choose1_ok (hP5.next hb) x hh now (by omega) (by omega) (g1 _ (h5.on hb)) (g2 _ (h5.on hb)) (g3 _ (h5.on hb)) h'
 ·cases hf:P.items.findIdx? (fitsI lims limit now) with
  | none=>
   have k:=k2 _ (0,15) (by rw [hf]) (h5.on h6)
   show oM _ _ _ [.int .i64 (-1),_] _ _
   repeat (any_goals (first
   | (with_reducible refine yL ?_)
   | ((with_reducible refine oG fun X Y=>?_); simp [go_sem]; apply Y; clear Y X)))
   exact k
  | some i=>
   have k:=k2 _ (i,0) (by rw [hf]) (h5.on h6)
   have hi:¬ (i:Int) < 0:=by omega
   show oM _ _ _ [.int .i64 (i:Int),_] _ _
   repeat (any_goals (first
   | (with_reducible refine yM ?_)
   | ((with_reducible refine oG fun X Y=>?_); simp [go_sem,hi]; apply Y; clear Y X)))
   exact k
theorem modify_set {α:Type} {l:List α} {i:Nat} {x:α} (f:α → α) (h:l[i]? = some x):l.modify i f = l.set i (f x):=by
 apply List.ext_getElem?
 intro j
 rw [List.getElem?_modify,List.getElem?_set]
 by_cases hj:i = j
 ·subst hj
  rw [if_pos rfl,h,if_pos (gS h).1]
  simp
 ·rw [if_neg hj]
  cases l[j]? <;> simp [hj]
set_option maxHeartbeats 4000000 in
theorem keep_ok (hP:PuR s lims w0 w p A P) {i:Nat} (hi:i < P.items.length) (kind dare:Int) (hk:InR kind) (hd:InR dare)
  (k:∀ w' p',PuR s lims w0 w' p' (keepP A P i kind dare).2.1 (keepP A P i kind dare).2.2 → PuSt p w p' w' → (p'.pb = p.pb ∧ p'.b = p.b) → K (.int .i64 (keepP A P i kind dare).1) w') :
  callM Tryz.prog 74 #[.pointer (some ⟨p.pb,0,none⟩),.int .i64 (i:Int),.int .i64 kind,.int .i64 dare] K w:=by
 apply sh_74_ok
 unfold sh_74
 have hcn:=hP.st.cnt
 have hri:InR (i:Int):=⟨by omega,by omega⟩
 have hall:∀ n ∈ [kind,(i:Int),dare],InR n:=by
  intro n hn
  simp only [List.mem_cons,List.not_mem_nil,or_false] at hn
  rcases hn with rfl | rfl | rfl
  ·exact hk
  ·exact hri
  ·exact hd
 have hrl:=recNums_len hall (by simp)
 have hPd:=hP.next (.drawn (B:=w.heap.size))
 have hw0:Below w.heap.size w { w with drawn:=w.drawn + 1 }:=.drawn
 refine ⟨Nx { w with drawn:=w.drawn + 1 },bR,rfl,?_⟩
 generalize ({ w with drawn:=w.drawn + 1 }:World) = W1 at hPd hw0 ⊢
 have C:=hPd.st.pur
 have f7:∀ W0,Nx W1 W0 → W0.cell? ⟨p.pb,7,none⟩ = some (jnP p.q):=fun W0 h=>(h.cell C.lt).trans (C.cell 7 (by simp))
 repeat (any_goals (first
 | (with_reducible refine pX ?_)
 | ((with_reducible refine idOH ?_); first|(with_reducible refine oH_nil ?_)|(with_reducible refine oH_of ⟨_,rfl⟩ (fun W0 hW0=>by (refine oG (fun X Y=>?_)); simp [go_sem,f7 _ hW0]; (first | exact Y _ _ ⟨rfl,rfl⟩ | exact ⟨by omega,Y _ _ ⟨rfl,rfl⟩⟩)) ?_))))
 refine ⟨Nx,?_⟩
 refine monoR (fun v w'=>Ints w' v [kind,(i:Int),dare]) (fun v w w1 hS h=>h.next hS) ?_ ?_
 ·intro w2 h2
  exact mk3i _ _ _ (inR_I64 hk) (inR_I64 hri) (inR_I64 hd) (fun v w3 h3 hi=>⟨h2.on h3,h3,hi⟩)
 apply monoE
 ·intro w2 h2 v hv
  exact Cd.pNums_ok _ v (hPd.next h2).sys.l.toLaid (rowOf_ints hv) hall (by unfold recNums encNums at hrl; omega) (fun w3 h3=>⟨h2.on h3,h3,rfl⟩)
 rintro w2 h2 v1 - _ rfl
 have hw2:=hw0.on h2
 have hP2:=hPd.next h2
 refine append_ok hP2.sys hP2.jn ⟨by omega,by omega⟩ (recNums [kind,(i:Int),dare]) (by omega) (fun w3 h3 v3 s3 j3 t3=>?_)
 obtain ⟨hP3,ta⟩:=hP2.jour s3 j3 t3
 have eK:keepP A P i kind dare = if (appendJ A 0 P.j (recNums [kind,(i:Int),dare])).1 ≠ 0 then ((appendJ A 0 P.j (recNums [kind,(i:Int),dare])).1,(appendJ A 0 P.j (recNums [kind,(i:Int),dare])).2.1,⟨(appendJ A 0 P.j (recNums [kind,(i:Int),dare])).2.2,P.items⟩)
  else if (syncJ (appendJ A 0 P.j (recNums [kind,(i:Int),dare])).2.1 0 (appendJ A 0 P.j (recNums [kind,(i:Int),dare])).2.2).1 ≠ 0 then ((syncJ (appendJ A 0 P.j (recNums [kind,(i:Int),dare])).2.1 0 (appendJ A 0 P.j (recNums [kind,(i:Int),dare])).2.2).1,(syncJ (appendJ A 0 P.j (recNums [kind,(i:Int),dare])).2.1 0 (appendJ A 0 P.j (recNums [kind,(i:Int),dare])).2.2).2.1,⟨(syncJ (appendJ A 0 P.j (recNums [kind,(i:Int),dare])).2.1 0 (appendJ A 0 P.j (recNums [kind,(i:Int),dare])).2.2).2.2,P.items.modify i fun x=>{ x with dare:=dare,status:=3 }⟩)
  else (0,(syncJ (appendJ A 0 P.j (recNums [kind,(i:Int),dare])).2.1 0 (appendJ A 0 P.j (recNums [kind,(i:Int),dare])).2.2).2.1,⟨(syncJ (appendJ A 0 P.j (recNums [kind,(i:Int),dare])).2.1 0 (appendJ A 0 P.j (recNums [kind,(i:Int),dare])).2.2).2.2,P.items.modify i fun x=>{ x with dare:=dare,status:=1,lent:=decide (kind = 3) }⟩):=rfl
 generalize appendJ A 0 P.j (recNums [kind,(i:Int),dare]) = a at *
 have hx:P.items[i]? = some P.items[i]:=gE hi
 rw [modify_set _ hx,modify_set _ hx] at eK
 generalize P.items[i] = x at *
 by_cases he:a.1 = 0
 ·rw [if_neg (by rw [he]; simp)] at eK
  rw [he]
  obtain ⟨g,c,av,yv,kv,hgv,hgl,hH,hI,hJ,hc⟩:=hP3.st.at hx
  simp only at hgv
  have c6:=hP3.st.pur.cell 6 (by simp)
  simp only [List.getElem_cons_zero,List.getElem_cons_succ] at c6
  rw [hgv] at c6
  have hiZ:(i:Int) < P.items.length:=by omega
  repeat (any_goals (first
  | (with_reducible refine yM ?_)
  | ((with_reducible refine oG fun X Y=>?_); simp [go_sem,c6,hiZ]; apply Y; clear Y X)))
  refine hP3.st.put1 hP3.mu_lt (y:={ x with dare:=dare }) hx hgv (by omega) sz_int1 rfl rfl (fun _ _ _=>rfl) rfl ⟨hI,inR_I64 hd⟩ (fun w4 st4 t4=>?_)
  have hP4:=hP3.it st4 t4
  have c7:=hP4.st.pur.cell 7 (by simp)
  simp only [List.getElem_cons_zero,List.getElem_cons_succ] at c7
  repeat (any_goals ((with_reducible refine oG fun X Y=>?_); simp [go_sem,c7]; apply Y; clear Y X))
  refine syncJ_ok hP4.sys hP4.jn (fun w5 h5 s5 j5 t5=>?_)
  obtain ⟨hP5,tb⟩:=hP4.jour s5 j5 t5
  simp only at hP5 eK
  generalize syncJ a.2.1 0 a.2.2 = bb at *
  have hx5:(P.items.set i { x with dare:=dare })[i]? = some { x with dare:=dare }:=List.getElem?_set_self hi
  have hlen:(P.items.set i { x with dare:=dare }).length = P.items.length:=List.length_set
  have T:=((PuSt.below hw2).trans ta).trans (t4.st.trans tb)
  by_cases hs:bb.1 = 0
  ·rw [if_neg (by rw [hs]; simp)] at eK
   rw [eK] at k
   rw [hs]
   repeat (any_goals (first
   | (with_reducible refine yM ?_)
   | ((with_reducible refine oG fun X Y=>?_); simp [go_sem]; apply Y; clear Y X)))
   refine hP5.st.put1 hP5.mu_lt (y:={ x with dare:=dare,status:=1 }) hx5 (by rw [hlen]; exact hgv) (by omega) sz_int1 rfl rfl (fun _ _ _=>rfl) rfl ⟨I64_k 1 (by omega),inR_I64 hd⟩ (fun w6 st6 t6=>?_)
   have hP6:=hP5.it st6 t6
   rw [List.set_set] at hP6
   repeat (any_goals ((with_reducible refine oG fun X Y=>?_); simp [go_sem]; apply Y; clear Y X))
   have hx6:(P.items.set i { x with dare:=dare,status:=1 })[i]? = some { x with dare:=dare,status:=1 }:=List.getElem?_set_self hi
   refine hP6.st.put1 hP6.mu_lt (y:={ x with dare:=dare,status:=1,lent:=decide (kind = 3) }) hx6 (by rw [List.length_set]; exact hgv) (by omega) sz_bool rfl rfl (fun _ _ _=>rfl) rfl ⟨I64_k 1 (by omega),inR_I64 hd⟩ (fun w7 st7 t7=>?_)
   have hP7:=hP6.it st7 t7
   rw [List.set_set] at hP7
   skip
   exact k w7 _ hP7 (T.trans (t6.st.trans t7.st)) ⟨rfl,rfl⟩
  ·rw [if_pos hs] at eK
   rw [eK] at k
   repeat (any_goals (first
   | (with_reducible refine yL ?_)
   | ((with_reducible refine oG fun X Y=>?_); simp [go_sem,hs]; apply Y; clear Y X)))
   refine hP5.st.put1 hP5.mu_lt (y:={ x with dare:=dare,status:=3 }) hx5 (by rw [hlen]; exact hgv) (by omega) sz_int1 rfl rfl (fun _ _ _=>rfl) rfl ⟨I64_k 3 (by omega),inR_I64 hd⟩ (fun w6 st6 t6=>?_)
   have hP6:=hP5.it st6 t6
   rw [List.set_set] at hP6
   skip
   exact k w6 _ hP6 (T.trans t6.st) ⟨rfl,rfl⟩
 ·rw [if_pos he] at eK
  rw [eK] at k
  have k:=k w3 _ hP3 ((PuSt.below hw2).trans ta) ⟨rfl,rfl⟩
  repeat (any_goals (first
  | (with_reducible refine yL ?_)
  | ((with_reducible refine oG fun X Y=>?_); simp [go_sem,he]; apply Y; clear Y X)))
  exact k
theorem choose_val (lims:List Lim) (items:List Itm) (limit now:Int):(chooseM lims items limit now).2 = 1 ∨ (chooseM lims items limit now).2 = 15 ∨ ((chooseM lims items limit now).2 = 0 ∧ (chooseM lims items limit now).1 < items.length):=by
 unfold chooseM
 split
 ·exact .inl rfl
 ·cases h:items.findIdx? (fitsI lims limit now) with
  | none=>exact .inr (.inl rfl)
  | some i=>exact .inr (.inr ⟨rfl,(List.findIdx?_eq_some_iff_getElem.1 h).1⟩)
theorem PReserve_ok (hP:PuR s lims w0 w p A P) (limit now dare:Int) (hd:InR dare)
  (k:∀ w' p',PuR s lims w0 w' p' (reserveP s lims A P limit now dare).2.1 (reserveP s lims A P limit now dare).2.2 → PuSt p w p' w' → (p'.pb = p.pb ∧ p'.b = p.b) → K (.tuple #[.int .i64 (reserveP s lims A P limit now dare).1.1,.int .i64 (reserveP s lims A P limit now dare).1.2]) w') :
  callM Tryz.prog 28 #[.pointer (some ⟨p.pb,0,none⟩),.int .i64 limit,.int .i64 now,.int .i64 dare] K w:=by
 apply sh_28_ok
 unfold sh_28
 refine choose_ok hP.st limit now (fun w1 h1=>?_)
 have hP1:=hP.next h1
 have hcv:=choose_val lims P.items limit now
 have eR:reserveP s lims A P limit now dare = if (chooseM lims P.items limit now).2 = 1 ∨ dare < 1 ∨ s.g.Q ≤ dare then ((0,1),A,P)
  else if (chooseM lims P.items limit now).2 ≠ 0 then ((0,(chooseM lims P.items limit now).2),A,P)
  else if (keepP A P (chooseM lims P.items limit now).1 1 dare).1 ≠ 0 then ((0,(keepP A P (chooseM lims P.items limit now).1 1 dare).1),(keepP A P (chooseM lims P.items limit now).1 1 dare).2)
  else (((chooseM lims P.items limit now).1,0),(keepP A P (chooseM lims P.items limit now).1 1 dare).2):=rfl
 generalize chooseM lims P.items limit now = c at *
 obtain ⟨i,e⟩:=c
 simp only at *
 have hc1:=hP1.st.pur.cell 1 (by simp)
 simp only [List.getElem_cons_zero,List.getElem_cons_succ] at hc1
 have bad:(e = 1 ∨ dare < 1 ∨ s.g.Q ≤ dare) → K (.tuple #[.int .i64 0,.int .i64 1]) w1:=fun hb=>by
  rw [if_pos hb] at eR
  rw [eR] at k
  exact k w1 p hP1 (PuSt.below h1) ⟨rfl,rfl⟩
 by_cases h1e:e = 1
 ·have bad:=bad (.inl h1e)
  repeat (any_goals (first
  | (with_reducible first|refine zD ?_|refine yB ?_|refine yL ?_)
  | ((with_reducible refine oG fun X Y=>?_); simp [go_sem,h1e]; apply Y; clear Y X)))
  exact bad
 by_cases hd1:dare < 1
 ·have bad:=bad (.inr (.inl hd1))
  repeat (any_goals (first
  | (with_reducible first|refine pureM_in ?_|((refine idGd ?_); first|refine zC ?_|refine zD ?_)|((refine idPick ?_); first|refine yB ?_|refine yC ?_)|refine yL ?_)
  | ((with_reducible refine oG fun X Y=>?_); simp [go_sem,h1e,hd1]; apply Y; clear Y X)))
  exact bad
 by_cases hd2:s.g.Q ≤ dare
 ·have bad:=bad (.inr (.inr hd2))
  repeat (any_goals (first
  | (with_reducible first|refine pureM_in ?_|refine zC ?_|refine yC ?_|refine yL ?_)
  | ((with_reducible refine oG fun X Y=>?_); simp [go_sem,h1e,hd1,hd2,hc1]; apply Y; clear Y X)))
  exact bad
 rw [if_neg (by omega)] at eR
 repeat (any_goals (first
 | (with_reducible first|refine pureM_in ?_|refine zC ?_|refine yC ?_|refine yM ?_)
 | ((with_reducible refine oG fun X Y=>?_); simp [go_sem,h1e,hd1,hd2,hc1]; apply Y; clear Y X)))
 by_cases h0:e = 0
 ·subst h0
  rw [if_neg (by simp)] at eR
  have hi:i < P.items.length:=by omega
  refine ⟨fun l W=>∃ p',l.getD 0 undef = .int .i64 (keepP A P i 1 dare).1 ∧ PuR s lims w0 W p' (keepP A P i 1 dare).2.1 (keepP A P i 1 dare).2.2 ∧ PuSt p w p' W ∧ (p'.pb = p.pb ∧ p'.b = p.b),?_,?_⟩
  ·repeat (any_goals (first
   | (with_reducible refine yL ?_)
   | ((with_reducible refine oG fun X Y=>?_); simp [go_sem]; apply Y; clear Y X)))
   refine keep_ok hP1 hi 1 dare ⟨by omega,by omega⟩ hd (fun w2 p2 a b c=>?_)
   skip
   exact ⟨p2,rfl,a,(PuSt.below h1).trans b,c⟩
  ·rintro l u W ⟨p2,hl,a,b,c⟩
   rw [hl]
   by_cases he:(keepP A P i 1 dare).1 = 0
   ·rw [if_neg (by rw [he]; simp)] at eR
    rw [eR] at k
    have k:=k W p2 a b c
    repeat (any_goals (first
    | (with_reducible refine yM ?_)
    | ((with_reducible refine oG fun X Y=>?_); simp [go_sem,he]; apply Y; clear Y X)))
    exact k
   ·rw [if_pos he] at eR
    rw [eR] at k
    have k:=k W p2 a b c
    repeat (any_goals (first
    | (with_reducible refine yL ?_)
    | ((with_reducible refine oG fun X Y=>?_); simp [go_sem,he]; apply Y; clear Y X)))
    exact k
 ·rw [if_pos h0] at eR
  rw [eR] at k
  refine ⟨fun l W=>W = w1 ∧ l.getD 0 undef = .int .i64 e,?_,?_⟩
  ·repeat (any_goals (first
   | (with_reducible refine yM ?_)
   | ((with_reducible refine oG fun X Y=>?_); simp [go_sem,h0]; apply Y; clear Y X)))
   exact ⟨rfl,rfl⟩
  ·rintro l u W ⟨rfl,hl⟩
   rw [hl]
   have k:=k W p hP1 (PuSt.below h1) ⟨rfl,rfl⟩
   repeat (any_goals (first
   | (with_reducible refine yL ?_)
   | ((with_reducible refine oG fun X Y=>?_); simp [go_sem,h0]; apply Y; clear Y X)))
   exact k
theorem al_spd' (w:World):(Instr.alloc 84 true (.tuple #[])).run Tryz.prog w = .ok (.pointer (some ⟨w.heap.size,0,none⟩)) (w.alloc (.cells [.int .i64 0,.slice none 0 0].toArray 84)):=by kernel_rfl
theorem al_itm (w:World):(Instr.alloc 67 true (.tuple #[])).run Tryz.prog w = .ok (.pointer (some ⟨w.heap.size,0,none⟩)) (w.alloc (.cells itmZ.toArray 67)):=by kernel_rfl
theorem sz_itm (w:World):(sizeOf 67).run Tryz.prog w = .ok 18 w:=by kernel_rfl
theorem sz_spd' (w:World):(sizeOf 84).run Tryz.prog w = .ok 2 w:=by kernel_rfl
theorem un_spd':Tryz.prog.underlying 84 = some ((Tryz.prog.underlying 84).getD default):=by kernel_rfl
theorem spd_one' (d:Int) (ad:Option Addr) (n c:Nat):∀ u ∈ ([.int .i64 d,.slice ad n c]:List Value),u.oneCell' = true:=by
 intro u hu
 simp only [List.mem_cons,List.not_mem_nil,or_false] at hu
 rcases hu with rfl | rfl <;> rfl
@[reducible] def useI (s:Stp) (x:Itm):Spd × Bool:=useM s x.held.attrs x.held.bl x.dare
set_option maxHeartbeats 4000000 in
theorem use_ok (hP:StR s lims w p items) {i:Nat} {x:Itm} (hx:items[i]? = some x) (k:∀ w' ov,Bw w w' → Fresh w w' (fun W=>Ints W ov (useI s x).1.answers) → K (.agg #[.int .i64 (useI s x).1.dare,ov]) w') :
  callM Tryz.prog 91 #[.pointer (some ⟨p.pb,0,none⟩),.int .i64 (i:Int)] K w:=by
 apply sh_91_ok
 unfold sh_91
 refine arr_alloc al_spd' (fun g4 w1 h1 hg4 hH4=>?_)
 have hP1:=hP.next h1
 obtain ⟨g,c,av,yv,kv,hgv,hgl,hH,hI,hJ,hc⟩:=hP1.at hx
 obtain ⟨a1,n1,d1,a2,n2,d2,a3,n3,d3,rfl,rfl,rfl⟩:=hldR_slices hH
 have c6:=hP1.pur.cell 6 (by simp)
 simp only [List.getElem_cons_zero,List.getElem_cons_succ] at c6
 rw [hgv] at c6
 have hil:=(gS hx).1
 have hiZ:(i:Int) < items.length:=by omega
 iterate 4 (any_goals ((with_reducible refine oG fun X Y=>?_); simp [go_sem,c6,hiZ]; apply Y; clear Y X))
 iterate 1 (any_goals ((with_reducible refine oG fun X Y=>?_); simp [go_sem,hiZ]; apply Y; clear Y X))
 refine row_load (cs:=itmC x (.slice a1 n1 d1) (.slice a2 n2 d2) (.slice a3 n3 d3)) hc un_itm (by kernel_rfl) (by kernel_rfl) ?_
 refine arr_alloc al_itm (fun g5 w5 h5 hg5 hH5=>?_)
 refine arr_store sz_itm rfl rfl (itm_one _ _ _ _ _ _ _ _ _ _ _ _ _ _ _ _ _ _ _ _ _ _ _ _) hH5 rfl (fun w6 hg6 hH6=>?_)
 have hs1:=h1.size
 have hs5:=h5.size
 have hs6:=hg6.size
 have h16:Bw w1 w6:=h5.grown hg6 (by omega) (fun j e=>by cases e; omega)
 have hPd:=(hP1.next h16).next (.drawn (B:=w6.heap.size))
 have hH6:=hH6.next (.drawn (B:=w6.heap.size))
 have hH4:=(hH4.next h16).next (.drawn (B:=w6.heap.size))
 have hHd:=(hH.next h16).next (.drawn (B:=w6.heap.size))
 have hw:=(h1.on h16).on (.drawn (B:=w6.heap.size))
 refine ⟨Nx { w6 with drawn:=w6.drawn + 1 },bR,?_⟩
 generalize ({ w6 with drawn:=w6.drawn + 1 }:World) = W7 at hPd hH6 hH4 hHd hw ⊢
 obtain ⟨bvad,bvc,hbv⟩:=hPd.set.ints.isSlice
 have C:=hPd.pur
 unfold puC at C
 rw [hbv] at C
 have e0:∀ W0,Nx W7 W0 → W0.cell? ⟨p.pb,0,none⟩ = some (.int .i64 s.g.P) ∧ W0.cell? ⟨p.pb,1,none⟩ = some (.int .i64 s.g.Q) ∧ W0.cell? ⟨p.pb,2,none⟩ = some (.int .i64 s.g.G) ∧ W0.cell? ⟨p.pb,3,none⟩ = some (.slice bvad s.bases.length bvc) ∧ W0.cell? ⟨p.pb,4,none⟩ = some (.int .i64 s.blind):=fun W0 h=>⟨(h.cell C.lt).trans (C.cell 0 (by simp)),(h.cell C.lt).trans (C.cell 1 (by simp)),(h.cell C.lt).trans (C.cell 2 (by simp)),(h.cell C.lt).trans (C.cell 3 (by simp)),(h.cell C.lt).trans (C.cell 4 (by simp))⟩
 have e1:∀ W0,Nx W7 W0 → W0.cell? ⟨g5,2,none⟩ = some (.slice a1 n1 d1) ∧ W0.cell? ⟨g5,3,none⟩ = some (.int .i64 x.held.bl.s) ∧ W0.cell? ⟨g5,4,none⟩ = some (.int .i64 x.held.bl.u) ∧ W0.cell? ⟨g5,5,none⟩ = some (.int .i64 x.held.bl.v) ∧ W0.cell? ⟨g5,6,none⟩ = some (.slice a2 n2 d2) ∧ W0.cell? ⟨g5,15,none⟩ = some (.int .i64 x.dare):=fun W0 h=>⟨(h.cell hH6.lt).trans (hH6.cell 2 (by simp)),(h.cell hH6.lt).trans (hH6.cell 3 (by simp)),(h.cell hH6.lt).trans (hH6.cell 4 (by simp)),(h.cell hH6.lt).trans (hH6.cell 5 (by simp)),(h.cell hH6.lt).trans (hH6.cell 6 (by simp)),(h.cell hH6.lt).trans (hH6.cell 15 (by simp))⟩
 have hS:=hPd.set
 rw [hbv] at hS
 have hBl:BldR W7 x.held.bl (.slice a2 n2 d2):=⟨inR_I64 hHd.wf.s,inR_I64 hHd.wf.u,inR_I64 hHd.wf.v,hHd.ys⟩
 have h4l:=hH4.lt
 have fin:∀ (W:World) (ov:Value) (g9:Nat),Nx W7 W → W7.heap.size ≤ g9 → Holds W g9 84 [.int .i64 (useI s x).1.dare,ov] → Ints W ov (useI s x).1.answers → (∀ i,Value.inBlock ov = some i → W7.heap.size ≤ i) → Nx W7 W ∧ oM Tryz.prog (Go.Op.load 84 (.tmp 0)) 84 [.pointer (some ⟨g9,0,none⟩)] (fun v33 w=>oM Tryz.prog (Go.Op.store 84 (.tmp 0) (.tmp 1)) 0 [.pointer (some ⟨g4,0,none⟩),v33] (fun _ w=>∃ r,(do loadVar 84 (← asAddr (.pointer (some ⟨g4,0,none⟩))):Sem Value).run Tryz.prog w = .ok r w ∧ K r w) w) W:=fun W ov g9 h hg9 hH hov hovB=>by
  refine ⟨h,?_⟩
  obtain ⟨oa,oc,rfl⟩:=hov.isSlice
  refine arr_load hH un_spd' (by kernel_rfl) (by kernel_rfl) ?_
  have hg4w:g4 < W.heap.size:=lL h4l h.size
  refine arr_store sz_spd' rfl rfl (spd_one' _ _ _ _) (hH4.next h) rfl (fun w12 hg12 hH12=>?_)
  refine arr_ret hH12 un_spd' (by kernel_rfl) (by kernel_rfl) ?_
  refine k w12 _ ((hw.on h).grown hg12 (by have:=hw.size; have:=h.size; omega) (fun j e=>by cases e; exact hg4)) ?_
  have hws:=hw.size
  exact (hov.fp.fr (Fr.of_by hg12) (fun j hj=>⟨hj.2,fun e=>by have:=hovB j hj.1; omega⟩)).mono (fun j hj=>⟨by have:=hovB j hj.1; omega,by have:=hj.2; have:=hg12.size; omega⟩)
 repeat (any_goals (first
 | (with_reducible refine pX ?_)
 | ((with_reducible refine idOH ?_); first|(with_reducible refine oH_nil ?_)|(with_reducible refine oH_of ⟨_,rfl⟩ (fun W0 hW0=>by (refine oG (fun X Y=>?_)); simp [go_sem,e0 _ hW0,e1 _ hW0]; (first | exact Y _ _ ⟨rfl,rfl⟩ | exact ⟨by omega,Y _ _ ⟨rfl,rfl⟩⟩)) ?_))))
 refine ⟨?_,?_⟩
 ·refine Use_ok s x.held.bl x.dare hJ hS hHd.attrs hBl (fun w8 ov h8 hov hvB=>⟨h8,?_⟩)
  iterate 3 (any_goals (first
  | (with_reducible refine pX ?_)
  | ((with_reducible refine idOH ?_); (with_reducible refine oH_of ⟨_,rfl⟩ (fun W0 hW0=>by (refine oG (fun X Y=>?_)); simp [go_sem,e0 _ hW0]; (first | exact Y _ _ ⟨rfl,rfl⟩ | exact ⟨by omega,Y _ _ ⟨rfl,rfl⟩⟩)) ?_))))
  refine arr_alloc al_spd' (fun g9 w9 h9 hg9 hH9=>⟨h8.on h9,?_⟩)
  obtain ⟨oa,oc,rfl⟩:=hov.isSlice
  refine arr_store (xs:=[.int .i64 (useI s x).1.dare,.slice oa (useI s x).1.answers.length oc]) sz_spd' rfl rfl (spd_one' _ _ _ _) hH9 rfl (fun w10 hg10 hH10=>?_)
  have h8s:=h8.size
  have h10:=grown_below h9 hg10 hg9
  exact ⟨h8.on h10,fin w10 _ g9 (h8.on h10) (by omega) hH10 (hov.next h10) hvB⟩
 ·refine arr_alloc al_spd' (fun g9 w9 h9 hg9 hH9=>⟨h9,?_⟩)
  refine Use_ok s x.held.bl x.dare hJ (hS.next h9) (hHd.attrs.next h9) (hBl.next h9) (fun w8 ov h8 hov hvB=>⟨h9.on h8,?_⟩)
  repeat (any_goals (first
  | (with_reducible refine pX ?_)
  | ((with_reducible refine idOH ?_); (with_reducible refine oH_of ⟨_,rfl⟩ (fun W0 hW0=>by (refine oG (fun X Y=>?_)); simp [go_sem,e0 _ hW0]; (first | exact Y _ _ ⟨rfl,rfl⟩ | exact ⟨by omega,Y _ _ ⟨rfl,rfl⟩⟩)) ?_))))
  obtain ⟨oa,oc,rfl⟩:=hov.isSlice
  have h9l:=hH9.lt
  refine arr_store (xs:=[.int .i64 (useI s x).1.dare,.slice oa (useI s x).1.answers.length oc]) sz_spd' rfl rfl (spd_one' _ _ _ _) (hH9.next h8) rfl (fun w10 hg10 hH10=>?_)
  have h9s:=h9.size
  have h710:Nx W7 w10:=(h9.on h8).grown hg10 (by have:=(h9.on h8).size; omega) (fun j e=>by cases e; exact hg9)
  exact ⟨h710,fin w10 _ g9 h710 hg9 hH10 (hov.fp.fr (Fr.of_by hg10) (fun j hj=>⟨hj.2,fun e=>by have:=hvB j hj.1; omega⟩)).here (fun j hj=>by have:=hvB j hj; omega)⟩
theorem item_ok (hP:StR s lims w p items) (i:Int) (k0:(i < 0 ∨ (items.length:Int) ≤ i) → K (.tuple #[.pointer none,.bool false]) w)
  (k1:∀ g c,0 ≤ i → i < items.length → p.iv = .slice (some ⟨g,0,none⟩) items.length c → K (.tuple #[.pointer (some ⟨g,i.toNat * 18,none⟩),.bool true]) w) :
  callM Tryz.prog 107 #[.pointer (some ⟨p.pb,0,none⟩),.int .i64 i] K w:=by
 apply sh_107_ok
 unfold sh_107
 obtain ⟨iad,ic,hiv⟩:=hP.items.isSlice
 have c6:=hP.pur.cell 6 (by simp)
 simp only [List.getElem_cons_zero,List.getElem_cons_succ] at c6
 rw [hiv] at c6
 by_cases h0:i < 0
 ·have k0:=k0 (.inl h0)
  repeat (any_goals (first
  | (with_reducible first|refine zD ?_|refine yB ?_|refine yL ?_)
  | ((with_reducible refine oG fun X Y=>?_); simp [go_sem,h0]; apply Y; clear Y X)))
  exact k0
 by_cases h1:(items.length:Int) ≤ i
 ·have k0:=k0 (.inr h1)
  repeat (any_goals (first
  | (with_reducible first|refine pureM_in ?_|refine zC ?_|refine yC ?_|refine yL ?_)
  | ((with_reducible refine oG fun X Y=>?_); simp [go_sem,h0,h1,c6]; apply Y; clear Y X)))
  exact k0
 obtain ⟨g,c,av,yv,kv,hgv,_⟩:=hP.at (gE (show i.toNat < items.length by omega))
 rw [hiv] at hgv
 cases hgv
 have h0':0 ≤ i:=by omega
 have h1':i < items.length:=by omega
 have k1:=k1 g _ h0' h1' hiv
 repeat (any_goals (first
 | (with_reducible first|refine pureM_in ?_|refine zC ?_|refine yC ?_|refine yM ?_)
 | ((with_reducible refine oG fun X Y=>?_); simp [go_sem,h0,h1,h0',h1',c6]; apply Y; clear Y X)))
 exact k1
def answerI (s:Stp) (items:List Itm) (i:Int):Spd × Int:=
 if i < 0 then (⟨0,[]⟩,4)
 else match items[i.toNat]? with
  | none=>(⟨0,[]⟩,4)
  | some x=>if x.status = 1 ∨ x.status = 2 then ((useI s x).1,0) else (⟨0,[]⟩,7)
theorem Answer_ok (hP:StR s lims w p items) (i:Int) (k:∀ w' ov,Bw w w' → Fresh w w' (fun W=>Ints W ov (answerI s items i).1.answers) → K (.tuple #[.agg #[.int .i64 (answerI s items i).1.dare,ov],.int .i64 (answerI s items i).2]) w') :
  callM Tryz.prog 55 #[.pointer (some ⟨p.pb,0,none⟩),.int .i64 i] K w:=by
 apply sh_55_ok
 unfold sh_55
 refine arr_alloc al_spd' (fun g4 w1 h1 hg4 hH4=>?_)
 have hP1:=hP.next h1
 have k2:∀ r,answerI s items i = r → ∀ w' ov,Bw w w' → Fresh w w' (fun W=>Ints W ov r.1.answers) → K (.tuple #[.agg #[.int .i64 r.1.dare,ov],.int .i64 r.2]) w':=fun r e=>by rw [← e]; exact k
 unfold answerI at k2
 clear k
 have zero:∀ e,(∀ w' ov,Bw w w' → Fresh w w' (fun W=>Ints W ov []) → K (.tuple #[.agg #[.int .i64 0,ov],.int .i64 e]) w') →
   oM Tryz.prog (Go.Op.store 84 (.tmp 0) (.tmp 1)) 0 [.pointer (some ⟨g4,0,none⟩),.agg #[.int .i64 0,.slice none 0 0]] (fun _ w=>∃ r,(do loadVar 84 (← asAddr (.pointer (some ⟨g4,0,none⟩))):Sem Value).run Tryz.prog w = .ok r w ∧ K (.tuple #[r,.int .i64 e]) w) w1:=fun e k=>by
  refine arr_store sz_spd' rfl rfl (spd_one' 0 none 0 0) hH4 rfl (fun w2 hg2 hH2=>?_)
  refine arr_ret hH2 un_spd' (by kernel_rfl) (by kernel_rfl) ?_
  exact k w2 _ (h1.grown hg2 h1.size (fun j e=>by cases e; exact hg4)) (fun _ _ _ _ _ _=>Ints.nil _)
 refine item_ok hP1 i (fun hb=>?_) (fun g c h0 hl hgv=>?_)
 ·have e:(if i < 0 then ((⟨0,[]⟩:Spd),(4:Int)) else match items[i.toNat]? with
   | none=>(⟨0,[]⟩,4)
   | some x=>if x.status = 1 ∨ x.status = 2 then ((useI s x).1,0) else (⟨0,[]⟩,7)) = (⟨0,[]⟩,4):=by
   rcases hb with hb | hb
   ·rw [if_pos hb]
   ·rw [if_neg (by omega),List.getElem?_eq_none (by omega)]
  have k:=zero 4 (k2 _ e)
  repeat (any_goals (first
  | (with_reducible refine yL ?_)
  | ((with_reducible refine oG fun X Y=>?_); simp [go_sem]; apply Y; clear Y X)))
  exact k
 ·have hx:items[i.toNat]? = some items[i.toNat]:=gE (by omega)
  rw [if_neg (by omega),hx] at k2
  simp only at k2
  generalize items[i.toNat] = x at *
  obtain ⟨g',c',av,yv,kv,hgv',hgl,hH,hI,hJ,hc⟩:=hP1.at hx
  rw [hgv] at hgv'
  cases hgv'
  have c14:=hc 14 _ rfl
  by_cases hs:x.status = 1 ∨ x.status = 2
  ·rw [if_pos hs] at k2
   have k:=k2 _ rfl
   have tail:callM Tryz.prog 91 #[.pointer (some ⟨p.pb,0,none⟩),.int .i64 i] (fun v34 w=>oM Tryz.prog (Go.Op.store 84 (.tmp 0) (.tmp 1)) 0 [.pointer (some ⟨g4,0,none⟩),v34] (fun _ w=>∃ r,(do loadVar 84 (← asAddr (.pointer (some ⟨g4,0,none⟩))):Sem Value).run Tryz.prog w = .ok r w ∧ K (.tuple #[r,.int .i64 0]) w) w) w1:=by
    have ei:(i.toNat:Int) = i:=by omega
    rw [← ei]
    refine use_ok hP1 hx (fun w2 ov h2 hF=>?_)
    obtain ⟨oa,oc,rfl⟩:=hF.here.isSlice
    have h4l:=hH4.lt
    refine arr_store sz_spd' rfl rfl (spd_one' _ _ _ _) (hH4.next h2) rfl (fun w3 hg3 hH3=>?_)
    refine arr_ret hH3 un_spd' (by kernel_rfl) (by kernel_rfl) ?_
    have h12:=h1.on h2
    exact k w3 _ (h12.grown hg3 (by have:=h12.size; omega) (fun j e=>by cases e; exact hg4)) ((FP.fr hF (Fr.of_by hg3) (fun j hj=>⟨hj.2,fun e=>by omega⟩)).mono (fun j hj=>⟨by have:=h1.size; omega,by have:=hg3.size; omega⟩))
   by_cases h1s:x.status = 1
   ·repeat (any_goals (first
    | (with_reducible first|refine zB ?_|refine yC ?_|refine yM ?_)
    | ((with_reducible refine oG fun X Y=>?_); simp [go_sem,c14,h1s]; apply Y; clear Y X)))
    exact tail
   ·have h2s:x.status = 2:=hs.resolve_left h1s
    repeat (any_goals (first
    | (with_reducible first|refine pureM_in ?_|refine zA ?_|refine yB ?_|refine yM ?_)
    | ((with_reducible refine oG fun X Y=>?_); simp [go_sem,c14,h1s,h2s]; apply Y; clear Y X)))
    exact tail
  ·rw [if_neg hs] at k2
   have k:=zero 7 (k2 _ rfl)
   have h1s:¬ x.status = 1:=fun e=>hs (.inl e)
   have h2s:¬ x.status = 2:=fun e=>hs (.inr e)
   repeat (any_goals (first
   | (with_reducible first|refine pureM_in ?_|refine zA ?_|refine yB ?_|((refine idCond ?_); first|refine yL ?_|refine yM ?_))
   | ((with_reducible refine oG fun X Y=>?_); simp [go_sem,c14,h1s,h2s]; apply Y; clear Y X)))
   exact k
theorem PLeft_ok (hP:StR s lims w p items) (limit now:Int) (k:∀ w',Bw w w' → K (.int .i64 (leftM lims items limit now)) w') :
  callM Tryz.prog 27 #[.pointer (some ⟨p.pb,0,none⟩),.int .i64 limit,.int .i64 now] K w:=by
 apply sh_27_ok
 unfold sh_27
 obtain ⟨lvad,lvc,hlv⟩:=hP.lim.isSlice
 obtain ⟨ivad,ivc,hiv⟩:=hP.items.isSlice
 have C:=hP.pur
 unfold puC at C
 rw [hlv,hiv] at C
 have c5:=C.cell 5 (by simp)
 have c6:=C.cell 6 (by simp)
 simp only [List.getElem_cons_zero,List.getElem_cons_succ] at c5 c6
 have eL:leftM lims items limit now = if decide (limit < 0) || decide ((lims.length:Int) ≤ limit) || !timeB now then 0 else ((items.filter (fitsI lims limit now)).length:Int):=rfl
 rw [eL] at k
 clear eL
 by_cases hl0:limit < 0
 ·rw [if_pos (by simp [hl0])] at k
  have k:=k _ (bR)
  repeat (any_goals (first
  | (with_reducible first|refine zD ?_|refine yB ?_|refine yL ?_)
  | ((with_reducible refine oG fun X Y=>?_); simp [go_sem,hl0]; apply Y; clear Y X)))
  exact k
 by_cases hl1:(lims.length:Int) ≤ limit
 ·rw [if_pos (by simp [hl1])] at k
  have k:=k _ (bR)
  repeat (any_goals (first
  | (with_reducible first|refine pureM_in ?_|((refine idGd ?_); first|refine zC ?_|refine zD ?_)|((refine idPick ?_); first|refine yB ?_|refine yC ?_)|refine yL ?_)
  | ((with_reducible refine oG fun X Y=>?_); simp [go_sem,hl0,hl1,c5]; apply Y; clear Y X)))
  exact k
 repeat (any_goals (first
 | (with_reducible first|refine pureM_in ?_|refine zC ?_|refine yC ?_)
 | ((with_reducible refine oG fun X Y=>?_); simp [go_sem,hl0,hl1,c5]; apply Y; clear Y X)))
 refine isTime_ok now ?_
 cases ht:timeB now with
 | false=>
  rw [if_pos (by simp [ht])] at k
  have k:=k _ (bR)
  repeat (any_goals (first
  | (with_reducible first|refine zC ?_|refine yC ?_|refine yL ?_)
  | ((with_reducible refine oG fun X Y=>?_); simp [go_sem]; apply Y; clear Y X)))
  exact k
 | true=>
 rw [if_neg (by simp [hl0,hl1,ht])] at k
 repeat (any_goals (first
 | (with_reducible first|refine zC ?_|refine yC ?_|refine yM ?_)
 | ((with_reducible refine oG fun X Y=>?_); simp [go_sem,c6]; apply Y; clear Y X)))
 have hcn:=hP.cnt
 refine ⟨fun vs W=>∃ (i:Nat),vs = [.int .i64 (((items.take i).filter (fitsI lims limit now)).length:Int),.int .i64 (i:Int)] ∧ i ≤ items.length ∧ Nx w W,
  (fun vs _=>match vs with | [_,.int _ i]=>items.length - i.toNat | _=>0),⟨0,rfl,by omega,bR⟩,?_⟩
 rintro _ _ w2 ⟨i,rfl,hi,h2⟩
 by_cases hin:i = items.length
 ·subst hin
  rw [List.take_length]
  have k:=k _ h2
  repeat (any_goals (first
  | (with_reducible refine yM ?_)
  | ((with_reducible refine oG fun X Y=>?_); simp [go_sem]; apply Y; clear Y X)))
  exact k
 ·have hil:i < items.length:=by omega
  have hiZ:(i:Int) < items.length:=by omega
  have hx:=gE hil
  have hP2:=hP.next h2
  obtain ⟨g,c,av,yv,kv,hgv,hgl,hH,hI,hJ,hc⟩:=hP2.at hx
  obtain ⟨a1,n1,d1,a2,n2,d2,a3,n3,d3,rfl,rfl,rfl⟩:=hldR_slices hH
  rw [hiv] at hgv
  cases hgv
  have hfl:((items.take (i + 1)).filter (fitsI lims limit now)).length = ((items.take i).filter (fitsI lims limit now)).length + (if fitsI lims limit now items[i] then 1 else 0):=by
   rw [List.take_succ_eq_append_getElem hil,List.filter_append,List.length_append]
   cases hf:fitsI lims limit now items[i] <;> simp [hf]
  have hfb:((items.take i).filter (fitsI lims limit now)).length ≤ 400:=by
   have:=List.length_filter_le (fitsI lims limit now) (items.take i)
   rw [List.length_take] at this
   omega
  generalize items[i] = x at *
  repeat (any_goals (first
  | (with_reducible refine yL ?_)
  | ((with_reducible refine oG fun X Y=>?_); simp [go_sem,hiZ]; apply Y; clear Y X)))
  refine ⟨fun l W=>l.getD 0 undef = .int .i64 (((items.take (i + 1)).filter (fitsI lims limit now)).length:Int) ∧ Nx w W,?_,?_⟩
  ·repeat (any_goals ((with_reducible refine oG fun X Y=>?_); simp [go_sem,hiZ]; apply Y; clear Y X))
   refine row_load (cs:=itmC x (.slice a1 n1 d1) (.slice a2 n2 d2) (.slice a3 n3 d3)) hc un_itm (by kernel_rfl) (by kernel_rfl) ?_
   refine arr_alloc al_itm (fun g5 w5 h5 hg5 hH5=>?_)
   refine arr_store sz_itm rfl rfl (itm_one _ _ _ _ _ _ _ _ _ _ _ _ _ _ _ _ _ _ _ _ _ _ _ _) hH5 rfl (fun w6 hg6 hH6=>?_)
   refine arr_load hH6 un_itm (by kernel_rfl) (by kernel_rfl) ?_
   have h6:Bw w2 w6:=grown_below h5 hg6 hg5
   refine fits_ok (hP2.next h6) x (hH.next h6) now (by omega) (by omega) (fun w7 h7=>?_)
   have h27:=h2.on (h6.on h7)
   cases hf:fitsI lims limit now x with
   | false=>
    rw [hf] at hfl
    simp only [Bool.false_eq_true,if_false,Nat.add_zero] at hfl
    repeat (any_goals (with_reducible refine yM ?_))
    exact ⟨by rw [hfl]; rfl,h27⟩
   | true=>
    rw [hf] at hfl
    simp only [if_true] at hfl
    repeat (any_goals (first
    | (with_reducible refine yL ?_)
    | ((with_reducible refine oG fun X Y=>?_); simp [go_sem]; (try simp (disch:=omega) only [wrapI64,wrapU8,wrapU32,wrapU64]); apply Y; clear Y X)))
    exact ⟨by rw [hfl]; rfl,h27⟩
  ·rintro l u W ⟨hl,hW⟩
   rw [hl]
   repeat (any_goals ((with_reducible refine oG fun X Y=>?_); simp [go_sem]; (try simp (disch:=omega) only [wrapI64,wrapU8,wrapU32,wrapU64]); apply Y; clear Y X))
   exact ⟨⟨i + 1,rfl,by omega,hW⟩,by show items.length - (((i + 1:Nat):Int)).toNat < items.length - ((i:Nat):Int).toNat; omega⟩
end
abbrev SlP:=Option Addr × Nat × Nat
@[reducible] def slV (y:SlP):Value:=.slice y.1 y.2.1 y.2.2
abbrev ItP:=Itm × SlP × SlP × SlP
@[reducible] def itPc (y:ItP):List Value:=itmC y.1 (slV y.2.1) (slV y.2.2.1) (slV y.2.2.2)
@[reducible] def itPh (w:World) (y:ItP):Prop:=HldR w y.1.held (slV y.2.1) (slV y.2.2.1) (slV y.2.2.2)
section
variable {K:VK} {w w' w0 W W':World} {L:List (Addr × Value)} {rb b:Nat} {s:Stp} {lims:List Lim} {p p':Ph} {items items':List Itm} {A:Ab} {P:Pst} {h:Dk}
def SmallH (h:Hld):Prop:=h.attrs.length < 1099511627776 ∧ h.bl.ys.length < 1099511627776 ∧ h.links.length < 1000 ∧ ∀ y ∈ h.links,y.spend.answers.length < 1099511627776
theorem itm_pick (c:List Value) (x:Itm) (h:VItm w c x):∃ y:ItP,c = itPc y ∧ y.1 = x ∧ (itPh w y ∧ I64 y.1.status ∧ I64 y.1.dare):=by
 obtain ⟨av,yv,lv,rfl,h1,h2⟩:=h
 obtain ⟨a1,n1,d1,a2,n2,d2,a3,n3,d3,rfl,rfl,rfl⟩:=hldR_slices h1
 exact ⟨(x,(a1,n1,d1),(a2,n2,d2),(a3,n3,d3)),rfl,rfl,h1,h2⟩
def GIt (B:Nat) (w:World) (v:Value) (ys:List ItP):Prop:=GRow 18 67 (fun _ c y=>c = itPc y) B (fun _=>False) w v ys
theorem CloneItm_ok {v:Value} {l:List Itm} (hr:SRow 18 (AtOf 18 VItm) w v l) (hl:l.length < 1000) (k:∀ v' w' ys,ys.map (fun y:ItP=>y.1) = l → (∀ y ∈ ys,itPh w y ∧ I64 y.1.status ∧ I64 y.1.dare) → GIt w.heap.size w' v' ys → Bw w w' → K v' w'):callM Tryz.prog 70 #[v] K w:=by
 apply sh_70_ok
 unfold sh_70
 obtain ⟨ad,c,rfl⟩:=hr.isSlice
 refine eqNil_at (e:=67) (by kernel_rfl) ?_
 cases ad with
 | none=>
  have:l = []:=by
   obtain ⟨⟨a',c',hv,h⟩,_⟩:=hr
   cases hv
   rcases h with h | ⟨b,o,hb,_⟩
   ·exact h
   ·cases hb
  subst this
  simp only [Option.isNone_none]
  repeat (any_goals (with_reducible refine yL ?_))
  exact k _ _ [] rfl (fun _ h=>by cases h) .nil (bR)
 | some a=>
  simp only [Option.isNone_some]
  obtain ⟨ys,rfl,hq,hi⟩:=hr.rowR (mk:=itPc) (f:=fun y:ItP=>y.1) (Q:=fun w y=>itPh w y ∧ I64 y.1.status ∧ I64 y.1.dare) (fun _=>rfl) (fun c x h=>itm_pick c x h)
  repeat (any_goals (first
  | (with_reducible refine yM ?_)
  | ((with_reducible refine oG fun Kv hK=>?_); simp [go_sem]; apply hK; clear hK Kv)))
  have hr2:RowR itPc 18 (w.alloc (.cells #[] 67)) _ ys:=hi.keep (by rw [alloc_size]; omega) (fun i _ hi=>heap_alloc_old _ _ hi)
  rw [List.length_map] at hl hr2 ⊢
  refine clone_at 59 59 67 ((Tryz.prog.info? 67).getD default) (.agg itmZ.toArray) 18 184 (by kernel_rfl) (by kernel_rfl) (by kernel_rfl) (by kernel_rfl) (by kernel_rfl) (by kernel_rfl) (by omega) (fun _=>rfl) (fun x=>itm_one _ _ _ _ _ _ _ _ _ _ _ _ _ _ _ _ _ _ _ _ _ _ _ _) hr2 (World.ownsRow_lit w #[] 0 (Nat.zero_le _) (Nat.zero_le _) rfl) (B:=w.heap.size) (by rw [alloc_size]; omega) (fun i hi=>by cases hi; exact rL) (by omega) (by omega) ?_
  intro v' w' ho hg hv
  refine k v' w' ys rfl hq (own_grow (fun _=>rfl) (owns_up ho hv)) ?_
  exact grown_below ((Below.refl _ w).alloc (rL) _) hg (rL)
set_option maxHeartbeats 2000000 in
theorem Items_own (hP:StR s lims w p items) (hsm:∀ x ∈ items,SmallH x.held) (k:∀ w' v B,Bw w w' → GRow 18 67 VItm w.heap.size (fun j=>B ≤ j ∧ j < w'.heap.size) w' v items → w.heap.size ≤ B → (∀ j,v.ownBlock = some j → w.heap.size ≤ j ∧ j < B) → K v w') :
  callM Tryz.prog 26 #[.pointer (some ⟨p.pb,0,none⟩)] K w:=by
 apply sh_26_ok
 unfold sh_26
 obtain ⟨ivad,ivc,hiv⟩:=hP.items.isSlice
 have c6:=hP.pur.cell 6 (by simp)
 simp only [List.getElem_cons_zero,List.getElem_cons_succ] at c6
 rw [hiv] at c6
 have hcn:=hP.cnt
 repeat (any_goals ((with_reducible refine oG fun Kv hK=>?_); simp [go_sem,c6]; apply hK; clear hK Kv))
 have hit:=hP.items
 rw [hiv] at hit
 refine CloneItm_ok hit (by omega) (fun v w1 ys he hq hG h1=>?_)
 have hyl:ys.length = items.length:=by rw [← he,List.length_map]
 have hGo:∀ i,v.ownBlock = some i → w.heap.size ≤ i ∧ i < w1.heap.size:=fun i hi=>by have:=GRow.own hG hi; omega
 obtain ⟨d3,e3,hv3⟩:∃ ad c,v = .slice ad ys.length c:=GRow.isSlice hG
 rw [hyl] at hv3
 subst hv3
 repeat (any_goals ((with_reducible refine oG fun Kv hK=>?_); simp [go_sem]; apply hK; clear hK Kv))
 generalize hv3:Value.slice d3 items.length e3 = v3 at *
 refine ⟨fun vs W=>∃ (u:Value) (i:Nat) (zs:List ItP),vs = [u,.int .i64 (i:Int)] ∧ i ≤ items.length ∧ GIt w.heap.size W v3 zs ∧ zs.map (fun y:ItP=>y.1) = items ∧ zs.drop i = ys.drop i ∧ Fr (fun j=>v3.ownBlock = some j) w1 W ∧ (∀ y ∈ zs.take i,FP (fun j=>w1.heap.size ≤ j ∧ j < W.heap.size) W (fun W=>itPh W y)),
  (fun vs _=>match vs with | [_,.int _ i]=>items.length - i.toNat | _=>0),⟨_,0,ys,rfl,by omega,hG,he,rfl,Fr.refl _ _,by simp⟩,?_⟩
 rintro _ _ w2 ⟨u,i,zs,rfl,hi,hGz,hz,hd,f2,hfz⟩
 have hs1:=h1.size
 have hs2:=f2.size
 have hzl:zs.length = items.length:=by rw [← hz,List.length_map]
 have hb02:Bw w w2:=⟨f2.os.trans h1.os,f2.tape.trans h1.tape,f2.output.trans h1.output,by omega,fun i hi=>(f2.block i (by omega) (fun e=>by have:=hGo _ e; omega)).trans (h1.block i hi)⟩
 have hwI:∀ y ∈ zs,I64 y.1.status ∧ I64 y.1.dare:=fun y hy=>by
  have:y.1 ∈ items:=by rw [← hz]; exact List.mem_map_of_mem hy
  rw [← he] at this
  obtain ⟨y2,hy2,e⟩:=List.mem_map.1 this
  rw [← e]
  exact (hq y2 hy2).2
 by_cases hin:i = items.length
 ·subst hin
  rw [← hzl,List.take_length] at hfz
  have p3:FP (fun j=>w1.heap.size ≤ j ∧ j < w2.heap.size) w2 (fun W=>∀ y ∈ zs,VItm W (itPc y) y.1):=fun w' a b c d e y hy=>⟨_,_,_,rfl,hfz y hy w' a b c d e,hwI y hy⟩
  have hGl:=GRow.conv (V:=VItm) (f:=fun y:ItP=>y.1) hGz p3
  rw [hz] at hGl
  have k:=k w2 v3 w1.heap.size hb02 hGl hs1 hGo
  repeat (any_goals (first
  | (with_reducible refine yM ?_)
  | ((with_reducible refine oG fun Kv hK=>?_); simp [go_sem]; apply hK; clear hK Kv)))
  exact k
 ·have hil:i < items.length:=by omega
  have hiZ:(i:Int) < items.length:=by omega
  have hzi:i < zs.length:=by omega
  have hyi:i < ys.length:=by omega
  have ezy:zs[i] = ys[i]:=by
   have:=congrArg (fun l=>l[0]?) hd
   simp only [List.getElem?_drop,Nat.add_zero] at this
   rw [gE hzi,gE hyi] at this
   exact oI this
  have hq0:=(hq ys[i] (List.getElem_mem hyi)).1
  rw [← ezy] at hq0
  obtain ⟨g,c,cs,hvg,hgl,hgB,hcl,hcc,hVc⟩:=GRow.elem hGz (gE hzi)
  have hcs:=hVc.here
  subst hcs
  rw [hzl] at hvg
  subst hvg
  have hgw:=(hGo g rfl).2
  repeat (any_goals (first
  | (with_reducible refine yL ?_)
  | ((with_reducible refine oG fun Kv hK=>?_); simp [go_sem,hiZ]; apply hK; clear hK Kv)))
  refine row_load hcc un_itm (by kernel_rfl) (by kernel_rfl) ?_
  refine arr_alloc al_itm (fun g5 w5 h5 hg5 hH5=>?_)
  have hH5l:=hH5.lt
  refine arr_store (xs:=itPc zs[i]) sz_itm rfl rfl (itm_one _ _ _ _ _ _ _ _ _ _ _ _ _ _ _ _ _ _ _ _ _ _ _ _) hH5 rfl (fun w6 hg6 hH6=>?_)
  have hs5:=h5.size
  have hs6:=hg6.size
  have h26:Bw w2 w6:=grown_below h5 hg6 hg5
  iterate 1 (any_goals ((with_reducible refine oG fun Kv hK=>?_); simp [go_sem]; apply hK; clear hK Kv))
  refine row_load (cs:=hldC zs[i].1.held (slV zs[i].2.1) (slV zs[i].2.2.1) (slV zs[i].2.2.2)) (p:=0) (fun j u hj=>?_) un_hld (by kernel_rfl) (by kernel_rfl) ?_
  ·have hj2:(itPc zs[i])[j]? = some u:=by
    have hjl:=(gS hj).1
    have:itPc zs[i] = hldC zs[i].1.held (slV zs[i].2.1) (slV zs[i].2.2.1) (slV zs[i].2.2.2) ++ [.int .i64 zs[i].1.status,.int .i64 zs[i].1.dare,.bool zs[i].1.lent,.bool zs[i].1.back]:=rfl
    rw [this,List.getElem?_append_left hjl]
    exact hj
   obtain ⟨hj3,rfl⟩:=gS hj2
   rw [Nat.zero_add]
   exact hH6.cell j hj3
  have hsx:=hsm zs[i].1 (by rw [← hz]; exact List.mem_map_of_mem (List.getElem_mem hzi))
  refine fresh_ok zs[i].1.held (hq0.next (hb02.on h26)) hsx.1 hsx.2.1 hsx.2.2.1 hsx.2.2.2 (fun w7 av' yv' kv' h7 hF=>?_)
  obtain ⟨a1,n1,d1,a2,n2,d2,a3,n3,d4,rfl,rfl,rfl⟩:=hldR_slices hF.here
  have h27:=h26.on h7
  have hs7:=h7.size
  have hG7:GIt w.heap.size w7 _ zs:=GRow.next hGz h27 (fun _ h=>h.elim)
  unfold GIt at hG7
  rw [← hzl] at hG7
  repeat (any_goals ((with_reducible refine oG fun Kv hK=>?_); simp [go_sem,hiZ]; apply hK; clear hK Kv))
  have hx0:=gE hzi
  generalize hY:((zs[i].1,(a1,n1,d1),(a2,n2,d2),(a3,n3,d4)):ItP) = Y
  have hYc:itPc Y = itmC zs[i].1 (.slice a1 n1 d1) (.slice a2 n2 d2) (.slice a3 n3 d4):=by rw [← hY]
  have hYh:itPh w7 Y ∧ Y.1 = zs[i].1:=by rw [← hY]; exact ⟨hF.here,rfl⟩
  refine GRow.put (n:=18) (off:=0) (m:=14) (i:=i) (xs:=hldC zs[i].1.held (.slice a1 n1 d1) (.slice a2 n2 d2) (.slice a3 n3 d4)) (y:=Y) hG7 hx0 (by omega) sz_hld rfl rfl (hld_one _ _ _ _ _ _ _ _ _ _ _ _ _ _ _ _ _ _ _ _) (fun _ h=>h.elim) (fun cs _ _ h=>h.imp (fun W e=>by subst e; rw [hYc]; rfl)) (fun w8 hg8 hG8=>?_)
  have hs8:=hg8.size
  have f8:Fr (fun j=>j = g) w2 w8:=(Fr.of_below h27).trans (Fr.of_by hg8) (fun j hj=>.inl hj)
  repeat (any_goals ((with_reducible refine oG fun Kv hK=>?_); simp [go_sem]; (try simp (disch:=omega) only [wrapI64,wrapU8,wrapU32,wrapU64]); apply hK; clear hK Kv))
  refine ⟨⟨_,i + 1,zs.set i Y,rfl,by omega,by rw [← hzl]; exact hG8,?_,?_,f2.trans f8 (fun j hj=>.inl (by subst hj; rfl)),?_⟩,by show items.length - (((i + 1:Nat):Int)).toNat < items.length - ((i:Nat):Int).toNat; omega⟩
  ·rw [List.map_set,← hz,hYh.2]
   have:(zs.map (fun y:ItP=>y.1))[i]'(by rw [List.length_map]; exact hzi) = zs[i].1:=List.getElem_map _
   rw [← this]
   exact List.set_getElem_self _
  ·rw [List.drop_set_of_lt (by omega)]
   have:=congrArg (fun l=>l.drop 1) hd
   simpa [List.drop_drop] using this
  ·intro y hy
   rw [List.take_set,List.take_succ_eq_append_getElem hzi,List.set_append_right _ _ (by simp; omega)] at hy
   have e0:i - (zs.take i).length = 0:=by rw [List.length_take]; omega
   rw [e0] at hy
   rcases List.mem_append.1 hy with hy | hy
   ·exact ((hfz y hy).fr f8 (fun j hj=>⟨hj.2,fun e=>by omega⟩)).mono (fun j hj=>⟨hj.1,by omega⟩)
   ·simp only [List.set_cons_zero,List.mem_singleton] at hy
    subst hy
    have p0:FP (fun j=>w6.heap.size ≤ j ∧ j < w7.heap.size) w7 (fun W=>itPh W y):=by rw [← hY]; exact hF
    exact (p0.fr (Fr.of_by hg8) (fun j hj=>⟨hj.2,fun e=>by omega⟩)).mono (fun j hj=>⟨by omega,by omega⟩)
theorem Items_ok (hP:StR s lims w p items) (hsm:∀ x ∈ items,SmallH x.held) (k:∀ w' v,Bw w w' → Fresh w w' (fun W=>SRow 18 (AtOf 18 VItm) W v items) → K v w') :
  callM Tryz.prog 26 #[.pointer (some ⟨p.pb,0,none⟩)] K w:=
 Items_own hP hsm fun w' v B hb hG hB ho=>k w' v hb ((hG.fp (by omega) (by have:=hP.cnt; omega)).mono (fun j hj=>by
  rcases hj with hj | hj
  ·omega
  ·have:=ho j hj; have:=(hG.own hj).1; omega))
end
end Go.Proofs
namespace Go.Proofs
open Go.Sh Tryz
variable {a0 a1:Value} {K:VK} {w:World}
def sh_51 (K:VK) (w:World):Prop:=
 oM prog (.build 41 #[(0,(.tmp 0)),(1,(.tmp 1)),(2,(.tmp 2))]) 41 [(.int .i64 1),(.int .i64 1440),(.int .i64 (-1))] (fun v1=>
 oM prog (.build 41 #[(0,(.tmp 0)),(2,(.tmp 1))]) 41 [(.int .i64 2),(.int .i64 (-1))] fun v2=>
 oM prog (.buildSlice 51 2 #[(0,(.tmp 0)),(1,(.tmp 1))]) 51 [v1,v2] fun v3=>
 K v3) w
theorem sh_51_ok (h:sh_51 K w):callM prog 51 #[] K w:=
 cZ (fun _=>0) func51 h
def sh_52 (K:VK) (w:World):Prop:=
 kA 50 (fun v0=>
 oM prog (.build 48 #[(0,(.tmp 0)),(1,(.tmp 1)),(2,(.tmp 2))]) 48 [(.int .i64 23),(.int .i64 11),(.int .i64 4)] fun v1=>
 oM prog (.buildSlice 22 2 #[(0,(.tmp 0)),(1,(.tmp 1))]) 22 [(.int .i64 4),(.int .i64 9)] fun v2=>
 oM prog (.build 50 #[(0,(.tmp 0)),(1,(.tmp 1)),(2,(.tmp 2))]) 50 [v1,v2,(.int .i64 13)] fun v3=>
 kS 50 v0 v3 fun _=>
 kR 50 v0 K) w
theorem sh_52_ok (h:sh_52 K w):callM prog 52 #[] K w:=
 cZ (fun _=>0) func52 h
def sh_54 (a0 a1:Value) (K:VK) (w:World):Prop:=
 kA 29 (fun v4=>
 oM prog (.buildSlice 22 1 #[(0,(.tmp 0))]) 22 [(.int .i64 3)] fun v8=>
 oM prog (.build 29 #[(0,(.tmp 0)),(1,(.tmp 1)),(2,(.tmp 2))]) 29 [a0,a1,v8] fun v9=>
 kA 29 fun v5=>
 kS 29 v5 v9 fun _=>
 oM prog (.buildSlice 22 2 #[(0,(.tmp 0)),(1,(.tmp 1))]) 22 [(.int .i64 1),(.int .i64 5)] fun v10=>
 oM prog (.build 24 #[(0,(.tmp 0)),(1,(.tmp 1)),(3,(.tmp 2))]) 24 [(.int .i64 2),(.int .i64 1),v10] fun v11=>
 kF 29 3 v5 fun v12=>
 kS 24 v12 v11 fun _=>
 kB .mul 3 3 (.int .i64 10) a0 fun v14=>
 kB .add 3 3 v14 a1 fun v16=>
 oM prog (.build 26 #[(0,(.tmp 0)),(1,(.tmp 1)),(2,(.tmp 2)),(3,(.tmp 3)),(4,(.tmp 4)),(5,(.tmp 5))]) 26 [(.int .i64 2),(.int .i64 9),(.int .i64 1),(.int .i64 1),(.int .i64 1),v16] fun v17=>
 kF 29 4 v5 fun v18=>
 kS 26 v18 v17 fun _=>
 kL 29 v5 fun v19=>
 kS 29 v4 v19 fun _=>
 kR 29 v4 K) w
theorem sh_54_ok (h:sh_54 a0 a1 K w):callM prog 54 #[a0,a1] K w:=
 cZ (fun _=>0) func54 h
def sh_56 (a0 a1:Value) (K:VK) (w:World):Prop:=
 kN 22 a0 (fun v7=>
 kN 22 a1 fun v9=>
 kB .neq 3 4 v7 v9 fun v10=>
 kO v10 (K (.bool false))
 (kQ [(.bool false),(.int .i64 0)] fun J_4 m_5 l_6 u_l_6 w0_l_6=>(fun w=>(
 kN 22 a0 (fun v13=>
 kB .lss 3 4 (l_6.getD 1 undef) v13 fun v14=>
 kO v14 (kH fun C_9 w=>(((true:Bool) = true) ∧ (pureH a0 C_9 fun v17=>
 pureH (l_6.getD 1 undef) C_9 fun v18=>
 jI 22 v17 v18 C_9 fun v19=>
 jL 3 v19 C_9 fun v20=>
 pureH a1 C_9 fun v21=>
 pureH (l_6.getD 1 undef) C_9 fun v22=>
 jI 22 v21 v22 C_9 fun v23=>
 jL 3 v23 C_9 fun v24=>
 jB .neq 3 4 v20 v24 C_9 fun v25=>
 ∃ S_19:World → WK,∀ w,C_9 w → (kO v25 (K (.bool false))
 (kB .add 3 3 (l_6.getD 1 undef) (.int .i64 1) fun v16=>
 kJ J_4 m_5 l_6 w0_l_6 [(l_6.getD 0 undef),v16]) w))))
 (K (.bool true))) w)) w0_l_6)) w
theorem sh_56_ok (h:sh_56 a0 a1 K w):callM prog 56 #[a0,a1] K w:=
 cZ (fun _=>(fz 9 0 0)) func56 h
def sh_12 (K:VK) (w:World):Prop:=
 callM prog 51 #[] (fun v18=>
 kI 51 v18 (.int .i64 0) fun v20=>
 kL 41 v20 fun v21=>
 callM prog 20 #[v21,(.int .i64 2900)] fun v22=>
 kC .eql 3 2 4 v22 fun v23 w=>
 gT v23 (pureM v18) (fun v25 w=>
 gT v23 (kI 51 v25 (.int .i64 0)) (fun v26 w=>
 gT v23 (kL 41 v26) (fun v27 w=>
 gT v23 (callM prog 21 #[v27,(.int .i64 2)]) (fun v28 w=>
 gT v23 (kC .eql 3 2880 4 v28) (fun v29=>
 kP v23 v29 (.bool false) fun v30 w=>
 gT v30 (pureM v18) (fun v32 w=>
 gT v30 (kI 51 v32 (.int .i64 1)) (fun v33 w=>
 gT v30 (kL 41 v33) (fun v34 w=>
 gT v30 (callM prog 20 #[v34,(.int .i64 2900)]) (fun v35 w=>
 gT v30 (kC .eql 3 0 4 v35) (fun v36=>
 kP v30 v36 (.bool false) fun v37 w=>
 gT v37 (callM prog 17 #[(.int .i64 100),(.string ⟨#[112,111,111,108]⟩)]) (fun v39 w=>
 gT v37 (oM prog (.binOp .eql 9 (.tmp 0) (.const (.string ⟨#[49,48,48,59,52,58,112,111,111,108,44]⟩)) 9) 4 [v39]) (fun v40=>
 kP v37 v40 (.bool false) fun v41=>
 callM prog 35 #[] fun v42=>
 oM prog (.binOp .eql 55 (.tmp 0) (.const (.pointer none)) 55) 4 [v42] fun v44 w=>
 gF v44 (pureM v41) (fun v46 w=>
 gF v44 (kU v46) (fun v47=>
 kP v44 (.bool true) v47 fun v48 w=>
 gF v48 (callM prog 22 #[(.string ⟨#[57,48,59,52,58,112,111,111,108,44]⟩),(.string ⟨#[49,48,48,59,48,58,44]⟩)]) (fun v50 w=>
 gF v48 (kU v50) (fun v51=>
 kP v48 (.bool true) v51 fun v52 w=>
 gF v52 (callM prog 22 #[(.string ⟨#[49,49,48,59,52,58,112,111,111,108,44]⟩),(.string ⟨#[49,48,48,59,48,58,44]⟩)]) (fun v54=>
 kP v52 (.bool true) v54 fun v55=>
 kO v55 (K (.bool false))
 (callM prog 52 #[] fun v58=>
 callM prog 34 #[v42,v58,v18] fun v60=>
 kE 0 56 v60 fun v61=>
 kE 1 62 v60 fun v62=>
 oM prog (.binOp .eql 56 (.tmp 0) (.const (.pointer none)) 56) 4 [v61] fun v64 w=>
 gF v64 (pureM v62) (fun v66 w=>
 gF v64 (kC .neq 62 0 4 v66) (fun v67=>
 kP v64 (.bool true) v67 fun v68=>
 kO v68 (K (.bool false))
 (callM prog 54 #[(.int .i64 0),(.int .i64 2)] fun v70=>
 callM prog 53 #[v61,v70] fun v71=>
 callM prog 28 #[v61,(.int .i64 0),(.int .i64 2900),(.int .i64 5)] fun v74=>
 kE 0 3 v74 fun v75=>
 kE 1 62 v74 fun v76=>
 callM prog 28 #[v61,(.int .i64 0),(.int .i64 2901),(.int .i64 6)] fun v79=>
 kE 0 3 v79 fun v80=>
 kE 1 62 v79 fun v81=>
 callM prog 55 #[v61,(.int .i64 0)] fun v84=>
 kE 0 84 v84 fun v85=>
 kE 1 62 v84 fun v86=>
 kA 84 fun v11=>
 kS 84 v11 v85 fun _=>
 kC .neq 62 0 4 v71 fun v88 w=>
 gF v88 (pureM v75) (fun v90 w=>
 gF v88 (kC .neq 3 0 4 v90) (fun v91=>
 kP v88 (.bool true) v91 fun v92 w=>
 gF v92 (pureM v76) (fun v94 w=>
 gF v92 (kC .neq 62 0 4 v94) (fun v95=>
 kP v92 (.bool true) v95 fun v96 w=>
 gF v96 (pureM v81) (fun v98 w=>
 gF v96 (kC .neq 62 15 4 v98) (fun v99=>
 kP v96 (.bool true) v99 fun v100 w=>
 gF v100 (pureM v61) (fun v102 w=>
 gF v100 (callM prog 27 #[v102,(.int .i64 0),(.int .i64 2900)]) (fun v103 w=>
 gF v100 (kC .neq 3 0 4 v103) (fun v104=>
 kP v100 (.bool true) v104 fun v105 w=>
 gF v105 (pureM v86) (fun v107 w=>
 gF v105 (kC .neq 62 0 4 v107) (fun v108=>
 kP v105 (.bool true) v108 fun v109 w=>
 gF v109 (kF 84 1 v11) (fun v111 w=>
 gF v109 (kL 22 v111) (fun v112 w=>
 gF v109 (oM prog (.buildSlice 22 2 #[(0,(.tmp 0)),(1,(.tmp 1))]) 22 [(.int .i64 0),(.int .i64 2)]) (fun v113 w=>
 gF v109 (callM prog 56 #[v112,v113]) (fun v114 w=>
 gF v109 (kU v114) (fun v115=>
 kP v109 (.bool true) v115 fun v116=>
 kO v116 (K (.bool false))
 (callM prog 32 #[v42,(.slice none 0 0)] fun v118=>
 callM prog 33 #[v42] fun v120=>
 callM prog 52 #[] fun v123=>
 callM prog 34 #[v42,v123,v18] fun v125=>
 kE 0 56 v125 fun v126=>
 kE 1 62 v125 fun v127=>
 oM prog (.binOp .eql 56 (.tmp 0) (.const (.pointer none)) 56) 4 [v126] fun v129 w=>
 gF v129 (pureM v127) (fun v131 w=>
 gF v129 (kC .neq 62 0 4 v131) (fun v132=>
 kP v129 (.bool true) v132 fun v133=>
 kO v133 (K (.bool false))
 (callM prog 55 #[v126,(.int .i64 0)] fun v136=>
 kE 0 84 v136 fun v137=>
 kE 1 62 v136 fun v138=>
 kA 84 fun v15=>
 kS 84 v15 v137 fun _=>
 callM prog 26 #[v126] fun v140=>
 kC .eql 62 7 4 v138 fun v142 w=>
 gT v142 (pureM v140) (fun v144 w=>
 gT v142 (kN 59 v144) (fun v145 w=>
 gT v142 (kC .eql 3 1 4 v145) (fun v146=>
 kP v142 v146 (.bool false) fun v147 w=>
 gT v147 (pureM v140) (fun v149 w=>
 gT v147 (kI 59 v149 (.int .i64 0)) (fun v150 w=>
 gT v147 (kF 67 1 v150) (fun v151 w=>
 gT v147 (kL 3 v151) (fun v152 w=>
 gT v147 (kC .eql 3 3 4 v152) (fun v153=>
 kP v147 v153 (.bool false) fun v154 w=>
 gT v154 (pureM v140) (fun v156 w=>
 gT v154 (kI 59 v156 (.int .i64 0)) (fun v157 w=>
 gT v154 (kF 67 2 v157) (fun v158 w=>
 gT v154 (kL 3 v158) (fun v159 w=>
 gT v154 (kC .eql 3 5 4 v159) (fun v160=>
 kP v154 v160 (.bool false) fun v161=>
 K v161) w) w) w) w) w) w) w) w) w) w) w) w) w)) w) w)) w) w) w) w) w) w) w) w) w) w) w) w) w) w) w) w)) w) w)) w) w) w) w) w) w) w) w) w) w) w) w) w) w) w) w) w) w
theorem sh_12_ok (h:sh_12 K w):callM prog 12 #[] K w:=
 cZ (fun _=>0) func12 h
end Go.Proofs
namespace Go.Proofs
open Go Go.Sh Go.RowKit FdSpec TkSpec CodeSpec PuSpec DkSpec JnSpec
section
variable {K:VK} {w w' w0 W W':World} {L:List (Addr × Value)} {rb b:Nat}
theorem build_lim3 (T:TypeId) (a b c:Int):oM Tryz.prog (Go.Op.build 41 #[(0,(.tmp 0)),(1,(.tmp 1)),(2,(.tmp 2))]) T [.int .i64 a,.int .i64 b,.int .i64 c] = pureM (limV ⟨a,b,c⟩):=by
 funext K w
 kernel_rfl
theorem build_lim2 (T:TypeId) (a c:Int):oM Tryz.prog (Go.Op.build 41 #[(0,(.tmp 0)),(2,(.tmp 1))]) T [.int .i64 a,.int .i64 c] = pureM (limV ⟨a,0,c⟩):=by
 funext K w
 kernel_rfl
theorem mk2l {T:TypeId} (x y:Lim) (hx:I64 x.count ∧ I64 x.length ∧ I64 x.gate) (hy:I64 y.count ∧ I64 y.length ∧ I64 y.gate) (k:∀ v W,Bw w W → Fresh w W (fun W=>LimR W v [x,y]) → K v W) :
  oM Tryz.prog (.buildSlice 51 2 #[(0,.tmp 0),(1,.tmp 1)]) T [limV x,limV y] K w:=by
 rw [oM_buildSlice2]
 refine lit_run (e:=41) (n:=2) (xs:=limC x ++ limC y) (by kernel_rfl) (fun g W h hg hH=>k _ W h ?_)
 exact (hH.fresh hg).imp (fun W hW=>srow_lit2 hW rfl rfl ⟨rfl,hx⟩ ⟨rfl,hy⟩)
theorem limits_ok (k:∀ w' v,Bw w w' → Fresh w w' (fun W=>LimR W v exL) → K v w'):callM Tryz.prog 51 #[] K w:=by
 apply sh_51_ok
 unfold sh_51
 rw [build_lim3]
 show oM _ _ _ _ _ _
 rw [build_lim2]
 show oM _ _ _ _ _ _
 refine mk2l _ _ ⟨by constructor <;> decide,by constructor <;> decide,by constructor <;> decide⟩ ⟨by constructor <;> decide,by constructor <;> decide,by constructor <;> decide⟩ (fun v W h hF=>k W v h hF)
theorem mkF2 {T:TypeId} (x y:Int) (hx:I64 x) (hy:I64 y) (k:∀ ad c W,Bw w W → Fresh w W (fun W=>Ints W (.slice ad 2 c) [x,y]) → K (.slice ad 2 c) W):oM Tryz.prog (.buildSlice 22 2 #[(0,.tmp 0),(1,.tmp 1)]) T [.int .i64 x,.int .i64 y] K w:=by
 rw [oM_buildSlice2]
 have e:(Instr.buildSlice 22 2 #[(0,.int .i64 x),(1,.int .i64 y)]).run Tryz.prog w = .ok (.slice (some ⟨w.heap.size,0,none⟩) 2 2) (w.alloc (.cells #[.int .i64 x,.int .i64 y] 3)):=by kernel_rfl
 rw [e]
 exact k _ _ _ ((Below.refl _ w).alloc (rL) _) ((ints_alloc w [x,y] _ 2 (by simp; exact ⟨hx,hy⟩) (by simp)).fresh (fun i hi=>by cases hi; exact rL))
theorem sz_stp (w:World):(sizeOf 50).run Tryz.prog w = .ok 5 w:=by kernel_rfl
theorem al_stp (w:World):(Instr.alloc 50 true (.tuple #[])).run Tryz.prog w = .ok (.pointer (some ⟨w.heap.size,0,none⟩)) (w.alloc (.cells [.int .i64 0,.int .i64 0,.int .i64 0,.slice none 0 0,.int .i64 0].toArray 50)):=by kernel_rfl
theorem un_stp:Tryz.prog.underlying 50 = some ((Tryz.prog.underlying 50).getD default):=by kernel_rfl
theorem stp_one7 (a b c e:Int) (ad:Option Addr) (n m:Nat):∀ u ∈ ([.int .i64 a,.int .i64 b,.int .i64 c,.slice ad n m,.int .i64 e]:List Value),u.oneCell' = true:=by
 intro u hu
 simp only [List.mem_cons,List.not_mem_nil,or_false] at hu
 rcases hu with rfl | rfl | rfl | rfl | rfl <;> rfl
theorem setup_ok (k:∀ w' v,Bw w w' → Fresh w w' (fun W=>Ints W v exS.bases) → K (stpV exS v) w'):callM Tryz.prog 52 #[] K w:=by
 apply sh_52_ok
 unfold sh_52
 refine arr_alloc al_stp (fun g1 w1 h1 hg1 hH1=>?_)
 iterate 1 (any_goals ((with_reducible refine oG fun X Y=>?_); simp [go_sem]; apply Y; clear Y X))
 refine mkF2 4 9 (by constructor <;> decide) (by constructor <;> decide) (fun ad c w2 h2 hF=>?_)
 iterate 1 (any_goals ((with_reducible refine oG fun X Y=>?_); simp [go_sem]; apply Y; clear Y X))
 have hg1l:=hH1.lt
 refine arr_store (xs:=stpC exS (.slice ad 2 c)) sz_stp rfl rfl (stp_one7 _ _ _ _ _ _ _) (hH1.next h2) rfl (fun w3 hg3 hH3=>?_)
 refine arr_ret hH3 un_stp (by kernel_rfl) (by kernel_rfl) ?_
 have hs1:=h1.size
 have hs3:=hg3.size
 exact k w3 _ ((h1.on h2).grown hg3 (by have:=h2.size; omega) (fun j e=>by cases e; exact hg1)) ((FP.fr hF (Fr.of_by hg3) (fun j hj=>⟨hj.2,fun e=>by omega⟩)).mono (fun j hj=>⟨by omega,by omega⟩))
theorem mkF1 {T:TypeId} (x:Int) (hx:I64 x) (k:∀ ad c W,Bw w W → Fresh w W (fun W=>Ints W (.slice ad 1 c) [x]) → K (.slice ad 1 c) W):oM Tryz.prog (.buildSlice 22 1 #[(0,.tmp 0)]) T [.int .i64 x] K w:=by
 rw [oM_buildSlice1]
 have e:(Instr.buildSlice 22 1 #[(0,.int .i64 x)]).run Tryz.prog w = .ok (.slice (some ⟨w.heap.size,0,none⟩) 1 1) (w.alloc (.cells #[.int .i64 x] 3)):=by kernel_rfl
 rw [e]
 exact k _ _ _ ((Below.refl _ w).alloc (rL) _) ((ints_alloc w [x] _ 1 (by simpa using hx) (by simp)).fresh (fun i hi=>by cases hi; exact rL))
theorem build_hld3 (T:TypeId) (a b:Int) (ad:Option Addr) (n c:Nat):oM Tryz.prog (Go.Op.build 29 #[(0,(.tmp 0)),(1,(.tmp 1)),(2,(.tmp 2))]) T [.int .i64 a,.int .i64 b,.slice ad n c] = pureM (.agg #[.int .i64 a,.int .i64 b,.slice ad n c,.int .i64 0,.int .i64 0,.int .i64 0,.slice none 0 0,.int .i64 0,.int .i64 0,.int .i64 0,.int .i64 0,.int .i64 0,.int .i64 0,.slice none 0 0]):=by
 funext K w
 kernel_rfl
theorem build_bld3 (T:TypeId) (a b:Int) (ad:Option Addr) (n c:Nat):oM Tryz.prog (Go.Op.build 24 #[(0,(.tmp 0)),(1,(.tmp 1)),(3,(.tmp 2))]) T [.int .i64 a,.int .i64 b,.slice ad n c] = pureM (.agg #[.int .i64 a,.int .i64 b,.int .i64 0,.slice ad n c]):=by
 funext K w
 kernel_rfl
theorem exH_wf:WHld exH:=by
 have r:∀ n:Int,-100 ≤ n ∧ n ≤ 100 → InR n:=fun n h=>by unfold InR; omega
 refine ⟨r _ (by decide),r _ (by decide),fun v hv=>r _ ?_,by decide,r _ (by decide),r _ (by decide),r _ (by decide),fun v hv=>r _ ?_,by decide,⟨fun v hv=>r _ ?_⟩,fun _ h=>by cases h⟩
 ·simp only [exH,List.mem_cons,List.not_mem_nil,or_false] at hv; subst hv; decide
 ·simp only [exH,List.mem_cons,List.not_mem_nil,or_false] at hv; rcases hv with rfl | rfl <;> decide
 ·simp only [tktL,exH,List.mem_cons,List.not_mem_nil,or_false] at hv; rcases hv with rfl | rfl | rfl | rfl | rfl | rfl <;> decide
theorem example_ok (k:∀ w' av yv kv,Bw w w' → Fresh w w' (fun W=>HldR W exH av yv kv) → K (hldV exH av yv kv) w'):callM Tryz.prog 54 #[.int .i64 0,.int .i64 2] K w:=by
 apply sh_54_ok
 unfold sh_54
 refine arr_alloc al_hld (fun g1 w1 h1 hg1 hH1=>?_)
 refine mkF1 3 (by constructor <;> decide) (fun a1 c1 w2 h2 hF2=>?_)
 rw [build_hld3]
 show oM _ _ _ _ _ _
 refine arr_alloc al_hld (fun g3 w3 h3 hg3 hH3=>?_)
 refine arr_store sz_hld rfl rfl (hld_one _ _ _ _ _ _ _ _ _ _ _ _ _ _ _ _ _ _ _ _) hH3 rfl (fun w4 hg4 hH4=>?_)
 refine mkF2 1 5 (by constructor <;> decide) (by constructor <;> decide) (fun a5 c5 w5 h5 hF5=>?_)
 rw [build_bld3]
 show oM _ _ _ _ _ _
 have hH5:=hH4.next h5
 iterate 1 (any_goals ((with_reducible refine oG fun X Y=>?_); simp [go_sem]; apply Y; clear Y X))
 refine arr_storeRow (o:=3) sz_bld rfl rfl (bld_one ⟨2,1,0,[]⟩ _ _ _) hH5 (by simp) (fun w6 hg6 hH6=>?_)
 simp only [List.take_succ_cons,List.take_zero,List.drop_succ_cons,List.drop_zero,List.cons_append,List.nil_append] at hH6
 iterate 4 (any_goals ((with_reducible refine oG fun X Y=>?_); simp [go_sem]; (try simp (disch:=omega) only [wrapI64,wrapU8,wrapU32,wrapU64]); apply Y; clear Y X))
 refine arr_storeRow (o:=7) (xs:=tktC exH.t) sz_tkt rfl rfl (tkt_one exH.t) hH6 (by simp) (fun w7 hg7 hH7=>?_)
 simp only [List.take_succ_cons,List.take_zero,List.drop_succ_cons,List.drop_zero,List.cons_append,List.nil_append] at hH7
 refine arr_load hH7 un_hld (by kernel_rfl) (by kernel_rfl) ?_
 have l1:=hH1.lt
 have l3:=hH3.lt
 have s1:=h1.size
 have s2:=h2.size
 have s3:=h3.size
 have s4:=hg4.size
 have s5:=h5.size
 have s6:=hg6.size
 have s7:=hg7.size
 have f27:Fr (fun i=>i = g3) w2 w7:=((((Fr.of_below h3).trans (Fr.of_by hg4) (fun i hi=>.inl hi)).trans (Fr.of_below (S:=fun _=>False) h5) (fun i hi=>hi.elim)).trans (Fr.of_by hg6) (fun i hi=>.inl hi)).trans (Fr.of_by hg7) (fun i hi=>.inl hi)
 have f57:Fr (fun i=>i = g3) w5 w7:=(Fr.of_by hg6).trans (Fr.of_by hg7) (fun i hi=>.inl hi)
 have hH1':Holds w7 g1 29 hldZ:=(f27.block g1 (by omega) (by omega)).trans (hH1.next h2)
 refine arr_store sz_hld rfl rfl (hld_one _ _ _ _ _ _ _ _ _ _ _ _ _ _ _ _ _ _ _ _) hH1' rfl (fun w8 hg8 hH8=>?_)
 have s8:=hg8.size
 refine arr_ret hH8 un_hld (by kernel_rfl) (by kernel_rfl) ?_
 have b17:Bw w w7:=(h1.on h2).trans ⟨f27.os,f27.tape,f27.output,by omega,fun i hi=>f27.block i (by omega) (by omega)⟩
 have p1:=((FP.fr hF2 f27 (fun j hj=>⟨hj.2,fun e=>by omega⟩)).fr (Fr.of_by hg8) (fun j hj=>⟨by omega,fun e=>by omega⟩))
 have p2:=((FP.fr hF5 f57 (fun j hj=>⟨hj.2,fun e=>by omega⟩)).fr (Fr.of_by hg8) (fun j hj=>⟨by omega,fun e=>by omega⟩))
 refine k w8 (.slice a1 1 c1) (.slice a5 2 c5) (.slice none 0 0) (b17.grown hg8 (by omega) (fun j e=>by cases e; exact hg1)) ?_
 exact ((p1.and p2).imp (fun W hW=>⟨hW.1,hW.2,SRow.nil,exH_wf⟩)).mono (fun j hj=>by rcases hj with hj | hj <;> exact ⟨by omega,by omega⟩)
end
end Go.Proofs
namespace PuSpec
open FdSpec TkSpec CodeSpec DkSpec JnSpec
variable {s:Stp} {lims:List Lim} {A:Ab} {p:Pst} {all sure:List Bytes} {n:Nat}
structure Up (s:Stp) (lims:List Lim) (A:Ab) (p:Pst) (sure:List Bytes) (n:Nat):Prop where
 u:Upp A
 inv:Inv s lims A p p.j.recs sure
 nb:p.j.broken = false
 cnt:p.j.recs.length ≤ n
 vs:validS s = true
 vl:limsM lims = true
 items:p.items.length ≤ p.j.recs.length
theorem Up.live (h:Up s lims A p sure n):Live 0 A p.j p.j.recs sure:=LJ.live h.inv.lj h.nb
theorem form_le {t:Bytes} (ht:t.length ≤ 20000):(form t).length ≤ 20064:=by
 have:=form_len (s:=t) (by omega)
 omega
theorem Up.append (h:Up s lims A p sure n) (hn:n ≤ 50) {t:Bytes} (ht:t.length ≤ 20000) :
  ∃ B b,appendJ A 0 p.j t = (0,B,⟨p.j.recs ++ [t],b,false⟩) ∧ Upp B ∧ Live 0 B ⟨p.j.recs ++ [t],b,false⟩ (p.j.recs ++ [t]) sure:=by
 have hb:=h.live.bytes_le h.cnt
 have hf:=form_le ht
 have h3:n * 20064 ≤ 50 * 20064:=Nat.mul_le_mul_right _ hn
 obtain ⟨B,e,u,l⟩:=h.u.add_rec h.live zero15 h.nb ht (by omega)
 exact ⟨B,_,e,u,l⟩
theorem Up.add (h:Up s lims A p sure n) (hn:n ≤ 50) {x:Hld} (w:WHld x) :
  (addErr s lims p.items x ≠ 0 ∧ addP s lims A p x = (addErr s lims p.items x,A,p) ∧ (addErr s lims p.items x = 1 ∨ addErr s lims p.items x = 5)) ∨
  (addErr s lims p.items x = 0 ∧ ∃ B q,addP s lims A p x = (0,B,q) ∧ q.items = p.items ++ [freshI x] ∧ validM s lims x = true ∧ hasM p.items x.t = false ∧ Up s lims B q sure (n + 1)):=by
 by_cases he:addErr s lims p.items x = 0
 ·right
  have hv:validM s lims x = true ∧ hasM p.items x.t = false:=by
   unfold addErr at he
   split at he
   ·cases he
   ·rename_i hv
    split at he
    ·cases he
    ·rename_i hh
     exact ⟨by simpa using hv,by simpa using hh⟩
  have e0:(encNum 0).length = 2:=by decide +kernel
  obtain ⟨B,b,e,u,l⟩:=h.append hn (t:=recAdd x) (by
   have:=held_len w hv.1
   simp only [recAdd,List.length_append,e0]; omega)
  refine ⟨he,B,⟨⟨p.j.recs ++ [recAdd x],b,false⟩,p.items ++ [freshI x]⟩,?_,rfl,hv.1,hv.2,⟨u,?_,rfl,?_,h.vs,h.vl,?_⟩⟩
  ·unfold addP
   rw [if_neg (by simp [he]),e,if_neg (by simp)]
  ·obtain ⟨all',sure',hp,v⟩:=add_inv h.inv x w
   have ea:addP s lims A p x = (0,B,⟨⟨p.j.recs ++ [recAdd x],b,false⟩,p.items ++ [freshI x]⟩):=by
    unfold addP
    rw [if_neg (by simp [he]),e,if_neg (by simp)]
   obtain ⟨rj,h1,h2,g⟩:=live_good h.inv
   have hl:x.links.length ≤ 4:=by
    have:=hv.1
    simp only [validM,linksM,Bool.and_eq_true,decide_eq_true_eq] at this
    omega
   have hlen:p.items.length < 400:=by
    have:=h.items
    have:=h.cnt
    omega
   have ht:replayM s lims rj (recAdd x) = some (rj ++ [freshI x]):=by
    rw [replay_add rj x w hl,if_pos]
    exact ⟨hv.1,by rw [h2.has]; exact hv.2,by rw [h2.1]; exact hlen⟩
   have hr:replayL s lims [] (p.j.recs ++ [recAdd x]) = some (rj ++ [freshI x]):=by
    rw [replayL_append,h1,Option.bind_some,replayL_one,ht]
   refine ⟨.inl ⟨rfl,l⟩,⟨_,hr⟩,⟨_,hr,h2.push _⟩,?_⟩
   intro i y hy hst
   dsimp only at hy
   rw [List.getElem?_append] at hy
   split at hy
   ·exact h.inv.spent i y hy hst
   ·have:y = freshI x:=by
     rcases hk:i - p.items.length with _ | k
     ·rw [hk] at hy; simp only [List.getElem?_cons_zero,Option.some.injEq] at hy; exact hy.symm
     ·rw [hk] at hy; simp at hy
    rw [this] at hst
    simp [freshI] at hst
  ·have:=h.cnt
   simp only [List.length_append,List.length_cons,List.length_nil]; omega
  ·have:=h.items
   simp only [List.length_append,List.length_cons,List.length_nil]; omega
 ·left
  refine ⟨he,by unfold addP; rw [if_pos he],?_⟩
  unfold addErr at he ⊢
  split at he
  ·rename_i h1; rw [if_pos h1]; exact .inl rfl
  ·rename_i h1
   rw [if_neg h1]
   split at he
   ·rename_i h2; rw [if_pos h2]; exact .inr rfl
   ·split at he
    ·have:=h.items
     have:=h.cnt
     omega
    ·exact absurd rfl he
theorem Up.keep (h:Up s lims A p sure n) (hn:n ≤ 50) {i:Nat} {x:Itm} (hx:p.items[i]? = some x) (h0:x.status = 0) {kind dare:Int} (hk:kind = 1 ∨ kind = 3) (hd:1 ≤ dare) (hq:dare < s.g.Q) (hr:InR dare) :
  ∃ B q,keepP A p i kind dare = (0,B,q) ∧ q.items = p.items.set i { x with dare:=dare,status:=1,lent:=decide (kind = 3) } ∧ Up s lims B q q.j.recs (n + 1):=by
 have hi:(i:Int) < 9223372036854775807:=by
  have:=(List.getElem?_eq_some_iff.1 hx).1
  have:=h.items
  have:=h.cnt
  omega
 have hin:∀ m ∈ [kind,(i:Int),dare],InR m:=by
  intro m hm
  simp only [List.mem_cons,List.not_mem_nil,or_false] at hm
  rcases hm with rfl | rfl | rfl
  ·rcases hk with rfl | rfl <;> exact ⟨by decide,by decide⟩
  ·exact ⟨by omega,by omega⟩
  ·exact hr
 obtain ⟨B,b,e,u,l⟩:=h.append hn (t:=recNums [kind,i,dare]) (by have:=recNums_len hin (by simp); omega)
 obtain ⟨C,e2,u2,l2⟩:=u.sync_rec l zero15 rfl
 have ek:keepP A p i kind dare = (0,C,⟨⟨p.j.recs ++ [recNums [kind,i,dare]],b,false⟩,p.items.set i { x with dare:=dare,status:=1,lent:=decide (kind = 3) }⟩):=by
  unfold keepP
  rw [e]
  dsimp only
  rw [if_neg (by simp),e2]
  dsimp only
  rw [if_neg (by simp),modify_set hx]
 refine ⟨C,_,ek,rfl,⟨u2,?_,rfl,?_,h.vs,h.vl,?_⟩⟩
 ·obtain ⟨rj,h1,h2,g⟩:=live_good h.inv
  obtain ⟨r,hr1,hr2⟩:=h2.get hx
  have hrs:r.status = 0:=by
   rcases hr2.rest with ⟨a,_⟩ | ⟨a,b,_⟩ <;> omega
  have hstep:stepR s [kind,i,dare] r = some { r with status:=1,dare:=dare,lent:=decide (kind = 3) }:=by
   unfold stepR
   dsimp only
   rw [if_pos (by simpa using hk),if_pos (by simp [hrs,hd,hq])]
  have ht:=replay_nums (s:=s) (lims:=lims) rj [kind,i,dare] hin (.inr rfl) (i:=i) rfl hr1
  rw [hstep,Option.map_some] at ht
  have hr:replayL s lims [] (p.j.recs ++ [recNums [kind,i,dare]]) = some (rj.set i { r with status:=1,dare:=dare,lent:=decide (kind = 3) }):=by
   rw [replayL_append,h1,Option.bind_some,replayL_one,ht]
  have hm:Match (rj.set i { r with status:=1,dare:=dare,lent:=decide (kind = 3) }) (p.items.set i { x with dare:=dare,status:=1,lent:=decide (kind = 3) }):=
   h2.set i ⟨hr2.held,hr2.back,.inl ⟨rfl,rfl,rfl⟩⟩
  exact ⟨.inl ⟨rfl,l2⟩,⟨_,hr⟩,⟨_,hr,hm⟩,spent_sure hr hm⟩
 ·have:=h.cnt
  simp only [List.length_append,List.length_cons,List.length_nil]; omega
 ·have:=h.items
  simp only [List.length_append,List.length_cons,List.length_nil,List.length_set]; omega
theorem open_newP (hv:validS s = true) (hl:limsM lims = true):∃ B,openP s lims newA = (some ⟨⟨[],0,false⟩,[]⟩,0,B) ∧ Up s lims B ⟨⟨[],0,false⟩,[]⟩ [] 0:=by
 obtain ⟨B,e,u,l⟩:=open_new zero15
 refine ⟨B,?_,⟨u,⟨.inl ⟨rfl,l⟩,⟨[],rfl⟩,⟨[],rfl,rfl,fun i r x h=>by simp at h⟩,fun i x h=>by simp at h⟩,rfl,Nat.le_refl _,hv,hl,Nat.le_refl _⟩⟩
 unfold openP
 rw [if_neg (by simp [hv,hl]),e]
 rfl
end PuSpec
namespace PuSpec
open FdSpec TkSpec CodeSpec DkSpec JnSpec
variable {s:Stp} {lims:List Lim} {A:Ab} {p:Pst} {all sure:List Bytes} {n:Nat}
end PuSpec
namespace PuSpec
open FdSpec TkSpec CodeSpec DkSpec JnSpec
variable {s:Stp} {lims:List Lim} {A:Ab} {p:Pst} {all sure:List Bytes} {n:Nat}
structure Dur (s:Stp) (lims:List Lim) (p:Pst) (sure:List Bytes):Prop where
 many:∃ rs,replayL s lims [] sure = some rs ∧ p.items.length ≤ rs.length
 nb:∀ x ∈ p.items,x.status ≠ 3
theorem LaterL.len {l m:List Itm} (h:LaterL l m):l.length ≤ m.length:=by
 rcases hl:l.length with _ | k
 ·omega
 ·have hk:k < l.length:=by omega
  obtain ⟨y,hy,_⟩:=h k l[k] (List.getElem?_eq_getElem hk)
  have:=(List.getElem?_eq_some_iff.1 hy).1
  omega
theorem burns_law (h:Up s lims A p sure n) (d:Dur s lims p sure) (keep:List Int) :
  ∃ B q,openP s lims (startA (crashA A keep)) = (some q,0,B) ∧ q.items.length = p.items.length ∧
   ∀ (i:Nat) (a b:Itm),p.items[i]? = some a → q.items[i]? = some b → b.held = a.held ∧ b.status ≠ 1 ∧ (a.status = 0 → b.status = 0) ∧ (a.status = 1 → b.status = 3 ∧ b.dare = a.dare) ∧
    (a.status ≠ 0 → a.status ≠ 1 → b.status ≠ 0 ∧ b.dare = a.dare):=by
 obtain ⟨B,j',e,u,lv,hb,hp,hs⟩:=h.u.again h.live.good zero15 keep
 obtain ⟨rj,hrj,hm,g⟩:=live_good h.inv
 obtain ⟨l,hl,gl,_,ll⟩:=replayL_pre hp hrj
 obtain ⟨rs,hrs,hmany⟩:=d.many
 obtain ⟨rs',hrs',grs,_,lr⟩:=replayL_pre hs hl
 rw [hrs] at hrs'
 cases hrs'
 have ho:openP s lims (startA (crashA A keep)) = (some ⟨j',l.map burnM⟩,0,B):=by
  unfold openP
  rw [if_neg (by simp [h.vs,h.vl]),e]
  dsimp only
  unfold openM
  rw [hl]
  rfl
 have e1:=ll.len
 have e2:=lr.len
 have e3:=hm.1
 refine ⟨B,_,ho,by simp only [List.length_map]; omega,fun i a b ha hbi=>?_⟩
 dsimp only at hbi
 rw [List.getElem?_map] at hbi
 rcases hli:l[i]? with _ | y
 ·rw [hli] at hbi; cases hbi
 ·rw [hli] at hbi
  cases hbi
  obtain ⟨r,hr,rel⟩:=hm.get ha
  obtain ⟨r',hr',lt⟩:=ll i y hli
  rw [hr] at hr'
  cases hr'
  have na:=d.nb a (List.mem_of_getElem? ha)
  obtain ⟨q1,q2,q3⟩:a.status = r.status ∧ a.dare = r.dare ∧ a.lent = r.lent:=by
   rcases rel.rest with k | ⟨_,k,_⟩
   ·exact k
   ·exact absurd k na
  have ry:=gl.raw y (List.mem_of_getElem? hli)
  have lu:=lt.up
  have spent:a.status = 1 ∨ a.status = 2 → 1 ≤ y.status:=by
   intro hst
   obtain ⟨rs1,z,z1,z2,_,_,z5⟩:=h.inv.spent i a ha hst
   rw [hrs] at z1
   cases z1
   obtain ⟨y',hy',lt'⟩:=lr i z z2
   rw [hli] at hy'
   cases hy'
   have:=lt'.up
   omega
  have bh:(burnM y).held = y.held:=by unfold burnM; split <;> rfl
  have bd:(burnM y).dare = y.dare:=by unfold burnM; split <;> rfl
  have bs:(burnM y).status = if y.status = 1 then 3 else y.status:=by unfold burnM; split <;> rfl
  rw [bh,bd,bs]
  refine ⟨by rw [rel.held,lt.held],by split <;> omega,fun k=>by rw [if_neg (by omega)]; omega,fun k=>?_,fun k1 k2=>?_⟩
  ·have:=spent (.inl k)
   rw [if_pos (by omega),q2,(lt.dare (by omega)).1]
   exact ⟨rfl,rfl⟩
  ·have ra:=g.raw r (List.mem_of_getElem? hr)
   have:=spent (.inr (by omega))
   rw [q2,(lt.dare (by omega)).1]
   refine ⟨?_,rfl⟩
   split <;> omega
end PuSpec
namespace PuSpec
open FdSpec TkSpec CodeSpec DkSpec JnSpec
def exI1:Itm:={ freshI exH with status:=1,dare:=5 }
theorem sane_facts (hw:WHld exH):∃ B0 B1 B2 q1 q2,openP exS exL newA = (some ⟨⟨[],0,false⟩,[]⟩,0,B0) ∧ addP exS exL B0 ⟨⟨[],0,false⟩,[]⟩ exH = (0,B1,q1) ∧ q1.items = [freshI exH] ∧
  reserveP exS exL B1 q1 0 2900 5 = ((0,0),B2,q2) ∧ q2.items = [exI1] ∧ reserveP exS exL B2 q2 0 2901 6 = ((0,15),B2,q2) ∧
  ∃ B3 q3 x,openP exS exL (startA (crashA B2 [])) = (some q3,0,B3) ∧ q3.items = [x] ∧ x.status = 3 ∧ x.dare = 5 ∧ x.held = exH:=by
 obtain ⟨f1,_,_,_,_,fv,_,fa,_,fc1,fc2,_,_⟩:=ex_facts
 obtain ⟨B0,e0,u0⟩:=open_newP fv f1
 rcases u0.add (by omega) hw with ⟨hne,_⟩ | ⟨_,B1,q1,e1,i1,_,_,u1⟩
 ·exact absurd fa hne
 have i1':q1.items = [freshI exH]:=i1
 have hx:q1.items[0]? = some (freshI exH):=by rw [i1']; rfl
 obtain ⟨B2,q2,e2,i2,u2⟩:=u1.keep (by omega) hx rfl (kind:=1) (dare:=5) (.inl rfl) (by omega) (by decide) ⟨by omega,by omega⟩
 have i2':q2.items = [exI1]:=by rw [i2,i1']; rfl
 refine ⟨B0,B1,B2,q1,q2,e0,e1,i1',?_,i2',?_,?_⟩
 ·unfold reserveP
  rw [i1',fc1]
  rw [if_neg (by decide),if_neg (by simp),e2]
  rw [if_neg (by simp)]
 ·unfold reserveP
  rw [i2',show [exI1] = [{ freshI exH with status:=1,dare:=5 }] from rfl,fc2]
  rw [if_neg (by decide),if_pos (by simp)]
 ·obtain ⟨rj,hr,hm⟩:=u2.inv.live
  have hd:Dur exS exL q2 q2.j.recs:=⟨⟨rj,hr,Nat.le_of_eq hm.1.symm⟩,by rw [i2']; intro x hx; rw [List.mem_singleton] at hx; subst hx; decide⟩
  obtain ⟨B3,q3,e3,l3,h3⟩:=burns_law u2 hd []
  rw [i2'] at l3 h3
  obtain ⟨x,hx3⟩:∃ x,q3.items = [x]:=List.length_eq_one_iff.1 (by simpa using l3)
  have:=h3 0 exI1 x rfl (by rw [hx3]; rfl)
  exact ⟨B3,q3,x,e3,hx3,(this.2.2.2.1 rfl).1,(this.2.2.2.1 rfl).2,this.1⟩
end PuSpec
namespace Go.Proofs
open Go Go.Sh Go.RowKit FdSpec TkSpec CodeSpec PuSpec DkSpec JnSpec
section
variable {K:VK} {w w' w0 W W':World} {L:List (Addr × Value)} {rb b:Nat}
theorem sameInts_ok {va vb:Value} {l m:List Int} (ha:Ints w va l) (hb:Ints w vb m) (k:∀ w',Bw w w' → K (.bool (decide (l = m))) w'):callM Tryz.prog 56 #[va,vb] K w:=by
 apply sh_56_ok
 unfold sh_56
 obtain ⟨a1,c1,rfl⟩:=ha.isSlice
 obtain ⟨a2,c2,rfl⟩:=hb.isSlice
 have hll:=ha.len
 by_cases hl:l.length = m.length
 ·have hlZ:(l.length:Int) = m.length:=by omega
  repeat (any_goals (first
  | (with_reducible refine yM ?_)
  | ((with_reducible refine oG fun X Y=>?_); simp [go_sem,hlZ]; apply Y; clear Y X)))
  refine ⟨fun vs W=>∃ (i:Nat),vs = [.bool false,.int .i64 (i:Int)] ∧ i ≤ l.length ∧ l.take i = m.take i ∧ Nx w W,
   (fun vs _=>match vs with | [_,.int _ i]=>l.length - i.toNat | _=>0),⟨0,rfl,by omega,rfl,bR⟩,?_⟩
  rintro _ _ w2 ⟨i,rfl,hi,he,h2⟩
  by_cases hin:i = l.length
  ·have e:l = m:=by
    rw [hin,List.take_length,hl,List.take_length] at he
    exact he
   have k:=k _ h2
   rw [decide_eq_true e] at k
   have hn:¬ (i:Int) < m.length:=by omega
   repeat (any_goals (first
   | (with_reducible refine yM ?_)
   | ((with_reducible refine oG fun X Y=>?_); simp [go_sem,hn,hlZ]; apply Y; clear Y X)))
   exact k
  ·have hil:i < l.length:=by omega
   have him:i < m.length:=by omega
   have hiZ:(i:Int) < m.length:=by omega
   obtain ⟨b1,o1,rfl,hb1,ca,_,_⟩:=ha.at (i:=i) hil
   obtain ⟨b2,o2,rfl,hb2,cb,_,_⟩:=hb.at (i:=i) him
   repeat (any_goals (first
   | (with_reducible refine yL ?_)
   | ((with_reducible refine oG fun X Y=>?_); simp [go_sem,hiZ,hlZ]; apply Y; clear Y X)))
   refine ⟨Nx { w2 with drawn:=w2.drawn + 1 },bR,rfl,?_⟩
   have h2d:=h2.on (.drawn (B:=w2.heap.size))
   generalize ({ w2 with drawn:=w2.drawn + 1 }:World) = W3 at h2d ⊢
   by_cases hx:l[i] = m[i]
   ·repeat (any_goals (first
    | (with_reducible refine pX ?_)
    | ((with_reducible refine idOH ?_); (with_reducible refine oH_of ⟨_,rfl⟩ (fun W0 hW0=>by (refine oG (fun X Y=>?_)); simp [go_sem,ca _ (h2d.on hW0),cb _ (h2d.on hW0),hx,hiZ,hlZ]; (first | exact Y _ _ ⟨rfl,rfl⟩ | exact ⟨by omega,Y _ _ ⟨rfl,rfl⟩⟩)) ?_))))
    refine ⟨Nx,fun w4 h4=>?_⟩
    repeat (any_goals (first
    | (with_reducible refine yM ?_)
    | ((with_reducible refine oG fun X Y=>?_); simp [go_sem]; (try simp (disch:=omega) only [wrapI64,wrapU8,wrapU32,wrapU64]); apply Y; clear Y X)))
    exact ⟨⟨i + 1,rfl,by omega,by rw [List.take_succ_eq_append_getElem hil,List.take_succ_eq_append_getElem him,he,hx],h2d.on h4⟩,by show l.length - (((i + 1:Nat):Int)).toNat < l.length - ((i:Nat):Int).toNat; omega⟩
   ·repeat (any_goals (first
    | (with_reducible refine pX ?_)
    | ((with_reducible refine idOH ?_); (with_reducible refine oH_of ⟨_,rfl⟩ (fun W0 hW0=>by (refine oG (fun X Y=>?_)); simp [go_sem,ca _ (h2d.on hW0),cb _ (h2d.on hW0),hx,hiZ,hlZ]; (first | exact Y _ _ ⟨rfl,rfl⟩ | exact ⟨by omega,Y _ _ ⟨rfl,rfl⟩⟩)) ?_))))
    refine ⟨Nx,fun w4 h4=>?_⟩
    have k:=k _ (h2d.on h4)
    rw [decide_eq_false (fun e=>hx (by subst e; rfl))] at k
    repeat (any_goals (with_reducible refine yL ?_))
    exact k
 ·have hlZ:¬ (l.length:Int) = m.length:=by omega
  have k:=k _ (bR)
  rw [decide_eq_false (fun e=>hl (by rw [e]))] at k
  repeat (any_goals (first
  | (with_reducible refine yL ?_)
  | ((with_reducible refine oG fun X Y=>?_); simp [go_sem,hlZ]; apply Y; clear Y X)))
  exact k
theorem nil_purse {T:TypeId} (b:Nat) (k:K (.bool false) w):oM Tryz.prog (Go.Op.binOp Go.BinOp.eql 56 (.tmp 0) (.const (.pointer none)) 56) T [.pointer (some ⟨b,0,none⟩)] K w:=by
 skip
 exact k
set_option maxHeartbeats 4000000 in
theorem sane_ok (hl:Cd.LaidE w) (hdb:DbT w) (k:∀ w',Bw w w' → K (.bool true) w'):callM Tryz.prog 12 #[] K w:=by
 apply sh_12_ok
 unfold sh_12
 obtain ⟨f1,fw1,fb1,fw2,ft,fv,_,fa,_,fc1,fc2,fl,fu⟩:=ex_facts
 obtain ⟨fn1,fn2⟩:=ex_narrows
 refine limits_ok (fun w1 lv h1 hL=>?_)
 have hL1:=hL.here
 obtain ⟨lad,lc,hlv⟩:=hL1.isSlice
 have e2:exL.length = 2:=rfl
 rw [e2] at hlv
 subst hlv
 obtain ⟨lb,lo,rfl,hlb,cs0,hcl0,hcc0,hV0,_⟩:=hL1.at (i:=0) (by decide)
 obtain ⟨lb',lo',hlo,_,cs1,hcl1,hcc1,hV1,_⟩:=hL1.at (i:=1) (by decide)
 cases hlo
 subst hV0
 subst hV1
 have a0:=hcc0 0 _ rfl
 have a1:=hcc0 1 _ rfl
 have a2:=hcc0 2 _ rfl
 have b0:=hcc1 0 _ rfl
 have b1:=hcc1 1 _ rfl
 have b2:=hcc1 2 _ rfl
 simp only [exL,List.getElem_cons_zero,List.getElem_cons_succ,Nat.zero_mul,Nat.add_zero,Nat.one_mul] at a0 a1 a2 b0 b1 b2
 have q0:∀ W,Nx w1 W → W.cell? ⟨lb,lo,none⟩ = some (.int .i64 1) ∧ W.cell? ⟨lb,lo + 1,none⟩ = some (.int .i64 1440) ∧ W.cell? ⟨lb,lo + 2,none⟩ = some (.int .i64 (-1)) ∧ W.cell? ⟨lb,lo + 3,none⟩ = some (.int .i64 2) ∧ W.cell? ⟨lb,lo + 3 + 1,none⟩ = some (.int .i64 0) ∧ W.cell? ⟨lb,lo + 3 + 2,none⟩ = some (.int .i64 (-1)):=fun W h=>⟨(h.cell hlb).trans a0,(h.cell hlb).trans a1,(h.cell hlb).trans a2,(h.cell hlb).trans b0,(h.cell hlb).trans b1,(h.cell hlb).trans b2⟩
 have q:=q0 _ (bR)
 repeat (any_goals ((with_reducible refine oG fun X Y=>?_); simp [go_sem,q]; apply Y; clear Y X))
 refine Window_ok ⟨1,1440,-1⟩ 2900 (fun w2 h2=>?_)
 rw [fw1]
 have q:=q0 _ h2
 repeat (any_goals (first
 | (with_reducible first|refine pureM_in ?_|refine zA ?_)
 | ((with_reducible refine oG fun X Y=>?_); simp [go_sem,q]; apply Y; clear Y X)))
 refine Begins_ok ⟨1,1440,-1⟩ 2 (fun w3 h3=>?_)
 rw [fb1]
 have h13:=h2.on h3
 have q:=q0 _ h13
 repeat (any_goals (first
 | (with_reducible first|refine pureM_in ?_|refine zA ?_|refine yB ?_)
 | ((with_reducible refine oG fun X Y=>?_); simp [go_sem,q]; apply Y; clear Y X)))
 refine Window_ok ⟨2,0,-1⟩ 2900 (fun w4 h4=>?_)
 rw [fw2]
 have h14:=h13.on h4
 repeat (any_goals (first
 | (with_reducible first|refine zA ?_|refine yB ?_)
 | ((with_reducible refine oG fun X Y=>?_); simp [go_sem]; apply Y; clear Y X)))
 have hl4:=hl.below (h1.on h14) hl.size
 refine Terms_ok 100 [112,111,111,108] (by decide) hl4 (fun w5 h5=>?_)
 rw [ft]
 have h15:=h14.on h5
 have z15':=h15.size
 repeat (any_goals (first
 | (with_reducible first|refine zA ?_|refine yB ?_)
 | ((with_reducible refine oG fun X Y=>?_); simp [go_sem]; apply Y; clear Y X)))
 refine new_ok (fun w6 d dk hd6 f6 ho6 hr6=>?_)
 have h6:Bw w5 w6:=⟨f6.os,f6.tape,f6.output,f6.size,fun i hi=>f6.block i hi id⟩
 have h16:=h15.on h6
 have h06:=h1.on h16
 have hw8:=hl.size
 have s6:Sys w6 d newA dk:=⟨hd6,hl.below h06 hl.size,fun i hi=>by have:=ho6 i hi; have:=(h1.on h15).size; omega⟩
 skip
 refine Narrows_ok _ _ (by decide) (by decide) s6.l (fun w7 h7=>?_)
 rw [fn1]
 have s7:=s6.below h7
 skip
 refine Narrows_ok _ _ (by decide) (by decide) s7.l (fun w8 h8=>?_)
 rw [fn2]
 have s8:=s7.below h8
 repeat (any_goals ((with_reducible refine oG fun X Y=>?_); simp [go_sem]; apply Y; clear Y X))
 show condM (.bool false) _ _
 repeat (any_goals (with_reducible refine yM ?_))
 refine setup_ok (fun w9 bv h9 hB9=>?_)
 have s9:=s8.below h9
 have h69:=(h7.on h8).on h9
 have h09:=h06.on h69
 have h19:=h16.on h69
 have gE:GrpR exS.g:=⟨by constructor <;> decide,by constructor <;> decide,by constructor <;> decide⟩
 have hsl9:FP (fun i=>i < w9.heap.size ∧ ¬ Own d dk i) w9 (fun W=>SetR W exS bv ∧ LimR W (.slice (some ⟨lb,lo,none⟩) 2 lc) exL):=by
  have r1:=dbT_fp (DbT.next hdb h09)
  have r2:=FP.next hL h19 (fun i hi=>hi.2)
  have z1:=h1.size
  have z15:=h15.size
  have z6:=f6.size
  have z68:=(h7.on h8).size
  have z9:=h9.size
  refine (((FP.and hB9 r1).and r2).imp (fun W hW=>⟨⟨gE,hW.1.1,by constructor <;> decide,hW.1.2⟩,hW.2⟩)).mono (fun i hi=>?_)
  rcases hi with (hi | hi) | hi
  ·exact ⟨hi.2,fun e=>by have:i < w6.heap.size:=s6.d.lt (.inl e); omega⟩
  ·exact ⟨by omega,fun e=>by have:=ho6 i e; omega⟩
  ·exact ⟨by omega,fun e=>by have:=ho6 i e; omega⟩
 refine Open_ok (w0:=w) hl.size h09 s9 (fun i hi=>by
  rcases hi with hi | hi
  ·have:=ho6 i hi; have:=(h1.on h15).size; omega
  ·exact absurd hi (hr6 i)) (fun i hi=>hi) hsl9 (fun w10 dk10 r10 s10 t10 o10=>?_)
 obtain ⟨B0,B1,B2,q1,q2,e0,e1,i1,e2,i2,e3,B3,q3,x3,e4,i3,x3s,x3d,x3h⟩:=sane_facts exH_wf
 rw [e0] at s10 o10 ⊢
 obtain ⟨p,hpb,hph,rfl,hP,hMu⟩:=o10
 repeat (any_goals ((with_reducible refine oG fun X Y=>?_); simp [go_sem]; apply Y; clear Y X))
 refine nil_purse p.pb ?_
 repeat (any_goals (first
 | (with_reducible first|refine pureM_in ?_|refine zC ?_|refine yC ?_|refine yM ?_)
 | ((with_reducible refine oG fun X Y=>?_); simp [go_sem]; apply Y; clear Y X)))
 refine example_ok (fun w11 av yv kv h11 hx=>?_)
 have hP11:=hP.next h11
 refine PAdd_ok hP11 exH (D:=fun i=>w10.heap.size ≤ i ∧ i < w11.heap.size) (fun i hi=>⟨hi.2,fun e=>by have:=hP.mu_lt i e; omega⟩) hx (fun w12 p12 hP12 t12 ⟨epb12,eb12⟩=>?_)
 rw [e1] at hP12 ⊢
 rw [← epb12]
 refine PReserve_ok hP12 0 2900 5 ⟨by omega,by omega⟩ (fun w13 p13 hP13 t13 ⟨epb13,eb13⟩=>?_)
 rw [e2] at hP13 ⊢
 rw [← epb13]
 repeat (any_goals ((with_reducible refine oG fun X Y=>?_); simp [go_sem]; apply Y; clear Y X))
 refine PReserve_ok hP13 0 2901 6 ⟨by omega,by omega⟩ (fun w14 p14 hP14 t14 ⟨epb14,eb14⟩=>?_)
 rw [e3] at hP14 ⊢
 rw [← epb14]
 repeat (any_goals ((with_reducible refine oG fun X Y=>?_); simp [go_sem]; apply Y; clear Y X))
 refine Answer_ok hP14.st 0 (fun w15 ov h15 hov=>?_)
 have eA:answerI exS q2.items 0 = (⟨5,[0,2]⟩,0):=by
  rw [i2]
  show (if exI1.status = 1 ∨ exI1.status = 2 then ((useI exS exI1).1,(0:Int)) else (⟨0,[]⟩,7)) = _
  rw [if_pos (.inl rfl)]
  have:useI exS exI1 = (⟨5,[0,2]⟩,true):=fu
  rw [this]
 rw [eA] at hov ⊢
 have hP15:=hP14.next h15
 obtain ⟨oa,oc,rfl⟩:=hov.here.isSlice
 iterate 2 (any_goals ((with_reducible refine oG fun X Y=>?_); simp [go_sem]; apply Y; clear Y X))
 refine arr_alloc al_spd' (fun g16 w16 h16' hg16 hH16=>?_)
 refine arr_store sz_spd' rfl rfl (spd_one' _ _ _ _) hH16 rfl (fun w17 hg17 hH17=>?_)
 have h1517:Bw w15 w17:=grown_below h16' hg17 hg16
 have hP17:=hP15.next h1517
 repeat (any_goals (first
 | (with_reducible first|refine pureM_in ?_|refine zC ?_|refine yC ?_)
 | ((with_reducible refine oG fun X Y=>?_); simp [go_sem]; apply Y; clear Y X)))
 refine PLeft_ok hP17.st 0 2900 (fun w18 h18=>?_)
 rw [show leftM exL q2.items 0 2900 = 0 by rw [i2]; exact fl]
 have hP18:=hP17.next h18
 have c18:=(hH17.next h18).cell 1 (by simp)
 simp only [List.getElem_cons_zero,List.getElem_cons_succ] at c18
 iterate 12 (any_goals (first
 | (with_reducible first|refine pureM_in ?_|refine zC ?_|refine yC ?_)
 | ((with_reducible refine oG fun X Y=>?_); simp [go_sem,c18]; apply Y; clear Y X)))
 have gstep:∀ {o:Op} {T:TypeId} {xs:List Value} {K:VK} {w:World},oM Tryz.prog o T xs K w → gdM (gd (.bool false) false) (oM Tryz.prog o T xs) K w:=fun h=>by
  iterate 1 (any_goals (with_reducible refine zC ?_))
  exact h
 refine gstep ?_
 refine mkF2 0 2 I64_0 (I64_k 2 (by omega)) (fun a20 c20 w20 h20 hF20=>?_)
 have hov20:=((hov.here.next h1517).next h18).next h20
 refine sameInts_ok hov20 hF20.here (fun w21 h21=>?_)
 have hP21:=(hP18.next h20).next h21
 have ebd:p14.b = d:=eb14.trans (eb13.trans (eb12.trans hpb))
 repeat (any_goals (first
 | (with_reducible first|refine zC ?_|refine yC ?_|refine yM ?_)
 | ((with_reducible refine oG fun X Y=>?_); simp [go_sem]; apply Y; clear Y X)))
 have hd21:=hP21.sys.d
 rw [ebd] at hd21
 refine crash_ok hd21 (kl:=[]) ⟨none,0,rfl,fun _=>⟨rfl,rfl⟩,.inl rfl⟩ (by decide) (fun w' _=>⟨none,0,rfl,fun _=>⟨rfl,rfl⟩,.inl rfl⟩) (fun w22 dk22 hd22 t22=>?_)
 skip
 refine start_ok hd22 (fun w23 hd23 t23=>?_)
 skip
 have hS21:=hP21.sys
 rw [ebd] at hS21
 have s23:=(hS21.step hd22 t22).step hd23 t23
 have hy23:∀ i,Own d dk22 i ∨ Rdb dk22 i → w.heap.size ≤ i:=fun i hi=>by
  have hz:=hP21.bl.size
  rcases hi with hi | hi
  ·rcases t22.own i hi with e | e
   ·exact hP21.yg i (.inl (by rw [ebd]; exact e))
   ·omega
  ·rcases t22.rd i hi with e | e
   ·exact hP21.yg i (.inr (.inl e))
   ·omega
 have b22:Bw w w22:=hP21.bl.trans ⟨t22.fr.os,t22.fr.tape,t22.fr.output,t22.fr.size,fun i hi=>t22.fr.block i (by have:=hP21.bl.size; omega) (fun e=>by have:=hP21.yg i (.inl (by rw [ebd]; exact e)); omega)⟩
 have b23:Bw w w23:=b22.trans ⟨t23.fr.os,t23.fr.tape,t23.fr.output,t23.fr.size,fun i hi=>t23.fr.block i (by have:=b22.size; omega) (fun e=>by have:=hy23 i (.inl e); omega)⟩
 refine setup_ok (fun w24 bv2 h24 hB24=>?_)
 have s24:=s23.below h24
 have b24:=b23.trans (h24.mono b23.size)
 have hsl24:FP (fun i=>i < w24.heap.size ∧ ¬ Own d dk22 i) w24 (fun W=>SetR W exS bv2 ∧ LimR W (.slice (some ⟨lb,lo,none⟩) 2 lc) exL):=by
  have z1:=h1.size
  have z15:=h15.size
  have z19:=h19.size
  have z10:=t10.fr.size
  have z11:=h11.size
  have z12:=t12.fr.size
  have z13:=t13.fr.size
  have z14:=t14.fr.size
  have n0:∀ i,Own d dk i ∨ Rdb dk i → w1.heap.size ≤ i:=fun i hi=>by
   rcases hi with hi | hi
   ·have:=ho6 i hi; omega
   ·exact absurd hi (hr6 i)
  have m0:∀ i,Mu p i → w1.heap.size ≤ i:=fun i hi=>by
   rcases hMu i hi with e | e | e
   ·rcases t10.own i e with e | e
    ·exact n0 i (.inl e)
    ·omega
   ·rcases t10.rd i e with e | e
    ·exact n0 i (.inr e)
    ·omega
   ·omega
  have m12:∀ i,Mu p12 i → w1.heap.size ≤ i:=fun i hi=>(t12.mu i hi).elim (m0 i) (fun e=>by omega)
  have m13:∀ i,Mu p13 i → w1.heap.size ≤ i:=fun i hi=>(t13.mu i hi).elim (m12 i) (fun e=>by omega)
  have m14:∀ i,Mu p14 i → w1.heap.size ≤ i:=fun i hi=>(t14.mu i hi).elim (m13 i) (fun e=>by omega)
  have o22:∀ i,Own d dk22 i → w1.heap.size ≤ i:=fun i hi=>by
   rcases t22.own i hi with e | e
   ·exact m14 i (.inl (by rw [ebd]; exact e))
   ·have:=((((h15.on h1517).on h18).on h20).on h21).size; omega
  have g9:=FP.next hL h19 (fun i hi=>hi.2)
  have g10:=FP.fr g9 t10.fr (fun i hi=>⟨by omega,fun e=>by have:=n0 i (.inl e); omega⟩)
  have g11:=FP.next g10 h11 (fun i hi=>by omega)
  have g12:=FP.fr g11 t12.fr (fun i hi=>⟨by omega,fun e=>by have:=m0 i e; omega⟩)
  have g13:=FP.fr g12 t13.fr (fun i hi=>⟨by omega,fun e=>by have:=m12 i e; omega⟩)
  have g14:=FP.fr g13 t14.fr (fun i hi=>⟨by omega,fun e=>by have:=m13 i e; omega⟩)
  have h1421:=(((h15.on h1517).on h18).on h20).on h21
  have z21:=h1421.size
  have g21:=FP.next g14 h1421 (fun i hi=>by omega)
  have z22:=t22.fr.size
  have z23:=t23.fr.size
  have z24:=h24.size
  have g22:=FP.fr g21 t22.fr (fun i hi=>⟨by omega,fun e=>by have:=m14 i (.inl (by rw [ebd]; exact e)); omega⟩)
  have g23:=FP.fr g22 t23.fr (fun i hi=>⟨by omega,fun e=>by have:=o22 i e; omega⟩)
  have g24:=FP.next g23 h24 (fun i hi=>by omega)
  have r1:=dbT_fp (DbT.next hdb b24)
  have hw8':=hl.size
  refine (((FP.and hB24 r1).and g24).imp (fun W hW=>⟨⟨gE,hW.1.1,by constructor <;> decide,hW.1.2⟩,hW.2⟩)).mono (fun i hi=>?_)
  rcases hi with (hi | hi) | hi
  ·exact ⟨hi.2,fun e=>by have:i < w23.heap.size:=s23.d.lt (.inl e); omega⟩
  ·exact ⟨by omega,fun e=>by have:=o22 i e; omega⟩
  ·exact ⟨by omega,fun e=>by have:=o22 i e; omega⟩
 refine Open_ok (w0:=w) hl.size b24 s24 hy23 (fun i hi=>hi) hsl24 (fun w25 dk25 r25 s25 t25 o25=>?_)
 rw [e4] at s25 o25 ⊢
 obtain ⟨p3,hpb3,hph3,rfl,hQ,hMu3⟩:=o25
 repeat (any_goals ((with_reducible refine oG fun X Y=>?_); simp [go_sem]; apply Y; clear Y X))
 refine nil_purse p3.pb ?_
 repeat (any_goals (first
 | (with_reducible first|refine pureM_in ?_|refine zC ?_|refine yC ?_|refine yM ?_)
 | ((with_reducible refine oG fun X Y=>?_); simp [go_sem]; apply Y; clear Y X)))
 refine Answer_ok hQ.st 0 (fun w26 ov2 h26 hov2=>?_)
 have eA2:answerI exS q3.items 0 = (⟨0,[]⟩,7):=by
  rw [i3]
  show (if x3.status = 1 ∨ x3.status = 2 then ((useI exS x3).1,(0:Int)) else (⟨0,[]⟩,7)) = _
  rw [if_neg (by omega)]
 rw [eA2] at hov2 ⊢
 have hQ26:=hQ.next h26
 obtain ⟨oa2,oc2,rfl⟩:=hov2.here.isSlice
 iterate 2 (any_goals ((with_reducible refine oG fun X Y=>?_); simp [go_sem]; apply Y; clear Y X))
 refine arr_alloc al_spd' (fun g27 w27 h27 hg27 hH27=>?_)
 refine arr_store sz_spd' rfl rfl (spd_one' _ _ _ _) hH27 rfl (fun w28 hg28 hH28=>?_)
 have h2628:Bw w26 w28:=grown_below h27 hg28 hg27
 have hQ28:=hQ26.next h2628
 refine Items_ok hQ28.st (fun x hx=>by rw [i3,List.mem_singleton] at hx; subst hx; rw [x3h]; exact ⟨by decide,by decide,by decide,fun y hy=>by cases hy⟩) (fun w29 v29 h29 hI29=>?_)
 have hR:=hI29.here
 obtain ⟨va,vc,hva⟩:=hR.isSlice
 rw [i3] at hR hva
 have e1':[x3].length = 1:=rfl
 rw [e1'] at hva
 subst hva
 obtain ⟨vb,vo,rfl,hvb,cs,hcl,hcc,av3,yv3,lv3,rfl,_⟩:=hR.at (i:=0) (by simp)
 have k14:=hcc 14 _ rfl
 have k15:=hcc 15 _ rfl
 simp only [List.getElem_cons_zero,Nat.zero_mul,Nat.add_zero] at k14 k15
 rw [x3s] at k14
 rw [x3d] at k15
 have k:=k w29 ((hQ28.next h29).bl)
 repeat (any_goals (first
 | (with_reducible first|refine pureM_in ?_|refine zA ?_|refine yB ?_)
 | ((with_reducible refine oG fun X Y=>?_); simp [go_sem,k14,k15]; apply Y; clear Y X)))
 exact k
end
end Go.Proofs
