/- Parts of the proof of the seat's statements (UrQ): lemmas about the given translation and plain laws. No condition of their own. -/
import Derived.Test.YtnbokkoppdnllaaGreatDoorQcf
set_option linter.all false
set_option maxRecDepth 100000
namespace Go.Proofs
open Go Go.Sh Go.RowKit FdSpec TkSpec CodeSpec PuSpec DkSpec JnSpec
section
variable {K:VK} {w w' w0 W W':World} {L:List (Addr × Value)} {rb b:Nat} {s:Stp} {lims:List Lim} {p p':Ph} {items items':List Itm} {A:Ab} {P:Pst} {h:Dk}
def ReJ (s:Stp) (lims:List Lim) (time:Int) (w4:World) (p0:Ph) (P0:Pst) (n:Nat) (W:World):Prop:=
 ∃ (p:Ph) (A:Ab) (P:Pst) (sure:List a0f),PuR s lims w4 W p A P ∧ p.pb = p0.pb ∧ p.b = p0.b ∧ Up s lims A P sure n ∧ Dur s lims P sure ∧ P.items.length = P0.items.length ∧ HeldIn P0.items P.items ∧ OldR lims time P0.items P.items
theorem c6p (l:List Hld):a6v (l.map a1d) = b1j l:=by
 unfold a6v b1j
 rw [c4c,List.map_map]
 rfl
theorem e4j {C:WK} {Q:Value → Prop} {m:(WK) → (Value → Prop) → Prop} (h:m C Q):gdH (gd (.bool true) true) m C Q:=h
theorem g0y {b p:Nat} {x:Itm} {av yv kv:Value} (h:∀ j u,(b2h x av yv kv)[j]? = some u → w.cell? ⟨b,p + j,none⟩ = some u) :
  ∀ j u,(b1p x.held.t)[j]? = some u → w.cell? ⟨b,(p + 7) + j,none⟩ = some u:=fun j u hj=>by
 have h2:=b3y h (7 + j) u (e4c hj)
 rw [show p + 7 + j = p + (7 + j) by omega]
 exact h2
set_option maxHeartbeats 8000000 in
theorem c9i (s:Stp) (lims:List Lim) (hs:List Hld) (ops:List OpM) (time:Int) {bv lv v ov:Value} (hset:SetR w s bv) (hlim:b9b w lv lims) (hr:SRow 14 (a9i 14 c2x) w v hs) (hor:SRow 26 (a9i 26 VOp) w ov ops) (hl:Cd.LaidE w) (hdb:DbT w)
  (k:∀ w',Bw w w' → K (.bool true) w'):a0a Tryz.prog 10 #[b1c s bv,lv,v,ov,.int .i64 time] K w:=by
 apply e6d
 unfold g2i
 obtain ⟨ad,c,rfl⟩:=hset.ints.isSlice
 obtain ⟨had,hc,rfl⟩:=hr.isSlice
 obtain ⟨lad,lc,rfl⟩:=hlim.isSlice
 obtain ⟨oad,oc,rfl⟩:=hor.isSlice
 refine a2n (cs:=b1o s (.slice ad s.bases.length c)) rfl (fun b1 w1 h1 hb1 hB1=>?_)
 refine g0n (hl.below h1 hl.size) (DbT.next hdb h1) (fun w2 h2=>?_)
 have h02:=h1.on h2
 have hB2:=hB1.next h2
 refine a1s hB2 b8j (by kernel_rfl) (by kernel_rfl) ?_
 refine c9d s lims (hset.ints.next h02) (hlim.next (a0l a2k) h02) (fun w3 h3=>?_)
 have h03:=h02.on h3
 cases hfs:(decide (s.bases.length ≤ 8) && decide (lims.length ≤ 18)) with
 | false=>
  have k:=k _ h03
  refine Xa0 ?_
  exact k
 | true=>
 have hlims18:lims.length ≤ 18:=by
  simp only [bA,dE] at hfs
  exact hfs.2
 refine Xa0 ?_
 refine c9e hs (hr.next (a0l b3t) h03) (fun w3b h3b=>?_)
 have h03b:=h03.on h3b
 cases hfh:b1q hs with
 | false=>
  have k:=k _ h03b
  refine Xa0 ?_
  exact k
 | true=>
 refine Xa0 ?_
 refine e4f ops 6 (by omega) (hor.next (a0l d1p) h03b) (fun w4 h4=>?_)
 have h04:=h03b.on h4
 cases hfo:b2n ops 6 with
 | false=>
  have k:=k _ h04
  refine Xa0 ?_
  exact k
 | true=>
 by_cases ht0:time < 0
 ·have k:=k _ h04
  refine Xa @ht0 ?_
  exact k
 by_cases ht1:2147483648 < time
 ·have k:=k _ h04
  refine Xa (An2 @ht0 @ht1) ?_
  exact k
 have htb:a2i time = true:=(a2t _).2 ⟨by omega,by omega⟩
 have hB4:=((hB2.next h3).next h3b).next h4
 refine Xa (An2 @ht0 @ht1) ?_
 refine a1s hB4 b8j (by kernel_rfl) (by kernel_rfl) ?_
 have hl4:=hl.below h04 hl.size
 obtain ⟨hol,hoall⟩:=d4d hfo
 obtain ⟨hsn,hsall⟩:=b3x hfh
 have hwf:=g0q hr
 refine e3z hl4 (hset.next h04) (hlim.next (a0l a2k) h04) (hr.next (a0l b3t) h04) hfh hwf (fun _ w5 d h5=>?_) (fun w5 p0 A0 P0 l hP0 hU0 hF=>?_)
 ·have k:=k _ (h04.on h5)
  refine Xa0 ?_
  refine d4a ?_
  refine Xa0 ?_
  exact k
 have hsm:=c6n hF hfh
 have hst:=c6o hF hfh
 have hitm:=hF.items
 have hwl:∀ x ∈ l,WHld x ∧ PuSpec.validM s lims x = true:=fun x hx=>⟨hwf x (hF.mem x hx),hF.valid x hx⟩
 have hll:l.length ≤ 400:=by
  have:=hP0.st.cnt
  rw [hitm,List.length_map] at this
  exact this
 refine Xa0 ?_
 refine b0k p0.pb ?_
 refine Xa0 ?_
 refine e4g hP0.st hP0.sys.l (fun x hx=>?_) (fun w6 h6=>?_)
 ·rw [hitm] at hx
  obtain ⟨y,hy,rfl⟩:=List.mem_map.1 hx
  obtain ⟨a,b⟩:=hwl y hy
  have:=b5s a b
  show (a4n y).length ≤ 100000
  omega
 rw [hitm,c6p]
 refine Xa0 ?_
 have hJ6:ReJ s lims time w4 p0 P0 6 w6:=⟨p0,A0,P0,P0.j.recs,hP0.next h6,rfl,rfl,hU0,c1d hU0 rfl (by rw [hF.items]; exact e9p),rfl,.refl _,.refl _ _⟩
 refine ⟨fun vs W=>∃ (u0 u1:Value) (i:Nat),vs = [u0,u1,.bool false,.int .i64 (i:Int)] ∧ i ≤ ops.length ∧ ReJ s lims time w4 p0 P0 (6 + i) W,
  (fun vs _=>match vs with | [_,_,_,.int _ i]=>ops.length - i.toNat | _=>0),⟨_,_,0,rfl,by omega,hJ6⟩,?_⟩
 rintro _ _ w7 ⟨u0,u1,i,rfl,hi,p,A,P,sure,hP,epb,eb,hU,hD,hlen,hH,hO⟩
 have h07:=h04.on hP.bl
 by_cases hin:i = ops.length
 ·subst hin
  refine Xa0 ?_
  refine d8s (fun w8 d dk hd8 f8 ho8 hr8=>?_)
  have h8:Bw w7 w8:=⟨f8.os,f8.tape,f8.output,f8.size,fun i hi=>f8.block i hi id⟩
  have s8:Sys w8 d b9h dk:=⟨hd8,hP.sys.l.below h8 hP.sys.l.size,fun i hi=>by have:=ho8 i hi; have:=hP.sys.l.size; omega⟩
  refine d1o d ?_
  refine a8w ?_
  refine a1s (hB4.next (hP.bl.on h8)) b8j (by kernel_rfl) (by kernel_rfl) ?_
  have hl7:=hP.sys.l
  have hy8:∀ i,Own d dk i ∨ Rdb dk i → w7.heap.size ≤ i:=fun i hi=>hi.elim (ho8 i) (fun e=>absurd e (hr8 i))
  have hln:l.length ≤ 50:=by
   have h1:=hU0.items
   have h2:=hU0.cnt
   rw [hitm,List.length_map] at h1
   omega
  refine d4f (w0:=w7) hl7.size h8 s8 hy8 (hset.next h07) (hlim.next (a0l a2k) h07) (l:=l) hU.vs hU.vl hwl hF.apart hln htb (fun w9 p2 A2 P2 hP2 hit2=>?_)
  refine Xa0 ?_
  refine b0k p2.pb ?_
  refine Xa0 ?_
  have hP9:=hP.next hP2.bl
  have hsm9:=b4x hH hsm
  rw [← epb]
  refine c2r hP9.st hsm9 (fun w10 v10 h10 hF10=>?_)
  obtain ⟨ad10,c10,hv10⟩:=hF10.here.isSlice
  subst hv10
  have hP10:=hP2.next h10
  have hsm2:∀ x ∈ P2.items,b3w x.held:=fun x hx=>by
   rw [hit2] at hx
   obtain ⟨y,hy,rfl⟩:=List.mem_map.1 hx
   exact c6m (hsall y (hF.mem y (List.mem_filter.1 hy).1))
  refine Xa0 ?_
  refine c2r hP10.st hsm2 (fun w11 v11 h11 hF11=>?_)
  obtain ⟨ad11,c11,hv11⟩:=hF11.here.isSlice
  subst hv11
  have hold:=(hF10.next h11).here
  have hnew:=hF11.here
  have hcold:=hP9.st.cnt
  have hcnew:=hP10.st.cnt
  have h011:=(h07.on hP10.bl).on h11
  refine Xa0 ?_
  refine ⟨fun vs W=>∃ (u2 u3:Value) (m:Nat),vs = [u2,u3,.bool false,.int .i64 (m:Int)] ∧ m ≤ P2.items.length ∧ Nx w11 W,
   (fun vs _=>match vs with | [_,_,_,.int _ m]=>P2.items.length - m.toNat | _=>0),⟨_,_,0,rfl,by omega,bR⟩,?_⟩
  rintro _ _ w12 ⟨u4,u5,m,rfl,hm,h12⟩
  have k12:=k _ (h011.on h12)
  by_cases hmn:m = P2.items.length
  ·subst hmn
   refine Xa0 ?_
   exact k12
  ·have hml:m < P2.items.length:=by omega
   have hmZ:(m:Int) < P2.items.length:=by omega
   obtain ⟨y,hy,hye⟩:∃ y ∈ l.filter (fun h=>decide (time < a5x lims h)),a1d y = P2.items[m]:=by
    have hmem:∀ x ∈ P2.items,∃ y ∈ l.filter (fun h=>decide (time < a5x lims h)),a1d y = x:=by
     rw [hit2]; intro x hx; exact List.mem_map.1 hx
    exact hmem _ (List.getElem_mem hml)
   obtain ⟨hyl,hyt⟩:=List.mem_filter.1 hy
   have hyt:=of_decide_eq_true hyt
   obtain ⟨idx,hidx,honly⟩:=e9v hF hO hyl hyt
   obtain ⟨hidl,hide⟩:=gS hidx
   obtain ⟨nb,no,rfl,hnb,ncs,hncl,hncc,nav,nyv,nkv,rfl,hNH,-⟩:=(hnew.next (a0l b0i) h12).at hml
   rw [← hye] at hncc hNH
   obtain ⟨a4,n4,d4,a5,n5,d5,a6,n6,d6,rfl,rfl,rfl⟩:=a0m hNH
   have hNH:HldR w12 y (.slice a4 n4 d4) (.slice a5 n5 d5) (.slice a6 n6 d6):=hNH
   refine Xa @hmZ ?_
   refine a1l (cs:=a6o y (.slice a4 n4 d4) (.slice a5 n5 d5) (.slice a6 n6 d6)) (b3y hncc) a3n (by kernel_rfl) (by kernel_rfl) ?_
   refine a0j a9e (fun g14 w14 h14 hg14 hH14=>?_)
   refine a0h (xs:=a6o y (.slice a4 n4 d4) (.slice a5 n5 d5) (.slice a6 n6 d6)) a8f rfl rfl (a5e _ _ _ _ _ _ _ _ _ _ _ _ _ _ _ _ _ _ _ _) hH14 rfl (fun w15 hg15 hH15=>?_)
   have h15:Bw w12 w15:=a0k h14 hg15 hg14
   refine ⟨fun vs W=>∃ (j:Nat),vs = [.bool (decide (idx < j)),.int .i64 (j:Int)] ∧ j ≤ P.items.length ∧ Nx w15 W,
    (fun vs _=>match vs with | [_,.int _ j]=>P.items.length - j.toNat | _=>0),⟨0,rfl,by omega,bR⟩,?_⟩
   rintro _ _ w16 ⟨j,rfl,hj,h16⟩
   have h1216:=h15.on h16
   have hH16:=hH15.next h16
   by_cases hjn:j = P.items.length
   ·subst hjn
    rw [decide_eq_true hidl]
    obtain ⟨vl0,vl1,vw0,vw1,vlm⟩:=b1x (hF.valid y hyl) hU.vl
    have hli:y.limit.toNat < lims.length:=by omega
    have hwl:=d9z (hF.valid y hyl) hU.vl htb hyt hli
    obtain ⟨xb,xo,hxv,hxb,xcs,hxcl,hxcc,rfl,hxI⟩:=((hlim.next (a0l a2k) (h011.on h12)).next (a0l a2k) h1216).at hli
    subst hxv
    generalize lims[y.limit.toNat] = lm at *
    have c14:w16.cell? ⟨nb,no + m * 18 + 14,none⟩ = some (.int .i64 0):=(h1216.cell hnb).trans (hncc 14 _ rfl)
    have c0:w16.cell? ⟨g14,0,none⟩ = some (.int .i64 y.limit):=a1h hH16 (j:=0) rfl
    have hl0:¬ y.limit < 0:=by omega
    have hl1:¬ (lims.length:Int) ≤ y.limit:=by omega
    refine Xa (An5 @hmZ @c14 @c0 @hl0 @hl1) ?_
    have hbd:Below w16.heap.size w16 { w16 with drawn:=w16.drawn + 1 }:=.drawn
    refine ⟨Nx { w16 with drawn:=w16.drawn + 1 },bR,rfl,?_⟩
    generalize ({ w16 with drawn:=w16.drawn + 1 }:World) = W3 at hbd ⊢
    have r0:∀ W0,Nx W3 W0 → W0.cell? ⟨g14,0,none⟩ = some (.int .i64 y.limit):=fun W0 h=>a1h (hH16.next (hbd.on h)) (j:=0) rfl
    have r1:∀ W0,Nx W3 W0 → W0.cell? ⟨g14,1,none⟩ = some (.int .i64 y.window):=fun W0 h=>a1h (hH16.next (hbd.on h)) (j:=1) rfl
    have q0:∀ W0,Nx W3 W0 → W0.cell? ⟨xb,xo + y.limit.toNat * 3,none⟩ = some (.int .i64 lm.count):=fun W0 h=>((hbd.on h).cell hxb).trans (hxcc 0 _ rfl)
    have q1:∀ W0,Nx W3 W0 → W0.cell? ⟨xb,xo + y.limit.toNat * 3 + 1,none⟩ = some (.int .i64 lm.length):=fun W0 h=>((hbd.on h).cell hxb).trans (hxcc 1 _ rfl)
    have q2:∀ W0,Nx W3 W0 → W0.cell? ⟨xb,xo + y.limit.toNat * 3 + 2,none⟩ = some (.int .i64 lm.gate):=fun W0 h=>((hbd.on h).cell hxb).trans (hxcc 2 _ rfl)
    refine Xf (fun W0 hW0=>An5 (r0 _ hW0) (r1 _ hW0) (q0 _ hW0) (q1 _ hW0) (q2 _ hW0)) (An2 @hl0 @vl1) ?_
    refine ⟨Nx,?_⟩
    apply a7y
    ·intro w17 h17
     refine Xa0 ?_
     exact b3s lm time (fun w2 h2=>⟨h17.on h2,h2,rfl⟩)
    rintro w18 h18 _ rfl
    have hge:¬ y.window ≤ a2u lm time:=by omega
    refine Xa @hge ?_
    exact ⟨⟨_,_,m + 1,rfl,by omega,(h12.on h1216).on (hbd.on h18)⟩,by show P2.items.length - (((m + 1:Nat):Int)).toNat < P2.items.length - ((m:Nat):Int).toNat; omega⟩
   ·have hjl:j < P.items.length:=by omega
    have hjZ:(j:Int) < P.items.length:=by omega
    obtain ⟨lb,lo,rfl,hlb,lcs,hlcl,hlcc,lav,lyv,lkv,rfl,hLH,-⟩:=((hold.next (a0l b0i) h12).next (a0l b0i) h1216).at hjl
    obtain ⟨a1,n1,d1,a2,n2,d2,a3,n3,d3,rfl,rfl,rfl⟩:=a0m hLH
    have hon:=honly j P.items[j] (gE hjl)
    have hij:∀ (e:j = idx),P.items[j] = a1d y:=fun e=>by subst e; exact hide
    generalize P.items[j] = xa at *
    refine Xa @hjZ ?_
    refine ⟨fun l W=>l.getD 0 undef = .bool (decide (idx < j + 1)) ∧ Nx w16 W,?_,?_⟩
    ·have hbd:Below w16.heap.size w16 { w16 with drawn:=w16.drawn + 1 }:=.drawn
     refine ⟨Nx { w16 with drawn:=w16.drawn + 1 },bR,rfl,?_⟩
     generalize ({ w16 with drawn:=w16.drawn + 1 }:World) = W3 at hbd ⊢
     have q1:∀ W0,Nx W3 W0 → ∀ (i':Nat) (u:Value),(b2h xa (.slice a1 n1 d1) (.slice a2 n2 d2) (.slice a3 n3 d3))[i']? = some u → W0.cell? ⟨lb,lo + j * 18 + i',none⟩ = some u:=fun W0 h i' u hi'=>((hbd.on h).cell hlb).trans (hlcc i' u hi')
     have qH:∀ W0,Nx W3 W0 → Holds W0 g14 29 (a6o y (.slice a4 n4 d4) (.slice a5 n5 d5) (.slice a6 n6 d6)):=fun W0 h=>hH16.next (hbd.on h)
     iterate 5 (any_goals (first
     | (with_reducible refine pX ?_)
     | ((with_reducible refine b2p ?_); (with_reducible refine a2f ⟨_,rfl⟩ (fun W0 hW0=>by (refine oG (fun X Y=>?_)); simp [go_sem,hjZ]; (first | exact Y _ _ ⟨rfl,rfl⟩ | exact ⟨by omega,Y _ _ ⟨rfl,rfl⟩⟩)) ?_))))
     refine b3z (cs:=b1p xa.held.t) (p:=lo + j * 18 + 7) (fun W h=>g0y (q1 W h)) c9f (by kernel_rfl) (by kernel_rfl) ?_
     refine a8w ?_
     refine b3z (cs:=b1p y.t) (p:=7) (fun W h i' u hi'=>a1h (qH W h) (e4c hi')) c9f (by kernel_rfl) (by kernel_rfl) ?_
     refine ⟨Nx,fun w17 h17=>?_⟩
     refine e2t xa.held.t y.t (fun w18 h18=>?_)
     have h1618:=(hbd.on h17).on h18
     by_cases e:xa.held.t = y.t
     ·have ej:=hon e
      have ex:=hij ej
      subst ex
      rw [decide_eq_true e]
      refine Xa0 ?_
      have hcd:Below w18.heap.size w18 { w18 with drawn:=w18.drawn + 1 }:=.drawn
      refine ⟨Nx { w18 with drawn:=w18.drawn + 1 },bR,rfl,?_⟩
      have h3c:=(h17.on h18).on hcd
      have h16c:=h1618.on hcd
      generalize ({ w18 with drawn:=w18.drawn + 1 }:World) = W4 at hcd h3c h16c ⊢
      have p14:∀ W0,Nx W4 W0 → W0.cell? ⟨lb,lo + j * 18 + 14,none⟩ = some (.int .i64 0):=fun W0 h=>q1 W0 (h3c.on h) 14 _ rfl
      iterate 20 (any_goals (first
      | (with_reducible first|refine pX ?_|((refine b8x ?_); refine a5u fun _=>?_)|refine zA ?_)
      | ((with_reducible refine b2p ?_); (with_reducible refine a2f ⟨_,rfl⟩ (fun W0 hW0=>by (refine oG (fun X Y=>?_)); simp [go_sem,hjZ,p14 _ hW0]; (first | exact Y _ _ ⟨rfl,rfl⟩ | exact ⟨by omega,Y _ _ ⟨rfl,rfl⟩⟩)) ?_))))
      refine e4j ?_
      refine b3z (cs:=a6o y (.slice a1 n1 d1) (.slice a2 n2 d2) (.slice a3 n3 d3)) (p:=lo + j * 18) (fun W h=>b3y (q1 W (h3c.on h))) a3n (by kernel_rfl) (by kernel_rfl) ?_
      refine e4j ?_
      refine b3z (cs:=a6o y (.slice a4 n4 d4) (.slice a5 n5 d5) (.slice a6 n6 d6)) (p:=0) (fun W h i' u hi'=>by rw [Nat.zero_add]; exact a1h (qH W (h3c.on h)) hi') a3n (by kernel_rfl) (by kernel_rfl) ?_
      refine ⟨Nx,fun w19 h19=>?_⟩
      refine g0w ?_
      refine c9c y y (HldR.next hLH (h16c.on h19)) (HldR.next hNH (h1216.on (h16c.on h19))) (fun w20 h20=>?_)
      rw [decide_eq_true rfl]
      refine Xa0 ?_
      refine ⟨?_,(h16c.on h19).on h20⟩
      show Value.bool true = Value.bool (decide (idx < j + 1))
      rw [decide_eq_true (by omega)]
     ·have hne:j ≠ idx:=fun h=>e (by rw [hij h]; rfl)
      rw [decide_eq_false e]
      refine Xa0 ?_
      refine ⟨?_,h1618⟩
      show Value.bool (decide (idx < j)) = Value.bool (decide (idx < j + 1))
      by_cases hlt:idx < j
      ·rw [decide_eq_true hlt,decide_eq_true (by omega)]
      ·rw [decide_eq_false hlt,decide_eq_false (by omega)]
    ·rintro lv2 u9 W ⟨hl2,hW⟩
     rw [hl2]
     refine Xa0 ?_
     exact ⟨⟨j + 1,rfl,by omega,h16.on hW⟩,by show P.items.length - (((j + 1:Nat):Int)).toNat < P.items.length - ((j:Nat):Int).toNat; omega⟩
 ·have hil:i < ops.length:=by omega
  have hiZ:(i:Int) < ops.length:=by omega
  obtain ⟨ob,oo,od,av,yv,kv,qv',hv,hbl,hcc,hOR⟩:=h1y hor hil
  cases hv
  obtain ⟨a1,n1,d1,a2,n2,d2,a3,n3,d3,rfl,rfl,rfl⟩:=a0m hOR.held
  obtain ⟨q1,c1,rfl⟩:=hOR.keep.isSlice
  have hcc7:∀ j u,(opC ops[i] (.slice a1 n1 d1) (.slice a2 n2 d2) (.slice a3 n3 d3) (.slice q1 ops[i].keep.length c1))[j]? = some u → w7.cell? ⟨ob,oo + i * 26 + j,none⟩ = some u:=fun j u hj=>(h07.cell hbl).trans (hcc j u hj)
  have hoc:=d1q hcc7
  have hoc2:w7.cell? ⟨ob,oo + i * 26 + 2,none⟩ = some (.int .i64 ops[i].b):=hcc7 2 _ rfl
  have hFP:FP (fun j=>j < w4.heap.size) w7 (fun W=>HldR W ops[i].held (.slice a1 n1 d1) (.slice a2 n2 d2) (.slice a3 n3 d3)):=(FP.of_stay (p:=fun W=>HldR W ops[i].held (.slice a1 n1 d1) (.slice a2 n2 d2) (.slice a3 n3 d3)) (hOR.held.next h04) (fun W hb h=>h.next hb)).next hP.bl (fun i hi=>hi)
  have hof:=hoall _ (List.getElem_mem hil)
  have hOR7:=hOR.nx h07
  generalize ops[i] = o at *
  have stay:∀ W,Nx w7 W → ReJ s lims time w4 p0 P0 (6 + (i + 1)) W:=fun W hW=>⟨p,A,P,sure,hP.next hW,epb,eb,{ hU with cnt:=by have:=hU.cnt; omega },hD,hlen,hH,hO⟩
  refine Xa @hiZ ?_
  refine ⟨fun l W=>l.getD 2 undef = .bool false ∧ ReJ s lims time w4 p0 P0 (6 + (i + 1)) W,?_,?_⟩
  ·by_cases hk1:o.kind = 1
   ·by_cases hbt:o.b ≤ time
    ·refine Xa (An5 @hiZ @hoc @hoc2 @hk1 @hbt) ?_
     refine a1l (cs:=opC o (.slice a1 n1 d1) (.slice a2 n2 d2) (.slice a3 n3 d3) (.slice q1 o.keep.length c1)) hcc7 g7t (by kernel_rfl) (by kernel_rfl) ?_
     rw [← epb]
     have htl:o.terms.length ≤ 1000000:=by
      simp only [b1r,bA,dE] at hof
      omega
     refine f7o hP o (D:=fun j=>j < w4.heap.size) (fun j hj=>⟨by have:=hP.bl.size; omega,fun e=>by have:=hP.yg j e; omega⟩) hFP hOR7 (fun _=>htl) (b4x hH hsm) (c0r hH hst) (fun w8 p8 v8 hP8 t8 e8 hL8 hc8=>?_)
     obtain ⟨r1,r2,r3,sure',hU8,hD8⟩:=d9v hU (by omega) hD o hOR.c hOR.a
     obtain ⟨z1,z2⟩:=c4b (s:=s) (lims:=lims) A P (o:=o) (by omega)
     have hH8:=hH.trans (c4a (s:=s) (lims:=lims) A P o)
     have hO8:=OldR.step hO hU (by omega) o hOR.c (by omega) hbt
     rw [z2] at hP8
     rw [z1]
     have hB8:ReJ s lims time w4 p0 P0 (6 + (i + 1)) w8:=⟨p8,_,_,sure',hP8,e8.1.trans epb,e8.2.trans eb,hU8,hD8,r3.trans hlen,hH8,hO8⟩
     generalize (c2t s lims A P o).1 = re at *
     refine Xa (An2 @r1 @r2) ?_
     exact ⟨rfl,hB8⟩
    ·refine Xa (An5 @hiZ @hoc @hoc2 @hk1 @hbt) ?_
     exact ⟨rfl,stay _ (bR)⟩
   ·by_cases hk2:o.kind = 2
    ·by_cases hbt:o.b ≤ time
     ·refine Xa (An6 @hiZ @hoc @hoc2 @hk1 @hk2 @hbt) ?_
      refine a1l (cs:=opC o (.slice a1 n1 d1) (.slice a2 n2 d2) (.slice a3 n3 d3) (.slice q1 o.keep.length c1)) hcc7 g7t (by kernel_rfl) (by kernel_rfl) ?_
      rw [← epb]
      have htl:o.terms.length ≤ 1000000:=by
       simp only [b1r,bA,dE] at hof
       omega
      refine f7o hP o (D:=fun j=>j < w4.heap.size) (fun j hj=>⟨by have:=hP.bl.size; omega,fun e=>by have:=hP.yg j e; omega⟩) hFP hOR7 (fun _=>htl) (b4x hH hsm) (c0r hH hst) (fun w8 p8 v8 hP8 t8 e8 hL8 hc8=>?_)
      obtain ⟨r1,r2,r3,sure',hU8,hD8⟩:=d9v hU (by omega) hD o hOR.c hOR.a
      obtain ⟨z1,z2⟩:=c4b (s:=s) (lims:=lims) A P (o:=o) (by omega)
      have hH8:=hH.trans (c4a (s:=s) (lims:=lims) A P o)
      have hO8:=OldR.step hO hU (by omega) o hOR.c (by omega) hbt
      rw [z2] at hP8
      rw [z1]
      have hB8:ReJ s lims time w4 p0 P0 (6 + (i + 1)) w8:=⟨p8,_,_,sure',hP8,e8.1.trans epb,e8.2.trans eb,hU8,hD8,r3.trans hlen,hH8,hO8⟩
      generalize (c2t s lims A P o).1 = re at *
      refine Xa (An2 @r1 @r2) ?_
      exact ⟨rfl,hB8⟩
     ·refine Xa (An6 @hiZ @hoc @hoc2 @hk1 @hk2 @hbt) ?_
      exact ⟨rfl,stay _ (bR)⟩
    ·refine Xa (An4 @hiZ @hoc @hk1 @hk2) ?_
     exact ⟨rfl,stay _ (bR)⟩
  ·rintro lv u9 W ⟨hl2,hW⟩
   rw [hl2]
   refine Xa0 ?_
   exact ⟨⟨_,_,i + 1,rfl,by omega,hW⟩,by show ops.length - (((i + 1:Nat):Int)).toNat < ops.length - ((i:Nat):Int).toNat; omega⟩
end
end Go.Proofs
