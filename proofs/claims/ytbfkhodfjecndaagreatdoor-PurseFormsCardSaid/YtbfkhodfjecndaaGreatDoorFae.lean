/- Parts of the proof of the seat's statements (UqB, UqC, UqD, UqE, UqF, UqG, HPz, UqH, PuLaw8, PuLaw9, PuLaw10, PuSane, UqI, UqJ): lemmas about the given translation and plain laws. No condition of their own. -/
import Derived.Test.YtbfkhodfjecndaaGreatDoorFad
import Derived.Test.YtbfkhodfjecndaaGreatDoorProg
set_option linter.all false
set_option maxRecDepth 100000
namespace Go.Proofs
open Go Go.Sh Go.RowKit FdSpec TkSpec CodeSpec PuSpec DkSpec JnSpec
section
variable {K:VK} {w w' w0 W W':World} {L:List (Addr × Value)} {rb b:Nat} {s:Stp} {lims:List Lim} {p p':Ph} {items items':List Itm} {A:Ab} {P:Pst} {h:Dk}
theorem b1k {α:Type} {l:List α} {i:Nat} {x:α} (f:α → α) (h:l[i]? = some x):l.modify i f = l.set i (f x):=by
 apply List.ext_getElem?
 intro j
 rw [List.getElem?_modify,List.getElem?_set]
 by_cases hj:i = j
 ·subst hj
  rw [if_pos rfl,h,if_pos (gS h).1]
  simp
 ·rw [if_neg hj]
  cases l[j]? <;> simp [hj]
set_option maxHeartbeats 4000000 in
theorem g1m (hP:PuR s lims w0 w p A P) {i:Nat} (hi:i < P.items.length) (kind dare:Int) (hk:InR kind) (hd:InR dare)
  (k:∀ w' p',PuR s lims w0 w' p' (a9g A P i kind dare).2.1 (a9g A P i kind dare).2.2 → PuSt p w p' w' → (p'.pb = p.pb ∧ p'.b = p.b) → K (.int .i64 (a9g A P i kind dare).1) w') :
  a0a Tryz.prog 122 #[.pointer (some ⟨p.pb,0,none⟩),.int .i64 (i:Int),.int .i64 kind,.int .i64 dare] K w:=by
 apply d7k
 unfold f5n
 have hcn:=hP.st.cnt
 have hri:InR (i:Int):=⟨by omega,by omega⟩
 have hall:∀ n ∈ [kind,(i:Int),dare],InR n:=by
  intro n hn
  simp only [List.mem_cons,List.not_mem_nil,or_false] at hn
  rcases hn with rfl | rfl | rfl
  ·exact hk
  ·exact hri
  ·exact hd
 have hrl:=b6h hall (by simp)
 have hPd:=hP.next (.drawn (B:=w.heap.size))
 have hw0:Below w.heap.size w { w with drawn:=w.drawn + 1 }:=.drawn
 refine ⟨Nx { w with drawn:=w.drawn + 1 },bR,rfl,?_⟩
 generalize ({ w with drawn:=w.drawn + 1 }:World) = W1 at hPd hw0 ⊢
 have C:=hPd.st.pur
 have f7:∀ W0,Nx W1 W0 → W0.cell? ⟨p.pb,7,none⟩ = some (jnP p.q):=fun W0 h=>(h.cell C.lt).trans (C.cell 7 (by simp))
 refine Xc (fun W0 hW0=>f7 _ hW0) ?_
 refine ⟨Nx,?_⟩
 refine b0h (fun v w'=>Ints w' v [kind,(i:Int),dare]) (fun v w w1 hS h=>h.next hS) ?_ ?_
 ·intro w2 h2
  exact g8f _ _ _ (a1f hk) (a1f hri) (a1f hd) (fun v w3 h3 hi=>⟨h2.on h3,h3,hi⟩)
 apply a2l
 ·intro w2 h2 v hv
  exact Cd.pNums_ok _ v (hPd.next h2).sys.l.toLaid (a3j hv) hall (by unfold a1y a0d at hrl; omega) (fun w3 h3=>⟨h2.on h3,h3,rfl⟩)
 rintro w2 h2 v1 - _ rfl
 have hw2:=hw0.on h2
 have hP2:=hPd.next h2
 refine c3e hP2.sys hP2.jn ⟨by omega,by omega⟩ (a1y [kind,(i:Int),dare]) (by omega) (fun w3 h3 v3 s3 j3 t3=>?_)
 obtain ⟨hP3,ta⟩:=hP2.jour s3 j3 t3
 have eK:a9g A P i kind dare = if (a0j A 0 P.j (a1y [kind,(i:Int),dare])).1 ≠ 0 then ((a0j A 0 P.j (a1y [kind,(i:Int),dare])).1,(a0j A 0 P.j (a1y [kind,(i:Int),dare])).2.1,⟨(a0j A 0 P.j (a1y [kind,(i:Int),dare])).2.2,P.items⟩)
  else if (a6s (a0j A 0 P.j (a1y [kind,(i:Int),dare])).2.1 0 (a0j A 0 P.j (a1y [kind,(i:Int),dare])).2.2).1 ≠ 0 then ((a6s (a0j A 0 P.j (a1y [kind,(i:Int),dare])).2.1 0 (a0j A 0 P.j (a1y [kind,(i:Int),dare])).2.2).1,(a6s (a0j A 0 P.j (a1y [kind,(i:Int),dare])).2.1 0 (a0j A 0 P.j (a1y [kind,(i:Int),dare])).2.2).2.1,⟨(a6s (a0j A 0 P.j (a1y [kind,(i:Int),dare])).2.1 0 (a0j A 0 P.j (a1y [kind,(i:Int),dare])).2.2).2.2,P.items.modify i fun x=>{ x with dare:=dare,status:=3 }⟩)
  else (0,(a6s (a0j A 0 P.j (a1y [kind,(i:Int),dare])).2.1 0 (a0j A 0 P.j (a1y [kind,(i:Int),dare])).2.2).2.1,⟨(a6s (a0j A 0 P.j (a1y [kind,(i:Int),dare])).2.1 0 (a0j A 0 P.j (a1y [kind,(i:Int),dare])).2.2).2.2,P.items.modify i fun x=>{ x with dare:=dare,status:=1,lent:=decide (kind = 3) }⟩):=rfl
 generalize a0j A 0 P.j (a1y [kind,(i:Int),dare]) = a at *
 have hx:P.items[i]? = some P.items[i]:=gE hi
 rw [b1k _ hx,b1k _ hx] at eK
 generalize P.items[i] = x at *
 by_cases he:a.1 = 0
 ·rw [if_neg (by rw [he]; simp)] at eK
  rw [he]
  obtain ⟨g,c,av,yv,kv,hgv,hgl,hH,hI,hJ,hc⟩:=hP3.st.at hx
  simp only at hgv
  have c6:=hP3.st.pur.cell 6 (by simp)
  simp only [List.getElem_cons_zero,List.getElem_cons_succ] at c6
  rw [hgv] at c6
  have hiZ:(i:Int) < P.items.length:=by omega
  refine Xa (An2 @c6 @hiZ) ?_
  refine hP3.st.put1 hP3.mu_lt (y:={ x with dare:=dare }) hx hgv (by omega) a4y rfl rfl (fun _ _ _=>rfl) rfl ⟨hI,a1f hd⟩ (fun w4 st4 t4=>?_)
  have hP4:=hP3.it st4 t4
  have c7:=hP4.st.pur.cell 7 (by simp)
  simp only [List.getElem_cons_zero,List.getElem_cons_succ] at c7
  refine Xa @c7 ?_
  refine e9b hP4.sys hP4.jn (fun w5 h5 s5 j5 t5=>?_)
  obtain ⟨hP5,tb⟩:=hP4.jour s5 j5 t5
  simp only at hP5 eK
  generalize a6s a.2.1 0 a.2.2 = bb at *
  have hx5:(P.items.set i { x with dare:=dare })[i]? = some { x with dare:=dare }:=List.getElem?_set_self hi
  have hlen:(P.items.set i { x with dare:=dare }).length = P.items.length:=List.length_set
  have T:=((PuSt.below hw2).trans ta).trans (t4.st.trans tb)
  by_cases hs:bb.1 = 0
  ·rw [if_neg (by rw [hs]; simp)] at eK
   rw [eK] at k
   rw [hs]
   refine Xa0 ?_
   refine hP5.st.put1 hP5.mu_lt (y:={ x with dare:=dare,status:=1 }) hx5 (by rw [hlen]; exact hgv) (by omega) a4y rfl rfl (fun _ _ _=>rfl) rfl ⟨c2m 1 (by omega),a1f hd⟩ (fun w6 st6 t6=>?_)
   have hP6:=hP5.it st6 t6
   rw [List.set_set] at hP6
   refine Xa0 ?_
   have hx6:(P.items.set i { x with dare:=dare,status:=1 })[i]? = some { x with dare:=dare,status:=1 }:=List.getElem?_set_self hi
   refine hP6.st.put1 hP6.mu_lt (y:={ x with dare:=dare,status:=1,lent:=decide (kind = 3) }) hx6 (by rw [List.length_set]; exact hgv) (by omega) b7v rfl rfl (fun _ _ _=>rfl) rfl ⟨c2m 1 (by omega),a1f hd⟩ (fun w7 st7 t7=>?_)
   have hP7:=hP6.it st7 t7
   rw [List.set_set] at hP7
   refine Xa0 ?_
   exact k w7 _ hP7 (T.trans (t6.st.trans t7.st)) ⟨rfl,rfl⟩
  ·rw [if_pos hs] at eK
   rw [eK] at k
   refine Xa @hs ?_
   refine hP5.st.put1 hP5.mu_lt (y:={ x with dare:=dare,status:=3 }) hx5 (by rw [hlen]; exact hgv) (by omega) a4y rfl rfl (fun _ _ _=>rfl) rfl ⟨c2m 3 (by omega),a1f hd⟩ (fun w6 st6 t6=>?_)
   have hP6:=hP5.it st6 t6
   rw [List.set_set] at hP6
   refine Xa0 ?_
   exact k w6 _ hP6 (T.trans t6.st) ⟨rfl,rfl⟩
 ·rw [if_pos he] at eK
  rw [eK] at k
  have k:=k w3 _ hP3 ((PuSt.below hw2).trans ta) ⟨rfl,rfl⟩
  refine Xa @he ?_
  exact k
theorem d3v (lims:List Lim) (items:List Itm) (limit now:Int):(a1w lims items limit now).2 = 1 ∨ (a1w lims items limit now).2 = 15 ∨ ((a1w lims items limit now).2 = 0 ∧ (a1w lims items limit now).1 < items.length):=by
 unfold a1w
 split
 ·exact .inl rfl
 ·cases h:items.findIdx? (a8t lims limit now) with
  | none=>exact .inr (.inl rfl)
  | some i=>exact .inr (.inr ⟨rfl,(List.findIdx?_eq_some_iff_getElem.1 h).1⟩)
theorem b7y (hP:PuR s lims w0 w p A P) (limit now dare:Int) (hd:InR dare)
  (k:∀ w' p',PuR s lims w0 w' p' (a6z s lims A P limit now dare).2.1 (a6z s lims A P limit now dare).2.2 → PuSt p w p' w' → (p'.pb = p.pb ∧ p'.b = p.b) → K (.tuple #[.int .i64 (a6z s lims A P limit now dare).1.1,.int .i64 (a6z s lims A P limit now dare).1.2]) w') :
  a0a Tryz.prog 42 #[.pointer (some ⟨p.pb,0,none⟩),.int .i64 limit,.int .i64 now,.int .i64 dare] K w:=by
 apply e7e
 unfold g3k
 refine e4s hP.st limit now (fun w1 h1=>?_)
 have hP1:=hP.next h1
 have hcv:=d3v lims P.items limit now
 have eR:a6z s lims A P limit now dare = if (a1w lims P.items limit now).2 = 1 ∨ dare < 1 ∨ s.g.Q ≤ dare then ((0,1),A,P)
  else if (a1w lims P.items limit now).2 ≠ 0 then ((0,(a1w lims P.items limit now).2),A,P)
  else if (a9g A P (a1w lims P.items limit now).1 1 dare).1 ≠ 0 then ((0,(a9g A P (a1w lims P.items limit now).1 1 dare).1),(a9g A P (a1w lims P.items limit now).1 1 dare).2)
  else (((a1w lims P.items limit now).1,0),(a9g A P (a1w lims P.items limit now).1 1 dare).2):=rfl
 generalize a1w lims P.items limit now = c at *
 obtain ⟨i,e⟩:=c
 simp only at *
 have hc1:=hP1.st.pur.cell 1 (by simp)
 simp only [List.getElem_cons_zero,List.getElem_cons_succ] at hc1
 have bad:(e = 1 ∨ dare < 1 ∨ s.g.Q ≤ dare) → K (.tuple #[.int .i64 0,.int .i64 1]) w1:=fun hb=>by
  rw [if_pos hb] at eR
  rw [eR] at k
  exact k w1 p hP1 (PuSt.below h1) ⟨rfl,rfl⟩
 by_cases h1e:e = 1
 ·have bad:=bad (.inl h1e)
  refine Xa @h1e ?_
  exact bad
 by_cases hd1:dare < 1
 ·have bad:=bad (.inr (.inl hd1))
  refine Xa (An2 @h1e @hd1) ?_
  exact bad
 by_cases hd2:s.g.Q ≤ dare
 ·have bad:=bad (.inr (.inr hd2))
  refine Xa (An4 @h1e @hd1 @hd2 @hc1) ?_
  exact bad
 rw [if_neg (by omega)] at eR
 refine Xa (An4 @h1e @hd1 @hd2 @hc1) ?_
 by_cases h0:e = 0
 ·subst h0
  rw [if_neg (by simp)] at eR
  have hi:i < P.items.length:=by omega
  refine ⟨fun l W=>∃ p',l.getD 0 undef = .int .i64 (a9g A P i 1 dare).1 ∧ PuR s lims w0 W p' (a9g A P i 1 dare).2.1 (a9g A P i 1 dare).2.2 ∧ PuSt p w p' W ∧ (p'.pb = p.pb ∧ p'.b = p.b),?_,?_⟩
  ·refine Xa0 ?_
   refine g1m hP1 hi 1 dare ⟨by omega,by omega⟩ hd (fun w2 p2 a b c=>?_)
   refine Xa0 ?_
   exact ⟨p2,rfl,a,(PuSt.below h1).trans b,c⟩
  ·rintro l u W ⟨p2,hl,a,b,c⟩
   rw [hl]
   by_cases he:(a9g A P i 1 dare).1 = 0
   ·rw [if_neg (by rw [he]; simp)] at eR
    rw [eR] at k
    have k:=k W p2 a b c
    refine Xa @he ?_
    exact k
   ·rw [if_pos he] at eR
    rw [eR] at k
    have k:=k W p2 a b c
    refine Xa @he ?_
    exact k
 ·rw [if_pos h0] at eR
  rw [eR] at k
  refine ⟨fun l W=>W = w1 ∧ l.getD 0 undef = .int .i64 e,?_,?_⟩
  ·refine Xa @h0 ?_
   exact ⟨rfl,rfl⟩
  ·rintro l u W ⟨rfl,hl⟩
   rw [hl]
   have k:=k W p hP1 (PuSt.below h1) ⟨rfl,rfl⟩
   refine Xa @h0 ?_
   exact k
theorem b4n (w:World):(Instr.alloc 84 true (.tuple #[])).run Tryz.prog w = .ok (.pointer (some ⟨w.heap.size,0,none⟩)) (w.alloc (.cells [.int .i64 0,.slice none 0 0].toArray 84)):=by kernel_rfl
theorem e4t (w:World):(Instr.alloc 93 true (.tuple #[])).run Tryz.prog w = .ok (.pointer (some ⟨w.heap.size,0,none⟩)) (w.alloc (.cells itmZ.toArray 93)):=by kernel_rfl
theorem e4u (w:World):(sizeOf 93).run Tryz.prog w = .ok 18 w:=by kernel_rfl
theorem b2i (w:World):(sizeOf 84).run Tryz.prog w = .ok 2 w:=by kernel_rfl
theorem c2n:Tryz.prog.underlying 84 = some ((Tryz.prog.underlying 84).getD default):=by kernel_rfl
theorem b0a (d:Int) (ad:Option Addr) (n c:Nat):∀ u ∈ ([.int .i64 d,.slice ad n c]:List Value),u.oneCell' = true:=by
 intro u hu
 simp only [List.mem_cons,List.not_mem_nil,or_false] at hu
 rcases hu with rfl | rfl <;> rfl
@[reducible] def d3w (s:Stp) (x:Itm):Spd × Bool:=e5n s x.held.attrs x.held.bl x.dare
set_option maxHeartbeats 4000000 in
theorem g7r (hP:StR s lims w p items) {i:Nat} {x:Itm} (hx:items[i]? = some x) (k:∀ w' ov,Bw w w' → Fresh w w' (fun W=>Ints W ov (d3w s x).1.answers) → K (.agg #[.int .i64 (d3w s x).1.dare,ov]) w') :
  a0a Tryz.prog 124 #[.pointer (some ⟨p.pb,0,none⟩),.int .i64 (i:Int)] K w:=by
 apply d7l
 unfold f5o
 refine a0m b4n (fun g4 w1 h1 hg4 hH4=>?_)
 have hP1:=hP.next h1
 obtain ⟨g,c,av,yv,kv,hgv,hgl,hH,hI,hJ,hc⟩:=hP1.at hx
 obtain ⟨a1,n1,d1,a2,n2,d2,a3,n3,d3,rfl,rfl,rfl⟩:=a1k hH
 have c6:=hP1.pur.cell 6 (by simp)
 simp only [List.getElem_cons_zero,List.getElem_cons_succ] at c6
 rw [hgv] at c6
 have hil:=(gS hx).1
 have hiZ:(i:Int) < items.length:=by omega
 refine Xb4 (An2 @c6 @hiZ) ?_
 refine Xb1 @hiZ ?_
 refine a3n (cs:=c8w x (.slice a1 n1 d1) (.slice a2 n2 d2) (.slice a3 n3 d3)) hc c0h (by kernel_rfl) (by kernel_rfl) ?_
 refine a0m e4t (fun g5 w5 h5 hg5 hH5=>?_)
 refine a0i e4u rfl rfl (b7x _ _ _ _ _ _ _ _ _ _ _ _ _ _ _ _ _ _ _ _ _ _ _ _) hH5 rfl (fun w6 hg6 hH6=>?_)
 have hs1:=h1.size
 have hs5:=h5.size
 have hs6:=hg6.size
 have h16:Bw w1 w6:=h5.grown hg6 (by omega) (fun j e=>by cases e; omega)
 have hPd:=(hP1.next h16).next (.drawn (B:=w6.heap.size))
 have hH6:=hH6.next (.drawn (B:=w6.heap.size))
 have hH4:=(hH4.next h16).next (.drawn (B:=w6.heap.size))
 have hHd:=(hH.next h16).next (.drawn (B:=w6.heap.size))
 have hw:=(h1.on h16).on (.drawn (B:=w6.heap.size))
 refine ⟨Nx { w6 with drawn:=w6.drawn + 1 },bR,?_⟩
 generalize ({ w6 with drawn:=w6.drawn + 1 }:World) = W7 at hPd hH6 hH4 hHd hw ⊢
 obtain ⟨bvad,bvc,hbv⟩:=hPd.set.ints.isSlice
 have C:=hPd.pur
 unfold puC at C
 rw [hbv] at C
 have e0:∀ W0,Nx W7 W0 → W0.cell? ⟨p.pb,0,none⟩ = some (.int .i64 s.g.P) ∧ W0.cell? ⟨p.pb,1,none⟩ = some (.int .i64 s.g.Q) ∧ W0.cell? ⟨p.pb,2,none⟩ = some (.int .i64 s.g.G) ∧ W0.cell? ⟨p.pb,3,none⟩ = some (.slice bvad s.bases.length bvc) ∧ W0.cell? ⟨p.pb,4,none⟩ = some (.int .i64 s.blind):=fun W0 h=>⟨(h.cell C.lt).trans (C.cell 0 (by simp)),(h.cell C.lt).trans (C.cell 1 (by simp)),(h.cell C.lt).trans (C.cell 2 (by simp)),(h.cell C.lt).trans (C.cell 3 (by simp)),(h.cell C.lt).trans (C.cell 4 (by simp))⟩
 have e1:∀ W0,Nx W7 W0 → W0.cell? ⟨g5,2,none⟩ = some (.slice a1 n1 d1) ∧ W0.cell? ⟨g5,3,none⟩ = some (.int .i64 x.held.bl.s) ∧ W0.cell? ⟨g5,4,none⟩ = some (.int .i64 x.held.bl.u) ∧ W0.cell? ⟨g5,5,none⟩ = some (.int .i64 x.held.bl.v) ∧ W0.cell? ⟨g5,6,none⟩ = some (.slice a2 n2 d2) ∧ W0.cell? ⟨g5,15,none⟩ = some (.int .i64 x.dare):=fun W0 h=>⟨(h.cell hH6.lt).trans (hH6.cell 2 (by simp)),(h.cell hH6.lt).trans (hH6.cell 3 (by simp)),(h.cell hH6.lt).trans (hH6.cell 4 (by simp)),(h.cell hH6.lt).trans (hH6.cell 5 (by simp)),(h.cell hH6.lt).trans (hH6.cell 6 (by simp)),(h.cell hH6.lt).trans (hH6.cell 15 (by simp))⟩
 have hS:=hPd.set
 rw [hbv] at hS
 have hBl:BldR W7 x.held.bl (.slice a2 n2 d2):=⟨a1f hHd.wf.s,a1f hHd.wf.u,a1f hHd.wf.v,hHd.ys⟩
 have h4l:=hH4.lt
 have fin:∀ (W:World) (ov:Value) (g9:Nat),Nx W7 W → W7.heap.size ≤ g9 → Holds W g9 84 [.int .i64 (d3w s x).1.dare,ov] → Ints W ov (d3w s x).1.answers → (∀ i,Value.inBlock ov = some i → W7.heap.size ≤ i) → Nx W7 W ∧ oM Tryz.prog (Go.Op.load 84 (.tmp 0)) 84 [.pointer (some ⟨g9,0,none⟩)] (fun v33 w=>oM Tryz.prog (Go.Op.store 84 (.tmp 0) (.tmp 1)) 0 [.pointer (some ⟨g4,0,none⟩),v33] (fun _ w=>∃ r,(do loadVar 84 (← asAddr (.pointer (some ⟨g4,0,none⟩))):Sem Value).run Tryz.prog w = .ok r w ∧ K r w) w) W:=fun W ov g9 h hg9 hH hov hovB=>by
  refine ⟨h,?_⟩
  obtain ⟨oa,oc,rfl⟩:=hov.isSlice
  refine a2k hH c2n (by kernel_rfl) (by kernel_rfl) ?_
  have hg4w:g4 < W.heap.size:=lL h4l h.size
  refine a0i b2i rfl rfl (b0a _ _ _ _) (hH4.next h) rfl (fun w12 hg12 hH12=>?_)
  refine a5p hH12 c2n (by kernel_rfl) (by kernel_rfl) ?_
  refine k w12 _ ((hw.on h).grown hg12 (by have:=hw.size; have:=h.size; omega) (fun j e=>by cases e; exact hg4)) ?_
  have hws:=hw.size
  exact (hov.fp.fr (Fr.of_by hg12) (fun j hj=>⟨hj.2,fun e=>by have:=hovB j hj.1; omega⟩)).mono (fun j hj=>⟨by have:=hovB j hj.1; omega,by have:=hj.2; have:=hg12.size; omega⟩)
 refine Xc (fun W0 hW0=>An2 (e0 _ hW0) (e1 _ hW0)) ?_
 refine ⟨?_,?_⟩
 ·refine f8g s x.held.bl x.dare hJ hS hHd.attrs hBl (fun w8 ov h8 hov hvB=>⟨h8,?_⟩)
  iterate 3 (any_goals (first
  | (with_reducible refine pX ?_)
  | ((with_reducible refine b4u ?_); (with_reducible refine a3h ⟨_,rfl⟩ (fun W0 hW0=>by (refine oG (fun X Y=>?_)); simp [go_sem,e0 _ hW0]; (first | exact Y _ _ ⟨rfl,rfl⟩ | exact ⟨by omega,Y _ _ ⟨rfl,rfl⟩⟩)) ?_))))
  refine a0m b4n (fun g9 w9 h9 hg9 hH9=>⟨h8.on h9,?_⟩)
  obtain ⟨oa,oc,rfl⟩:=hov.isSlice
  refine a0i (xs:=[.int .i64 (d3w s x).1.dare,.slice oa (d3w s x).1.answers.length oc]) b2i rfl rfl (b0a _ _ _ _) hH9 rfl (fun w10 hg10 hH10=>?_)
  have h8s:=h8.size
  have h10:=a0y h9 hg10 hg9
  exact ⟨h8.on h10,fin w10 _ g9 (h8.on h10) (by omega) hH10 (hov.next h10) hvB⟩
 ·refine a0m b4n (fun g9 w9 h9 hg9 hH9=>⟨h9,?_⟩)
  refine f8g s x.held.bl x.dare hJ (hS.next h9) (hHd.attrs.next h9) (hBl.next h9) (fun w8 ov h8 hov hvB=>⟨h9.on h8,?_⟩)
  refine Xc (fun W0 hW0=>e0 _ hW0) ?_
  obtain ⟨oa,oc,rfl⟩:=hov.isSlice
  have h9l:=hH9.lt
  refine a0i (xs:=[.int .i64 (d3w s x).1.dare,.slice oa (d3w s x).1.answers.length oc]) b2i rfl rfl (b0a _ _ _ _) (hH9.next h8) rfl (fun w10 hg10 hH10=>?_)
  have h9s:=h9.size
  have h710:Nx W7 w10:=(h9.on h8).grown hg10 (by have:=(h9.on h8).size; omega) (fun j e=>by cases e; exact hg9)
  exact ⟨h710,fin w10 _ g9 h710 hg9 hH10 (hov.fp.fr (Fr.of_by hg10) (fun j hj=>⟨hj.2,fun e=>by have:=hvB j hj.1; omega⟩)).here (fun j hj=>by have:=hvB j hj; omega)⟩
theorem g1n (hP:StR s lims w p items) (i:Int) (k0:(i < 0 ∨ (items.length:Int) ≤ i) → K (.tuple #[.pointer none,.bool false]) w)
  (k1:∀ g c,0 ≤ i → i < items.length → p.iv = .slice (some ⟨g,0,none⟩) items.length c → K (.tuple #[.pointer (some ⟨g,i.toNat * 18,none⟩),.bool true]) w) :
  a0a Tryz.prog 123 #[.pointer (some ⟨p.pb,0,none⟩),.int .i64 i] K w:=by
 apply d7m
 unfold f5p
 obtain ⟨iad,ic,hiv⟩:=hP.items.isSlice
 have c6:=hP.pur.cell 6 (by simp)
 simp only [List.getElem_cons_zero,List.getElem_cons_succ] at c6
 rw [hiv] at c6
 by_cases h0:i < 0
 ·have k0:=k0 (.inl h0)
  refine Xa @h0 ?_
  exact k0
 by_cases h1:(items.length:Int) ≤ i
 ·have k0:=k0 (.inr h1)
  refine Xa (An3 @h0 @h1 @c6) ?_
  exact k0
 obtain ⟨g,c,av,yv,kv,hgv,_⟩:=hP.at (gE (show i.toNat < items.length by omega))
 rw [hiv] at hgv
 cases hgv
 have h0':0 ≤ i:=by omega
 have h1':i < items.length:=by omega
 have k1:=k1 g _ h0' h1' hiv
 refine Xa (An5 @h0 @h1 @h0' @h1' @c6) ?_
 exact k1
def b2j (s:Stp) (items:List Itm) (i:Int):Spd × Int:=
 if i < 0 then (⟨0,[]⟩,4)
 else match items[i.toNat]? with
  | none=>(⟨0,[]⟩,4)
  | some x=>if x.status = 1 ∨ x.status = 2 then ((d3w s x).1,0) else (⟨0,[]⟩,7)
theorem c6h (hP:StR s lims w p items) (i:Int) (k:∀ w' ov,Bw w w' → Fresh w w' (fun W=>Ints W ov (b2j s items i).1.answers) → K (.tuple #[.agg #[.int .i64 (b2j s items i).1.dare,ov],.int .i64 (b2j s items i).2]) w') :
  a0a Tryz.prog 43 #[.pointer (some ⟨p.pb,0,none⟩),.int .i64 i] K w:=by
 apply e7f
 unfold g3l
 refine a0m b4n (fun g4 w1 h1 hg4 hH4=>?_)
 have hP1:=hP.next h1
 have k2:∀ r,b2j s items i = r → ∀ w' ov,Bw w w' → Fresh w w' (fun W=>Ints W ov r.1.answers) → K (.tuple #[.agg #[.int .i64 r.1.dare,ov],.int .i64 r.2]) w':=fun r e=>by rw [← e]; exact k
 unfold b2j at k2
 clear k
 have zero:∀ e,(∀ w' ov,Bw w w' → Fresh w w' (fun W=>Ints W ov []) → K (.tuple #[.agg #[.int .i64 0,ov],.int .i64 e]) w') →
   oM Tryz.prog (Go.Op.store 84 (.tmp 0) (.tmp 1)) 0 [.pointer (some ⟨g4,0,none⟩),.agg #[.int .i64 0,.slice none 0 0]] (fun _ w=>∃ r,(do loadVar 84 (← asAddr (.pointer (some ⟨g4,0,none⟩))):Sem Value).run Tryz.prog w = .ok r w ∧ K (.tuple #[r,.int .i64 e]) w) w1:=fun e k=>by
  refine a0i b2i rfl rfl (b0a 0 none 0 0) hH4 rfl (fun w2 hg2 hH2=>?_)
  refine a5p hH2 c2n (by kernel_rfl) (by kernel_rfl) ?_
  exact k w2 _ (h1.grown hg2 h1.size (fun j e=>by cases e; exact hg4)) (fun _ _ _ _ _ _=>Ints.nil _)
 refine g1n hP1 i (fun hb=>?_) (fun g c h0 hl hgv=>?_)
 ·have e:(if i < 0 then ((⟨0,[]⟩:Spd),(4:Int)) else match items[i.toNat]? with
   | none=>(⟨0,[]⟩,4)
   | some x=>if x.status = 1 ∨ x.status = 2 then ((d3w s x).1,0) else (⟨0,[]⟩,7)) = (⟨0,[]⟩,4):=by
   rcases hb with hb | hb
   ·rw [if_pos hb]
   ·rw [if_neg (by omega),List.getElem?_eq_none (by omega)]
  have k:=zero 4 (k2 _ e)
  refine Xa0 ?_
  exact k
 ·have hx:items[i.toNat]? = some items[i.toNat]:=gE (by omega)
  rw [if_neg (by omega),hx] at k2
  simp only at k2
  generalize items[i.toNat] = x at *
  obtain ⟨g',c',av,yv,kv,hgv',hgl,hH,hI,hJ,hc⟩:=hP1.at hx
  rw [hgv] at hgv'
  cases hgv'
  have c14:=hc 14 _ rfl
  by_cases hs:x.status = 1 ∨ x.status = 2
  ·rw [if_pos hs] at k2
   have k:=k2 _ rfl
   have tail:a0a Tryz.prog 124 #[.pointer (some ⟨p.pb,0,none⟩),.int .i64 i] (fun v34 w=>oM Tryz.prog (Go.Op.store 84 (.tmp 0) (.tmp 1)) 0 [.pointer (some ⟨g4,0,none⟩),v34] (fun _ w=>∃ r,(do loadVar 84 (← asAddr (.pointer (some ⟨g4,0,none⟩))):Sem Value).run Tryz.prog w = .ok r w ∧ K (.tuple #[r,.int .i64 0]) w) w) w1:=by
    have ei:(i.toNat:Int) = i:=by omega
    rw [← ei]
    refine g7r hP1 hx (fun w2 ov h2 hF=>?_)
    obtain ⟨oa,oc,rfl⟩:=hF.here.isSlice
    have h4l:=hH4.lt
    refine a0i b2i rfl rfl (b0a _ _ _ _) (hH4.next h2) rfl (fun w3 hg3 hH3=>?_)
    refine a5p hH3 c2n (by kernel_rfl) (by kernel_rfl) ?_
    have h12:=h1.on h2
    exact k w3 _ (h12.grown hg3 (by have:=h12.size; omega) (fun j e=>by cases e; exact hg4)) ((FP.fr hF (Fr.of_by hg3) (fun j hj=>⟨hj.2,fun e=>by omega⟩)).mono (fun j hj=>⟨by have:=h1.size; omega,by have:=hg3.size; omega⟩))
   by_cases h1s:x.status = 1
   ·refine Xa (An2 @c14 @h1s) ?_
    exact tail
   ·have h2s:x.status = 2:=hs.resolve_left h1s
    refine Xa (An3 @c14 @h1s @h2s) ?_
    exact tail
  ·rw [if_neg hs] at k2
   have k:=zero 7 (k2 _ rfl)
   have h1s:¬ x.status = 1:=fun e=>hs (.inl e)
   have h2s:¬ x.status = 2:=fun e=>hs (.inr e)
   refine Xa (An3 @c14 @h1s @h2s) ?_
   exact k
theorem f2t (hP:StR s lims w p items) (limit now:Int) (k:∀ w',Bw w w' → K (.int .i64 (f0e lims items limit now)) w') :
  a0a Tryz.prog 44 #[.pointer (some ⟨p.pb,0,none⟩),.int .i64 limit,.int .i64 now] K w:=by
 apply e7h
 unfold g3n
 obtain ⟨lvad,lvc,hlv⟩:=hP.lim.isSlice
 obtain ⟨ivad,ivc,hiv⟩:=hP.items.isSlice
 have C:=hP.pur
 unfold puC at C
 rw [hlv,hiv] at C
 have c5:=C.cell 5 (by simp)
 have c6:=C.cell 6 (by simp)
 simp only [List.getElem_cons_zero,List.getElem_cons_succ] at c5 c6
 have eL:f0e lims items limit now = if decide (limit < 0) || decide ((lims.length:Int) ≤ limit) || !a4l now then 0 else ((items.filter (a8t lims limit now)).length:Int):=rfl
 rw [eL] at k
 clear eL
 by_cases hl0:limit < 0
 ·rw [if_pos (by simp [hl0])] at k
  have k:=k _ (bR)
  refine Xa @hl0 ?_
  exact k
 by_cases hl1:(lims.length:Int) ≤ limit
 ·rw [if_pos (by simp [hl1])] at k
  have k:=k _ (bR)
  refine Xa (An3 @hl0 @hl1 @c5) ?_
  exact k
 refine Xa (An3 @hl0 @hl1 @c5) ?_
 refine a6q now ?_
 cases ht:a4l now with
 | false=>
  rw [if_pos (by simp [ht])] at k
  have k:=k _ (bR)
  refine Xa0 ?_
  exact k
 | true=>
 rw [if_neg (by simp [hl0,hl1,ht])] at k
 refine Xa @c6 ?_
 have hcn:=hP.cnt
 refine ⟨fun vs W=>∃ (i:Nat),vs = [.int .i64 (((items.take i).filter (a8t lims limit now)).length:Int),.int .i64 (i:Int)] ∧ i ≤ items.length ∧ Nx w W,
  (fun vs _=>match vs with | [_,.int _ i]=>items.length - i.toNat | _=>0),⟨0,rfl,by omega,bR⟩,?_⟩
 rintro _ _ w2 ⟨i,rfl,hi,h2⟩
 by_cases hin:i = items.length
 ·subst hin
  rw [List.take_length]
  have k:=k _ h2
  refine Xa0 ?_
  exact k
 ·have hil:i < items.length:=by omega
  have hiZ:(i:Int) < items.length:=by omega
  have hx:=gE hil
  have hP2:=hP.next h2
  obtain ⟨g,c,av,yv,kv,hgv,hgl,hH,hI,hJ,hc⟩:=hP2.at hx
  obtain ⟨a1,n1,d1,a2,n2,d2,a3,n3,d3,rfl,rfl,rfl⟩:=a1k hH
  rw [hiv] at hgv
  cases hgv
  have hfl:((items.take (i + 1)).filter (a8t lims limit now)).length = ((items.take i).filter (a8t lims limit now)).length + (if a8t lims limit now items[i] then 1 else 0):=by
   rw [List.take_succ_eq_append_getElem hil,List.filter_append,List.length_append]
   cases hf:a8t lims limit now items[i] <;> simp [hf]
  have hfb:((items.take i).filter (a8t lims limit now)).length ≤ 400:=by
   have:=List.length_filter_le (a8t lims limit now) (items.take i)
   rw [List.length_take] at this
   omega
  generalize items[i] = x at *
  refine Xa @hiZ ?_
  refine ⟨fun l W=>l.getD 0 undef = .int .i64 (((items.take (i + 1)).filter (a8t lims limit now)).length:Int) ∧ Nx w W,?_,?_⟩
  ·refine Xa @hiZ ?_
   refine a3n (cs:=c8w x (.slice a1 n1 d1) (.slice a2 n2 d2) (.slice a3 n3 d3)) hc c0h (by kernel_rfl) (by kernel_rfl) ?_
   refine a0m e4t (fun g5 w5 h5 hg5 hH5=>?_)
   refine a0i e4u rfl rfl (b7x _ _ _ _ _ _ _ _ _ _ _ _ _ _ _ _ _ _ _ _ _ _ _ _) hH5 rfl (fun w6 hg6 hH6=>?_)
   refine a2k hH6 c0h (by kernel_rfl) (by kernel_rfl) ?_
   have h6:Bw w2 w6:=a0y h5 hg6 hg5
   refine e4r (hP2.next h6) x (hH.next h6) now (by omega) (by omega) (fun w7 h7=>?_)
   have h27:=h2.on (h6.on h7)
   cases hf:a8t lims limit now x with
   | false=>
    rw [hf] at hfl
    simp only [Bool.false_eq_true,if_false,Nat.add_zero] at hfl
    refine Xa0 ?_
    exact ⟨by rw [hfl]; rfl,h27⟩
   | true=>
    rw [hf] at hfl
    simp only [if_true] at hfl
    refine Xa0 ?_
    exact ⟨by rw [hfl]; rfl,h27⟩
  ·rintro l u W ⟨hl,hW⟩
   rw [hl]
   refine Xa0 ?_
   exact ⟨⟨i + 1,rfl,by omega,hW⟩,by show items.length - (((i + 1:Nat):Int)).toNat < items.length - ((i:Nat):Int).toNat; omega⟩
end
abbrev SlP:=Option Addr × Nat × Nat
@[reducible] def slV (y:SlP):Value:=.slice y.1 y.2.1 y.2.2
abbrev ItP:=Itm × SlP × SlP × SlP
@[reducible] def f2u (y:ItP):List Value:=c8w y.1 (slV y.2.1) (slV y.2.2.1) (slV y.2.2.2)
@[reducible] def g2c (w:World) (y:ItP):Prop:=HldR w y.1.held (slV y.2.1) (slV y.2.2.1) (slV y.2.2.2)
section
variable {K:VK} {w w' w0 W W':World} {L:List (Addr × Value)} {rb b:Nat} {s:Stp} {lims:List Lim} {p p':Ph} {items items':List Itm} {A:Ab} {P:Pst} {h:Dk}
def e4v (h:Hld):Prop:=h.attrs.length < 1099511627776 ∧ h.bl.ys.length < 1099511627776 ∧ h.links.length < 1000 ∧ ∀ y ∈ h.links,y.spend.answers.length < 1099511627776
theorem f2v (c:List Value) (x:Itm) (h:c5w w c x):∃ y:ItP,c = f2u y ∧ y.1 = x ∧ (g2c w y ∧ I64 y.1.status ∧ I64 y.1.dare):=by
 obtain ⟨av,yv,lv,rfl,h1,h2⟩:=h
 obtain ⟨a1,n1,d1,a2,n2,d2,a3,n3,d3,rfl,rfl,rfl⟩:=a1k h1
 exact ⟨(x,(a1,n1,d1),(a2,n2,d2),(a3,n3,d3)),rfl,rfl,h1,h2⟩
def GIt (B:Nat) (w:World) (v:Value) (ys:List ItP):Prop:=GRow 18 93 (fun _ c y=>c = f2u y) B (fun _=>False) w v ys
theorem c9g {v:Value} {l:List Itm} (hr:SRow 18 (b8b 18 c5w) w v l) (hl:l.length < 1000) (k:∀ v' w' ys,ys.map (fun y:ItP=>y.1) = l → (∀ y ∈ ys,g2c w y ∧ I64 y.1.status ∧ I64 y.1.dare) → GIt w.heap.size w' v' ys → Bw w w' → K v' w'):a0a Tryz.prog 127 #[v] K w:=by
 apply d7n
 unfold f5q
 obtain ⟨ad,c,rfl⟩:=hr.isSlice
 refine b3i (e:=93) (by kernel_rfl) ?_
 cases ad with
 | none=>
  have:l = []:=by
   obtain ⟨⟨a',c',hv,h⟩,_⟩:=hr
   cases hv
   rcases h with h | ⟨b,o,hb,_⟩
   ·exact h
   ·cases hb
  subst this
  simp only [Option.isNone_none]
  refine Xa0 ?_
  exact k _ _ [] rfl (fun _ h=>by cases h) .nil (bR)
 | some a=>
  simp only [Option.isNone_some]
  obtain ⟨ys,rfl,hq,hi⟩:=hr.rowR (mk:=f2u) (f:=fun y:ItP=>y.1) (Q:=fun w y=>g2c w y ∧ I64 y.1.status ∧ I64 y.1.dare) (fun _=>rfl) (fun c x h=>f2v c x h)
  refine Xa0 ?_
  have hr2:RowR f2u 18 (w.alloc (.cells #[] 93)) _ ys:=hi.keep (by rw [a0z]; omega) (fun i _ hi=>heap_alloc_old _ _ hi)
  rw [List.length_map] at hl hr2 ⊢
  refine b5p 90 90 93 ((Tryz.prog.info? 93).getD default) (.agg itmZ.toArray) 18 184 (by kernel_rfl) (by kernel_rfl) (by kernel_rfl) (by kernel_rfl) (by kernel_rfl) (by kernel_rfl) (by omega) (fun _=>rfl) (fun x=>b7x _ _ _ _ _ _ _ _ _ _ _ _ _ _ _ _ _ _ _ _ _ _ _ _) hr2 (World.ownsRow_lit w #[] 0 (Nat.zero_le _) (Nat.zero_le _) rfl) (B:=w.heap.size) (by rw [a0z]; omega) (fun i hi=>by cases hi; exact rL) (by omega) (by omega) ?_
  intro v' w' ho hg hv
  refine k v' w' ys rfl hq (c2l (fun _=>rfl) (a8o ho hv)) ?_
  exact a0y ((Below.refl _ w).alloc (rL) _) hg (rL)
set_option maxHeartbeats 2000000 in
theorem e4w (hP:StR s lims w p items) (hsm:∀ x ∈ items,e4v x.held) (k:∀ w' v B,Bw w w' → GRow 18 93 c5w w.heap.size (fun j=>B ≤ j ∧ j < w'.heap.size) w' v items → w.heap.size ≤ B → (∀ j,v.ownBlock = some j → w.heap.size ≤ j ∧ j < B) → K v w') :
  a0a Tryz.prog 48 #[.pointer (some ⟨p.pb,0,none⟩)] K w:=by
 apply e7g
 unfold g3m
 obtain ⟨ivad,ivc,hiv⟩:=hP.items.isSlice
 have c6:=hP.pur.cell 6 (by simp)
 simp only [List.getElem_cons_zero,List.getElem_cons_succ] at c6
 rw [hiv] at c6
 have hcn:=hP.cnt
 refine Xa @c6 ?_
 have hit:=hP.items
 rw [hiv] at hit
 refine c9g hit (by omega) (fun v w1 ys he hq hG h1=>?_)
 have hyl:ys.length = items.length:=by rw [← he,List.length_map]
 have hGo:∀ i,v.ownBlock = some i → w.heap.size ≤ i ∧ i < w1.heap.size:=fun i hi=>by have:=GRow.own hG hi; omega
 obtain ⟨d3,e3,hv3⟩:∃ ad c,v = .slice ad ys.length c:=GRow.isSlice hG
 rw [hyl] at hv3
 subst hv3
 refine Xa0 ?_
 generalize hv3:Value.slice d3 items.length e3 = v3 at *
 refine ⟨fun vs W=>∃ (u:Value) (i:Nat) (zs:List ItP),vs = [u,.int .i64 (i:Int)] ∧ i ≤ items.length ∧ GIt w.heap.size W v3 zs ∧ zs.map (fun y:ItP=>y.1) = items ∧ zs.drop i = ys.drop i ∧ Fr (fun j=>v3.ownBlock = some j) w1 W ∧ (∀ y ∈ zs.take i,FP (fun j=>w1.heap.size ≤ j ∧ j < W.heap.size) W (fun W=>g2c W y)),
  (fun vs _=>match vs with | [_,.int _ i]=>items.length - i.toNat | _=>0),⟨_,0,ys,rfl,by omega,hG,he,rfl,Fr.refl _ _,by simp⟩,?_⟩
 rintro _ _ w2 ⟨u,i,zs,rfl,hi,hGz,hz,hd,f2,hfz⟩
 have hs1:=h1.size
 have hs2:=f2.size
 have hzl:zs.length = items.length:=by rw [← hz,List.length_map]
 have hb02:Bw w w2:=⟨f2.os.trans h1.os,f2.tape.trans h1.tape,f2.output.trans h1.output,by omega,fun i hi=>(f2.block i (by omega) (fun e=>by have:=hGo _ e; omega)).trans (h1.block i hi)⟩
 have hwI:∀ y ∈ zs,I64 y.1.status ∧ I64 y.1.dare:=fun y hy=>by
  have:y.1 ∈ items:=by rw [← hz]; exact List.mem_map_of_mem hy
  rw [← he] at this
  obtain ⟨y2,hy2,e⟩:=List.mem_map.1 this
  rw [← e]
  exact (hq y2 hy2).2
 by_cases hin:i = items.length
 ·subst hin
  rw [← hzl,List.take_length] at hfz
  have p3:FP (fun j=>w1.heap.size ≤ j ∧ j < w2.heap.size) w2 (fun W=>∀ y ∈ zs,c5w W (f2u y) y.1):=fun w' a b c d e y hy=>⟨_,_,_,rfl,hfz y hy w' a b c d e,hwI y hy⟩
  have hGl:=GRow.conv (V:=c5w) (f:=fun y:ItP=>y.1) hGz p3
  rw [hz] at hGl
  have k:=k w2 v3 w1.heap.size hb02 hGl hs1 hGo
  refine Xa0 ?_
  exact k
 ·have hil:i < items.length:=by omega
  have hiZ:(i:Int) < items.length:=by omega
  have hzi:i < zs.length:=by omega
  have hyi:i < ys.length:=by omega
  have ezy:zs[i] = ys[i]:=by
   have:=congrArg (fun l=>l[0]?) hd
   simp only [List.getElem?_drop,Nat.add_zero] at this
   rw [gE hzi,gE hyi] at this
   exact oI this
  have hq0:=(hq ys[i] (List.getElem_mem hyi)).1
  rw [← ezy] at hq0
  obtain ⟨g,c,cs,hvg,hgl,hgB,hcl,hcc,hVc⟩:=GRow.elem hGz (gE hzi)
  have hcs:=hVc.here
  subst hcs
  rw [hzl] at hvg
  subst hvg
  have hgw:=(hGo g rfl).2
  refine Xa @hiZ ?_
  refine a3n hcc c0h (by kernel_rfl) (by kernel_rfl) ?_
  refine a0m e4t (fun g5 w5 h5 hg5 hH5=>?_)
  have hH5l:=hH5.lt
  refine a0i (xs:=f2u zs[i]) e4u rfl rfl (b7x _ _ _ _ _ _ _ _ _ _ _ _ _ _ _ _ _ _ _ _ _ _ _ _) hH5 rfl (fun w6 hg6 hH6=>?_)
  have hs5:=h5.size
  have hs6:=hg6.size
  have h26:Bw w2 w6:=a0y h5 hg6 hg5
  refine a5q ?_
  refine a3n (cs:=b2f zs[i].1.held (slV zs[i].2.1) (slV zs[i].2.2.1) (slV zs[i].2.2.2)) (p:=0) (fun j u hj=>?_) a4u (by kernel_rfl) (by kernel_rfl) ?_
  ·have hj2:(f2u zs[i])[j]? = some u:=by
    have hjl:=(gS hj).1
    have:f2u zs[i] = b2f zs[i].1.held (slV zs[i].2.1) (slV zs[i].2.2.1) (slV zs[i].2.2.2) ++ [.int .i64 zs[i].1.status,.int .i64 zs[i].1.dare,.bool zs[i].1.lent,.bool zs[i].1.back]:=rfl
    rw [this,List.getElem?_append_left hjl]
    exact hj
   obtain ⟨hj3,rfl⟩:=gS hj2
   rw [Nat.zero_add]
   exact hH6.cell j hj3
  have hsx:=hsm zs[i].1 (by rw [← hz]; exact List.mem_map_of_mem (List.getElem_mem hzi))
  refine d1k zs[i].1.held (hq0.next (hb02.on h26)) hsx.1 hsx.2.1 hsx.2.2.1 hsx.2.2.2 (fun w7 av' yv' kv' h7 hF=>?_)
  obtain ⟨a1,n1,d1,a2,n2,d2,a3,n3,d4,rfl,rfl,rfl⟩:=a1k hF.here
  have h27:=h26.on h7
  have hs7:=h7.size
  have hG7:GIt w.heap.size w7 _ zs:=GRow.next hGz h27 (fun _ h=>h.elim)
  unfold GIt at hG7
  rw [← hzl] at hG7
  refine Xa @hiZ ?_
  have hx0:=gE hzi
  generalize hY:((zs[i].1,(a1,n1,d1),(a2,n2,d2),(a3,n3,d4)):ItP) = Y
  have hYc:f2u Y = c8w zs[i].1 (.slice a1 n1 d1) (.slice a2 n2 d2) (.slice a3 n3 d4):=by rw [← hY]
  have hYh:g2c w7 Y ∧ Y.1 = zs[i].1:=by rw [← hY]; exact ⟨hF.here,rfl⟩
  refine GRow.put (n:=18) (off:=0) (m:=14) (i:=i) (xs:=b2f zs[i].1.held (.slice a1 n1 d1) (.slice a2 n2 d2) (.slice a3 n3 d4)) (y:=Y) hG7 hx0 (by omega) a8j rfl rfl (a5s _ _ _ _ _ _ _ _ _ _ _ _ _ _ _ _ _ _ _ _) (fun _ h=>h.elim) (fun cs _ _ h=>h.imp (fun W e=>by subst e; rw [hYc]; rfl)) (fun w8 hg8 hG8=>?_)
  have hs8:=hg8.size
  have f8:Fr (fun j=>j = g) w2 w8:=(Fr.of_below h27).trans (Fr.of_by hg8) (fun j hj=>.inl hj)
  refine Xa0 ?_
  refine ⟨⟨_,i + 1,zs.set i Y,rfl,by omega,by rw [← hzl]; exact hG8,?_,?_,f2.trans f8 (fun j hj=>.inl (by subst hj; rfl)),?_⟩,by show items.length - (((i + 1:Nat):Int)).toNat < items.length - ((i:Nat):Int).toNat; omega⟩
  ·rw [List.map_set,← hz,hYh.2]
   have:(zs.map (fun y:ItP=>y.1))[i]'(by rw [List.length_map]; exact hzi) = zs[i].1:=List.getElem_map _
   rw [← this]
   exact List.set_getElem_self _
  ·rw [List.drop_set_of_lt (by omega)]
   have:=congrArg (fun l=>l.drop 1) hd
   simpa [List.drop_drop] using this
  ·intro y hy
   rw [List.take_set,List.take_succ_eq_append_getElem hzi,List.set_append_right _ _ (by simp; omega)] at hy
   have e0:i - (zs.take i).length = 0:=by rw [List.length_take]; omega
   rw [e0] at hy
   rcases List.mem_append.1 hy with hy | hy
   ·exact ((hfz y hy).fr f8 (fun j hj=>⟨hj.2,fun e=>by omega⟩)).mono (fun j hj=>⟨hj.1,by omega⟩)
   ·simp only [List.set_cons_zero,List.mem_singleton] at hy
    subst hy
    have p0:FP (fun j=>w6.heap.size ≤ j ∧ j < w7.heap.size) w7 (fun W=>g2c W y):=by rw [← hY]; exact hF
    exact (p0.fr (Fr.of_by hg8) (fun j hj=>⟨hj.2,fun e=>by omega⟩)).mono (fun j hj=>⟨by omega,by omega⟩)
theorem f2w (hP:StR s lims w p items) (hsm:∀ x ∈ items,e4v x.held) (k:∀ w' v,Bw w w' → Fresh w w' (fun W=>SRow 18 (b8b 18 c5w) W v items) → K v w') :
  a0a Tryz.prog 48 #[.pointer (some ⟨p.pb,0,none⟩)] K w:=
 e4w hP hsm fun w' v B hb hG hB ho=>k w' v hb ((hG.fp (by omega) (by have:=hP.cnt; omega)).mono (fun j hj=>by
  rcases hj with hj | hj
  ·omega
  ·have:=ho j hj; have:=(hG.own hj).1; omega))
end
end Go.Proofs
namespace Go.Proofs
open Go.Sh Tryz
variable {a0 a1:Value} {K:VK} {w:World}
def g3p (K:VK) (w:World):Prop:=
 oM prog (.build 40 #[(0,(.tmp 0)),(1,(.tmp 1)),(2,(.tmp 2))]) 40 [(.int .i64 1),(.int .i64 1440),(.int .i64 (-1))] (fun v1=>
 oM prog (.build 40 #[(0,(.tmp 0)),(2,(.tmp 1))]) 40 [(.int .i64 2),(.int .i64 (-1))] fun v2=>
 oM prog (.buildSlice 27 2 #[(0,(.tmp 0)),(1,(.tmp 1))]) 27 [v1,v2] fun v3=>
 K v3) w
theorem e7j (h:g3p K w):a0a prog 37 #[] K w:=
 cZ (fun _=>0) func37 h
def g3q (K:VK) (w:World):Prop:=
 kA 26 (fun v0=>
 oM prog (.build 23 #[(0,(.tmp 0)),(1,(.tmp 1)),(2,(.tmp 2))]) 23 [(.int .i64 23),(.int .i64 11),(.int .i64 4)] fun v1=>
 oM prog (.buildSlice 24 2 #[(0,(.tmp 0)),(1,(.tmp 1))]) 24 [(.int .i64 4),(.int .i64 9)] fun v2=>
 oM prog (.build 26 #[(0,(.tmp 0)),(1,(.tmp 1)),(2,(.tmp 2))]) 26 [v1,v2,(.int .i64 13)] fun v3=>
 kS 26 v0 v3 fun _=>
 kR 26 v0 K) w
theorem e7k (h:g3q K w):a0a prog 39 #[] K w:=
 cZ (fun _=>0) func39 h
def g3r (a0 a1:Value) (K:VK) (w:World):Prop:=
 kA 34 (fun v4=>
 oM prog (.buildSlice 24 1 #[(0,(.tmp 0))]) 24 [(.int .i64 3)] fun v8=>
 oM prog (.build 34 #[(0,(.tmp 0)),(1,(.tmp 1)),(2,(.tmp 2))]) 34 [a0,a1,v8] fun v9=>
 kA 34 fun v5=>
 kS 34 v5 v9 fun _=>
 oM prog (.buildSlice 24 2 #[(0,(.tmp 0)),(1,(.tmp 1))]) 24 [(.int .i64 1),(.int .i64 5)] fun v10=>
 oM prog (.build 29 #[(0,(.tmp 0)),(1,(.tmp 1)),(3,(.tmp 2))]) 29 [(.int .i64 2),(.int .i64 1),v10] fun v11=>
 kF 34 3 v5 fun v12=>
 kS 29 v12 v11 fun _=>
 kB .mul 3 3 (.int .i64 10) a0 fun v14=>
 kB .add 3 3 v14 a1 fun v16=>
 oM prog (.build 31 #[(0,(.tmp 0)),(1,(.tmp 1)),(2,(.tmp 2)),(3,(.tmp 3)),(4,(.tmp 4)),(5,(.tmp 5))]) 31 [(.int .i64 2),(.int .i64 9),(.int .i64 1),(.int .i64 1),(.int .i64 1),v16] fun v17=>
 kF 34 4 v5 fun v18=>
 kS 31 v18 v17 fun _=>
 kL 34 v5 fun v19=>
 kS 34 v4 v19 fun _=>
 kR 34 v4 K) w
theorem e7l (h:g3r a0 a1 K w):a0a prog 41 #[a0,a1] K w:=
 cZ (fun _=>0) func41 h
def g3s (a0 a1:Value) (K:VK) (w:World):Prop:=
 kN 24 a0 (fun v7=>
 kN 24 a1 fun v9=>
 kB .neq 3 4 v7 v9 fun v10=>
 kO v10 (K (.bool false))
 (kQ [(.bool false),(.int .i64 0)] fun J_4 m_5 l_6 u_l_6 w0_l_6=>(fun w=>(
 kN 24 a0 (fun v13=>
 kB .lss 3 4 (l_6.getD 1 undef) v13 fun v14=>
 kO v14 (kH fun C_9 w=>(((true:Bool) = true) ∧ (a0g a0 C_9 fun v17=>
 a0g (l_6.getD 1 undef) C_9 fun v18=>
 jI 24 v17 v18 C_9 fun v19=>
 jL 3 v19 C_9 fun v20=>
 a0g a1 C_9 fun v21=>
 a0g (l_6.getD 1 undef) C_9 fun v22=>
 jI 24 v21 v22 C_9 fun v23=>
 jL 3 v23 C_9 fun v24=>
 jB .neq 3 4 v20 v24 C_9 fun v25=>
 ∃ S_19:World → WK,∀ w,C_9 w → (kO v25 (K (.bool false))
 (kB .add 3 3 (l_6.getD 1 undef) (.int .i64 1) fun v16=>
 kJ J_4 m_5 l_6 w0_l_6 [(l_6.getD 0 undef),v16]) w))))
 (K (.bool true))) w)) w0_l_6)) w
theorem e7m (h:g3s a0 a1 K w):a0a prog 45 #[a0,a1] K w:=
 cZ (fun _=>(fz 9 0 0)) func45 h
def h1m (K:VK) (w:World):Prop:=
 a0a prog 37 #[] (fun v18=>
 kI 27 v18 (.int .i64 0) fun v20=>
 kL 40 v20 fun v21=>
 a0a prog 10 #[v21,(.int .i64 2900)] fun v22=>
 kC .eql 3 2 4 v22 fun v23 w=>
 gT v23 (a0f v18) (fun v25 w=>
 gT v23 (kI 27 v25 (.int .i64 0)) (fun v26 w=>
 gT v23 (kL 40 v26) (fun v27 w=>
 gT v23 (a0a prog 12 #[v27,(.int .i64 2)]) (fun v28 w=>
 gT v23 (kC .eql 3 2880 4 v28) (fun v29=>
 kP v23 v29 (.bool false) fun v30 w=>
 gT v30 (a0f v18) (fun v32 w=>
 gT v30 (kI 27 v32 (.int .i64 1)) (fun v33 w=>
 gT v30 (kL 40 v33) (fun v34 w=>
 gT v30 (a0a prog 10 #[v34,(.int .i64 2900)]) (fun v35 w=>
 gT v30 (kC .eql 3 0 4 v35) (fun v36=>
 kP v30 v36 (.bool false) fun v37 w=>
 gT v37 (a0a prog 19 #[(.int .i64 100),(.string ⟨#[112,111,111,108]⟩)]) (fun v39 w=>
 gT v37 (oM prog (.binOp .eql 9 (.tmp 0) (.const (.string ⟨#[49,48,48,59,52,58,112,111,111,108,44]⟩)) 9) 4 [v39]) (fun v40=>
 kP v37 v40 (.bool false) fun v41=>
 a0a prog 30 #[] fun v42=>
 oM prog (.binOp .eql 55 (.tmp 0) (.const (.pointer none)) 55) 4 [v42] fun v44 w=>
 gF v44 (a0f v41) (fun v46 w=>
 gF v44 (kU v46) (fun v47=>
 kP v44 (.bool true) v47 fun v48 w=>
 gF v48 (a0a prog 25 #[(.string ⟨#[57,48,59,52,58,112,111,111,108,44]⟩),(.string ⟨#[49,48,48,59,48,58,44]⟩)]) (fun v50 w=>
 gF v48 (kU v50) (fun v51=>
 kP v48 (.bool true) v51 fun v52 w=>
 gF v52 (a0a prog 25 #[(.string ⟨#[49,49,48,59,52,58,112,111,111,108,44]⟩),(.string ⟨#[49,48,48,59,48,58,44]⟩)]) (fun v54=>
 kP v52 (.bool true) v54 fun v55=>
 kO v55 (K (.bool false))
 (a0a prog 39 #[] fun v58=>
 a0a prog 38 #[v42,v58,v18] fun v60=>
 kE 0 56 v60 fun v61=>
 kE 1 62 v60 fun v62=>
 oM prog (.binOp .eql 56 (.tmp 0) (.const (.pointer none)) 56) 4 [v61] fun v64 w=>
 gF v64 (a0f v62) (fun v66 w=>
 gF v64 (kC .neq 62 0 4 v66) (fun v67=>
 kP v64 (.bool true) v67 fun v68=>
 kO v68 (K (.bool false))
 (a0a prog 41 #[(.int .i64 0),(.int .i64 2)] fun v70=>
 a0a prog 40 #[v61,v70] fun v71=>
 a0a prog 42 #[v61,(.int .i64 0),(.int .i64 2900),(.int .i64 5)] fun v74=>
 kE 0 3 v74 fun v75=>
 kE 1 62 v74 fun v76=>
 a0a prog 42 #[v61,(.int .i64 0),(.int .i64 2901),(.int .i64 6)] fun v79=>
 kE 0 3 v79 fun v80=>
 kE 1 62 v79 fun v81=>
 a0a prog 43 #[v61,(.int .i64 0)] fun v84=>
 kE 0 84 v84 fun v85=>
 kE 1 62 v84 fun v86=>
 kA 84 fun v11=>
 kS 84 v11 v85 fun _=>
 kC .neq 62 0 4 v71 fun v88 w=>
 gF v88 (a0f v75) (fun v90 w=>
 gF v88 (kC .neq 3 0 4 v90) (fun v91=>
 kP v88 (.bool true) v91 fun v92 w=>
 gF v92 (a0f v76) (fun v94 w=>
 gF v92 (kC .neq 62 0 4 v94) (fun v95=>
 kP v92 (.bool true) v95 fun v96 w=>
 gF v96 (a0f v81) (fun v98 w=>
 gF v96 (kC .neq 62 15 4 v98) (fun v99=>
 kP v96 (.bool true) v99 fun v100 w=>
 gF v100 (a0f v61) (fun v102 w=>
 gF v100 (a0a prog 44 #[v102,(.int .i64 0),(.int .i64 2900)]) (fun v103 w=>
 gF v100 (kC .neq 3 0 4 v103) (fun v104=>
 kP v100 (.bool true) v104 fun v105 w=>
 gF v105 (a0f v86) (fun v107 w=>
 gF v105 (kC .neq 62 0 4 v107) (fun v108=>
 kP v105 (.bool true) v108 fun v109 w=>
 gF v109 (kF 84 1 v11) (fun v111 w=>
 gF v109 (kL 24 v111) (fun v112 w=>
 gF v109 (oM prog (.buildSlice 24 2 #[(0,(.tmp 0)),(1,(.tmp 1))]) 24 [(.int .i64 0),(.int .i64 2)]) (fun v113 w=>
 gF v109 (a0a prog 45 #[v112,v113]) (fun v114 w=>
 gF v109 (kU v114) (fun v115=>
 kP v109 (.bool true) v115 fun v116=>
 kO v116 (K (.bool false))
 (a0a prog 46 #[v42,(.slice none 0 0)] fun v118=>
 a0a prog 47 #[v42] fun v120=>
 a0a prog 39 #[] fun v123=>
 a0a prog 38 #[v42,v123,v18] fun v125=>
 kE 0 56 v125 fun v126=>
 kE 1 62 v125 fun v127=>
 oM prog (.binOp .eql 56 (.tmp 0) (.const (.pointer none)) 56) 4 [v126] fun v129 w=>
 gF v129 (a0f v127) (fun v131 w=>
 gF v129 (kC .neq 62 0 4 v131) (fun v132=>
 kP v129 (.bool true) v132 fun v133=>
 kO v133 (K (.bool false))
 (a0a prog 43 #[v126,(.int .i64 0)] fun v136=>
 kE 0 84 v136 fun v137=>
 kE 1 62 v136 fun v138=>
 kA 84 fun v15=>
 kS 84 v15 v137 fun _=>
 a0a prog 48 #[v126] fun v140=>
 kC .eql 62 7 4 v138 fun v142 w=>
 gT v142 (a0f v140) (fun v144 w=>
 gT v142 (kN 90 v144) (fun v145 w=>
 gT v142 (kC .eql 3 1 4 v145) (fun v146=>
 kP v142 v146 (.bool false) fun v147 w=>
 gT v147 (a0f v140) (fun v149 w=>
 gT v147 (kI 90 v149 (.int .i64 0)) (fun v150 w=>
 gT v147 (kF 93 1 v150) (fun v151 w=>
 gT v147 (kL 3 v151) (fun v152 w=>
 gT v147 (kC .eql 3 3 4 v152) (fun v153=>
 kP v147 v153 (.bool false) fun v154 w=>
 gT v154 (a0f v140) (fun v156 w=>
 gT v154 (kI 90 v156 (.int .i64 0)) (fun v157 w=>
 gT v154 (kF 93 2 v157) (fun v158 w=>
 gT v154 (kL 3 v158) (fun v159 w=>
 gT v154 (kC .eql 3 5 4 v159) (fun v160=>
 kP v154 v160 (.bool false) fun v161=>
 K v161) w) w) w) w) w) w) w) w) w) w) w) w) w)) w) w)) w) w) w) w) w) w) w) w) w) w) w) w) w) w) w) w)) w) w)) w) w) w) w) w) w) w) w) w) w) w) w) w) w) w) w) w) w
theorem f9d (h:h1m K w):a0a prog 5 #[] K w:=
 cZ (fun _=>0) func5 h
end Go.Proofs
namespace Go.Proofs
open Go Go.Sh Go.RowKit FdSpec TkSpec CodeSpec PuSpec DkSpec JnSpec
section
variable {K:VK} {w w' w0 W W':World} {L:List (Addr × Value)} {rb b:Nat}
theorem d3x (T:TypeId) (a b c:Int):oM Tryz.prog (Go.Op.build 40 #[(0,(.tmp 0)),(1,(.tmp 1)),(2,(.tmp 2))]) T [.int .i64 a,.int .i64 b,.int .i64 c] = a0f (e3z ⟨a,b,c⟩):=by
 funext K w
 kernel_rfl
theorem d3y (T:TypeId) (a c:Int):oM Tryz.prog (Go.Op.build 40 #[(0,(.tmp 0)),(2,(.tmp 1))]) T [.int .i64 a,.int .i64 c] = a0f (e3z ⟨a,0,c⟩):=by
 funext K w
 kernel_rfl
theorem h3k {T:TypeId} (x y:Lim) (hx:I64 x.count ∧ I64 x.length ∧ I64 x.gate) (hy:I64 y.count ∧ I64 y.length ∧ I64 y.gate) (k:∀ v W,Bw w W → Fresh w W (fun W=>c5v W v [x,y]) → K v W) :
  oM Tryz.prog (.buildSlice 27 2 #[(0,.tmp 0),(1,.tmp 1)]) T [e3z x,e3z y] K w:=by
 rw [a8p]
 refine c1i (e:=40) (n:=2) (xs:=c2i x ++ c2i y) (by kernel_rfl) (fun g W h hg hH=>k _ W h ?_)
 exact (hH.fresh hg).imp (fun W hW=>e4g hW rfl rfl ⟨rfl,hx⟩ ⟨rfl,hy⟩)
theorem e4x (k:∀ w' v,Bw w w' → Fresh w w' (fun W=>c5v W v exL) → K v w'):a0a Tryz.prog 37 #[] K w:=by
 apply e7j
 unfold g3p
 rw [d3x]
 show oM _ _ _ _ _ _
 rw [d3y]
 show oM _ _ _ _ _ _
 refine h3k _ _ ⟨by constructor <;> decide,by constructor <;> decide,by constructor <;> decide⟩ ⟨by constructor <;> decide,by constructor <;> decide,by constructor <;> decide⟩ (fun v W h hF=>k W v h hF)
theorem g9z {T:TypeId} (x y:Int) (hx:I64 x) (hy:I64 y) (k:∀ ad c W,Bw w W → Fresh w W (fun W=>Ints W (.slice ad 2 c) [x,y]) → K (.slice ad 2 c) W):oM Tryz.prog (.buildSlice 24 2 #[(0,.tmp 0),(1,.tmp 1)]) T [.int .i64 x,.int .i64 y] K w:=by
 rw [a8p]
 have e:(Instr.buildSlice 24 2 #[(0,.int .i64 x),(1,.int .i64 y)]).run Tryz.prog w = .ok (.slice (some ⟨w.heap.size,0,none⟩) 2 2) (w.alloc (.cells #[.int .i64 x,.int .i64 y] 3)):=by kernel_rfl
 rw [e]
 exact k _ _ _ ((Below.refl _ w).alloc (rL) _) ((a5d w [x,y] _ 2 (by simp; exact ⟨hx,hy⟩) (by simp)).fresh (fun i hi=>by cases hi; exact rL))
theorem g7s (w:World):(sizeOf 26).run Tryz.prog w = .ok 5 w:=by kernel_rfl
theorem g7t (w:World):(Instr.alloc 26 true (.tuple #[])).run Tryz.prog w = .ok (.pointer (some ⟨w.heap.size,0,none⟩)) (w.alloc (.cells [.int .i64 0,.int .i64 0,.int .i64 0,.slice none 0 0,.int .i64 0].toArray 26)):=by kernel_rfl
theorem d1m:Tryz.prog.underlying 26 = some ((Tryz.prog.underlying 26).getD default):=by kernel_rfl
theorem f2x (a b c e:Int) (ad:Option Addr) (n m:Nat):∀ u ∈ ([.int .i64 a,.int .i64 b,.int .i64 c,.slice ad n m,.int .i64 e]:List Value),u.oneCell' = true:=by
 intro u hu
 simp only [List.mem_cons,List.not_mem_nil,or_false] at hu
 rcases hu with rfl | rfl | rfl | rfl | rfl <;> rfl
theorem d1n (k:∀ w' v,Bw w w' → Fresh w w' (fun W=>Ints W v exS.bases) → K (b0d exS v) w'):a0a Tryz.prog 39 #[] K w:=by
 apply e7k
 unfold g3q
 refine a0m g7t (fun g1 w1 h1 hg1 hH1=>?_)
 refine a5q ?_
 refine g9z 4 9 (by constructor <;> decide) (by constructor <;> decide) (fun ad c w2 h2 hF=>?_)
 refine a5q ?_
 have hg1l:=hH1.lt
 refine a0i (xs:=a9w exS (.slice ad 2 c)) g7s rfl rfl (f2x _ _ _ _ _ _ _) (hH1.next h2) rfl (fun w3 hg3 hH3=>?_)
 refine a5p hH3 d1m (by kernel_rfl) (by kernel_rfl) ?_
 have hs1:=h1.size
 have hs3:=hg3.size
 exact k w3 _ ((h1.on h2).grown hg3 (by have:=h2.size; omega) (fun j e=>by cases e; exact hg1)) ((FP.fr hF (Fr.of_by hg3) (fun j hj=>⟨hj.2,fun e=>by omega⟩)).mono (fun j hj=>⟨by omega,by omega⟩))
theorem h3l {T:TypeId} (x:Int) (hx:I64 x) (k:∀ ad c W,Bw w W → Fresh w W (fun W=>Ints W (.slice ad 1 c) [x]) → K (.slice ad 1 c) W):oM Tryz.prog (.buildSlice 24 1 #[(0,.tmp 0)]) T [.int .i64 x] K w:=by
 rw [a3t]
 have e:(Instr.buildSlice 24 1 #[(0,.int .i64 x)]).run Tryz.prog w = .ok (.slice (some ⟨w.heap.size,0,none⟩) 1 1) (w.alloc (.cells #[.int .i64 x] 3)):=by kernel_rfl
 rw [e]
 exact k _ _ _ ((Below.refl _ w).alloc (rL) _) ((a5d w [x] _ 1 (by simpa using hx) (by simp)).fresh (fun i hi=>by cases hi; exact rL))
theorem d3z (T:TypeId) (a b:Int) (ad:Option Addr) (n c:Nat):oM Tryz.prog (Go.Op.build 34 #[(0,(.tmp 0)),(1,(.tmp 1)),(2,(.tmp 2))]) T [.int .i64 a,.int .i64 b,.slice ad n c] = a0f (.agg #[.int .i64 a,.int .i64 b,.slice ad n c,.int .i64 0,.int .i64 0,.int .i64 0,.slice none 0 0,.int .i64 0,.int .i64 0,.int .i64 0,.int .i64 0,.int .i64 0,.int .i64 0,.slice none 0 0]):=by
 funext K w
 kernel_rfl
theorem d4a (T:TypeId) (a b:Int) (ad:Option Addr) (n c:Nat):oM Tryz.prog (Go.Op.build 29 #[(0,(.tmp 0)),(1,(.tmp 1)),(3,(.tmp 2))]) T [.int .i64 a,.int .i64 b,.slice ad n c] = a0f (.agg #[.int .i64 a,.int .i64 b,.int .i64 0,.slice ad n c]):=by
 funext K w
 kernel_rfl
theorem f8m:WHld exH:=by
 have r:∀ n:Int,-100 ≤ n ∧ n ≤ 100 → InR n:=fun n h=>by unfold InR; omega
 refine ⟨r _ (by decide),r _ (by decide),fun v hv=>r _ ?_,by decide,r _ (by decide),r _ (by decide),r _ (by decide),fun v hv=>r _ ?_,by decide,⟨fun v hv=>r _ ?_⟩,fun _ h=>by cases h⟩
 ·simp only [exH,List.mem_cons,List.not_mem_nil,or_false] at hv; subst hv; decide
 ·simp only [exH,List.mem_cons,List.not_mem_nil,or_false] at hv; rcases hv with rfl | rfl <;> decide
 ·simp only [a5m,exH,List.mem_cons,List.not_mem_nil,or_false] at hv; rcases hv with rfl | rfl | rfl | rfl | rfl | rfl <;> decide
theorem d4b (k:∀ w' av yv kv,Bw w w' → Fresh w w' (fun W=>HldR W exH av yv kv) → K (b8c exH av yv kv) w'):a0a Tryz.prog 41 #[.int .i64 0,.int .i64 2] K w:=by
 apply e7l
 unfold g3r
 refine a0m b0e (fun g1 w1 h1 hg1 hH1=>?_)
 refine h3l 3 (by constructor <;> decide) (fun a1 c1 w2 h2 hF2=>?_)
 rw [d3z]
 show oM _ _ _ _ _ _
 refine a0m b0e (fun g3 w3 h3 hg3 hH3=>?_)
 refine a0i a8j rfl rfl (a5s _ _ _ _ _ _ _ _ _ _ _ _ _ _ _ _ _ _ _ _) hH3 rfl (fun w4 hg4 hH4=>?_)
 refine g9z 1 5 (by constructor <;> decide) (by constructor <;> decide) (fun a5 c5 w5 h5 hF5=>?_)
 rw [d4a]
 show oM _ _ _ _ _ _
 have hH5:=hH4.next h5
 refine a5q ?_
 refine a2w (o:=3) b5a rfl rfl (b2h ⟨2,1,0,[]⟩ _ _ _) hH5 (by simp) (fun w6 hg6 hH6=>?_)
 simp only [List.take_succ_cons,List.take_zero,List.drop_succ_cons,List.drop_zero,List.cons_append,List.nil_append] at hH6
 refine g7f ?_
 refine a2w (o:=7) (xs:=b4y exH.t) b4z rfl rfl (b1a exH.t) hH6 (by simp) (fun w7 hg7 hH7=>?_)
 simp only [List.take_succ_cons,List.take_zero,List.drop_succ_cons,List.drop_zero,List.cons_append,List.nil_append] at hH7
 refine a2k hH7 a4u (by kernel_rfl) (by kernel_rfl) ?_
 have l1:=hH1.lt
 have l3:=hH3.lt
 have s1:=h1.size
 have s2:=h2.size
 have s3:=h3.size
 have s4:=hg4.size
 have s5:=h5.size
 have s6:=hg6.size
 have s7:=hg7.size
 have f27:Fr (fun i=>i = g3) w2 w7:=((((Fr.of_below h3).trans (Fr.of_by hg4) (fun i hi=>.inl hi)).trans (Fr.of_below (S:=fun _=>False) h5) (fun i hi=>hi.elim)).trans (Fr.of_by hg6) (fun i hi=>.inl hi)).trans (Fr.of_by hg7) (fun i hi=>.inl hi)
 have f57:Fr (fun i=>i = g3) w5 w7:=(Fr.of_by hg6).trans (Fr.of_by hg7) (fun i hi=>.inl hi)
 have hH1':Holds w7 g1 34 hldZ:=(f27.block g1 (by omega) (by omega)).trans (hH1.next h2)
 refine a0i a8j rfl rfl (a5s _ _ _ _ _ _ _ _ _ _ _ _ _ _ _ _ _ _ _ _) hH1' rfl (fun w8 hg8 hH8=>?_)
 have s8:=hg8.size
 refine a5p hH8 a4u (by kernel_rfl) (by kernel_rfl) ?_
 have b17:Bw w w7:=(h1.on h2).trans ⟨f27.os,f27.tape,f27.output,by omega,fun i hi=>f27.block i (by omega) (by omega)⟩
 have p1:=((FP.fr hF2 f27 (fun j hj=>⟨hj.2,fun e=>by omega⟩)).fr (Fr.of_by hg8) (fun j hj=>⟨by omega,fun e=>by omega⟩))
 have p2:=((FP.fr hF5 f57 (fun j hj=>⟨hj.2,fun e=>by omega⟩)).fr (Fr.of_by hg8) (fun j hj=>⟨by omega,fun e=>by omega⟩))
 refine k w8 (.slice a1 1 c1) (.slice a5 2 c5) (.slice none 0 0) (b17.grown hg8 (by omega) (fun j e=>by cases e; exact hg1)) ?_
 exact ((p1.and p2).imp (fun W hW=>⟨hW.1,hW.2,SRow.nil,f8m⟩)).mono (fun j hj=>by rcases hj with hj | hj <;> exact ⟨by omega,by omega⟩)
end
end Go.Proofs
namespace PuSpec
open FdSpec TkSpec CodeSpec DkSpec JnSpec
variable {s:Stp} {lims:List Lim} {A:Ab} {p:Pst} {all sure:List a0h} {n:Nat}
structure Up (s:Stp) (lims:List Lim) (A:Ab) (p:Pst) (sure:List a0h) (n:Nat):Prop where
 u:Upp A
 inv:Inv s lims A p p.j.recs sure
 nb:p.j.broken = false
 cnt:p.j.recs.length ≤ n
 vs:a1u s = true
 vl:c7u lims = true
 items:p.items.length ≤ p.j.recs.length
theorem Up.live (h:Up s lims A p sure n):Live 0 A p.j p.j.recs sure:=LJ.live h.inv.lj h.nb
theorem f9r {t:a0h} (ht:t.length ≤ 20000):(form t).length ≤ 20064:=by
 have:=b2p (s:=t) (by omega)
 omega
theorem Up.append (h:Up s lims A p sure n) (hn:n ≤ 50) {t:a0h} (ht:t.length ≤ 20000) :
  ∃ B b,a0j A 0 p.j t = (0,B,⟨p.j.recs ++ [t],b,false⟩) ∧ Upp B ∧ Live 0 B ⟨p.j.recs ++ [t],b,false⟩ (p.j.recs ++ [t]) sure:=by
 have hb:=h.live.bytes_le h.cnt
 have hf:=f9r ht
 have h3:n * 20064 ≤ 50 * 20064:=Nat.mul_le_mul_right _ hn
 obtain ⟨B,e,u,l⟩:=h.u.add_rec h.live c3z h.nb ht (by omega)
 exact ⟨B,_,e,u,l⟩
theorem Up.add (h:Up s lims A p sure n) (hn:n ≤ 50) {x:Hld} (w:WHld x) :
  (a6l s lims p.items x ≠ 0 ∧ c7q s lims A p x = (a6l s lims p.items x,A,p) ∧ (a6l s lims p.items x = 1 ∨ a6l s lims p.items x = 5)) ∨
  (a6l s lims p.items x = 0 ∧ ∃ B q,c7q s lims A p x = (0,B,q) ∧ q.items = p.items ++ [a3e x] ∧ validM s lims x = true ∧ c0r p.items x.t = false ∧ Up s lims B q sure (n + 1)):=by
 by_cases he:a6l s lims p.items x = 0
 ·right
  have hv:validM s lims x = true ∧ c0r p.items x.t = false:=by
   unfold a6l at he
   split at he
   ·cases he
   ·rename_i hv
    split at he
    ·cases he
    ·rename_i hh
     exact ⟨by simpa using hv,by simpa using hh⟩
  have e0:(a1a 0).length = 2:=by decide +kernel
  obtain ⟨B,b,e,u,l⟩:=h.append hn (t:=a4s x) (by
   have:=d0h w hv.1
   simp only [a4s,List.length_append,e0]; omega)
  refine ⟨he,B,⟨⟨p.j.recs ++ [a4s x],b,false⟩,p.items ++ [a3e x]⟩,?_,rfl,hv.1,hv.2,⟨u,?_,rfl,?_,h.vs,h.vl,?_⟩⟩
  ·unfold c7q
   rw [if_neg (by simp [he]),e,if_neg (by simp)]
  ·obtain ⟨all',sure',hp,v⟩:=f9q h.inv x w
   have ea:c7q s lims A p x = (0,B,⟨⟨p.j.recs ++ [a4s x],b,false⟩,p.items ++ [a3e x]⟩):=by
    unfold c7q
    rw [if_neg (by simp [he]),e,if_neg (by simp)]
   obtain ⟨rj,h1,h2,g⟩:=b2s h.inv
   have hl:x.links.length ≤ 4:=by
    have:=hv.1
    simp only [validM,a7q,Bool.and_eq_true,decide_eq_true_eq] at this
    omega
   have hlen:p.items.length < 400:=by
    have:=h.items
    have:=h.cnt
    omega
   have ht:a4o s lims rj (a4s x) = some (rj ++ [a3e x]):=by
    rw [b9m rj x w hl,if_pos]
    exact ⟨hv.1,by rw [h2.has]; exact hv.2,by rw [h2.1]; exact hlen⟩
   have hr:a1q s lims [] (p.j.recs ++ [a4s x]) = some (rj ++ [a3e x]):=by
    rw [a4r,h1,Option.bind_some,b1x,ht]
   refine ⟨.inl ⟨rfl,l⟩,⟨_,hr⟩,⟨_,hr,h2.push _⟩,?_⟩
   intro i y hy hst
   dsimp only at hy
   rw [List.getElem?_append] at hy
   split at hy
   ·exact h.inv.spent i y hy hst
   ·have:y = a3e x:=by
     rcases hk:i - p.items.length with _ | k
     ·rw [hk] at hy; simp only [List.getElem?_cons_zero,Option.some.injEq] at hy; exact hy.symm
     ·rw [hk] at hy; simp at hy
    rw [this] at hst
    simp [a3e] at hst
  ·have:=h.cnt
   simp only [List.length_append,List.length_cons,List.length_nil]; omega
  ·have:=h.items
   simp only [List.length_append,List.length_cons,List.length_nil]; omega
 ·left
  refine ⟨he,by unfold c7q; rw [if_pos he],?_⟩
  unfold a6l at he ⊢
  split at he
  ·rename_i h1; rw [if_pos h1]; exact .inl rfl
  ·rename_i h1
   rw [if_neg h1]
   split at he
   ·rename_i h2; rw [if_pos h2]; exact .inr rfl
   ·split at he
    ·have:=h.items
     have:=h.cnt
     omega
    ·exact absurd rfl he
theorem Up.keep (h:Up s lims A p sure n) (hn:n ≤ 50) {i:Nat} {x:Itm} (hx:p.items[i]? = some x) (h0:x.status = 0) {kind dare:Int} (hk:kind = 1 ∨ kind = 3) (hd:1 ≤ dare) (hq:dare < s.g.Q) (hr:InR dare) :
  ∃ B q,a9g A p i kind dare = (0,B,q) ∧ q.items = p.items.set i { x with dare:=dare,status:=1,lent:=decide (kind = 3) } ∧ Up s lims B q q.j.recs (n + 1):=by
 have hi:(i:Int) < 9223372036854775807:=by
  have:=(List.getElem?_eq_some_iff.1 hx).1
  have:=h.items
  have:=h.cnt
  omega
 have hin:∀ m ∈ [kind,(i:Int),dare],InR m:=by
  intro m hm
  simp only [List.mem_cons,List.not_mem_nil,or_false] at hm
  rcases hm with rfl | rfl | rfl
  ·rcases hk with rfl | rfl <;> exact ⟨by decide,by decide⟩
  ·exact ⟨by omega,by omega⟩
  ·exact hr
 obtain ⟨B,b,e,u,l⟩:=h.append hn (t:=a1y [kind,i,dare]) (by have:=b6h hin (by simp); omega)
 obtain ⟨C,e2,u2,l2⟩:=u.sync_rec l c3z rfl
 have ek:a9g A p i kind dare = (0,C,⟨⟨p.j.recs ++ [a1y [kind,i,dare]],b,false⟩,p.items.set i { x with dare:=dare,status:=1,lent:=decide (kind = 3) }⟩):=by
  unfold a9g
  rw [e]
  dsimp only
  rw [if_neg (by simp),e2]
  dsimp only
  rw [if_neg (by simp),b1k hx]
 refine ⟨C,_,ek,rfl,⟨u2,?_,rfl,?_,h.vs,h.vl,?_⟩⟩
 ·obtain ⟨rj,h1,h2,g⟩:=b2s h.inv
  obtain ⟨r,hr1,hr2⟩:=h2.get hx
  have hrs:r.status = 0:=by
   rcases hr2.rest with ⟨a,_⟩ | ⟨a,b,_⟩ <;> omega
  have hstep:b2v s [kind,i,dare] r = some { r with status:=1,dare:=dare,lent:=decide (kind = 3) }:=by
   unfold b2v
   dsimp only
   rw [if_pos (by simpa using hk),if_pos (by simp [hrs,hd,hq])]
  have ht:=c7o (s:=s) (lims:=lims) rj [kind,i,dare] hin (.inr rfl) (i:=i) rfl hr1
  rw [hstep,Option.map_some] at ht
  have hr:a1q s lims [] (p.j.recs ++ [a1y [kind,i,dare]]) = some (rj.set i { r with status:=1,dare:=dare,lent:=decide (kind = 3) }):=by
   rw [a4r,h1,Option.bind_some,b1x,ht]
  have hm:Match (rj.set i { r with status:=1,dare:=dare,lent:=decide (kind = 3) }) (p.items.set i { x with dare:=dare,status:=1,lent:=decide (kind = 3) }):=
   h2.set i ⟨hr2.held,hr2.back,.inl ⟨rfl,rfl,rfl⟩⟩
  exact ⟨.inl ⟨rfl,l2⟩,⟨_,hr⟩,⟨_,hr,hm⟩,d2i hr hm⟩
 ·have:=h.cnt
  simp only [List.length_append,List.length_cons,List.length_nil]; omega
 ·have:=h.items
  simp only [List.length_append,List.length_cons,List.length_nil,List.length_set]; omega
theorem e1a (hv:a1u s = true) (hl:c7u lims = true):∃ B,b1y s lims c6s = (some ⟨⟨[],0,false⟩,[]⟩,0,B) ∧ Up s lims B ⟨⟨[],0,false⟩,[]⟩ [] 0:=by
 obtain ⟨B,e,u,l⟩:=e9s c3z
 refine ⟨B,?_,⟨u,⟨.inl ⟨rfl,l⟩,⟨[],rfl⟩,⟨[],rfl,rfl,fun i r x h=>by simp at h⟩,fun i x h=>by simp at h⟩,rfl,Nat.le_refl _,hv,hl,Nat.le_refl _⟩⟩
 unfold b1y
 rw [if_neg (by simp [hv,hl]),e]
 rfl
end PuSpec
namespace PuSpec
open FdSpec TkSpec CodeSpec DkSpec JnSpec
variable {s:Stp} {lims:List Lim} {A:Ab} {p:Pst} {all sure:List a0h} {n:Nat}
end PuSpec
namespace PuSpec
open FdSpec TkSpec CodeSpec DkSpec JnSpec
variable {s:Stp} {lims:List Lim} {A:Ab} {p:Pst} {all sure:List a0h} {n:Nat}
structure Dur (s:Stp) (lims:List Lim) (p:Pst) (sure:List a0h):Prop where
 many:∃ rs,a1q s lims [] sure = some rs ∧ p.items.length ≤ rs.length
 nb:∀ x ∈ p.items,x.status ≠ 3
theorem LaterL.len {l m:List Itm} (h:LaterL l m):l.length ≤ m.length:=by
 rcases hl:l.length with _ | k
 ·omega
 ·have hk:k < l.length:=by omega
  obtain ⟨y,hy,_⟩:=h k l[k] (List.getElem?_eq_getElem hk)
  have:=(List.getElem?_eq_some_iff.1 hy).1
  omega
theorem e0v (h:Up s lims A p sure n) (d:Dur s lims p sure) (keep:List Int) :
  ∃ B q,b1y s lims (b2k (a4p A keep)) = (some q,0,B) ∧ q.items.length = p.items.length ∧
   ∀ (i:Nat) (a b:Itm),p.items[i]? = some a → q.items[i]? = some b → b.held = a.held ∧ b.status ≠ 1 ∧ (a.status = 0 → b.status = 0) ∧ (a.status = 1 → b.status = 3 ∧ b.dare = a.dare) ∧
    (a.status ≠ 0 → a.status ≠ 1 → b.status ≠ 0 ∧ b.dare = a.dare):=by
 obtain ⟨B,j',e,u,lv,hb,hp,hs⟩:=h.u.again h.live.good c3z keep
 obtain ⟨rj,hrj,hm,g⟩:=b2s h.inv
 obtain ⟨l,hl,gl,_,ll⟩:=b6g hp hrj
 obtain ⟨rs,hrs,hmany⟩:=d.many
 obtain ⟨rs',hrs',grs,_,lr⟩:=b6g hs hl
 rw [hrs] at hrs'
 cases hrs'
 have ho:b1y s lims (b2k (a4p A keep)) = (some ⟨j',l.map a7z⟩,0,B):=by
  unfold b1y
  rw [if_neg (by simp [h.vs,h.vl]),e]
  dsimp only
  unfold c7v
  rw [hl]
  rfl
 have e1:=ll.len
 have e2:=lr.len
 have e3:=hm.1
 refine ⟨B,_,ho,by simp only [List.length_map]; omega,fun i a b ha hbi=>?_⟩
 dsimp only at hbi
 rw [List.getElem?_map] at hbi
 rcases hli:l[i]? with _ | y
 ·rw [hli] at hbi; cases hbi
 ·rw [hli] at hbi
  cases hbi
  obtain ⟨r,hr,rel⟩:=hm.get ha
  obtain ⟨r',hr',lt⟩:=ll i y hli
  rw [hr] at hr'
  cases hr'
  have na:=d.nb a (List.mem_of_getElem? ha)
  obtain ⟨q1,q2,q3⟩:a.status = r.status ∧ a.dare = r.dare ∧ a.lent = r.lent:=by
   rcases rel.rest with k | ⟨_,k,_⟩
   ·exact k
   ·exact absurd k na
  have ry:=gl.raw y (List.mem_of_getElem? hli)
  have lu:=lt.up
  have spent:a.status = 1 ∨ a.status = 2 → 1 ≤ y.status:=by
   intro hst
   obtain ⟨rs1,z,z1,z2,_,_,z5⟩:=h.inv.spent i a ha hst
   rw [hrs] at z1
   cases z1
   obtain ⟨y',hy',lt'⟩:=lr i z z2
   rw [hli] at hy'
   cases hy'
   have:=lt'.up
   omega
  have bh:(a7z y).held = y.held:=by unfold a7z; split <;> rfl
  have bd:(a7z y).dare = y.dare:=by unfold a7z; split <;> rfl
  have bs:(a7z y).status = if y.status = 1 then 3 else y.status:=by unfold a7z; split <;> rfl
  rw [bh,bd,bs]
  refine ⟨by rw [rel.held,lt.held],by split <;> omega,fun k=>by rw [if_neg (by omega)]; omega,fun k=>?_,fun k1 k2=>?_⟩
  ·have:=spent (.inl k)
   rw [if_pos (by omega),q2,(lt.dare (by omega)).1]
   exact ⟨rfl,rfl⟩
  ·have ra:=g.raw r (List.mem_of_getElem? hr)
   have:=spent (.inr (by omega))
   rw [q2,(lt.dare (by omega)).1]
   refine ⟨?_,rfl⟩
   split <;> omega
end PuSpec
namespace PuSpec
open FdSpec TkSpec CodeSpec DkSpec JnSpec
def exI1:Itm:={ a3e exH with status:=1,dare:=5 }
theorem d2k (hw:WHld exH):∃ B0 B1 B2 q1 q2,b1y exS exL c6s = (some ⟨⟨[],0,false⟩,[]⟩,0,B0) ∧ c7q exS exL B0 ⟨⟨[],0,false⟩,[]⟩ exH = (0,B1,q1) ∧ q1.items = [a3e exH] ∧
  a6z exS exL B1 q1 0 2900 5 = ((0,0),B2,q2) ∧ q2.items = [exI1] ∧ a6z exS exL B2 q2 0 2901 6 = ((0,15),B2,q2) ∧
  ∃ B3 q3 x,b1y exS exL (b2k (a4p B2 [])) = (some q3,0,B3) ∧ q3.items = [x] ∧ x.status = 3 ∧ x.dare = 5 ∧ x.held = exH:=by
 obtain ⟨f1,_,_,_,_,fv,_,fa,_,fc1,fc2,_,_⟩:=d0k
 obtain ⟨B0,e0,u0⟩:=e1a fv f1
 rcases u0.add (by omega) hw with ⟨hne,_⟩ | ⟨_,B1,q1,e1,i1,_,_,u1⟩
 ·exact absurd fa hne
 have i1':q1.items = [a3e exH]:=i1
 have hx:q1.items[0]? = some (a3e exH):=by rw [i1']; rfl
 obtain ⟨B2,q2,e2,i2,u2⟩:=u1.keep (by omega) hx rfl (kind:=1) (dare:=5) (.inl rfl) (by omega) (by decide) ⟨by omega,by omega⟩
 have i2':q2.items = [exI1]:=by rw [i2,i1']; rfl
 refine ⟨B0,B1,B2,q1,q2,e0,e1,i1',?_,i2',?_,?_⟩
 ·unfold a6z
  rw [i1',fc1]
  rw [if_neg (by decide),if_neg (by simp),e2]
  rw [if_neg (by simp)]
 ·unfold a6z
  rw [i2',show [exI1] = [{ a3e exH with status:=1,dare:=5 }] from rfl,fc2]
  rw [if_neg (by decide),if_pos (by simp)]
 ·obtain ⟨rj,hr,hm⟩:=u2.inv.live
  have hd:Dur exS exL q2 q2.j.recs:=⟨⟨rj,hr,Nat.le_of_eq hm.1.symm⟩,by rw [i2']; intro x hx; rw [List.mem_singleton] at hx; subst hx; decide⟩
  obtain ⟨B3,q3,e3,l3,h3⟩:=e0v u2 hd []
  rw [i2'] at l3 h3
  obtain ⟨x,hx3⟩:∃ x,q3.items = [x]:=List.length_eq_one_iff.1 (by simpa using l3)
  have:=h3 0 exI1 x rfl (by rw [hx3]; rfl)
  exact ⟨B3,q3,x,e3,hx3,(this.2.2.2.1 rfl).1,(this.2.2.2.1 rfl).2,this.1⟩
end PuSpec
namespace Go.Proofs
open Go Go.Sh Go.RowKit FdSpec TkSpec CodeSpec PuSpec DkSpec JnSpec
section
variable {K:VK} {w w' w0 W W':World} {L:List (Addr × Value)} {rb b:Nat}
theorem b0b {va vb:Value} {l m:List Int} (ha:Ints w va l) (hb:Ints w vb m) (k:∀ w',Bw w w' → K (.bool (decide (l = m))) w'):a0a Tryz.prog 45 #[va,vb] K w:=by
 apply e7m
 unfold g3s
 obtain ⟨a1,c1,rfl⟩:=ha.isSlice
 obtain ⟨a2,c2,rfl⟩:=hb.isSlice
 have hll:=ha.len
 by_cases hl:l.length = m.length
 ·have hlZ:(l.length:Int) = m.length:=by omega
  refine Xa @hlZ ?_
  refine ⟨fun vs W=>∃ (i:Nat),vs = [.bool false,.int .i64 (i:Int)] ∧ i ≤ l.length ∧ l.take i = m.take i ∧ Nx w W,
   (fun vs _=>match vs with | [_,.int _ i]=>l.length - i.toNat | _=>0),⟨0,rfl,by omega,rfl,bR⟩,?_⟩
  rintro _ _ w2 ⟨i,rfl,hi,he,h2⟩
  by_cases hin:i = l.length
  ·have e:l = m:=by
    rw [hin,List.take_length,hl,List.take_length] at he
    exact he
   have k:=k _ h2
   rw [decide_eq_true e] at k
   have hn:¬ (i:Int) < m.length:=by omega
   refine Xa (An2 @hn @hlZ) ?_
   exact k
  ·have hil:i < l.length:=by omega
   have him:i < m.length:=by omega
   have hiZ:(i:Int) < m.length:=by omega
   obtain ⟨b1,o1,rfl,hb1,ca,_,_⟩:=ha.at (i:=i) hil
   obtain ⟨b2,o2,rfl,hb2,cb,_,_⟩:=hb.at (i:=i) him
   refine Xa (An2 @hiZ @hlZ) ?_
   refine ⟨Nx { w2 with drawn:=w2.drawn + 1 },bR,rfl,?_⟩
   have h2d:=h2.on (.drawn (B:=w2.heap.size))
   generalize ({ w2 with drawn:=w2.drawn + 1 }:World) = W3 at h2d ⊢
   by_cases hx:l[i] = m[i]
   ·refine Xf (fun W0 hW0=>An2 (ca _ (h2d.on hW0)) (cb _ (h2d.on hW0))) (An3 @hx @hiZ @hlZ) ?_
    refine ⟨Nx,fun w4 h4=>?_⟩
    refine Xa0 ?_
    exact ⟨⟨i + 1,rfl,by omega,by rw [List.take_succ_eq_append_getElem hil,List.take_succ_eq_append_getElem him,he,hx],h2d.on h4⟩,by show l.length - (((i + 1:Nat):Int)).toNat < l.length - ((i:Nat):Int).toNat; omega⟩
   ·refine Xf (fun W0 hW0=>An2 (ca _ (h2d.on hW0)) (cb _ (h2d.on hW0))) (An3 @hx @hiZ @hlZ) ?_
    refine ⟨Nx,fun w4 h4=>?_⟩
    have k:=k _ (h2d.on h4)
    rw [decide_eq_false (fun e=>hx (by subst e; rfl))] at k
    refine Xa0 ?_
    exact k
 ·have hlZ:¬ (l.length:Int) = m.length:=by omega
  have k:=k _ (bR)
  rw [decide_eq_false (fun e=>hl (by rw [e]))] at k
  refine Xa @hlZ ?_
  exact k
theorem c6i {T:TypeId} (b:Nat) (k:K (.bool false) w):oM Tryz.prog (Go.Op.binOp Go.BinOp.eql 56 (.tmp 0) (.const (.pointer none)) 56) T [.pointer (some ⟨b,0,none⟩)] K w:=by
 refine Xa0 ?_
 exact k
set_option maxHeartbeats 4000000 in
theorem g1o (hl:Cd.LaidE w) (hdb:DbT w) (k:∀ w',Bw w w' → K (.bool true) w'):a0a Tryz.prog 5 #[] K w:=by
 apply f9d
 unfold h1m
 obtain ⟨f1,fw1,fb1,fw2,ft,fv,_,fa,_,fc1,fc2,fl,fu⟩:=d0k
 obtain ⟨fn1,fn2⟩:=d2m
 refine e4x (fun w1 lv h1 hL=>?_)
 have hL1:=hL.here
 obtain ⟨lad,lc,hlv⟩:=hL1.isSlice
 have e2:exL.length = 2:=rfl
 rw [e2] at hlv
 subst hlv
 obtain ⟨lb,lo,rfl,hlb,cs0,hcl0,hcc0,hV0,_⟩:=hL1.at (i:=0) (by decide)
 obtain ⟨lb',lo',hlo,_,cs1,hcl1,hcc1,hV1,_⟩:=hL1.at (i:=1) (by decide)
 cases hlo
 subst hV0
 subst hV1
 have a0:=hcc0 0 _ rfl
 have a1:=hcc0 1 _ rfl
 have a2:=hcc0 2 _ rfl
 have b0:=hcc1 0 _ rfl
 have b1:=hcc1 1 _ rfl
 have b2:=hcc1 2 _ rfl
 simp only [exL,List.getElem_cons_zero,List.getElem_cons_succ,Nat.zero_mul,Nat.add_zero,Nat.one_mul] at a0 a1 a2 b0 b1 b2
 have q0:∀ W,Nx w1 W → W.cell? ⟨lb,lo,none⟩ = some (.int .i64 1) ∧ W.cell? ⟨lb,lo + 1,none⟩ = some (.int .i64 1440) ∧ W.cell? ⟨lb,lo + 2,none⟩ = some (.int .i64 (-1)) ∧ W.cell? ⟨lb,lo + 3,none⟩ = some (.int .i64 2) ∧ W.cell? ⟨lb,lo + 3 + 1,none⟩ = some (.int .i64 0) ∧ W.cell? ⟨lb,lo + 3 + 2,none⟩ = some (.int .i64 (-1)):=fun W h=>⟨(h.cell hlb).trans a0,(h.cell hlb).trans a1,(h.cell hlb).trans a2,(h.cell hlb).trans b0,(h.cell hlb).trans b1,(h.cell hlb).trans b2⟩
 have q:=q0 _ (bR)
 refine Xa @q ?_
 refine b3m ⟨1,1440,-1⟩ 2900 (fun w2 h2=>?_)
 rw [fw1]
 have q:=q0 _ h2
 refine Xa @q ?_
 refine c5n ⟨1,1440,-1⟩ 2 (fun w3 h3=>?_)
 rw [fb1]
 have h13:=h2.on h3
 have q:=q0 _ h13
 refine Xa @q ?_
 refine b3m ⟨2,0,-1⟩ 2900 (fun w4 h4=>?_)
 rw [fw2]
 have h14:=h13.on h4
 refine Xa0 ?_
 have hl4:=hl.below (h1.on h14) hl.size
 refine c2g 100 [112,111,111,108] (by decide) hl4 (fun w5 h5=>?_)
 rw [ft]
 have h15:=h14.on h5
 have z15':=h15.size
 refine Xa0 ?_
 refine g5h (fun w6 d dk hd6 f6 ho6 hr6=>?_)
 have h6:Bw w5 w6:=⟨f6.os,f6.tape,f6.output,f6.size,fun i hi=>f6.block i hi id⟩
 have h16:=h15.on h6
 have h06:=h1.on h16
 have hw8:=hl.size
 have s6:Sys w6 d c6s dk:=⟨hd6,hl.below h06 hl.size,fun i hi=>by have:=ho6 i hi; have:=(h1.on h15).size; omega⟩
 refine Xa0 ?_
 refine b4m _ _ (by decide) (by decide) s6.l (fun w7 h7=>?_)
 rw [fn1]
 have s7:=s6.below h7
 refine Xa0 ?_
 refine b4m _ _ (by decide) (by decide) s7.l (fun w8 h8=>?_)
 rw [fn2]
 have s8:=s7.below h8
 refine Xa0 ?_
 show a2c (.bool false) _ _
 refine Xa0 ?_
 refine d1n (fun w9 bv h9 hB9=>?_)
 have s9:=s8.below h9
 have h69:=(h7.on h8).on h9
 have h09:=h06.on h69
 have h19:=h16.on h69
 have gE:e6b exS.g:=⟨by constructor <;> decide,by constructor <;> decide,by constructor <;> decide⟩
 have hsl9:FP (fun i=>i < w9.heap.size ∧ ¬ Own d dk i) w9 (fun W=>SetR W exS bv ∧ c5v W (.slice (some ⟨lb,lo,none⟩) 2 lc) exL):=by
  have r1:=e4d (DbT.next hdb h09)
  have r2:=FP.next hL h19 (fun i hi=>hi.2)
  have z1:=h1.size
  have z15:=h15.size
  have z6:=f6.size
  have z68:=(h7.on h8).size
  have z9:=h9.size
  refine (((FP.and hB9 r1).and r2).imp (fun W hW=>⟨⟨gE,hW.1.1,by constructor <;> decide,hW.1.2⟩,hW.2⟩)).mono (fun i hi=>?_)
  rcases hi with (hi | hi) | hi
  ·exact ⟨hi.2,fun e=>by have:i < w6.heap.size:=s6.d.lt (.inl e); omega⟩
  ·exact ⟨by omega,fun e=>by have:=ho6 i e; omega⟩
  ·exact ⟨by omega,fun e=>by have:=ho6 i e; omega⟩
 refine e4q (w0:=w) hl.size h09 s9 (fun i hi=>by
  rcases hi with hi | hi
  ·have:=ho6 i hi; have:=(h1.on h15).size; omega
  ·exact absurd hi (hr6 i)) (fun i hi=>hi) hsl9 (fun w10 dk10 r10 s10 t10 o10=>?_)
 obtain ⟨B0,B1,B2,q1,q2,e0,e1,i1,e2,i2,e3,B3,q3,x3,e4,i3,x3s,x3d,x3h⟩:=d2k f8m
 rw [e0] at s10 o10 ⊢
 obtain ⟨p,hpb,hph,rfl,hP,hMu⟩:=o10
 refine Xa0 ?_
 refine c6i p.pb ?_
 refine Xa0 ?_
 refine d4b (fun w11 av yv kv h11 hx=>?_)
 have hP11:=hP.next h11
 refine g1l hP11 exH (D:=fun i=>w10.heap.size ≤ i ∧ i < w11.heap.size) (fun i hi=>⟨hi.2,fun e=>by have:=hP.mu_lt i e; omega⟩) hx (fun w12 p12 hP12 t12 ⟨epb12,eb12⟩=>?_)
 rw [e1] at hP12 ⊢
 rw [← epb12]
 refine b7y hP12 0 2900 5 ⟨by omega,by omega⟩ (fun w13 p13 hP13 t13 ⟨epb13,eb13⟩=>?_)
 rw [e2] at hP13 ⊢
 rw [← epb13]
 refine Xa0 ?_
 refine b7y hP13 0 2901 6 ⟨by omega,by omega⟩ (fun w14 p14 hP14 t14 ⟨epb14,eb14⟩=>?_)
 rw [e3] at hP14 ⊢
 rw [← epb14]
 refine Xa0 ?_
 refine c6h hP14.st 0 (fun w15 ov h15 hov=>?_)
 have eA:b2j exS q2.items 0 = (⟨5,[0,2]⟩,0):=by
  rw [i2]
  show (if exI1.status = 1 ∨ exI1.status = 2 then ((d3w exS exI1).1,(0:Int)) else (⟨0,[]⟩,7)) = _
  rw [if_pos (.inl rfl)]
  have:d3w exS exI1 = (⟨5,[0,2]⟩,true):=fu
  rw [this]
 rw [eA] at hov ⊢
 have hP15:=hP14.next h15
 obtain ⟨oa,oc,rfl⟩:=hov.here.isSlice
 refine b2c ?_
 refine a0m b4n (fun g16 w16 h16' hg16 hH16=>?_)
 refine a0i b2i rfl rfl (b0a _ _ _ _) hH16 rfl (fun w17 hg17 hH17=>?_)
 have h1517:Bw w15 w17:=a0y h16' hg17 hg16
 have hP17:=hP15.next h1517
 refine Xa0 ?_
 refine f2t hP17.st 0 2900 (fun w18 h18=>?_)
 rw [show f0e exL q2.items 0 2900 = 0 by rw [i2]; exact fl]
 have hP18:=hP17.next h18
 have c18:=(hH17.next h18).cell 1 (by simp)
 simp only [List.getElem_cons_zero,List.getElem_cons_succ] at c18
 refine h3i @c18 ?_
 have gstep:∀ {o:Op} {T:TypeId} {xs:List Value} {K:VK} {w:World},oM Tryz.prog o T xs K w → gdM (gd (.bool false) false) (oM Tryz.prog o T xs) K w:=fun h=>by
  refine a5q ?_
  exact h
 refine gstep ?_
 refine g9z 0 2 d3n (c2m 2 (by omega)) (fun a20 c20 w20 h20 hF20=>?_)
 have hov20:=((hov.here.next h1517).next h18).next h20
 refine b0b hov20 hF20.here (fun w21 h21=>?_)
 have hP21:=(hP18.next h20).next h21
 have ebd:p14.b = d:=eb14.trans (eb13.trans (eb12.trans hpb))
 refine Xa0 ?_
 have hd21:=hP21.sys.d
 rw [ebd] at hd21
 refine c9x hd21 (kl:=[]) ⟨none,0,rfl,fun _=>⟨rfl,rfl⟩,.inl rfl⟩ (by decide) (fun w' _=>⟨none,0,rfl,fun _=>⟨rfl,rfl⟩,.inl rfl⟩) (fun w22 dk22 hd22 t22=>?_)
 refine Xa0 ?_
 refine e9d hd22 (fun w23 hd23 t23=>?_)
 refine Xa0 ?_
 have hS21:=hP21.sys
 rw [ebd] at hS21
 have s23:=(hS21.step hd22 t22).step hd23 t23
 have hy23:∀ i,Own d dk22 i ∨ Rdb dk22 i → w.heap.size ≤ i:=fun i hi=>by
  have hz:=hP21.bl.size
  rcases hi with hi | hi
  ·rcases t22.own i hi with e | e
   ·exact hP21.yg i (.inl (by rw [ebd]; exact e))
   ·omega
  ·rcases t22.rd i hi with e | e
   ·exact hP21.yg i (.inr (.inl e))
   ·omega
 have b22:Bw w w22:=hP21.bl.trans ⟨t22.fr.os,t22.fr.tape,t22.fr.output,t22.fr.size,fun i hi=>t22.fr.block i (by have:=hP21.bl.size; omega) (fun e=>by have:=hP21.yg i (.inl (by rw [ebd]; exact e)); omega)⟩
 have b23:Bw w w23:=b22.trans ⟨t23.fr.os,t23.fr.tape,t23.fr.output,t23.fr.size,fun i hi=>t23.fr.block i (by have:=b22.size; omega) (fun e=>by have:=hy23 i (.inl e); omega)⟩
 refine d1n (fun w24 bv2 h24 hB24=>?_)
 have s24:=s23.below h24
 have b24:=b23.trans (h24.mono b23.size)
 have hsl24:FP (fun i=>i < w24.heap.size ∧ ¬ Own d dk22 i) w24 (fun W=>SetR W exS bv2 ∧ c5v W (.slice (some ⟨lb,lo,none⟩) 2 lc) exL):=by
  have z1:=h1.size
  have z15:=h15.size
  have z19:=h19.size
  have z10:=t10.fr.size
  have z11:=h11.size
  have z12:=t12.fr.size
  have z13:=t13.fr.size
  have z14:=t14.fr.size
  have n0:∀ i,Own d dk i ∨ Rdb dk i → w1.heap.size ≤ i:=fun i hi=>by
   rcases hi with hi | hi
   ·have:=ho6 i hi; omega
   ·exact absurd hi (hr6 i)
  have m0:∀ i,Mu p i → w1.heap.size ≤ i:=fun i hi=>by
   rcases hMu i hi with e | e | e
   ·rcases t10.own i e with e | e
    ·exact n0 i (.inl e)
    ·omega
   ·rcases t10.rd i e with e | e
    ·exact n0 i (.inr e)
    ·omega
   ·omega
  have m12:∀ i,Mu p12 i → w1.heap.size ≤ i:=fun i hi=>(t12.mu i hi).elim (m0 i) (fun e=>by omega)
  have m13:∀ i,Mu p13 i → w1.heap.size ≤ i:=fun i hi=>(t13.mu i hi).elim (m12 i) (fun e=>by omega)
  have m14:∀ i,Mu p14 i → w1.heap.size ≤ i:=fun i hi=>(t14.mu i hi).elim (m13 i) (fun e=>by omega)
  have o22:∀ i,Own d dk22 i → w1.heap.size ≤ i:=fun i hi=>by
   rcases t22.own i hi with e | e
   ·exact m14 i (.inl (by rw [ebd]; exact e))
   ·have:=((((h15.on h1517).on h18).on h20).on h21).size; omega
  have g9:=FP.next hL h19 (fun i hi=>hi.2)
  have g10:=FP.fr g9 t10.fr (fun i hi=>⟨by omega,fun e=>by have:=n0 i (.inl e); omega⟩)
  have g11:=FP.next g10 h11 (fun i hi=>by omega)
  have g12:=FP.fr g11 t12.fr (fun i hi=>⟨by omega,fun e=>by have:=m0 i e; omega⟩)
  have g13:=FP.fr g12 t13.fr (fun i hi=>⟨by omega,fun e=>by have:=m12 i e; omega⟩)
  have g14:=FP.fr g13 t14.fr (fun i hi=>⟨by omega,fun e=>by have:=m13 i e; omega⟩)
  have h1421:=(((h15.on h1517).on h18).on h20).on h21
  have z21:=h1421.size
  have g21:=FP.next g14 h1421 (fun i hi=>by omega)
  have z22:=t22.fr.size
  have z23:=t23.fr.size
  have z24:=h24.size
  have g22:=FP.fr g21 t22.fr (fun i hi=>⟨by omega,fun e=>by have:=m14 i (.inl (by rw [ebd]; exact e)); omega⟩)
  have g23:=FP.fr g22 t23.fr (fun i hi=>⟨by omega,fun e=>by have:=o22 i e; omega⟩)
  have g24:=FP.next g23 h24 (fun i hi=>by omega)
  have r1:=e4d (DbT.next hdb b24)
  have hw8':=hl.size
  refine (((FP.and hB24 r1).and g24).imp (fun W hW=>⟨⟨gE,hW.1.1,by constructor <;> decide,hW.1.2⟩,hW.2⟩)).mono (fun i hi=>?_)
  rcases hi with (hi | hi) | hi
  ·exact ⟨hi.2,fun e=>by have:i < w23.heap.size:=s23.d.lt (.inl e); omega⟩
  ·exact ⟨by omega,fun e=>by have:=o22 i e; omega⟩
  ·exact ⟨by omega,fun e=>by have:=o22 i e; omega⟩
 refine e4q (w0:=w) hl.size b24 s24 hy23 (fun i hi=>hi) hsl24 (fun w25 dk25 r25 s25 t25 o25=>?_)
 rw [e4] at s25 o25 ⊢
 obtain ⟨p3,hpb3,hph3,rfl,hQ,hMu3⟩:=o25
 refine Xa0 ?_
 refine c6i p3.pb ?_
 refine Xa0 ?_
 refine c6h hQ.st 0 (fun w26 ov2 h26 hov2=>?_)
 have eA2:b2j exS q3.items 0 = (⟨0,[]⟩,7):=by
  rw [i3]
  show (if x3.status = 1 ∨ x3.status = 2 then ((d3w exS x3).1,(0:Int)) else (⟨0,[]⟩,7)) = _
  rw [if_neg (by omega)]
 rw [eA2] at hov2 ⊢
 have hQ26:=hQ.next h26
 obtain ⟨oa2,oc2,rfl⟩:=hov2.here.isSlice
 refine b2c ?_
 refine a0m b4n (fun g27 w27 h27 hg27 hH27=>?_)
 refine a0i b2i rfl rfl (b0a _ _ _ _) hH27 rfl (fun w28 hg28 hH28=>?_)
 have h2628:Bw w26 w28:=a0y h27 hg28 hg27
 have hQ28:=hQ26.next h2628
 refine f2w hQ28.st (fun x hx=>by rw [i3,List.mem_singleton] at hx; subst hx; rw [x3h]; exact ⟨by decide,by decide,by decide,fun y hy=>by cases hy⟩) (fun w29 v29 h29 hI29=>?_)
 have hR:=hI29.here
 obtain ⟨va,vc,hva⟩:=hR.isSlice
 rw [i3] at hR hva
 have e1':[x3].length = 1:=rfl
 rw [e1'] at hva
 subst hva
 obtain ⟨vb,vo,rfl,hvb,cs,hcl,hcc,av3,yv3,lv3,rfl,_⟩:=hR.at (i:=0) (by simp)
 have k14:=hcc 14 _ rfl
 have k15:=hcc 15 _ rfl
 simp only [List.getElem_cons_zero,Nat.zero_mul,Nat.add_zero] at k14 k15
 rw [x3s] at k14
 rw [x3d] at k15
 have k:=k w29 ((hQ28.next h29).bl)
 refine Xa (An2 @k14 @k15) ?_
 exact k
end
end Go.Proofs
