/- Parts of the proof of the seat's statements (UqA, UqB, UqC, UqD, UqE, UqF, UqG, HPz, UqH, PuLaw8, PuLaw9, PuLaw10, PuSane, UqI, UqJ): lemmas about the given translation and plain laws. No condition of their own. -/
import Derived.Test.YtnbokkoppdnllaaGreatDoorQcd
import Derived.Test.YtnbokkoppdnllaaGreatDoorProg
set_option linter.all false
set_option maxRecDepth 100000
namespace Go.Proofs
open Go Go.Sh Go.RowKit FdSpec TkSpec CodeSpec PuSpec DkSpec JnSpec
section
variable {K:VK} {w w' w0 W W':World} {L:List (Addr × Value)} {rb b:Nat} {s:Stp} {lims:List Lim} {p p':Ph} {items items':List Itm} {A:Ab} {P:Pst} {h:Dk}
theorem e3r (hP:StR s lims w p items) (x:Itm) {av yv kv:Value} (hx:HldR w x.held av yv kv) {limit:Int} (now:Int) (h0:0 ≤ limit) (h1:limit < lims.length) (k:∀ w',Bw w w' → K (.bool (a3o lims limit now x)) w') :
  a0a Tryz.prog 72 #[.pointer (some ⟨p.pb,0,none⟩),g0g x av yv kv,.int .i64 limit,.int .i64 now] K w:=by
 apply e7m
 unfold g3r
 obtain ⟨a1,n1,c1,a2,n2,c2,a3,n3,c3,rfl,rfl,rfl⟩:=a0m hx
 refine a2n (cs:=b2h x (.slice a1 n1 c1) (.slice a2 n2 c2) (.slice a3 n3 c3)) rfl (fun b1 w1 hb1 hbb hB=>?_)
 have hw:=hb1.on (.drawn (B:=w1.heap.size))
 have hBd:=hB.next (.drawn (B:=w1.heap.size))
 have hPd:=hP.next hw
 refine ⟨Nx { w1 with drawn:=w1.drawn + 1 },bR,rfl,?_⟩
 generalize ({ w1 with drawn:=w1.drawn + 1 }:World) = W2 at hw hBd hPd ⊢
 have eF:a3o lims limit now x = (decide (x.status = 0) && decide (x.held.limit = limit) && decide (x.held.window = a2u (lims.getD limit.toNat ⟨0,0,0⟩) now)):=rfl
 have k2:∀ w' r,a3o lims limit now x = r → Nx W2 w' → K (.bool r) w':=fun w' r e hn=>by rw [← e]; exact k w' (hw.on hn)
 rw [eF] at k2
 clear k eF
 obtain ⟨lvad,lvc,hlv⟩:=hPd.lim.isSlice
 have C:=hPd.pur
 unfold puC at C
 have hL:=hPd.lim
 rw [hlv] at C hL
 have hli:limit.toNat < lims.length:=by omega
 obtain ⟨lb,lo,rfl,hlb,cs,hcl,hcc,hV⟩:=hL.at hli
 obtain ⟨rfl,hI⟩:=hV
 have eD:lims.getD limit.toNat ⟨0,0,0⟩ = lims[limit.toNat]:=by rw [List.getD_eq_getElem?_getD,gE hli]; rfl
 rw [eD] at k2
 generalize lims[limit.toNat] = lm at *
 have g0:∀ W0,Nx W2 W0 → W0.cell? ⟨lb,lo + limit.toNat * 3,none⟩ = some (.int .i64 lm.count):=fun W0 h=>(h.cell hlb).trans (hcc 0 _ rfl)
 have g1:∀ W0,Nx W2 W0 → W0.cell? ⟨lb,lo + limit.toNat * 3 + 1,none⟩ = some (.int .i64 lm.length):=fun W0 h=>(h.cell hlb).trans (hcc 1 _ rfl)
 have g2:∀ W0,Nx W2 W0 → W0.cell? ⟨lb,lo + limit.toNat * 3 + 2,none⟩ = some (.int .i64 lm.gate):=fun W0 h=>(h.cell hlb).trans (hcc 2 _ rfl)
 by_cases hs:x.status = 0
 ·by_cases hl:x.held.limit = limit
  ·repeat (any_goals (first
   | (with_reducible first|refine pX ?_|((refine b8x ?_); refine a5u fun _=>?_)|refine zA ?_)
   | ((with_reducible refine b2p ?_); first|(with_reducible first|refine vA ?_|refine a3x ?_)|(with_reducible refine a2f ⟨_,rfl⟩ (fun W0 hW0=>by (refine oG (fun X Y=>?_)); simp [go_sem,(C.next hW0).are,(hBd.next hW0).are,hs,hl,h0,h1,g0 _ hW0,g1 _ hW0,g2 _ hW0]; (first | exact Y _ _ ⟨rfl,rfl⟩ | exact ⟨by omega,Y _ _ ⟨rfl,rfl⟩⟩)) ?_))))
   dsimp only
   refine ⟨Nx,?_⟩
   apply a7y
   ·intro w9 h9
    refine Xa0 ?_
    exact b3s lm now (fun w2 h2=>⟨h9.on h2,h2,rfl⟩)
   rintro w8 h8 _ rfl
   by_cases hw:x.held.window = a2u lm now
   ·have k:=k2 _ true (by rw [decide_eq_true hs,decide_eq_true hl,decide_eq_true hw]; rfl) h8
    refine Xa @hw ?_
    exact k
   ·have k:=k2 _ false (by rw [decide_eq_false hw]; simp) h8
    refine Xa @hw ?_
    exact k
  ·refine Xf (fun W0 hW0=>An2 ((C.next hW0).are) ((hBd.next hW0).are)) (An2 @hs @hl) ?_
   refine ⟨Nx,?_⟩
   refine Xd0 ?_
   rintro w8 h8 _ rfl
   refine Xa0 ?_
   exact k2 _ _ (by rw [decide_eq_false hl]; simp) h8
 ·refine Xf (fun W0 hW0=>An2 ((C.next hW0).are) ((hBd.next hW0).are)) @hs ?_
  refine ⟨Nx,?_⟩
  refine Xd0 ?_
  rintro w8 h8 _ rfl
  refine Xa0 ?_
  exact k2 _ _ (by rw [decide_eq_false hs]; simp) h8
theorem cell_lt {a:Addr} {v:Value} (h:w.cell? a = some v):a.block < w.heap.size:=(b0y (L:=[(a,v)]) ⟨h,trivial⟩) _ (List.mem_singleton.2 rfl)
theorem d3u (hP:StR s lims w p items) (x:Itm) {av yv kv:Value} (hx:HldR w x.held av yv kv) {limit:Int} (now:Int) (h0:0 ≤ limit) (h1:limit < lims.length) {b1 b2 b3:Nat} (c1:w.cell? ⟨b1,0,none⟩ = some (.pointer (some ⟨p.pb,0,none⟩))) (c2:w.cell? ⟨b2,0,none⟩ = some (.int .i64 limit)) (c3:w.cell? ⟨b3,0,none⟩ = some (.int .i64 now))
  (k:∀ w',Bw w w' → K (.bool (a3o lims limit now x)) w'):a0a Tryz.prog 122 #[g0g x av yv kv,.pointer (some ⟨b1,0,none⟩),.pointer (some ⟨b2,0,none⟩),.pointer (some ⟨b3,0,none⟩)] K w:=by
 apply d7c
 unfold f5g
 obtain ⟨a1,n1,d1,a2,n2,d2,a3,n3,d3,rfl,rfl,rfl⟩:=a0m hx
 refine a2n (cs:=b2h x (.slice a1 n1 d1) (.slice a2 n2 d2) (.slice a3 n3 d3)) rfl (fun b4 W hb1 hbb hB=>?_)
 have e1:=(hb1.cell (cell_lt c1)).trans c1
 have e2:=(hb1.cell (cell_lt c2)).trans c2
 have e3:=(hb1.cell (cell_lt c3)).trans c3
 refine Xb1 @e1 ?_
 refine a1s hB b3u (by kernel_rfl) (by kernel_rfl) ?_
 refine Xa (An2 @e2 @e3) ?_
 refine e3r (hP.next hb1) x (hx.next hb1) now h0 h1 (fun w2 h2=>?_)
 refine Xa0 ?_
 exact k _ (hb1.on h2)
@[go_sem] theorem f7l {P:Program} {K:VK} {w:World} (fn:Fn) (T:TypeId) (x y z:Value):oM P (.makeFunc fn #[] #[.tmp 0,.tmp 1,.tmp 2]) T [x,y,z] K w = K (.func fn #[] #[x,y,z]) w:=a2y (by simp [xop,execOp,a0w,evE,Instr.makeFunc])
theorem c6g (hP:StR s lims w p P.items) (limit now:Int) (k:∀ w',Bw w w' → K (.tuple #[.int .i64 (a0i lims P.items limit now).1,.int .i64 (a0i lims P.items limit now).2]) w') :
  a0a Tryz.prog 73 #[.pointer (some ⟨p.pb,0,none⟩),.int .i64 limit,.int .i64 now] K w:=by
 apply e7n
 unfold g3s
 have bad:(limit < 0 ∨ (lims.length:Int) ≤ limit ∨ a2i now = false) → ∀ w',Bw w w' → K (.tuple #[.int .i64 0,.int .i64 1]) w':=fun e w' hb=>by
  have:a0i lims P.items limit now = (0,1):=by
   unfold a0i
   rw [if_pos (by rcases e with e | e | e <;> simp [e])]
  rw [this] at k
  exact k w' hb
 refine a2n (cs:=[.pointer (some ⟨p.pb,0,none⟩)]) rfl (fun b1 w1 h1 hb1 hB1=>?_)
 refine a2n (cs:=[.int .i64 limit]) rfl (fun b2 w2 h2 hb2 hB2=>?_)
 refine a2n (cs:=[.int .i64 now]) rfl (fun b3 w3 h3 hb3 hB3=>?_)
 have hw:=((h1.on h2).on h3).on (.drawn (B:=w3.heap.size))
 have hB1:=((hB1.next h2).next h3).next (.drawn (B:=w3.heap.size))
 have hB2:=(hB2.next h3).next (.drawn (B:=w3.heap.size))
 have hB3:=hB3.next (.drawn (B:=w3.heap.size))
 refine ⟨Nx { w3 with drawn:=w3.drawn + 1 },bR,rfl,?_⟩
 generalize ({ w3 with drawn:=w3.drawn + 1 }:World) = W4 at hw hB1 hB2 hB3 ⊢
 have hPd:=hP.next hw
 obtain ⟨lvad,lvc,hlv⟩:=hPd.lim.isSlice
 obtain ⟨ivad,ivc,hiv⟩:=hPd.items.isSlice
 have C:=hPd.pur
 unfold puC at C
 rw [hlv,hiv] at C
 have f5:∀ W0,Nx W4 W0 → W0.cell? ⟨p.pb,5,none⟩ = some (.slice lvad lims.length lvc):=fun W0 h=>(h.cell C.lt).trans (C.cell 5 (by simp))
 have f6:∀ W0,Nx W4 W0 → W0.cell? ⟨p.pb,6,none⟩ = some (.slice ivad P.items.length ivc):=fun W0 h=>(h.cell C.lt).trans (C.cell 6 (by simp))
 have g1:∀ W0,Nx W4 W0 → W0.cell? ⟨b1,0,none⟩ = some (.pointer (some ⟨p.pb,0,none⟩)):=fun W0 h=>(h.cell hB1.lt).trans (hB1.cell 0 (by simp))
 have g2:∀ W0,Nx W4 W0 → W0.cell? ⟨b2,0,none⟩ = some (.int .i64 limit):=fun W0 h=>(h.cell hB2.lt).trans (hB2.cell 0 (by simp))
 have g3:∀ W0,Nx W4 W0 → W0.cell? ⟨b3,0,none⟩ = some (.int .i64 now):=fun W0 h=>(h.cell hB3.lt).trans (hB3.cell 0 (by simp))
 have bad:(limit < 0 ∨ (lims.length:Int) ≤ limit ∨ a2i now = false) → ∀ w',Nx W4 w' → K (.tuple #[.int .i64 0,.int .i64 1]) w':=fun e w' hn=>bad e w' (hw.on hn)
 by_cases hl0:limit < 0
 ·have bad:=bad (.inl hl0)
  refine Xf (fun W0 hW0=>An4 (f5 _ hW0) (g1 _ hW0) (g2 _ hW0) (g3 _ hW0)) @hl0 ?_
  refine ⟨Nx,fun w5 h5=>?_⟩
  refine Xa0 ?_
  exact bad _ h5
 by_cases hl1:(lims.length:Int) ≤ limit
 ·have bad:=bad (.inr (.inl hl1))
  refine Xf (fun W0 hW0=>An4 (f5 _ hW0) (g1 _ hW0) (g2 _ hW0) (g3 _ hW0)) (An2 @hl0 @hl1) ?_
  refine ⟨Nx,fun w5 h5=>?_⟩
  refine Xa0 ?_
  exact bad _ h5
 refine Xf (fun W0 hW0=>An4 (f5 _ hW0) (g1 _ hW0) (g2 _ hW0) (g3 _ hW0)) (An2 @hl0 @hl1) ?_
 refine ⟨Nx,fun w5 h5=>?_⟩
 refine Xa0 ?_
 refine a5d now ?_
 cases ht:a2i now with
 | false=>
  have bad:=bad (.inr (.inr ht)) _ h5
  refine Xa0 ?_
  exact bad
 | true=>
 have k2:∀ w' r,a0i lims P.items limit now = r → Nx W4 w' → K (.tuple #[.int .i64 r.1,.int .i64 r.2]) w':=fun w' r e hn=>by rw [← e]; exact k w' (hw.on hn)
 have eC:a0i lims P.items limit now = (match P.items.findIdx? (a3o lims limit now) with
  | none=>(0,15)
  | some i=>(i,0)):=by
  unfold a0i
  rw [if_neg (by simp [hl0,hl1,ht])]
  rfl
 rw [eC] at k2
 clear k bad eC
 refine Xa (An2 (f6 _ h5) (g1 _ h5)) ?_
 have hP5:=hPd.next h5
 have hit:=hP5.items
 rw [hiv] at hit
 refine b8g (a3o lims limit now) hit ?_ (fun w6 h6=>?_)
 ·rintro w' x cs K' T hb hx ⟨av,yv,lv,rfl,hh,_⟩ h'
  refine a2z (by kernel_rfl) ?_
  exact d3u (hP5.next hb) x hh now (by omega) (by omega) (g1 _ (h5.on hb)) (g2 _ (h5.on hb)) (g3 _ (h5.on hb)) h'
 ·cases hf:P.items.findIdx? (a3o lims limit now) with
  | none=>
   have k:=k2 _ (0,15) (by rw [hf]) (h5.on h6)
   show oM _ _ _ [.int .i64 (-1),_] _ _
   refine Xa0 ?_
   exact k
  | some i=>
   have k:=k2 _ (i,0) (by rw [hf]) (h5.on h6)
   have hi:¬ (i:Int) < 0:=by omega
   show oM _ _ _ [.int .i64 (i:Int),_] _ _
   refine Xa @hi ?_
   exact k
theorem modify_set {α:Type} {l:List α} {i:Nat} {x:α} (f:α → α) (h:l[i]? = some x):l.modify i f = l.set i (f x):=by
 apply List.ext_getElem?
 intro j
 rw [List.getElem?_modify,List.getElem?_set]
 by_cases hj:i = j
 ·subst hj
  rw [if_pos rfl,h,if_pos (gS h).1]
  simp
 ·rw [if_neg hj]
  cases l[j]? <;> simp [hj]
set_option maxHeartbeats 4000000 in
theorem e3s (hP:PuR s lims w0 w p A P) {i:Nat} (hi:i < P.items.length) (kind dare:Int) (hk:InR kind) (hd:InR dare)
  (k:∀ w' p',PuR s lims w0 w' p' (a4t A P i kind dare).2.1 (a4t A P i kind dare).2.2 → PuSt p w p' w' → (p'.pb = p.pb ∧ p'.b = p.b) → K (.int .i64 (a4t A P i kind dare).1) w') :
  a0a Tryz.prog 74 #[.pointer (some ⟨p.pb,0,none⟩),.int .i64 (i:Int),.int .i64 kind,.int .i64 dare] K w:=by
 apply e7o
 unfold g3t
 have hcn:=hP.st.cnt
 have hri:InR (i:Int):=⟨by omega,by omega⟩
 have hall:∀ n ∈ [kind,(i:Int),dare],InR n:=by
  intro n hn
  simp only [List.mem_cons,List.not_mem_nil,or_false] at hn
  rcases hn with rfl | rfl | rfl
  ·exact hk
  ·exact hri
  ·exact hd
 have hrl:=a8k hall (by simp)
 have hPd:=hP.next (.drawn (B:=w.heap.size))
 have hw0:Below w.heap.size w { w with drawn:=w.drawn + 1 }:=.drawn
 refine ⟨Nx { w with drawn:=w.drawn + 1 },bR,rfl,?_⟩
 generalize ({ w with drawn:=w.drawn + 1 }:World) = W1 at hPd hw0 ⊢
 have C:=hPd.st.pur
 have f7:∀ W0,Nx W1 W0 → W0.cell? ⟨p.pb,7,none⟩ = some (jnP p.q):=fun W0 h=>(h.cell C.lt).trans (C.cell 7 (by simp))
 refine Xc (fun W0 hW0=>f7 _ hW0) ?_
 refine ⟨Nx,?_⟩
 refine b3m (fun v w'=>Ints w' v [kind,(i:Int),dare]) (fun v w w1 hS h=>h.next hS) ?_ ?_
 ·intro w2 h2
  exact h1t _ _ _ (a1k hk) (a1k hri) (a1k hd) (fun v w3 h3 hi=>⟨h2.on h3,h3,hi⟩)
 apply a7y
 ·intro w2 h2 v hv
  exact Cd.pNums_ok _ v (hPd.next h2).sys.l.toLaid (a6s hv) hall (by unfold a0u a0o at hrl; omega) (fun w3 h3=>⟨h2.on h3,h3,rfl⟩)
 rintro w2 h2 v1 - _ rfl
 have hw2:=hw0.on h2
 have hP2:=hPd.next h2
 refine b6g hP2.sys hP2.jn ⟨by omega,by omega⟩ (a0u [kind,(i:Int),dare]) (by omega) (fun w3 h3 v3 s3 j3 t3=>?_)
 obtain ⟨hP3,ta⟩:=hP2.jour s3 j3 t3
 have eK:a4t A P i kind dare = if (a0g A 0 P.j (a0u [kind,(i:Int),dare])).1 ≠ 0 then ((a0g A 0 P.j (a0u [kind,(i:Int),dare])).1,(a0g A 0 P.j (a0u [kind,(i:Int),dare])).2.1,⟨(a0g A 0 P.j (a0u [kind,(i:Int),dare])).2.2,P.items⟩)
  else if (a5n (a0g A 0 P.j (a0u [kind,(i:Int),dare])).2.1 0 (a0g A 0 P.j (a0u [kind,(i:Int),dare])).2.2).1 ≠ 0 then ((a5n (a0g A 0 P.j (a0u [kind,(i:Int),dare])).2.1 0 (a0g A 0 P.j (a0u [kind,(i:Int),dare])).2.2).1,(a5n (a0g A 0 P.j (a0u [kind,(i:Int),dare])).2.1 0 (a0g A 0 P.j (a0u [kind,(i:Int),dare])).2.2).2.1,⟨(a5n (a0g A 0 P.j (a0u [kind,(i:Int),dare])).2.1 0 (a0g A 0 P.j (a0u [kind,(i:Int),dare])).2.2).2.2,P.items.modify i fun x=>{ x with dare:=dare,status:=3 }⟩)
  else (0,(a5n (a0g A 0 P.j (a0u [kind,(i:Int),dare])).2.1 0 (a0g A 0 P.j (a0u [kind,(i:Int),dare])).2.2).2.1,⟨(a5n (a0g A 0 P.j (a0u [kind,(i:Int),dare])).2.1 0 (a0g A 0 P.j (a0u [kind,(i:Int),dare])).2.2).2.2,P.items.modify i fun x=>{ x with dare:=dare,status:=1,lent:=decide (kind = 3) }⟩):=rfl
 generalize a0g A 0 P.j (a0u [kind,(i:Int),dare]) = a at *
 have hx:P.items[i]? = some P.items[i]:=gE hi
 rw [modify_set _ hx,modify_set _ hx] at eK
 generalize P.items[i] = x at *
 by_cases he:a.1 = 0
 ·rw [if_neg (by rw [he]; simp)] at eK
  rw [he]
  obtain ⟨g,c,av,yv,kv,hgv,hgl,hH,hI,hJ,hc⟩:=hP3.st.at hx
  simp only at hgv
  have c6:=hP3.st.pur.cell 6 (by simp)
  simp only [List.getElem_cons_zero,List.getElem_cons_succ] at c6
  rw [hgv] at c6
  have hiZ:(i:Int) < P.items.length:=by omega
  refine Xa (An2 @c6 @hiZ) ?_
  refine hP3.st.put1 hP3.mu_lt (y:={ x with dare:=dare }) hx hgv (by omega) a7q rfl rfl (fun _ _ _=>rfl) rfl ⟨hI,a1k hd⟩ (fun w4 st4 t4=>?_)
  have hP4:=hP3.it st4 t4
  have c7:=hP4.st.pur.cell 7 (by simp)
  simp only [List.getElem_cons_zero,List.getElem_cons_succ] at c7
  refine Xa @c7 ?_
  refine c9q hP4.sys hP4.jn (fun w5 h5 s5 j5 t5=>?_)
  obtain ⟨hP5,tb⟩:=hP4.jour s5 j5 t5
  simp only at hP5 eK
  generalize a5n a.2.1 0 a.2.2 = bb at *
  have hx5:(P.items.set i { x with dare:=dare })[i]? = some { x with dare:=dare }:=List.getElem?_set_self hi
  have hlen:(P.items.set i { x with dare:=dare }).length = P.items.length:=List.length_set
  have T:=((PuSt.below hw2).trans ta).trans (t4.st.trans tb)
  by_cases hs:bb.1 = 0
  ·rw [if_neg (by rw [hs]; simp)] at eK
   rw [eK] at k
   rw [hs]
   refine Xa0 ?_
   refine hP5.st.put1 hP5.mu_lt (y:={ x with dare:=dare,status:=1 }) hx5 (by rw [hlen]; exact hgv) (by omega) a7q rfl rfl (fun _ _ _=>rfl) rfl ⟨b9g 1 (by omega),a1k hd⟩ (fun w6 st6 t6=>?_)
   have hP6:=hP5.it st6 t6
   rw [List.set_set] at hP6
   refine Xa0 ?_
   have hx6:(P.items.set i { x with dare:=dare,status:=1 })[i]? = some { x with dare:=dare,status:=1 }:=List.getElem?_set_self hi
   refine hP6.st.put1 hP6.mu_lt (y:={ x with dare:=dare,status:=1,lent:=decide (kind = 3) }) hx6 (by rw [List.length_set]; exact hgv) (by omega) b4v rfl rfl (fun _ _ _=>rfl) rfl ⟨b9g 1 (by omega),a1k hd⟩ (fun w7 st7 t7=>?_)
   have hP7:=hP6.it st7 t7
   rw [List.set_set] at hP7
   refine Xa0 ?_
   exact k w7 _ hP7 (T.trans (t6.st.trans t7.st)) ⟨rfl,rfl⟩
  ·rw [if_pos hs] at eK
   rw [eK] at k
   refine Xa @hs ?_
   refine hP5.st.put1 hP5.mu_lt (y:={ x with dare:=dare,status:=3 }) hx5 (by rw [hlen]; exact hgv) (by omega) a7q rfl rfl (fun _ _ _=>rfl) rfl ⟨b9g 3 (by omega),a1k hd⟩ (fun w6 st6 t6=>?_)
   have hP6:=hP5.it st6 t6
   rw [List.set_set] at hP6
   refine Xa0 ?_
   exact k w6 _ hP6 (T.trans t6.st) ⟨rfl,rfl⟩
 ·rw [if_pos he] at eK
  rw [eK] at k
  have k:=k w3 _ hP3 ((PuSt.below hw2).trans ta) ⟨rfl,rfl⟩
  refine Xa @he ?_
  exact k
theorem c0o (lims:List Lim) (items:List Itm) (limit now:Int):(a0i lims items limit now).2 = 1 ∨ (a0i lims items limit now).2 = 15 ∨ ((a0i lims items limit now).2 = 0 ∧ (a0i lims items limit now).1 < items.length):=by
 unfold a0i
 split
 ·exact .inl rfl
 ·cases h:items.findIdx? (a3o lims limit now) with
  | none=>exact .inr (.inl rfl)
  | some i=>exact .inr (.inr ⟨rfl,(List.findIdx?_eq_some_iff_getElem.1 h).1⟩)
theorem b2k (hP:PuR s lims w0 w p A P) (limit now dare:Int) (hd:InR dare)
  (k:∀ w' p',PuR s lims w0 w' p' (a0s s lims A P limit now dare).2.1 (a0s s lims A P limit now dare).2.2 → PuSt p w p' w' → (p'.pb = p.pb ∧ p'.b = p.b) → K (.tuple #[.int .i64 (a0s s lims A P limit now dare).1.1,.int .i64 (a0s s lims A P limit now dare).1.2]) w') :
  a0a Tryz.prog 28 #[.pointer (some ⟨p.pb,0,none⟩),.int .i64 limit,.int .i64 now,.int .i64 dare] K w:=by
 apply e7p
 unfold g3u
 refine c6g hP.st limit now (fun w1 h1=>?_)
 have hP1:=hP.next h1
 have hcv:=c0o lims P.items limit now
 have eR:a0s s lims A P limit now dare = if (a0i lims P.items limit now).2 = 1 ∨ dare < 1 ∨ s.g.Q ≤ dare then ((0,1),A,P)
  else if (a0i lims P.items limit now).2 ≠ 0 then ((0,(a0i lims P.items limit now).2),A,P)
  else if (a4t A P (a0i lims P.items limit now).1 1 dare).1 ≠ 0 then ((0,(a4t A P (a0i lims P.items limit now).1 1 dare).1),(a4t A P (a0i lims P.items limit now).1 1 dare).2)
  else (((a0i lims P.items limit now).1,0),(a4t A P (a0i lims P.items limit now).1 1 dare).2):=rfl
 generalize a0i lims P.items limit now = c at *
 obtain ⟨i,e⟩:=c
 simp only at *
 have hc1:=hP1.st.pur.cell 1 (by simp)
 simp only [List.getElem_cons_zero,List.getElem_cons_succ] at hc1
 have bad:(e = 1 ∨ dare < 1 ∨ s.g.Q ≤ dare) → K (.tuple #[.int .i64 0,.int .i64 1]) w1:=fun hb=>by
  rw [if_pos hb] at eR
  rw [eR] at k
  exact k w1 p hP1 (PuSt.below h1) ⟨rfl,rfl⟩
 by_cases h1e:e = 1
 ·have bad:=bad (.inl h1e)
  refine Xa @h1e ?_
  exact bad
 by_cases hd1:dare < 1
 ·have bad:=bad (.inr (.inl hd1))
  refine Xa (An2 @h1e @hd1) ?_
  exact bad
 by_cases hd2:s.g.Q ≤ dare
 ·have bad:=bad (.inr (.inr hd2))
  refine Xa (An4 @h1e @hd1 @hd2 @hc1) ?_
  exact bad
 rw [if_neg (by omega)] at eR
 refine Xa (An4 @h1e @hd1 @hd2 @hc1) ?_
 by_cases h0:e = 0
 ·subst h0
  rw [if_neg (by simp)] at eR
  have hi:i < P.items.length:=by omega
  refine ⟨fun l W=>∃ p',l.getD 0 undef = .int .i64 (a4t A P i 1 dare).1 ∧ PuR s lims w0 W p' (a4t A P i 1 dare).2.1 (a4t A P i 1 dare).2.2 ∧ PuSt p w p' W ∧ (p'.pb = p.pb ∧ p'.b = p.b),?_,?_⟩
  ·refine Xa0 ?_
   refine e3s hP1 hi 1 dare ⟨by omega,by omega⟩ hd (fun w2 p2 a b c=>?_)
   refine Xa0 ?_
   exact ⟨p2,rfl,a,(PuSt.below h1).trans b,c⟩
  ·rintro l u W ⟨p2,hl,a,b,c⟩
   rw [hl]
   by_cases he:(a4t A P i 1 dare).1 = 0
   ·rw [if_neg (by rw [he]; simp)] at eR
    rw [eR] at k
    have k:=k W p2 a b c
    refine Xa @he ?_
    exact k
   ·rw [if_pos he] at eR
    rw [eR] at k
    have k:=k W p2 a b c
    refine Xa @he ?_
    exact k
 ·rw [if_pos h0] at eR
  rw [eR] at k
  refine ⟨fun l W=>W = w1 ∧ l.getD 0 undef = .int .i64 e,?_,?_⟩
  ·refine Xa @h0 ?_
   exact ⟨rfl,rfl⟩
  ·rintro l u W ⟨rfl,hl⟩
   rw [hl]
   have k:=k W p hP1 (PuSt.below h1) ⟨rfl,rfl⟩
   refine Xa @h0 ?_
   exact k
theorem b4w (w:World):(Instr.alloc 84 true (.tuple #[])).run Tryz.prog w = .ok (.pointer (some ⟨w.heap.size,0,none⟩)) (w.alloc (.cells [.int .i64 0,.slice none 0 0].toArray 84)):=by kernel_rfl
theorem c6h (w:World):(Instr.alloc 67 true (.tuple #[])).run Tryz.prog w = .ok (.pointer (some ⟨w.heap.size,0,none⟩)) (w.alloc (.cells itmZ.toArray 67)):=by kernel_rfl
theorem c0p (w:World):(sizeOf 67).run Tryz.prog w = .ok 18 w:=by kernel_rfl
theorem b2l (w:World):(sizeOf 84).run Tryz.prog w = .ok 2 w:=by kernel_rfl
theorem c2q:Tryz.prog.underlying 84 = some ((Tryz.prog.underlying 84).getD default):=by kernel_rfl
theorem a9b (d:Int) (ad:Option Addr) (n c:Nat):∀ u ∈ ([.int .i64 d,.slice ad n c]:List Value),u.oneCell' = true:=by
 intro u hu
 simp only [List.mem_cons,List.not_mem_nil,or_false] at hu
 rcases hu with rfl | rfl <;> rfl
@[reducible] def d1m (s:Stp) (x:Itm):Spd × Bool:=c2w s x.held.attrs x.held.bl x.dare
set_option maxHeartbeats 4000000 in
theorem f7m (hP:StR s lims w p items) {i:Nat} {x:Itm} (hx:items[i]? = some x) (k:∀ w' ov,Bw w w' → Fresh w w' (fun W=>Ints W ov (d1m s x).1.answers) → K (.agg #[.int .i64 (d1m s x).1.dare,ov]) w') :
  a0a Tryz.prog 91 #[.pointer (some ⟨p.pb,0,none⟩),.int .i64 (i:Int)] K w:=by
 apply e7q
 unfold g3v
 refine a0j b4w (fun g4 w1 h1 hg4 hH4=>?_)
 have hP1:=hP.next h1
 obtain ⟨g,c,av,yv,kv,hgv,hgl,hH,hI,hJ,hc⟩:=hP1.at hx
 obtain ⟨a1,n1,d1,a2,n2,d2,a3,n3,d3,rfl,rfl,rfl⟩:=a0m hH
 have c6:=hP1.pur.cell 6 (by simp)
 simp only [List.getElem_cons_zero,List.getElem_cons_succ] at c6
 rw [hgv] at c6
 have hil:=(gS hx).1
 have hiZ:(i:Int) < items.length:=by omega
 refine Xb4 (An2 @c6 @hiZ) ?_
 refine Xb1 @hiZ ?_
 refine a1l (cs:=b2h x (.slice a1 n1 d1) (.slice a2 n2 d2) (.slice a3 n3 d3)) hc b3u (by kernel_rfl) (by kernel_rfl) ?_
 refine a0j c6h (fun g5 w5 h5 hg5 hH5=>?_)
 refine a0h c0p rfl rfl (b0j _ _ _ _ _ _ _ _ _ _ _ _ _ _ _ _ _ _ _ _ _ _ _ _) hH5 rfl (fun w6 hg6 hH6=>?_)
 have hs1:=h1.size
 have hs5:=h5.size
 have hs6:=hg6.size
 have h16:Bw w1 w6:=h5.grown hg6 (by omega) (fun j e=>by cases e; omega)
 have hPd:=(hP1.next h16).next (.drawn (B:=w6.heap.size))
 have hH6:=hH6.next (.drawn (B:=w6.heap.size))
 have hH4:=(hH4.next h16).next (.drawn (B:=w6.heap.size))
 have hHd:=(hH.next h16).next (.drawn (B:=w6.heap.size))
 have hw:=(h1.on h16).on (.drawn (B:=w6.heap.size))
 refine ⟨Nx { w6 with drawn:=w6.drawn + 1 },bR,?_⟩
 generalize ({ w6 with drawn:=w6.drawn + 1 }:World) = W7 at hPd hH6 hH4 hHd hw ⊢
 obtain ⟨bvad,bvc,hbv⟩:=hPd.set.ints.isSlice
 have C:=hPd.pur
 unfold puC at C
 rw [hbv] at C
 have e0:∀ W0,Nx W7 W0 → W0.cell? ⟨p.pb,0,none⟩ = some (.int .i64 s.g.P) ∧ W0.cell? ⟨p.pb,1,none⟩ = some (.int .i64 s.g.Q) ∧ W0.cell? ⟨p.pb,2,none⟩ = some (.int .i64 s.g.G) ∧ W0.cell? ⟨p.pb,3,none⟩ = some (.slice bvad s.bases.length bvc) ∧ W0.cell? ⟨p.pb,4,none⟩ = some (.int .i64 s.blind):=fun W0 h=>⟨(h.cell C.lt).trans (C.cell 0 (by simp)),(h.cell C.lt).trans (C.cell 1 (by simp)),(h.cell C.lt).trans (C.cell 2 (by simp)),(h.cell C.lt).trans (C.cell 3 (by simp)),(h.cell C.lt).trans (C.cell 4 (by simp))⟩
 have e1:∀ W0,Nx W7 W0 → W0.cell? ⟨g5,2,none⟩ = some (.slice a1 n1 d1) ∧ W0.cell? ⟨g5,3,none⟩ = some (.int .i64 x.held.bl.s) ∧ W0.cell? ⟨g5,4,none⟩ = some (.int .i64 x.held.bl.u) ∧ W0.cell? ⟨g5,5,none⟩ = some (.int .i64 x.held.bl.v) ∧ W0.cell? ⟨g5,6,none⟩ = some (.slice a2 n2 d2) ∧ W0.cell? ⟨g5,15,none⟩ = some (.int .i64 x.dare):=fun W0 h=>⟨(h.cell hH6.lt).trans (hH6.cell 2 (by simp)),(h.cell hH6.lt).trans (hH6.cell 3 (by simp)),(h.cell hH6.lt).trans (hH6.cell 4 (by simp)),(h.cell hH6.lt).trans (hH6.cell 5 (by simp)),(h.cell hH6.lt).trans (hH6.cell 6 (by simp)),(h.cell hH6.lt).trans (hH6.cell 15 (by simp))⟩
 have hS:=hPd.set
 rw [hbv] at hS
 have hBl:BldR W7 x.held.bl (.slice a2 n2 d2):=⟨a1k hHd.wf.s,a1k hHd.wf.u,a1k hHd.wf.v,hHd.ys⟩
 have h4l:=hH4.lt
 have fin:∀ (W:World) (ov:Value) (g9:Nat),Nx W7 W → W7.heap.size ≤ g9 → Holds W g9 84 [.int .i64 (d1m s x).1.dare,ov] → Ints W ov (d1m s x).1.answers → (∀ i,Value.inBlock ov = some i → W7.heap.size ≤ i) → Nx W7 W ∧ oM Tryz.prog (Go.Op.load 84 (.tmp 0)) 84 [.pointer (some ⟨g9,0,none⟩)] (fun v33 w=>oM Tryz.prog (Go.Op.store 84 (.tmp 0) (.tmp 1)) 0 [.pointer (some ⟨g4,0,none⟩),v33] (fun _ w=>∃ r,(do loadVar 84 (← asAddr (.pointer (some ⟨g4,0,none⟩))):Sem Value).run Tryz.prog w = .ok r w ∧ K r w) w) W:=fun W ov g9 h hg9 hH hov hovB=>by
  refine ⟨h,?_⟩
  obtain ⟨oa,oc,rfl⟩:=hov.isSlice
  refine a1s hH c2q (by kernel_rfl) (by kernel_rfl) ?_
  have hg4w:g4 < W.heap.size:=lL h4l h.size
  refine a0h b2l rfl rfl (a9b _ _ _ _) (hH4.next h) rfl (fun w12 hg12 hH12=>?_)
  refine a4z hH12 c2q (by kernel_rfl) (by kernel_rfl) ?_
  refine k w12 _ ((hw.on h).grown hg12 (by have:=hw.size; have:=h.size; omega) (fun j e=>by cases e; exact hg4)) ?_
  have hws:=hw.size
  exact (hov.fp.fr (Fr.of_by hg12) (fun j hj=>⟨hj.2,fun e=>by have:=hovB j hj.1; omega⟩)).mono (fun j hj=>⟨by have:=hovB j hj.1; omega,by have:=hj.2; have:=hg12.size; omega⟩)
 refine Xc (fun W0 hW0=>An2 (e0 _ hW0) (e1 _ hW0)) ?_
 refine ⟨?_,?_⟩
 ·refine f7g s x.held.bl x.dare hJ hS hHd.attrs hBl (fun w8 ov h8 hov hvB=>⟨h8,?_⟩)
  iterate 3 (any_goals (first
  | (with_reducible refine pX ?_)
  | ((with_reducible refine b2p ?_); (with_reducible refine a2f ⟨_,rfl⟩ (fun W0 hW0=>by (refine oG (fun X Y=>?_)); simp [go_sem,e0 _ hW0]; (first | exact Y _ _ ⟨rfl,rfl⟩ | exact ⟨by omega,Y _ _ ⟨rfl,rfl⟩⟩)) ?_))))
  refine a0j b4w (fun g9 w9 h9 hg9 hH9=>⟨h8.on h9,?_⟩)
  obtain ⟨oa,oc,rfl⟩:=hov.isSlice
  refine a0h (xs:=[.int .i64 (d1m s x).1.dare,.slice oa (d1m s x).1.answers.length oc]) b2l rfl rfl (a9b _ _ _ _) hH9 rfl (fun w10 hg10 hH10=>?_)
  have h8s:=h8.size
  have h10:=a0k h9 hg10 hg9
  exact ⟨h8.on h10,fin w10 _ g9 (h8.on h10) (by omega) hH10 (hov.next h10) hvB⟩
 ·refine a0j b4w (fun g9 w9 h9 hg9 hH9=>⟨h9,?_⟩)
  refine f7g s x.held.bl x.dare hJ (hS.next h9) (hHd.attrs.next h9) (hBl.next h9) (fun w8 ov h8 hov hvB=>⟨h9.on h8,?_⟩)
  refine Xc (fun W0 hW0=>e0 _ hW0) ?_
  obtain ⟨oa,oc,rfl⟩:=hov.isSlice
  have h9l:=hH9.lt
  refine a0h (xs:=[.int .i64 (d1m s x).1.dare,.slice oa (d1m s x).1.answers.length oc]) b2l rfl rfl (a9b _ _ _ _) (hH9.next h8) rfl (fun w10 hg10 hH10=>?_)
  have h9s:=h9.size
  have h710:Nx W7 w10:=(h9.on h8).grown hg10 (by have:=(h9.on h8).size; omega) (fun j e=>by cases e; exact hg9)
  exact ⟨h710,fin w10 _ g9 h710 hg9 hH10 (hov.fp.fr (Fr.of_by hg10) (fun j hj=>⟨hj.2,fun e=>by have:=hvB j hj.1; omega⟩)).here (fun j hj=>by have:=hvB j hj; omega)⟩
theorem e3t (hP:StR s lims w p items) (i:Int) (k0:(i < 0 ∨ (items.length:Int) ≤ i) → K (.tuple #[.pointer none,.bool false]) w)
  (k1:∀ g c,0 ≤ i → i < items.length → p.iv = .slice (some ⟨g,0,none⟩) items.length c → K (.tuple #[.pointer (some ⟨g,i.toNat * 18,none⟩),.bool true]) w) :
  a0a Tryz.prog 107 #[.pointer (some ⟨p.pb,0,none⟩),.int .i64 i] K w:=by
 apply d7d
 unfold f5h
 obtain ⟨iad,ic,hiv⟩:=hP.items.isSlice
 have c6:=hP.pur.cell 6 (by simp)
 simp only [List.getElem_cons_zero,List.getElem_cons_succ] at c6
 rw [hiv] at c6
 by_cases h0:i < 0
 ·have k0:=k0 (.inl h0)
  refine Xa @h0 ?_
  exact k0
 by_cases h1:(items.length:Int) ≤ i
 ·have k0:=k0 (.inr h1)
  refine Xa (An3 @h0 @h1 @c6) ?_
  exact k0
 obtain ⟨g,c,av,yv,kv,hgv,_⟩:=hP.at (gE (show i.toNat < items.length by omega))
 rw [hiv] at hgv
 cases hgv
 have h0':0 ≤ i:=by omega
 have h1':i < items.length:=by omega
 have k1:=k1 g _ h0' h1' hiv
 refine Xa (An5 @h0 @h1 @h0' @h1' @c6) ?_
 exact k1
def b2m (s:Stp) (items:List Itm) (i:Int):Spd × Int:=
 if i < 0 then (⟨0,[]⟩,4)
 else match items[i.toNat]? with
  | none=>(⟨0,[]⟩,4)
  | some x=>if x.status = 1 ∨ x.status = 2 then ((d1m s x).1,0) else (⟨0,[]⟩,7)
theorem c6i (hP:StR s lims w p items) (i:Int) (k:∀ w' ov,Bw w w' → Fresh w w' (fun W=>Ints W ov (b2m s items i).1.answers) → K (.tuple #[.agg #[.int .i64 (b2m s items i).1.dare,ov],.int .i64 (b2m s items i).2]) w') :
  a0a Tryz.prog 55 #[.pointer (some ⟨p.pb,0,none⟩),.int .i64 i] K w:=by
 apply e7r
 unfold g3w
 refine a0j b4w (fun g4 w1 h1 hg4 hH4=>?_)
 have hP1:=hP.next h1
 have k2:∀ r,b2m s items i = r → ∀ w' ov,Bw w w' → Fresh w w' (fun W=>Ints W ov r.1.answers) → K (.tuple #[.agg #[.int .i64 r.1.dare,ov],.int .i64 r.2]) w':=fun r e=>by rw [← e]; exact k
 unfold b2m at k2
 clear k
 have zero:∀ e,(∀ w' ov,Bw w w' → Fresh w w' (fun W=>Ints W ov []) → K (.tuple #[.agg #[.int .i64 0,ov],.int .i64 e]) w') →
   oM Tryz.prog (Go.Op.store 84 (.tmp 0) (.tmp 1)) 0 [.pointer (some ⟨g4,0,none⟩),.agg #[.int .i64 0,.slice none 0 0]] (fun _ w=>∃ r,(do loadVar 84 (← asAddr (.pointer (some ⟨g4,0,none⟩))):Sem Value).run Tryz.prog w = .ok r w ∧ K (.tuple #[r,.int .i64 e]) w) w1:=fun e k=>by
  refine a0h b2l rfl rfl (a9b 0 none 0 0) hH4 rfl (fun w2 hg2 hH2=>?_)
  refine a4z hH2 c2q (by kernel_rfl) (by kernel_rfl) ?_
  exact k w2 _ (h1.grown hg2 h1.size (fun j e=>by cases e; exact hg4)) (fun _ _ _ _ _ _=>Ints.nil _)
 refine e3t hP1 i (fun hb=>?_) (fun g c h0 hl hgv=>?_)
 ·have e:(if i < 0 then ((⟨0,[]⟩:Spd),(4:Int)) else match items[i.toNat]? with
   | none=>(⟨0,[]⟩,4)
   | some x=>if x.status = 1 ∨ x.status = 2 then ((d1m s x).1,0) else (⟨0,[]⟩,7)) = (⟨0,[]⟩,4):=by
   rcases hb with hb | hb
   ·rw [if_pos hb]
   ·rw [if_neg (by omega),List.getElem?_eq_none (by omega)]
  have k:=zero 4 (k2 _ e)
  refine Xa0 ?_
  exact k
 ·have hx:items[i.toNat]? = some items[i.toNat]:=gE (by omega)
  rw [if_neg (by omega),hx] at k2
  simp only at k2
  generalize items[i.toNat] = x at *
  obtain ⟨g',c',av,yv,kv,hgv',hgl,hH,hI,hJ,hc⟩:=hP1.at hx
  rw [hgv] at hgv'
  cases hgv'
  have c14:=hc 14 _ rfl
  by_cases hs:x.status = 1 ∨ x.status = 2
  ·rw [if_pos hs] at k2
   have k:=k2 _ rfl
   have tail:a0a Tryz.prog 91 #[.pointer (some ⟨p.pb,0,none⟩),.int .i64 i] (fun v34 w=>oM Tryz.prog (Go.Op.store 84 (.tmp 0) (.tmp 1)) 0 [.pointer (some ⟨g4,0,none⟩),v34] (fun _ w=>∃ r,(do loadVar 84 (← asAddr (.pointer (some ⟨g4,0,none⟩))):Sem Value).run Tryz.prog w = .ok r w ∧ K (.tuple #[r,.int .i64 0]) w) w) w1:=by
    have ei:(i.toNat:Int) = i:=by omega
    rw [← ei]
    refine f7m hP1 hx (fun w2 ov h2 hF=>?_)
    obtain ⟨oa,oc,rfl⟩:=hF.here.isSlice
    have h4l:=hH4.lt
    refine a0h b2l rfl rfl (a9b _ _ _ _) (hH4.next h2) rfl (fun w3 hg3 hH3=>?_)
    refine a4z hH3 c2q (by kernel_rfl) (by kernel_rfl) ?_
    have h12:=h1.on h2
    exact k w3 _ (h12.grown hg3 (by have:=h12.size; omega) (fun j e=>by cases e; exact hg4)) ((FP.fr hF (Fr.of_by hg3) (fun j hj=>⟨hj.2,fun e=>by omega⟩)).mono (fun j hj=>⟨by have:=h1.size; omega,by have:=hg3.size; omega⟩))
   by_cases h1s:x.status = 1
   ·refine Xa (An2 @c14 @h1s) ?_
    exact tail
   ·have h2s:x.status = 2:=hs.resolve_left h1s
    refine Xa (An3 @c14 @h1s @h2s) ?_
    exact tail
  ·rw [if_neg hs] at k2
   have k:=zero 7 (k2 _ rfl)
   have h1s:¬ x.status = 1:=fun e=>hs (.inl e)
   have h2s:¬ x.status = 2:=fun e=>hs (.inr e)
   refine Xa (An3 @c14 @h1s @h2s) ?_
   exact k
theorem f2r (hP:StR s lims w p items) (limit now:Int) (k:∀ w',Bw w w' → K (.int .i64 (a9t lims items limit now)) w') :
  a0a Tryz.prog 27 #[.pointer (some ⟨p.pb,0,none⟩),.int .i64 limit,.int .i64 now] K w:=by
 apply e7u
 unfold g3z
 obtain ⟨lvad,lvc,hlv⟩:=hP.lim.isSlice
 obtain ⟨ivad,ivc,hiv⟩:=hP.items.isSlice
 have C:=hP.pur
 unfold puC at C
 rw [hlv,hiv] at C
 have c5:=C.cell 5 (by simp)
 have c6:=C.cell 6 (by simp)
 simp only [List.getElem_cons_zero,List.getElem_cons_succ] at c5 c6
 have eL:a9t lims items limit now = if decide (limit < 0) || decide ((lims.length:Int) ≤ limit) || !a2i now then 0 else ((items.filter (a3o lims limit now)).length:Int):=rfl
 rw [eL] at k
 clear eL
 by_cases hl0:limit < 0
 ·rw [if_pos (by simp [hl0])] at k
  have k:=k _ (bR)
  refine Xa @hl0 ?_
  exact k
 by_cases hl1:(lims.length:Int) ≤ limit
 ·rw [if_pos (by simp [hl1])] at k
  have k:=k _ (bR)
  refine Xa (An3 @hl0 @hl1 @c5) ?_
  exact k
 refine Xa (An3 @hl0 @hl1 @c5) ?_
 refine a5d now ?_
 cases ht:a2i now with
 | false=>
  rw [if_pos (by simp [ht])] at k
  have k:=k _ (bR)
  refine Xa0 ?_
  exact k
 | true=>
 rw [if_neg (by simp [hl0,hl1,ht])] at k
 refine Xa @c6 ?_
 have hcn:=hP.cnt
 refine ⟨fun vs W=>∃ (i:Nat),vs = [.int .i64 (((items.take i).filter (a3o lims limit now)).length:Int),.int .i64 (i:Int)] ∧ i ≤ items.length ∧ Nx w W,
  (fun vs _=>match vs with | [_,.int _ i]=>items.length - i.toNat | _=>0),⟨0,rfl,by omega,bR⟩,?_⟩
 rintro _ _ w2 ⟨i,rfl,hi,h2⟩
 by_cases hin:i = items.length
 ·subst hin
  rw [List.take_length]
  have k:=k _ h2
  refine Xa0 ?_
  exact k
 ·have hil:i < items.length:=by omega
  have hiZ:(i:Int) < items.length:=by omega
  have hx:=gE hil
  have hP2:=hP.next h2
  obtain ⟨g,c,av,yv,kv,hgv,hgl,hH,hI,hJ,hc⟩:=hP2.at hx
  obtain ⟨a1,n1,d1,a2,n2,d2,a3,n3,d3,rfl,rfl,rfl⟩:=a0m hH
  rw [hiv] at hgv
  cases hgv
  have hfl:((items.take (i + 1)).filter (a3o lims limit now)).length = ((items.take i).filter (a3o lims limit now)).length + (if a3o lims limit now items[i] then 1 else 0):=by
   rw [List.take_succ_eq_append_getElem hil,List.filter_append,List.length_append]
   cases hf:a3o lims limit now items[i] <;> simp [hf]
  have hfb:((items.take i).filter (a3o lims limit now)).length ≤ 400:=by
   have:=List.length_filter_le (a3o lims limit now) (items.take i)
   rw [List.length_take] at this
   omega
  generalize items[i] = x at *
  refine Xa @hiZ ?_
  refine ⟨fun l W=>l.getD 0 undef = .int .i64 (((items.take (i + 1)).filter (a3o lims limit now)).length:Int) ∧ Nx w W,?_,?_⟩
  ·refine Xa @hiZ ?_
   refine a1l (cs:=b2h x (.slice a1 n1 d1) (.slice a2 n2 d2) (.slice a3 n3 d3)) hc b3u (by kernel_rfl) (by kernel_rfl) ?_
   refine a0j c6h (fun g5 w5 h5 hg5 hH5=>?_)
   refine a0h c0p rfl rfl (b0j _ _ _ _ _ _ _ _ _ _ _ _ _ _ _ _ _ _ _ _ _ _ _ _) hH5 rfl (fun w6 hg6 hH6=>?_)
   refine a1s hH6 b3u (by kernel_rfl) (by kernel_rfl) ?_
   have h6:Bw w2 w6:=a0k h5 hg6 hg5
   refine e3r (hP2.next h6) x (hH.next h6) now (by omega) (by omega) (fun w7 h7=>?_)
   have h27:=h2.on (h6.on h7)
   cases hf:a3o lims limit now x with
   | false=>
    rw [hf] at hfl
    simp only [Bool.false_eq_true,if_false,Nat.add_zero] at hfl
    refine Xa0 ?_
    exact ⟨by rw [hfl]; rfl,h27⟩
   | true=>
    rw [hf] at hfl
    simp only [if_true] at hfl
    refine Xa0 ?_
    exact ⟨by rw [hfl]; rfl,h27⟩
  ·rintro l u W ⟨hl,hW⟩
   rw [hl]
   refine Xa0 ?_
   exact ⟨⟨i + 1,rfl,by omega,hW⟩,by show items.length - (((i + 1:Nat):Int)).toNat < items.length - ((i:Nat):Int).toNat; omega⟩
end
abbrev SlP:=Option Addr × Nat × Nat
@[reducible] def slV (y:SlP):Value:=.slice y.1 y.2.1 y.2.2
abbrev ItP:=Itm × SlP × SlP × SlP
@[reducible] def f2s (y:ItP):List Value:=b2h y.1 (slV y.2.1) (slV y.2.2.1) (slV y.2.2.2)
@[reducible] def g1k (w:World) (y:ItP):Prop:=HldR w y.1.held (slV y.2.1) (slV y.2.2.1) (slV y.2.2.2)
section
variable {K:VK} {w w' w0 W W':World} {L:List (Addr × Value)} {rb b:Nat} {s:Stp} {lims:List Lim} {p p':Ph} {items items':List Itm} {A:Ab} {P:Pst} {h:Dk}
def b3w (h:Hld):Prop:=h.attrs.length < 1099511627776 ∧ h.bl.ys.length < 1099511627776 ∧ h.links.length < 1000 ∧ ∀ y ∈ h.links,y.spend.answers.length < 1099511627776
theorem f2t (c:List Value) (x:Itm) (h:c5w w c x):∃ y:ItP,c = f2s y ∧ y.1 = x ∧ (g1k w y ∧ I64 y.1.status ∧ I64 y.1.dare):=by
 obtain ⟨av,yv,lv,rfl,h1,h2⟩:=h
 obtain ⟨a1,n1,d1,a2,n2,d2,a3,n3,d3,rfl,rfl,rfl⟩:=a0m h1
 exact ⟨(x,(a1,n1,d1),(a2,n2,d2),(a3,n3,d3)),rfl,rfl,h1,h2⟩
def GIt (B:Nat) (w:World) (v:Value) (ys:List ItP):Prop:=GRow 18 67 (fun _ c y=>c = f2s y) B (fun _=>False) w v ys
theorem c9b {v:Value} {l:List Itm} (hr:SRow 18 (a9i 18 c5w) w v l) (hl:l.length < 1000) (k:∀ v' w' ys,ys.map (fun y:ItP=>y.1) = l → (∀ y ∈ ys,g1k w y ∧ I64 y.1.status ∧ I64 y.1.dare) → GIt w.heap.size w' v' ys → Bw w w' → K v' w'):a0a Tryz.prog 70 #[v] K w:=by
 apply e7s
 unfold g3x
 obtain ⟨ad,c,rfl⟩:=hr.isSlice
 refine b3p (e:=67) (by kernel_rfl) ?_
 cases ad with
 | none=>
  have:l = []:=by
   obtain ⟨⟨a',c',hv,h⟩,_⟩:=hr
   cases hv
   rcases h with h | ⟨b,o,hb,_⟩
   ·exact h
   ·cases hb
  subst this
  simp only [Option.isNone_none]
  refine Xa0 ?_
  exact k _ _ [] rfl (fun _ h=>by cases h) .nil (bR)
 | some a=>
  simp only [Option.isNone_some]
  obtain ⟨ys,rfl,hq,hi⟩:=hr.rowR (mk:=f2s) (f:=fun y:ItP=>y.1) (Q:=fun w y=>g1k w y ∧ I64 y.1.status ∧ I64 y.1.dare) (fun _=>rfl) (fun c x h=>f2t c x h)
  refine Xa0 ?_
  have hr2:RowR f2s 18 (w.alloc (.cells #[] 67)) _ ys:=hi.keep (by rw [a0v]; omega) (fun i _ hi=>heap_alloc_old _ _ hi)
  rw [List.length_map] at hl hr2 ⊢
  refine b5x 59 59 67 ((Tryz.prog.info? 67).getD default) (.agg itmZ.toArray) 18 184 (by kernel_rfl) (by kernel_rfl) (by kernel_rfl) (by kernel_rfl) (by kernel_rfl) (by kernel_rfl) (by omega) (fun _=>rfl) (fun x=>b0j _ _ _ _ _ _ _ _ _ _ _ _ _ _ _ _ _ _ _ _ _ _ _ _) hr2 (World.ownsRow_lit w #[] 0 (Nat.zero_le _) (Nat.zero_le _) rfl) (B:=w.heap.size) (by rw [a0v]; omega) (fun i hi=>by cases hi; exact rL) (by omega) (by omega) ?_
  intro v' w' ho hg hv
  refine k v' w' ys rfl hq (c2n (fun _=>rfl) (a8q ho hv)) ?_
  exact a0k ((Below.refl _ w).alloc (rL) _) hg (rL)
set_option maxHeartbeats 2000000 in
theorem e3u (hP:StR s lims w p items) (hsm:∀ x ∈ items,b3w x.held) (k:∀ w' v B,Bw w w' → GRow 18 67 c5w w.heap.size (fun j=>B ≤ j ∧ j < w'.heap.size) w' v items → w.heap.size ≤ B → (∀ j,v.ownBlock = some j → w.heap.size ≤ j ∧ j < B) → K v w') :
  a0a Tryz.prog 26 #[.pointer (some ⟨p.pb,0,none⟩)] K w:=by
 apply e7t
 unfold g3y
 obtain ⟨ivad,ivc,hiv⟩:=hP.items.isSlice
 have c6:=hP.pur.cell 6 (by simp)
 simp only [List.getElem_cons_zero,List.getElem_cons_succ] at c6
 rw [hiv] at c6
 have hcn:=hP.cnt
 refine Xa @c6 ?_
 have hit:=hP.items
 rw [hiv] at hit
 refine c9b hit (by omega) (fun v w1 ys he hq hG h1=>?_)
 have hyl:ys.length = items.length:=by rw [← he,List.length_map]
 have hGo:∀ i,v.ownBlock = some i → w.heap.size ≤ i ∧ i < w1.heap.size:=fun i hi=>by have:=GRow.own hG hi; omega
 obtain ⟨d3,e3,hv3⟩:∃ ad c,v = .slice ad ys.length c:=GRow.isSlice hG
 rw [hyl] at hv3
 subst hv3
 refine Xa0 ?_
 generalize hv3:Value.slice d3 items.length e3 = v3 at *
 refine ⟨fun vs W=>∃ (u:Value) (i:Nat) (zs:List ItP),vs = [u,.int .i64 (i:Int)] ∧ i ≤ items.length ∧ GIt w.heap.size W v3 zs ∧ zs.map (fun y:ItP=>y.1) = items ∧ zs.drop i = ys.drop i ∧ Fr (fun j=>v3.ownBlock = some j) w1 W ∧ (∀ y ∈ zs.take i,FP (fun j=>w1.heap.size ≤ j ∧ j < W.heap.size) W (fun W=>g1k W y)),
  (fun vs _=>match vs with | [_,.int _ i]=>items.length - i.toNat | _=>0),⟨_,0,ys,rfl,by omega,hG,he,rfl,Fr.refl _ _,by simp⟩,?_⟩
 rintro _ _ w2 ⟨u,i,zs,rfl,hi,hGz,hz,hd,f2,hfz⟩
 have hs1:=h1.size
 have hs2:=f2.size
 have hzl:zs.length = items.length:=by rw [← hz,List.length_map]
 have hb02:Bw w w2:=⟨f2.os.trans h1.os,f2.tape.trans h1.tape,f2.output.trans h1.output,by omega,fun i hi=>(f2.block i (by omega) (fun e=>by have:=hGo _ e; omega)).trans (h1.block i hi)⟩
 have hwI:∀ y ∈ zs,I64 y.1.status ∧ I64 y.1.dare:=fun y hy=>by
  have:y.1 ∈ items:=by rw [← hz]; exact List.mem_map_of_mem hy
  rw [← he] at this
  obtain ⟨y2,hy2,e⟩:=List.mem_map.1 this
  rw [← e]
  exact (hq y2 hy2).2
 by_cases hin:i = items.length
 ·subst hin
  rw [← hzl,List.take_length] at hfz
  have p3:FP (fun j=>w1.heap.size ≤ j ∧ j < w2.heap.size) w2 (fun W=>∀ y ∈ zs,c5w W (f2s y) y.1):=fun w' a b c d e y hy=>⟨_,_,_,rfl,hfz y hy w' a b c d e,hwI y hy⟩
  have hGl:=GRow.conv (V:=c5w) (f:=fun y:ItP=>y.1) hGz p3
  rw [hz] at hGl
  have k:=k w2 v3 w1.heap.size hb02 hGl hs1 hGo
  refine Xa0 ?_
  exact k
 ·have hil:i < items.length:=by omega
  have hiZ:(i:Int) < items.length:=by omega
  have hzi:i < zs.length:=by omega
  have hyi:i < ys.length:=by omega
  have ezy:zs[i] = ys[i]:=by
   have:=congrArg (fun l=>l[0]?) hd
   simp only [List.getElem?_drop,Nat.add_zero] at this
   rw [gE hzi,gE hyi] at this
   exact oI this
  have hq0:=(hq ys[i] (List.getElem_mem hyi)).1
  rw [← ezy] at hq0
  obtain ⟨g,c,cs,hvg,hgl,hgB,hcl,hcc,hVc⟩:=GRow.elem hGz (gE hzi)
  have hcs:=hVc.here
  subst hcs
  rw [hzl] at hvg
  subst hvg
  have hgw:=(hGo g rfl).2
  refine Xa @hiZ ?_
  refine a1l hcc b3u (by kernel_rfl) (by kernel_rfl) ?_
  refine a0j c6h (fun g5 w5 h5 hg5 hH5=>?_)
  have hH5l:=hH5.lt
  refine a0h (xs:=f2s zs[i]) c0p rfl rfl (b0j _ _ _ _ _ _ _ _ _ _ _ _ _ _ _ _ _ _ _ _ _ _ _ _) hH5 rfl (fun w6 hg6 hH6=>?_)
  have hs5:=h5.size
  have hs6:=hg6.size
  have h26:Bw w2 w6:=a0k h5 hg6 hg5
  refine a8w ?_
  refine a1l (cs:=a6o zs[i].1.held (slV zs[i].2.1) (slV zs[i].2.2.1) (slV zs[i].2.2.2)) (p:=0) (fun j u hj=>?_) a3n (by kernel_rfl) (by kernel_rfl) ?_
  ·have hj2:(f2s zs[i])[j]? = some u:=by
    have hjl:=(gS hj).1
    have:f2s zs[i] = a6o zs[i].1.held (slV zs[i].2.1) (slV zs[i].2.2.1) (slV zs[i].2.2.2) ++ [.int .i64 zs[i].1.status,.int .i64 zs[i].1.dare,.bool zs[i].1.lent,.bool zs[i].1.back]:=rfl
    rw [this,List.getElem?_append_left hjl]
    exact hj
   obtain ⟨hj3,rfl⟩:=gS hj2
   rw [Nat.zero_add]
   exact hH6.cell j hj3
  have hsx:=hsm zs[i].1 (by rw [← hz]; exact List.mem_map_of_mem (List.getElem_mem hzi))
  refine d1k zs[i].1.held (hq0.next (hb02.on h26)) hsx.1 hsx.2.1 hsx.2.2.1 hsx.2.2.2 (fun w7 av' yv' kv' h7 hF=>?_)
  obtain ⟨a1,n1,d1,a2,n2,d2,a3,n3,d4,rfl,rfl,rfl⟩:=a0m hF.here
  have h27:=h26.on h7
  have hs7:=h7.size
  have hG7:GIt w.heap.size w7 _ zs:=GRow.next hGz h27 (fun _ h=>h.elim)
  unfold GIt at hG7
  rw [← hzl] at hG7
  refine Xa @hiZ ?_
  have hx0:=gE hzi
  generalize hY:((zs[i].1,(a1,n1,d1),(a2,n2,d2),(a3,n3,d4)):ItP) = Y
  have hYc:f2s Y = b2h zs[i].1 (.slice a1 n1 d1) (.slice a2 n2 d2) (.slice a3 n3 d4):=by rw [← hY]
  have hYh:g1k w7 Y ∧ Y.1 = zs[i].1:=by rw [← hY]; exact ⟨hF.here,rfl⟩
  refine GRow.put (n:=18) (off:=0) (m:=14) (i:=i) (xs:=a6o zs[i].1.held (.slice a1 n1 d1) (.slice a2 n2 d2) (.slice a3 n3 d4)) (y:=Y) hG7 hx0 (by omega) a8f rfl rfl (a5e _ _ _ _ _ _ _ _ _ _ _ _ _ _ _ _ _ _ _ _) (fun _ h=>h.elim) (fun cs _ _ h=>h.imp (fun W e=>by subst e; rw [hYc]; rfl)) (fun w8 hg8 hG8=>?_)
  have hs8:=hg8.size
  have f8:Fr (fun j=>j = g) w2 w8:=(Fr.of_below h27).trans (Fr.of_by hg8) (fun j hj=>.inl hj)
  refine Xa0 ?_
  refine ⟨⟨_,i + 1,zs.set i Y,rfl,by omega,by rw [← hzl]; exact hG8,?_,?_,f2.trans f8 (fun j hj=>.inl (by subst hj; rfl)),?_⟩,by show items.length - (((i + 1:Nat):Int)).toNat < items.length - ((i:Nat):Int).toNat; omega⟩
  ·rw [List.map_set,← hz,hYh.2]
   have:(zs.map (fun y:ItP=>y.1))[i]'(by rw [List.length_map]; exact hzi) = zs[i].1:=List.getElem_map _
   rw [← this]
   exact List.set_getElem_self _
  ·rw [List.drop_set_of_lt (by omega)]
   have:=congrArg (fun l=>l.drop 1) hd
   simpa [List.drop_drop] using this
  ·intro y hy
   rw [List.take_set,List.take_succ_eq_append_getElem hzi,List.set_append_right _ _ (by simp; omega)] at hy
   have e0:i - (zs.take i).length = 0:=by rw [List.length_take]; omega
   rw [e0] at hy
   rcases List.mem_append.1 hy with hy | hy
   ·exact ((hfz y hy).fr f8 (fun j hj=>⟨hj.2,fun e=>by omega⟩)).mono (fun j hj=>⟨hj.1,by omega⟩)
   ·simp only [List.set_cons_zero,List.mem_singleton] at hy
    subst hy
    have p0:FP (fun j=>w6.heap.size ≤ j ∧ j < w7.heap.size) w7 (fun W=>g1k W y):=by rw [← hY]; exact hF
    exact (p0.fr (Fr.of_by hg8) (fun j hj=>⟨hj.2,fun e=>by omega⟩)).mono (fun j hj=>⟨by omega,by omega⟩)
theorem c2r (hP:StR s lims w p items) (hsm:∀ x ∈ items,b3w x.held) (k:∀ w' v,Bw w w' → Fresh w w' (fun W=>SRow 18 (a9i 18 c5w) W v items) → K v w') :
  a0a Tryz.prog 26 #[.pointer (some ⟨p.pb,0,none⟩)] K w:=
 e3u hP hsm fun w' v B hb hG hB ho=>k w' v hb ((hG.fp (by omega) (by have:=hP.cnt; omega)).mono (fun j hj=>by
  rcases hj with hj | hj
  ·omega
  ·have:=ho j hj; have:=(hG.own hj).1; omega))
end
end Go.Proofs
namespace Go.Proofs
open Go.Sh Tryz
variable {a0 a1:Value} {K:VK} {w:World}
def g4b (K:VK) (w:World):Prop:=
 oM prog (.build 41 #[(0,(.tmp 0)),(1,(.tmp 1)),(2,(.tmp 2))]) 41 [(.int .i64 1),(.int .i64 1440),(.int .i64 (-1))] (fun v1=>
 oM prog (.build 41 #[(0,(.tmp 0)),(2,(.tmp 1))]) 41 [(.int .i64 2),(.int .i64 (-1))] fun v2=>
 oM prog (.buildSlice 51 2 #[(0,(.tmp 0)),(1,(.tmp 1))]) 51 [v1,v2] fun v3=>
 K v3) w
theorem e7w (h:g4b K w):a0a prog 51 #[] K w:=
 cZ (fun _=>0) func51 h
def g4c (K:VK) (w:World):Prop:=
 kA 50 (fun v0=>
 oM prog (.build 48 #[(0,(.tmp 0)),(1,(.tmp 1)),(2,(.tmp 2))]) 48 [(.int .i64 23),(.int .i64 11),(.int .i64 4)] fun v1=>
 oM prog (.buildSlice 22 2 #[(0,(.tmp 0)),(1,(.tmp 1))]) 22 [(.int .i64 4),(.int .i64 9)] fun v2=>
 oM prog (.build 50 #[(0,(.tmp 0)),(1,(.tmp 1)),(2,(.tmp 2))]) 50 [v1,v2,(.int .i64 13)] fun v3=>
 kS 50 v0 v3 fun _=>
 kR 50 v0 K) w
theorem e7x (h:g4c K w):a0a prog 52 #[] K w:=
 cZ (fun _=>0) func52 h
def g4d (a0 a1:Value) (K:VK) (w:World):Prop:=
 kA 29 (fun v4=>
 oM prog (.buildSlice 22 1 #[(0,(.tmp 0))]) 22 [(.int .i64 3)] fun v8=>
 oM prog (.build 29 #[(0,(.tmp 0)),(1,(.tmp 1)),(2,(.tmp 2))]) 29 [a0,a1,v8] fun v9=>
 kA 29 fun v5=>
 kS 29 v5 v9 fun _=>
 oM prog (.buildSlice 22 2 #[(0,(.tmp 0)),(1,(.tmp 1))]) 22 [(.int .i64 1),(.int .i64 5)] fun v10=>
 oM prog (.build 24 #[(0,(.tmp 0)),(1,(.tmp 1)),(3,(.tmp 2))]) 24 [(.int .i64 2),(.int .i64 1),v10] fun v11=>
 kF 29 3 v5 fun v12=>
 kS 24 v12 v11 fun _=>
 kB .mul 3 3 (.int .i64 10) a0 fun v14=>
 kB .add 3 3 v14 a1 fun v16=>
 oM prog (.build 26 #[(0,(.tmp 0)),(1,(.tmp 1)),(2,(.tmp 2)),(3,(.tmp 3)),(4,(.tmp 4)),(5,(.tmp 5))]) 26 [(.int .i64 2),(.int .i64 9),(.int .i64 1),(.int .i64 1),(.int .i64 1),v16] fun v17=>
 kF 29 4 v5 fun v18=>
 kS 26 v18 v17 fun _=>
 kL 29 v5 fun v19=>
 kS 29 v4 v19 fun _=>
 kR 29 v4 K) w
theorem e7y (h:g4d a0 a1 K w):a0a prog 54 #[a0,a1] K w:=
 cZ (fun _=>0) func54 h
def g4e (a0 a1:Value) (K:VK) (w:World):Prop:=
 kN 22 a0 (fun v7=>
 kN 22 a1 fun v9=>
 kB .neq 3 4 v7 v9 fun v10=>
 kO v10 (K (.bool false))
 (kQ [(.bool false),(.int .i64 0)] fun J_4 m_5 l_6 u_l_6 w0_l_6=>(fun w=>(
 kN 22 a0 (fun v13=>
 kB .lss 3 4 (l_6.getD 1 undef) v13 fun v14=>
 kO v14 (kH fun C_9 w=>(((true:Bool) = true) ∧ (a0d a0 C_9 fun v17=>
 a0d (l_6.getD 1 undef) C_9 fun v18=>
 jI 22 v17 v18 C_9 fun v19=>
 jL 3 v19 C_9 fun v20=>
 a0d a1 C_9 fun v21=>
 a0d (l_6.getD 1 undef) C_9 fun v22=>
 jI 22 v21 v22 C_9 fun v23=>
 jL 3 v23 C_9 fun v24=>
 jB .neq 3 4 v20 v24 C_9 fun v25=>
 ∃ S_19:World → WK,∀ w,C_9 w → (kO v25 (K (.bool false))
 (kB .add 3 3 (l_6.getD 1 undef) (.int .i64 1) fun v16=>
 kJ J_4 m_5 l_6 w0_l_6 [(l_6.getD 0 undef),v16]) w))))
 (K (.bool true))) w)) w0_l_6)) w
theorem e7z (h:g4e a0 a1 K w):a0a prog 56 #[a0,a1] K w:=
 cZ (fun _=>(fz 9 0 0)) func56 h
def g4f (K:VK) (w:World):Prop:=
 a0a prog 51 #[] (fun v18=>
 kI 51 v18 (.int .i64 0) fun v20=>
 kL 41 v20 fun v21=>
 a0a prog 20 #[v21,(.int .i64 2900)] fun v22=>
 kC .eql 3 2 4 v22 fun v23 w=>
 gT v23 (a0c v18) (fun v25 w=>
 gT v23 (kI 51 v25 (.int .i64 0)) (fun v26 w=>
 gT v23 (kL 41 v26) (fun v27 w=>
 gT v23 (a0a prog 21 #[v27,(.int .i64 2)]) (fun v28 w=>
 gT v23 (kC .eql 3 2880 4 v28) (fun v29=>
 kP v23 v29 (.bool false) fun v30 w=>
 gT v30 (a0c v18) (fun v32 w=>
 gT v30 (kI 51 v32 (.int .i64 1)) (fun v33 w=>
 gT v30 (kL 41 v33) (fun v34 w=>
 gT v30 (a0a prog 20 #[v34,(.int .i64 2900)]) (fun v35 w=>
 gT v30 (kC .eql 3 0 4 v35) (fun v36=>
 kP v30 v36 (.bool false) fun v37 w=>
 gT v37 (a0a prog 17 #[(.int .i64 100),(.string ⟨#[112,111,111,108]⟩)]) (fun v39 w=>
 gT v37 (oM prog (.binOp .eql 9 (.tmp 0) (.const (.string ⟨#[49,48,48,59,52,58,112,111,111,108,44]⟩)) 9) 4 [v39]) (fun v40=>
 kP v37 v40 (.bool false) fun v41=>
 a0a prog 35 #[] fun v42=>
 oM prog (.binOp .eql 55 (.tmp 0) (.const (.pointer none)) 55) 4 [v42] fun v44 w=>
 gF v44 (a0c v41) (fun v46 w=>
 gF v44 (kU v46) (fun v47=>
 kP v44 (.bool true) v47 fun v48 w=>
 gF v48 (a0a prog 22 #[(.string ⟨#[57,48,59,52,58,112,111,111,108,44]⟩),(.string ⟨#[49,48,48,59,48,58,44]⟩)]) (fun v50 w=>
 gF v48 (kU v50) (fun v51=>
 kP v48 (.bool true) v51 fun v52 w=>
 gF v52 (a0a prog 22 #[(.string ⟨#[49,49,48,59,52,58,112,111,111,108,44]⟩),(.string ⟨#[49,48,48,59,48,58,44]⟩)]) (fun v54=>
 kP v52 (.bool true) v54 fun v55=>
 kO v55 (K (.bool false))
 (a0a prog 52 #[] fun v58=>
 a0a prog 34 #[v42,v58,v18] fun v60=>
 kE 0 56 v60 fun v61=>
 kE 1 62 v60 fun v62=>
 oM prog (.binOp .eql 56 (.tmp 0) (.const (.pointer none)) 56) 4 [v61] fun v64 w=>
 gF v64 (a0c v62) (fun v66 w=>
 gF v64 (kC .neq 62 0 4 v66) (fun v67=>
 kP v64 (.bool true) v67 fun v68=>
 kO v68 (K (.bool false))
 (a0a prog 54 #[(.int .i64 0),(.int .i64 2)] fun v70=>
 a0a prog 53 #[v61,v70] fun v71=>
 a0a prog 28 #[v61,(.int .i64 0),(.int .i64 2900),(.int .i64 5)] fun v74=>
 kE 0 3 v74 fun v75=>
 kE 1 62 v74 fun v76=>
 a0a prog 28 #[v61,(.int .i64 0),(.int .i64 2901),(.int .i64 6)] fun v79=>
 kE 0 3 v79 fun v80=>
 kE 1 62 v79 fun v81=>
 a0a prog 55 #[v61,(.int .i64 0)] fun v84=>
 kE 0 84 v84 fun v85=>
 kE 1 62 v84 fun v86=>
 kA 84 fun v11=>
 kS 84 v11 v85 fun _=>
 kC .neq 62 0 4 v71 fun v88 w=>
 gF v88 (a0c v75) (fun v90 w=>
 gF v88 (kC .neq 3 0 4 v90) (fun v91=>
 kP v88 (.bool true) v91 fun v92 w=>
 gF v92 (a0c v76) (fun v94 w=>
 gF v92 (kC .neq 62 0 4 v94) (fun v95=>
 kP v92 (.bool true) v95 fun v96 w=>
 gF v96 (a0c v81) (fun v98 w=>
 gF v96 (kC .neq 62 15 4 v98) (fun v99=>
 kP v96 (.bool true) v99 fun v100 w=>
 gF v100 (a0c v61) (fun v102 w=>
 gF v100 (a0a prog 27 #[v102,(.int .i64 0),(.int .i64 2900)]) (fun v103 w=>
 gF v100 (kC .neq 3 0 4 v103) (fun v104=>
 kP v100 (.bool true) v104 fun v105 w=>
 gF v105 (a0c v86) (fun v107 w=>
 gF v105 (kC .neq 62 0 4 v107) (fun v108=>
 kP v105 (.bool true) v108 fun v109 w=>
 gF v109 (kF 84 1 v11) (fun v111 w=>
 gF v109 (kL 22 v111) (fun v112 w=>
 gF v109 (oM prog (.buildSlice 22 2 #[(0,(.tmp 0)),(1,(.tmp 1))]) 22 [(.int .i64 0),(.int .i64 2)]) (fun v113 w=>
 gF v109 (a0a prog 56 #[v112,v113]) (fun v114 w=>
 gF v109 (kU v114) (fun v115=>
 kP v109 (.bool true) v115 fun v116=>
 kO v116 (K (.bool false))
 (a0a prog 32 #[v42,(.slice none 0 0)] fun v118=>
 a0a prog 33 #[v42] fun v120=>
 a0a prog 52 #[] fun v123=>
 a0a prog 34 #[v42,v123,v18] fun v125=>
 kE 0 56 v125 fun v126=>
 kE 1 62 v125 fun v127=>
 oM prog (.binOp .eql 56 (.tmp 0) (.const (.pointer none)) 56) 4 [v126] fun v129 w=>
 gF v129 (a0c v127) (fun v131 w=>
 gF v129 (kC .neq 62 0 4 v131) (fun v132=>
 kP v129 (.bool true) v132 fun v133=>
 kO v133 (K (.bool false))
 (a0a prog 55 #[v126,(.int .i64 0)] fun v136=>
 kE 0 84 v136 fun v137=>
 kE 1 62 v136 fun v138=>
 kA 84 fun v15=>
 kS 84 v15 v137 fun _=>
 a0a prog 26 #[v126] fun v140=>
 kC .eql 62 7 4 v138 fun v142 w=>
 gT v142 (a0c v140) (fun v144 w=>
 gT v142 (kN 59 v144) (fun v145 w=>
 gT v142 (kC .eql 3 1 4 v145) (fun v146=>
 kP v142 v146 (.bool false) fun v147 w=>
 gT v147 (a0c v140) (fun v149 w=>
 gT v147 (kI 59 v149 (.int .i64 0)) (fun v150 w=>
 gT v147 (kF 67 1 v150) (fun v151 w=>
 gT v147 (kL 3 v151) (fun v152 w=>
 gT v147 (kC .eql 3 3 4 v152) (fun v153=>
 kP v147 v153 (.bool false) fun v154 w=>
 gT v154 (a0c v140) (fun v156 w=>
 gT v154 (kI 59 v156 (.int .i64 0)) (fun v157 w=>
 gT v154 (kF 67 2 v157) (fun v158 w=>
 gT v154 (kL 3 v158) (fun v159 w=>
 gT v154 (kC .eql 3 5 4 v159) (fun v160=>
 kP v154 v160 (.bool false) fun v161=>
 K v161) w) w) w) w) w) w) w) w) w) w) w) w) w)) w) w)) w) w) w) w) w) w) w) w) w) w) w) w) w) w) w) w)) w) w)) w) w) w) w) w) w) w) w) w) w) w) w) w) w) w) w) w) w
theorem e8a (h:g4f K w):a0a prog 12 #[] K w:=
 cZ (fun _=>0) func12 h
end Go.Proofs
namespace Go.Proofs
open Go Go.Sh Go.RowKit FdSpec TkSpec CodeSpec PuSpec DkSpec JnSpec
section
variable {K:VK} {w w' w0 W W':World} {L:List (Addr × Value)} {rb b:Nat}
theorem d3v (T:TypeId) (a b c:Int):oM Tryz.prog (Go.Op.build 41 #[(0,(.tmp 0)),(1,(.tmp 1)),(2,(.tmp 2))]) T [.int .i64 a,.int .i64 b,.int .i64 c] = a0c (f7h ⟨a,b,c⟩):=by
 funext K w
 kernel_rfl
theorem d3w (T:TypeId) (a c:Int):oM Tryz.prog (Go.Op.build 41 #[(0,(.tmp 0)),(2,(.tmp 1))]) T [.int .i64 a,.int .i64 c] = a0c (f7h ⟨a,0,c⟩):=by
 funext K w
 kernel_rfl
theorem h4h {T:TypeId} (x y:Lim) (hx:I64 x.count ∧ I64 x.length ∧ I64 x.gate) (hy:I64 y.count ∧ I64 y.length ∧ I64 y.gate) (k:∀ v W,Bw w W → Fresh w W (fun W=>b9b W v [x,y]) → K v W) :
  oM Tryz.prog (.buildSlice 51 2 #[(0,.tmp 0),(1,.tmp 1)]) T [f7h x,f7h y] K w:=by
 rw [a7p]
 refine b7n (e:=41) (n:=2) (xs:=d3r x ++ d3r y) (by kernel_rfl) (fun g W h hg hH=>k _ W h ?_)
 exact (hH.fresh hg).imp (fun W hW=>e3i hW rfl rfl ⟨rfl,hx⟩ ⟨rfl,hy⟩)
theorem e3v (k:∀ w' v,Bw w w' → Fresh w w' (fun W=>b9b W v exL) → K v w'):a0a Tryz.prog 51 #[] K w:=by
 apply e7w
 unfold g4b
 rw [d3v]
 show oM _ _ _ _ _ _
 rw [d3w]
 show oM _ _ _ _ _ _
 refine h4h _ _ ⟨by constructor <;> decide,by constructor <;> decide,by constructor <;> decide⟩ ⟨by constructor <;> decide,by constructor <;> decide,by constructor <;> decide⟩ (fun v W h hF=>k W v h hF)
theorem g8j {T:TypeId} (x y:Int) (hx:I64 x) (hy:I64 y) (k:∀ ad c W,Bw w W → Fresh w W (fun W=>Ints W (.slice ad 2 c) [x,y]) → K (.slice ad 2 c) W):oM Tryz.prog (.buildSlice 22 2 #[(0,.tmp 0),(1,.tmp 1)]) T [.int .i64 x,.int .i64 y] K w:=by
 rw [a7p]
 have e:(Instr.buildSlice 22 2 #[(0,.int .i64 x),(1,.int .i64 y)]).run Tryz.prog w = .ok (.slice (some ⟨w.heap.size,0,none⟩) 2 2) (w.alloc (.cells #[.int .i64 x,.int .i64 y] 3)):=by kernel_rfl
 rw [e]
 exact k _ _ _ ((Below.refl _ w).alloc (rL) _) ((a4r w [x,y] _ 2 (by simp; exact ⟨hx,hy⟩) (by simp)).fresh (fun i hi=>by cases hi; exact rL))
theorem g7q (w:World):(sizeOf 50).run Tryz.prog w = .ok 5 w:=by kernel_rfl
theorem g7r (w:World):(Instr.alloc 50 true (.tuple #[])).run Tryz.prog w = .ok (.pointer (some ⟨w.heap.size,0,none⟩)) (w.alloc (.cells [.int .i64 0,.int .i64 0,.int .i64 0,.slice none 0 0,.int .i64 0].toArray 50)):=by kernel_rfl
theorem b8j:Tryz.prog.underlying 50 = some ((Tryz.prog.underlying 50).getD default):=by kernel_rfl
theorem f2u (a b c e:Int) (ad:Option Addr) (n m:Nat):∀ u ∈ ([.int .i64 a,.int .i64 b,.int .i64 c,.slice ad n m,.int .i64 e]:List Value),u.oneCell' = true:=by
 intro u hu
 simp only [List.mem_cons,List.not_mem_nil,or_false] at hu
 rcases hu with rfl | rfl | rfl | rfl | rfl <;> rfl
theorem d1n (k:∀ w' v,Bw w w' → Fresh w w' (fun W=>Ints W v exS.bases) → K (b1c exS v) w'):a0a Tryz.prog 52 #[] K w:=by
 apply e7x
 unfold g4c
 refine a0j g7r (fun g1 w1 h1 hg1 hH1=>?_)
 refine a8w ?_
 refine g8j 4 9 (by constructor <;> decide) (by constructor <;> decide) (fun ad c w2 h2 hF=>?_)
 refine a8w ?_
 have hg1l:=hH1.lt
 refine a0h (xs:=b1o exS (.slice ad 2 c)) g7q rfl rfl (f2u _ _ _ _ _ _ _) (hH1.next h2) rfl (fun w3 hg3 hH3=>?_)
 refine a4z hH3 b8j (by kernel_rfl) (by kernel_rfl) ?_
 have hs1:=h1.size
 have hs3:=hg3.size
 exact k w3 _ ((h1.on h2).grown hg3 (by have:=h2.size; omega) (fun j e=>by cases e; exact hg1)) ((FP.fr hF (Fr.of_by hg3) (fun j hj=>⟨hj.2,fun e=>by omega⟩)).mono (fun j hj=>⟨by omega,by omega⟩))
theorem h4i {T:TypeId} (x:Int) (hx:I64 x) (k:∀ ad c W,Bw w W → Fresh w W (fun W=>Ints W (.slice ad 1 c) [x]) → K (.slice ad 1 c) W):oM Tryz.prog (.buildSlice 22 1 #[(0,.tmp 0)]) T [.int .i64 x] K w:=by
 rw [a2o]
 have e:(Instr.buildSlice 22 1 #[(0,.int .i64 x)]).run Tryz.prog w = .ok (.slice (some ⟨w.heap.size,0,none⟩) 1 1) (w.alloc (.cells #[.int .i64 x] 3)):=by kernel_rfl
 rw [e]
 exact k _ _ _ ((Below.refl _ w).alloc (rL) _) ((a4r w [x] _ 1 (by simpa using hx) (by simp)).fresh (fun i hi=>by cases hi; exact rL))
theorem d3x (T:TypeId) (a b:Int) (ad:Option Addr) (n c:Nat):oM Tryz.prog (Go.Op.build 29 #[(0,(.tmp 0)),(1,(.tmp 1)),(2,(.tmp 2))]) T [.int .i64 a,.int .i64 b,.slice ad n c] = a0c (.agg #[.int .i64 a,.int .i64 b,.slice ad n c,.int .i64 0,.int .i64 0,.int .i64 0,.slice none 0 0,.int .i64 0,.int .i64 0,.int .i64 0,.int .i64 0,.int .i64 0,.int .i64 0,.slice none 0 0]):=by
 funext K w
 kernel_rfl
theorem d3y (T:TypeId) (a b:Int) (ad:Option Addr) (n c:Nat):oM Tryz.prog (Go.Op.build 24 #[(0,(.tmp 0)),(1,(.tmp 1)),(3,(.tmp 2))]) T [.int .i64 a,.int .i64 b,.slice ad n c] = a0c (.agg #[.int .i64 a,.int .i64 b,.int .i64 0,.slice ad n c]):=by
 funext K w
 kernel_rfl
theorem f7n:WHld exH:=by
 have r:∀ n:Int,-100 ≤ n ∧ n ≤ 100 → InR n:=fun n h=>by unfold InR; omega
 refine ⟨r _ (by decide),r _ (by decide),fun v hv=>r _ ?_,by decide,r _ (by decide),r _ (by decide),r _ (by decide),fun v hv=>r _ ?_,by decide,⟨fun v hv=>r _ ?_⟩,fun _ h=>by cases h⟩
 ·simp only [exH,List.mem_cons,List.not_mem_nil,or_false] at hv; subst hv; decide
 ·simp only [exH,List.mem_cons,List.not_mem_nil,or_false] at hv; rcases hv with rfl | rfl <;> decide
 ·simp only [tktL,exH,List.mem_cons,List.not_mem_nil,or_false] at hv; rcases hv with rfl | rfl | rfl | rfl | rfl | rfl <;> decide
theorem d3z (k:∀ w' av yv kv,Bw w w' → Fresh w w' (fun W=>HldR W exH av yv kv) → K (c5v exH av yv kv) w'):a0a Tryz.prog 54 #[.int .i64 0,.int .i64 2] K w:=by
 apply e7y
 unfold g4d
 refine a0j a9e (fun g1 w1 h1 hg1 hH1=>?_)
 refine h4i 3 (by constructor <;> decide) (fun a1 c1 w2 h2 hF2=>?_)
 rw [d3x]
 show oM _ _ _ _ _ _
 refine a0j a9e (fun g3 w3 h3 hg3 hH3=>?_)
 refine a0h a8f rfl rfl (a5e _ _ _ _ _ _ _ _ _ _ _ _ _ _ _ _ _ _ _ _) hH3 rfl (fun w4 hg4 hH4=>?_)
 refine g8j 1 5 (by constructor <;> decide) (by constructor <;> decide) (fun a5 c5 w5 h5 hF5=>?_)
 rw [d3y]
 show oM _ _ _ _ _ _
 have hH5:=hH4.next h5
 refine a8w ?_
 refine a3e (o:=3) c0m rfl rfl (b8i ⟨2,1,0,[]⟩ _ _ _) hH5 (by simp) (fun w6 hg6 hH6=>?_)
 simp only [List.take_succ_cons,List.take_zero,List.drop_succ_cons,List.drop_zero,List.cons_append,List.nil_append] at hH6
 refine h1a ?_
 refine a3e (o:=7) (xs:=b1p exH.t) e2u rfl rfl (c8r exH.t) hH6 (by simp) (fun w7 hg7 hH7=>?_)
 simp only [List.take_succ_cons,List.take_zero,List.drop_succ_cons,List.drop_zero,List.cons_append,List.nil_append] at hH7
 refine a1s hH7 a3n (by kernel_rfl) (by kernel_rfl) ?_
 have l1:=hH1.lt
 have l3:=hH3.lt
 have s1:=h1.size
 have s2:=h2.size
 have s3:=h3.size
 have s4:=hg4.size
 have s5:=h5.size
 have s6:=hg6.size
 have s7:=hg7.size
 have f27:Fr (fun i=>i = g3) w2 w7:=((((Fr.of_below h3).trans (Fr.of_by hg4) (fun i hi=>.inl hi)).trans (Fr.of_below (S:=fun _=>False) h5) (fun i hi=>hi.elim)).trans (Fr.of_by hg6) (fun i hi=>.inl hi)).trans (Fr.of_by hg7) (fun i hi=>.inl hi)
 have f57:Fr (fun i=>i = g3) w5 w7:=(Fr.of_by hg6).trans (Fr.of_by hg7) (fun i hi=>.inl hi)
 have hH1':Holds w7 g1 29 hldZ:=(f27.block g1 (by omega) (by omega)).trans (hH1.next h2)
 refine a0h a8f rfl rfl (a5e _ _ _ _ _ _ _ _ _ _ _ _ _ _ _ _ _ _ _ _) hH1' rfl (fun w8 hg8 hH8=>?_)
 have s8:=hg8.size
 refine a4z hH8 a3n (by kernel_rfl) (by kernel_rfl) ?_
 have b17:Bw w w7:=(h1.on h2).trans ⟨f27.os,f27.tape,f27.output,by omega,fun i hi=>f27.block i (by omega) (by omega)⟩
 have p1:=((FP.fr hF2 f27 (fun j hj=>⟨hj.2,fun e=>by omega⟩)).fr (Fr.of_by hg8) (fun j hj=>⟨by omega,fun e=>by omega⟩))
 have p2:=((FP.fr hF5 f57 (fun j hj=>⟨hj.2,fun e=>by omega⟩)).fr (Fr.of_by hg8) (fun j hj=>⟨by omega,fun e=>by omega⟩))
 refine k w8 (.slice a1 1 c1) (.slice a5 2 c5) (.slice none 0 0) (b17.grown hg8 (by omega) (fun j e=>by cases e; exact hg1)) ?_
 exact ((p1.and p2).imp (fun W hW=>⟨hW.1,hW.2,SRow.nil,f7n⟩)).mono (fun j hj=>by rcases hj with hj | hj <;> exact ⟨by omega,by omega⟩)
end
end Go.Proofs
namespace PuSpec
open FdSpec TkSpec CodeSpec DkSpec JnSpec
variable {s:Stp} {lims:List Lim} {A:Ab} {p:Pst} {all sure:List a0f} {n:Nat}
structure Up (s:Stp) (lims:List Lim) (A:Ab) (p:Pst) (sure:List a0f) (n:Nat):Prop where
 u:Upp A
 inv:Inv s lims A p p.j.recs sure
 nb:p.j.broken = false
 cnt:p.j.recs.length ≤ n
 vs:a1o s = true
 vl:a7m lims = true
 items:p.items.length ≤ p.j.recs.length
theorem Up.live (h:Up s lims A p sure n):Live 0 A p.j p.j.recs sure:=LJ.live h.inv.lj h.nb
theorem f8u {t:a0f} (ht:t.length ≤ 20000):(form t).length ≤ 20064:=by
 have:=b2x (s:=t) (by omega)
 omega
theorem Up.append (h:Up s lims A p sure n) (hn:n ≤ 50) {t:a0f} (ht:t.length ≤ 20000) :
  ∃ B b,a0g A 0 p.j t = (0,B,⟨p.j.recs ++ [t],b,false⟩) ∧ Upp B ∧ Live 0 B ⟨p.j.recs ++ [t],b,false⟩ (p.j.recs ++ [t]) sure:=by
 have hb:=h.live.bytes_le h.cnt
 have hf:=f8u ht
 have h3:n * 20064 ≤ 50 * 20064:=Nat.mul_le_mul_right _ hn
 obtain ⟨B,e,u,l⟩:=h.u.add_rec h.live b6v h.nb ht (by omega)
 exact ⟨B,_,e,u,l⟩
theorem Up.add (h:Up s lims A p sure n) (hn:n ≤ 50) {x:Hld} (w:WHld x) :
  (a5h s lims p.items x ≠ 0 ∧ b1f s lims A p x = (a5h s lims p.items x,A,p) ∧ (a5h s lims p.items x = 1 ∨ a5h s lims p.items x = 5)) ∨
  (a5h s lims p.items x = 0 ∧ ∃ B q,b1f s lims A p x = (0,B,q) ∧ q.items = p.items ++ [a1d x] ∧ validM s lims x = true ∧ b6z p.items x.t = false ∧ Up s lims B q sure (n + 1)):=by
 by_cases he:a5h s lims p.items x = 0
 ·right
  have hv:validM s lims x = true ∧ b6z p.items x.t = false:=by
   unfold a5h at he
   split at he
   ·cases he
   ·rename_i hv
    split at he
    ·cases he
    ·rename_i hh
     exact ⟨by simpa using hv,by simpa using hh⟩
  have e0:(a2q 0).length = 2:=by decide +kernel
  obtain ⟨B,b,e,u,l⟩:=h.append hn (t:=a4g x) (by
   have:=b5s w hv.1
   simp only [a4g,List.length_append,e0]; omega)
  refine ⟨he,B,⟨⟨p.j.recs ++ [a4g x],b,false⟩,p.items ++ [a1d x]⟩,?_,rfl,hv.1,hv.2,⟨u,?_,rfl,?_,h.vs,h.vl,?_⟩⟩
  ·unfold b1f
   rw [if_neg (by simp [he]),e,if_neg (by simp)]
  ·obtain ⟨all',sure',hp,v⟩:=f8t h.inv x w
   have ea:b1f s lims A p x = (0,B,⟨⟨p.j.recs ++ [a4g x],b,false⟩,p.items ++ [a1d x]⟩):=by
    unfold b1f
    rw [if_neg (by simp [he]),e,if_neg (by simp)]
   obtain ⟨rj,h1,h2,g⟩:=a7u h.inv
   have hl:x.links.length ≤ 4:=by
    have:=hv.1
    simp only [validM,a9r,Bool.and_eq_true,decide_eq_true_eq] at this
    omega
   have hlen:p.items.length < 400:=by
    have:=h.items
    have:=h.cnt
    omega
   have ht:a4d s lims rj (a4g x) = some (rj ++ [a1d x]):=by
    rw [b9u rj x w hl,if_pos]
    exact ⟨hv.1,by rw [h2.has]; exact hv.2,by rw [h2.1]; exact hlen⟩
   have hr:a1j s lims [] (p.j.recs ++ [a4g x]) = some (rj ++ [a1d x]):=by
    rw [a4f,h1,Option.bind_some,b1u,ht]
   refine ⟨.inl ⟨rfl,l⟩,⟨_,hr⟩,⟨_,hr,h2.push _⟩,?_⟩
   intro i y hy hst
   dsimp only at hy
   rw [List.getElem?_append] at hy
   split at hy
   ·exact h.inv.spent i y hy hst
   ·have:y = a1d x:=by
     rcases hk:i - p.items.length with _ | k
     ·rw [hk] at hy; simp only [List.getElem?_cons_zero,Option.some.injEq] at hy; exact hy.symm
     ·rw [hk] at hy; simp at hy
    rw [this] at hst
    simp [a1d] at hst
  ·have:=h.cnt
   simp only [List.length_append,List.length_cons,List.length_nil]; omega
  ·have:=h.items
   simp only [List.length_append,List.length_cons,List.length_nil]; omega
 ·left
  refine ⟨he,by unfold b1f; rw [if_pos he],?_⟩
  unfold a5h at he ⊢
  split at he
  ·rename_i h1; rw [if_pos h1]; exact .inl rfl
  ·rename_i h1
   rw [if_neg h1]
   split at he
   ·rename_i h2; rw [if_pos h2]; exact .inr rfl
   ·split at he
    ·have:=h.items
     have:=h.cnt
     omega
    ·exact absurd rfl he
theorem Up.keep (h:Up s lims A p sure n) (hn:n ≤ 50) {i:Nat} {x:Itm} (hx:p.items[i]? = some x) (h0:x.status = 0) {kind dare:Int} (hk:kind = 1 ∨ kind = 3) (hd:1 ≤ dare) (hq:dare < s.g.Q) (hr:InR dare) :
  ∃ B q,a4t A p i kind dare = (0,B,q) ∧ q.items = p.items.set i { x with dare:=dare,status:=1,lent:=decide (kind = 3) } ∧ Up s lims B q q.j.recs (n + 1):=by
 have hi:(i:Int) < 9223372036854775807:=by
  have:=(List.getElem?_eq_some_iff.1 hx).1
  have:=h.items
  have:=h.cnt
  omega
 have hin:∀ m ∈ [kind,(i:Int),dare],InR m:=by
  intro m hm
  simp only [List.mem_cons,List.not_mem_nil,or_false] at hm
  rcases hm with rfl | rfl | rfl
  ·rcases hk with rfl | rfl <;> exact ⟨by decide,by decide⟩
  ·exact ⟨by omega,by omega⟩
  ·exact hr
 obtain ⟨B,b,e,u,l⟩:=h.append hn (t:=a0u [kind,i,dare]) (by have:=a8k hin (by simp); omega)
 obtain ⟨C,e2,u2,l2⟩:=u.sync_rec l b6v rfl
 have ek:a4t A p i kind dare = (0,C,⟨⟨p.j.recs ++ [a0u [kind,i,dare]],b,false⟩,p.items.set i { x with dare:=dare,status:=1,lent:=decide (kind = 3) }⟩):=by
  unfold a4t
  rw [e]
  dsimp only
  rw [if_neg (by simp),e2]
  dsimp only
  rw [if_neg (by simp),modify_set hx]
 refine ⟨C,_,ek,rfl,⟨u2,?_,rfl,?_,h.vs,h.vl,?_⟩⟩
 ·obtain ⟨rj,h1,h2,g⟩:=a7u h.inv
  obtain ⟨r,hr1,hr2⟩:=h2.get hx
  have hrs:r.status = 0:=by
   rcases hr2.rest with ⟨a,_⟩ | ⟨a,b,_⟩ <;> omega
  have hstep:a9s s [kind,i,dare] r = some { r with status:=1,dare:=dare,lent:=decide (kind = 3) }:=by
   unfold a9s
   dsimp only
   rw [if_pos (by simpa using hk),if_pos (by simp [hrs,hd,hq])]
  have ht:=b6t (s:=s) (lims:=lims) rj [kind,i,dare] hin (.inr rfl) (i:=i) rfl hr1
  rw [hstep,Option.map_some] at ht
  have hr:a1j s lims [] (p.j.recs ++ [a0u [kind,i,dare]]) = some (rj.set i { r with status:=1,dare:=dare,lent:=decide (kind = 3) }):=by
   rw [a4f,h1,Option.bind_some,b1u,ht]
  have hm:Match (rj.set i { r with status:=1,dare:=dare,lent:=decide (kind = 3) }) (p.items.set i { x with dare:=dare,status:=1,lent:=decide (kind = 3) }):=
   h2.set i ⟨hr2.held,hr2.back,.inl ⟨rfl,rfl,rfl⟩⟩
  exact ⟨.inl ⟨rfl,l2⟩,⟨_,hr⟩,⟨_,hr,hm⟩,b9w hr hm⟩
 ·have:=h.cnt
  simp only [List.length_append,List.length_cons,List.length_nil]; omega
 ·have:=h.items
  simp only [List.length_append,List.length_cons,List.length_nil,List.length_set]; omega
def b6w (s:Stp) (lims:List Lim):List Hld → Ab → Pst → Option (Ab × Pst)
 | [],A,p=>some (A,p)
 | h :: hs,A,p=>if (b1f s lims A p h).1 = 0 ∨ (b1f s lims A p h).1 = 1 ∨ (b1f s lims A p h).1 = 5 then b6w s lims hs (b1f s lims A p h).2.1 (b1f s lims A p h).2.2 else none
theorem b6x (hv:a1o s = true) (hl:a7m lims = true):∃ B,a8j s lims b9h = (some ⟨⟨[],0,false⟩,[]⟩,0,B) ∧ Up s lims B ⟨⟨[],0,false⟩,[]⟩ [] 0:=by
 obtain ⟨B,e,u,l⟩:=e9g b6v
 refine ⟨B,?_,⟨u,⟨.inl ⟨rfl,l⟩,⟨[],rfl⟩,⟨[],rfl,rfl,fun i r x h=>by simp at h⟩,fun i x h=>by simp at h⟩,rfl,Nat.le_refl _,hv,hl,Nat.le_refl _⟩⟩
 unfold a8j
 rw [if_neg (by simp [hv,hl]),e]
 rfl
end PuSpec
namespace PuSpec
open FdSpec TkSpec CodeSpec DkSpec JnSpec
variable {s:Stp} {lims:List Lim} {A:Ab} {p:Pst} {all sure:List a0f} {n:Nat}
theorem b1w (items:List Itm) (limit now:Int):0 ≤ a9t lims items limit now ∧ (0 < a9t lims items limit now ↔ (a0i lims items limit now).2 = 0):=by
 unfold a9t a0i
 split
 ·exact ⟨by omega,by simp⟩
 ·rename_i hc
  refine ⟨by omega,?_⟩
  rcases hf:items.findIdx? (a3o lims limit now) with _ | i
  ·have h1:items.filter (a3o lims limit now) = []:=by
    rw [List.filter_eq_nil_iff]
    intro x hx
    have:=List.findIdx?_eq_none_iff.1 hf x hx
    simp [this]
   rw [h1]
   simp
  ·obtain ⟨hl,h1,_⟩:=List.findIdx?_eq_some_iff_getElem.1 hf
   have h2:items[i] ∈ items.filter (a3o lims limit now):=List.mem_filter.2 ⟨List.getElem_mem hl,h1⟩
   have:=List.length_pos_of_mem h2
   simp only [iff_true]
   omega
theorem d0j {items:List Itm} {limit now:Int} {i:Nat} {x y:Itm} (hx:items[i]? = some x) (hf:a3o lims limit now x = true) (hy:y.status ≠ 0) (hl:0 ≤ limit ∧ limit < lims.length ∧ a2i now = true) :
  a9t lims (items.set i y) limit now = a9t lims items limit now - 1:=by
 have hc:¬ ((decide (limit < 0) || decide ((lims.length:Int) ≤ limit) || !a2i now) = true):=by
  simp only [hl.2.2,Bool.not_true,Bool.or_false,Bool.or_eq_true,decide_eq_true_eq]
  omega
 unfold a9t
 rw [if_neg hc,if_neg hc]
 obtain ⟨hi,e⟩:=List.getElem?_eq_some_iff.1 hx
 have hg:a3o lims limit now y = false:=by simp [a3o,hy]
 have h1:=List.countP_set (p:=a3o lims limit now) (l:=items) (a:=y) hi
 rw [e,hf,hg] at h1
 simp only [if_true,Bool.false_eq_true,if_false,Nat.add_zero] at h1
 rw [List.countP_eq_length_filter,List.countP_eq_length_filter] at h1
 have h2:x ∈ items.filter (a3o lims limit now):=List.mem_filter.2 ⟨List.mem_of_getElem? hx,hf⟩
 have:=List.length_pos_of_mem h2
 rw [h1]
 omega
theorem b6y (items:List Itm) (limit now:Int):(a0i lims items limit now).2 = 0 ∨ (a0i lims items limit now).2 = 1 ∨ (a0i lims items limit now).2 = 15:=by
 unfold a0i
 split
 ·exact .inr (.inl rfl)
 ·split
  ·exact .inr (.inr rfl)
  ·exact .inl rfl
theorem d0k (h:Up s lims A p sure n) (hn:n ≤ 50) (limit now dare:Int) (hr:InR dare) :
  (((a0s s lims A p limit now dare).1.2 = 0 ↔ 0 < a9t lims p.items limit now ∧ 1 ≤ dare ∧ dare < s.g.Q)) ∧
  ((a0s s lims A p limit now dare).1.2 ≠ 0 → (a0s s lims A p limit now dare).2 = (A,p)) ∧
  ((a0s s lims A p limit now dare).1.2 = 0 → 0 ≤ limit ∧ limit < lims.length ∧ ∃ x,p.items[(a0s s lims A p limit now dare).1.1]? = some x ∧ a3o lims limit now x = true ∧ x.status = 0 ∧
   (a0s s lims A p limit now dare).2.2.items = p.items.set (a0s s lims A p limit now dare).1.1 { x with dare:=dare,status:=1,lent:=false } ∧
   a9t lims (a0s s lims A p limit now dare).2.2.items limit now = a9t lims p.items limit now - 1 ∧
   Up s lims (a0s s lims A p limit now dare).2.1 (a0s s lims A p limit now dare).2.2 (a0s s lims A p limit now dare).2.2.j.recs (n + 1)):=by
 have hc:=b1w (lims:=lims) p.items limit now
 unfold a0s
 by_cases h1:(a0i lims p.items limit now).2 = 1 ∨ dare < 1 ∨ s.g.Q ≤ dare
 ·rw [if_pos h1]
  refine ⟨⟨(fun e=>by cases e),fun e=>?_⟩,fun _=>rfl,(fun e=>by cases e)⟩
  exfalso
  have:=hc.2.1 e.1
  omega
 ·rw [if_neg h1]
  by_cases h2:(a0i lims p.items limit now).2 = 0
  ·rw [if_neg (by simp [h2])]
   obtain ⟨x,hx,hf,l1,l2,l3⟩:=a6w h2
   have h0:=b3b hf
   obtain ⟨B,q,ek,ei,u⟩:=h.keep hn hx h0 (kind:=1) (.inl rfl) (dare:=dare) (by omega) (by omega) hr
   rw [ek,if_neg (by simp)]
   refine ⟨⟨fun _=>⟨hc.2.2 h2,by omega,by omega⟩,fun _=>rfl⟩,fun e=>absurd rfl e,fun _=>⟨l1,l2,x,hx,hf,h0,?_,?_,u⟩⟩
   ·dsimp only
    rw [ei]
    rfl
   ·dsimp only
    rw [ei]
    exact d0j hx hf (by simp) ⟨l1,l2,l3⟩
  ·rw [if_pos h2]
   refine ⟨⟨fun e=>absurd e h2,fun e=>absurd (hc.2.1 e.1) h2⟩,fun _=>rfl,fun e=>absurd e h2⟩
theorem d0l (h:Up s lims A p sure n) (hn:n ≤ 50) (limit now:Int) (next:Tkt) (terms:a0f) :
  ((a4a s lims A p limit now next terms).1.2.2 ≠ 0 → (a4a s lims A p limit now next terms).1.2.1 = [] ∧ (a4a s lims A p limit now next terms).2 = (A,p)) ∧
  ((a4a s lims A p limit now next terms).1.2.2 = 0 → ∃ x,p.items[(a4a s lims A p limit now next terms).1.1]? = some x ∧ a3o lims limit now x = true ∧ x.status = 0 ∧ 0 ≤ limit ∧ limit < lims.length ∧
   b5b terms x.held.links = true ∧ x.held.links.length < 4 ∧
   (a4a s lims A p limit now next terms).1.2.1 = x.held.links ++ [⟨x.held.t,(c2w s x.held.attrs x.held.bl (a5f s next terms)).1,terms⟩] ∧
   (a4a s lims A p limit now next terms).2.2.items = p.items.set (a4a s lims A p limit now next terms).1.1 { x with dare:=a5f s next terms,status:=1,lent:=true } ∧
   a9t lims (a4a s lims A p limit now next terms).2.2.items limit now = a9t lims p.items limit now - 1 ∧
   Up s lims (a4a s lims A p limit now next terms).2.1 (a4a s lims A p limit now next terms).2.2 (a4a s lims A p limit now next terms).2.2.j.recs (n + 1)):=by
 unfold a4a
 by_cases h2:(a0i lims p.items limit now).2 = 0
 ·rw [if_neg (by simp [h2])]
  obtain ⟨x,hx,hf,l1,l2,l3⟩:=a6w h2
  rw [hx]
  dsimp only
  have h0:=b3b hf
  have r:=b1v h.vs next terms
  have g:=(b3d h.vs).1
  obtain ⟨B,q,ek,ei,u⟩:=h.keep hn hx h0 (kind:=3) (.inr rfl) (dare:=a5f s next terms) r.1 r.2 ⟨by omega,by have:=g.q1; omega⟩
  by_cases h3:b5b terms x.held.links = true
  ·rw [if_neg (by simp [h3])]
   by_cases h4:4 ≤ x.held.links.length
   ·rw [if_pos h4]
    exact ⟨fun _=>⟨rfl,rfl⟩,fun e=>by cases e⟩
   ·rw [if_neg h4,ek]
    rw [if_neg (by simp)]
    refine ⟨fun e=>absurd rfl e,fun _=>⟨x,hx,hf,h0,l1,l2,h3,by omega,rfl,?_,?_,u⟩⟩
    ·dsimp only
     rw [ei]
     rfl
    ·dsimp only
     rw [ei]
     exact d0j hx hf (by simp) ⟨l1,l2,l3⟩
  ·rw [if_pos (by simpa using h3)]
   exact ⟨fun _=>⟨rfl,rfl⟩,fun e=>by cases e⟩
 ·rw [if_pos h2]
  exact ⟨fun _=>⟨rfl,rfl⟩,fun e=>absurd e h2⟩
end PuSpec
namespace PuSpec
open FdSpec TkSpec CodeSpec DkSpec JnSpec
variable {s:Stp} {lims:List Lim} {A:Ab} {p:Pst} {all sure:List a0f} {n:Nat}
theorem Up.note (h:Up s lims A p sure n) (hn:n ≤ 50) {i kind:Int} (hk:kind = 2 ∨ kind = 4) (hr:InR i) :
  ((a2m A p i kind).1 ≠ 0 ∧ (a2m A p i kind).2 = (A,p) ∧ ((a2m A p i kind).1 = 4 ∨ (a2m A p i kind).1 = 7)) ∨
  ((a2m A p i kind).1 = 0 ∧ 0 ≤ i ∧ ∃ x y,p.items[i.toNat]? = some x ∧ a7t kind x = some y ∧ (a2m A p i kind).2.2.items = p.items.set i.toNat y ∧ Up s lims (a2m A p i kind).2.1 (a2m A p i kind).2.2 sure (n + 1)):=by
 have hkept:=e9t h.inv hk hr
 unfold a2m at hkept ⊢
 by_cases h0:i < 0
 ·rw [if_pos h0]; exact .inl ⟨(show (4:Int) ≠ 0 by decide),rfl,.inl rfl⟩
 ·rw [if_neg h0] at hkept ⊢
  rcases hx:p.items[i.toNat]? with _ | x
  ·exact .inl ⟨(show (4:Int) ≠ 0 by decide),rfl,.inl rfl⟩
  ·rw [hx] at hkept
   dsimp only at hkept ⊢
   rcases hy:a7t kind x with _ | y
   ·exact .inl ⟨(show (7:Int) ≠ 0 by decide),rfl,.inr rfl⟩
   ·rw [hy] at hkept
    dsimp only at hkept ⊢
    have hin:∀ m ∈ [kind,i],InR m:=by
     intro m hm
     simp only [List.mem_cons,List.not_mem_nil,or_false] at hm
     rcases hm with rfl | rfl
     ·rcases hk with rfl | rfl <;> exact ⟨by decide,by decide⟩
     ·exact hr
    obtain ⟨B,b,e,u,l⟩:=h.append hn (t:=a0u [kind,i]) (by have:=a8k hin (by simp); omega)
    rw [e] at hkept ⊢
    dsimp only at hkept ⊢
    rw [if_neg (by simp)] at hkept ⊢
    refine .inr ⟨rfl,by omega,x,y,rfl,hy,rfl,⟨u,?_,rfl,?_,h.vs,h.vl,?_⟩⟩
    ·obtain ⟨all',sure',hp,v⟩:=hkept
     refine ⟨.inl ⟨rfl,l⟩,?_,v.live,?_⟩
     ·obtain ⟨rj,h1,_⟩:=v.live
      exact ⟨rj,h1⟩
     ·intro k z hz hst
      dsimp only at hz
      rw [List.getElem?_set] at hz
      have key:∀ y,a7t kind x = some y → (y.status = 1 ∨ y.status = 2 → x.status = 1 ∨ x.status = 2) ∧ y.held = x.held ∧ y.dare = x.dare:=by
       intro y hy
       unfold a7t at hy
       split at hy
       ·rename_i hc
        cases hy
        exact ⟨fun _=>.inl hc.2,rfl,rfl⟩
       ·split at hy
        ·cases hy; exact ⟨id,rfl,rfl⟩
        ·cases hy
      obtain ⟨k3,k4,k5⟩:=key y hy
      split at hz
      ·rename_i hik
       split at hz
       ·cases hz
        obtain ⟨rs,w,u1,u2,u3,u4,u5⟩:=h.inv.spent _ x hx (k3 hst)
        exact ⟨rs,w,u1,by rw [← hik]; exact u2,by rw [k4]; exact u3,by rw [k5]; exact u4,u5⟩
       ·cases hz
      ·exact h.inv.spent k z hz hst
    ·have:=h.cnt
     simp only [List.length_append,List.length_cons,List.length_nil]; omega
    ·have:=h.items
     simp only [List.length_append,List.length_cons,List.length_nil,List.length_set]; omega
structure Dur (s:Stp) (lims:List Lim) (p:Pst) (sure:List a0f):Prop where
 many:∃ rs,a1j s lims [] sure = some rs ∧ p.items.length ≤ rs.length
 nb:∀ x ∈ p.items,x.status ≠ 3
theorem LaterL.len {l m:List Itm} (h:LaterL l m):l.length ≤ m.length:=by
 rcases hl:l.length with _ | k
 ·omega
 ·have hk:k < l.length:=by omega
  obtain ⟨y,hy,_⟩:=h k l[k] (List.getElem?_eq_getElem hk)
  have:=(List.getElem?_eq_some_iff.1 hy).1
  omega
theorem d9s (h:Up s lims A p sure n) (d:Dur s lims p sure) (keep:List Int) :
  ∃ B q,a8j s lims (b2q (a4e A keep)) = (some q,0,B) ∧ q.items.length = p.items.length ∧
   ∀ (i:Nat) (a b:Itm),p.items[i]? = some a → q.items[i]? = some b → b.held = a.held ∧ b.status ≠ 1 ∧ (a.status = 0 → b.status = 0) ∧ (a.status = 1 → b.status = 3 ∧ b.dare = a.dare) ∧
    (a.status ≠ 0 → a.status ≠ 1 → b.status ≠ 0 ∧ b.dare = a.dare):=by
 obtain ⟨B,j',e,u,lv,hb,hp,hs⟩:=h.u.again h.live.good b6v keep
 obtain ⟨rj,hrj,hm,g⟩:=a7u h.inv
 obtain ⟨l,hl,gl,_,ll⟩:=b6u hp hrj
 obtain ⟨rs,hrs,hmany⟩:=d.many
 obtain ⟨rs',hrs',grs,_,lr⟩:=b6u hs hl
 rw [hrs] at hrs'
 cases hrs'
 have ho:a8j s lims (b2q (a4e A keep)) = (some ⟨j',l.map a7d⟩,0,B):=by
  unfold a8j
  rw [if_neg (by simp [h.vs,h.vl]),e]
  dsimp only
  unfold c7q
  rw [hl]
  rfl
 have e1:=ll.len
 have e2:=lr.len
 have e3:=hm.1
 refine ⟨B,_,ho,by simp only [List.length_map]; omega,fun i a b ha hbi=>?_⟩
 dsimp only at hbi
 rw [List.getElem?_map] at hbi
 rcases hli:l[i]? with _ | y
 ·rw [hli] at hbi; cases hbi
 ·rw [hli] at hbi
  cases hbi
  obtain ⟨r,hr,rel⟩:=hm.get ha
  obtain ⟨r',hr',lt⟩:=ll i y hli
  rw [hr] at hr'
  cases hr'
  have na:=d.nb a (List.mem_of_getElem? ha)
  obtain ⟨q1,q2,q3⟩:a.status = r.status ∧ a.dare = r.dare ∧ a.lent = r.lent:=by
   rcases rel.rest with k | ⟨_,k,_⟩
   ·exact k
   ·exact absurd k na
  have ry:=gl.raw y (List.mem_of_getElem? hli)
  have lu:=lt.up
  have spent:a.status = 1 ∨ a.status = 2 → 1 ≤ y.status:=by
   intro hst
   obtain ⟨rs1,z,z1,z2,_,_,z5⟩:=h.inv.spent i a ha hst
   rw [hrs] at z1
   cases z1
   obtain ⟨y',hy',lt'⟩:=lr i z z2
   rw [hli] at hy'
   cases hy'
   have:=lt'.up
   omega
  have bh:(a7d y).held = y.held:=by unfold a7d; split <;> rfl
  have bd:(a7d y).dare = y.dare:=by unfold a7d; split <;> rfl
  have bs:(a7d y).status = if y.status = 1 then 3 else y.status:=by unfold a7d; split <;> rfl
  rw [bh,bd,bs]
  refine ⟨by rw [rel.held,lt.held],by split <;> omega,fun k=>by rw [if_neg (by omega)]; omega,fun k=>?_,fun k1 k2=>?_⟩
  ·have:=spent (.inl k)
   rw [if_pos (by omega),q2,(lt.dare (by omega)).1]
   exact ⟨rfl,rfl⟩
  ·have ra:=g.raw r (List.mem_of_getElem? hr)
   have:=spent (.inr (by omega))
   rw [q2,(lt.dare (by omega)).1]
   refine ⟨?_,rfl⟩
   split <;> omega
end PuSpec
namespace PuSpec
open FdSpec TkSpec CodeSpec DkSpec JnSpec
def exI1:Itm:={ a1d exH with status:=1,dare:=5 }
theorem d2s (hw:WHld exH):∃ B0 B1 B2 q1 q2,a8j exS exL b9h = (some ⟨⟨[],0,false⟩,[]⟩,0,B0) ∧ b1f exS exL B0 ⟨⟨[],0,false⟩,[]⟩ exH = (0,B1,q1) ∧ q1.items = [a1d exH] ∧
  a0s exS exL B1 q1 0 2900 5 = ((0,0),B2,q2) ∧ q2.items = [exI1] ∧ a0s exS exL B2 q2 0 2901 6 = ((0,15),B2,q2) ∧
  ∃ B3 q3 x,a8j exS exL (b2q (a4e B2 [])) = (some q3,0,B3) ∧ q3.items = [x] ∧ x.status = 3 ∧ x.dare = 5 ∧ x.held = exH:=by
 obtain ⟨f1,_,_,_,_,fv,_,fa,_,fc1,fc2,_,_⟩:=d0m
 obtain ⟨B0,e0,u0⟩:=b6x fv f1
 rcases u0.add (by omega) hw with ⟨hne,_⟩ | ⟨_,B1,q1,e1,i1,_,_,u1⟩
 ·exact absurd fa hne
 have i1':q1.items = [a1d exH]:=i1
 have hx:q1.items[0]? = some (a1d exH):=by rw [i1']; rfl
 obtain ⟨B2,q2,e2,i2,u2⟩:=u1.keep (by omega) hx rfl (kind:=1) (dare:=5) (.inl rfl) (by omega) (by decide) ⟨by omega,by omega⟩
 have i2':q2.items = [exI1]:=by rw [i2,i1']; rfl
 refine ⟨B0,B1,B2,q1,q2,e0,e1,i1',?_,i2',?_,?_⟩
 ·unfold a0s
  rw [i1',fc1]
  rw [if_neg (by decide),if_neg (by simp),e2]
  rw [if_neg (by simp)]
 ·unfold a0s
  rw [i2',show [exI1] = [{ a1d exH with status:=1,dare:=5 }] from rfl,fc2]
  rw [if_neg (by decide),if_pos (by simp)]
 ·obtain ⟨rj,hr,hm⟩:=u2.inv.live
  have hd:Dur exS exL q2 q2.j.recs:=⟨⟨rj,hr,Nat.le_of_eq hm.1.symm⟩,by rw [i2']; intro x hx; rw [List.mem_singleton] at hx; subst hx; decide⟩
  obtain ⟨B3,q3,e3,l3,h3⟩:=d9s u2 hd []
  rw [i2'] at l3 h3
  obtain ⟨x,hx3⟩:∃ x,q3.items = [x]:=List.length_eq_one_iff.1 (by simpa using l3)
  have:=h3 0 exI1 x rfl (by rw [hx3]; rfl)
  exact ⟨B3,q3,x,e3,hx3,(this.2.2.2.1 rfl).1,(this.2.2.2.1 rfl).2,this.1⟩
end PuSpec
namespace Go.Proofs
open Go Go.Sh Go.RowKit FdSpec TkSpec CodeSpec PuSpec DkSpec JnSpec
section
variable {K:VK} {w w' w0 W W':World} {L:List (Addr × Value)} {rb b:Nat}
theorem a9c {va vb:Value} {l m:List Int} (ha:Ints w va l) (hb:Ints w vb m) (k:∀ w',Bw w w' → K (.bool (decide (l = m))) w'):a0a Tryz.prog 56 #[va,vb] K w:=by
 apply e7z
 unfold g4e
 obtain ⟨a1,c1,rfl⟩:=ha.isSlice
 obtain ⟨a2,c2,rfl⟩:=hb.isSlice
 have hll:=ha.len
 by_cases hl:l.length = m.length
 ·have hlZ:(l.length:Int) = m.length:=by omega
  refine Xa @hlZ ?_
  refine ⟨fun vs W=>∃ (i:Nat),vs = [.bool false,.int .i64 (i:Int)] ∧ i ≤ l.length ∧ l.take i = m.take i ∧ Nx w W,
   (fun vs _=>match vs with | [_,.int _ i]=>l.length - i.toNat | _=>0),⟨0,rfl,by omega,rfl,bR⟩,?_⟩
  rintro _ _ w2 ⟨i,rfl,hi,he,h2⟩
  by_cases hin:i = l.length
  ·have e:l = m:=by
    rw [hin,List.take_length,hl,List.take_length] at he
    exact he
   have k:=k _ h2
   rw [decide_eq_true e] at k
   have hn:¬ (i:Int) < m.length:=by omega
   refine Xa (An2 @hn @hlZ) ?_
   exact k
  ·have hil:i < l.length:=by omega
   have him:i < m.length:=by omega
   have hiZ:(i:Int) < m.length:=by omega
   obtain ⟨b1,o1,rfl,hb1,ca,_,_⟩:=ha.at (i:=i) hil
   obtain ⟨b2,o2,rfl,hb2,cb,_,_⟩:=hb.at (i:=i) him
   refine Xa (An2 @hiZ @hlZ) ?_
   refine ⟨Nx { w2 with drawn:=w2.drawn + 1 },bR,rfl,?_⟩
   have h2d:=h2.on (.drawn (B:=w2.heap.size))
   generalize ({ w2 with drawn:=w2.drawn + 1 }:World) = W3 at h2d ⊢
   by_cases hx:l[i] = m[i]
   ·refine Xf (fun W0 hW0=>An2 (ca _ (h2d.on hW0)) (cb _ (h2d.on hW0))) (An3 @hx @hiZ @hlZ) ?_
    refine ⟨Nx,fun w4 h4=>?_⟩
    refine Xa0 ?_
    exact ⟨⟨i + 1,rfl,by omega,by rw [List.take_succ_eq_append_getElem hil,List.take_succ_eq_append_getElem him,he,hx],h2d.on h4⟩,by show l.length - (((i + 1:Nat):Int)).toNat < l.length - ((i:Nat):Int).toNat; omega⟩
   ·refine Xf (fun W0 hW0=>An2 (ca _ (h2d.on hW0)) (cb _ (h2d.on hW0))) (An3 @hx @hiZ @hlZ) ?_
    refine ⟨Nx,fun w4 h4=>?_⟩
    have k:=k _ (h2d.on h4)
    rw [decide_eq_false (fun e=>hx (by subst e; rfl))] at k
    refine Xa0 ?_
    exact k
 ·have hlZ:¬ (l.length:Int) = m.length:=by omega
  have k:=k _ (bR)
  rw [decide_eq_false (fun e=>hl (by rw [e]))] at k
  refine Xa @hlZ ?_
  exact k
theorem b0k {T:TypeId} (b:Nat) (k:K (.bool false) w):oM Tryz.prog (Go.Op.binOp Go.BinOp.eql 56 (.tmp 0) (.const (.pointer none)) 56) T [.pointer (some ⟨b,0,none⟩)] K w:=by
 refine Xa0 ?_
 exact k
set_option maxHeartbeats 4000000 in
theorem g0n (hl:Cd.LaidE w) (hdb:DbT w) (k:∀ w',Bw w w' → K (.bool true) w'):a0a Tryz.prog 12 #[] K w:=by
 apply e8a
 unfold g4f
 obtain ⟨f1,fw1,fb1,fw2,ft,fv,_,fa,_,fc1,fc2,fl,fu⟩:=d0m
 obtain ⟨fn1,fn2⟩:=d2t
 refine e3v (fun w1 lv h1 hL=>?_)
 have hL1:=hL.here
 obtain ⟨lad,lc,hlv⟩:=hL1.isSlice
 have e2:exL.length = 2:=rfl
 rw [e2] at hlv
 subst hlv
 obtain ⟨lb,lo,rfl,hlb,cs0,hcl0,hcc0,hV0,_⟩:=hL1.at (i:=0) (by decide)
 obtain ⟨lb',lo',hlo,_,cs1,hcl1,hcc1,hV1,_⟩:=hL1.at (i:=1) (by decide)
 cases hlo
 subst hV0
 subst hV1
 have a0:=hcc0 0 _ rfl
 have a1:=hcc0 1 _ rfl
 have a2:=hcc0 2 _ rfl
 have b0:=hcc1 0 _ rfl
 have b1:=hcc1 1 _ rfl
 have b2:=hcc1 2 _ rfl
 simp only [exL,List.getElem_cons_zero,List.getElem_cons_succ,Nat.zero_mul,Nat.add_zero,Nat.one_mul] at a0 a1 a2 b0 b1 b2
 have q0:∀ W,Nx w1 W → W.cell? ⟨lb,lo,none⟩ = some (.int .i64 1) ∧ W.cell? ⟨lb,lo + 1,none⟩ = some (.int .i64 1440) ∧ W.cell? ⟨lb,lo + 2,none⟩ = some (.int .i64 (-1)) ∧ W.cell? ⟨lb,lo + 3,none⟩ = some (.int .i64 2) ∧ W.cell? ⟨lb,lo + 3 + 1,none⟩ = some (.int .i64 0) ∧ W.cell? ⟨lb,lo + 3 + 2,none⟩ = some (.int .i64 (-1)):=fun W h=>⟨(h.cell hlb).trans a0,(h.cell hlb).trans a1,(h.cell hlb).trans a2,(h.cell hlb).trans b0,(h.cell hlb).trans b1,(h.cell hlb).trans b2⟩
 have q:=q0 _ (bR)
 refine Xa @q ?_
 refine b3s ⟨1,1440,-1⟩ 2900 (fun w2 h2=>?_)
 rw [fw1]
 have q:=q0 _ h2
 refine Xa @q ?_
 refine e2s ⟨1,1440,-1⟩ 2 (fun w3 h3=>?_)
 rw [fb1]
 have h13:=h2.on h3
 have q:=q0 _ h13
 refine Xa @q ?_
 refine b3s ⟨2,0,-1⟩ 2900 (fun w4 h4=>?_)
 rw [fw2]
 have h14:=h13.on h4
 refine Xa0 ?_
 have hl4:=hl.below (h1.on h14) hl.size
 refine d1e 100 [112,111,111,108] (by decide) hl4 (fun w5 h5=>?_)
 rw [ft]
 have h15:=h14.on h5
 have z15':=h15.size
 refine Xa0 ?_
 refine d8s (fun w6 d dk hd6 f6 ho6 hr6=>?_)
 have h6:Bw w5 w6:=⟨f6.os,f6.tape,f6.output,f6.size,fun i hi=>f6.block i hi id⟩
 have h16:=h15.on h6
 have h06:=h1.on h16
 have hw8:=hl.size
 have s6:Sys w6 d b9h dk:=⟨hd6,hl.below h06 hl.size,fun i hi=>by have:=ho6 i hi; have:=(h1.on h15).size; omega⟩
 refine Xa0 ?_
 refine b4t _ _ (by decide) (by decide) s6.l (fun w7 h7=>?_)
 rw [fn1]
 have s7:=s6.below h7
 refine Xa0 ?_
 refine b4t _ _ (by decide) (by decide) s7.l (fun w8 h8=>?_)
 rw [fn2]
 have s8:=s7.below h8
 refine Xa0 ?_
 show a1q (.bool false) _ _
 refine Xa0 ?_
 refine d1n (fun w9 bv h9 hB9=>?_)
 have s9:=s8.below h9
 have h69:=(h7.on h8).on h9
 have h09:=h06.on h69
 have h19:=h16.on h69
 have gE:f7y exS.g:=⟨by constructor <;> decide,by constructor <;> decide,by constructor <;> decide⟩
 have hsl9:FP (fun i=>i < w9.heap.size ∧ ¬ Own d dk i) w9 (fun W=>SetR W exS bv ∧ b9b W (.slice (some ⟨lb,lo,none⟩) 2 lc) exL):=by
  have r1:=e3f (DbT.next hdb h09)
  have r2:=FP.next hL h19 (fun i hi=>hi.2)
  have z1:=h1.size
  have z15:=h15.size
  have z6:=f6.size
  have z68:=(h7.on h8).size
  have z9:=h9.size
  refine (((FP.and hB9 r1).and r2).imp (fun W hW=>⟨⟨gE,hW.1.1,by constructor <;> decide,hW.1.2⟩,hW.2⟩)).mono (fun i hi=>?_)
  rcases hi with (hi | hi) | hi
  ·exact ⟨hi.2,fun e=>by have:i < w6.heap.size:=s6.d.lt (.inl e); omega⟩
  ·exact ⟨by omega,fun e=>by have:=ho6 i e; omega⟩
  ·exact ⟨by omega,fun e=>by have:=ho6 i e; omega⟩
 refine c2o (w0:=w) hl.size h09 s9 (fun i hi=>by
  rcases hi with hi | hi
  ·have:=ho6 i hi; have:=(h1.on h15).size; omega
  ·exact absurd hi (hr6 i)) (fun i hi=>hi) hsl9 (fun w10 dk10 r10 s10 t10 o10=>?_)
 obtain ⟨B0,B1,B2,q1,q2,e0,e1,i1,e2,i2,e3,B3,q3,x3,e4,i3,x3s,x3d,x3h⟩:=d2s f7n
 rw [e0] at s10 o10 ⊢
 obtain ⟨p,hpb,hph,rfl,hP,hMu⟩:=o10
 refine Xa0 ?_
 refine b0k p.pb ?_
 refine Xa0 ?_
 refine d3z (fun w11 av yv kv h11 hx=>?_)
 have hP11:=hP.next h11
 refine c2p hP11 exH (D:=fun i=>w10.heap.size ≤ i ∧ i < w11.heap.size) (fun i hi=>⟨hi.2,fun e=>by have:=hP.mu_lt i e; omega⟩) hx (fun w12 p12 hP12 t12 ⟨epb12,eb12⟩=>?_)
 rw [e1] at hP12 ⊢
 rw [← epb12]
 refine b2k hP12 0 2900 5 ⟨by omega,by omega⟩ (fun w13 p13 hP13 t13 ⟨epb13,eb13⟩=>?_)
 rw [e2] at hP13 ⊢
 rw [← epb13]
 refine Xa0 ?_
 refine b2k hP13 0 2901 6 ⟨by omega,by omega⟩ (fun w14 p14 hP14 t14 ⟨epb14,eb14⟩=>?_)
 rw [e3] at hP14 ⊢
 rw [← epb14]
 refine Xa0 ?_
 refine c6i hP14.st 0 (fun w15 ov h15 hov=>?_)
 have eA:b2m exS q2.items 0 = (⟨5,[0,2]⟩,0):=by
  rw [i2]
  show (if exI1.status = 1 ∨ exI1.status = 2 then ((d1m exS exI1).1,(0:Int)) else (⟨0,[]⟩,7)) = _
  rw [if_pos (.inl rfl)]
  have:d1m exS exI1 = (⟨5,[0,2]⟩,true):=fu
  rw [this]
 rw [eA] at hov ⊢
 have hP15:=hP14.next h15
 obtain ⟨oa,oc,rfl⟩:=hov.here.isSlice
 refine c8k ?_
 refine a0j b4w (fun g16 w16 h16' hg16 hH16=>?_)
 refine a0h b2l rfl rfl (a9b _ _ _ _) hH16 rfl (fun w17 hg17 hH17=>?_)
 have h1517:Bw w15 w17:=a0k h16' hg17 hg16
 have hP17:=hP15.next h1517
 refine Xa0 ?_
 refine f2r hP17.st 0 2900 (fun w18 h18=>?_)
 rw [show a9t exL q2.items 0 2900 = 0 by rw [i2]; exact fl]
 have hP18:=hP17.next h18
 have c18:=(hH17.next h18).cell 1 (by simp)
 simp only [List.getElem_cons_zero,List.getElem_cons_succ] at c18
 refine h4f @c18 ?_
 have gstep:∀ {o:Op} {T:TypeId} {xs:List Value} {K:VK} {w:World},oM Tryz.prog o T xs K w → gdM (gd (.bool false) false) (oM Tryz.prog o T xs) K w:=fun h=>by
  refine a8w ?_
  exact h
 refine gstep ?_
 refine g8j 0 2 d3m (b9g 2 (by omega)) (fun a20 c20 w20 h20 hF20=>?_)
 have hov20:=((hov.here.next h1517).next h18).next h20
 refine a9c hov20 hF20.here (fun w21 h21=>?_)
 have hP21:=(hP18.next h20).next h21
 have ebd:p14.b = d:=eb14.trans (eb13.trans (eb12.trans hpb))
 refine Xa0 ?_
 have hd21:=hP21.sys.d
 rw [ebd] at hd21
 refine c9y hd21 (kl:=[]) ⟨none,0,rfl,fun _=>⟨rfl,rfl⟩,.inl rfl⟩ (by decide) (fun w' _=>⟨none,0,rfl,fun _=>⟨rfl,rfl⟩,.inl rfl⟩) (fun w22 dk22 hd22 t22=>?_)
 refine Xa0 ?_
 refine e8r hd22 (fun w23 hd23 t23=>?_)
 refine Xa0 ?_
 have hS21:=hP21.sys
 rw [ebd] at hS21
 have s23:=(hS21.step hd22 t22).step hd23 t23
 have hy23:∀ i,Own d dk22 i ∨ Rdb dk22 i → w.heap.size ≤ i:=fun i hi=>by
  have hz:=hP21.bl.size
  rcases hi with hi | hi
  ·rcases t22.own i hi with e | e
   ·exact hP21.yg i (.inl (by rw [ebd]; exact e))
   ·omega
  ·rcases t22.rd i hi with e | e
   ·exact hP21.yg i (.inr (.inl e))
   ·omega
 have b22:Bw w w22:=hP21.bl.trans ⟨t22.fr.os,t22.fr.tape,t22.fr.output,t22.fr.size,fun i hi=>t22.fr.block i (by have:=hP21.bl.size; omega) (fun e=>by have:=hP21.yg i (.inl (by rw [ebd]; exact e)); omega)⟩
 have b23:Bw w w23:=b22.trans ⟨t23.fr.os,t23.fr.tape,t23.fr.output,t23.fr.size,fun i hi=>t23.fr.block i (by have:=b22.size; omega) (fun e=>by have:=hy23 i (.inl e); omega)⟩
 refine d1n (fun w24 bv2 h24 hB24=>?_)
 have s24:=s23.below h24
 have b24:=b23.trans (h24.mono b23.size)
 have hsl24:FP (fun i=>i < w24.heap.size ∧ ¬ Own d dk22 i) w24 (fun W=>SetR W exS bv2 ∧ b9b W (.slice (some ⟨lb,lo,none⟩) 2 lc) exL):=by
  have z1:=h1.size
  have z15:=h15.size
  have z19:=h19.size
  have z10:=t10.fr.size
  have z11:=h11.size
  have z12:=t12.fr.size
  have z13:=t13.fr.size
  have z14:=t14.fr.size
  have n0:∀ i,Own d dk i ∨ Rdb dk i → w1.heap.size ≤ i:=fun i hi=>by
   rcases hi with hi | hi
   ·have:=ho6 i hi; omega
   ·exact absurd hi (hr6 i)
  have m0:∀ i,Mu p i → w1.heap.size ≤ i:=fun i hi=>by
   rcases hMu i hi with e | e | e
   ·rcases t10.own i e with e | e
    ·exact n0 i (.inl e)
    ·omega
   ·rcases t10.rd i e with e | e
    ·exact n0 i (.inr e)
    ·omega
   ·omega
  have m12:∀ i,Mu p12 i → w1.heap.size ≤ i:=fun i hi=>(t12.mu i hi).elim (m0 i) (fun e=>by omega)
  have m13:∀ i,Mu p13 i → w1.heap.size ≤ i:=fun i hi=>(t13.mu i hi).elim (m12 i) (fun e=>by omega)
  have m14:∀ i,Mu p14 i → w1.heap.size ≤ i:=fun i hi=>(t14.mu i hi).elim (m13 i) (fun e=>by omega)
  have o22:∀ i,Own d dk22 i → w1.heap.size ≤ i:=fun i hi=>by
   rcases t22.own i hi with e | e
   ·exact m14 i (.inl (by rw [ebd]; exact e))
   ·have:=((((h15.on h1517).on h18).on h20).on h21).size; omega
  have g9:=FP.next hL h19 (fun i hi=>hi.2)
  have g10:=FP.fr g9 t10.fr (fun i hi=>⟨by omega,fun e=>by have:=n0 i (.inl e); omega⟩)
  have g11:=FP.next g10 h11 (fun i hi=>by omega)
  have g12:=FP.fr g11 t12.fr (fun i hi=>⟨by omega,fun e=>by have:=m0 i e; omega⟩)
  have g13:=FP.fr g12 t13.fr (fun i hi=>⟨by omega,fun e=>by have:=m12 i e; omega⟩)
  have g14:=FP.fr g13 t14.fr (fun i hi=>⟨by omega,fun e=>by have:=m13 i e; omega⟩)
  have h1421:=(((h15.on h1517).on h18).on h20).on h21
  have z21:=h1421.size
  have g21:=FP.next g14 h1421 (fun i hi=>by omega)
  have z22:=t22.fr.size
  have z23:=t23.fr.size
  have z24:=h24.size
  have g22:=FP.fr g21 t22.fr (fun i hi=>⟨by omega,fun e=>by have:=m14 i (.inl (by rw [ebd]; exact e)); omega⟩)
  have g23:=FP.fr g22 t23.fr (fun i hi=>⟨by omega,fun e=>by have:=o22 i e; omega⟩)
  have g24:=FP.next g23 h24 (fun i hi=>by omega)
  have r1:=e3f (DbT.next hdb b24)
  have hw8':=hl.size
  refine (((FP.and hB24 r1).and g24).imp (fun W hW=>⟨⟨gE,hW.1.1,by constructor <;> decide,hW.1.2⟩,hW.2⟩)).mono (fun i hi=>?_)
  rcases hi with (hi | hi) | hi
  ·exact ⟨hi.2,fun e=>by have:i < w23.heap.size:=s23.d.lt (.inl e); omega⟩
  ·exact ⟨by omega,fun e=>by have:=o22 i e; omega⟩
  ·exact ⟨by omega,fun e=>by have:=o22 i e; omega⟩
 refine c2o (w0:=w) hl.size b24 s24 hy23 (fun i hi=>hi) hsl24 (fun w25 dk25 r25 s25 t25 o25=>?_)
 rw [e4] at s25 o25 ⊢
 obtain ⟨p3,hpb3,hph3,rfl,hQ,hMu3⟩:=o25
 refine Xa0 ?_
 refine b0k p3.pb ?_
 refine Xa0 ?_
 refine c6i hQ.st 0 (fun w26 ov2 h26 hov2=>?_)
 have eA2:b2m exS q3.items 0 = (⟨0,[]⟩,7):=by
  rw [i3]
  show (if x3.status = 1 ∨ x3.status = 2 then ((d1m exS x3).1,(0:Int)) else (⟨0,[]⟩,7)) = _
  rw [if_neg (by omega)]
 rw [eA2] at hov2 ⊢
 have hQ26:=hQ.next h26
 obtain ⟨oa2,oc2,rfl⟩:=hov2.here.isSlice
 refine c8k ?_
 refine a0j b4w (fun g27 w27 h27 hg27 hH27=>?_)
 refine a0h b2l rfl rfl (a9b _ _ _ _) hH27 rfl (fun w28 hg28 hH28=>?_)
 have h2628:Bw w26 w28:=a0k h27 hg28 hg27
 have hQ28:=hQ26.next h2628
 refine c2r hQ28.st (fun x hx=>by rw [i3,List.mem_singleton] at hx; subst hx; rw [x3h]; exact ⟨by decide,by decide,by decide,fun y hy=>by cases hy⟩) (fun w29 v29 h29 hI29=>?_)
 have hR:=hI29.here
 obtain ⟨va,vc,hva⟩:=hR.isSlice
 rw [i3] at hR hva
 have e1':[x3].length = 1:=rfl
 rw [e1'] at hva
 subst hva
 obtain ⟨vb,vo,rfl,hvb,cs,hcl,hcc,av3,yv3,lv3,rfl,_⟩:=hR.at (i:=0) (by simp)
 have k14:=hcc 14 _ rfl
 have k15:=hcc 15 _ rfl
 simp only [List.getElem_cons_zero,Nat.zero_mul,Nat.add_zero] at k14 k15
 rw [x3s] at k14
 rw [x3d] at k15
 have k:=k w29 ((hQ28.next h29).bl)
 refine Xa (An2 @k14 @k15) ?_
 exact k
end
end Go.Proofs
