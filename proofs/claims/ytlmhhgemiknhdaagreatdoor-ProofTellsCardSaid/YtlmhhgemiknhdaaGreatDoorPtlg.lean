/- Parts of the proof of the seat's statements (RqO, RqP, RqQ, HL3, LtA): lemmas about the given translation and plain laws. No condition of their own. -/
import Derived.Test.YtlmhhgemiknhdaaGreatDoorPtlf
import Derived.Test.YtlmhhgemiknhdaaGreatDoorProg
set_option linter.all false
set_option maxRecDepth 100000
namespace Go.Proofs
open Go Go.Sh Go.RowKit FdSpec TkSpec CodeSpec PrSpec FdPoly GrLaw
section
variable {K:VK} {w w' w0 W W' We W1 W2:World} {L:List (Addr × Value)} {g n B b i:Nat} {row:Option Nat}
theorem e6x {q a d c:Int} (hq:okN q):a6i q a (a2n q (-d) c) = a3g q a (a2n q d c):=by
 unfold a6i a3g a2n
 simp only [if_pos hq]
 rw [Int.add_emod_emod,Int.sub_emod_emod]
 congr 1
 rw [Int.neg_mul]; omega
theorem ExI.pushd {dv nv xv:Value} {D:Nat → Prop} {dr:List Int} {nl:L2} {x:Int} {T:TypeId} (h:ExI B dv nv D W dr nl) (hB:B ≤ W.heap.size) (hx:Ints W xv [x]) (hl:dr.length < 1099511627776)
  (k:∀ v W',W.grownBy W' dv.ownBlock → (∀ j,v.ownBlock = some j → dv.ownBlock = some j ∨ W.heap.size ≤ j) → ExI B v nv D W' (dr ++ [x]) nl → K v W'):oM Tryz.prog (.call { callee:=.builtin .append,args:=#[.tmp 0,.tmp 1],argTypes:=#[24,24] }) T [dv,xv] K W:=by
 refine c2l h.d hB hx hl (fun v w' ho hg hv=>k v w' hg hv ⟨ho,h.n.keep (Fr.of_by' hg) (fun j hj=>⟨(h.on j hj).1,(h.od j hj).2⟩) (fun j hj e=>h.ap j e hj),fun j hj=>⟨lL (h.od j hj).1 hg.size,fun e=>?_⟩,h.on.next hg.size,?_,h.low⟩)
 ·rcases hv j e with h1 | h1
  ·exact (h.od j hj).2 h1
  ·have:=(h.od j hj).1; omega
 ·intro j e1 e2
  rcases hv j e1 with h1 | h1
  ·exact h.ap j h1 e2
  ·have:=(h.n.own e2).1; omega
theorem ExI.start0:ExI B (.slice none 0 0) (.slice none 0 0) (fun _=>False) W [] []:=⟨a3u,.nil,fun j h=>h.elim,fun j h=>h.elim,fun j h=>(by cases h),fun j h=>h.elim⟩
def g3q (Z:List Int) (A:L2) (Wm:World) (vs:List Value) (W:World):Prop:=Bw Wm W ∧ ∃ (u0 u1 u2 u3 dv nv:Value) (D:Nat → Prop) (k:Nat),vs = [u0,u1,u2,u3,dv,nv,.int .i64 (k:Int)] ∧ k ≤ A.length ∧ ExI Wm.heap.size dv nv D W (Z.take k) (A.take k)
def f6m (n:Nat) (vs:List Value) (_:World):Nat:=match vs with | [_,_,_,_,_,_,.int _ k]=>n - k.toNat | _=>0
structure BackC (q:Int) (Z:List Int) (A:L2) (n:Nat) (Bs:List Bool) (F:List Int) (N:L2) (Ks:List Knw):Prop where
 eq:A = b0z q Bs F N Ks
 zq:Z = zeroed Bs F
 lb:Bs.length = n
 ld:F.length = n
 ln:N.length = n
 lk:Ks.length = n
 max:n ≤ 16
 fit:∀ (k:Nat) (u:Knw) (z:List Int),Bs[k]? = some true → Ks[k]? = some u → N[k]? = some z → u.values.length = z.length
 len:∀ (k:Nat) (z:List Int),N[k]? = some z → z.length < 1000
set_option maxHeartbeats 4000000 in
theorem f6n {q:Int} (hq:okN q) {kad nad:Option Addr} {kc nc b2 gb k nB:Nat} {dv:Value} {ns:L3} {know:List (List Knw)} {A N:L2} {F Z:List Int} {Bs:List Bool} {Ks:List Knw} {x:Bool} {z:List Int} {u:Knw} {y:Int} {p0 p1 p2 p3 p4 p5 p6 p7 p8 u0 u1 u2 u3 av zv0:Value} {lvs:List Value} {wm Wm Wl:World} {D:Nat → Prop}
  (hk:Kn w L Wm) (hb2:∀ W,a0n W L → a0n W (cellsOf [] b2 0 (a5n dv (.slice nad ns.length nc)))) (hn:a2j w (.slice nad ns.length nc) ns) (hkn:a5v w (.slice kad know.length kc) know)
  (hbs:b1e Wm (.slice (some ⟨gb,0,none⟩) nB nB) Bs) (hA:BackC q Z A nB Bs F N Ks) (en:ns[i]? = some N) (ek:know[i]? = some Ks)
  (ex:Bs[k]? = some x) (ey:F[k]? = some y) (hyI:I64 y) (ez:N[k]? = some z) (eu:Ks[k]? = some u) {T:List Int} (hT:A[k]? = some T)
  (hm:Bw Wm Wl) (hG:ExI Wm.heap.size zv0 av D Wl (Z.take k) (A.take k)) (hJ:f7r T Wl lvs W) :
  b4o (g3q Z A Wm) (f7r T Wl) (.slice kad know.length kc) [p0,p1,p2,p3,p4,p5,p6,p7,p8,.int .i64 (i:Int)] [u0,u1,u2,u3,zv0,av,.int .i64 (k:Int)] lvs (f6m nB) (c3t T.length) (.slice (some ⟨gb,0,none⟩) nB nB) (.int .i64 q) (.int .i64 y) (ptr b2 0) wm W:=by
 obtain ⟨hb,u9,lv,v,rfl,hv,ho⟩:=hJ
 have hkF:k < nB:=by have:=(gS ex).1; have:=hA.lb; omega
 have hAl:A.length = nB:=by rw [hA.eq,a7y (by rw [hA.ld,hA.lb]) (by rw [hA.ln,hA.lb]) (by rw [hA.lk,hA.lb]),hA.lb]
 have hZl:Z.length = nB:=by rw [hA.zq,a7z (by rw [hA.ld,hA.lb]),hA.lb]
 have hZe:Z[k]? = some (if x then 0 else y):=by rw [hA.zq]; exact b3f ex ey
 have hTe:T = if x then a2l q z (-y) u.values else z:=by
  have:=c3f (q:=q) ex ey ez eu
  rw [← hA.eq,hT] at this
  exact oI this
 have hzl:=hA.len k z ez
 have hmax:=hA.max
 have hTl:T.length = z.length:=by
  rw [hTe]
  cases x with
  | true=>exact c1y (hA.fit k u z ex eu ez)
  | false=>rfl
 have hmW:=hm.on hb
 have hkW:=hk.next hmW
 have hcb:=hb2 _ hkW.cells
 have hin:=(gS en).1
 have hiN:(i:Int) < ns.length:=by omega
 obtain ⟨bn,on,rfl,hltn,csn,_,hcelln,vn,rfl,hrown⟩:=hn.at (i:=i) hin
 have cn:=hcelln 0 _ rfl
 rw [(gS en).2] at hrown
 have hkN:k < N.length:=(gS ez).1
 have hkN':(k:Int) < N.length:=by omega
 obtain ⟨nad2,nc2,rfl⟩:=id hrown.isSlice
 obtain ⟨bz,oz,rfl,hltz,csz,_,hcellz,vz,rfl,hrowz⟩:=hrown.at (i:=k) hkN
 have cz:=hcellz 0 _ rfl
 rw [(gS ez).2] at hrowz
 simp only [Nat.add_zero,Nat.mul_one,Nat.zero_add] at cn cz
 obtain ⟨zad,zc,rfl⟩:=id hrowz.isSlice
 have hcn:=(hkW.below.cell hltn).trans cn
 have hcz:=(hkW.below.cell hltz).trans cz
 obtain ⟨bb,ob,ebb,hltb,csb,_,hcellb,vb,rfl,hvb⟩:=hbs.at (i:=k) (by have:=(gS ex).1; exact this)
 cases ebb
 have cb:=hcellb 0 _ rfl
 unfold b7j at hvb
 subst hvb
 rw [(gS ex).2] at cb
 simp only [Nat.add_zero,Nat.mul_one,Nat.zero_add] at cb
 have hkF':(k:Int) < nB:=by omega
 unfold b4o
 by_cases hvz:v = z.length
 ·have hno:¬ (v:Int) < z.length:=by omega
  refine Xa (An6 @hcb @hcn @hcz @hiN @hkN' @hno) ?_
  rw [List.take_of_length_le (by omega)] at ho
  obtain ⟨lad,lc,rfl⟩:=a2m ho
  have hTI:∀ t ∈ T,I64 t:=by
   rw [hTe]
   cases x with
   | true=>exact b2r _ _ _ _
   | false=>exact hrowz.rng
  have hfp:=(ho.ints hTI (by omega)).fp
  refine ⟨fun l W3=>l = [.int .i64 (if x then 0 else y)] ∧ W = W3,?_,?_⟩
  ·cases x with
   | true=>
    refine Xa (An2 ((hmW.cell hltb).trans cb) @hkF') ?_
    exact ⟨rfl,rfl⟩
   | false=>
    refine Xa (An2 ((hmW.cell hltb).trans cb) @hkF') ?_
    exact ⟨rfl,rfl⟩
  rintro _ _ _ ⟨rfl,rfl⟩
  unfold b7z
  simp only [List.getD_cons_succ,List.getD_cons_zero]
  have hzI:I64 (if x then 0 else y):=by split; exact b2b; exact hyI
  generalize (if x then 0 else y) = zz at *
  refine mk1 _ hzI (fun v5 w5 h5 hi5=>?_)
  have hG5:=(hG.next hb).next h5
  refine hG5.pushd (hmW.on h5).size hi5 (by rw [List.length_take]; omega) (fun v6 w6 hg6 hv6 hG6=>?_)
  have hb6:=(hmW.on h5).grown hg6 (hmW.on h5).size (fun j hj=>(a0d hG5.d hj).2.1)
  have hoff6:∀ j,Wl.heap.size ≤ j ∧ j < W.heap.size → j < w5.heap.size ∧ ¬ zv0.ownBlock = some j:=fun j hj=>⟨lL hj.2 h5.size,fun e=>by have:=(a0d hG.d e).1; omega⟩
  have hfp6:=((hfp.next h5 (fun j hj=>hj.2)).mono (E:=fun j=>Wl.heap.size ≤ j ∧ j < W.heap.size) (fun j hj=>⟨(a0d ho (a7m ho hj.1)).2.1,hj.2⟩)).fr (Fr.of_by' hg6) hoff6
  refine a8n _ _ _ (fun gl w7 h7 hgl hh7=>?_)
  refine (hG6.next h7).push (E:=fun j=>Wl.heap.size ≤ j ∧ j < W.heap.size) (hb6.on h7).size hh7 (hfp6.next h7 (fun j hj=>by have:=hoff6 j hj; have:=hg6.size; omega)) (fun j hj=>⟨Nat.le_trans hm.size hj.1,by have:=hoff6 j hj; have:=hg6.size; have:=h7.size; omega,fun e=>?_,fun e=>by have:=(hG.n.own e).1; omega⟩) (by rw [List.length_take]; omega) (fun v8 w8 hg8 hn8 hG8=>?_)
  ·rcases hv6 j e with h | h
   ·have:=(a0d hG.d h).1; omega
   ·have:=h5.size; omega
  have hb8:=(hb6.on h7).grown hg8 (hb6.on h7).size (fun j hj=>hn8 j hj)
  refine Xa0 ?_
  refine ⟨⟨hb8,_,_,_,_,_,_,fun i=>D i ∨ (Wl.heap.size ≤ i ∧ i < W.heap.size),k + 1,rfl,by omega,?_⟩,?_⟩
  ·rw [← a2i hT,← a2i hZe]; exact hG8
  ·show nB - (((k + 1:Nat):Int)).toNat < nB - ((k:Nat):Int).toNat; omega
 have hvl:(v:Int) < z.length:=by omega
 obtain ⟨bt,ot,e1,_,ct,hti,_⟩:=hrowz.at (i:=v) (by omega)
 subst e1
 have ezv:z[v]? = some z[v]:=gE (by omega)
 generalize z[v] = zv at *
 have hTv:∃ tv,T[v]? = some tv:=⟨_,gE (by omega)⟩
 obtain ⟨tv,hTv⟩:=hTv
 refine Xa (An7 @hcb @hcn @hcz (ct _ hkW.below) @hiN @hkN' @hvl) ?_
 refine ⟨fun l W3=>∃ t,l = [.int .i64 t] ∧ t = tv ∧ I64 t ∧ Bw Wl W3 ∧ OwnI W3 Wl.heap.size lv (T.take v),?_,?_⟩
 rotate_left
 ·rintro _ _ W3 ⟨t,rfl,rfl,htI,hb3,ho3⟩
  refine mk1 _ htI (fun v8 w8 h8 hi8=>?_)
  refine a9u (ho3.keep h8) (hb3.on h8).size hi8 (by rw [List.length_take]; omega) (fun v9 w9 ho9 h9=>?_)
  refine Xa0 ?_
  refine ⟨⟨(hb3.on h8).trans h9,_,_,v + 1,rfl,by omega,?_⟩,?_⟩
  ·rw [← a2s hTv]; exact ho9
  ·simp only [b0q]; omega
 unfold c6a
 simp only [List.getD_cons_succ,List.getD_cons_zero]
 cases x with
 | false=>
  refine Xa (An2 ((hmW.cell hltb).trans cb) @hkF') ?_
  rw [hTe] at hTv
  have htv:tv = zv:=by
   have h:z[v]? = some tv:=hTv
   rw [ezv] at h
   exact (oI h).symm
  exact ⟨_,rfl,htv.symm,hti,hb,ho⟩
 | true=>
  have hfit:=hA.fit k u z ex eu ez
  have hik:=(gS ek).1
  have hiK:(i:Int) < know.length:=by omega
  obtain ⟨bk,okk,rfl,hltk,csk,_,hcellk,vk,rfl,hrowk⟩:=hkn.at (i:=i) hik
  have ck:=hcellk 0 _ rfl
  rw [(gS ek).2] at hrowk
  obtain ⟨kad2,kc2,rfl⟩:=id hrowk.isSlice
  have hkk:=(gS eu).1
  have hkk':(k:Int) < Ks.length:=by omega
  obtain ⟨bu,ou,rfl,hltu,csu,_,hcellu,vu,rfl,hvu⟩:=hrowk.at (i:=k) hkk
  have q1:=hcellu 1 _ rfl
  rw [(gS eu).2] at hvu
  simp only [Nat.add_zero,Nat.mul_one,Nat.zero_add] at ck
  obtain ⟨uad,uc,rfl⟩:=id hvu.isSlice
  obtain ⟨bw,ow,e3,_,cw,_,_⟩:=hvu.at (i:=v) (by omega)
  subst e3
  have euv:u.values[v]? = some u.values[v]:=gE (by omega)
  generalize u.values[v] = uv at *
  have hvu':(v:Int) < u.values.length:=by omega
  have htv:tv = a3g q zv (a2n q y uv):=by
   have:=d0x (q:=q) (f:=-y) ezv euv
   rw [hTe] at hTv
   have h:(a2l q z (-y) u.values)[v]? = some tv:=hTv
   rw [this,e6x hq] at h
   exact (oI h).symm
  refine Xa (An8 ((hmW.cell hltb).trans cb) @hkF' ((hkW.below.cell hltk).trans ck) ((hkW.below.cell hltu).trans q1) (cw _ hkW.below) @hiK @hkk' @hvu') ?_
  refine a4w _ _ _ ?_
  refine Xa0 ?_
  refine c3r _ _ _ ?_
  exact ⟨_,rfl,htv.symm,d0h _ _ _,hb,ho⟩
theorem c2a:∀ {bs:List Bool} {d:List Int},(∀ x ∈ d,I64 x) → ∀ x ∈ zeroed bs d,I64 x
 | [],_,_,x,hx=>by simp [zeroed] at hx
 | _ :: _,[],_,x,hx=>by simp [zeroed] at hx
 | b :: bs,d :: ds,h,x,hx=>by
  simp only [zeroed,List.mem_cons] at hx
  rcases hx with rfl | hx
  ·split
   ·exact b2b
   ·exact h d (by simp)
  ·exact c2a (fun y hy=>h y (by simp [hy])) x hx
set_option maxHeartbeats 4000000 in
theorem e6y {q:Int} (hq:okN q) {kad nad dad0:Option Addr} {kc nc dc0 b2 gb nB:Nat} {ns:L3} {ds:L2} {know:List (List Knw)} {A N:L2} {F Z:List Int} {Bs:List Bool} {Ks:List Knw} {p0 p1 p2 p3 p4 p5 p6 p7 p8:Value} {mvs:List Value} {Wm wo:World} {dl:L2} {al:L3} {J:List Value → World → Prop} {m:List Value → World → Nat} {bv:Value}
  (hk:Kn w L Wm) (hb2:∀ W,a0n W L → a0n W (cellsOf [] b2 0 (a5n (.slice dad0 ds.length dc0) (.slice nad ns.length nc)))) (hn:a2j w (.slice nad ns.length nc) ns) (hd:a0s w (.slice dad0 ds.length dc0) ds) (hkn:a5v w (.slice kad know.length kc) know)
  (hbs:b1e Wm (.slice (some ⟨gb,0,none⟩) nB nB) Bs) (hA:BackC q Z A nB Bs F N Ks) (en:ns[i]? = some N) (ed:ds[i]? = some F) (ek:know[i]? = some Ks)
  (hQ:OutQ B b 32 (fun d a=>a5n a d) We dl al) (hWe:Bw We Wm) (hB:B ≤ We.heap.size) (hdl:dl.length < 1099511627776) (hal:al.length < 1099511627776) (hi:i < 100000)
  (kk:∀ W' vs,Fr (fun j=>j = b ∨ B ≤ j) We W' → OutQ B b 32 (fun d a=>a5n a d) W' (dl ++ [Z]) (al ++ [A]) → (∃ a0 a1 a2 a3 a4 a5 a6 a7 a8,vs = [a0,a1,a2,a3,a4,a5,a6,a7,a8,.int .i64 ((i + 1:Nat):Int)]) → J vs W' ∧ m vs W' < m [p0,p1,p2,p3,p4,p5,p6,p7,p8,.int .i64 (i:Int)] wo)
  (hJ:g3q Z A Wm mvs W) :
  b4p J (g3q Z A Wm) (.slice kad know.length kc) [p0,p1,p2,p3,p4,p5,p6,p7,p8,.int .i64 (i:Int)] mvs m (f6m nB) (ptr b 0) (.slice (some ⟨gb,0,none⟩) nB nB) (.int .i64 q) bv (ptr b2 0) wo W:=by
 obtain ⟨hb,u0,u1,u2,u3,zv,av,D0,k,rfl,hkA,hE⟩:=hJ
 have hAl:A.length = nB:=by rw [hA.eq,a7y (by rw [hA.ld,hA.lb]) (by rw [hA.ln,hA.lb]) (by rw [hA.lk,hA.lb]),hA.lb]
 have hZl:Z.length = nB:=by rw [hA.zq,a7z (by rw [hA.ld,hA.lb]),hA.lb]
 have hmax:=hA.max
 have hin:=(gS ed).1
 have hiD:(i:Int) < ds.length:=by omega
 obtain ⟨bd,od,rfl,hltd,csd,_,hcelld,vd,rfl,hrowd⟩:=hd.at (i:=i) hin
 have cd:=hcelld 0 _ rfl
 rw [(gS ed).2] at hrowd
 simp only [Nat.add_zero,Nat.mul_one,Nat.zero_add] at cd
 have hkW:=hk.next hb
 have hcb:=hb2 _ hkW.cells
 have hcd:=(hkW.below.cell hltd).trans cd
 unfold b4p
 by_cases hkF:k = nB
 ·have hno:¬ (k:Int) < nB:=by omega
  rw [List.take_of_length_le (by omega),List.take_of_length_le (by omega)] at hE
  obtain ⟨zad,zc,rfl⟩:=a2m hE.d
  obtain ⟨aad,ac,rfl⟩:=hE.n.isSlice
  have hWW:=hWe.on hb
  have hWs:=hb.size
  have hms:=hWe.size
  have hZI:∀ x ∈ Z,I64 x:=by rw [hA.zq]; exact c2a hrowd.rng
  have hfZ:FP (fun j=>We.heap.size ≤ j ∧ j < W.heap.size) W (fun w=>Ints w (.slice zad Z.length zc) Z):=((hE.d.ints hZI (by omega)).fp).mono (fun j hj=>⟨by have:=(a0d hE.d (a7m hE.d hj.1)).2.1; omega,hj.2⟩)
  have hfA:FP (fun j=>We.heap.size ≤ j ∧ j < W.heap.size) W (fun w=>a0s w (.slice aad A.length ac) A):=(hE.n.fp (by decide) (by omega)).mono (fun j hj=>hj.elim (fun h=>⟨by have:=hE.low j h; omega,(hE.on j h).1⟩) (fun h=>⟨by have:=(hE.n.own h).2; omega,(hE.n.own h).1⟩))
  obtain ⟨dad,aad2,dc,ac2,D,hH,hduo,hDB,hdB,haB⟩:=hQ.duo (xad:=zad) (nx:=Z.length) (cx:=zc) (yad:=aad) (ny:=A.length) (cy:=ac) hWW hB hfZ hfA hdl hal
  have hbl:=hQ.lt
  have hbW:b < W.heap.size:=by have:=hWW.size; omega
  have hbd:∀ j,D j → ¬ j = b:=fun j hj e=>by have:=hDB j hj; omega
  refine Xb5 (An2 @hno hH.are) ?_
  refine a8n _ _ _ (fun g1 w1 h1 hg1 hh1=>?_)
  have d1:=(Duo.start hduo.a hduo.b hduo.oa hduo.ob hduo.ap hduo.B).next h1
  refine d1.addA hh1 hduo.x (fun j hj=>⟨(hduo.oa j hj).1,(hduo.oa j hj).2,(hduo.ob j hj).2⟩) hdl (fun v2 w2 d2 hg2=>?_)
  obtain ⟨vad2,vc2,rfl⟩:=d2.a.isSlice
  have hH2:=hH.fr d2.fr (fun e=>by
   rcases e with e | e
   ·have:=hdB _ e; omega
   ·have:=haB _ e; omega)
  refine a9i ?_
  refine a3q (i:=1) a6e rfl rfl hH2 (by simp) (fun w3 hg3 hh3=>?_)
  have hf3:Fr (fun j=>j = b) w2 w3:=Fr.of_by hg3
  have hD2:∀ j,D j → j < w2.heap.size ∧ ¬ j = b:=fun j hj=>⟨(d2.oa j hj).1,hbd j hj⟩
  have a3:=d2.a.keep hf3 hD2 (fun j hj e=>by have:=(d2.a.own hj).2; omega)
  have b3:=d2.b.keep hf3 hD2 (fun j hj e=>by have:=(d2.b.own hj).2; omega)
  have hy3:=(hduo.y.fr d2.fr (fun j hj=>⟨(hduo.oa j hj).1,fun e=>e.elim (hduo.oa j hj).2 (hduo.ob j hj).2⟩)).fr hf3 hD2
  have d3:=Duo.start a3 b3 (d2.oa.next hg3.size) (d2.ob.next hg3.size) d2.ap (Nat.le_trans d2.B (Nat.le_trans d2.fr.size hg3.size))
  have hh3:Holds w3 b 32 [.slice aad2 al.length ac2,.slice vad2 (dl ++ [Z]).length vc2]:=hh3
  refine Xb2 hh3.are ?_
  refine b2y _ _ _ (fun g4 w4 h4 hg4 hh4=>?_)
  have d4:=d3.next h4
  refine d4.addB hh4 hy3 (fun j hj=>⟨(d3.oa j hj).1,(d3.oa j hj).2,(d3.ob j hj).2⟩) hal (fun u5 w5 d5 hg5=>?_)
  obtain ⟨uad5,uc5,rfl⟩:=d5.b.isSlice
  have hH5:=hh3.fr d5.fr (fun e=>by
   rcases e with e | e
   ·have:=(a3.own e).2; omega
   ·have:=(b3.own e).2; omega)
  refine a9i ?_
  refine a3q (i:=0) a6e rfl rfl hH5 (by simp) (fun w6 hg6 hh6=>?_)
  have hf6:Fr (fun j=>j = b) w5 w6:=Fr.of_by hg6
  have hD5:∀ j,D j → j < w5.heap.size ∧ ¬ j = b:=fun j hj=>⟨(d5.oa j hj).1,hbd j hj⟩
  have a6:=d5.a.keep hf6 hD5 (fun j hj e=>by have:=(d5.a.own hj).2; omega)
  have b6:=d5.b.keep hf6 hD5 (fun j hj e=>by have:=(d5.b.own hj).2; omega)
  refine Xa0 ?_
  have e0:Fr (fun j=>j = b ∨ B ≤ j) We W:=Fr.of_below' hWW
  have e2:=e0.trans d2.fr (fun j e=>.inl (.inr (e.elim (hdB j) (haB j))))
  have e3:=e2.trans hf3 (fun j e=>.inl (.inl e))
  have e5:=e3.trans d5.fr (fun j e=>.inl (.inr (e.elim (fun h=>(a3.own h).2) (fun h=>(b3.own h).2))))
  have e6:=e5.trans hf6 (fun j e=>.inl (.inl e))
  exact kk w6 _ e6 ⟨⟨_,_,D,hh6,a6,b6,d5.oa.next hg6.size,d5.ob.next hg6.size,d5.ap,hDB⟩,hbl⟩ ⟨_,_,_,_,_,_,_,_,_,rfl⟩
 have hkl:k < nB:=by omega
 have hkl':(k:Int) < nB:=by omega
 have ex:Bs[k]? = some (Bs[k]'(by have:=hA.lb; omega)):=gE _
 have hkF2:k < F.length:=by have:=hA.ld; omega
 have ey:F[k]? = some (F[k]'(by omega)):=gE _
 have ez:N[k]? = some (N[k]'(by have:=hA.ln; omega)):=gE _
 have eu:Ks[k]? = some (Ks[k]'(by have:=hA.lk; omega)):=gE _
 have hT:A[k]? = some (A[k]'(by omega)):=gE _
 obtain ⟨fad,fc,rfl⟩:=id hrowd.isSlice
 obtain ⟨bf,of,e4,_,cf,hfI,_⟩:=hrowd.at (i:=k) hkF2
 subst e4
 have hkF':(k:Int) < F.length:=by omega
 generalize F[k] = y at *
 refine Xa (An6 @hkl' @hcb @hcd (cf _ hkW.below) @hiD @hkF') ?_
 refine ⟨f7r A[k] W,c3t (A[k]'(by omega)).length,⟨bR,_,_,0,rfl,by omega,a3u⟩,?_⟩
 intro l107 u107 W3 hJ3
 exact f6n hq hk hb2 hn hkn hbs hA en ek ex ey hfI ez eu hT hb hE hJ3
def g4u (P:L2 × L3) (B b:Nat) (W1:World) (n:Nat) (vs:List Value) (W:World):Prop:=Bw W1 W ∧ B ≤ W.heap.size ∧ ∃ (u0 u1 u2 u3 u4 u5 u6 u7 u8:Value) (i:Nat),vs = [u0,u1,u2,u3,u4,u5,u6,u7,u8,.int .i64 (i:Int)] ∧ i ≤ n ∧ OutQ B b 32 (fun d a=>a5n a d) W (P.1.take i) (P.2.take i)
def g1f (n:Nat) (vs:List Value) (_:World):Nat:=match vs with | [_,_,_,_,_,_,_,_,_,.int _ i]=>n - i.toNat | _=>0
theorem g1g {l:List Int} {s:Stp} {n:Int} (h:a0g s l n = true):(l.length:Int) = n:=by
 unfold a0g at h
 simp only [bA,dE] at h
 exact h.1
theorem e6z {s:Stp} {goal:List Cls} {know:List (List Knw)} {ds:L2} {ns:L3} (hgm:a1p s goal = true) (hft:a3a s goal know = true) (hsm:a0u s goal ds ns = true) {c:Cls} {Ks:List Knw} {d:List Int} {N:L2}
  (eg:goal[i]? = some c) (ek:know[i]? = some Ks) (ed:ds[i]? = some d) (en:ns[i]? = some N) :
  BackC s.g.Q (zeroed (a0e s c.need c.claims Ks).1 d) (b0z s.g.Q (a0e s c.need c.claims Ks).1 d N Ks) c.claims.length (a0e s c.need c.claims Ks).1 d N Ks:=by
 have hdl:d.length = c.claims.length:=by
  have:=((a2o.1 hsm).2 i _ _ _ eg ed en).1.1
  exact_mod_cast g1g this
 obtain ⟨h,_⟩:=c3o hgm hft hsm eg ek ed en d hdl
 exact ⟨rfl,rfl,h.lb,hdl,h.ln,h.lk,h.max,h.fit,h.len⟩
set_option maxHeartbeats 4000000 in
theorem e0q (s:Stp) {ad gad nad dad kad:Option Addr} {c gc nc dc kc b1 b2 r1:Nat} {ns:L3} {ds:L2} {goal:List Cls} {know:List (List Knw)} {lvs:List Value} {pa pb:Value}
  (hs:SetR w s (.slice ad s.bases.length c)) (hg:a4f w (.slice gad goal.length gc) goal)
  (hk:Kn w (cellsOf (cellsOf [] b1 0 (a2r s (.slice ad s.bases.length c))) b2 0 (a5n (.slice dad ds.length dc) (.slice nad ns.length nc))) W1)
  (hR:Holds W1 r1 32 [pa,pb]) (hr1:w.heap.size ≤ r1)
  (hn:a2j w (.slice nad ns.length nc) ns) (hd:a0s w (.slice dad ds.length dc) ds) (hkn:a5v w (.slice kad know.length kc) know)
  (hgm:a1p s goal = true) (hft:a3a s goal know = true) (hsm:a0u s goal ds ns = true) (hb1:W1.heap.size ≤ b) (hbB:b < B)
  (hJ:g4u (a1f s (a0h s goal know).1 ds ns know) B b W1 goal.length lvs W)
  (k:∀ w' pv av,Bw w w' → a0s w' pv (a1f s (a0h s goal know).1 ds ns know).1 → a2j w' av (a1f s (a0h s goal know).1 ds ns know).2 → K (.tuple #[b5m av pv,.bool true]) w') :
  (oM Tryz.prog (Go.Op.call (Go.Call.mk (Go.Callee.builtin Go.Builtin.len) #[(.tmp 0)] #[27])) 3 [.slice gad goal.length gc] (fun v77_58 w=>
   oM Tryz.prog (Go.Op.binOp Go.BinOp.lss 3 (.tmp 0) (.tmp 1) 3) 4 [(lvs.getD 9 undef),v77_58] (fun v78_59 w_1=>
   a0v v78_59
   (b4q (g4u (a1f s (a0h s goal know).1 ds ns know) B b W1 goal.length) (.slice gad goal.length gc) (.slice kad know.length kc) lvs (g1f goal.length) (ptr b 0) (.int .i64 s.g.Q) (ptr b1 0) (ptr b2 0) W w_1)
   (oM Tryz.prog (Go.Op.load 32 (.tmp 0)) 32 [ptr b 0] (fun v181_168 w=>
    oM Tryz.prog (Go.Op.store 32 (.tmp 0) (.tmp 1)) 0 [ptr r1 0,v181_168] (fun _ w=>
    ∃ r_169,(do loadVar 32 (← asAddr (ptr r1 0)):Sem Value).run Tryz.prog w = .ok r_169 w ∧ K (.tuple #[r_169,(.bool true)]) w) w) w_1)) w) W):=by
 obtain ⟨hb,hBW,u0,u1,u2,u3,u4,u5,u6,u7,u8,i,rfl,hi,hQ⟩:=hJ
 obtain ⟨hkl,hfx⟩:=a6q.1 hft
 obtain ⟨⟨hsd,hsn⟩,hok⟩:=a2o.1 hsm
 have hv:=c1z hgm
 have hlg:=hg.len
 have hcl:=a4k (s:=s) hkl
 have hpl:=a9t (s:=s) (bs:=(a0h s goal know).1) (ds:=ds) (ns:=ns) (ks:=know) (by omega) (by omega) (by omega)
 have hkW:=hk.next hb
 have h300:=(a5g hgm).1
 by_cases hin:i = goal.length
 ·subst hin
  rw [List.take_of_length_le (by omega),List.take_of_length_le (by omega)] at hQ
  generalize a1f s (a0h s goal know).1 ds ns know = P at *
  obtain ⟨dv,av,D,h1,h2,h3,h4,h5,h6,h7⟩:=hQ.ex
  have h2':=h2
  have h3':=h3
  obtain ⟨xad,xc,rfl⟩:=h2.isSlice
  obtain ⟨yad,yc,rfl⟩:=h3.isSlice
  refine g2z ?_
  refine e9b h1 ?_
  refine a0x b8i (xs:=a5n (.slice yad P.2.length yc) (.slice xad P.1.length xc)) rfl rfl (a5f _ _ _ _ _ _) (hR.next hb) rfl (fun W3 hg3 hh3=>c2s (K:=fun r W=>K (.tuple #[r,.bool true]) W) hh3 ?_)
  have hrB:r1 < B:=by have:=hR.lt; have:=hQ.lt; omega
  have hf3:Fr (fun j=>j = r1) W W3:=Fr.of_by hg3
  have hD3:∀ j,D j → j < W.heap.size ∧ ¬ j = r1:=fun j hj=>⟨(h4 j hj).1,fun e=>by have:=h7 j hj; omega⟩
  have g2:=h2'.keep hf3 hD3 (fun j hj e=>by have:=(h2'.own hj).2; omega)
  have g3:=h3'.keep hf3 hD3 (fun j hj e=>by have:=(h3'.own hj).2; omega)
  exact k _ _ _ (a0m hkW.below hg3 hr1) (g2.srow (by decide) (by omega)) (g3.srow (by decide) (by omega))
 have eg:goal[i]? = some goal[i]:=gE (by omega)
 have ek:know[i]? = some know[i]:=gE (by omega)
 have ed:ds[i]? = some ds[i]:=gE (by omega)
 have en:ns[i]? = some ns[i]:=gE (by omega)
 have eb:=a4n (s:=s) eg ek
 have hP:=b1y (s:=s) eb ed en ek
 have hlks:=(hfx i _ _ eg ek).1
 have hcln:=a3y s goal[i].claims know[i] goal[i].need hlks
 have hA:=e6z hgm hft hsm eg ek ed en
 obtain ⟨hfi,hci⟩:=(a3o.1 hgm).2 i _ eg
 have hqk:=(c8p hgm eg).ok
 obtain ⟨bk,ok,rfl,hltk,csk,_,hcellk,vk,rfl,hrowk⟩:=hkn.at (i:=i) (by omega)
 obtain ⟨bg,og,rfl,hbg,_,_,hgcell,gcv,rfl,_,hgc⟩:=hg.at (i:=i) (by omega)
 have ck:=hcellk 0 _ rfl
 simp only [Nat.add_zero,Nat.mul_one,Nat.zero_add] at ck
 have g0:=hgcell 0 _ rfl
 have g1:=hgcell 1 _ rfl
 simp only [Nat.add_zero] at g0
 simp only [a0z,bA,dE] at hfi
 rw [← hcln] at hA
 generalize ds[i] = d at *
 generalize ns[i] = N at *
 generalize know[i] = ks at *
 generalize goal[i] = cl at *
 have hrowk':=hrowk
 have hgc':=hgc
 obtain ⟨kad2,kc2,rfl⟩:=hrowk.isSlice
 obtain ⟨cad,cc,rfl⟩:=hgc.isSlice
 have hiK:(i:Int) < know.length:=by omega
 have hiG:(i:Int) < goal.length:=by omega
 refine Xa @hiG ?_
 unfold b4q
 simp only [List.getD_cons_succ,List.getD_cons_zero]
 have hk9:=hkW.drew
 have hb9:Below W.heap.size W { W with drawn:=W.drawn + 1 }:=.drawn
 refine ⟨Nx { W with drawn:=W.drawn + 1 },bR,by trivial,?_⟩
 generalize ({ W with drawn:=W.drawn + 1 }:World) = W9 at hk9 hb9 ⊢
 refine Xf (fun W0 hW0=>An4 ((hk9.next hW0).cells) (((hk9.next hW0).below.cell hltk).trans ck) (((hk9.next hW0).below.cell hbg).trans g0) (((hk9.next hW0).below.cell hbg).trans g1)) (An2 @hiK @hiG) ?_
 refine ⟨Nx,?_⟩
 have hmono:∀ (f:Nat → Value) (v:Value) (w w1:World),Nx w w1 → (∃ g,v = f g ∧ Holds w g 4 ((a0e s cl.need cl.claims ks).1.map Value.bool)) → ∃ g,v = f g ∧ Holds w1 g 4 ((a0e s cl.need cl.claims ks).1.map Value.bool):=fun f v w w1 hS h=>h.imp fun g h=>⟨h.1,h.2.next hS⟩
 refine a3i (fun v w'=>∃ g,v = .tuple #[.slice (some ⟨g,0,none⟩) cl.claims.length cl.claims.length,.bool (decide ((a0e s cl.need cl.claims ks).2 = 0))] ∧ Holds w' g 4 ((a0e s cl.need cl.claims ks).1.map Value.bool)) (hmono _) ?_ ?_
 ·intro w1 h1
  exact b0r s cl ks (hs.next (hk9.next h1).below) (hgc'.next (a0b a7x) (hk9.next h1).below) (hrowk'.next (a0b a6p) (hk9.next h1).below) hlks hv (fun x hx=>List.all_eq_true.1 hci x hx) (by omega) (by omega) (fun w2 g h2 hg2 hh2=>⟨h1.on h2,h2,g,rfl,hh2⟩)
 refine a3i (fun v w'=>∃ g,v = .tuple #[.slice (some ⟨g,0,none⟩) cl.claims.length cl.claims.length,.bool (decide ((a0e s cl.need cl.claims ks).2 = 0))] ∧ Holds w' g 4 ((a0e s cl.need cl.claims ks).1.map Value.bool)) (hmono _) ?_ ?_
 ·intro w1 h1 v hv1
  exact ⟨h1,bR,hv1⟩
 refine a3i (fun v w'=>∃ g,v = .slice (some ⟨g,0,none⟩) cl.claims.length cl.claims.length ∧ Holds w' g 4 ((a0e s cl.need cl.claims ks).1.map Value.bool)) (hmono _) ?_ ?_
 ·rintro w1 h1 v ⟨g,rfl,hh⟩
  refine Xa0 ?_
  exact ⟨h1,bR,g,rfl,hh⟩
 refine a3i (fun v w'=>True) (fun _ _ _ _ _=>trivial) ?_ ?_
 ·rintro w1 h1 v ⟨g,rfl,hh⟩
  refine Xa0 ?_
  exact ⟨h1,bR,trivial⟩
 refine a3i (fun v w'=>∃ g,v = .slice (some ⟨g,0,none⟩) cl.claims.length cl.claims.length ∧ Holds w' g 4 ((a0e s cl.need cl.claims ks).1.map Value.bool)) (hmono _) ?_ ?_
 ·intro w1 h1 v hv1
  exact ⟨h1,bR,hv1⟩
 rintro w9 h9 _ _ _ _ _ _ v93 _ v16 ⟨gb,rfl,hh⟩
 have hk:=hk9.next h9
 have hbW:=hb9.on h9
 have hhb:=b6e hh (by omega)
 rw [← hcln]
 generalize (a0e s cl.need cl.claims ks).1 = Bs at *
 have hAl:(b0z s.g.Q Bs d N ks).length = Bs.length:=a7y (by rw [hA.ld]) (by rw [hA.ln]) (by rw [hA.lk])
 have hmaxB:=hA.max
 refine ⟨g3q (zeroed Bs d) (b0z s.g.Q Bs d N ks) w9,f6m Bs.length,⟨bR,_,_,_,_,_,_,fun _=>False,0,rfl,by omega,by rw [List.take_zero,List.take_zero]; exact .start0⟩,?_⟩
 intro l102 u102 wD hJD
 refine e6y hqk hk (fun W h=>?_) hn hd hkn hhb hA en ed ek hQ hbW hBW (by rw [List.length_take]; omega) (by rw [List.length_take]; omega) (by omega) (fun W' vs hf hQ' hvs=>?_) hJD
 ·exact ⟨h.1,h.2.1,trivial⟩
 ·obtain ⟨a0,a1,a2,a3,a4,a5,a6,a7,a8,rfl⟩:=hvs
  rw [a2i hP.1,a2i hP.2] at hQ'
  refine ⟨⟨a6g hb hf (by rintro j (rfl | h) <;> omega),by have:=hf.size; omega,_,_,_,_,_,_,_,_,_,i + 1,rfl,by omega,hQ'⟩,by show goal.length - (((i + 1:Nat):Int)).toNat < goal.length - ((i:Nat):Int).toNat; omega⟩
set_option maxHeartbeats 4000000 in
theorem c8r (s:Stp) (goal:List Cls) (ctx:a5e) (know:List (List Knw)) (ns:L3) (ds:L2) {sv gv kv nv dv:Value} (hs:SetR w s sv) (hg:a4f w gv goal) (hk0:a5v w kv know) (hn:a2j w nv ns) (hd:a0s w dv ds)
  (hN:(a6r goal).length ≤ 1000000) (hctx:ctx.length ≤ 1000000)
  (k:∀ w' pv av,Bw w w' → a0s w' pv (PrSpec.explainM s goal ctx ds ns know).1.1 → a2j w' av (PrSpec.explainM s goal ctx ds ns know).1.2 → K (.tuple #[b5m av pv,.bool (PrSpec.explainM s goal ctx ds ns know).2]) w'):a0a Tryz.prog 28 #[a6b s sv,gv,.string ⟨ctx.toArray⟩,b5m dv nv,kv] K w:=by
 apply e5t
 unfold g0p
 have hs':=hs
 have hg':=hg
 have hd':=hd
 have hn':=hn
 have hk0':=hk0
 obtain ⟨ad,c,rfl⟩:=hs.ints.isSlice
 obtain ⟨gad,gc,rfl⟩:=hg.isSlice
 obtain ⟨dad,dc,rfl⟩:=hd.isSlice
 obtain ⟨nad,nc,rfl⟩:=hn.isSlice
 obtain ⟨kad,kc,rfl⟩:=hk0.isSlice
 have hlg:=hg.len
 refine a0l (cs:=a2r s (.slice ad s.bases.length c)) rfl (.start w) fun b1 W hk hb1 hbb=>?_
 refine a0l (cs:=a5n (.slice dad ds.length dc) (.slice nad ns.length nc)) rfl hk fun b2 W hk hb2 hbb2=>?_
 refine a1d c6l (fun r1 W3 h3 hr1 hR=>?_)
 have hr1w:w.heap.size ≤ r1:=by have:=hb1.size; have:=hb2.size; omega
 have hk:=hk.next h3
 clear hb1 hb2 hbb hbb2 h3 hr1
 have no:∀ (W:World) {T1:TypeId},PrSpec.explainM s goal ctx ds ns know = (([],[]),false) → Bw w W → Holds W r1 32 [.slice none 0 0,.slice none 0 0] →
   oM Tryz.prog (.store 32 (.tmp 0) (.tmp 1)) T1 [ptr r1 0,.agg #[.slice none 0 0,.slice none 0 0]] (fun _ w=>
    ∃ r,(do loadVar 32 (← asAddr (ptr r1 0)):Sem Value).run Tryz.prog w = .ok r w ∧ K (.tuple #[r,.bool false]) w) W:=by
  intro W T1 he hb hR
  refine a0x b8i (xs:=a5n (.slice none 0 0) (.slice none 0 0)) rfl rfl (a5f _ _ _ _ _ _) hR rfl (fun W' hg hh=>c2s (K:=fun r W=>K (.tuple #[r,.bool false]) W) hh ?_)
  have:=k W' (.slice none 0 0) (.slice none 0 0) (a0m hb hg hr1w) (by rw [he]; exact SRow.nil) (by rw [he]; exact SRow.nil)
  rwa [he] at this
 refine Xa hk.cells ?_
 refine c1x s goal ctx ds ns (hs'.next hk.below) (hg'.next (a0b a0i) hk.below) (hd'.next (a0b a0k) hk.below) (hn'.next (a0b a0f) hk.below) hN hctx (fun w2 h2=>?_)
 have hk:=hk.next h2
 have hR:=hR.next h2
 cases hvm:a2u s goal ctx ds ns with
 | false=>
  refine Xa0 ?_
  exact no _ (by simp [PrSpec.explainM,hvm]) hk.below hR
 | true=>
 have hvm':=hvm
 unfold a2u at hvm'
 rw [bA,bA] at hvm'
 have hgm:=hvm'.1.1
 have hsm:=hvm'.1.2
 refine Xa hk.cells ?_
 refine d0o s (hs'.next hk.below) (hg'.next (a0b a0i) hk.below) (hk0'.next (a0b a0w) hk.below) (fun w3 h3=>?_)
 have hk:=hk.next h3
 have hR:=hR.next h3
 cases hft:a3a s goal know with
 | false=>
  refine Xa0 ?_
  exact no _ (by simp [PrSpec.explainM,hft]) hk.below hR
 | true=>
 refine Xa hk.cells ?_
 refine b1i s (hs'.next hk.below) (hg'.next (a0b a0i) hk.below) (hk0'.next (a0b a0w) hk.below) hgm hft (fun w5 h5=>?_)
 have hk:=hk.next h5
 have hR:=hR.next h5
 cases hch:(a0h s goal know).2 with
 | false=>
  refine Xa0 ?_
  exact no _ (by simp [PrSpec.explainM,hch]) hk.below hR
 | true=>
 have hpr:PrSpec.explainM s goal ctx ds ns know = (a1f s (a0h s goal know).1 ds ns know,true):=by simp [PrSpec.explainM,hvm,hft,hch]
 rw [hpr] at k
 clear no hpr
 refine Xb8 hk.cells ?_
 refine a1d c6l (fun b16 w7 h7 hb16 hh7=>?_)
 refine a0x b8i (xs:=a5n (.slice none 0 0) (.slice none 0 0)) rfl rfl (a5f none none 0 0 0 0) hh7 rfl (fun w8 hg8 hh8=>?_)
 have h48:Bw w5 w8:=a0m h7 hg8 hb16
 refine ⟨g4u (a1f s (a0h s goal know).1 ds ns know) w8.heap.size b16 w5 goal.length,g1f goal.length,⟨h48,rL,_,_,_,_,_,_,_,_,_,0,rfl,by omega,.start hh8.lt (by simpa using hh8)⟩,?_⟩
 intro l57 u57 W9 hJ
 exact e0q s hs' hg' hk hR hr1w hn' hd' hk0' hgm hft hsm hb16 hh8.lt hJ k
end
end Go.Proofs
namespace Go.Proofs
open Go Go.Sh Tryz
variable {a0 a1 a2 a3 a4 a5:Value} {K:VK} {w:World}
def c0i (K:VK) (a1 a2 v107 v11 v18 v20 v22 v6 v98:Value) (w:World):Prop:=
 kH (fun C_132 w=>(((true:Bool) = true) ∧ (a0c v22 C_132 fun v108=>
 a0c v108 C_132 fun v109=>
 jT v109 (a0c v98) C_132 fun v110=>
 jT v109 (a0c v107) C_132 fun v111=>
 jT v109 (jB .eql 4 4 v110 v111) C_132 fun v112=>
 jP v109 v112 (.bool false) C_132 fun v113=>
 a0c v113 C_132 fun v114=>
 jT v114 (jL 32 v18) C_132 fun v115=>
 jT v114 (jL 32 v20) C_132 fun v116=>
 ∃ S_142:World → WK,xR S_142 fun R_143=>
 (∀ w,C_132 w → (gT v114 (a0a prog 29 #[v115,v116]) (xK C_132 S_142 R_143 w) w)) ∧
 (xR S_142 fun R_144=>
 (∀ w,C_132 w → ∀ v117,R_143 v117 w → (kP v114 v117 (.bool false) (xK C_132 S_142 R_144 w) w)) ∧
 (xR S_142 fun R_146=>
 (∀ w,C_132 w → ∀ v118,R_144 v118 w → (C_132 w ∧ S_142 w w ∧ R_146 v118 w)) ∧
 (xR S_142 fun R_148=>
 (∀ w,C_132 w → ∀ v119,R_146 v119 w → (gT v119 (kL 26 v6) (xK C_132 S_142 R_148 w) w)) ∧
 (xR S_142 fun R_150=>
 (∀ w,C_132 w → ∀ v119,R_146 v119 w → (gT v119 (a0j a1) (xK C_132 S_142 R_150 w) w)) ∧
 (xR S_142 fun R_152=>
 (∀ w,C_132 w → ∀ v119,R_146 v119 w → (gT v119 (a0j a2) (xK C_132 S_142 R_152 w) w)) ∧
 (xR S_142 fun R_154=>
 (∀ w,C_132 w → ∀ v119,R_146 v119 w → (gT v119 (kL 34 v11) (xK C_132 S_142 R_154 w) w)) ∧
 (xR S_142 fun R_156=>
 (∀ w,C_132 w → ∀ v119,R_146 v119 w → ∀ v120,R_148 v120 w → ∀ v121,R_150 v121 w → ∀ v122,R_152 v122 w → ∀ v123,R_154 v123 w → (gT v119 (a0a prog 30 #[v120,v121,v122,v123]) (xK C_132 S_142 R_156 w) w)) ∧
 (xR S_142 fun R_162=>
 (∀ w,C_132 w → ∀ v119,R_146 v119 w → (gT v119 (kL 26 v6) (xK C_132 S_142 R_162 w) w)) ∧
 (xR S_142 fun R_164=>
 (∀ w,C_132 w → ∀ v119,R_146 v119 w → (gT v119 (a0j a1) (xK C_132 S_142 R_164 w) w)) ∧
 (xR S_142 fun R_166=>
 (∀ w,C_132 w → ∀ v119,R_146 v119 w → (gT v119 (a0j a2) (xK C_132 S_142 R_166 w) w)) ∧
 (xR S_142 fun R_168=>
 (∀ w,C_132 w → ∀ v119,R_146 v119 w → (gT v119 (kL 34 v11) (xK C_132 S_142 R_168 w) w)) ∧
 (∀ w,C_132 w → ∀ v117,R_143 v117 w → ∀ v118,R_144 v118 w → ∀ v119,R_146 v119 w → ∀ v120,R_148 v120 w → ∀ v121,R_150 v121 w → ∀ v122,R_152 v122 w → ∀ v123,R_154 v123 w → ∀ v124,R_156 v124 w → ∀ v125,R_162 v125 w → ∀ v126,R_164 v126 w → ∀ v127,R_166 v127 w → ∀ v128,R_168 v128 w → (
 gT v119 (a0a prog 31 #[v125,v126,v127,v128]) (fun v129 w=>
 gT v119 (kB .eql 4 4 v124 v129) (fun v130=>
 kP v119 v130 (.bool false) fun v131=>
 K v131) w) w)))))))))))))))) w
def c5t (K:VK) (a1 a2 a3 v11 v14 v16 v22 v48 v57 v6:Value) (w:World):Prop:=
 kH (fun C_28 w=>(((true:Bool) = true) ∧ (a0c v48 C_28 fun v58=>
 a0c v57 C_28 fun v59=>
 jB .neq 39 4 v58 v59 C_28 fun v60=>
 a0c v60 C_28 fun v61=>
 jG v61 (jL 34 v14) C_28 fun v62=>
 jG v61 (jL 34 v16) C_28 fun v63=>
 ∃ S_35:World → WK,xR S_35 fun R_36=>
 (∀ w,C_28 w → (gF v61 (a0a prog 20 #[v62,v63]) (xK C_28 S_35 R_36 w) w)) ∧
 (xR S_35 fun R_37=>
 (∀ w,C_28 w → ∀ v64,R_36 v64 w → (gF v61 (kU v64) (xK C_28 S_35 R_37 w) w)) ∧
 (xR S_35 fun R_39=>
 (∀ w,C_28 w → ∀ v65,R_37 v65 w → (kP v61 (.bool true) v65 (xK C_28 S_35 R_39 w) w)) ∧
 (xR S_35 fun R_41=>
 (∀ w,C_28 w → ∀ v66,R_39 v66 w → (C_28 w ∧ S_35 w w ∧ R_41 v66 w)) ∧
 (xR S_35 fun R_43=>
 (∀ w,C_28 w → ∀ v67,R_41 v67 w → (gF v67 (kL 26 v6) (xK C_28 S_35 R_43 w) w)) ∧
 (xR S_35 fun R_45=>
 (∀ w,C_28 w → ∀ v67,R_41 v67 w → ∀ v68,R_43 v68 w → (gF v67 (a0a prog 21 #[v68]) (xK C_28 S_35 R_45 w) w)) ∧
 (xR S_35 fun R_48=>
 (∀ w,C_28 w → ∀ v67,R_41 v67 w → (gF v67 (kL 26 v6) (xK C_28 S_35 R_48 w) w)) ∧
 (xR S_35 fun R_50=>
 (∀ w,C_28 w → ∀ v67,R_41 v67 w → ∀ v70,R_48 v70 w → (gF v67 (a0a prog 22 #[v70]) (xK C_28 S_35 R_50 w) w)) ∧
 (xR S_35 fun R_53=>
 (∀ w,C_28 w → ∀ v67,R_41 v67 w → ∀ v69,R_45 v69 w → ∀ v71,R_50 v71 w → (gF v67 (kB .neq 4 4 v69 v71) (xK C_28 S_35 R_53 w) w)) ∧
 (xR S_35 fun R_57=>
 (∀ w,C_28 w → ∀ v67,R_41 v67 w → ∀ v72,R_53 v72 w → (kP v67 (.bool true) v72 (xK C_28 S_35 R_57 w) w)) ∧
 (xR S_35 fun R_60=>
 (∀ w,C_28 w → ∀ v73,R_57 v73 w → (C_28 w ∧ S_35 w w ∧ R_60 v73 w)) ∧
 (xR S_35 fun R_62=>
 (∀ w,C_28 w → ∀ v74,R_60 v74 w → (gF v74 (kL 26 v6) (xK C_28 S_35 R_62 w) w)) ∧
 (xR S_35 fun R_64=>
 (∀ w,C_28 w → ∀ v74,R_60 v74 w → (gF v74 (a0j a1) (xK C_28 S_35 R_64 w) w)) ∧
 (xR S_35 fun R_66=>
 (∀ w,C_28 w → ∀ v74,R_60 v74 w → ∀ v75,R_62 v75 w → ∀ v76,R_64 v76 w → (gF v74 (a0a prog 23 #[v75,v76]) (xK C_28 S_35 R_66 w) w)) ∧
 (xR S_35 fun R_70=>
 (∀ w,C_28 w → ∀ v74,R_60 v74 w → (gF v74 (kL 26 v6) (xK C_28 S_35 R_70 w) w)) ∧
 (xR S_35 fun R_72=>
 (∀ w,C_28 w → ∀ v74,R_60 v74 w → (gF v74 (a0j a1) (xK C_28 S_35 R_72 w) w)) ∧
 (xR S_35 fun R_74=>
 (∀ w,C_28 w → ∀ v74,R_60 v74 w → ∀ v78,R_70 v78 w → ∀ v79,R_72 v79 w → (gF v74 (a0a prog 24 #[v78,v79]) (xK C_28 S_35 R_74 w) w)) ∧
 (xR S_35 fun R_78=>
 (∀ w,C_28 w → ∀ v74,R_60 v74 w → ∀ v77,R_66 v77 w → ∀ v80,R_74 v80 w → (gF v74 (kB .neq 4 4 v77 v80) (xK C_28 S_35 R_78 w) w)) ∧
 (xR S_35 fun R_82=>
 (∀ w,C_28 w → ∀ v74,R_60 v74 w → ∀ v81,R_78 v81 w → (kP v74 (.bool true) v81 (xK C_28 S_35 R_82 w) w)) ∧
 (xR S_35 fun R_85=>
 (∀ w,C_28 w → ∀ v82,R_82 v82 w → (C_28 w ∧ S_35 w w ∧ R_85 v82 w)) ∧
 (xR S_35 fun R_87=>
 (∀ w,C_28 w → ∀ v83,R_85 v83 w → (gF v83 (a0j a1) (xK C_28 S_35 R_87 w) w)) ∧
 (xR S_35 fun R_89=>
 (∀ w,C_28 w → ∀ v83,R_85 v83 w → ∀ v84,R_87 v84 w → (gF v83 (a0a prog 25 #[v84]) (xK C_28 S_35 R_89 w) w)) ∧
 (xR S_35 fun R_92=>
 (∀ w,C_28 w → ∀ v83,R_85 v83 w → (gF v83 (a0j a1) (xK C_28 S_35 R_92 w) w)) ∧
 (∀ w,C_28 w → ∀ v64,R_36 v64 w → ∀ v65,R_37 v65 w → ∀ v66,R_39 v66 w → ∀ v67,R_41 v67 w → ∀ v68,R_43 v68 w → ∀ v69,R_45 v69 w → ∀ v70,R_48 v70 w → ∀ v71,R_50 v71 w → ∀ v72,R_53 v72 w → ∀ v73,R_57 v73 w → ∀ v74,R_60 v74 w → ∀ v75,R_62 v75 w → ∀ v76,R_64 v76 w → ∀ v77,R_66 v77 w → ∀ v78,R_70 v78 w → ∀ v79,R_72 v79 w → ∀ v80,R_74 v80 w → ∀ v81,R_78 v81 w → ∀ v82,R_82 v82 w → ∀ v83,R_85 v83 w → ∀ v84,R_87 v84 w → ∀ v85,R_89 v85 w → ∀ v86,R_92 v86 w → (
 gF v83 (a0a prog 26 #[v86]) (fun v87 w=>
 gF v83 (kB .neq 9 4 v85 v87) (fun v88=>
 kP v83 (.bool true) v88 fun v89=>
 kO v89 (K (.bool false))
 (kL 26 v6 fun v91=>
 kL 34 v11 fun v94=>
 a0a prog 27 #[v91,a1,a2,v94,a3] fun v96=>
 kE 0 32 v96 fun v97=>
 kE 1 4 v96 fun v98=>
 kA 32 fun v18=>
 kS 32 v18 v97 fun _=>
 kL 26 v6 fun v100=>
 kL 34 v11 fun v103=>
 a0a prog 28 #[v100,a1,a2,v103,a3] fun v105=>
 kE 0 32 v105 fun v106=>
 kE 1 4 v105 fun v107=>
 kA 32 fun v20=>
 kS 32 v20 v106 fun _ w=>
 c0i K a1 a2 v107 v11 v18 v20 v22 v6 v98 w)) w) w))))))))))))))))))))))))))) w
def g6l (a0 a1 a2 a3 a4 a5:Value) (K:VK) (w:World):Prop:=
 oM prog (.box 26 (.tmp 0)) 0 [a0] (fun v6=>
 oM prog (.box 32 (.tmp 0)) 0 [a4] fun v10=>
 oM prog (.box 34 (.tmp 0)) 0 [a5] fun v11=>
 a0a prog 14 #[] fun v22=>
 kL 26 v6 fun v23=>
 a0a prog 15 #[v23,a1,a2,a3] fun v27=>
 kU v27 fun v28 w=>
 gF v28 (kL 32 v10) (fun v30 w=>
 gF v28 (a0a prog 16 #[v30]) (fun v31 w=>
 gF v28 (kU v31) (fun v32=>
 kP v28 (.bool true) v32 fun v33 w=>
 gF v33 (kL 34 v11) (fun v35 w=>
 gF v33 (a0a prog 17 #[v35]) (fun v36 w=>
 gF v33 (kU v36) (fun v37=>
 kP v33 (.bool true) v37 fun v38=>
 kO v38 (K v22)
 (kL 26 v6 fun v41=>
 kL 32 v10 fun v45=>
 a0a prog 18 #[v41,a1,a2,a3,v45] fun v46=>
 kE 0 34 v46 fun v47=>
 kE 1 39 v46 fun v48=>
 kA 34 fun v14=>
 kS 34 v14 v47 fun _=>
 kL 26 v6 fun v50=>
 kL 32 v10 fun v54=>
 a0a prog 19 #[v50,a1,a2,a3,v54] fun v55=>
 kE 0 34 v55 fun v56=>
 kE 1 39 v55 fun v57=>
 kA 34 fun v16=>
 kS 34 v16 v56 fun _ w=>
 c5t K a1 a2 a3 v11 v14 v16 v22 v48 v57 v6 w)) w) w) w) w) w) w) w
theorem f5i (h:g6l a0 a1 a2 a3 a4 a5 K w):a0a prog 3 #[a0,a1,a2,a3,a4,a5] K w:=
 cZ (mz [(6,fz 6 23 3),(10,fz 9 12 4)]) func3 h
end Go.Proofs
namespace Go.Proofs
open Go Go.Sh Go.RowKit FdSpec TkSpec CodeSpec PrSpec FdPoly GrLaw
section
variable {K:VK} {w w' w0 W W' We W1 W2:World} {L:List (Addr × Value)} {g n B b i:Nat} {row:Option Nat}
set_option maxHeartbeats 4000000 in
theorem e5x (s:Stp) (goal:List Cls) (ctx:a5e) (know:List (List Knw)) (n1 a2:L3) (d1 d2:L2) {sv gv kv nv1 dv1 av2 dv2:Value} (hs:SetR w s sv) (hg:a4f w gv goal) (hk0:a5v w kv know) (hn1:a2j w nv1 n1) (hd1:a0s w dv1 d1) (hd2:a0s w dv2 d2) (ha2:a2j w av2 a2) (hl:Cd.Laid w) (hc:ctx.length < 1000000000000000)
  (k:∀ w',Bw w w' → K (.bool true) w'):a0a Tryz.prog 3 #[a6b s sv,gv,.string ⟨ctx.toArray⟩,kv,b5m nv1 dv1,b5m dv2 av2] K w:=by
 apply f5i
 unfold g6l
 have hs':=hs
 have hn1':=hn1
 have hd1':=hd1
 have hd2':=hd2
 have ha2':=ha2
 obtain ⟨ad,c,rfl⟩:=hs.ints.isSlice
 obtain ⟨x1,c1,rfl⟩:=hn1.isSlice
 obtain ⟨x2,c2,rfl⟩:=hd1.isSlice
 obtain ⟨x3,c3,rfl⟩:=hd2.isSlice
 obtain ⟨x4,c4,rfl⟩:=ha2.isSlice
 refine a0l (cs:=a2r s (.slice ad s.bases.length c)) rfl (.start w) fun b1 W hk hb1 hbb=>?_
 refine a0l (cs:=a5n (.slice x1 n1.length c1) (.slice x2 d1.length c2)) rfl hk fun b2 W hk hb2 hbb=>?_
 refine a0l (cs:=a5n (.slice x3 d2.length c3) (.slice x4 a2.length c4)) rfl hk fun b3 W hk hb3 hbb=>?_
 clear hb1 hb2 hb3 hbb
 refine e6a (hs'.db.next hk.below) (hl.below hk.below hl.size) (fun w1 h1=>?_)
 have hk:=hk.next h1
 refine Xa hk.cells ?_
 refine g0u s goal ctx know (hs'.next hk.below) (hg.next (a0b a0i) hk.below) (hk0.next (a0b a0w) hk.below) hc (fun w2 q h2 hq=>?_)
 have hk:=hk.next h2
 cases q with
 | false=>
  refine Xa0 ?_
  exact k _ hk.below
 | true=>
 obtain ⟨hN,hctx⟩:=hq rfl
 refine Xa hk.cells ?_
 refine c8d (hd1'.next (a0b a0k) hk.below) (hn1'.next (a0b a0f) hk.below) (fun w2 q h2 hq=>?_)
 have hk:=hk.next h2
 cases q with
 | false=>
  refine Xa0 ?_
  exact k _ hk.below
 | true=>
 refine Xa hk.cells ?_
 refine c7z (hd2'.next (a0b a0k) hk.below) (ha2'.next (a0b a0f) hk.below) (fun w2 q h2 hq=>?_)
 have hk:=hk.next h2
 cases q with
 | false=>
  refine Xa0 ?_
  exact k _ hk.below
 | true=>
 refine Xa hk.cells ?_
 refine c3p s goal ctx know n1 d1 (hs'.next hk.below) (hg.next (a0b a0i) hk.below) (hk0.next (a0b a0w) hk.below) (hn1'.next (a0b a0f) hk.below) (hd1'.next (a0b a0k) hk.below) (hl.below hk.below hl.size) hN hctx (fun w3 pv av h3 hpv hav=>?_)
 have hk:=hk.next h3
 obtain ⟨pad,pc,rfl⟩:=id hpv.isSlice
 obtain ⟨aad,ac,rfl⟩:=id hav.isSlice
 refine b5k ?_
 refine b3a _ _ _ _ _ _ hk (fun b4 w4 hk h4 hg4=>?_)
 have hpv:=hpv.next (a0b a0k) h4
 have hav:=hav.next (a0b a0f) h4
 refine Xa hk.cells ?_
 refine e0p s goal ctx know n1 d1 (hs'.next hk.below) (hg.next (a0b a0i) hk.below) (hk0.next (a0b a0w) hk.below) (hn1'.next (a0b a0f) hk.below) (hd1'.next (a0b a0k) hk.below) hN hctx (fun w5 pv2 av2 h5 hpv2 hav2=>?_)
 have hk:=hk.next h5
 obtain ⟨pad2,pc2,rfl⟩:=id hpv2.isSlice
 obtain ⟨aad2,ac2,rfl⟩:=id hav2.isSlice
 refine b5k ?_
 refine b3a _ _ _ _ _ _ hk (fun b6 w6 hk h6 hg6=>?_)
 have hodr:Below w6.heap.size w6 { w6 with drawn:=w6.drawn + 1 }:=.drawn
 have h56:=(h5.on h6).on hodr
 have hpv:=hpv.next (a0b a0k) h56
 have hav:=hav.next (a0b a0f) h56
 have hpv2:=hpv2.next (a0b a0k) (h6.on hodr)
 have hav2:=hav2.next (a0b a0f) (h6.on hodr)
 have hk:=hk.next hodr
 generalize a1m s goal ctx know n1 d1 = P at *
 generalize P.2 = e at *
 unfold c5t
 refine ⟨Nx { w6 with drawn:=w6.drawn + 1 },bR,rfl,?_⟩
 generalize ({ w6 with drawn:=w6.drawn + 1 }:World) = W at hk hpv hav hpv2 hav2 ⊢
 have eN:∀ (d:L2) (n:L3),(decide (d = d) && decide (n = n)) = true:=fun d n=>by simp
 refine Xc (fun W0 hW0=>(hk.next hW0).cells) ?_
 refine ⟨Nx,?_⟩
 apply a1i
 ·(intro w9 h9; repeat (intro v9 e9; try (obtain rfl:=e9)))
  refine Xa0 ?_
  exact c5s (hpv.next (a0b a0k) h9) (hav.next (a0b a0f) h9) (hpv2.next (a0b a0k) h9) (hav2.next (a0b a0f) h9) (fun w2 h2=>⟨h9.on h2,h2,rfl⟩)
 rw [eN]
 refine Xd (fun w9 h9=>(hk.next h9).cells) ?_
 apply a1i
 ·(intro w9 h9; repeat (intro v9 e9; try (obtain rfl:=e9)))
  refine Xa0 ?_
  exact a4c s (hs'.next (hk.next h9).below) (fun w2 h2=>⟨h9.on h2,h2,rfl⟩)
 refine Xd (fun w9 h9=>(hk.next h9).cells) ?_
 apply a1i
 ·(intro w9 h9; repeat (intro v9 e9; try (obtain rfl:=e9)))
  refine Xa0 ?_
  exact a5p s (hs'.next (hk.next h9).below) (fun w2 h2=>⟨h9.on h2,h2,rfl⟩)
 refine Xd (fun w9 h9=>(hk.next h9).cells) ?_
 apply a1i
 ·(intro w9 h9; repeat (intro v9 e9; try (obtain rfl:=e9)))
  refine Xa0 ?_
  exact a9o s (hs'.next (hk.next h9).below) (hg.next (a0b a0i) (hk.next h9).below) (fun w2 h2=>⟨h9.on h2,h2,rfl⟩)
 refine Xd (fun w9 h9=>(hk.next h9).cells) ?_
 apply a1i
 ·(intro w9 h9; repeat (intro v9 e9; try (obtain rfl:=e9)))
  refine Xa0 ?_
  exact a8t s (hs'.next (hk.next h9).below) (hg.next (a0b a0i) (hk.next h9).below) (fun w2 h2=>⟨h9.on h2,h2,rfl⟩)
 refine Xd (fun w9 h9=>(hk.next h9).cells) ?_
 apply a1i
 ·(intro w9 h9; repeat (intro v9 e9; try (obtain rfl:=e9)))
  refine Xa0 ?_
  exact d4y goal (hg.next (a0b a0i) (hk.next h9).below) hN (hl.below (hk.next h9).below hl.size) (fun w2 h2=>⟨h9.on h2,h2,rfl⟩)
 refine Xd (fun w9 h9=>(hk.next h9).cells) ?_
 (intro w9 h9; repeat (intro v9 e9; try (obtain rfl:=e9)))
 have hk:=hk.next h9
 clear hpv hav hpv2 hav2
 refine Xa0 ?_
 refine d0u goal (hg.next (a0b a0i) hk.below) hN (fun w3 h3=>?_)
 have hk:=hk.next h3
 refine Xa hk.cells ?_
 refine c1u s goal ctx know a2 d2 (hs'.next hk.below) (hg.next (a0b a0i) hk.below) (hk0.next (a0b a0w) hk.below) (ha2'.next (a0b a0f) hk.below) (hd2'.next (a0b a0k) hk.below) (hl.below hk.below hl.size) hN hctx (fun w4 xn xd h4 hxn hxd=>?_)
 have hk:=hk.next h4
 obtain ⟨xad,xc,rfl⟩:=id hxn.isSlice
 obtain ⟨yad,yc,rfl⟩:=id hxd.isSlice
 refine b5k ?_
 refine b3c _ _ _ _ _ _ hk (fun b8 w8 hk h8 hg8=>?_)
 have hxn:=hxn.next (a0b a0f) h8
 have hxd:=hxd.next (a0b a0k) h8
 refine Xa hk.cells ?_
 refine c8r s goal ctx know a2 d2 (hs'.next hk.below) (hg.next (a0b a0i) hk.below) (hk0.next (a0b a0w) hk.below) (ha2'.next (a0b a0f) hk.below) (hd2'.next (a0b a0k) hk.below) hN hctx (fun w5 yd yn h5 hyd hyn=>?_)
 have hk:=hk.next h5
 obtain ⟨xad2,xc2,rfl⟩:=id hyn.isSlice
 obtain ⟨yad2,yc2,rfl⟩:=id hyd.isSlice
 refine b5k ?_
 refine b3c _ _ _ _ _ _ hk (fun b10 w10 hk h10 hg10=>?_)
 have hodr:Below w10.heap.size w10 { w10 with drawn:=w10.drawn + 1 }:=.drawn
 have hall:=(h5.on h10).on hodr
 have hxn:=hxn.next (a0b a0f) hall
 have hxd:=hxd.next (a0b a0k) hall
 have hyn:=hyn.next (a0b a0f) (h10.on hodr)
 have hyd:=hyd.next (a0b a0k) (h10.on hodr)
 have hk:=hk.next hodr
 generalize PrSpec.explainM s goal ctx d2 a2 know = E at *
 generalize E.2 = eb at *
 unfold c0i
 refine ⟨Nx { w10 with drawn:=w10.drawn + 1 },bR,rfl,?_⟩
 generalize ({ w10 with drawn:=w10.drawn + 1 }:World) = W at hk hxn hxd hyn hyd ⊢
 refine Xc (fun W0 hW0=>(hk.next hW0).cells) ?_
 refine ⟨Nx,?_⟩
 apply a1i
 ·(intro w9 h9; repeat (intro v9 e9; try (obtain rfl:=e9)))
  refine Xa0 ?_
  exact b5n (hxd.next (a0b a0k) h9) (hxn.next (a0b a0f) h9) (hyd.next (a0b a0k) h9) (hyn.next (a0b a0f) h9) (fun w2 h2=>⟨h9.on h2,h2,rfl⟩)
 rw [eN]
 refine Xd (fun w9 h9=>(hk.next h9).cells) ?_
 apply a1i
 ·(intro w9 h9; repeat (intro v9 e9; try (obtain rfl:=e9)))
  refine Xa0 ?_
  exact b7c s goal ctx _ _ (hs'.next (hk.next h9).below) (hg.next (a0b a0i) (hk.next h9).below) (hd2'.next (a0b a0k) (hk.next h9).below) (ha2'.next (a0b a0f) (hk.next h9).below) (hl.below (hk.next h9).below hl.size) hN hctx (fun w2 h2=>⟨h9.on h2,h2,rfl⟩)
 refine Xd (fun w9 h9=>(hk.next h9).cells) ?_
 (intro w9 h9; repeat (intro v9 e9; try (obtain rfl:=e9)))
 have hk:=hk.next h9
 clear hxn hxd hyn hyd
 refine Xa0 ?_
 refine c1x s goal ctx _ _ (hs'.next hk.below) (hg.next (a0b a0i) hk.below) (hd2'.next (a0b a0k) hk.below) (ha2'.next (a0b a0f) hk.below) hN hctx (fun w3 h3=>?_)
 have hk:=hk.next h3
 refine Xa0 ?_
 exact k _ hk.below
end
end Go.Proofs
