/- Parts of the proof of the seat's statements (RpC, RpD, RpE, PrIff2, HLn, RpF, HRq, FdFun, RqA, RqB, RqC, RqD, RqE, HRc, TcF, RqF, RqG, RqH, RfE, RfF, RfG, RfH, RfI, RqI, RqJ, HRv, RqK, RqL, RqM, RqN): lemmas about the given translation and plain laws. No condition of their own. -/
import Derived.Test.YtlmhhgemiknhdaaGreatDoorPtle
import Derived.Test.YtlmhhgemiknhdaaGreatDoorProg
import Derived.Laws.IdiomStrings
set_option linter.all false
set_option maxRecDepth 100000
namespace Go.Proofs
open Go Go.Sh Go.RowKit FdSpec TkSpec CodeSpec PrSpec FdPoly GrLaw
section
variable {K:VK} {w w' w0 W W' We W1 W2:World} {L:List (Addr × Value)} {g n B b i:Nat} {row:Option Nat}
def RfJ (w0:World) (L:List (Addr × Value)) (s:Stp) (goal:List Cls) (know:List (List Knw)) (vs:List Value) (w':World):Prop:=Kn w0 L w' ∧ ∃ (u v:Value) (i:Nat),vs = [u,v,.int .i64 (i:Int)] ∧ i ≤ goal.length ∧ ∀ (j:Nat) (c:Cls) (n:List Knw),j < i → goal[j]? = some c → know[j]? = some n → OkF s c n
def RfI (w0:World) (L:List (Addr × Value)) (s:Stp) (cl:Cls) (ks:List Knw) (vs:List Value) (w':World):Prop:=Kn w0 L w' ∧ ∃ (u:Value) (k:Nat),vs = [u,.int .i64 (k:Int)] ∧ k ≤ ks.length ∧ ∀ (j:Nat) (x:Clm) (y:Knw),j < k → cl.claims[j]? = some x → ks[j]? = some y → c8e s x y = true
set_option maxHeartbeats 2000000 in
theorem d0o (s:Stp) {sv gv kv:Value} {goal:List Cls} {know:List (List Knw)} (hs:SetR w s sv) (hg:a4f w gv goal) (hk0:a5v w kv know)
  (k:∀ w',Bw w w' → K (.bool (a3a s goal know)) w'):a0a Tryz.prog 32 #[a6b s sv,gv,kv] K w:=by
 apply e5i
 unfold g0e
 have hs':=hs
 have hg':=hg
 have hk0':=hk0
 obtain ⟨ad,c,rfl⟩:=hs.ints.isSlice
 obtain ⟨gad,gc,rfl⟩:=hg.isSlice
 obtain ⟨kad,kc,rfl⟩:=hk0.isSlice
 have hlg:=hg.len
 have hlk:=hk0.len
 refine a0l (cs:=a2r s (.slice ad s.bases.length c)) rfl (.start w) fun b1 W hk hb1 hbb=>?_
 clear hb1 hbb
 by_cases e1:¬ know.length = goal.length
 ·have e1':¬ (know.length:Int) = goal.length:=by omega
  refine Xa (An2 hk.cells @e1') ?_
  have k:=k _ hk.below
  rw [show a3a s goal know = false by rw [Bool.eq_false_iff]; intro h; exact e1 (a6q.1 h).1] at k
  exact k
 have e1:know.length = goal.length:=by omega
 have e1':(know.length:Int) = goal.length:=by omega
 have no:∀ (i:Nat) (c:Cls) (n:List Knw),goal[i]? = some c → know[i]? = some n → ¬ OkF s c n → ∀ w',Bw w w' → K (.bool false) w':=fun i c n a b h w' hb=>by
  have:=k w' hb
  rwa [show a3a s goal know = false by rw [Bool.eq_false_iff]; intro e; exact h ((a6q.1 e).2 i c n a b)] at this
 refine Xa (An2 hk.cells @e1') ?_
 refine ⟨RfJ w (cellsOf [] b1 0 (a2r s (.slice ad s.bases.length c))) s goal know,c3t goal.length,⟨hk,_,_,0,rfl,by omega,fun j c n hj=>by omega⟩,?_⟩
 clear hk
 rintro _ _ w3 ⟨hk,u,v,i,rfl,hi,hall⟩
 by_cases hin:i = goal.length
 ·subst hin
  refine Xa0 ?_
  have k:=k _ hk.below
  rw [show a3a s goal know = true from a6q.2 ⟨e1,fun j c n a b=>hall j c n (gS a).1 a b⟩] at k
  exact k
 have eg:goal[i]? = some goal[i]:=gE (by omega)
 have ek:know[i]? = some know[i]:=gE (by omega)
 obtain ⟨bk,ok,rfl,hltk,csk,_,hcellk,vk,rfl,hrowk⟩:=hk0'.at (i:=i) (by omega)
 obtain ⟨bg,og,rfl,hbg,_,_,hgcell,gcv,rfl,_,hgc⟩:=hg'.at (i:=i) (by omega)
 have ck:=hcellk 0 _ rfl
 simp only [Nat.add_zero,Nat.mul_one,Nat.zero_add] at ck
 have g1:=hgcell 1 _ rfl
 have hno:=no i _ _ eg ek
 generalize goal[i] = cl at *
 generalize know[i] = ks at *
 have hrowk':=hrowk
 have hgc':=hgc
 obtain ⟨kad2,kc2,rfl⟩:=hrowk.isSlice
 obtain ⟨cad,cc,rfl⟩:=hgc.isSlice
 have hlks:=hrowk'.len
 have hlcs:=hgc'.len
 have hiK:(i:Int) < know.length:=by omega
 have hiG:(i:Int) < goal.length:=by omega
 refine Xa (An2 hk.cells @hiG) ?_
 unfold c0s
 simp only [List.getD_cons_succ,List.getD_cons_zero]
 have hk9:=hk.drew
 refine ⟨Nx { w3 with drawn:=w3.drawn + 1 },bR,by trivial,?_⟩
 generalize ({ w3 with drawn:=w3.drawn + 1 }:World) = W9 at *
 by_cases e2:¬ ks.length = cl.claims.length
 ·have e2':¬ (ks.length:Int) = cl.claims.length:=by omega
  refine Xf (fun W0 hW0=>An3 ((hk9.next hW0).cells) (((hk9.next hW0).below.cell hltk).trans ck) (((hk9.next hW0).below.cell hbg).trans g1)) (An3 @hiK @hiG @e2') ?_
  refine ⟨Nx,fun w9 h9=>?_⟩
  refine Xa0 ?_
  exact hno (fun h=>e2 h.1) _ (hk9.next h9).below
 have e2:ks.length = cl.claims.length:=by omega
 have e2':(ks.length:Int) = cl.claims.length:=by omega
 refine Xf (fun W0 hW0=>An3 ((hk9.next hW0).cells) (((hk9.next hW0).below.cell hltk).trans ck) (((hk9.next hW0).below.cell hbg).trans g1)) (An3 @hiK @hiG @e2') ?_
 refine ⟨Nx,fun w9 h9=>?_⟩
 have hk:=hk9.next h9
 refine Xa0 ?_
 refine ⟨RfI w (cellsOf [] b1 0 (a2r s (.slice ad s.bases.length c))) s cl ks,b2m ks.length,⟨hk,_,0,rfl,by omega,fun j c n hj=>by omega⟩,?_⟩
 clear hk
 rintro _ _ w5 ⟨hk,u5,q,rfl,hq,hall5⟩
 unfold c0r
 by_cases hqn:q = ks.length
 ·subst hqn
  refine Xa (An3 hk.cells ((hk.below.cell hltk).trans ck) @hiK) ?_
  refine ⟨⟨hk,_,_,i + 1,rfl,by omega,fun j c n hj a b=>?_⟩,?_⟩
  ·by_cases hji:j = i
   ·subst hji
    rw [eg] at a; rw [ek] at b
    cases a; cases b
    exact ⟨e2,fun p x y e1 e2'=>hall5 p x y (gS e2').1 e1 e2'⟩
   ·exact hall j c n (by omega) a b
  ·simp only [b0q]; omega
 have equ:ks[q]? = some ks[q]:=gE (by omega)
 have ecm:cl.claims[q]? = some (cl.claims[q]'(by omega)):=gE (by omega)
 obtain ⟨bu,ou,rfl,hltu,_,_,hcellu,vu,rfl,hvu⟩:=hrowk'.at (i:=q) (by omega)
 obtain ⟨bcl,ocl,rfl,hbcl,_,_,hccell,ccv,rfl,hclm⟩:=hgc'.at (i:=q) (by omega)
 have p0:=hccell 0 _ rfl
 have q0:=hcellu 0 _ rfl
 have q1:=hcellu 1 _ rfl
 generalize ks[q] = y at *
 generalize cl.claims[q] = x at *
 simp only [Nat.add_zero] at p0 q0
 have hvu':=hvu
 obtain ⟨uad,uc,rfl⟩:=hvu.isSlice
 have hqk:(q:Int) < ks.length:=by omega
 have hqc:(q:Int) < cl.claims.length:=by omega
 refine Xa (An4 hk.cells ((hk.below.cell hltk).trans ck) @hiK @hqk) ?_
 unfold c0q
 simp only [List.getD_cons_succ,List.getD_cons_zero]
 have hk9:=hk.drew
 refine ⟨Nx { w5 with drawn:=w5.drawn + 1 },bR,by trivial,?_⟩
 generalize ({ w5 with drawn:=w5.drawn + 1 }:World) = W8 at *
 have hstep:c8e s x y = true → ∀ w',Kn w (cellsOf [] b1 0 (a2r s (.slice ad s.bases.length c))) w' → RfI w (cellsOf [] b1 0 (a2r s (.slice ad s.bases.length c))) s cl ks [u5,.int .i64 ((q:Int) + 1)] w' ∧ b2m ks.length [u5,.int .i64 ((q:Int) + 1)] w' < b2m ks.length [u5,.int .i64 (q:Int)] w5:=fun hf w' hk'=>by
  refine ⟨⟨hk',_,q + 1,rfl,by omega,fun j x' y' hj a b=>?_⟩,?_⟩
  ·by_cases hjq:j = q
   ·subst hjq
    rw [ecm] at a; rw [equ] at b
    cases a; cases b
    exact hf
   ·exact hall5 j x' y' (by omega) a b
  ·simp only [a1u]; omega
 have eF:c8e s x y = (!y.has || a0g s y.values x.vars):=rfl
 cases hhas:y.has with
 | false=>
  rw [hhas] at q0 eF
  refine Xf (fun W0 hW0=>An6 ((hk9.next hW0).cells) (((hk9.next hW0).below.cell hltk).trans ck) (((hk9.next hW0).below.cell hltu).trans q0) (((hk9.next hW0).below.cell hltu).trans q1) (((hk9.next hW0).below.cell hbg).trans g1) (((hk9.next hW0).below.cell hbcl).trans p0)) (An4 @hiK @hiG @hqk @hqc) ?_
  refine ⟨Nx,fun w9 h9=>?_⟩
  refine Xa0 ?_
  exact hstep (by rw [eF]; rfl) _ (hk9.next h9)
 | true=>
  rw [hhas] at q0 eF
  refine Xf (fun W0 hW0=>An6 ((hk9.next hW0).cells) (((hk9.next hW0).below.cell hltk).trans ck) (((hk9.next hW0).below.cell hltu).trans q0) (((hk9.next hW0).below.cell hltu).trans q1) (((hk9.next hW0).below.cell hbg).trans g1) (((hk9.next hW0).below.cell hbcl).trans p0)) (An4 @hiK @hiG @hqk @hqc) ?_
  refine ⟨Nx,fun w9 h9=>?_⟩
  have hk:=hk9.next h9
  refine Xa0 ?_
  refine a4x s x.vars (hs'.next hk.below) (hvu'.next hk.below) (fun w10 h10=>?_)
  have hk:=hk.next h10
  cases hx:a0g s y.values x.vars with
  | false=>
   rw [hx] at eF
   refine Xa0 ?_
   exact hno (fun h=>by have:=h.2 q x y ecm equ; rw [eF] at this; cases this) _ hk.below
  | true=>
   rw [hx] at eF
   refine Xa0 ?_
   exact hstep (by rw [eF]; rfl) _ hk
def g8x (w0:World) (L:List (Addr × Value)) (s:Stp) (goal:List Cls) (ds:L2) (ns:L3) (vs:List Value) (w':World):Prop:=Kn w0 L w' ∧ ∃ (u v x:Value) (i:Nat),vs = [u,v,x,.int .i64 (i:Int)] ∧ i ≤ goal.length ∧ ∀ (j:Nat) (c:Cls) (d:List Int) (n:L2),j < i → goal[j]? = some c → ds[j]? = some d → ns[j]? = some n → OkS s c d n
def g8y (w0:World) (L:List (Addr × Value)) (s:Stp) (cl:Cls) (N:L2) (vs:List Value) (w':World):Prop:=Kn w0 L w' ∧ ∃ (u:Value) (k:Nat),vs = [u,.int .i64 (k:Int)] ∧ k ≤ cl.claims.length ∧ ∀ (j:Nat) (x:Clm) (y:List Int),j < k → cl.claims[j]? = some x → N[j]? = some y → a0g s y x.vars = true
def e0g (n:Nat) (l:List Value) (_:World):Nat:=match l with | [_,_,_,.int _ i]=>n - i.toNat | _=>0
theorem b6o (n:Nat) (u v x:Value) (k:IntKind) (i:Int) (w:World):e0g n [u,v,x,.int k i] w = n - i.toNat:=rfl
set_option maxHeartbeats 2000000 in
theorem c1w (s:Stp) {sv gv dv nv:Value} {goal:List Cls} {ds:L2} {ns:L3} (hs:SetR w s sv) (hg:a4f w gv goal) (hd:a0s w dv ds) (hn:a2j w nv ns)
  (k:∀ w',Bw w w' → K (.bool (a0u s goal ds ns)) w'):a0a Tryz.prog 33 #[a6b s sv,gv,dv,nv] K w:=by
 apply e5j
 unfold g0f
 have hs':=hs
 have hg':=hg
 have hd':=hd
 have hn':=hn
 obtain ⟨ad,c,rfl⟩:=hs.ints.isSlice
 obtain ⟨gad,gc,rfl⟩:=hg.isSlice
 obtain ⟨dad,dc,rfl⟩:=hd.isSlice
 obtain ⟨nad,nc,rfl⟩:=hn.isSlice
 have hlg:=hg.len
 have hld:=hd.len
 have hln:=hn.len
 refine a0l (cs:=a2r s (.slice ad s.bases.length c)) rfl (.start w) fun b1 W hk hb1 hbb=>?_
 clear hb1 hbb
 by_cases e1:¬ ds.length = goal.length
 ·have e1':¬ (ds.length:Int) = goal.length:=by omega
  refine Xa (An2 hk.cells @e1') ?_
  have k:=k _ hk.below
  rw [show a0u s goal ds ns = false by rw [Bool.eq_false_iff]; intro h; exact e1 (a2o.1 h).1.1] at k
  exact k
 have e1:ds.length = goal.length:=by omega
 have e1':(ds.length:Int) = goal.length:=by omega
 by_cases e2:¬ ns.length = goal.length
 ·have e2':¬ (ns.length:Int) = goal.length:=by omega
  refine Xa (An3 hk.cells @e1' @e2') ?_
  have k:=k _ hk.below
  rw [show a0u s goal ds ns = false by rw [Bool.eq_false_iff]; intro h; exact e2 (a2o.1 h).1.2] at k
  exact k
 have e2:ns.length = goal.length:=by omega
 have e2':(ns.length:Int) = goal.length:=by omega
 have no:∀ (i:Nat) (c:Cls) (d:List Int) (n:L2),goal[i]? = some c → ds[i]? = some d → ns[i]? = some n → ¬ OkS s c d n → ∀ w',Bw w w' → K (.bool false) w':=fun i c d n a b e h w' hb=>by
  have:=k w' hb
  rwa [show a0u s goal ds ns = false by rw [Bool.eq_false_iff]; intro x; exact h ((a2o.1 x).2 i c d n a b e)] at this
 refine Xa (An3 hk.cells @e1' @e2') ?_
 refine ⟨g8x w (cellsOf [] b1 0 (a2r s (.slice ad s.bases.length c))) s goal ds ns,e0g goal.length,⟨hk,_,_,_,0,rfl,by omega,fun j c d n hj=>by omega⟩,?_⟩
 clear hk
 rintro _ _ w3 ⟨hk,u,v,z,i,rfl,hi,hall⟩
 by_cases hin:i = goal.length
 ·subst hin
  refine Xa0 ?_
  have k:=k _ hk.below
  rw [show a0u s goal ds ns = true from a2o.2 ⟨⟨e1,e2⟩,fun j c d n a b e=>hall j c d n (gS a).1 a b e⟩] at k
  exact k
 have eg:goal[i]? = some goal[i]:=gE (by omega)
 have ed:ds[i]? = some ds[i]:=gE (by omega)
 have en:ns[i]? = some ns[i]:=gE (by omega)
 obtain ⟨bd,od,rfl,hltd,csd,_,hcelld,vd,rfl,hrowd⟩:=hd'.at (i:=i) (by omega)
 obtain ⟨bn,on,rfl,hltn,csn,_,hcelln,vn,rfl,hrown⟩:=hn'.at (i:=i) (by omega)
 obtain ⟨bg,og,rfl,hbg,_,_,hgcell,gcv,rfl,_,hgc⟩:=hg'.at (i:=i) (by omega)
 have cd:=hcelld 0 _ rfl
 have cn:=hcelln 0 _ rfl
 simp only [Nat.add_zero,Nat.mul_one,Nat.zero_add] at cd cn
 have g1:=hgcell 1 _ rfl
 have hno:=no i _ _ _ eg ed en
 generalize goal[i] = cl at *
 generalize ds[i] = d at *
 generalize ns[i] = N at *
 have hrowd':=hrowd
 have hrown':=hrown
 have hgc':=hgc
 obtain ⟨dad2,dc2,rfl⟩:=hrowd.isSlice
 obtain ⟨nad2,nc2,rfl⟩:=hrown.isSlice
 obtain ⟨cad,cc,rfl⟩:=hgc.isSlice
 have hlcs:=hgc'.len
 have hlN:=hrown'.len
 have hiD:(i:Int) < ds.length:=by omega
 have hiN:(i:Int) < ns.length:=by omega
 have hiG:(i:Int) < goal.length:=by omega
 refine Xa (An3 hk.cells @hiG ((hk.below.cell hbg).trans g1)) ?_
 unfold c0u
 simp only [List.getD_cons_succ,List.getD_cons_zero]
 have hk9:=hk.drew
 refine ⟨Nx { w3 with drawn:=w3.drawn + 1 },bR,by trivial,?_⟩
 generalize ({ w3 with drawn:=w3.drawn + 1 }:World) = W9 at *
 refine Xf (fun W0 hW0=>An2 ((hk9.next hW0).cells) (((hk9.next hW0).below.cell hltd).trans cd)) @hiD ?_
 refine ⟨Nx,?_⟩
 apply a1i
 ·(intro w9 h9; repeat (intro v9 e9; try (obtain rfl:=e9)))
  refine Xa0 ?_
  exact a4x s cl.claims.length (hs'.next (hk9.next h9).below) (hrowd'.next (hk9.next h9).below) (fun w2 h2=>⟨h9.on h2,h2,rfl⟩)
 cases hx:a0g s d cl.claims.length with
 | false=>
  refine Xd (fun w9 h9=>(hk9.next h9).cells) ?_
  (intro w9 h9; repeat (intro v9 e9; try (obtain rfl:=e9)))
  refine Xa0 ?_
  exact hno (fun h=>by have:=h.1.1; rw [hx] at this; cases this) _ (hk9.next h9).below
 | true=>
 by_cases e3:¬ N.length = cl.claims.length
 ·have e3':¬ (N.length:Int) = cl.claims.length:=by omega
  refine Xh (fun w9 h9=>An2 ((hk9.next h9).cells) (((hk9.next h9).below.cell hltn).trans cn)) (An2 @hiN @e3') ?_
  (intro w9 h9; repeat (intro v9 e9; try (obtain rfl:=e9)))
  refine Xa @e3' ?_
  exact hno (fun h=>e3 h.1.2) _ (hk9.next h9).below
 have e3:N.length = cl.claims.length:=by omega
 have e3':(N.length:Int) = cl.claims.length:=by omega
 refine Xh (fun w9 h9=>An2 ((hk9.next h9).cells) (((hk9.next h9).below.cell hltn).trans cn)) (An2 @hiN @e3') ?_
 (intro w9 h9; repeat (intro v9 e9; try (obtain rfl:=e9)))
 have hk:=hk9.next h9
 refine Xa @e3' ?_
 refine ⟨g8y w (cellsOf [] b1 0 (a2r s (.slice ad s.bases.length c))) s cl N,b2m cl.claims.length,⟨hk,_,0,rfl,by omega,fun j c n hj=>by omega⟩,?_⟩
 clear hk h9
 rintro _ _ w5 ⟨hk,u5,q,rfl,hq,hall5⟩
 by_cases hqn:q = cl.claims.length
 ·subst hqn
  refine Xa hk.cells ?_
  refine ⟨⟨hk,_,_,_,i + 1,rfl,by omega,fun j c d' n' hj a b e=>?_⟩,?_⟩
  ·by_cases hji:j = i
   ·subst hji
    rw [eg] at a; rw [ed] at b; rw [en] at e
    cases a; cases b; cases e
    exact ⟨⟨hx,e3⟩,fun p x y e1 e2'=>hall5 p x y (gS e1).1 e1 e2'⟩
   ·exact hall j c d' n' (by omega) a b e
  ·simp only [b6o]; omega
 have equ:N[q]? = some (N[q]'(by omega)):=gE (by omega)
 have ecm:cl.claims[q]? = some (cl.claims[q]'(by omega)):=gE (by omega)
 obtain ⟨bu,ou,rfl,hltu,_,_,hcellu,vu,rfl,hvu⟩:=hrown'.at (i:=q) (by omega)
 obtain ⟨bcl,ocl,rfl,hbcl,_,_,hccell,ccv,rfl,hclm⟩:=hgc'.at (i:=q) (by omega)
 have p0:=hccell 0 _ rfl
 have q0:=hcellu 0 _ rfl
 generalize N[q] = y at *
 generalize cl.claims[q] = x at *
 simp only [Nat.add_zero,Nat.mul_one,Nat.zero_add] at p0 q0
 have hvu':=hvu
 obtain ⟨uad,uc,rfl⟩:=hvu.isSlice
 have hqN:(q:Int) < N.length:=by omega
 have hqc:(q:Int) < cl.claims.length:=by omega
 refine Xa (An2 hk.cells @hqc) ?_
 unfold c0t
 simp only [List.getD_cons_succ,List.getD_cons_zero]
 have hk9:=hk.drew
 refine ⟨Nx { w5 with drawn:=w5.drawn + 1 },bR,by trivial,?_⟩
 generalize ({ w5 with drawn:=w5.drawn + 1 }:World) = W8 at *
 refine Xf (fun W0 hW0=>An5 ((hk9.next hW0).cells) (((hk9.next hW0).below.cell hltn).trans cn) (((hk9.next hW0).below.cell hltu).trans q0) (((hk9.next hW0).below.cell hbg).trans g1) (((hk9.next hW0).below.cell hbcl).trans p0)) (An4 @hiN @hiG @hqN @hqc) ?_
 refine ⟨Nx,fun w9 h9=>?_⟩
 have hk:=hk9.next h9
 refine Xa0 ?_
 refine a4x s x.vars (hs'.next hk.below) (hvu'.next hk.below) (fun w10 h10=>?_)
 have hk:=hk.next h10
 cases hy:a0g s y x.vars with
 | false=>
  refine Xa0 ?_
  exact hno (fun h=>by have:=h.2 q x y ecm equ; rw [hy] at this; cases this) _ hk.below
 | true=>
  refine Xa0 ?_
  refine ⟨⟨hk,_,q + 1,rfl,by omega,fun j x' y' hj a b=>?_⟩,?_⟩
  ·by_cases hjq:j = q
   ·subst hjq
    rw [ecm] at a; rw [equ] at b
    cases a; cases b
    exact hy
   ·exact hall5 j x' y' (by omega) a b
  ·simp only [a1u]; omega
theorem e6s {a:Addr} {v:Value} (h:w.cell? a = some v):a.block < w.heap.size ∧ a.spot = none:=by
 unfold World.cell? at h
 split at h
 ·rename_i c t f hh
  refine ⟨(Array.getElem?_eq_some_iff.1 hh).1,?_⟩
  split at h
  ·cases h
  ·rename_i hs
   cases hsp:a.spot with
   | none=>rfl
   | some x=>rw [hsp] at hs; exact absurd rfl hs
 ·cases h
theorem b8o:∀ (L:List (Addr × Value)),a0n w L → ∀ p ∈ L,p.1.block < w.heap.size
 | [],_,p,hp=>by cases hp
 | (a,v) :: L,h,p,hp=>by
  rcases List.mem_cons.1 hp with rfl | hp
  ·exact (e6s h.1).1
  ·exact b8o L h.2 p hp
theorem e0h {s:Stp} {x:Clm} (hv:a1x s = true) (hc:a1q s x = true) (l:List Int):b3g s x l = b1g s x l:=by
 unfold b3g
 rw [hv,hc]
 rfl
def f7q (w0:World) (L:List (Addr × Value)) (g:Nat) (s:Stp) (cl:Cls) (ks:List Knw) (q:Nat) (left:Int) (w':World):Prop:=Kn w0 L w' ∧ 0 ≤ left ∧ left ≤ 1000 ∧ ∃ pre:List Bool,pre.length = q ∧ Holds w' g 4 ((pre ++ List.replicate (cl.claims.length - q) false).map Value.bool) ∧
 a0e s cl.need cl.claims ks = (pre ++ (a0e s left (cl.claims.drop q) (ks.drop q)).1,(a0e s left (cl.claims.drop q) (ks.drop q)).2)
def g8z (w0:World) (L:List (Addr × Value)) (g:Nat) (s:Stp) (cl:Cls) (ks:List Knw) (vs:List Value) (w':World):Prop:=∃ (left:Int) (q:Nat),vs = [.int .i64 left,.int .i64 (q:Int)] ∧ q ≤ cl.claims.length ∧ f7q w0 L g s cl ks q left w'
theorem e0i {s:Stp} {cl:Cls} {ks:List Knw} {q:Nat} {left:Int} {x:Clm} {u:Knw} (h:f7q w0 L g s cl ks q left w) (hx:cl.claims[q]? = some x) (hu:ks[q]? = some u) (hno:(decide (0 < left) && u.has && b1g s x u.values) = false) (hk:Kn w0 L w') (hb:Bw w w'):f7q w0 L g s cl ks (q + 1) left w':=by
 obtain ⟨_,h0,h1,pre,hp,hh,he⟩:=h
 obtain ⟨hxl,hxe⟩:=gS hx
 obtain ⟨hul,hue⟩:=gS hu
 refine ⟨hk,h0,h1,pre ++ [false],by simp [hp],?_,?_⟩
 ·have:pre ++ List.replicate (cl.claims.length - q) false = pre ++ [false] ++ List.replicate (cl.claims.length - (q + 1)) false:=by
   rw [show cl.claims.length - q = (cl.claims.length - (q + 1)) + 1 by omega,List.replicate_succ]; simp
  rw [← this]
  exact hh.next hb
 ·rw [List.drop_eq_getElem_cons hxl,List.drop_eq_getElem_cons hul,hxe,hue] at he
  simp only [a0e,hno,Bool.false_eq_true,if_false] at he
  rw [he]; simp
theorem f6i {s:Stp} {cl:Cls} {ks:List Knw} {q:Nat} {left:Int} {x:Clm} {u:Knw} (h:f7q w0 L g s cl ks q left w) (hx:cl.claims[q]? = some x) (hu:ks[q]? = some u) (hl:0 < left) (hyes:(decide (0 < left) && u.has && b1g s x u.values) = true) (hk:Kn w0 L w')
  {pre:List Bool} (hp:pre.length = q) (he:a0e s cl.need cl.claims ks = (pre ++ (a0e s left (cl.claims.drop q) (ks.drop q)).1,(a0e s left (cl.claims.drop q) (ks.drop q)).2)) (hh:Holds w' g 4 (((pre ++ List.replicate (cl.claims.length - q) false).map Value.bool).set q (.bool true))):f7q w0 L g s cl ks (q + 1) (left - 1) w':=by
 obtain ⟨_,h0,h1,_⟩:=h
 obtain ⟨hxl,hxe⟩:=gS hx
 obtain ⟨hul,hue⟩:=gS hu
 refine ⟨hk,by omega,by omega,pre ++ [true],by simp [hp],?_,?_⟩
 ·have:((pre ++ List.replicate (cl.claims.length - q) false).map Value.bool).set q (.bool true) = (pre ++ [true] ++ List.replicate (cl.claims.length - (q + 1)) false).map Value.bool:=by
   rw [show cl.claims.length - q = (cl.claims.length - (q + 1)) + 1 by omega,List.replicate_succ,List.map_append,List.set_append_right _ _ (by simp [hp])]
   simp [hp]
  rw [← this]
  exact hh
 ·rw [List.drop_eq_getElem_cons hxl,List.drop_eq_getElem_cons hul,hxe,hue] at he
  simp only [a0e,hyes,if_true] at he
  rw [he]; simp
set_option maxHeartbeats 2000000 in
theorem b0r (s:Stp) (cl:Cls) (ks:List Knw) {sv cv kv:Value} (hs:SetR w s sv) (hc:SRow 2 (c4b 2 f8r) w cv cl.claims) (hk0:d1z w kv ks) (hlen:ks.length = cl.claims.length) (hv:a1x s = true) (hcm:∀ x ∈ cl.claims,a1q s x = true) (hmax:cl.claims.length ≤ 16) (hneed:0 ≤ cl.need ∧ cl.need ≤ 1000)
  (k:∀ w' g,Bw w w' → w.heap.size ≤ g → Holds w' g 4 ((a0e s cl.need cl.claims ks).1.map Value.bool) → K (.tuple #[.slice (some ⟨g,0,none⟩) cl.claims.length cl.claims.length,.bool (decide ((a0e s cl.need cl.claims ks).2 = 0))]) w') :
  a0a Tryz.prog 101 #[a6b s sv,g4f cl cv,kv] K w:=by
 apply d7p
 unfold f1w
 have hs':=hs
 have hc':=hc
 have hk0':=hk0
 obtain ⟨ad,c,rfl⟩:=hs.ints.isSlice
 obtain ⟨cad,cc,rfl⟩:=hc.isSlice
 obtain ⟨kad,kc,rfl⟩:=hk0.isSlice
 refine a0l (cs:=a2r s (.slice ad s.bases.length c)) rfl (.start w) fun b1 W hk hb1 hbb1=>?_
 refine a0l (cs:=e9h cl (.slice cad cl.claims.length cc)) rfl hk fun b2 W hk hb2 hbb2=>?_
 refine Xa hk.cells ?_
 refine b9z (by omega) (fun g W2 h2 hg2 hh2=>?_)
 have hgw:w.heap.size ≤ g:=by have:=hk.below.size; omega
 have hoff:∀ p ∈ cellsOf (cellsOf [] b1 0 (a2r s (.slice ad s.bases.length c))) b2 0 (e9h cl (.slice cad cl.claims.length cc)),p.1.block ≠ g:=by
  intro p hp
  have:=b8o _ hk.cells p hp
  omega
 have hk:=hk.next h2
 refine Xa hk.cells ?_
 refine ⟨g8z w (cellsOf (cellsOf [] b1 0 (a2r s (.slice ad s.bases.length c))) b2 0 (e9h cl (.slice cad cl.claims.length cc))) g s cl ks,b2m cl.claims.length,⟨cl.need,0,rfl,by omega,hk,hneed.1,hneed.2,[],rfl,by simpa using hh2,by simp⟩,?_⟩
 clear hk hh2
 rintro _ _ w3 ⟨left,q,rfl,hq,hS⟩
 have hS':=hS
 obtain ⟨hk,hl0,hl1,pre,hp,hh,he⟩:=hS'
 unfold c0v
 by_cases hqn:q = cl.claims.length
 ·subst hqn
  rw [List.drop_of_length_le (rL),List.drop_of_length_le (by omega)] at he
  simp only [Nat.sub_self,List.replicate_zero,List.append_nil] at hh
  have h1:(a0e s cl.need cl.claims ks).1 = pre:=by rw [he]; simp [a0e]
  have h2:(a0e s cl.need cl.claims ks).2 = left:=by rw [he]; simp [a0e]
  have k:=k w3 g hk.below hgw (by rw [h1]; exact hh)
  rw [h2] at k
  generalize hqq:decide (left = 0) = qq at *
  refine Xa hk.cells ?_
  rw [hqq]
  exact k
 have equ:ks[q]? = some (ks[q]'(by omega)):=gE (by omega)
 have ecm:cl.claims[q]? = some (cl.claims[q]'(by omega)):=gE (by omega)
 obtain ⟨bu,ou,rfl,hltu,_,_,hcellu,vu,rfl,hvu⟩:=hk0'.at (i:=q) (by omega)
 obtain ⟨bcl,ocl,rfl,hbcl,_,_,hccell,ccv,rfl,hclm⟩:=hc'.at (i:=q) (by omega)
 have hcx:=hcm _ (List.getElem_mem (show q < cl.claims.length by omega))
 have p0:=hccell 0 _ rfl
 have p1:=hccell 1 _ rfl
 have q0:=hcellu 0 _ rfl
 have q1:=hcellu 1 _ rfl
 generalize ks[q] = y at *
 generalize cl.claims[q] = x at *
 simp only [Nat.add_zero] at p0 q0
 have hvu':=hvu
 obtain ⟨uad,uc,rfl⟩:=hvu.isSlice
 have hclm':=hclm
 obtain ⟨ead,ec,rfl⟩:=hclm.eqs.isSlice
 have hqk:(q:Int) < ks.length:=by omega
 have hqc:(q:Int) < cl.claims.length:=by omega
 refine Xa (An2 hk.cells @hqc) ?_
 refine ⟨fun l w6=>∃ left',l = [.int .i64 left'] ∧ f7q w (cellsOf (cellsOf [] b1 0 (a2r s (.slice ad s.bases.length c))) b2 0 (e9h cl (.slice (some ⟨bcl,ocl,none⟩) cl.claims.length cc))) g s cl ks (q + 1) left' w6,?_,?_⟩
 rotate_left
 ·rintro _ _ w6 ⟨left',rfl,hS6⟩
  refine Xa0 ?_
  refine ⟨⟨left',q + 1,rfl,by omega,hS6⟩,?_⟩
  simp only [a1u]; omega
 unfold b7l
 simp only [List.getD_cons_succ,List.getD_cons_zero]
 have hk9:=hk.drew
 have hodr:Below w3.heap.size w3 { w3 with drawn:=w3.drawn + 1 }:=.drawn
 refine ⟨Nx { w3 with drawn:=w3.drawn + 1 },bR,by trivial,?_⟩
 generalize ({ w3 with drawn:=w3.drawn + 1 }:World) = W9 at *
 by_cases hl:0 < left
 case neg=>
  refine Xf (fun W0 hW0=>(hk9.next hW0).cells) @hl ?_
  refine ⟨Nx,fun w9 h9=>?_⟩
  refine Xa0 ?_
  exact ⟨left,rfl,e0i hS ecm equ (by rw [decide_eq_false hl]; rfl) (hk9.next h9) (hodr.on h9)⟩
 cases hhas:y.has with
 | false=>
  rw [hhas] at q0
  refine Xf (fun W0 hW0=>An2 ((hk9.next hW0).cells) (((hk9.next hW0).below.cell hltu).trans q0)) (An2 @hqk @hl) ?_
  refine ⟨Nx,fun w9 h9=>?_⟩
  refine Xa0 ?_
  exact ⟨left,rfl,e0i hS ecm equ (by rw [hhas]; simp) (hk9.next h9) (hodr.on h9)⟩
 | true=>
  rw [hhas] at q0
  refine Xf (fun W0 hW0=>An5 ((hk9.next hW0).cells) (((hk9.next hW0).below.cell hltu).trans q0) (((hk9.next hW0).below.cell hltu).trans q1) (((hk9.next hW0).below.cell hbcl).trans p0) (((hk9.next hW0).below.cell hbcl).trans p1)) (An3 @hqk @hqc @hl) ?_
  refine ⟨Nx,fun w9 h9=>?_⟩
  refine Xa0 ?_
  refine e0f s x y.values (hs'.next (hk9.next h9).below) (hclm'.next (hk9.next h9).below) (hvu'.next (hk9.next h9).below) (fun w10 h10=>?_)
  have hk:=(hk9.next h9).next h10
  have hb10:=(hodr.on h9).on h10
  rw [e0h hv hcx]
  cases hH:b1g s x y.values with
  | false=>
   refine Xa0 ?_
   exact ⟨left,rfl,e0i hS ecm equ (by rw [hH]; simp) hk hb10⟩
  | true=>
   refine Xa @hqc ?_
   refine a3q (i:=q) e4a rfl rfl (hh.next hb10) (by simp [hp]; omega) (fun w11 hg11 hh11=>?_)
   have hwa:IntKind.i64.wrap (left - 1) = left - 1:=a0o _ (by omega) (by omega)
   refine Xa0 ?_
   refine ⟨left - 1,rfl,f6i hS ecm equ hl (by rw [decide_eq_true hl,hhas,hH]; rfl) ?_ hp he hh11⟩
   exact hk.wrote hg11 hgw hoff
end
end Go.Proofs
namespace PrSpec
open FdSpec TkSpec CodeSpec Go.Proofs
theorem b1w {s:Stp}:∀ {goal:List Cls} {know:List (List Knw)} {i:Nat} {c:Cls} {ks:List Knw},goal[i]? = some c → know[i]? = some ks → (a0h s goal know).1[i]? = some (a0e s c.need c.claims ks).1
 | [],_,_,_,_,h,_=>by simp at h
 | _ :: _,[],_,_,_,_,h=>by simp at h
 | c :: cs,k :: kss,0,c',k',h1,h2=>by simp at h1 h2; subst h1 h2; simp [a0h]
 | c :: cs,k :: kss,i + 1,c',k',h1,h2=>by
  have:=b1w (s:=s) (goal:=cs) (know:=kss) (i:=i) (c:=c') (ks:=k') (by simpa using h1) (by simpa using h2)
  simpa [a0h] using this
theorem b5o {s:Stp}:∀ {goal:List Cls} {know:List (List Knw)},know.length = goal.length → (a0h s goal know).1.length = goal.length
 | [],[],_=>rfl
 | [],_ :: _,h=>by simp at h
 | _ :: _,[],h=>by simp at h
 | c :: cs,k :: ks,h=>by
  have:=b5o (s:=s) (goal:=cs) (know:=ks) (by simpa using h)
  simp [a0h,this]
theorem d9d {s:Stp} {goal:List Cls} {know:List (List Knw)} {ds:List (List Int)} (hl:know.length = goal.length):a9g (a0h s goal know).1 ds = true ↔ ∀ (i:Nat) (c:Cls) (ks:List Knw) (d:List Int),goal[i]? = some c → know[i]? = some ks → ds[i]? = some d → b2a (a0e s c.need c.claims ks).1 d = true:=by
 constructor
 ·intro h i c ks d a b e
  exact c3i h (b1w a b) e
 ·intro h
  refine c3j (fun i b d h1 h2=>?_)
  have hi:=(List.getElem?_eq_some_iff.1 h1).1
  rw [b5o hl] at hi
  have a:goal[i]? = some goal[i]:=List.getElem?_eq_getElem hi
  have b':know[i]? = some (know[i]'(by omega)):=List.getElem?_eq_getElem (by omega)
  have:=b1w (s:=s) a b'
  rw [h1] at this
  cases this
  exact h i _ _ d a b' h2
theorem c6f {b:List Bool} {d:List Int}:b2a b d = true ↔ ∀ (k:Nat) (x:Bool) (y:Int),b[k]? = some x → d[k]? = some y → x = true → y = 0:=
 ⟨fun h k x y a e hx=>c3g h a e hx,c3h⟩
theorem b5p (s:Stp):∀ (cs:List Clm) (ks:List Knw) (need:Int),ks.length = cs.length → (a0e s need cs ks).1.length = cs.length
 | [],_,_,_=>by simp [a0e]
 | _ :: _,[],_,h=>by simp at h
 | c :: cs,k :: ks,need,h=>by
  have h':ks.length = cs.length:=by simpa using h
  unfold a0e
  split <;> simp [b5p s cs ks _ h']
end PrSpec
namespace Go.Proofs
open Go Go.Sh Tryz
end Go.Proofs
namespace Go.Proofs
open Go Go.Sh Go.RowKit FdSpec TkSpec CodeSpec PrSpec FdPoly GrLaw
section
variable {K:VK} {w w' w0 W W' We W1 W2:World} {L:List (Addr × Value)} {g n B b i:Nat} {row:Option Nat}
def RmJ (w0:World) (L:List (Addr × Value)) (s:Stp) (goal:List Cls) (know:List (List Knw)) (ds:L2) (vs:List Value) (w':World):Prop:=Kn w0 L w' ∧ ∃ (u1 u2 u3 u4:Value) (i:Nat),vs = [u1,u2,u3,u4,.int .i64 (i:Int)] ∧ i ≤ goal.length ∧ ∀ (j:Nat) (c:Cls) (ks:List Knw) (d:List Int),j < i → goal[j]? = some c → know[j]? = some ks → ds[j]? = some d → b2a (a0e s c.need c.claims ks).1 d = true
def RmI (w0:World) (bs:List Bool) (d:List Int) (vs:List Value) (w':World):Prop:=Bw w0 w' ∧ ∃ (u:Value) (k:Nat),vs = [u,.int .i64 (k:Int)] ∧ k ≤ bs.length ∧ ∀ (j:Nat) (x:Bool) (y:Int),j < k → bs[j]? = some x → d[j]? = some y → x = true → y = 0
def g1d (n:Nat) (l:List Value) (_:World):Nat:=match l with | [_,_,_,_,.int _ i]=>n - i.toNat | _=>0
theorem e6t (n:Nat) (u v x y:Value) (k:IntKind) (i:Int) (w:World):g1d n [u,v,x,y,.int k i] w = n - i.toNat:=rfl
set_option maxHeartbeats 4000000 in
theorem c8m (s:Stp) {sv gv kv dv:Value} {goal:List Cls} {know:List (List Knw)} {ds:L2} (hs:SetR w s sv) (hg:a4f w gv goal) (hk0:a5v w kv know) (hd:a0s w dv ds)
  (hgm:a1p s goal = true) (hft:a3a s goal know = true) (hdl:ds.length = goal.length) (hdc:∀ (i:Nat) (c:Cls) (d:List Int),goal[i]? = some c → ds[i]? = some d → d.length = c.claims.length)
  (k:∀ w',Bw w w' → K (.bool (a9g (a0h s goal know).1 ds)) w'):a0a Tryz.prog 35 #[a6b s sv,gv,kv,dv] K w:=by
 apply e5k
 unfold g0g
 have hs':=hs
 have hg':=hg
 have hk0':=hk0
 have hd':=hd
 obtain ⟨ad,c,rfl⟩:=hs.ints.isSlice
 obtain ⟨gad,gc,rfl⟩:=hg.isSlice
 obtain ⟨kad,kc,rfl⟩:=hk0.isSlice
 obtain ⟨dad,dc,rfl⟩:=hd.isSlice
 have hlg:=hg.len
 obtain ⟨hkl,hfx⟩:=a6q.1 hft
 unfold a1p at hgm
 simp only [bA,dE] at hgm
 obtain ⟨⟨⟨⟨hv,_⟩,_⟩,hfine⟩,hcl⟩:=hgm
 have hiff:=d9d (s:=s) (goal:=goal) (know:=know) (ds:=ds) hkl
 refine a0l (cs:=a2r s (.slice ad s.bases.length c)) rfl (.start w) fun b1 W hk hb1 hbb=>?_
 clear hb1 hbb
 have no:∀ (i:Nat) (c:Cls) (ks:List Knw) (d:List Int),goal[i]? = some c → know[i]? = some ks → ds[i]? = some d → ¬ b2a (a0e s c.need c.claims ks).1 d = true → ∀ w',Bw w w' → K (.bool false) w':=fun i c ks d a b e h w' hb=>by
  have:=k w' hb
  rwa [show a9g (a0h s goal know).1 ds = false by rw [Bool.eq_false_iff]; intro x; exact h (hiff.1 x i c ks d a b e)] at this
 refine ⟨RmJ w (cellsOf [] b1 0 (a2r s (.slice ad s.bases.length c))) s goal know ds,g1d goal.length,⟨hk,_,_,_,_,0,rfl,by omega,fun j c ks d hj=>by omega⟩,?_⟩
 clear hk
 rintro _ _ w3 ⟨hk,u1,u2,u3,u4,i,rfl,hi,hall⟩
 by_cases hin:i = goal.length
 ·subst hin
  refine Xa0 ?_
  have k:=k _ hk.below
  rw [show a9g (a0h s goal know).1 ds = true from hiff.2 (fun j c ks d a b e=>hall j c ks d (gS a).1 a b e)] at k
  exact k
 have eg:goal[i]? = some goal[i]:=gE (by omega)
 have ek:know[i]? = some know[i]:=gE (by omega)
 have ed:ds[i]? = some ds[i]:=gE (by omega)
 obtain ⟨bk,ok,rfl,hltk,csk,_,hcellk,vk,rfl,hrowk⟩:=hk0'.at (i:=i) (by omega)
 obtain ⟨bd,od,rfl,hltd,csd,_,hcelld,vd,rfl,hrowd⟩:=hd'.at (i:=i) (by omega)
 obtain ⟨bg,og,rfl,hbg,_,_,hgcell,gcv,rfl,_,hgc⟩:=hg'.at (i:=i) (by omega)
 have ck:=hcellk 0 _ rfl
 have cd:=hcelld 0 _ rfl
 simp only [Nat.add_zero,Nat.mul_one,Nat.zero_add] at ck cd
 have g0:=hgcell 0 _ rfl
 have g1:=hgcell 1 _ rfl
 simp only [Nat.add_zero] at g0
 have hno:=no i _ _ _ eg ek ed
 have hfi:=List.all_eq_true.1 hfine _ (List.getElem_mem (show i < goal.length by omega))
 have hci:=List.all_eq_true.1 hcl _ (List.getElem_mem (show i < goal.length by omega))
 have hok:=hfx i _ _ eg ek
 have hdci:=hdc i _ _ eg ed
 generalize goal[i] = cl at *
 generalize know[i] = ks at *
 generalize ds[i] = d at *
 have hlks:ks.length = cl.claims.length:=hok.1
 simp only [a0z,bA,dE] at hfi
 have hbl:(a0e s cl.need cl.claims ks).1.length = cl.claims.length:=b5p s _ _ _ hlks
 have hrowk':=hrowk
 have hrowd':=hrowd
 have hgc':=hgc
 obtain ⟨kad2,kc2,rfl⟩:=hrowk.isSlice
 obtain ⟨dad2,dc2,rfl⟩:=hrowd.isSlice
 obtain ⟨cad,cc,rfl⟩:=hgc.isSlice
 have hiK:(i:Int) < know.length:=by omega
 have hiD:(i:Int) < ds.length:=by omega
 have hiG:(i:Int) < goal.length:=by omega
 refine Xa (An2 hk.cells @hiG) ?_
 unfold c5w
 simp only [List.getD_cons_succ,List.getD_cons_zero]
 have hk9:=hk.drew
 refine ⟨Nx { w3 with drawn:=w3.drawn + 1 },bR,by trivial,?_⟩
 generalize ({ w3 with drawn:=w3.drawn + 1 }:World) = W9 at *
 refine Xf (fun W0 hW0=>An4 ((hk9.next hW0).cells) (((hk9.next hW0).below.cell hltk).trans ck) (((hk9.next hW0).below.cell hbg).trans g0) (((hk9.next hW0).below.cell hbg).trans g1)) (An2 @hiK @hiG) ?_
 refine ⟨Nx,?_⟩
 have hmono:∀ (f:Nat → Value) (v:Value) (w w1:World),Nx w w1 → (∃ g,v = f g ∧ Holds w g 4 ((a0e s cl.need cl.claims ks).1.map Value.bool)) → ∃ g,v = f g ∧ Holds w1 g 4 ((a0e s cl.need cl.claims ks).1.map Value.bool):=fun f v w w1 hS h=>h.imp fun g h=>⟨h.1,h.2.next hS⟩
 refine a3i (fun v w'=>∃ g,v = .tuple #[.slice (some ⟨g,0,none⟩) cl.claims.length cl.claims.length,.bool (decide ((a0e s cl.need cl.claims ks).2 = 0))] ∧ Holds w' g 4 ((a0e s cl.need cl.claims ks).1.map Value.bool)) (hmono _) ?_ ?_
 ·intro w1 h1
  exact b0r s cl ks (hs'.next (hk9.next h1).below) (hgc'.next (a0b a7x) (hk9.next h1).below) (hrowk'.next (a0b a6p) (hk9.next h1).below) hlks hv (fun x hx=>List.all_eq_true.1 hci x hx) (by omega) (by omega) (fun w2 g h2 hg2 hh2=>⟨h1.on h2,h2,g,rfl,hh2⟩)
 refine a3i (fun v w'=>∃ g,v = .tuple #[.slice (some ⟨g,0,none⟩) cl.claims.length cl.claims.length,.bool (decide ((a0e s cl.need cl.claims ks).2 = 0))] ∧ Holds w' g 4 ((a0e s cl.need cl.claims ks).1.map Value.bool)) (hmono _) ?_ ?_
 ·intro w1 h1 v hv1
  exact ⟨h1,bR,hv1⟩
 refine a3i (fun v w'=>∃ g,v = .slice (some ⟨g,0,none⟩) cl.claims.length cl.claims.length ∧ Holds w' g 4 ((a0e s cl.need cl.claims ks).1.map Value.bool)) (hmono _) ?_ ?_
 ·rintro w1 h1 v ⟨g,rfl,hh⟩
  refine Xa0 ?_
  exact ⟨h1,bR,g,rfl,hh⟩
 refine a3i (fun v w'=>True) (fun _ _ _ _ _=>trivial) ?_ ?_
 ·rintro w1 h1 v ⟨g,rfl,hh⟩
  refine Xa0 ?_
  exact ⟨h1,bR,trivial⟩
 refine a3i (fun v w'=>∃ g,v = .slice (some ⟨g,0,none⟩) cl.claims.length cl.claims.length ∧ Holds w' g 4 ((a0e s cl.need cl.claims ks).1.map Value.bool)) (hmono _) ?_ ?_
 ·intro w1 h1 v hv1
  exact ⟨h1,bR,hv1⟩
 rintro w9 h9 _ _ _ _ _ _ v31 _ v10 ⟨g,rfl,hh⟩
 have hk:=hk9.next h9
 have hhb:=b6e hh (by rw [hbl]; omega)
 rw [hbl] at hhb
 generalize hbs:(a0e s cl.need cl.claims ks).1 = bs at *
 refine ⟨RmI w9 bs d,b2m bs.length,⟨bR,_,0,rfl,by omega,fun j x y hj=>by omega⟩,?_⟩
 rintro _ _ w5 ⟨hb5,u5,q,rfl,hq,hall5⟩
 have hk5:=hk.next hb5
 unfold c0w
 have hqb:(cl.claims.length:Int) = bs.length:=by omega
 by_cases hqn:q = bs.length
 ·have hqc:¬ (q:Int) < cl.claims.length:=by omega
  refine Xa @hqc ?_
  refine ⟨⟨hk5,_,_,_,_,i + 1,rfl,by omega,fun j c' ks' d' hj a b e=>?_⟩,?_⟩
  ·by_cases hji:j = i
   ·subst hji
    rw [eg] at a; rw [ek] at b; rw [ed] at e
    cases a; cases b; cases e
    rw [hbs]
    exact c6f.2 (fun p x y e1 e2 hx=>hall5 p x y (by have:=(gS e1).1; omega) e1 e2 hx)
   ·exact hall j c' ks' d' (by omega) a b e
  ·simp only [e6t]; omega
 have eqb:bs[q]? = some (bs[q]'(by omega)):=gE (by omega)
 have eqd:d[q]? = some (d[q]'(by omega)):=gE (by omega)
 obtain ⟨b6,o6,e6,hb6,c6,_,hc6,v6,rfl,hx6⟩:=hhb.at (i:=q) (by omega)
 cases e6
 obtain ⟨b8,o8,e8,hb8,ca,ra,_⟩:=hrowd'.at (i:=q) (by omega)
 cases e8
 have c60:=hc6 0 _ rfl
 unfold b7j at hx6
 subst hx6
 generalize bs[q] = x at *
 generalize d[q] = y at *
 simp only [Nat.add_zero,Nat.mul_one,Nat.zero_add] at c60
 have hqc:(q:Int) < cl.claims.length:=by omega
 have hqd:(q:Int) < d.length:=by omega
 have hstep:(x = true → y = 0) → RmJ w (cellsOf [] b1 0 (a2r s (.slice ad s.bases.length c))) s goal know ds = RmJ w (cellsOf [] b1 0 (a2r s (.slice ad s.bases.length c))) s goal know ds → RmI w9 bs d [u5,.int .i64 ((q:Int) + 1)] w5 ∧ b2m bs.length [u5,.int .i64 ((q:Int) + 1)] w5 < b2m bs.length [u5,.int .i64 (q:Int)] w5:=fun hz _=>by
  refine ⟨⟨hb5,_,q + 1,rfl,by omega,fun j x' y' hj a b hx=>?_⟩,?_⟩
  ·by_cases hjq:j = q
   ·subst hjq
    rw [eqb] at a; rw [eqd] at b
    cases a; cases b
    exact hz hx
   ·exact hall5 j x' y' (by omega) a b hx
  ·simp only [a1u]; omega
 cases x with
 | false=>
  refine Xa (An2 @hqc ((hb5.cell hb6).trans c60)) ?_
  exact hstep (fun h=>by cases h) rfl
 | true=>
  by_cases hy:y = 0
  ·refine Xa (An7 @hqc ((hb5.cell hb6).trans c60) ((hk5.below.cell hltd).trans cd) (ca _ hk5.below) @hiD @hqd @hy) ?_
   exact hstep (fun _=>hy) rfl
  ·refine Xa (An7 @hqc ((hb5.cell hb6).trans c60) ((hk5.below.cell hltd).trans cd) (ca _ hk5.below) @hiD @hqd @hy) ?_
   exact hno (fun h=>hy (c6f.1 h q true y eqb eqd rfl)) _ hk5.below
end
end Go.Proofs
namespace Go.Proofs
open Go Go.Sh Tryz
variable {a0 a1 a2 a3 a4:Value} {K:VK} {w:World}
def c0y (J_47:List Value → World → Prop) (K:VK) (a1:Value) (l_15 l_49:List Value) (m_48:List Value → World → Nat) (v2:Value) (w0_l_49 w:World):Prop:=
 kH (fun C_51 w=>(((true:Bool) = true) ∧ (jL 26 v2 C_51 fun v68=>
 a0c a1 C_51 fun v69=>
 a0c (l_15.getD 3 undef) C_51 fun v70=>
 jI 27 v69 v70 C_51 fun v71=>
 jF 65 1 v71 C_51 fun v72=>
 jL 63 v72 C_51 fun v73=>
 a0c (l_49.getD 1 undef) C_51 fun v74=>
 jI 63 v73 v74 C_51 fun v75=>
 jL 69 v75 C_51 fun v76=>
 ∃ S_61:World → WK,∀ w,C_51 w → (
 a0a prog 113 #[v68,v76] (fun v77=>
 kU v77 fun v78=>
 kO v78 (K (.bool false))
 (kB .add 3 3 (l_49.getD 1 undef) (.int .i64 1) fun v67=>
 kJ J_47 m_48 l_49 w0_l_49 [(l_49.getD 0 undef),v67])) w)))) w
def c0z (J_13:List Value → World → Prop) (K:VK) (a1:Value) (l_15:List Value) (m_14:List Value → World → Nat) (v2:Value) (w0_l_15:World):Prop:=
 (fun w=>(
 kN 27 a1 (fun v23=>
 kB .lss 3 4 (l_15.getD 3 undef) v23 fun v24=>
 kO v24 (kI 27 a1 (l_15.getD 3 undef) fun v29=>
 kF 65 1 v29 fun v30=>
 kL 63 v30 fun v31=>
 kN 63 v31 fun v32=>
 kB .lss 3 4 v32 (.int .i64 1) fun v34 w=>
 gF v34 (a0j v32) (fun v36 w=>
 gF v34 (kB .gtr 3 4 v36 (.int .i64 16)) (fun v37=>
 kP v34 (.bool true) v37 fun v38 w=>
 gF v38 (a0j v32) (fun v40 w=>
 gF v38 (kF 26 0 v2) (fun v41 w=>
 gF v38 (kF 23 1 v41) (fun v42 w=>
 gF v38 (kL 3 v42) (fun v43 w=>
 gF v38 (kB .geq 3 4 v40 v43) (fun v44=>
 kP v38 (.bool true) v44 fun v45 w=>
 gF v45 (a0j a1) (fun v47 w=>
 gF v45 (a0j (l_15.getD 3 undef)) (fun v48 w=>
 gF v45 (kI 27 v47 v48) (fun v49 w=>
 gF v45 (kF 65 0 v49) (fun v50 w=>
 gF v45 (kL 3 v50) (fun v51 w=>
 gF v45 (kB .lss 3 4 v51 (.int .i64 1)) (fun v52=>
 kP v45 (.bool true) v52 fun v53 w=>
 gF v53 (a0j a1) (fun v55 w=>
 gF v53 (a0j (l_15.getD 3 undef)) (fun v56 w=>
 gF v53 (kI 27 v55 v56) (fun v57 w=>
 gF v53 (kF 65 0 v57) (fun v58 w=>
 gF v53 (kL 3 v58) (fun v59 w=>
 gF v53 (a0j v32) (fun v60 w=>
 gF v53 (kB .gtr 3 4 v59 v60) (fun v61=>
 kP v53 (.bool true) v61 fun v62=>
 kO v62 (K (.bool false))
 (kQ [(l_15.getD 1 undef),(.int .i64 0)] fun J_47 m_48 l_49 u_l_49 w0_l_49=>(fun w=>(
 kB .lss 3 4 (l_49.getD 1 undef) v32 (fun v65 w=>
 a0v v65
 (c0y J_47 K a1 l_15 l_49 m_48 v2 w0_l_49 w)
 (kB .add 3 3 (l_15.getD 3 undef) (.int .i64 1) (fun v26=>
 kJ J_13 m_14 l_15 w0_l_15 [v32,(l_49.getD 0 undef),(l_49.getD 1 undef),v26]) w)) w)) w0_l_49)) w) w) w) w) w) w) w) w) w) w) w) w) w) w) w) w) w) w) w) w)
 (K (.bool true))) w)) w0_l_15
def g0i (a0 a1:Value) (K:VK) (w:World):Prop:=
 oM prog (.box 26 (.tmp 0)) 0 [a0] (fun v2=>
 kL 26 v2 fun v8=>
 a0a prog 22 #[v8] fun v9=>
 kU v9 fun v10 w=>
 gF v10 (a0j a1) (fun v12 w=>
 gF v10 (kN 27 v12) (fun v13 w=>
 gF v10 (kB .lss 3 4 v13 (.int .i64 1)) (fun v14=>
 kP v10 (.bool true) v14 fun v15 w=>
 gF v15 (a0j a1) (fun v17 w=>
 gF v15 (kN 27 v17) (fun v18 w=>
 gF v15 (kB .gtr 3 4 v18 (.int .i64 300)) (fun v19=>
 kP v15 (.bool true) v19 fun v20=>
 kO v20 (K (.bool false))
 (kQ [undef,(.bool false),undef,(.int .i64 0)] fun J_13 m_14 l_15 u_l_15 w0_l_15=>c0z J_13 K a1 l_15 m_14 v2 w0_l_15)) w) w) w) w) w) w) w
theorem e5m (h:g0i a0 a1 K w):a0a prog 24 #[a0,a1] K w:=
 cZ (fun _=>(fz 9 0 2)) func24 h
def c1a (J_72:List Value → World → Prop) (l_48 l_74:List Value) (m_73:List Value → World → Nat) (v6:Value) (w0_l_74 w:World):Prop:=
 kH (fun C_82 w=>(((true:Bool) = true) ∧ (a0c (l_74.getD 0 undef) C_82 fun v92=>
 jF 69 1 v6 C_82 fun v93=>
 jL 67 v93 C_82 fun v94=>
 a0c (l_48.getD 2 undef) C_82 fun v95=>
 jI 67 v94 v95 C_82 fun v96=>
 jF 144 1 v96 C_82 fun v97=>
 jL 142 v97 C_82 fun v98=>
 a0c (l_74.getD 1 undef) C_82 fun v99=>
 jI 142 v98 v99 C_82 fun v100=>
 jF 146 0 v100 C_82 fun v101=>
 jL 3 v101 C_82 fun v102=>
 jF 69 1 v6 C_82 fun v103=>
 jL 67 v103 C_82 fun v104=>
 a0c (l_48.getD 2 undef) C_82 fun v105=>
 jI 67 v104 v105 C_82 fun v106=>
 jF 144 1 v106 C_82 fun v107=>
 jL 142 v107 C_82 fun v108=>
 a0c (l_74.getD 1 undef) C_82 fun v109=>
 jI 142 v108 v109 C_82 fun v110=>
 jF 146 1 v110 C_82 fun v111=>
 jL 3 v111 C_82 fun v112=>
 ∃ S_104:World → WK,xR S_104 fun R_105=>
 (∀ w,C_82 w → (oM prog (.buildSlice 24 2 #[(0,(.tmp 0)),(1,(.tmp 1))]) 24 [v102,v112] (xK C_82 S_104 R_105 w) w)) ∧
 (∀ w,C_82 w → ∀ v113,R_105 v113 w → (
 oM prog (.call (Go.Call.mk (.builtin .append) #[(.tmp 0),(.tmp 1)] #[24,24])) 24 [v92,v113] (fun v114=>
 kB .add 3 3 (l_74.getD 1 undef) (.int .i64 1) fun v91=>
 kJ J_72 m_73 l_74 w0_l_74 [v114,v91]) w))))) w
def c1b (J_46 J_72:List Value → World → Prop) (l_48 l_74:List Value) (m_47 m_73:List Value → World → Nat) (v6:Value) (w0_l_48 w0_l_74:World):Prop:=
 (fun w=>(
 kF 69 1 v6 (fun v82=>
 kL 67 v82 fun v83=>
 kI 67 v83 (l_48.getD 2 undef) fun v85=>
 kF 144 1 v85 fun v86=>
 kL 142 v86 fun v87=>
 kN 142 v87 fun v88=>
 kB .lss 3 4 (l_74.getD 1 undef) v88 fun v89 w=>
 a0v v89
 (c1a J_72 l_48 l_74 m_73 v6 w0_l_74 w)
 (kB .add 3 3 (l_48.getD 2 undef) (.int .i64 1) (fun v64=>
 kJ J_46 m_47 l_48 w0_l_48 [(l_74.getD 0 undef),(l_74.getD 1 undef),v64]) w)) w)) w0_l_74
def c1c (J_46:List Value → World → Prop) (l_48:List Value) (m_47:List Value → World → Nat) (v6:Value) (w0_l_48 w:World):Prop:=
 kH (fun C_53 w=>(((true:Bool) = true) ∧ (a0c (l_48.getD 0 undef) C_53 fun v65=>
 jF 69 1 v6 C_53 fun v66=>
 jL 67 v66 C_53 fun v67=>
 a0c (l_48.getD 2 undef) C_53 fun v68=>
 jI 67 v67 v68 C_53 fun v69=>
 jF 144 0 v69 C_53 fun v70=>
 jL 3 v70 C_53 fun v71=>
 jF 69 1 v6 C_53 fun v72=>
 jL 67 v72 C_53 fun v73=>
 a0c (l_48.getD 2 undef) C_53 fun v74=>
 jI 67 v73 v74 C_53 fun v75=>
 jF 144 1 v75 C_53 fun v76=>
 jL 142 v76 C_53 fun v77=>
 jN 142 v77 C_53 fun v78=>
 ∃ S_68:World → WK,xR S_68 fun R_69=>
 (∀ w,C_53 w → (oM prog (.buildSlice 24 2 #[(0,(.tmp 0)),(1,(.tmp 1))]) 24 [v71,v78] (xK C_53 S_68 R_69 w) w)) ∧
 (∀ w,C_53 w → ∀ v79,R_69 v79 w → (
 oM prog (.call (Go.Call.mk (.builtin .append) #[(.tmp 0),(.tmp 1)] #[24,24])) 24 [v65,v79] (fun v80=>
 kQ [v80,(.int .i64 0)] fun J_72 m_73 l_74 u_l_74 w0_l_74=>c1b J_46 J_72 l_48 l_74 m_47 m_73 v6 w0_l_48 w0_l_74) w))))) w
def c1d (J_25 J_46:List Value → World → Prop) (l_27 l_48:List Value) (m_26 m_47:List Value → World → Nat) (v6:Value) (w0_l_27 w0_l_48:World):Prop:=
 (fun w=>(
 kF 69 1 v6 (fun v59=>
 kL 67 v59 fun v60=>
 kN 67 v60 fun v61=>
 kB .lss 3 4 (l_48.getD 2 undef) v61 fun v62 w=>
 a0v v62
 (c1c J_46 l_48 m_47 v6 w0_l_48 w)
 (kB .add 3 3 (l_27.getD 3 undef) (.int .i64 1) (fun v41=>
 kJ J_25 m_26 l_27 w0_l_27 [(l_48.getD 0 undef),(l_48.getD 2 undef),(l_48.getD 1 undef),v41]) w)) w)) w0_l_48
def c1e (J_25 J_3:List Value → World → Prop) (a0:Value) (l_27 l_5:List Value) (m_26 m_4:List Value → World → Nat) (w0_l_5 w0_l_27:World):Prop:=
 (fun w=>(
 kI 27 a0 (l_5.getD 4 undef) (fun v35=>
 kF 65 1 v35 fun v36=>
 kL 63 v36 fun v37=>
 kN 63 v37 fun v38=>
 kB .lss 3 4 (l_27.getD 3 undef) v38 fun v39=>
 kO v39 (kI 27 a0 (l_5.getD 4 undef) fun v44=>
 kF 65 1 v44 fun v45=>
 kL 63 v45 fun v46=>
 kI 63 v46 (l_27.getD 3 undef) fun v48=>
 kL 69 v48 fun v49=>
 kA 69 fun v6=>
 kS 69 v6 v49 fun _=>
 kF 69 0 v6 fun v51=>
 kL 3 v51 fun v52=>
 kF 69 1 v6 fun v53=>
 kL 67 v53 fun v54=>
 kN 67 v54 fun v55=>
 oM prog (.buildSlice 24 2 #[(0,(.tmp 0)),(1,(.tmp 1))]) 24 [v52,v55] fun v56=>
 oM prog (.call (Go.Call.mk (.builtin .append) #[(.tmp 0),(.tmp 1)] #[24,24])) 24 [(l_27.getD 0 undef),v56] fun v57=>
 kQ [v57,(l_27.getD 2 undef),(.int .i64 0)] fun J_46 m_47 l_48 u_l_48 w0_l_48=>c1d J_25 J_46 l_27 l_48 m_26 m_47 v6 w0_l_27 w0_l_48)
 (kB .add 3 3 (l_5.getD 4 undef) (.int .i64 1) fun v17=>
 kJ J_3 m_4 l_5 w0_l_5 [(l_27.getD 0 undef),(l_27.getD 3 undef),(l_27.getD 1 undef),(l_27.getD 2 undef),v17])) w)) w0_l_27
def c5x (J_3:List Value → World → Prop) (a0:Value) (l_5:List Value) (m_4:List Value → World → Nat) (w0_l_5 w:World):Prop:=
 kH (fun C_8 w=>(((true:Bool) = true) ∧ (a0c (l_5.getD 0 undef) C_8 fun v18=>
 a0c a0 C_8 fun v19=>
 a0c (l_5.getD 4 undef) C_8 fun v20=>
 jI 27 v19 v20 C_8 fun v21=>
 jF 65 0 v21 C_8 fun v22=>
 jL 3 v22 C_8 fun v23=>
 a0c a0 C_8 fun v24=>
 a0c (l_5.getD 4 undef) C_8 fun v25=>
 jI 27 v24 v25 C_8 fun v26=>
 jF 65 1 v26 C_8 fun v27=>
 jL 63 v27 C_8 fun v28=>
 jN 63 v28 C_8 fun v29=>
 ∃ S_21:World → WK,xR S_21 fun R_22=>
 (∀ w,C_8 w → (oM prog (.buildSlice 24 2 #[(0,(.tmp 0)),(1,(.tmp 1))]) 24 [v23,v29] (xK C_8 S_21 R_22 w) w)) ∧
 (∀ w,C_8 w → ∀ v30,R_22 v30 w → (
 oM prog (.call (Go.Call.mk (.builtin .append) #[(.tmp 0),(.tmp 1)] #[24,24])) 24 [v18,v30] (fun v31=>
 kQ [v31,(l_5.getD 2 undef),(l_5.getD 3 undef),(.int .i64 0)] fun J_25 m_26 l_27 u_l_27 w0_l_27=>c1e J_25 J_3 a0 l_27 l_5 m_26 m_4 w0_l_5 w0_l_27) w))))) w
def g0j (a0:Value) (K:VK) (w:World):Prop:=
 kN 27 a0 (fun v10=>
 oM prog (.buildSlice 24 1 #[(0,(.tmp 0))]) 24 [v10] fun v11=>
 kQ [v11,undef,undef,undef,(.int .i64 0)] fun J_3 m_4 l_5 u_l_5 w0_l_5=>(fun w=>(
 kN 27 a0 (fun v14=>
 kB .lss 3 4 (l_5.getD 4 undef) v14 fun v15 w=>
 a0v v15
 (c5x J_3 a0 l_5 m_4 w0_l_5 w)
 (a0a prog 115 #[(l_5.getD 0 undef)] (fun v116=>
 K v116) w)) w)) w0_l_5) w
theorem e5n (h:g0j a0 K w):a0a prog 26 #[a0] K w:=
 cZ (mz [(5,fz 12 1 2),(14,fz 14 1 2),(18,fz 21 1 2)]) func26 h
def c1f (J_23:List Value → World → Prop) (a2 a3:Value) (l_25:List Value) (m_24:List Value → World → Nat) (v4 v5:Value) (w0_l_25 w:World):Prop:=
 kH (fun C_30 w=>(((true:Bool) = true) ∧ (a0c (l_25.getD 0 undef) C_30 fun v41=>
 jF 26 0 v4 C_30 fun v42=>
 jL 23 v42 C_30 fun v43=>
 jL 26 v4 C_30 fun v44=>
 jF 69 1 v5 C_30 fun v45=>
 jL 67 v45 C_30 fun v46=>
 a0c (l_25.getD 1 undef) C_30 fun v47=>
 jI 67 v46 v47 C_30 fun v48=>
 jL 144 v48 C_30 fun v49=>
 a0c a3 C_30 fun v50=>
 jF 26 0 v4 C_30 fun v52=>
 jL 23 v52 C_30 fun v53=>
 jF 69 1 v5 C_30 fun v54=>
 jL 67 v54 C_30 fun v55=>
 a0c (l_25.getD 1 undef) C_30 fun v56=>
 jI 67 v55 v56 C_30 fun v57=>
 jF 144 0 v57 C_30 fun v58=>
 jL 3 v58 C_30 fun v59=>
 a0c a2 C_30 fun v60=>
 ∃ S_50:World → WK,xR S_50 fun R_51=>
 (∀ w,C_30 w → (a0a prog 139 #[v44,v49,v50] (xK C_30 S_50 R_51 w) w)) ∧
 (xR S_50 fun R_52=>
 (∀ w,C_30 w → (a0a prog 137 #[v53,v59,v60] (xK C_30 S_50 R_52 w) w)) ∧
 (xR S_50 fun R_53=>
 (∀ w,C_30 w → ∀ v51,R_51 v51 w → ∀ v61,R_52 v61 w → (a0a prog 142 #[v43,v51,v61] (xK C_30 S_50 R_53 w) w)) ∧
 (xR S_50 fun R_56=>
 (∀ w,C_30 w → ∀ v62,R_53 v62 w → (oM prog (.buildSlice 24 1 #[(0,(.tmp 0))]) 24 [v62] (xK C_30 S_50 R_56 w) w)) ∧
 (∀ w,C_30 w → ∀ v51,R_51 v51 w → ∀ v61,R_52 v61 w → ∀ v62,R_53 v62 w → ∀ v63,R_56 v63 w → (
 oM prog (.call (Go.Call.mk (.builtin .append) #[(.tmp 0),(.tmp 1)] #[24,24])) 24 [v41,v63] (fun v64=>
 kB .add 3 3 (l_25.getD 1 undef) (.int .i64 1) fun v40=>
 kJ J_23 m_24 l_25 w0_l_25 [v64,v40]) w)))))))) w
def g0k (a0 a1 a2 a3:Value) (K:VK) (w:World):Prop:=
 oM prog (.box 26 (.tmp 0)) 0 [a0] (fun v4=>
 oM prog (.box 69 (.tmp 0)) 0 [a1] fun v5=>
 kL 26 v4 fun v11=>
 a0a prog 22 #[v11] fun v12=>
 kU v12 fun v13 w=>
 gF v13 (kL 26 v4) (fun v15 w=>
 gF v13 (kL 69 v5) (fun v16 w=>
 gF v13 (a0a prog 113 #[v15,v16]) (fun v17 w=>
 gF v13 (kU v17) (fun v18=>
 kP v13 (.bool true) v18 fun v19 w=>
 gF v19 (kL 26 v4) (fun v21 w=>
 gF v19 (a0j a2) (fun v22 w=>
 gF v19 (a0a prog 85 #[v21,v22]) (fun v23 w=>
 gF v19 (kU v23) (fun v24=>
 kP v19 (.bool true) v24 fun v25 w=>
 gF v25 (kL 26 v4) (fun v27 w=>
 gF v25 (a0j a3) (fun v28 w=>
 gF v25 (kF 69 0 v5) (fun v29 w=>
 gF v25 (kL 3 v29) (fun v30 w=>
 gF v25 (a0a prog 119 #[v27,v28,v30]) (fun v31 w=>
 gF v25 (kU v31) (fun v32=>
 kP v25 (.bool true) v32 fun v33=>
 kO v33 (K (.slice none 0 0))
 (kQ [(.slice none 0 0),(.int .i64 0)] fun J_23 m_24 l_25 u_l_25 w0_l_25=>(fun w=>(
 kF 69 1 v5 (fun v35=>
 kL 67 v35 fun v36=>
 kN 67 v36 fun v37=>
 kB .lss 3 4 (l_25.getD 1 undef) v37 fun v38 w=>
 a0v v38
 (c1f J_23 a2 a3 l_25 m_24 v4 v5 w0_l_25 w)
 (K (l_25.getD 0 undef) w)) w)) w0_l_25)) w) w) w) w) w) w) w) w) w) w) w) w) w) w) w
theorem e5o (h:g0k a0 a1 a2 a3 K w):a0a prog 64 #[a0,a1,a2,a3] K w:=
 cZ (fun _=>.free [0,1,2,3,4,5,6,7,8,9,11,12,13,14,15,16,17,18,19] [10,20,21,22] [23,24]) func64 h
def b7q (J_7:List Value → World → Prop) (a1 a2 a3:Value) (l_4 l_9:List Value) (m_8:List Value → World → Nat) (v4:Value) (w0_l_9 w:World):Prop:=
 kH (fun C_15 w=>(((true:Bool) = true) ∧ (a0c (l_9.getD 0 undef) C_15 fun v28=>
 jL 26 v4 C_15 fun v29=>
 a0c a1 C_15 fun v30=>
 a0c (l_4.getD 2 undef) C_15 fun v31=>
 jI 27 v30 v31 C_15 fun v32=>
 jF 65 1 v32 C_15 fun v33=>
 jL 63 v33 C_15 fun v34=>
 a0c (l_9.getD 1 undef) C_15 fun v35=>
 jI 63 v34 v35 C_15 fun v36=>
 jL 69 v36 C_15 fun v37=>
 a0c a2 C_15 fun v38=>
 a0c (l_4.getD 2 undef) C_15 fun v39=>
 jI 30 v38 v39 C_15 fun v40=>
 jL 24 v40 C_15 fun v41=>
 a0c (l_9.getD 1 undef) C_15 fun v42=>
 jI 24 v41 v42 C_15 fun v43=>
 jL 3 v43 C_15 fun v44=>
 a0c a3 C_15 fun v45=>
 a0c (l_4.getD 2 undef) C_15 fun v46=>
 jI 29 v45 v46 C_15 fun v47=>
 jL 30 v47 C_15 fun v48=>
 a0c (l_9.getD 1 undef) C_15 fun v49=>
 jI 30 v48 v49 C_15 fun v50=>
 jL 24 v50 C_15 fun v51=>
 ∃ S_40:World → WK,xR S_40 fun R_41=>
 (∀ w,C_15 w → (a0a prog 64 #[v29,v37,v44,v51] (xK C_15 S_40 R_41 w) w)) ∧
 (∀ w,C_15 w → ∀ v52,R_41 v52 w → (
 oM prog (.call (Go.Call.mk (.builtin .append) #[(.tmp 0),(.tmp 1)] #[24,24])) 24 [v28,v52] (fun v53=>
 kB .add 3 3 (l_9.getD 1 undef) (.int .i64 1) fun v27=>
 kJ J_7 m_8 l_9 w0_l_9 [v53,v27]) w))))) w
def c1g (J_2 J_7:List Value → World → Prop) (a1 a2 a3:Value) (l_4 l_9:List Value) (m_3 m_8:List Value → World → Nat) (v4:Value) (w0_l_4 w0_l_9:World):Prop:=
 (fun w=>(
 kI 27 a1 (l_4.getD 2 undef) (fun v21=>
 kF 65 1 v21 fun v22=>
 kL 63 v22 fun v23=>
 kN 63 v23 fun v24=>
 kB .lss 3 4 (l_9.getD 1 undef) v24 fun v25 w=>
 a0v v25
 (b7q J_7 a1 a2 a3 l_4 l_9 m_8 v4 w0_l_9 w)
 (kB .add 3 3 (l_4.getD 2 undef) (.int .i64 1) (fun v17=>
 kJ J_2 m_3 l_4 w0_l_4 [(l_9.getD 1 undef),(l_9.getD 0 undef),v17]) w)) w)) w0_l_9
def f1z (a0 a1 a2 a3:Value) (K:VK) (w:World):Prop:=
 oM prog (.box 26 (.tmp 0)) 0 [a0] (fun v4=>
 kQ [undef,(.slice none 0 0),(.int .i64 0)] fun J_2 m_3 l_4 u_l_4 w0_l_4=>(fun w=>(
 kN 27 a1 (fun v14=>
 kB .lss 3 4 (l_4.getD 2 undef) v14 fun v15=>
 kO v15 (kQ [(l_4.getD 1 undef),(.int .i64 0)] fun J_7 m_8 l_9 u_l_9 w0_l_9=>c1g J_2 J_7 a1 a2 a3 l_4 l_9 m_3 m_8 v4 w0_l_4 w0_l_9)
 (K (l_4.getD 1 undef))) w)) w0_l_4) w
theorem d7s (h:f1z a0 a1 a2 a3 K w):a0a prog 100 #[a0,a1,a2,a3] K w:=
 cZ (fun _=>(fz 24 1 2)) func100 h
def c5y (K:VK) (a1 a2 a3 v4:Value) (w:World):Prop:=
 kH (fun C_2 w=>(((true:Bool) = true) ∧ (a0c a1 C_2 fun v9=>
 a0c a2 C_2 fun v12=>
 a0c a3 C_2 fun v15=>
 jF 26 0 v4 C_2 fun v18=>
 jF 23 1 v18 C_2 fun v19=>
 jL 3 v19 C_2 fun v20=>
 ∃ S_9:World → WK,xR S_9 fun R_10=>
 (∀ w,C_2 w → (a0a prog 26 #[v9] (xK C_2 S_9 R_10 w) w)) ∧
 (xR S_9 fun R_11=>
 (∀ w,C_2 w → ∀ v10,R_10 v10 w → (a0a prog 164 #[v10] (xK C_2 S_9 R_11 w) w)) ∧
 (xR S_9 fun R_13=>
 (∀ w,C_2 w → (a0a prog 164 #[v12] (xK C_2 S_9 R_13 w) w)) ∧
 (xR S_9 fun R_14=>
 (∀ w,C_2 w → ∀ v11,R_11 v11 w → ∀ v13,R_13 v13 w → (kB .add 9 9 v11 v13 (xK C_2 S_9 R_14 w) w)) ∧
 (xR S_9 fun R_17=>
 (∀ w,C_2 w → (a0a prog 115 #[v15] (xK C_2 S_9 R_17 w) w)) ∧
 (xR S_9 fun R_18=>
 (∀ w,C_2 w → ∀ v14,R_14 v14 w → ∀ v16,R_17 v16 w → (kB .add 9 9 v14 v16 (xK C_2 S_9 R_18 w) w)) ∧
 (∀ w,C_2 w → ∀ v10,R_10 v10 w → ∀ v11,R_11 v11 w → ∀ v13,R_13 v13 w → ∀ v14,R_14 v14 w → ∀ v16,R_17 v16 w → ∀ v17,R_18 v17 w → (
 a0a prog 163 #[v17,v20] (fun v21=>
 K v21) w)))))))))) w
def g0l (a0 a1 a2 a3:Value) (K:VK) (w:World):Prop:=
 oM prog (.box 26 (.tmp 0)) 0 [a0] (fun v4 w=>
 c5y K a1 a2 a3 v4 w) w
theorem e5p (h:g0l a0 a1 a2 a3 K w):a0a prog 99 #[a0,a1,a2,a3] K w:=
 cZ (fun _=>.free [0,3,6,9,10,11] [1,2,4,5,7,8] [12,13]) func99 h
def c1h (a2 a3:Value) (l_7:List Value) (M_10:List Value → World → Prop) (w:World):Prop:=
 kI 61 a2 (l_7.getD 2 undef) (fun v29=>
 kL 4 v29 fun v30=>
 kU v30 fun v31=>
 kO v31 (kB .add 3 3 (l_7.getD 2 undef) (.int .i64 1) fun v34=>
 oM prog (.buildSlice 24 1 #[(0,(.tmp 0))]) 24 [v34] fun v35=>
 oM prog (.call (Go.Call.mk (.builtin .append) #[(.tmp 0),(.tmp 1)] #[24,24])) 24 [(l_7.getD 0 undef),v35] fun v36=>
 kI 24 a3 (l_7.getD 2 undef) fun v40=>
 kL 3 v40 fun v41=>
 oM prog (.buildSlice 24 1 #[(0,(.tmp 0))]) 24 [v41] fun v42=>
 oM prog (.call (Go.Call.mk (.builtin .append) #[(.tmp 0),(.tmp 1)] #[24,24])) 24 [(l_7.getD 1 undef),v42] fun v43=>
 M_10 [v36,v43])
 (M_10 [(l_7.getD 0 undef),(l_7.getD 1 undef)])) w
def b7r (J_29:List Value → World → Prop) (K:VK) (a2:Value) (l_31:List Value) (m_30:List Value → World → Nat) (v51 v5:Value) (w0_l_31:World):Prop:=
 (fun w=>(
 kN 61 a2 (fun v55=>
 kB .lss 3 4 (l_31.getD 1 undef) v55 fun v56=>
 kO v56 (kF 26 0 v5 fun v60=>
 kF 23 1 v60 fun v61=>
 kL 3 v61 fun v62=>
 kB .add 3 3 (l_31.getD 1 undef) (.int .i64 1) fun v65=>
 a0a prog 166 #[v62,v51,v65] fun v66=>
 oM prog (.buildSlice 24 1 #[(0,(.tmp 0))]) 24 [v66] fun v67=>
 oM prog (.call (Go.Call.mk (.builtin .append) #[(.tmp 0),(.tmp 1)] #[24,24])) 24 [(l_31.getD 0 undef),v67] fun v68=>
 kB .add 3 3 (l_31.getD 1 undef) (.int .i64 1) fun v58=>
 kJ J_29 m_30 l_31 w0_l_31 [v68,v58])
 (K (l_31.getD 0 undef))) w)) w0_l_31
def c1i (J_5:List Value → World → Prop) (K:VK) (a2 a3:Value) (l_7:List Value) (m_6:List Value → World → Nat) (v5:Value) (w0_l_7:World):Prop:=
 (fun w=>(
 kN 61 a2 (fun v23=>
 kB .lss 3 4 (l_7.getD 2 undef) v23 fun v24 w=>
 a0v v24
 (a5z (fun M_10=>(c1h a2 a3 l_7 M_10 w))
 fun l_11 u_l_11 w=>(kB .add 3 3 (l_7.getD 2 undef) (.int .i64 1) (fun v26=>
 kJ J_5 m_6 l_7 w0_l_7 [(l_11.getD 0 undef),(l_11.getD 1 undef),v26]) w))
 (kF 26 0 v5 (fun v45=>
 kF 23 1 v45 fun v46=>
 kL 3 v46 fun v47=>
 a0a prog 165 #[v47,(l_7.getD 0 undef),(l_7.getD 1 undef)] fun v50=>
 kE 0 24 v50 fun v51=>
 kE 1 4 v50 fun v52=>
 kQ [(.slice none 0 0),(.int .i64 0)] fun J_29 m_30 l_31 u_l_31 w0_l_31=>b7r J_29 K a2 l_31 m_30 v51 v5 w0_l_31) w)) w)) w0_l_7
def f2a (a0 a1 a2 a3 a4:Value) (K:VK) (w:World):Prop:=
 oM prog (.box 26 (.tmp 0)) 0 [a0] (fun v5=>
 oM prog (.box 65 (.tmp 0)) 0 [a1] fun v6=>
 oM prog (.buildSlice 24 1 #[(0,(.tmp 0))]) 24 [(.int .i64 0)] fun v18=>
 oM prog (.buildSlice 24 1 #[(0,(.tmp 0))]) 24 [a4] fun v20=>
 kQ [v18,v20,(.int .i64 0)] fun J_5 m_6 l_7 u_l_7 w0_l_7=>c1i J_5 K a2 a3 l_7 m_6 v5 w0_l_7) w
theorem d7t (h:f2a a0 a1 a2 a3 a4 K w):a0a prog 102 #[a0,a1,a2,a3,a4] K w:=
 cZ (fun _=>0) func102 h
def c5z (J_2:List Value → World → Prop) (K:VK) (a1 a2:Value) (l_4:List Value) (m_3:List Value → World → Nat) (v3:Value) (w0_l_4 w:World):Prop:=
 kH (fun C_7 w=>(((true:Bool) = true) ∧ (jL 26 v3 C_7 fun v17=>
 a0c a1 C_7 fun v18=>
 a0c (l_4.getD 3 undef) C_7 fun v19=>
 jI 27 v18 v19 C_7 fun v20=>
 jL 65 v20 C_7 fun v21=>
 a0c a2 C_7 fun v22=>
 a0c (l_4.getD 3 undef) C_7 fun v23=>
 jI 28 v22 v23 C_7 fun v24=>
 jL 114 v24 C_7 fun v25=>
 ∃ S_17:World → WK,xR S_17 fun R_18=>
 (∀ w,C_7 w → (a0a prog 101 #[v17,v21,v25] (xK C_7 S_17 R_18 w) w)) ∧
 (xR S_17 fun R_19=>
 (∀ w,C_7 w → ∀ v26,R_18 v26 w → (C_7 w ∧ S_17 w w ∧ R_19 v26 w)) ∧
 (xR S_17 fun R_21=>
 (∀ w,C_7 w → ∀ v16,R_19 v16 w → (kE 0 61 v16 (xK C_7 S_17 R_21 w) w)) ∧
 (xR S_17 fun R_23=>
 (∀ w,C_7 w → ∀ v16,R_19 v16 w → (kE 1 4 v16 (xK C_7 S_17 R_23 w) w)) ∧
 (xR S_17 fun R_25=>
 (∀ w,C_7 w → ∀ v27,R_21 v27 w → (C_7 w ∧ S_17 w w ∧ R_25 v27 w)) ∧
 (∀ w,C_7 w → ∀ v26,R_18 v26 w → ∀ v16,R_19 v16 w → ∀ v27,R_21 v27 w → ∀ v28,R_23 v28 w → ∀ v8,R_25 v8 w → (
 kU v28 (fun v30=>
 kO v30 (K (.bool false))
 (kB .add 3 3 (l_4.getD 3 undef) (.int .i64 1) fun v15=>
 kJ J_2 m_3 l_4 w0_l_4 [v8,v28,(l_4.getD 2 undef),v15])) w))))))))) w
def g0m (a0 a1 a2:Value) (K:VK) (w:World):Prop:=
 oM prog (.box 26 (.tmp 0)) 0 [a0] (fun v3=>
 kQ [undef,undef,(.bool false),(.int .i64 0)] fun J_2 m_3 l_4 u_l_4 w0_l_4=>(fun w=>(
 kN 27 a1 (fun v12=>
 kB .lss 3 4 (l_4.getD 3 undef) v12 fun v13 w=>
 a0v v13
 (c5z J_2 K a1 a2 l_4 m_3 v3 w0_l_4 w)
 (K (.bool true) w)) w)) w0_l_4) w
theorem e5q (h:g0m a0 a1 a2 K w):a0a prog 98 #[a0,a1,a2] K w:=
 cZ (fun _=>(fz 9 5 1)) func98 h
def b7s (J_27:List Value → World → Prop) (K:VK) (a2:Value) (l_29:List Value) (m_28:List Value → World → Nat) (v46 v4:Value) (w0_l_29 w:World):Prop:=
 kH (fun C_32 w=>(((true:Bool) = true) ∧ (jF 26 0 v4 C_32 fun v54=>
 jF 23 1 v54 C_32 fun v55=>
 jL 3 v55 C_32 fun v56=>
 a0c v46 C_32 fun v57=>
 a0c (l_29.getD 1 undef) C_32 fun v58=>
 jB .add 3 3 v58 (.int .i64 1) C_32 fun v59=>
 a0c a2 C_32 fun v61=>
 a0c (l_29.getD 1 undef) C_32 fun v62=>
 jI 24 v61 v62 C_32 fun v63=>
 jL 3 v63 C_32 fun v64=>
 ∃ S_43:World → WK,xR S_43 fun R_44=>
 (∀ w,C_32 w → (a0a prog 166 #[v56,v57,v59] (xK C_32 S_43 R_44 w) w)) ∧
 (∀ w,C_32 w → ∀ v60,R_44 v60 w → (
 kB .neq 3 4 v60 v64 (fun v65=>
 kO v65 (K (.bool false))
 (kB .add 3 3 (l_29.getD 1 undef) (.int .i64 1) fun v53=>
 kJ J_27 m_28 l_29 w0_l_29 [(l_29.getD 0 undef),v53])) w))))) w
def c1j (J_5:List Value → World → Prop) (K:VK) (a2:Value) (l_7:List Value) (m_6:List Value → World → Nat) (v4 v5:Value) (w0_l_7:World):Prop:=
 (fun w=>(
 kN 24 a2 (fun v20=>
 kF 65 0 v5 fun v21=>
 kL 3 v21 fun v22=>
 kB .sub 3 3 v20 v22 fun v23=>
 kB .lss 3 4 (l_7.getD 2 undef) v23 fun v24=>
 kO v24 (kB .add 3 3 (l_7.getD 2 undef) (.int .i64 1) fun v29=>
 oM prog (.buildSlice 24 1 #[(0,(.tmp 0))]) 24 [v29] fun v30=>
 oM prog (.call (Go.Call.mk (.builtin .append) #[(.tmp 0),(.tmp 1)] #[24,24])) 24 [(l_7.getD 0 undef),v30] fun v31=>
 kI 24 a2 (l_7.getD 2 undef) fun v35=>
 kL 3 v35 fun v36=>
 oM prog (.buildSlice 24 1 #[(0,(.tmp 0))]) 24 [v36] fun v37=>
 oM prog (.call (Go.Call.mk (.builtin .append) #[(.tmp 0),(.tmp 1)] #[24,24])) 24 [(l_7.getD 1 undef),v37] fun v38=>
 kB .add 3 3 (l_7.getD 2 undef) (.int .i64 1) fun v26=>
 kJ J_5 m_6 l_7 w0_l_7 [v31,v38,v26])
 (kF 26 0 v4 fun v40=>
 kF 23 1 v40 fun v41=>
 kL 3 v41 fun v42=>
 a0a prog 165 #[v42,(l_7.getD 0 undef),(l_7.getD 1 undef)] fun v45=>
 kE 0 24 v45 fun v46=>
 kE 1 4 v45 fun v47=>
 kQ [(.bool false),(.int .i64 0)] fun J_27 m_28 l_29 u_l_29 w0_l_29=>(fun w=>(
 kN 24 a2 (fun v50=>
 kB .lss 3 4 (l_29.getD 1 undef) v50 fun v51 w=>
 a0v v51
 (b7s J_27 K a2 l_29 m_28 v46 v4 w0_l_29 w)
 (K (.bool true) w)) w)) w0_l_29)) w)) w0_l_7
def f2b (a0 a1 a2 a3:Value) (K:VK) (w:World):Prop:=
 oM prog (.box 26 (.tmp 0)) 0 [a0] (fun v4=>
 oM prog (.box 65 (.tmp 0)) 0 [a1] fun v5=>
 oM prog (.buildSlice 24 1 #[(0,(.tmp 0))]) 24 [(.int .i64 0)] fun v15=>
 oM prog (.buildSlice 24 1 #[(0,(.tmp 0))]) 24 [a3] fun v17=>
 kQ [v15,v17,(.int .i64 0)] fun J_5 m_6 l_7 u_l_7 w0_l_7=>c1j J_5 K a2 l_7 m_6 v4 v5 w0_l_7) w
theorem d7u (h:f2b a0 a1 a2 a3 K w):a0a prog 118 #[a0,a1,a2,a3] K w:=
 cZ (fun _=>.free [0,1,2,3,4,5,7,8,9,10] [6] [11]) func118 h
def c1k (J_29:List Value → World → Prop) (K:VK) (a1:Value) (l_31:List Value) (m_30:List Value → World → Nat) (v35 v4 v7:Value) (w0_l_31 w:World):Prop:=
 kH (fun C_34 w=>(((true:Bool) = true) ∧ (jL 26 v4 C_34 fun v42=>
 a0c a1 C_34 fun v43=>
 a0c (l_31.getD 1 undef) C_34 fun v44=>
 jI 27 v43 v44 C_34 fun v45=>
 jL 65 v45 C_34 fun v46=>
 jF 34 0 v7 C_34 fun v47=>
 jL 30 v47 C_34 fun v48=>
 a0c (l_31.getD 1 undef) C_34 fun v49=>
 jI 30 v48 v49 C_34 fun v50=>
 jL 24 v50 C_34 fun v51=>
 a0c v35 C_34 fun v52=>
 ∃ S_46:World → WK,∀ w,C_34 w → (
 a0a prog 118 #[v42,v46,v51,v52] (fun v53=>
 kU v53 fun v54=>
 kO v54 (K (.bool false))
 (kB .add 3 3 (l_31.getD 1 undef) (.int .i64 1) fun v41=>
 kJ J_29 m_30 l_31 w0_l_31 [(l_31.getD 0 undef),v41])) w)))) w
def c1l (K:VK) (a1 a2 v4 v7:Value) (w:World):Prop:=
 kH (fun C_15 w=>(((true:Bool) = true) ∧ (jL 26 v4 C_15 fun v25=>
 a0c a1 C_15 fun v26=>
 a0c a2 C_15 fun v27=>
 jL 26 v4 C_15 fun v28=>
 a0c a1 C_15 fun v29=>
 jF 34 0 v7 C_15 fun v30=>
 jL 30 v30 C_15 fun v31=>
 jF 34 1 v7 C_15 fun v32=>
 jL 29 v32 C_15 fun v33=>
 ∃ S_25:World → WK,xR S_25 fun R_26=>
 (∀ w,C_15 w → (a0a prog 100 #[v28,v29,v31,v33] (xK C_15 S_25 R_26 w) w)) ∧
 (∀ w,C_15 w → ∀ v34,R_26 v34 w → (
 a0a prog 99 #[v25,v26,v27,v34] (fun v35=>
 kQ [(.bool false),(.int .i64 0)] fun J_29 m_30 l_31 u_l_31 w0_l_31=>(fun w=>(
 kN 27 a1 (fun v38=>
 kB .lss 3 4 (l_31.getD 1 undef) v38 fun v39 w=>
 a0v v39
 (c1k J_29 K a1 l_31 m_30 v35 v4 v7 w0_l_31 w)
 (K (.bool true) w)) w)) w0_l_31) w))))) w
def g0n (a0 a1 a2 a3:Value) (K:VK) (w:World):Prop:=
 oM prog (.box 26 (.tmp 0)) 0 [a0] (fun v4=>
 oM prog (.box 34 (.tmp 0)) 0 [a3] fun v7=>
 kL 26 v4 fun v11=>
 a0a prog 24 #[v11,a1] fun v13=>
 kU v13 fun v14 w=>
 gF v14 (kL 26 v4) (fun v16 w=>
 gF v14 (a0j a1) (fun v17 w=>
 gF v14 (kF 34 0 v7) (fun v18 w=>
 gF v14 (kL 30 v18) (fun v19 w=>
 gF v14 (kF 34 1 v7) (fun v20 w=>
 gF v14 (kL 29 v20) (fun v21 w=>
 gF v14 (a0a prog 33 #[v16,v17,v19,v21]) (fun v22 w=>
 gF v14 (kU v22) (fun v23=>
 kP v14 (.bool true) v23 fun v24 w=>
 a0v v24
 (K (.bool false) w)
 (c1l K a1 a2 v4 v7 w)) w) w) w) w) w) w) w) w) w
theorem e5r (h:g0n a0 a1 a2 a3 K w):a0a prog 31 #[a0,a1,a2,a3] K w:=
 cZ (mz [(3,fz 9 1 2),(7,fz 11 0 2)]) func31 h
def c1m (J_3:List Value → World → Prop) (a0 a1 a2:Value) (l_5:List Value) (m_4:List Value → World → Nat) (w0_l_5 w:World):Prop:=
 kH (fun C_7 w=>(((true:Bool) = true) ∧ (a0c a0 C_7 fun v16=>
 a0c a0 C_7 fun v17=>
 a0c (l_5.getD 0 undef) C_7 fun v18=>
 a0c a2 C_7 fun v19=>
 a0c a1 C_7 fun v21=>
 a0c (l_5.getD 1 undef) C_7 fun v22=>
 jI 24 v21 v22 C_7 fun v23=>
 jL 3 v23 C_7 fun v24=>
 ∃ S_16:World → WK,xR S_16 fun R_17=>
 (∀ w,C_7 w → (a0a prog 104 #[v17,v18,v19] (xK C_7 S_16 R_17 w) w)) ∧
 (∀ w,C_7 w → ∀ v20,R_17 v20 w → (
 a0a prog 103 #[v16,v20,v24] (fun v25=>
 kB .sub 3 3 (l_5.getD 1 undef) (.int .i64 1) fun v15=>
 kJ J_3 m_4 l_5 w0_l_5 [v25,v15]) w))))) w
def f2c (a0 a1 a2:Value) (K:VK) (w:World):Prop:=
 kN 24 a1 (fun v10=>
 kB .sub 3 3 v10 (.int .i64 1) fun v11=>
 kQ [(.int .i64 0),v11] fun J_3 m_4 l_5 u_l_5 w0_l_5=>(fun w=>(
 kB .geq 3 4 (l_5.getD 1 undef) (.int .i64 0) (fun v13 w=>
 a0v v13
 (c1m J_3 a0 a1 a2 l_5 m_4 w0_l_5 w)
 (K (l_5.getD 0 undef) w)) w)) w0_l_5) w
theorem d7v (h:f2c a0 a1 a2 K w):a0a prog 166 #[a0,a1,a2] K w:=
 cZ (fun _=>.free [0,1,2,3,5,6,7,8] [4] [9,10]) func166 h
def b7t (J_8:List Value → World → Prop) (K:VK) (a0 a1:Value) (l_10 l_5:List Value) (m_9:List Value → World → Nat) (w0_l_10 w:World):Prop:=
 kH (fun C_12 w=>(((true:Bool) = true) ∧ (a0c a0 C_12 fun v21=>
 a0c a1 C_12 fun v22=>
 a0c (l_5.getD 2 undef) C_12 fun v23=>
 jI 24 v22 v23 C_12 fun v24=>
 jL 3 v24 C_12 fun v25=>
 a0c a0 C_12 fun v27=>
 a0c a1 C_12 fun v28=>
 a0c (l_10.getD 1 undef) C_12 fun v29=>
 jI 24 v28 v29 C_12 fun v30=>
 jL 3 v30 C_12 fun v31=>
 ∃ S_23:World → WK,xR S_23 fun R_24=>
 (∀ w,C_12 w → (a0a prog 168 #[v21,v25] (xK C_12 S_23 R_24 w) w)) ∧
 (∀ w,C_12 w → ∀ v26,R_24 v26 w → (
 a0a prog 168 #[v27,v31] (fun v32=>
 kB .eql 3 4 v26 v32 fun v33=>
 kO v33 (K (.bool false))
 (kB .add 3 3 (l_10.getD 1 undef) (.int .i64 1) fun v20=>
 kJ J_8 m_9 l_10 w0_l_10 [(l_10.getD 0 undef),v20])) w))))) w
def c1n (J_3:List Value → World → Prop) (K:VK) (a0 a1:Value) (l_5:List Value) (m_4:List Value → World → Nat) (w0_l_5:World):Prop:=
 (fun w=>(
 kN 24 a1 (fun v12=>
 kB .lss 3 4 (l_5.getD 2 undef) v12 fun v13=>
 kO v13 (kQ [(l_5.getD 1 undef),(.int .i64 0)] fun J_8 m_9 l_10 u_l_10 w0_l_10=>(fun w=>(
 kB .lss 3 4 (l_10.getD 1 undef) (l_5.getD 2 undef) (fun v18 w=>
 a0v v18
 (b7t J_8 K a0 a1 l_10 l_5 m_9 w0_l_10 w)
 (kB .add 3 3 (l_5.getD 2 undef) (.int .i64 1) (fun v15=>
 kJ J_3 m_4 l_5 w0_l_5 [(l_10.getD 1 undef),(l_10.getD 0 undef),v15]) w)) w)) w0_l_10)
 (K (.bool true))) w)) w0_l_5
def f2d (a0 a1:Value) (K:VK) (w:World):Prop:=
 kN 24 a1 (fun v8=>
 kB .gtr 3 4 v8 (.int .i64 64) fun v9=>
 kO v9 (K (.bool false))
 (kQ [undef,(.bool false),(.int .i64 0)] fun J_3 m_4 l_5 u_l_5 w0_l_5=>c1n J_3 K a0 a1 l_5 m_4 w0_l_5)) w
theorem d7w (h:f2d a0 a1 K w):a0a prog 200 #[a0,a1] K w:=
 cZ (fun _=>.free [0,1,2,3,4,6,7,8,9,10] [5] [11,12]) func200 h
def b7u (J_43:List Value → World → Prop) (a0 a1:Value) (l_45 l_5:List Value) (m_44:List Value → World → Nat) (v44 v57:Value) (w0_l_45 w:World):Prop:=
 kH (fun C_57 w=>(((true:Bool) = true) ∧ (a0c v44 C_57 fun v70=>
 a0c (l_45.getD 1 undef) C_57 fun v71=>
 a0c a0 C_57 fun v72=>
 a0c v44 C_57 fun v73=>
 a0c (l_45.getD 1 undef) C_57 fun v74=>
 jI 24 v73 v74 C_57 fun v75=>
 jL 3 v75 C_57 fun v76=>
 a0c a0 C_57 fun v77=>
 a0c v57 C_57 fun v78=>
 a0c a1 C_57 fun v79=>
 a0c (l_5.getD 6 undef) C_57 fun v80=>
 jI 24 v79 v80 C_57 fun v81=>
 jL 3 v81 C_57 fun v82=>
 ∃ S_71:World → WK,xR S_71 fun R_72=>
 (∀ w,C_57 w → (a0a prog 104 #[v77,v78,v82] (xK C_57 S_71 R_72 w) w)) ∧
 (xR S_71 fun R_73=>
 (∀ w,C_57 w → ∀ v83,R_72 v83 w → (a0a prog 116 #[v72,v76,v83] (xK C_57 S_71 R_73 w) w)) ∧
 (∀ w,C_57 w → ∀ v83,R_72 v83 w → ∀ v84,R_73 v84 w → (
 kI 24 v70 v71 (fun v85=>
 kS 3 v85 v84 fun _=>
 kB .add 3 3 (l_45.getD 1 undef) (.int .i64 1) fun v50=>
 kJ J_43 m_44 l_45 w0_l_45 [v57,v50]) w)))))) w
def b1s (J_43 M_8:List Value → World → Prop) (a0 a1:Value) (l_45 l_5:List Value) (m_44:List Value → World → Nat) (v40 v44 v9:Value) (w0_l_45:World):Prop:=
 (fun w=>(
 kN 24 (l_5.getD 5 undef) (fun v47=>
 kB .lss 3 4 (l_45.getD 1 undef) v47 fun v48=>
 kO v48 (kI 24 (l_5.getD 5 undef) (l_45.getD 1 undef) fun v54=>
 kL 3 v54 fun v55=>
 a0a prog 104 #[a0,v55,v9] fun v57=>
 kB .add 3 3 (l_45.getD 1 undef) (.int .i64 1) fun v60=>
 kB .add 3 3 (l_45.getD 1 undef) (.int .i64 1) fun v64=>
 kI 24 v44 v64 fun v65=>
 kL 3 v65 fun v66=>
 a0a prog 103 #[a0,v66,v57] fun v68=>
 kI 24 v44 v60 fun v69=>
 kS 3 v69 v68 fun _ w=>
 b7u J_43 a0 a1 l_45 l_5 m_44 v44 v57 w0_l_45 w)
 (M_8 [v9,v40,v44,(l_45.getD 1 undef),(l_45.getD 0 undef),v44])) w)) w0_l_45
def b7v (M_8:List Value → World → Prop) (a0 a1 a2:Value) (l_5:List Value) (w:World):Prop:=
 kH (fun C_11 w=>(((true:Bool) = true) ∧ (a0c a0 C_11 fun v27=>
 a0c a0 C_11 fun v28=>
 a0c a1 C_11 fun v29=>
 a0c a2 C_11 fun v30=>
 jI 24 v29 v30 C_11 fun v31=>
 jL 3 v31 C_11 fun v32=>
 a0c a1 C_11 fun v33=>
 a0c (l_5.getD 6 undef) C_11 fun v34=>
 jI 24 v33 v34 C_11 fun v35=>
 jL 3 v35 C_11 fun v36=>
 ∃ S_22:World → WK,xR S_22 fun R_23=>
 (∀ w,C_11 w → (a0a prog 116 #[v28,v32,v36] (xK C_11 S_22 R_23 w) w)) ∧
 (xR S_22 fun R_24=>
 (∀ w,C_11 w → ∀ v37,R_23 v37 w → (a0a prog 144 #[v27,v37] (xK C_11 S_22 R_24 w) w)) ∧
 (xR S_22 fun R_26=>
 (∀ w,C_11 w → ∀ v38,R_24 v38 w → (C_11 w ∧ S_22 w w ∧ R_26 v38 w)) ∧
 (xR S_22 fun R_28=>
 (∀ w,C_11 w → ∀ v26,R_26 v26 w → (kE 0 3 v26 (xK C_11 S_22 R_28 w) w)) ∧
 (xR S_22 fun R_30=>
 (∀ w,C_11 w → ∀ v26,R_26 v26 w → (kE 1 4 v26 (xK C_11 S_22 R_30 w) w)) ∧
 (xR S_22 fun R_32=>
 (∀ w,C_11 w → ∀ v39,R_28 v39 w → (C_11 w ∧ S_22 w w ∧ R_32 v39 w)) ∧
 (∀ w,C_11 w → ∀ v37,R_23 v37 w → ∀ v38,R_24 v38 w → ∀ v26,R_26 v26 w → ∀ v39,R_28 v39 w → ∀ v40,R_30 v40 w → ∀ v9,R_32 v9 w → (
 kN 24 (l_5.getD 5 undef) (fun v42=>
 kB .add 3 3 v42 (.int .i64 1) fun v43=>
 oM prog (.makeSlice 24 (.tmp 0) (.tmp 1)) 24 [v43,v43] fun v44=>
 kQ [(l_5.getD 4 undef),(.int .i64 0)] fun J_43 m_44 l_45 u_l_45 w0_l_45=>b1s J_43 M_8 a0 a1 l_45 l_5 m_44 v40 v44 v9 w0_l_45) w)))))))))) w
def c1o (J_3:List Value → World → Prop) (K:VK) (a0 a1 a2:Value) (l_5:List Value) (m_4:List Value → World → Nat) (w0_l_5:World):Prop:=
 (fun w=>(
 kN 24 a1 (fun v19=>
 kB .lss 3 4 (l_5.getD 6 undef) v19 fun v20 w=>
 a0v v20
 (a5z (fun M_8=>(kB .eql 3 4 (l_5.getD 6 undef) a2 (fun v25 w=>
 a0v v25
 (M_8 [(l_5.getD 0 undef),(l_5.getD 1 undef),(l_5.getD 2 undef),(l_5.getD 3 undef),(l_5.getD 4 undef),(l_5.getD 5 undef)] w)
 (b7v M_8 a0 a1 a2 l_5 w)) w))
 fun l_9 u_l_9 w=>(kB .add 3 3 (l_5.getD 6 undef) (.int .i64 1) (fun v22=>
 kJ J_3 m_4 l_5 w0_l_5 [(l_9.getD 0 undef),(l_9.getD 1 undef),(l_9.getD 2 undef),(l_9.getD 3 undef),(l_9.getD 4 undef),(l_9.getD 5 undef),v22]) w))
 (K (l_5.getD 5 undef) w)) w)) w0_l_5
def f2e (a0 a1 a2:Value) (K:VK) (w:World):Prop:=
 kB .rem 3 3 (.int .i64 1) a0 (fun v15=>
 oM prog (.buildSlice 24 1 #[(0,(.tmp 0))]) 24 [v15] fun v16=>
 kQ [undef,undef,undef,undef,undef,v16,(.int .i64 0)] fun J_3 m_4 l_5 u_l_5 w0_l_5=>c1o J_3 K a0 a1 a2 l_5 m_4 w0_l_5) w
theorem d7x (h:f2e a0 a1 a2 K w):a0a prog 201 #[a0,a1,a2] K w:=
 cZ (mz [(6,fz 10 6 1),(13,fz 13 2 2)]) func201 h
def b7w (J_22:List Value → World → Prop) (a0 a2:Value) (l_18 l_24:List Value) (m_23:List Value → World → Nat) (v30 v40:Value) (w0_l_24 w:World):Prop:=
 kH (fun C_32 w=>(((true:Bool) = true) ∧ (a0c v30 C_32 fun v53=>
 a0c (l_24.getD 0 undef) C_32 fun v54=>
 a0c a0 C_32 fun v55=>
 a0c v30 C_32 fun v56=>
 a0c (l_24.getD 0 undef) C_32 fun v57=>
 jI 24 v56 v57 C_32 fun v58=>
 jL 3 v58 C_32 fun v59=>
 a0c a0 C_32 fun v60=>
 a0c v40 C_32 fun v61=>
 a0c (l_24.getD 0 undef) C_32 fun v62=>
 jI 24 v61 v62 C_32 fun v63=>
 jL 3 v63 C_32 fun v64=>
 a0c a2 C_32 fun v65=>
 a0c (l_18.getD 2 undef) C_32 fun v66=>
 jI 24 v65 v66 C_32 fun v67=>
 jL 3 v67 C_32 fun v68=>
 ∃ S_49:World → WK,xR S_49 fun R_50=>
 (∀ w,C_32 w → (a0a prog 104 #[v60,v64,v68] (xK C_32 S_49 R_50 w) w)) ∧
 (xR S_49 fun R_51=>
 (∀ w,C_32 w → ∀ v69,R_50 v69 w → (a0a prog 103 #[v55,v59,v69] (xK C_32 S_49 R_51 w) w)) ∧
 (∀ w,C_32 w → ∀ v69,R_50 v69 w → ∀ v70,R_51 v70 w → (
 kI 24 v53 v54 (fun v71=>
 kS 3 v71 v70 fun _=>
 kB .add 3 3 (l_24.getD 0 undef) (.int .i64 1) fun v52=>
 kJ J_22 m_23 l_24 w0_l_24 [v52]) w)))))) w
def b7x (J_16 J_22:List Value → World → Prop) (a0 a2:Value) (l_18 l_24:List Value) (m_17 m_23:List Value → World → Nat) (v30 v40:Value) (w0_l_18 w0_l_24:World):Prop:=
 (fun w=>(
 kN 24 v40 (fun v43=>
 kB .lss 3 4 (l_24.getD 0 undef) v43 fun v44 w=>
 gT v44 (a0j (l_24.getD 0 undef)) (fun v46 w=>
 gT v44 (a0j v30) (fun v47 w=>
 gT v44 (kN 24 v47) (fun v48 w=>
 gT v44 (kB .lss 3 4 v46 v48) (fun v49=>
 kP v44 v49 (.bool false) fun v50 w=>
 a0v v50
 (b7w J_22 a0 a2 l_18 l_24 m_23 v30 v40 w0_l_24 w)
 (kB .add 3 3 (l_18.getD 2 undef) (.int .i64 1) (fun v36=>
 kJ J_16 m_17 l_18 w0_l_18 [v40,(l_24.getD 0 undef),v36]) w)) w) w) w) w) w)) w0_l_24
def f2f (a0 a1 a2:Value) (K:VK) (w:World):Prop:=
 a0a prog 171 #[a0] (fun v13=>
 kU v13 fun v14 w=>
 gF v14 (a0j a0) (fun v16 w=>
 gF v14 (a0j a1) (fun v17 w=>
 gF v14 (a0a prog 200 #[v16,v17]) (fun v18 w=>
 gF v14 (kU v18) (fun v19=>
 kP v14 (.bool true) v19 fun v20 w=>
 gF v20 (a0j a1) (fun v22 w=>
 gF v20 (kN 24 v22) (fun v23 w=>
 gF v20 (a0j a2) (fun v24 w=>
 gF v20 (kN 24 v24) (fun v25 w=>
 gF v20 (kB .neq 3 4 v23 v25) (fun v26=>
 kP v20 (.bool true) v26 fun v27=>
 kO v27 (K (.tuple #[(.slice none 0 0),(.bool false)]))
 (kN 24 a1 fun v29=>
 oM prog (.makeSlice 24 (.tmp 0) (.tmp 1)) 24 [v29,v29] fun v30=>
 kQ [undef,undef,(.int .i64 0)] fun J_16 m_17 l_18 u_l_18 w0_l_18=>(fun w=>(
 kN 24 a1 (fun v33=>
 kB .lss 3 4 (l_18.getD 2 undef) v33 fun v34=>
 kO v34 (a0a prog 201 #[a0,a1,(l_18.getD 2 undef)] fun v40=>
 kQ [(.int .i64 0)] fun J_22 m_23 l_24 u_l_24 w0_l_24=>b7x J_16 J_22 a0 a2 l_18 l_24 m_17 m_23 v30 v40 w0_l_18 w0_l_24)
 (K (.tuple #[v30,(.bool true)]))) w)) w0_l_18)) w) w) w) w) w) w) w) w) w) w
theorem d7y (h:f2f a0 a1 a2 K w):a0a prog 165 #[a0,a1,a2] K w:=
 cZ (fun _=>(fz 16 2 2)) func165 h
end Go.Proofs
namespace FdPoly
open FdSpec
theorem c9p (x v:Int):∀ (l:List Int) (i:Nat),i < l.length → ev (l.set i v) x = ev l x + (v - l.getD i 0) * x ^ i
 | [],i,h=>by simp at h
 | c :: p,0,_=>by
  simp only [List.set_cons_zero,ev,List.getD_cons_zero,Int.pow_zero]
  grind
 | c :: p,i + 1,h=>by
  have ih:=c9p x v p i (by simpa using h)
  simp only [List.set_cons_succ,ev,List.getD_cons_succ,ih,Int.pow_succ]
  grind
theorem c7r (x:Int):∀ (l:List Int) (i:Nat),i < l.length → ev (l.take (i + 1)) x = ev (l.take i) x + l.getD i 0 * x ^ i
 | [],i,h=>by simp at h
 | c :: p,0,_=>by
  simp [ev]
 | c :: p,i + 1,h=>by
  have ih:=c7r x p i (by simpa using h)
  rw [List.take_succ_cons,List.take_succ_cons,ev,ev,ih,List.getD_cons_succ,Int.pow_succ]
  grind
def b6i (q x sc:Int) (o:List Int):Nat → List Int → List Int
 | 0,nx=>nx
 | t + 1,nx=>
  let c:=a2n q (o.getD t 0) sc
  let n1:=(b6i q x sc o t nx).set (t + 1) (a6i q ((b6i q x sc o t nx).getD (t + 1) 0) c)
  n1.set t (a3g q (n1.getD t 0) (a2n q c x))
theorem b0k (q x sc:Int) (o nx:List Int):∀ t,(b6i q x sc o t nx).length = nx.length
 | 0=>rfl
 | t + 1=>by simp only [b6i,List.length_set]; exact b0k q x sc o nx t
theorem d4b {q x sc:Int} (hq:okN q) (o nx:List Int) (y:Int):∀ t,t ≤ o.length → t < nx.length → q ∣ ev (b6i q x sc o t nx) y - (ev nx y + sc * (y - x) * ev (o.take t) y)
 | 0,_,_=>by simp [b6i,ev]
 | t + 1,h1,h2=>by
  obtain ⟨k,ih⟩:=d4b hq o nx y t (by omega) (by omega)
  have hl:=b0k q x sc o nx t
  have e1:=c7r y o t (by omega)
  simp only [b6i]
  generalize b6i q x sc o t nx = r at *
  obtain ⟨a,ha⟩:=a8k (a:=o.getD t 0) (b:=sc) hq
  generalize a2n q (o.getD t 0) sc = c at *
  obtain ⟨b,hb⟩:=b2v (a:=r.getD (t + 1) 0) (b:=c) hq
  generalize a6i q (r.getD (t + 1) 0) c = A at *
  have e2:=c9p y A r (t + 1) (by omega)
  have hl1:(r.set (t + 1) A).length = r.length:=List.length_set
  generalize r.set (t + 1) A = n1 at *
  obtain ⟨d,hd⟩:=a8k (a:=c) (b:=x) hq
  generalize a2n q c x = M at *
  obtain ⟨f,hf⟩:=b0l (a:=n1.getD t 0) (b:=M) hq
  generalize a3g q (n1.getD t 0) M = S at *
  have e3:=c9p y S n1 t (by omega)
  generalize ev (n1.set t S) y = E at *
  generalize ev n1 y = E1 at *
  generalize ev r y = E0 at *
  generalize n1.getD t 0 = g1 at *
  generalize r.getD (t + 1) 0 = g0 at *
  generalize o.getD t 0 = ot at *
  generalize ev (o.take t) y = T at *
  generalize ev (o.take (t + 1)) y = T1 at *
  generalize ev nx y = N at *
  rw [Int.pow_succ] at e2
  generalize y ^ t = Y at *
  refine ⟨k + b * (Y * y) + f * Y - d * Y + a * Y * (y - x),?_⟩
  have k1:A = g0 + c + q * b:=by omega
  have k2:S = g1 - M + q * f:=by omega
  have g3:M = c * x + q * d:=by omega
  have g4:c = ot * sc + q * a:=by omega
  have g5:E0 = N + sc * (y - x) * T + q * k:=by omega
  subst g5
  rw [e3,e2,e1,k2,g3,k1]
  subst g4
  grind
def a2f (q:Int) (xs:List Int) (i:Nat):Nat → List Int
 | 0=>[1 % q]
 | k + 1=>if k = i then a2f q xs i k else b6i q (xs.getD k 0) (c5h q (a3g q (xs.getD i 0) (xs.getD k 0))) (a2f q xs i k) (a2f q xs i k).length (List.replicate ((a2f q xs i k).length + 1) 0)
theorem b2t (q:Int) (xs:List Int) (i:Nat):∀ k,(a2f q xs i k).length = k + 1 - (if i < k then 1 else 0)
 | 0=>by simp [a2f]
 | k + 1=>by
  have ih:=b2t q xs i k
  rw [a2f]
  split
  ·rename_i h
   rw [ih,if_neg (by omega),if_pos (by omega)]; omega
  ·rename_i h
   rw [b0k,List.length_replicate,ih]
   by_cases h2:i < k
   ·rw [if_pos h2,if_pos (by omega)]; omega
   ·rw [if_neg h2,if_neg (by omega)]; omega
theorem c2u (y:Int):∀ n,ev (List.replicate n 0) y = 0
 | 0=>rfl
 | n + 1=>by rw [List.replicate_succ,ev,c2u y n]; simp
def fpr (xs:List Int) (u:Nat → Int) (i:Nat) (y:Int):Nat → Int
 | 0=>1
 | k + 1=>if k = i then fpr xs u i y k else u k * (y - xs.getD k 0) * fpr xs u i y k
theorem c9q {q:Int} (hq:okN q) (xs:List Int) (i:Nat) (y:Int):∀ k,q ∣ ev (a2f q xs i k) y - fpr xs (fun k=>c5h q (a3g q (xs.getD i 0) (xs.getD k 0))) i y k
 | 0=>by
  obtain ⟨k,hk⟩:=c2x q 1
  exact ⟨k,by simp only [a2f,ev,fpr]; omega⟩
 | k + 1=>by
  obtain ⟨m,ih⟩:=c9q hq xs i y k
  rw [a2f,fpr]
  by_cases h:k = i
  ·rw [if_pos h,if_pos h]; exact ⟨m,ih⟩
  ·rw [if_neg h,if_neg h]
   obtain ⟨a,ha⟩:=d4b (x:=xs.getD k 0) (sc:=c5h q (a3g q (xs.getD i 0) (xs.getD k 0))) hq (a2f q xs i k) (List.replicate ((a2f q xs i k).length + 1) 0) y (a2f q xs i k).length (Nat.le_refl _) (by rw [List.length_replicate]; omega)
   rw [c2u,List.take_length] at ha
   generalize ev (b6i q (xs.getD k 0) (c5h q (a3g q (xs.getD i 0) (xs.getD k 0))) (a2f q xs i k) (a2f q xs i k).length (List.replicate ((a2f q xs i k).length + 1) 0)) y = E at *
   generalize ev (a2f q xs i k) y = F at *
   generalize fpr xs (fun k=>c5h q (a3g q (xs.getD i 0) (xs.getD k 0))) i y k = P at *
   generalize c5h q (a3g q (xs.getD i 0) (xs.getD k 0)) = u at *
   generalize xs.getD k 0 = xk at *
   exact ⟨a + u * (y - xk) * m,by grind⟩
theorem c9r (xs:List Int) (u:Nat → Int) (i j:Nat) (hij:j ≠ i):∀ k,j < k → fpr xs u i (xs.getD j 0) k = 0
 | 0,h=>by omega
 | k + 1,h=>by
  rw [fpr]
  by_cases hj:j = k
  ·subst hj
   rw [if_neg hij,Int.sub_self]; simp
  ·rw [c9r xs u i j hij k (by omega)]
   split <;> simp
theorem d4c {q:Int} (xs:List Int) (u:Nat → Int) (i:Nat):∀ k,(∀ j,j < k → j ≠ i → q ∣ u j * (xs.getD i 0 - xs.getD j 0) - 1) → q ∣ fpr xs u i (xs.getD i 0) k - 1
 | 0,_=>by simp [fpr]
 | k + 1,h=>by
  obtain ⟨m,hm⟩:=d4c xs u i k (fun j a b=>h j (by omega) b)
  rw [fpr]
  by_cases hk:k = i
  ·rw [if_pos hk]; exact ⟨m,hm⟩
  ·rw [if_neg hk]
   obtain ⟨a,ha⟩:=h k (by omega) hk
   generalize fpr xs u i (xs.getD i 0) k = P at *
   generalize u k = uk at *
   generalize xs.getD i 0 - xs.getD k 0 = d at *
   exact ⟨a * P + m,by grind⟩
def c2v (q y:Int) (p:List Int):Nat → List Int → List Int
 | 0,o=>o
 | n + 1,o=>(c2v q y p n o).set n (a6i q ((c2v q y p n o).getD n 0) (a2n q (p.getD n 0) y))
theorem b6j (q y:Int) (p o:List Int):∀ n,(c2v q y p n o).length = o.length
 | 0=>rfl
 | n + 1=>by rw [c2v,List.length_set]; exact b6j q y p o n
theorem d4d {q v:Int} (hq:okN q) (p o:List Int) (y:Int):∀ n,n ≤ o.length → n ≤ p.length → q ∣ ev (c2v q v p n o) y - (ev o y + v * ev (p.take n) y)
 | 0,_,_=>by simp [c2v,ev]
 | n + 1,h1,h2=>by
  obtain ⟨k,ih⟩:=d4d (v:=v) hq p o y n (by omega) (by omega)
  have hl:=b6j q v p o n
  have e1:=c7r y p n (by omega)
  rw [c2v]
  generalize c2v q v p n o = r at *
  obtain ⟨a,ha⟩:=a8k (a:=p.getD n 0) (b:=v) hq
  generalize a2n q (p.getD n 0) v = M at *
  obtain ⟨b,hb⟩:=b2v (a:=r.getD n 0) (b:=M) hq
  generalize a6i q (r.getD n 0) M = A at *
  rw [c9p y A r n (by omega),e1]
  generalize ev r y = E at *
  generalize r.getD n 0 = g at *
  generalize p.getD n 0 = pn at *
  generalize ev (p.take n) y = T at *
  generalize ev o y = O at *
  generalize y ^ n = Y at *
  exact ⟨k + b * Y + a * Y,by grind⟩
def a8j (q:Int) (xs ys:List Int):Nat → List Int
 | 0=>List.replicate xs.length 0
 | i + 1=>c2v q (ys.getD i 0) (a2f q xs i xs.length) (a2f q xs i xs.length).length (a8j q xs ys i)
def d4e (q:Int) (xs ys:List Int):List Int:=a8j q xs ys xs.length
theorem b2u (q:Int) (xs ys:List Int):∀ i,(a8j q xs ys i).length = xs.length
 | 0=>by simp [a8j]
 | i + 1=>by rw [a8j,b6j]; exact b2u q xs ys i
theorem c9s {q:Int} {xs ys:List Int} (hq:okN q) (hA:∀ a b,a < b → b < xs.length → U q (xs.getD b 0 - xs.getD a 0)) (j:Nat) (hj:j < xs.length):∀ i,i ≤ xs.length → q ∣ ev (a8j q xs ys i) (xs.getD j 0) - (if j < i then ys.getD j 0 else 0)
 | 0,_=>by rw [a8j,c2u]; simp
 | i + 1,hi=>by
  obtain ⟨k,ih⟩:=c9s (ys:=ys) hq hA j hj i (by omega)
  rw [a8j]
  have hfl:(a2f q xs i xs.length).length = xs.length:=by rw [b2t,if_pos (by omega)]; omega
  have hol:=b2u q xs ys i
  obtain ⟨a,ha⟩:=d4d (v:=ys.getD i 0) hq (a2f q xs i xs.length) (a8j q xs ys i) (xs.getD j 0) (a2f q xs i xs.length).length (by omega) (Nat.le_refl _)
  rw [List.take_length] at ha
  have hf:=c9q hq xs i (xs.getD j 0) xs.length
  generalize ev (c2v q (ys.getD i 0) (a2f q xs i xs.length) (a2f q xs i xs.length).length (a8j q xs ys i)) (xs.getD j 0) = E at *
  by_cases hij:j = i
  ·subst hij
   obtain ⟨b,hb⟩:=hf
   obtain ⟨c,hc⟩:=d4c (q:=q) xs (fun k=>c5h q (a3g q (xs.getD j 0) (xs.getD k 0))) j xs.length (fun m hm hne=>by
    have hu:U q (xs.getD j 0 - xs.getD m 0):=by
     by_cases h:m < j
     ·exact hA m j h hj
     ·obtain ⟨u,t,ht⟩:=hA j m (by omega) hm
      exact ⟨-u,t,by grind⟩
    obtain ⟨s,hs⟩:=b0l (a:=xs.getD j 0) (b:=xs.getD m 0) hq
    obtain ⟨x,hx1,⟨l,hl⟩,_⟩:=c5f hq (hu.cong ⟨s,hs⟩)
    show q ∣ c5h q (a3g q (xs.getD j 0) (xs.getD m 0)) * (xs.getD j 0 - xs.getD m 0) - 1
    unfold c5h
    rw [hx1]
    simp only [Option.getD_some]
    generalize a3g q (xs.getD j 0) (xs.getD m 0) = S at *
    generalize xs.getD j 0 - xs.getD m 0 = d at *
    exact ⟨l - x * s,by grind⟩)
   rw [if_neg (by omega)] at ih
   rw [if_pos (by omega)]
   generalize ev (a2f q xs j xs.length) (xs.getD j 0) = F at *
   generalize fpr xs (fun k=>c5h q (a3g q (xs.getD j 0) (xs.getD k 0))) j (xs.getD j 0) xs.length = P at *
   generalize ev (a8j q xs ys j) (xs.getD j 0) = R at *
   generalize ys.getD j 0 = yj at *
   exact ⟨a + k + yj * b + yj * c,by grind⟩
  ·rw [c9r xs _ i j hij xs.length hj] at hf
   obtain ⟨b,hb⟩:=hf
   have e:(if j < i + 1 then ys.getD j 0 else 0) = (if j < i then ys.getD j 0 else 0):=by
    by_cases h:j < i
    ·rw [if_pos h,if_pos (by omega)]
    ·rw [if_neg h,if_neg (by omega)]
   rw [e]
   generalize (if j < i then ys.getD j 0 else 0) = V at *
   generalize ev (a2f q xs i xs.length) (xs.getD j 0) = F at *
   generalize ev (a8j q xs ys i) (xs.getD j 0) = R at *
   generalize ys.getD i 0 = yi at *
   exact ⟨a + k + yi * b,by grind⟩
theorem f4w {q:Int} {xs ys:List Int} (hq:okN q) (hl:xs.length = ys.length) (hA:∀ a b,a < b → b < xs.length → U q (xs.getD b 0 - xs.getD a 0)) (x:Int):atM q (d4e q xs ys) x = atM q (thr q xs ys) x:=by
 refine f8p ?_ (c5i hq _ _) (c5i hq _ _)
 have key:q ∣ ev (d4e q xs ys) x - ev (thr q xs ys) x:=by
  refine g4e hA (by rw [d4e,b2u]; exact Nat.le_refl _) (by rw [d4w]; exact Nat.le_refl _) (fun z hz=>?_) x
  obtain ⟨j,hj,rfl⟩:=List.mem_iff_getElem.1 hz
  have h1:=c9s (ys:=ys) hq hA j hj xs.length (Nat.le_refl _)
  have h2:=f8q (ys:=ys) hq hl hA j hj
  rw [if_pos hj] at h1
  have ex:xs.getD j 0 = xs[j]:=by rw [List.getD_eq_getElem?_getD,List.getElem?_eq_getElem hj]; rfl
  rw [ex] at h1 h2
  have:=Int.dvd_sub h1 h2
  have e3:∀ a b c:Int,a - c - (b - c) = a - b:=fun a b c=>by omega
  rwa [e3] at this
 have a1:=d4p hq x (d4e q xs ys)
 have a2:=d4p hq x (thr q xs ys)
 have:=Int.dvd_sub (Int.dvd_add a1 key) a2
 have e3:∀ a b c d:Int,a - b + (b - c) - (d - c) = a - d:=fun a b c d=>by omega
 rwa [e3] at this
end FdPoly
namespace Go.Proofs
open Go Go.Sh Go.RowKit FdSpec TkSpec CodeSpec PrSpec FdPoly GrLaw
section
variable {K:VK} {w w' w0 W W' We W1 W2:World} {L:List (Addr × Value)} {g n B b i:Nat} {row:Option Nat}
def g9a (q x:Int) (p:List Int) (w0:World) (vs:List Value) (W:World):Prop:=Bw w0 W ∧ ∃ m:Nat,vs = [.int .i64 (atM q (p.drop m) x),.int .i64 ((m:Int) - 1)] ∧ m ≤ p.length
theorem f3k (q x:Int) (p:List Int) {pv:Value} (hi:Ints w pv p) (k:∀ w',Bw w w' → K (.int .i64 (atM q p x)) w'):a0a Tryz.prog 166 #[.int .i64 q,pv,.int .i64 x] K w:=by
 apply d7v
 unfold f2c
 have hi':=hi
 obtain ⟨pad,pc,rfl⟩:=hi.isSlice
 have hl:=hi'.len
 refine Xa0 ?_
 refine ⟨g9a q x p w,(fun vs _=>match vs with | [_,.int _ i]=>(i + 1).toNat | _=>0),⟨bR,p.length,by rw [List.drop_of_length_le (rL)]; rfl,rL⟩,?_⟩
 rintro _ _ w2 ⟨h2,m,rfl,hm⟩
 cases m with
 | zero=>
  have hneg:¬ (0:Int) ≤ ((0:Nat):Int) - 1:=by omega
  refine Xa @hneg ?_
  exact k _ h2
 | succ m=>
  have ei:((m + 1:Nat):Int) - 1 = (m:Int):=by omega
  rw [ei]
  have hm0:(0:Int) ≤ (m:Int):=by omega
  have hml:(m:Int) < p.length:=by omega
  obtain ⟨b,o,rfl,hb,hc,hr,_⟩:=hi'.at (i:=m) (by omega)
  have ed:atM q (p.drop m) x = a6i q (a2n q (atM q (p.drop (m + 1)) x) x) p[m]:=by rw [List.drop_eq_getElem_cons (by omega)]; rfl
  generalize p[m] = c at *
  refine Xa @hm0 ?_
  unfold c1m
  simp only [List.getD_cons_succ,List.getD_cons_zero]
  have hW:Below w.heap.size w { w2 with drawn:=w2.drawn + 1 }:=h2.on .drawn
  refine ⟨Nx { w2 with drawn:=w2.drawn + 1 },bR,by trivial,?_⟩
  generalize ({ w2 with drawn:=w2.drawn + 1 }:World) = W9 at *
  refine Xf (fun W0 hW0=>hc _ (hW.on hW0)) @hml ?_
  refine ⟨Nx,?_⟩
  apply a1i
  ·(intro w9 h9; repeat (intro v9 e9; try (obtain rfl:=e9)))
   refine Xa0 ?_
   exact a4w _ _ _ ⟨h9,bR,rfl⟩
  (intro w9 h9; repeat (intro v9 e9; try (obtain rfl:=e9)))
  refine Xa0 ?_
  refine b8k _ _ _ ?_
  refine Xa0 ?_
  refine ⟨⟨hW.on h9,m,by rw [ed],by omega⟩,?_⟩
  show ((m:Int) - 1 + 1).toNat < ((m:Int) + 1).toNat
  omega
def g9b (n:Nat) (w0:World) (vs:List Value) (W:World):Prop:=Bw w0 W ∧ ∃ (u v:Value) (i:Nat),vs = [u,v,.int .i64 (i:Int)] ∧ i ≤ n
def g9c (n:Nat) (w0:World) (vs:List Value) (W:World):Prop:=Bw w0 W ∧ ∃ (u:Value) (i:Nat),vs = [u,.int .i64 (i:Int)] ∧ i ≤ n
theorem c3u (q:Int) (xs:List Int) {xv:Value} (hx:Ints w xv xs) (hq:okN q) (h64:xs.length ≤ 64) (hd:(xs.map (fun x=>x % q)).Nodup) (k:∀ w',Bw w w' → K (.bool true) w'):a0a Tryz.prog 200 #[.int .i64 q,xv] K w:=by
 apply d7w
 unfold f2d
 have hx':=hx
 obtain ⟨pad,pc,rfl⟩:=hx.isSlice
 have hl:=hx'.len
 have h64':¬ (64:Int) < xs.length:=by omega
 refine Xa @h64' ?_
 refine ⟨g9b xs.length w,(fun vs _=>match vs with | [_,_,.int _ i]=>xs.length - i.toNat | _=>0),⟨bR,_,_,0,rfl,by omega⟩,?_⟩
 rintro _ _ w2 ⟨h2,u,v,i,rfl,hi⟩
 unfold c1n
 by_cases hin:i = xs.length
 ·subst hin
  refine Xa0 ?_
  exact k _ h2
 have hil:(i:Int) < xs.length:=by omega
 obtain ⟨bi,oi,e1,_,ci,_,_⟩:=hx'.at (i:=i) (by omega)
 subst e1
 refine Xa @hil ?_
 refine ⟨g9c i w,(fun vs _=>match vs with | [_,.int _ j]=>i - j.toNat | _=>0),⟨h2,_,0,rfl,by omega⟩,?_⟩
 rintro _ _ w3 ⟨h3,u3,j,rfl,hj⟩
 by_cases hji:j = i
 ·subst hji
  have hno:¬ (j:Int) < (j:Int):=by omega
  refine Xa @hno ?_
  refine ⟨⟨h3,_,_,j + 1,rfl,by omega⟩,?_⟩
  show xs.length - (((j + 1:Nat):Int)).toNat < xs.length - ((j:Nat):Int).toNat
  omega
 have hjl:(j:Int) < (i:Int):=by omega
 obtain ⟨bj,oj,e2,_,cj,_,_⟩:=hx'.at (i:=j) (by omega)
 cases e2
 have hne:¬ xs[i] % q = xs[j] % q:=by
  intro e
  have h1:=(List.pairwise_iff_getElem.1 hd) j i (by simpa using (show j < xs.length by omega)) (by simpa using (show i < xs.length by omega)) (by omega)
  simp at h1
  exact h1 e.symm
 generalize xs[i] = a at *
 generalize xs[j] = c at *
 have hjx:(j:Int) < xs.length:=by omega
 refine Xa @hjl ?_
 unfold b7t
 simp only [List.getD_cons_succ,List.getD_cons_zero]
 have hW:Below w.heap.size w { w3 with drawn:=w3.drawn + 1 }:=h3.on .drawn
 refine ⟨Nx { w3 with drawn:=w3.drawn + 1 },bR,by trivial,?_⟩
 generalize ({ w3 with drawn:=w3.drawn + 1 }:World) = W9 at *
 refine Xf (fun W0 hW0=>An2 (ci _ (hW.on hW0)) (cj _ (hW.on hW0))) (An2 @hil @hjx) ?_
 refine ⟨Nx,?_⟩
 apply a1i
 ·(intro w9 h9; repeat (intro v9 e9; try (obtain rfl:=e9)))
  refine Xa0 ?_
  exact a2c q a hq ⟨h9,bR,rfl⟩
 (intro w9 h9; repeat (intro v9 e9; try (obtain rfl:=e9)))
 refine Xa0 ?_
 refine a2c q c hq ?_
 refine Xa @hne ?_
 refine ⟨⟨hW.on h9,_,j + 1,rfl,by omega⟩,?_⟩
 show i - (((j + 1:Nat):Int)).toNat < i - ((j:Nat):Int).toNat
 omega
theorem c8n {P:Int → Prop} {l:List Int} {i:Nat} {x:Int} (h:∀ y ∈ l,P y) (hx:P x):∀ y ∈ l.set i x,P y:=fun y hy=>by
 rcases List.mem_or_eq_of_mem_set hy with h1 | rfl
 ·exact h y h1
 ·exact hx
theorem d0p (q x sc:Int) (o nx:List Int) (h:∀ y ∈ nx,I64 y):∀ t,∀ y ∈ b6i q x sc o t nx,I64 y
 | 0=>h
 | t + 1=>by
  simp only [b6i]
  exact c8n (c8n (d0p q x sc o nx h t) (a7d _ _ _)) (d0h _ _ _)
theorem b8p {q:Int} (hq:okN q) (xs:List Int) (i:Nat):∀ k,∀ y ∈ a2f q xs i k,I64 y
 | 0=>fun y hy=>by
  simp only [a2f,List.mem_singleton] at hy
  subst hy
  unfold okN at hq
  have:=Int.emod_nonneg 1 (show q ≠ 0 by omega)
  have:=Int.emod_lt_of_pos 1 (show 0 < q by omega)
  unfold I64; omega
 | k + 1=>by
  rw [a2f]
  split
  ·exact b8p hq xs i k
  ·exact d0p _ _ _ _ _ (fun y hy=>by rw [(List.mem_replicate.1 hy).2]; exact b2b) _
def g9d (q:Int) (xs:List Int) (i:Nat) (w0:World) (vs:List Value) (W:World):Prop:=Bw w0 W ∧ ∃ (u0 u1 u2 u3 u4 ov:Value) (k:Nat),vs = [u0,u1,u2,u3,u4,ov,.int .i64 (k:Int)] ∧ k ≤ xs.length ∧ OwnI W w0.heap.size ov (a2f q xs i k)
def g9e (q:Int) (xs:List Int) (i k:Nat) (w0:World) (vs:List Value) (W:World):Prop:=Bw w0 W ∧ ∃ (u0 u1 u2 u3 u4 ov:Value),vs = [u0,u1,u2,u3,u4,ov] ∧ OwnI W w0.heap.size ov (a2f q xs i (k + 1))
def g4s (q x sc:Int) (o:List Int) (g:Nat) (W1:World) (vs:List Value) (W:World):Prop:=Bw W1 W ∧ ∃ (u:Value) (t:Nat),vs = [u,.int .i64 (t:Int)] ∧ t ≤ o.length ∧ RowP W W1.heap.size g (o.length + 1) (b6i q x sc o t (List.replicate (o.length + 1) 0))
theorem e0j (q:Int) (xs:List Int) (i kk:Nat) (o:List Int) {xad oad:Option Addr} {xc oc:Nat} {u0 u1 u2 u3 u4 vok:Value} {sc x:Int} {M:List Value → World → Prop} {l:List Value}
  (hx:Ints w (.slice xad xs.length xc) xs) (ho:Ints w (.slice oad o.length oc) o) (hk:xs[kk]? = some x) (hol:o.length ≤ 1000) (hJ:g4s q x sc o g w l W)
  (hM:∀ W' u v,Bw w W' → RowP W' w.heap.size g (o.length + 1) (b6i q x sc o o.length (List.replicate (o.length + 1) 0)) → M [.int .i64 sc,vok,.slice (some ⟨g,0,none⟩) (o.length + 1) (o.length + 1),u,v,.slice (some ⟨g,0,none⟩) (o.length + 1) (o.length + 1)] W') :
  b1s (g4s q x sc o g w) M (.int .i64 q) (.slice xad xs.length xc) l [u0,u1,u2,u3,u4,.slice oad o.length oc,.int .i64 (kk:Int)] (fun vs _=>match vs with | [_,.int _ t]=>o.length - t.toNat | _=>0) vok (.slice (some ⟨g,0,none⟩) (o.length + 1) (o.length + 1)) (.int .i64 sc) W:=by
 obtain ⟨hb,u,t,rfl,ht,hR⟩:=hJ
 obtain ⟨hkl,hkx⟩:=gS hk
 have hoL:=ho.len
 unfold b1s
 by_cases hto:t = o.length
 ·subst hto
  refine Xa0 ?_
  exact hM _ _ _ hb hR
 have htl:(t:Int) < o.length:=by omega
 obtain ⟨bo,oo,e1,hbo,co,_,_⟩:=ho.at (i:=t) (by omega)
 subst e1
 obtain ⟨bx,ox,e2,hbx,cx,_,_⟩:=hx.at (i:=kk) hkl
 subst e2
 rw [hkx] at cx
 have eo:o[t] = o.getD t 0:=by rw [List.getD_eq_getElem?_getD,gE (by omega)]; rfl
 rw [eo] at co
 have hnl:(b6i q x sc o t (List.replicate (o.length + 1) 0)).length = o.length + 1:=by rw [b0k,List.length_replicate]
 have e1':=getD_some (l:=b6i q x sc o t (List.replicate (o.length + 1) 0)) (i:=t + 1) (by omega)
 have c1:=hR.cell e1'
 have hstep:b6i q x sc o (t + 1) (List.replicate (o.length + 1) 0) = ((b6i q x sc o t (List.replicate (o.length + 1) 0)).set (t + 1) (a6i q ((b6i q x sc o t (List.replicate (o.length + 1) 0)).getD (t + 1) 0) (a2n q (o.getD t 0) sc))).set t (a3g q (((b6i q x sc o t (List.replicate (o.length + 1) 0)).set (t + 1) (a6i q ((b6i q x sc o t (List.replicate (o.length + 1) 0)).getD (t + 1) 0) (a2n q (o.getD t 0) sc))).getD t 0) (a2n q (a2n q (o.getD t 0) sc) x)):=rfl
 generalize b6i q x sc o t (List.replicate (o.length + 1) 0) = r at *
 generalize o.getD t 0 = ot at *
 generalize r.getD (t + 1) 0 = rt at *
 generalize hA:a6i q rt (a2n q ot sc) = A at *
 have hr1l:(r.set (t + 1) A).length = o.length + 1:=by rw [List.length_set]; omega
 have e3:=getD_some (l:=r.set (t + 1) A) (i:=t) (by omega)
 generalize hr1:r.set (t + 1) A = r1 at *
 generalize r1.getD t 0 = r1t at *
 have ht1:(t:Int) + 1 < (o.length:Int) + 1:=by omega
 have ht1':((t + 1:Nat):Int) = (t:Int) + 1:=by omega
 have htn:(t:Int) < (o.length:Int) + 1:=by omega
 have hkx':(kk:Int) < xs.length:=by omega
 have htt:((t:Int) + 1).toNat = t + 1:=by omega
 have hgw:w.heap.size ≤ g:=hR.base
 refine Xa (An2 (co _ hb) @htl) ?_
 refine a4w _ _ _ ?_
 refine Xa (An3 @c1 @ht1 @htt) ?_
 refine b8k _ _ _ ?_
 refine Xa (An2 @ht1 @htt) ?_
 rw [hA]
 refine hR.set (i:=t + 1) (by omega) (fun W2 hg2 hR2=>?_)
 have hb2:=a0m hb hg2 hgw
 rw [hr1] at hR2
 unfold b7u
 simp only [List.getD_cons_succ,List.getD_cons_zero]
 have hRd:RowP { W2 with drawn:=W2.drawn + 1 } w.heap.size g (o.length + 1) r1:=hR2.next .drawn
 have hbd:Below w.heap.size w { W2 with drawn:=W2.drawn + 1 }:=hb2.on .drawn
 refine ⟨Nx { W2 with drawn:=W2.drawn + 1 },bR,by trivial,?_⟩
 generalize ({ W2 with drawn:=W2.drawn + 1 }:World) = W9 at *
 refine Xf (fun W0 hW0=>An2 ((hRd.next hW0).cell e3) (cx _ (hbd.on hW0))) (An2 @htn @hkx') ?_
 refine ⟨Nx,?_⟩
 apply a1i
 ·(intro w9 h9; repeat (intro v9 e9; try (obtain rfl:=e9)))
  refine Xa0 ?_
  exact a4w _ _ _ ⟨h9,bR,rfl⟩
 apply a1i
 ·(intro w9 h9; repeat (intro v9 e9; try (obtain rfl:=e9)))
  refine Xa0 ?_
  exact c3r _ _ _ ⟨h9,bR,rfl⟩
 (intro w9 h9; repeat (intro v9 e9; try (obtain rfl:=e9)))
 refine Xa @htn ?_
 refine (hRd.next h9).set (i:=t) (by omega) (fun W3 hg3 hR3=>?_)
 have hb3:=a0m (hbd.on h9) hg3 hgw
 refine Xa0 ?_
 refine ⟨⟨hb3,_,t + 1,rfl,by omega,?_⟩,?_⟩
 ·rw [hstep]; exact hR3
 ·show o.length - (((t + 1:Nat):Int)).toNat < o.length - ((t:Nat):Int).toNat
  omega
theorem b8q (q:Int) (xs:List Int) (i:Nat) {xv:Value} (hx:Ints w xv xs) (hq:okN q) (hi:i < xs.length) (h64:xs.length ≤ 64)
  (k:∀ v w',Bw w w' → OwnI w' w.heap.size v (a2f q xs i xs.length) → K v w'):a0a Tryz.prog 201 #[.int .i64 q,xv,.int .i64 (i:Int)] K w:=by
 apply d7x
 unfold f2e
 have hx':=hx
 obtain ⟨xad,xc,rfl⟩:=hx.isSlice
 have hl:=hx'.len
 have hq0:¬ q = 0:=by unfold okN at hq; omega
 have hrem:Int.tmod 1 q = 1 % q:=by
  unfold okN at hq
  rw [Int.tmod_eq_emod_of_nonneg (by omega)]
 refine Xb1 @hq0 ?_
 try rw [hrem]
 refine e3z _ (fun v16 W1 h1 ho1=>?_)
 refine Xa0 ?_
 refine ⟨g9d q xs i w,(fun vs _=>match vs with | [_,_,_,_,_,_,.int _ k]=>xs.length - k.toNat | _=>0),⟨h1,_,_,_,_,_,_,0,rfl,by omega,ho1⟩,?_⟩
 clear ho1 h1
 rintro _ _ w2 ⟨h2,u0,u1,u2,u3,u4,ov,kk,rfl,hkk,ho⟩
 have hfl:=b2t q xs i kk
 have hfI:=b8p hq xs i kk
 unfold c1o
 by_cases hkn:kk = xs.length
 ·subst hkn
  refine Xa0 ?_
  exact k _ _ h2 ho
 have hkl:(kk:Int) < xs.length:=by omega
 refine Xa @hkl ?_
 refine ⟨g9e q xs i kk w,?_,?_⟩
 rotate_left
 ·rintro _ _ w3 ⟨h3,v0,v1,v2,v3,v4,ov3,rfl,ho3⟩
  refine Xa0 ?_
  refine ⟨⟨h3,_,_,_,_,_,_,kk + 1,rfl,by omega,ho3⟩,?_⟩
  show xs.length - (((kk + 1:Nat):Int)).toNat < xs.length - ((kk:Nat):Int).toNat
  omega
 have hst:a2f q xs i (kk + 1) = if kk = i then a2f q xs i kk else b6i q (xs.getD kk 0) (c5h q (a3g q (xs.getD i 0) (xs.getD kk 0))) (a2f q xs i kk) (a2f q xs i kk).length (List.replicate ((a2f q xs i kk).length + 1) 0):=rfl
 have hfL:(a2f q xs i kk).length ≤ 65:=by rw [hfl]; omega
 by_cases hki:kk = i
 ·have hki':(kk:Int) = (i:Int):=by omega
  refine Xa @hki' ?_
  refine ⟨h2,_,_,_,_,_,_,rfl,?_⟩
  rw [hst,if_pos hki]
  exact ho
 have hki':¬ (kk:Int) = (i:Int):=by omega
 refine Xa @hki' ?_
 rw [if_neg hki] at hst
 have hoi:=ho.ints hfI (by omega)
 obtain ⟨oad,oc,rfl⟩:=a2m ho
 obtain ⟨bi,oi,e1,_,ci,_,_⟩:=hx'.at (i:=i) (by omega)
 subst e1
 obtain ⟨bj,oj,e2,_,cj,_,_⟩:=hx'.at (i:=kk) (by omega)
 cases e2
 have ei:=getD_some (l:=xs) (i:=i) hi
 have ek:=getD_some (l:=xs) (i:=kk) (by omega)
 have e3:xs[i] = xs.getD i 0:=(gS ei).2
 have e4:xs[kk] = xs.getD kk 0:=(gS ek).2
 rw [e3] at ci
 rw [e4] at cj
 clear e3 e4 ei
 generalize a2f q xs i kk = o at *
 generalize xs.getD kk 0 = x at *
 generalize xs.getD i 0 = xi at *
 have hil:(i:Int) < xs.length:=by omega
 unfold b7v
 simp only [List.getD_cons_succ,List.getD_cons_zero]
 have hW:Below w.heap.size w { w2 with drawn:=w2.drawn + 1 }:=h2.on .drawn
 have hod:Ints { w2 with drawn:=w2.drawn + 1 } (.slice oad o.length oc) o:=hoi.next .drawn
 have hsz:({ w2 with drawn:=w2.drawn + 1 }:World).heap.size = w2.heap.size:=rfl
 refine ⟨Nx { w2 with drawn:=w2.drawn + 1 },bR,by trivial,?_⟩
 generalize ({ w2 with drawn:=w2.drawn + 1 }:World) = W9 at *
 refine Xf (fun W0 hW0=>An2 (ci _ (hW.on hW0)) (cj _ (hW.on hW0))) (An2 @hil @hkl) ?_
 refine ⟨Nx,?_⟩
 apply a1i
 ·(intro w9 h9; repeat (intro v9 e9; try (obtain rfl:=e9)))
  refine Xa0 ?_
  exact c3r _ _ _ ⟨h9,bR,rfl⟩
 apply a1i
 ·(intro w9 h9; repeat (intro v9 e9; try (obtain rfl:=e9)))
  refine Xa0 ?_
  exact d9y _ _ ⟨h9,bR,rfl⟩
 refine Xd0 ?_
 (intro w9 h9; repeat (intro v9 e9; try (obtain rfl:=e9)))
 have hsc:(b4g q (a3g q xi x)).getD 0 = c5h q (a3g q xi x):=rfl
 rw [hsc]
 generalize c5h q (a3g q xi x) = sc at *
 have hww:=hW.on h9
 refine Xa0 ?_
 have em:(o.length:Int) + 1 = ((o.length + 1:Nat):Int):=by omega
 rw [em]
 refine b7a (by omega) (fun gg W3 h3 hgg hR=>?_)
 have hsw:w.heap.size ≤ w9.heap.size:=hww.size
 refine Xa0 ?_
 refine ⟨g4s q x sc o gg w9,(fun vs _=>match vs with | [_,.int _ t]=>o.length - t.toNat | _=>0),⟨h3,_,0,rfl,by omega,hR⟩,?_⟩
 intro l45 u45 W4 hJ4
 refine e0j q xs i kk o (hx'.next hww) (hod.next h9) ek (by omega) hJ4 (fun W5 u v h5 hR5=>?_)
 refine ⟨hww.on h5,_,_,_,_,_,_,rfl,?_⟩
 have ho5:=hR5.owns
 rw [b0k,List.length_replicate] at ho5
 have hl2:(b6i q x sc o o.length (List.replicate (o.length + 1) 0)).length = o.length + 1:=by rw [b0k,List.length_replicate]
 rw [hst]
 exact a2b ho5 (fun j hj=>by cases hj; show w.heap.size ≤ gg; omega)
def g9f (q:Int) (xs ys:List Int) (g:Nat) (w0 W1:World) (vs:List Value) (W:World):Prop:=Bw w0 W ∧ ∃ (u v:Value) (i:Nat),vs = [u,v,.int .i64 (i:Int)] ∧ i ≤ xs.length ∧ RowP W w0.heap.size g xs.length (a8j q xs ys i)
def g9g (q y:Int) (p o:List Int) (g:Nat) (w0:World) (pv:Value) (vs:List Value) (W:World):Prop:=Bw w0 W ∧ ∃ t:Nat,vs = [.int .i64 (t:Int)] ∧ t ≤ p.length ∧ RowP W w0.heap.size g o.length (c2v q y p t o) ∧ Ints W pv p
theorem c6q (q:Int) (xs ys:List Int):∀ i,∀ y ∈ a8j q xs ys i,I64 y
 | 0=>fun y hy=>by rw [a8j] at hy; rw [(List.mem_replicate.1 hy).2]; exact b2b
 | i + 1=>by
  rw [a8j]
  generalize (a2f q xs i xs.length).length = n
  induction n with
  | zero=>rw [c2v]; exact c6q q xs ys i
  | succ n ih=>rw [c2v]; exact c8n ih (a7d _ _ _)
set_option maxHeartbeats 1000000 in
theorem b8r (q:Int) (xs ys:List Int) {xv yv:Value} (hx:Ints w xv xs) (hy:Ints w yv ys) (hp:a3b q = true) (h64:xs.length ≤ 64) (hd:(xs.map (fun x=>x % q)).Nodup) (hlen:xs.length = ys.length)
  (k:∀ v w',Bw w w' → Ints w' v (d4e q xs ys) → K (.tuple #[v,.bool true]) w'):a0a Tryz.prog 165 #[.int .i64 q,xv,yv] K w:=by
 apply d7y
 unfold f2f
 have hx':=hx
 have hy':=hy
 obtain ⟨xad,xc,rfl⟩:=hx.isSlice
 obtain ⟨yad,yc,rfl⟩:=hy.isSlice
 have hl:=hx'.len
 have hl2:=hy'.len
 have hq:=b6z hp
 have hlen':(xs.length:Int) = ys.length:=by omega
 refine b8m q (fun w1 h1=>?_)
 rw [hp]
 refine Xa0 ?_
 refine c3u q xs (hx'.next h1) hq h64 hd (fun w2 h2=>?_)
 have h2:=h1.on h2
 refine Xa @hlen' ?_
 rw [← hlen]
 refine b7a (by omega) (fun gg W3 h3 hgg hR=>?_)
 have h23:=h2.on h3
 have hs2:=h2.size
 refine Xa0 ?_
 refine ⟨g9f q xs ys gg w w2,(fun vs _=>match vs with | [_,_,.int _ i]=>xs.length - i.toNat | _=>0),⟨h23,_,_,0,rfl,by omega,⟨hR.cells,hR.le,by omega,hR.max⟩⟩,?_⟩
 clear hR h23 h3
 rintro _ _ w4 ⟨h4,u,v,i,rfl,hi,hR⟩
 have hnl:=b2u q xs ys i
 by_cases hin:i = xs.length
 ·subst hin
  refine Xa @hlen' ?_
  have ho:=hR.owns
  rw [hnl] at ho
  exact k _ _ h4 (ho.ints (c6q q xs ys xs.length) (by omega))
 have hil:(i:Int) < xs.length:=by omega
 refine Xa @hil ?_
 refine b8q q xs i (hx'.next h4) hq (by omega) h64 (fun pv w5 h5 ho5=>?_)
 have hR5:=hR.next h5
 have h45:=h4.on h5
 have hpl:(a2f q xs i xs.length).length = xs.length:=by rw [b2t,if_pos (by omega)]; omega
 have hpI:=b8p hq xs i xs.length
 have hst:a8j q xs ys (i + 1) = c2v q (ys.getD i 0) (a2f q xs i xs.length) (a2f q xs i xs.length).length (a8j q xs ys i):=rfl
 obtain ⟨pad,pc,rfl⟩:=a2m ho5
 have hpi:=ho5.ints hpI (by omega)
 have hgl:gg < w4.heap.size:=hR.lt
 have hpb:∀ j,Value.inBlock (.slice pad (a2f q xs i xs.length).length pc) = some j → some gg ≠ some j:=fun j e=>by
  have:=(a0d ho5 (a7m ho5 e)).2.1
  intro e2; cases e2; omega
 have hgw:w.heap.size ≤ gg:=hR.base
 generalize a2f q xs i xs.length = p at *
 generalize a8j q xs ys i = o at *
 obtain ⟨by',oy,e1,_,cy,_,_⟩:=hy'.at (i:=i) (by omega)
 subst e1
 have eyi:=getD_some (l:=ys) (i:=i) (by omega)
 have e3:ys[i] = ys.getD i 0:=(gS eyi).2
 rw [e3] at cy
 clear e3 eyi
 generalize ys.getD i 0 = y at *
 have hiy:(i:Int) < ys.length:=by omega
 refine Xa0 ?_
 refine ⟨g9g q y p o gg w (.slice pad p.length pc),(fun vs _=>match vs with | [.int _ t]=>p.length - t.toNat | _=>0),⟨h45,0,rfl,by omega,by rw [hnl]; exact hR5,hpi⟩,?_⟩
 clear hR5 hpi h45 hR ho5
 rintro _ _ w6 ⟨h6,t,rfl,ht,hR6,hpi6⟩
 unfold b7x
 by_cases htn:t = p.length
 ·subst htn
  refine Xa @hlen' ?_
  refine ⟨⟨h6,_,_,i + 1,rfl,by omega,by rw [hst]; rw [hnl] at hR6; exact hR6⟩,?_⟩
  show xs.length - (((i + 1:Nat):Int)).toNat < xs.length - ((i:Nat):Int).toNat
  omega
 have htl:(t:Int) < p.length:=by omega
 have htx:(t:Int) < xs.length:=by omega
 obtain ⟨bp,op,e2,_,cp,_,_⟩:=hpi6.at (i:=t) (by omega)
 subst e2
 have ept:=getD_some (l:=p) (i:=t) (by omega)
 have e4:p[t] = p.getD t 0:=(gS ept).2
 rw [e4] at cp
 clear e4 ept
 have hal:=b6j q y p o t
 have hstep:c2v q y p (t + 1) o = (c2v q y p t o).set t (a6i q ((c2v q y p t o).getD t 0) (a2n q (p.getD t 0) y)):=rfl
 have ert:=getD_some (l:=c2v q y p t o) (i:=t) (by omega)
 generalize c2v q y p t o = r at *
 generalize p.getD t 0 = pt at *
 generalize r.getD t 0 = rt at *
 refine Xa (An2 @htl @htx) ?_
 unfold b7w
 simp only [List.getD_cons_succ,List.getD_cons_zero]
 have hW:Below w.heap.size w { w6 with drawn:=w6.drawn + 1 }:=h6.on .drawn
 have hWd:Below w6.heap.size w6 { w6 with drawn:=w6.drawn + 1 }:=.drawn
 have hRd:RowP { w6 with drawn:=w6.drawn + 1 } w.heap.size gg o.length r:=hR6.next .drawn
 have hpd:=hpi6.next (w':={ w6 with drawn:=w6.drawn + 1 }) .drawn
 refine ⟨Nx { w6 with drawn:=w6.drawn + 1 },bR,by trivial,?_⟩
 generalize ({ w6 with drawn:=w6.drawn + 1 }:World) = W9 at *
 refine Xf (fun W0 hW0=>An3 ((hRd.next hW0).cell ert) (cp _ (hWd.on hW0)) (cy _ (hW.on hW0))) (An3 @htl @htx @hiy) ?_
 refine ⟨Nx,?_⟩
 apply a1i
 ·(intro w9 h9; repeat (intro v9 e9; try (obtain rfl:=e9)))
  refine Xa0 ?_
  exact a4w _ _ _ ⟨h9,bR,rfl⟩
 apply a1i
 ·(intro w9 h9; repeat (intro v9 e9; try (obtain rfl:=e9)))
  refine Xa0 ?_
  exact b8k _ _ _ ⟨h9,bR,rfl⟩
 (intro w9 h9; repeat (intro v9 e9; try (obtain rfl:=e9)))
 refine Xa @htx ?_
 refine (hRd.next h9).set (i:=t) (by omega) (fun W3 hg3 hR3=>?_)
 have hb3:=a0m (hW.on h9) hg3 hgw
 refine Xa0 ?_
 refine ⟨⟨hb3,t + 1,rfl,by omega,by rw [hstep]; exact hR3,a6h (hpd.next h9) hg3 hpb⟩,?_⟩
 show p.length - (((t + 1:Nat):Int)).toNat < p.length - ((t:Nat):Int).toNat
 omega
theorem e0k {q r:Int} {bs:List Bool} {ds:List Int} (h:Sm q bs.length) (hd:ds.length = bs.length) {k:Nat} (hk:k < bs.length):(a1y q bs ds r)[k]? = some (atM q (d4e q (0 :: a7b 0 bs) (r :: a7c bs ds)) ((k:Int) + 1)):=by
 unfold a1y
 rw [List.getElem?_map,List.getElem?_range hk,d2e h hd]
 show some (atM q (thr q (c6d bs) (r :: a7c bs ds)) ((k:Int) + 1)) = some (atM q (d4e q (c6d bs) (r :: a7c bs ds)) ((k:Int) + 1))
 rw [f4w h.ok (by rw [f3e,List.length_cons,PrSpec.ptsY_len bs ds hd]) (e6e h)]
theorem d0q {q:Int} {bs:List Bool} (h:Sm q bs.length):((0 :: a7b 0 bs).map (fun x=>x % q)).Nodup:=of_decide_eq_true (b8d h)
theorem f6j (q:Int) (p:List Int) (x:Int):I64 (atM q p x):=by
 unfold atM
 cases p with
 | nil=>exact b2b
 | cons a l=>exact a7d _ _ _
theorem ptI {r:Int} {bs:List Bool} {ds:List Int} (hr:I64 r) (hds:∀ x ∈ ds,I64 x):(∀ x ∈ (r :: a7c bs ds),I64 x):=fun n hn=>by
 rcases List.mem_cons.1 hn with rfl | hn
 ·exact hr
 ·exact hds _ (c3k bs ds n hn)
theorem pxI {bs:List Bool} (h:bs.length ≤ 1000):(∀ x ∈ (0 :: a7b 0 bs),I64 x):=fun n hn=>by
 rcases List.mem_cons.1 hn with rfl | hn
 ·exact b2b
 ·have:=c8f bs 0 n hn; unfold I64; omega
def g9h (bs:List Bool) (r:Int) (ds:List Int) (w0:World) (vs:List Value) (W:World):Prop:=∃ (xv yv:Value) (i:Nat),vs = [xv,yv,.int .i64 (i:Int)] ∧ i ≤ bs.length ∧ PtR bs r ds w0 xv yv i W
def g9i (T:List Int) (w0:World) (vs:List Value) (W:World):Prop:=Bw w0 W ∧ ∃ (v:Value) (i:Nat),vs = [v,.int .i64 (i:Int)] ∧ i ≤ T.length ∧ OwnI W w0.heap.size v (T.take i)
set_option maxHeartbeats 1000000 in
theorem e6u (s:Stp) (cl:Cls) (bs:List Bool) (ds:List Int) (r:Int) {sv cv bv dv:Value} {cad:Option Addr} {cn cc:Nat} (hcv:cv = .slice cad cn cc) (hs:SetR w s sv) (hb:b1e w bv bs) (hd:Ints w dv ds) (hr:I64 r) (hl:ds.length = bs.length) (hsm:Sm s.g.Q bs.length)
  (k:∀ v w',Bw w w' → OwnI w' w.heap.size v (a1y s.g.Q bs ds r) → K v w'):a0a Tryz.prog 102 #[a6b s sv,g4f cl cv,bv,dv,.int .i64 r] K w:=by
 subst hcv
 apply d7t
 unfold f2a
 have hs':=hs
 obtain ⟨ad,c,rfl⟩:=hs.ints.isSlice
 obtain ⟨bad,bc,rfl⟩:=hb.isSlice
 obtain ⟨dad,dc,rfl⟩:=hd.isSlice
 have hlb:=hb.len
 have hld:=hd.len
 have hmax:=hsm.n16
 refine a0l (cs:=a2r s (.slice ad s.bases.length c)) rfl (.start w) fun b1 W0 hk hb1 hbb=>?_
 refine a0l (cs:=e9h cl (.slice cad cn cc)) rfl hk fun b2 W1 hk hb2 hbb2=>?_
 refine e3z 0 (fun xv W2 h2 hx2=>?_)
 refine e3z r (fun yv W3 h3 hy3=>?_)
 have hap:apart xv yv:=fun i e1 e2=>by have:=(a0d hx2 e1).1; have:=(a0d hy3 e2).2.1; omega
 have h13:=h2.on h3
 refine ⟨g9h bs r ds W1,(fun vs _=>match vs with | [_,_,.int _ i]=>bs.length - i.toNat | _=>0),⟨_,_,0,rfl,by omega,h13,hx2.keep h3,a2b hy3 (fun i hi=>Nat.le_trans h2.size (a0d hy3 hi).2.1),hap⟩,?_⟩
 clear hx2 hy3 hap h13 h2 h3
 rintro _ _ W4 ⟨xv,yv,i,rfl,hi,h4,hox,hoy,hap⟩
 have hk4:=hk.next h4
 unfold c1i
 by_cases hin:¬ i = bs.length
 ·have eb:bs[i]? = some bs[i]:=gE (by omega)
  have ed:ds[i]? = some ds[i]:=gE (by omega)
  obtain ⟨b5,o5,rfl,hlt5,cs5,_,hcell5,v5,rfl,hv5⟩:=hb.at (i:=i) (by omega)
  obtain ⟨b6,o6,rfl,hlt6,hcell6,hr6,_⟩:=hd.at (i:=i) (by omega)
  have c5:=hcell5 0 _ rfl
  simp only [Nat.add_zero,Nat.mul_one] at c5
  unfold b7j at hv5
  subst hv5
  have hib:(i:Int) < bs.length:=by omega
  have hid:(i:Int) < ds.length:=by omega
  have hxl:=b4b bs i
  have hyl:=b4c r bs ds i
  have hxs:=b6c eb
  have hys:=b6d (r:=r) eb ed
  generalize hbv:bs[i] = b at *
  generalize ds[i] = d at *
  refine Xa @hib ?_
  refine ⟨fun l W=>∃ xv' yv',l = [xv',yv'] ∧ PtR bs r ds W1 xv' yv' (i + 1) W,?_,?_⟩
  ·unfold c1h
   simp only [List.getD_cons_succ,List.getD_cons_zero]
   cases b with
   | true=>
    refine Xa (An2 ((hk4.below.cell hlt5).trans c5) @hib) ?_
    refine ⟨_,_,rfl,h4,?_,?_,hap⟩
    ·rw [hxs]; simpa using hox
    ·rw [hys]; simpa using hoy
   | false=>
    refine Xb5 (An2 ((hk4.below.cell hlt5).trans c5) @hib) ?_
    have hx1:xsI bs (i + 1) = xsI bs i ++ [(i:Int) + 1]:=hxs
    have hy1:ysI r bs ds (i + 1) = ysI r bs ds i ++ [d]:=hys
    have htwo:=Two.start hox hoy hap h4.size
    have hn1:(xsI bs i).length < 1099511627776:=by omega
    have hn2:(ysI r bs ds i).length < 1099511627776:=by omega
    have hI1:I64 ((i:Int) + 1):=by unfold I64; omega
    refine c9k _ hI1 (fun y7 w7 h7 hy7 hb7=>?_)
    have t7:=htwo.next h7
    refine t7.addB hy7 hn1 (fun v8 w8 t8 hg8=>?_)
    have hb8:=t8.below h4 hox hoy (rL)
    have hk8:=hk.next hb8
    refine Xb2 (An2 (hcell6 _ hk8.below) @hid) ?_
    refine c9k d hr6 (fun y9 w9 h9 hy9 hb9=>?_)
    have t9:=t8.next h9
    refine t9.addE hy9 hn2 (fun v10 w10 t10 hg10=>?_)
    exact ⟨_,_,rfl,t10.below h4 hox hoy (rL),by rw [hx1]; exact t10.ob,by rw [hy1]; exact t10.oe,t10.ap⟩
  ·rintro _ _ W5 ⟨xv',yv',rfl,hP⟩
   refine Xa0 ?_
   exact ⟨⟨_,_,i + 1,rfl,by omega,hP⟩,by show bs.length - (((i + 1:Nat):Int)).toNat < bs.length - ((i:Nat):Int).toNat; omega⟩
 have hin:i = bs.length:=by omega
 subst hin
 have ex:xsI bs bs.length = 0 :: a7b 0 bs:=by unfold xsI; rw [List.take_length]
 have ey:ysI r bs ds bs.length = r :: a7c bs ds:=by unfold ysI; rw [List.take_length,List.take_of_length_le (by omega)]
 have hxl:=b4b bs bs.length
 have hyl:=b4c r bs ds bs.length
 rw [ex] at hox hxl
 rw [ey] at hoy hyl
 have hle:(0 :: a7b 0 bs).length = (r :: a7c bs ds).length:=by
  rw [List.length_cons,List.length_cons,PrSpec.ptsX_len,PrSpec.ptsY_len bs ds hl]
 refine Xa hk4.cells ?_
 refine b8r s.g.Q (0 :: a7b 0 bs) (r :: a7c bs ds) (hox.ints (pxI (by omega)) (by omega)) (hoy.ints (ptI hr hd.rng) (by omega)) hsm.pr (by omega) (d0q hsm) hle (fun pv W5 h5 hpi=>?_)
 have hk5:=hk4.next h5
 have hF:(a1y s.g.Q bs ds r).length = bs.length:=by simp [a1y]
 have hFe:∀ i,i < bs.length → (a1y s.g.Q bs ds r)[i]? = some (atM s.g.Q (d4e s.g.Q (0 :: a7b 0 bs) (r :: a7c bs ds)) ((i:Int) + 1)):=fun i hi=>e0k hsm hl hi
 generalize a1y s.g.Q bs ds r = F at *
 generalize d4e s.g.Q (0 :: a7b 0 bs) (r :: a7c bs ds) = T at *
 refine Xa0 ?_
 refine ⟨g9i F W5,(fun vs _=>match vs with | [_,.int _ i]=>bs.length - i.toNat | _=>0),⟨bR,_,0,rfl,by omega,a3u⟩,?_⟩
 rintro _ _ W6 ⟨h6,v,i,rfl,hi,ho⟩
 rw [hF] at hi
 have hk6:=hk5.next h6
 unfold b7r
 by_cases hin:i = bs.length
 ·subst hin
  refine Xa0 ?_
  rw [List.take_of_length_le (by omega)] at ho
  exact k _ _ hk6.below (a2b ho (fun j hj=>Nat.le_trans hk5.below.size (a0d ho hj).2.1))
 have hib:(i:Int) < bs.length:=by omega
 have hFi:=hFe i (by omega)
 refine Xa (An2 hk6.cells @hib) ?_
 refine f3k _ _ T (hpi.next h6) (fun W7 h7=>?_)
 refine mk1 _ (f6j _ _ _) (fun v8 W8 h8 hi8=>?_)
 have h68:=h7.on h8
 refine a9u (ho.keep h68) (Nat.le_trans h6.size h68.size) hi8 (by simp only [List.length_take]; omega) (fun v9 W9 ho9 h9=>?_)
 refine Xa0 ?_
 refine ⟨⟨(h6.on h68).trans h9,_,i + 1,rfl,by omega,?_⟩,by show bs.length - (((i + 1:Nat):Int)).toNat < bs.length - ((i:Nat):Int).toNat; omega⟩
 rw [← a2s hFi]
 exact ho9
theorem c6r (n:Nat) (need:Int):(a5y n need).length = n:=by simp [a5y]
theorem d0r {n:Nat} {need:Int} {k:Nat} (h:k < n):(a5y n need)[k]? = some (decide ((n:Int) - need ≤ (k:Int))):=by
 unfold a5y
 rw [List.getElem?_map,List.getElem?_range h]; rfl
theorem e0l {n:Nat} {need r:Int} {ds:List Int} (hd:ds.length = n) (j:Nat):∀ (i:Nat),(n:Int) - need ≤ (i:Int) → i + j = n → xsI (a5y n need) i = 0 :: a7b 0 (a5y n need) ∧ ysI r (a5y n need) ds i = r :: a7c (a5y n need) ds:=by
 induction j with
 | zero=>
  intro i h e
  have:i = n:=by omega
  subst this
  unfold xsI ysI
  rw [List.take_of_length_le (by rw [c6r]; omega),List.take_of_length_le (by omega)]
  exact ⟨rfl,rfl⟩
 | succ j ih=>
  intro i h e
  have hb:=d0r (need:=need) (show i < n by omega)
  rw [decide_eq_true h] at hb
  have ed:ds[i]? = some ds[i]:=gE (by omega)
  obtain ⟨h1,h2⟩:=ih (i + 1) (by omega) (by omega)
  rw [b6c hb] at h1
  rw [b6d hb ed] at h2
  rw [if_pos rfl,List.append_nil] at h1 h2
  exact ⟨h1,h2⟩
def g9j (F d:List Int) (w0:World) (L:List (Addr × Value)) (vs:List Value) (W:World):Prop:=Kn w0 L W ∧ ∃ (u:Value) (i:Nat),vs = [u,.int .i64 (i:Int)] ∧ i ≤ d.length ∧ ∀ j,j < i → F[j]? = d[j]?
def g9k (bs:List Bool) (r:Int) (ds:List Int) (m:Int) (w0:World) (vs:List Value) (W:World):Prop:=∃ (xv yv:Value) (i:Nat),vs = [xv,yv,.int .i64 (i:Int)] ∧ (i:Int) ≤ m ∧ PtR bs r ds w0 xv yv i W
set_option maxHeartbeats 1000000 in
theorem f6k (s:Stp) (cl:Cls) (ds:List Int) (r:Int) {sv cv dv:Value} {cad:Option Addr} {cn cc:Nat} (hcv:cv = .slice cad cn cc) (hs:SetR w s sv) (hd:Ints w dv ds) (hr:I64 r) (hl:ds.length = cl.claims.length) (hneed:1 ≤ cl.need ∧ cl.need ≤ cl.claims.length) (hsm:Sm s.g.Q cl.claims.length)
  (k:∀ w',Bw w w' → K (.bool (decide (a1y s.g.Q (a5y cl.claims.length cl.need) ds r = ds))) w'):a0a Tryz.prog 118 #[a6b s sv,g4f cl cv,dv,.int .i64 r] K w:=by
 subst hcv
 apply d7u
 unfold f2b
 have hs':=hs
 obtain ⟨ad,c,rfl⟩:=hs.ints.isSlice
 obtain ⟨dad,dc,rfl⟩:=hd.isSlice
 have hld:=hd.len
 have hmax:=hsm.n16
 generalize hnn:cl.claims.length = nn at *
 have hbl:=c6r nn cl.need
 have hsm':Sm s.g.Q (a5y nn cl.need).length:=by rw [hbl]; exact hsm
 have hlast:=fun i h e=>e0l (n:=nn) (need:=cl.need) (r:=r) (ds:=ds) hl (nn - i) i h e
 have hbat:=fun k (h:k < nn)=>d0r (need:=cl.need) h
 generalize a5y nn cl.need = bs at *
 obtain ⟨m,hm⟩:∃ m:Nat,(nn:Int) - cl.need = m:=⟨((nn:Int) - cl.need).toNat,by omega⟩
 refine a0l (cs:=a2r s (.slice ad s.bases.length c)) rfl (.start w) fun b1 W0 hk hb1 hbb=>?_
 refine a0l (cs:=e9h cl (.slice cad cn cc)) rfl hk fun b2 W1 hk hb2 hbb2=>?_
 refine e3z 0 (fun xv W2 h2 hx2=>?_)
 refine e3z r (fun yv W3 h3 hy3=>?_)
 have hap:apart xv yv:=fun i e1 e2=>by have:=(a0d hx2 e1).1; have:=(a0d hy3 e2).2.1; omega
 have h13:=h2.on h3
 refine ⟨g9k bs r ds (m:Int) W1,(fun vs _=>match vs with | [_,_,.int _ i]=>bs.length - i.toNat | _=>0),⟨_,_,0,rfl,by omega,h13,hx2.keep h3,a2b hy3 (fun i hi=>Nat.le_trans h2.size (a0d hy3 hi).2.1),hap⟩,?_⟩
 clear hx2 hy3 hap h13 h2 h3
 rintro _ _ W4 ⟨xv,yv,i,rfl,hi,h4,hox,hoy,hap⟩
 have hk4:=hk.next h4
 have hsub:(ds.length:Int) - cl.need = (m:Int):=by omega
 unfold c1j
 by_cases hin:¬ i = m
 ·have eb:=hbat i (by omega)
  rw [decide_eq_false (by omega)] at eb
  have ed:ds[i]? = some ds[i]:=gE (by omega)
  obtain ⟨b6,o6,rfl,hlt6,hcell6,hr6,_⟩:=hd.at (i:=i) (by omega)
  have him:(i:Int) < (m:Int):=by omega
  have hid:(i:Int) < ds.length:=by omega
  have hxl:=b4b bs i
  have hyl:=b4c r bs ds i
  have hx1:xsI bs (i + 1) = xsI bs i ++ [(i:Int) + 1]:=b6c eb
  have hy1:ysI r bs ds (i + 1) = ysI r bs ds i ++ [ds[i]]:=b6d eb ed
  generalize ds[i] = d at *
  refine Xb7 (An3 hk4.cells @hsub @him) ?_
  have htwo:=Two.start hox hoy hap h4.size
  have hn1:(xsI bs i).length < 1099511627776:=by omega
  have hn2:(ysI r bs ds i).length < 1099511627776:=by omega
  have hI1:I64 ((i:Int) + 1):=by unfold I64; omega
  refine c9k _ hI1 (fun y7 w7 h7 hy7 hb7=>?_)
  have t7:=htwo.next h7
  refine t7.addB hy7 hn1 (fun v8 w8 t8 hg8=>?_)
  have hb8:=t8.below h4 hox hoy (rL)
  have hk8:=hk.next hb8
  refine Xb2 (An2 (hcell6 _ hk8.below) @hid) ?_
  refine c9k d hr6 (fun y9 w9 h9 hy9 hb9=>?_)
  have t9:=t8.next h9
  refine t9.addE hy9 hn2 (fun v10 w10 t10 hg10=>?_)
  refine Xa0 ?_
  refine ⟨⟨_,_,i + 1,rfl,by omega,t10.below h4 hox hoy (rL),by rw [hx1]; exact t10.ob,by rw [hy1]; exact t10.oe,t10.ap⟩,?_⟩
  show bs.length - (((i + 1:Nat):Int)).toNat < bs.length - ((i:Nat):Int).toNat
  omega
 have hin:i = m:=by omega
 subst hin
 obtain ⟨ex,ey⟩:=hlast i (by omega) (by omega)
 have hxl:=b4b bs i
 have hyl:=b4c r bs ds i
 rw [ex] at hox hxl
 rw [ey] at hoy hyl
 have hle:(0 :: a7b 0 bs).length = (r :: a7c bs ds).length:=by
  rw [List.length_cons,List.length_cons,PrSpec.ptsX_len,PrSpec.ptsY_len bs ds (by omega)]
 have hno:¬ (i:Int) < (i:Int):=by omega
 refine Xa (An3 hk4.cells @hsub @hno) ?_
 refine b8r s.g.Q (0 :: a7b 0 bs) (r :: a7c bs ds) (hox.ints (pxI (by omega)) (by omega)) (hoy.ints (ptI hr hd.rng) (by omega)) hsm.pr (by omega) (d0q hsm') hle (fun pv W5 h5 hpi=>?_)
 have hk5:=hk4.next h5
 have hF:(a1y s.g.Q bs ds r).length = bs.length:=by simp [a1y]
 have hFe:∀ i,i < bs.length → (a1y s.g.Q bs ds r)[i]? = some (atM s.g.Q (d4e s.g.Q (0 :: a7b 0 bs) (r :: a7c bs ds)) ((i:Int) + 1)):=fun i hi=>e0k hsm' (by omega) hi
 generalize a1y s.g.Q bs ds r = F at *
 generalize d4e s.g.Q (0 :: a7b 0 bs) (r :: a7c bs ds) = T at *
 refine Xa0 ?_
 refine ⟨g9j F ds W5 (cellsOf (cellsOf [] b1 0 (a2r s (.slice ad s.bases.length c))) b2 0 (e9h cl (.slice cad cn cc))),b2m ds.length,⟨⟨bR,hk5.cells⟩,_,0,rfl,by omega,fun j hj=>by omega⟩,?_⟩
 rintro _ _ W6 ⟨hk6,u,j,rfl,hj,hall⟩
 by_cases hjn:j = ds.length
 ·subst hjn
  have e:F = ds:=by
   apply List.ext_getElem?
   intro t
   by_cases ht:t < ds.length
   ·exact hall t ht
   ·rw [List.getElem?_eq_none (by omega),List.getElem?_eq_none (by omega)]
  rw [decide_eq_true e] at k
  refine Xa0 ?_
  exact k _ (hk5.below.on hk6.below)
 have hjd:(j:Int) < ds.length:=by omega
 have hFj:=hFe j (by omega)
 obtain ⟨b6,o6,rfl,hlt6,hcell6,hr6,_⟩:=hd.at (i:=j) (by omega)
 have ed:ds[j]? = some ds[j]:=gE (by omega)
 generalize ds[j] = d at *
 refine Xa @hjd ?_
 unfold b7s
 simp only [List.getD_cons_succ,List.getD_cons_zero]
 have hk9:=hk6.drew
 refine ⟨Nx { W6 with drawn:=W6.drawn + 1 },bR,by trivial,?_⟩
 generalize ({ W6 with drawn:=W6.drawn + 1 }:World) = W9 at *
 refine Xf (fun W0 hW0=>An2 ((hk9.next hW0).cells) (hcell6 _ (hk5.below.on (hk9.next hW0).below))) @hjd ?_
 refine ⟨Nx,?_⟩
 apply a1i
 ·(intro w9 h9; repeat (intro v9 e9; try (obtain rfl:=e9)))
  refine Xa0 ?_
  exact f3k _ _ T (hpi.next (hk9.next h9).below) (fun w2 h2=>⟨h9.on h2,h2,rfl⟩)
 (intro w9 h9; repeat (intro v9 e9; try (obtain rfl:=e9)))
 by_cases hdd:atM s.g.Q T ((j:Int) + 1) = d
 ·refine Xa @hdd ?_
  refine ⟨⟨hk9.next h9,_,j + 1,rfl,by omega,fun t ht=>?_⟩,?_⟩
  ·by_cases htj:t = j
   ·subst htj; rw [hFj,ed,hdd]
   ·exact hall t (by omega)
  ·simp only [a1u]; omega
 ·refine Xa @hdd ?_
  rw [decide_eq_false (fun e=>hdd (by rw [e,ed] at hFj; exact (oI hFj).symm))] at k
  exact k _ (hk5.below.on (hk9.next h9).below)
end
end Go.Proofs
namespace Go.Proofs
open Go.Sh Tryz
variable {a0:Value} {K:VK} {w:World}
def f1r (a0:Value) (K:VK) (w:World):Prop:=
 kB .rem 3 3 a0 (.int .i64 10) (fun v5=>
 kB .sub 3 3 (.int .i64 48) v5 fun v6=>
 oM prog (.convert 3 5 (.tmp 0)) 5 [v6] fun v7=>
 oM prog (.buildSlice 202 1 #[(0,(.tmp 0))]) 202 [v7] fun v8=>
 oM prog (.convert 202 9 (.tmp 0)) 9 [v8] fun v9=>
 kB .gtr 3 4 a0 (.int .i64 (-10)) fun v11=>
 kO v11 (K v9)
 (kB .quo 3 3 a0 (.int .i64 10) fun v14=>
 a0a prog 176 #[v14] fun v15=>
 kB .add 9 9 v15 v9 fun v17=>
 K v17)) w
theorem d7k (h:f1r a0 K w):a0a prog 176 #[a0] K w:=
 cZ (fun _=>0) func176 h
def f1s (a0:Value) (K:VK) (w:World):Prop:=
 kB .lss 3 4 a0 (.int .i64 0) (fun v4=>
 kO v4 (a0a prog 176 #[a0] fun v6=>
 oM prog (.binOp .add 9 (.tmp 0) (.tmp 1) 9) 9 [(.string ⟨#[45]⟩),v6] fun v7=>
 oM prog (.binOp .add 9 (.tmp 0) (.tmp 1) 9) 9 [v7,(.string ⟨#[59]⟩)] fun v8=>
 K v8)
 (oM prog (.unOp .neg 3 (.tmp 0)) 3 [a0] fun v10=>
 a0a prog 176 #[v10] fun v11=>
 oM prog (.binOp .add 9 (.tmp 0) (.tmp 1) 9) 9 [v11,(.string ⟨#[59]⟩)] fun v12=>
 K v12)) w
theorem d7l (h:f1s a0 K w):a0a prog 177 #[a0] K w:=
 cZ (fun _=>0) func177 h
def f1t (a0:Value) (K:VK) (w:World):Prop:=
 kN 9 a0 (fun v4=>
 oM prog (.unOp .neg 3 (.tmp 0)) 3 [v4] fun v5=>
 a0a prog 176 #[v5] fun v6=>
 oM prog (.binOp .add 9 (.tmp 0) (.tmp 1) 9) 9 [v6,(.string ⟨#[58]⟩)] fun v7=>
 kB .add 9 9 v7 a0 fun v9=>
 oM prog (.binOp .add 9 (.tmp 0) (.tmp 1) 9) 9 [v9,(.string ⟨#[44]⟩)] fun v10=>
 K v10) w
theorem d7m (h:f1t a0 K w):a0a prog 164 #[a0] K w:=
 cZ (fun _=>0) func164 h
def f1u (a0:Value) (K:VK) (w:World):Prop:=
 kN 24 a0 (fun v6=>
 oM prog (.unOp .neg 3 (.tmp 0)) 3 [v6] fun v7=>
 a0a prog 176 #[v7] fun v8=>
 oM prog (.binOp .add 9 (.tmp 0) (.tmp 1) 9) 9 [v8,(.string ⟨#[91]⟩)] fun v9=>
 kQ [v9,(.int .i64 0)] fun J_5 m_6 l_7 u_l_7 w0_l_7=>(fun w=>(
 kN 24 a0 (fun v12=>
 kB .lss 3 4 (l_7.getD 1 undef) v12 fun v13=>
 kO v13 (kI 24 a0 (l_7.getD 1 undef) fun v19=>
 kL 3 v19 fun v20=>
 a0a prog 177 #[v20] fun v21=>
 kB .add 9 9 (l_7.getD 0 undef) v21 fun v22=>
 kB .add 3 3 (l_7.getD 1 undef) (.int .i64 1) fun v15=>
 kJ J_5 m_6 l_7 w0_l_7 [v22,v15])
 (oM prog (.binOp .add 9 (.tmp 0) (.tmp 1) 9) 9 [(l_7.getD 0 undef),(.string ⟨#[93]⟩)] fun v24=>
 K v24)) w)) w0_l_7) w
theorem d7n (h:f1u a0 K w):a0a prog 115 #[a0] K w:=
 cZ (fun _=>0) func115 h
end Go.Proofs
namespace Go.Proofs.Cd
open Go Go.Sh Go.RowKit Go.Lib CodeSpec
theorem b3x (m:Nat) (hm:m ≤ 9223372036854775808) {K:VK} {w:World} (k:∀ w',Bw w w' → K (.string ⟨(decDigits m).toArray⟩) w'):a0a Tryz.prog 176 #[.int .i64 (-(m:Int))] K w:=by
 induction m using Nat.strongRecOn generalizing K w with
 | ind m ih=>
 apply d7k
 unfold f1r
 have hr:(-(m:Int)).tmod 10 = -((m % 10:Nat):Int):=by rw [Int.neg_tmod,Int.tmod_eq_emod_of_nonneg (by omega)]; omega
 have hq:(-(m:Int)).tdiv 10 = -((m / 10:Nat):Int):=by rw [Int.neg_tdiv,Int.tdiv_eq_ediv_of_nonneg (by omega)]; omega
 obtain ⟨d,hd⟩:∃ d,d = m % 10:=⟨_,rfl⟩
 obtain ⟨q,hqq⟩:∃ q,q = m / 10:=⟨_,rfl⟩
 rw [← hd] at hr
 rw [← hqq] at hq
 have hd10:d < 10:=by omega
 have hconv:(convert 202 9 (.slice (some ⟨w.heap.size,0,none⟩) 1 1)).run Tryz.prog (w.alloc (.cells #[.int .u8 (48 + (d:Int))] 5)) = .ok (.string ⟨[UInt8.ofNat (48 + d)].toArray⟩) (w.alloc (.cells #[.int .u8 (48 + (d:Int))] 5)):=by
  refine run_convert_bytes_back (P:=Tryz.prog) _ 202 9 5 ⟨w.heap.size,0,none⟩ 1 [UInt8.ofNat (48 + d)] Tryz.underlying202 (by kernel_rfl) Tryz.underlying9 ?_
  intro j hj
  obtain rfl:j = 0:=by simpa using hj
  have hdn:=c7i d hd10
  rw [d1g]
  unfold World.cell?
  rw [heap_alloc_new]
  simp only [List.getElem_cons_zero,hdn]
  simp
 have hba:Below w.heap.size w (w.alloc (.cells #[.int .u8 (48 + (d:Int))] 5)):=(bR).alloc (rL) _
 have hdl:=a3v q 19 (by omega) (by omega)
 repeat (any_goals (first
 | (with_reducible ((refine a4z ?_); refine yP (fun hg=>?_) fun hg=>?_))
 | ((with_reducible refine oG fun X Y=>?_); simp [go_sem,hr,hq,hconv]; (try simp (disch:=omega) only [a0o,a4r,a1v]); apply Y; clear Y X)))
 ·refine d3f (k _ hba) ?_
  have:m < 10:=by omega
  rw [decDigits,dif_pos this]
  have:d = m:=by omega
  rw [this]
  simp
 ·refine ih q (by omega) (by omega) ?_
  intro w' hb
  refine Xa0 ?_
  refine d3f (k _ (hba.trans (hb.mono (by simp)))) ?_
  have:¬ m < 10:=by omega
  rw [decDigits.eq_def m,dif_neg this,hd,hqq]
  simp
theorem e8u (n:Int) (h:n < 0):itoa n = 45 :: decDigits n.natAbs:=by rw [itoa,if_pos h]
theorem e8v (n:Int) (h:¬ n < 0):itoa n = decDigits n.natAbs:=by
 rw [itoa,if_neg h]
 congr 1
 omega
theorem f7k (n:Int) (h:InR n):(decDigits n.natAbs).length ≤ 19:=by
 obtain ⟨h1,h2⟩:=h
 exact a3v n.natAbs 19 (by omega) (by omega)
theorem f7l (n:Int) (hn:InR n) {K:VK} {w:World} (k:∀ w',Bw w w' → K (.string ⟨(a1b n).toArray⟩) w'):a0a Tryz.prog 177 #[.int .i64 n] K w:=by
 apply d7l
 unfold f1s
 have hl:=f7k n hn
 have hn':=hn
 obtain ⟨h1,h2⟩:=hn'
 by_cases hneg:n < 0
 ·have e:n = -(n.natAbs:Int):=by omega
  refine Xa0 ?_
  conv=>enter [3]; rw [e]
  refine b3x n.natAbs (by omega) ?_
  intro w' hb
  refine Xa0 ?_
  exact d3f (k _ hb) (by rw [a1b,e8u n hneg]; simp)
 ·have e:-n = -(n.natAbs:Int):=by omega
  refine Xa0 ?_
  rw [e]
  refine b3x n.natAbs (by omega) ?_
  intro w' hb
  refine Xa0 ?_
  exact d3f (k _ hb) (by rw [a1b,e8v n hneg])
theorem d1h (m:Nat):itoa (m:Int) = decDigits m:=by
 rw [itoa,if_neg (by omega)]; simp
theorem qText_ok (s:List UInt8) (hs:s.length < 2^60) {K:VK} {w:World} (k:∀ w',Bw w w' → K (.string ⟨(a2t s).toArray⟩) w'):a0a Tryz.prog 164 #[.string ⟨s.toArray⟩] K w:=by
 apply d7m
 unfold f1t
 have hl:=a3v s.length 19 (by omega) (by omega)
 refine Xa0 ?_
 refine b3x s.length (by omega) ?_
 intro w' hb
 refine Xa0 ?_
 exact d3f (k _ hb) (by simp [a2t,d1h])
theorem qNums_ok (xs:List (Int)) (v:Value) {K:VK} {w:World} (hrow:RowOf intV w v xs) (hx:∀ x ∈ xs,InR x) (hlen:(a4e (xs.map a1b)).length < 2^40)
  (k:∀ w',Bw w w' → K (.string ⟨(a4e (xs.map a1b)).toArray⟩) w'):a0a Tryz.prog 115 #[v] K w:=by
 apply d7n
 unfold f1u
 have hsz:(a4e (xs.map a1b)).length = (itoa (xs.length:Nat)).length + 1 + ((xs.map a1b).flatten).length + 1:=by simp [a4e]; omega
 have hxl:xs.length ≤ (xs.map a1b).flatten.length:=by
  rw [List.length_flatten]
  clear hrow hlen hsz k
  induction xs with
  | nil=>simp
  | cons x xs ih=>
   have:=ih (fun y hy=>hx y (List.mem_cons_of_mem _ hy))
   have h1:1 ≤ (a1b x).length:=by simp [a1b]; try omega
   simp only [List.length_cons,List.map_cons,List.sum_cons]
   omega
 have hdl:=a3v xs.length 19 (by omega) (by omega)
 obtain ⟨ad,c,rfl,hcell⟩:=hrow
 refine Xa0 ?_
 refine b3x xs.length (by omega) ?_
 intro w1 hb1
 refine Xa0 ?_
 refine ⟨fun l w'=>∃ (k:Nat),l = [.string ⟨(itoa (xs.length:Nat) ++ 91 :: ((xs.take k).map a1b).flatten).toArray⟩,.int .i64 k] ∧ k ≤ xs.length ∧ Bw w w',fun l _=>xs.length - (match l with | [_,.int _ n]=>n.toNat | _=>0),⟨0,by simp [d1h],by omega,hb1⟩,?_⟩
 rintro _ _ w3 ⟨j,rfl,hj,hb3⟩
 have hz3:=hb3.size
 simp only [List.getD_cons_zero,List.getD_cons_succ]
 have hfl:=c4n a1b xs j
 by_cases hlt:j < xs.length
 ·rcases hcell with rfl | ⟨b,o,rfl,hbw,hcells⟩
  ·simp at hlt
  have hc:=hcells j hlt
  rw [← hb3.cell hbw] at hc
  simp only [intV] at hc
  have hix:=g3e (b:=b) (o:=o) (c:=c) hlt w3
  have hP:=hx xs[j] (List.getElem_mem hlt)
  have hfl1:=c4n a1b xs (j + 1)
  rw [a6x _ _ _ hlt,List.length_append] at hfl1
  have hgoal:∀ w4,Bw w3 w4 → ∃ k:Nat,([Value.string ⟨((itoa (xs.length:Nat) ++ 91 :: ((xs.take j).map a1b).flatten) ++ a1b xs[j]).toArray⟩,Value.int .i64 ((j:Int) + 1)] = [.string ⟨(itoa (xs.length:Nat) ++ 91 :: ((xs.take k).map a1b).flatten).toArray⟩,.int .i64 (k:Int)]) ∧ k ≤ xs.length ∧ Bw w w4:=
   fun w4 hb4=>⟨j + 1,by rw [a6x _ _ _ hlt]; simp,hlt,hb3.trans (hb4.mono hz3)⟩
  obtain ⟨F,hF⟩:∃ F,F = itoa (xs.length:Nat) ++ 91 :: ((xs.take j).map a1b).flatten:=⟨_,rfl⟩
  have hFl:F.length ≤ 2^41:=by rw [hF,List.length_append,List.length_cons]; omega
  obtain ⟨E,hE⟩:∃ E,E = a1b xs[j]:=⟨_,rfl⟩
  rw [← hF,← hE] at hgoal
  rw [← hE] at hfl1
  rw [← hF]
  repeat (any_goals (first
  | (rw [kI,a2x,hix,c4h])
  | (with_reducible refine yN ?_)
  | ((with_reducible refine oG fun X Y=>?_); simp [go_sem,hc]; apply Y; clear Y X)))
  refine f7l _ hP ?_
  intro w4 hb4
  rw [← hE]
  refine Xa0 ?_
  exact ⟨hgoal w4 hb4,by simp; omega⟩
 ·obtain rfl:j = xs.length:=by omega
  rw [List.take_length] at hfl ⊢
  have hfin:∀ F,F = itoa (xs.length:Nat) ++ 91 :: ((xs.map a1b).flatten) → a4e (xs.map a1b) = F ++ [93] ∧ F.length < 2^41:=by
   rintro F rfl
   refine ⟨by simp [a4e],?_⟩
   rw [List.length_append,List.length_cons]; omega
  generalize itoa (xs.length:Nat) ++ 91 :: ((xs.map a1b).flatten) = F at *
  obtain ⟨hf1,hf2⟩:=hfin F rfl
  refine Xa0 ?_
  exact d3f (k _ hb3) (by rw [hf1])
end Go.Proofs.Cd
namespace Go.Proofs
open Go Go.Sh Go.RowKit FdSpec TkSpec CodeSpec PrSpec FdPoly GrLaw
section
variable {K:VK} {w w' w0 W W' We W1 W2:World} {L:List (Addr × Value)} {g n B b i:Nat} {row:Option Nat}
theorem f6l (n y:Int):(b4g n y).getD 0 = e2u n y (-1):=by
 unfold e2u
 by_cases hn:okN n
 ·rw [if_pos hn,if_neg (by decide)]
  cases hi:b4g n y with
  | none=>rfl
  | some x=>
   have hx:0 ≤ x ∧ x < n:=by
    unfold b4g at hi
    rw [if_pos hn] at hi
    split at hi
    ·cases hi
     exact ⟨Int.emod_nonneg _ (by have:=hn.1; omega),Int.emod_lt_of_pos _ (by have:=hn.1; omega)⟩
    ·cases hi
   show x = pw n x 1
   unfold pw
   have:x ^ 1 = x:=by rw [show (1:Nat) = 0 + 1 from rfl,Int.pow_succ,Int.pow_zero,Int.one_mul]
   rw [this,Int.emod_eq_of_lt hx.1 hx.2]
 ·unfold b4g
  rw [if_neg hn,if_neg hn]; rfl
theorem e6v {n x:Int} (hn:okN n) (hx:0 ≤ x ∧ x < n):a2n n x (pw n x 0) = x:=by
 unfold a2n pw
 rw [if_pos hn,Int.pow_zero,Int.mul_emod,Int.emod_emod_of_dvd _ (Int.dvd_refl n),← Int.mul_emod,Int.mul_one,Int.emod_eq_of_lt hx.1 hx.2]
theorem d2p (n y:Int) (k:K (.int .i64 (e2u n y (-1))) w):a0a Tryz.prog 188 #[.int .i64 n,.int .i64 y,.int .i64 (-1)] K w:=by
 apply d7a
 unfold f1h
 rw [← f6l] at k
 refine a4g n ?_
 by_cases hn:okN n
 ·refine Xa0 ?_
  refine d9y n y ?_
  cases hi:b4g n y with
  | none=>
   rw [hi] at k
   refine Xa0 ?_
   exact k
  | some x=>
   rw [hi] at k
   have hx:0 ≤ x ∧ x < n:=by
    unfold b4g at hi
    rw [if_pos hn] at hi
    split at hi
    ·cases hi
     exact ⟨Int.emod_nonneg _ (by have:=hn.1; omega),Int.emod_lt_of_pos _ (by have:=hn.1; omega)⟩
    ·cases hi
   refine Xa0 ?_
   refine b8l n x 0 hn (by omega) ?_
   refine Xa0 ?_
   refine a4w n x _ ?_
   rw [e6v hn hx]
   exact k
 ·rw [show (b4g n y).getD 0 = 0 by unfold b4g; rw [if_neg hn]; rfl] at k
  refine Xa0 ?_
  exact k
theorem e6w (g:Grp) (a b:Int) (k:∀ w',Bw w w' → K (.int .i64 (b9q g a b)) w'):a0a Tryz.prog 142 #[c9u g,.int .i64 a,.int .i64 b] K w:=by
 apply d7b
 unfold f1i
 refine a0l (cs:=f7p g) rfl (.start w) fun b1 W hk hb1 hb=>?_
 unfold b9q b1d at k
 refine Xa hk.cells ?_
 refine a4g g.Q ?_
 by_cases hq:okN g.Q
 ·rw [if_pos hq] at k
  refine Xa hk.cells ?_
  refine ⟨Kn w _,hk.drew,rfl,?_⟩
  repeat (any_goals (first
  | (with_reducible refine pX ?_)
  | ((with_reducible refine e1q ?_); (with_reducible refine b5h ⟨_,rfl⟩ (fun W0 hW0=>by (refine oG (fun X Y=>?_)); simp [go_sem,hW0.cells]; (first | exact Y _ _ ⟨rfl,rfl⟩ | exact ⟨by omega,Y _ _ ⟨rfl,rfl⟩⟩)) ?_))))
  refine ⟨Nx,?_⟩
  apply a1i
  ·(intro w9 h9; repeat (intro v9 e9; try (obtain rfl:=e9)))
   refine Xa0 ?_
   exact d2p _ _ ⟨h9,bR,rfl⟩
  (intro w9 h9; repeat (intro v9 e9; try (obtain rfl:=e9)))
  refine Xa0 ?_
  refine a4w g.P a _ ?_
  exact k _ h9.below
 ·rw [if_neg hq] at k
  refine Xa hk.cells ?_
  exact k _ hk.below
def g9l (l:List Int) (w0 W1:World) (vs:List Value) (W:World):Prop:=Bw W1 W ∧ ∃ (v:Value) (i:Nat),vs = [v,.int .i64 (i:Int)] ∧ i ≤ l.length ∧ OwnI W W1.heap.size v (l.take i)
set_option maxHeartbeats 1000000 in
theorem c6s (s:Stp) (c:Clm) (dare:Int) (an:List Int) {sv cv av:Value} (hs:SetR w s sv) (hc:ClmR w c cv) (hd:I64 dare) (ha:Ints w av an)
  (k:∀ v w',Bw w w' → Ints w' v (b3h s c dare an) → K v w'):a0a Tryz.prog 64 #[a6b s sv,d1j c cv,.int .i64 dare,av] K w:=by
 apply e5o
 unfold g0k
 have hs':=hs
 have hc':=hc
 obtain ⟨ad,cc,rfl⟩:=hs.ints.isSlice
 obtain ⟨ead,ec,rfl⟩:=hc.eqs.isSlice
 refine a0l (cs:=a2r s (.slice ad s.bases.length cc)) rfl (.start w) fun b1 W hk hb1 hbb=>?_
 refine a0l (cs:=c9j c (.slice ead c.eqs.length ec)) rfl hk fun b2 W hk hb2 hbb2=>?_
 clear hb1 hb2
 have no:b3h s c dare an = [] → ∀ w',Bw w w' → K (.slice none 0 0) w':=fun e w' h=>by
  have:=k (.slice none 0 0) w' h
  rw [e] at this
  exact this (Ints.nil _)
 refine Xa hk.cells ?_
 refine a5p s (hs'.next hk.below) (fun w2 h2=>?_)
 have hk:=hk.next h2
 cases hv:a1x s with
 | false=>
  refine Xa0 ?_
  exact no (by simp [b3h,hv]) _ hk.below
 | true=>
 refine Xa hk.cells ?_
 refine a7o s c (hs'.next hk.below) (hc'.next hk.below) (fun w2 h2=>?_)
 have hk:=hk.next h2
 cases hcm:a1q s c with
 | false=>
  refine Xa0 ?_
  exact no (by simp [b3h,hcm]) _ hk.below
 | true=>
 refine Xa hk.cells ?_
 refine b5s s dare (hs'.next hk.below) (fun w2 h2=>?_)
 have hk:=hk.next h2
 cases hem:a1l s dare with
 | false=>
  refine Xa0 ?_
  exact no (by simp [b3h,hem]) _ hk.below
 | true=>
 refine Xa hk.cells ?_
 refine a4x s c.vars (hs'.next hk.below) (ha.next hk.below) (fun wE h2=>?_)
 have hk:=hk.next h2
 cases hes:a0g s an c.vars with
 | false=>
  refine Xa0 ?_
  exact no (by simp [b3h,hes]) _ hk.below
 | true=>
 refine Xa hk.cells ?_
 have e:b3h s c dare an = a0p s c dare an:=by simp [b3h,hv,hcm,hem,hes]
 rw [e] at k
 clear no e
 have hcf:=a7t hcm
 have hlen:(an.length:Int) = c.vars:=by
  simp only [a0g,bA,dE] at hes
  exact hes.1
 have hcm2:=hcm
 simp only [a1q,bA,dE] at hcm2
 have hcl:(a0p s c dare an).length = c.eqs.length:=by simp [a0p]
 have hI:∀ x ∈ a0p s c dare an,I64 x:=by
  intro x hx
  unfold a0p at hx
  obtain ⟨e,_,rfl⟩:=List.mem_map.1 hx
  exact a6o _ _ _
 refine ⟨g9l (a0p s c dare an) w wE,b2m c.eqs.length,⟨bR,_,0,rfl,by omega,a3u⟩,?_⟩
 rintro _ _ w6 ⟨h6,v,i,rfl,hi,ho⟩
 rw [hcl] at hi
 have hk6:=hk.next h6
 by_cases hin:i = c.eqs.length
 ·subst hin
  refine Xa hk6.cells ?_
  rw [List.take_of_length_le (by omega)] at ho
  exact k _ _ hk6.below (ho.ints hI (by omega))
 have ee:c.eqs[i]? = some c.eqs[i]:=gE (by omega)
 have hfe:=hcf _ (List.getElem_mem (by omega:i < c.eqs.length))
 have hst:(a0p s c dare an)[i]? = some (b9q s.g (a8b s c.eqs[i] an) (a5u s.g c.eqs[i].target dare)):=by
  unfold a0p
  rw [List.getElem?_map,ee]
  rfl
 obtain ⟨bC,oC,rfl,hltC,cvC,c0C,c1C,hrowC,hIC⟩:=hc'.eqs.at (i:=i) (by omega)
 generalize c.eqs[i] = e at *
 obtain ⟨cadC,ccC,rfl⟩:=id hrowC.isSlice
 have hllC:(i:Int) < c.eqs.length:=by omega
 refine Xa (An2 hk6.cells @hllC) ?_
 unfold c1f
 simp only [List.getD_cons_succ,List.getD_cons_zero]
 have hk9:=hk6.drew
 have ho9:OwnI { w6 with drawn:=w6.drawn + 1 } wE.heap.size v ((a0p s c dare an).take i):=ho.keep .drawn
 have h69:Below wE.heap.size wE { w6 with drawn:=w6.drawn + 1 }:=h6.on .drawn
 refine ⟨Nx { w6 with drawn:=w6.drawn + 1 },bR,by trivial,?_⟩
 generalize ({ w6 with drawn:=w6.drawn + 1 }:World) = W9 at hk9 ho9 h69 ⊢
 refine Xf (fun W0 hW0=>An3 ((hk9.next hW0).cells) (((hk9.next hW0).below.cell hltC).trans c0C) (((hk9.next hW0).below.cell hltC).trans c1C)) @hllC ?_
 refine ⟨Nx,?_⟩
 apply a1i
 ·intro w5 h5
  exact d0n s e an (hs'.next (hk9.next h5).below) (hrowC.next a2y (hk9.next h5).below) (ha.next (hk9.next h5).below) hfe.1 (fun t ht=>by have:=hfe.2 t ht; omega) hv (fun w6 h6=>⟨h5.on h6,h6,rfl⟩)
 apply a1i
 ·intro w5 h5
  exact c6o _ _ _ (fun w6 h6=>⟨h5.on h6,h6,rfl⟩)
 apply a1i
 ·rintro w5 h5 _ rfl _ rfl
  exact e6w _ _ _ (fun w6 h6=>⟨h5.on h6,h6,rfl⟩)
 refine a3i (fun v w'=>Ints w' v [b9q s.g (a8b s e an) (a5u s.g e.target dare)]) (fun v w w1 hS h=>h.next hS) ?_ ?_
 ·rintro w5 h5 _ rfl
  exact mk1 _ (a6o _ _ _) (fun v w6 h6 hi=>⟨h5.on h6,h6,hi⟩)
 rintro w9 h9 _ rfl _ rfl _ rfl v9 hi9
 refine a9u (ho9.keep h9) (Nat.le_trans h69.size h9.size) hi9 (by simp only [List.length_take]; omega) (fun v10 w10 ho10 h10=>?_)
 refine Xa0 ?_
 refine ⟨⟨(h69.on h9).trans h10,_,i + 1,rfl,by omega,?_⟩,by simp only [a1u]; omega⟩
 rw [← a2s hst]
 exact ho10
theorem c6t {s:Stp}:∀ {cs:List Clm} {d:List Int} {N:L2} {q:Nat} {c:Clm} {x:Int} {y:List Int},cs[q]? = some c → d[q]? = some x → N[q]? = some y → a1e s (cs.take (q + 1)) d N = a1e s (cs.take q) d N ++ a0p s c x y
 | [],_,_,_,_,_,_,h,_,_=>by simp at h
 | _ :: _,[],_,_,_,_,_,_,h,_=>by simp at h
 | _ :: _,_ :: _,[],_,_,_,_,_,_,h=>by simp at h
 | c :: cs,d :: ds,n :: ns,0,_,_,_,h1,h2,h3=>by
  simp at h1 h2 h3
  subst h1 h2 h3
  simp [a1e]
 | c :: cs,d :: ds,n :: ns,q + 1,_,_,_,h1,h2,h3=>by
  have ih:=c6t (s:=s) (cs:=cs) (d:=ds) (N:=ns) (q:=q) (by simpa using h1) (by simpa using h2) (by simpa using h3)
  simp only [List.take_succ_cons,a1e,ih,List.append_assoc]
theorem c6u {s:Stp}:∀ {goal:List Cls} {ds:L2} {ns:L3} {q:Nat} {c:Cls} {x:List Int} {y:L2},goal[q]? = some c → ds[q]? = some x → ns[q]? = some y → a0t s (goal.take (q + 1)) ds ns = a0t s (goal.take q) ds ns ++ a1e s c.claims x y
 | [],_,_,_,_,_,_,h,_,_=>by simp at h
 | _ :: _,[],_,_,_,_,_,_,h,_=>by simp at h
 | _ :: _,_ :: _,[],_,_,_,_,_,_,h=>by simp at h
 | c :: cs,d :: ds,n :: ns,0,_,_,_,h1,h2,h3=>by
  simp at h1 h2 h3
  subst h1 h2 h3
  simp [a0t]
 | c :: cs,d :: ds,n :: ns,q + 1,_,_,_,h1,h2,h3=>by
  have ih:=c6u (s:=s) (goal:=cs) (ds:=ds) (ns:=ns) (q:=q) (by simpa using h1) (by simpa using h2) (by simpa using h3)
  simp only [List.take_succ_cons,a0t,ih,List.append_assoc]
theorem c3v {s:Stp}:∀ (cs:List Clm) (d:List Int) (N:L2),(∀ c ∈ cs,c.eqs.length ≤ 60) → (a1e s cs d N).length ≤ 60 * cs.length
 | [],_,_,_=>by simp [a1e]
 | _ :: _,[],_,_=>by simp [a1e]
 | _ :: _,_ :: _,[],_=>by simp [a1e]
 | c :: cs,d :: ds,n :: ns,h=>by
  have ih:=c3v (s:=s) cs ds ns (fun c' h'=>h c' (by simp [h']))
  have h1:=h c (by simp)
  have h2:(a0p s c d n).length = c.eqs.length:=by simp [a0p]
  simp only [a1e,List.length_append,List.length_cons]
  omega
theorem b3j {s:Stp}:∀ (goal:List Cls) (ds:L2) (ns:L3),(∀ c ∈ goal,c.claims.length ≤ 16 ∧ ∀ x ∈ c.claims,x.eqs.length ≤ 60) → (a0t s goal ds ns).length ≤ 960 * goal.length
 | [],_,_,_=>by simp [a0t]
 | _ :: _,[],_,_=>by simp [a0t]
 | _ :: _,_ :: _,[],_=>by simp [a0t]
 | c :: cs,d :: ds,n :: ns,h=>by
  have ih:=b3j (s:=s) cs ds ns (fun c' h'=>h c' (by simp [h']))
  have h1:=h c (by simp)
  have h2:=c3v (s:=s) c.claims d n h1.2
  simp only [a0t,List.length_append,List.length_cons]
  omega
theorem d0s {s:Stp}:∀ (cs:List Clm) (d:List Int) (N:L2),∀ x ∈ a1e s cs d N,I64 x
 | [],_,_,x,h=>by simp [a1e] at h
 | _ :: _,[],_,x,h=>by simp [a1e] at h
 | _ :: _,_ :: _,[],x,h=>by simp [a1e] at h
 | c :: cs,d :: ds,n :: ns,x,h=>by
  simp only [a1e,List.mem_append] at h
  rcases h with h | h
  ·unfold a0p at h
   obtain ⟨e,_,rfl⟩:=List.mem_map.1 h
   exact a6o _ _ _
  ·exact d0s cs ds ns x h
theorem d0t {s:Stp}:∀ (goal:List Cls) (ds:L2) (ns:L3),∀ x ∈ a0t s goal ds ns,I64 x
 | [],_,_,x,h=>by simp [a0t] at h
 | _ :: _,[],_,x,h=>by simp [a0t] at h
 | _ :: _,_ :: _,[],x,h=>by simp [a0t] at h
 | c :: cs,d :: ds,n :: ns,x,h=>by
  simp only [a0t,List.mem_append] at h
  rcases h with h | h
  ·exact d0s _ _ _ x h
  ·exact d0t cs ds ns x h
theorem a5g {s:Stp} {goal:List Cls} (h:a1p s goal = true):goal.length ≤ 300 ∧ (∀ c ∈ goal,c.claims.length ≤ 16 ∧ ∀ x ∈ c.claims,x.eqs.length ≤ 60):=by
 have h':=h
 unfold a1p at h'
 simp only [bA,dE] at h'
 refine ⟨h'.1.1.2,fun c hc=>?_⟩
 have h1:=List.all_eq_true.1 h'.1.2 c hc
 unfold a0z at h1
 simp only [bA,dE] at h1
 exact ⟨by omega,fun x hx=>b2q (List.all_eq_true.1 (List.all_eq_true.1 h'.2 c hc) x hx)⟩
def g9m (s:Stp) (goal:List Cls) (ds:L2) (ns:L3) (w0 W1:World) (vs:List Value) (W:World):Prop:=Bw W1 W ∧ ∃ (u v:Value) (i:Nat),vs = [u,v,.int .i64 (i:Int)] ∧ i ≤ goal.length ∧ OwnI W W1.heap.size v (a0t s (goal.take i) ds ns)
def g9n (s:Stp) (pre:List Int) (cl:Cls) (d:List Int) (N:L2) (W1:World) (vs:List Value) (W:World):Prop:=Bw W1 W ∧ ∃ (v:Value) (q:Nat),vs = [v,.int .i64 (q:Int)] ∧ q ≤ cl.claims.length ∧ OwnI W W1.heap.size v (pre ++ a1e s (cl.claims.take q) d N)
set_option maxHeartbeats 2000000 in
theorem a9v (s:Stp) (goal:List Cls) (ds:L2) (ns:L3) {sv gv dv nv:Value} (hs:SetR w s sv) (hg:a4f w gv goal) (hd:a0s w dv ds) (hn:a2j w nv ns) (hgm:a1p s goal = true) (hsm:a0u s goal ds ns = true)
  (k:∀ v w',Bw w w' → Ints w' v (a0t s goal ds ns) → K v w'):a0a Tryz.prog 100 #[a6b s sv,gv,dv,nv] K w:=by
 apply d7s
 unfold f1z
 have hs':=hs
 have hg':=hg
 have hd':=hd
 have hn':=hn
 obtain ⟨ad,c,rfl⟩:=hs.ints.isSlice
 obtain ⟨gad,gc,rfl⟩:=hg.isSlice
 obtain ⟨dad,dc,rfl⟩:=hd.isSlice
 obtain ⟨nad,nc,rfl⟩:=hn.isSlice
 obtain ⟨⟨e1,e2⟩,hall⟩:=a2o.1 hsm
 obtain ⟨h300,hsmall⟩:=a5g hgm
 have hvs:a1x s = true:=by
  have h:=hgm
  unfold a1p at h
  simp only [bA] at h
  exact h.1.1.1.1
 refine a0l (cs:=a2r s (.slice ad s.bases.length c)) rfl (.start w) fun b1 W1 hk hb1 hbb=>?_
 refine ⟨g9m s goal ds ns w W1,c3t goal.length,⟨bR,_,_,0,rfl,by omega,a3u⟩,?_⟩
 rintro _ _ w3 ⟨h3,u,v,i,rfl,hi,ho⟩
 have hk3:=hk.next h3
 by_cases hin:i = goal.length
 ·subst hin
  rw [List.take_of_length_le (rL)] at ho
  refine Xa0 ?_
  exact k _ _ hk3.below (ho.ints (d0t _ _ _) (by have:=b3j (s:=s) goal ds ns hsmall; omega))
 have eg:goal[i]? = some goal[i]:=gE (by omega)
 have ed:ds[i]? = some ds[i]:=gE (by omega)
 have en:ns[i]? = some ns[i]:=gE (by omega)
 have hok:=hall i _ _ _ eg ed en
 have hstepL:=c6u (s:=s) eg ed en
 have hpl:=b3j (s:=s) (goal.take i) ds ns (fun c hc=>hsmall c (List.mem_of_mem_take hc))
 rw [List.length_take] at hpl
 obtain ⟨bd,od,rfl,hltd,csd,_,hcelld,vd,rfl,hrowd⟩:=hd'.at (i:=i) (by omega)
 obtain ⟨bn,on,rfl,hltn,csn,_,hcelln,vn,rfl,hrown⟩:=hn'.at (i:=i) (by omega)
 obtain ⟨bg,og,rfl,hbg,_,_,hgcell,gcv,rfl,_,hgc⟩:=hg'.at (i:=i) (by omega)
 have cd:=hcelld 0 _ rfl
 have cn:=hcelln 0 _ rfl
 simp only [Nat.add_zero,Nat.mul_one,Nat.zero_add] at cd cn
 have g1:=hgcell 1 _ rfl
 have hsmi:=hsmall _ (List.mem_of_getElem? eg)
 have hcx:∀ q x,goal[i].claims[q]? = some x → a1q s x = true:=fun q x h=>b4a hgm eg h
 generalize a0t s (goal.take i) ds ns = pre at *
 generalize goal[i] = cl at *
 generalize ds[i] = d at *
 generalize ns[i] = N at *
 have hrowd':=hrowd
 have hrown':=hrown
 have hgc':=hgc
 obtain ⟨dad2,dc2,rfl⟩:=hrowd.isSlice
 obtain ⟨nad2,nc2,rfl⟩:=hrown.isSlice
 obtain ⟨cad,cc,rfl⟩:=hgc.isSlice
 have hiD:(i:Int) < ds.length:=by omega
 have hiN:(i:Int) < ns.length:=by omega
 have hiG:(i:Int) < goal.length:=by omega
 have hdl:(d.length:Int) = cl.claims.length:=by
  have:=hok.1.1
  unfold a0g at this
  simp only [bA,dE] at this
  exact this.1
 have hNl:N.length = cl.claims.length:=hok.1.2
 refine Xa @hiG ?_
 refine ⟨g9n s pre cl d N W1,b2m cl.claims.length,⟨h3,_,0,rfl,by omega,by simpa [a1e] using ho⟩,?_⟩
 clear ho hk3 h3
 rintro _ _ w5 ⟨h5,v5,q,rfl,hq,ho⟩
 have hk:=hk.next h5
 unfold c1g
 by_cases hqn:q = cl.claims.length
 ·subst hqn
  rw [List.take_of_length_le (rL)] at ho
  refine Xa (An3 hk.cells ((hk.below.cell hbg).trans g1) @hiG) ?_
  refine ⟨⟨h5,_,_,i + 1,rfl,by omega,by rw [hstepL]; exact ho⟩,?_⟩
  simp only [b0q]; omega
 have ecm:cl.claims[q]? = some (cl.claims[q]'(by omega)):=gE (by omega)
 have edq:d[q]? = some (d[q]'(by omega)):=gE (by omega)
 have enq:N[q]? = some (N[q]'(by omega)):=gE (by omega)
 obtain ⟨bu,ou,rfl,hltu,_,_,hcellu,vu,rfl,hvu⟩:=hrown'.at (i:=q) (by omega)
 obtain ⟨be,oe,rfl,hlte,celle,hre,_⟩:=hrowd'.at (i:=q) (by omega)
 obtain ⟨bcl,ocl,rfl,hbcl,_,_,hccell,ccv,rfl,hclm⟩:=hgc'.at (i:=q) (by omega)
 have p0:=hccell 0 _ rfl
 have p1:=hccell 1 _ rfl
 have q0:=hcellu 0 _ rfl
 have hstep:=c6t (s:=s) ecm edq enq
 have hcq:=hcx q _ ecm
 have hexq:=hok.2 q _ _ ecm enq
 have hclen:=c3v (s:=s) (cl.claims.take q) d N (fun c hc=>hsmi.2 c (List.mem_of_mem_take hc))
 rw [List.length_take] at hclen
 have hs60:=b2q hcq
 have hexd:a1l s (d[q]'(by omega)) = true:=by
  have:=hok.1.1
  unfold a0g at this
  simp only [bA,Bool.not_eq_true',List.any_eq_false] at this
  have:=this.2 _ (List.getElem_mem (show q < d.length by omega))
  simpa using this
 generalize a1e s (cl.claims.take q) d N = pc at *
 generalize N[q] = y at *
 generalize d[q] = dq at *
 generalize cl.claims[q] = x at *
 simp only [Nat.add_zero,Nat.mul_one,Nat.zero_add] at p0 q0
 have hvu':=hvu
 have hclm':=hclm
 obtain ⟨uad,uc,rfl⟩:=hvu.isSlice
 obtain ⟨xad,xc,rfl⟩:=hclm.eqs.isSlice
 have hqN:(q:Int) < N.length:=by omega
 have hqD:(q:Int) < d.length:=by omega
 have hqc:(q:Int) < cl.claims.length:=by omega
 have hsim:b3h s x dq y = a0p s x dq y:=by simp [b3h,hvs,hcq,hexd,hexq]
 refine Xa (An4 hk.cells ((hk.below.cell hbg).trans g1) @hiG @hqc) ?_
 unfold b7q
 simp only [List.getD_cons_succ,List.getD_cons_zero]
 have hk9:=hk.drew
 have ho9:OwnI { w5 with drawn:=w5.drawn + 1 } W1.heap.size v5 (pre ++ pc):=ho.keep .drawn
 have h59:Below W1.heap.size W1 { w5 with drawn:=w5.drawn + 1 }:=h5.on .drawn
 refine ⟨Nx { w5 with drawn:=w5.drawn + 1 },bR,by trivial,?_⟩
 generalize ({ w5 with drawn:=w5.drawn + 1 }:World) = W9 at *
 refine Xf (fun W0 hW0=>An8 ((hk9.next hW0).cells) (((hk9.next hW0).below.cell hbg).trans g1) (((hk9.next hW0).below.cell hbcl).trans p0) (((hk9.next hW0).below.cell hbcl).trans p1) (((hk9.next hW0).below.cell hltd).trans cd) (celle _ (hk9.next hW0).below) (((hk9.next hW0).below.cell hltn).trans cn) (((hk9.next hW0).below.cell hltu).trans q0)) (An6 @hiG @hiD @hiN @hqc @hqD @hqN) ?_
 refine ⟨Nx,?_⟩
 refine a3i (fun v w'=>Ints w' v (a0p s x dq y)) (fun v w w1 hS h=>h.next hS) ?_ ?_
 ·intro w6 h6
  refine c6s s x dq y (hs'.next (hk9.next h6).below) (hclm'.next (hk9.next h6).below) hre (hvu'.next (hk9.next h6).below) (fun v w7 h7 hi7=>⟨h6.on h7,h7,?_⟩)
  rw [← hsim]; exact hi7
 rintro w9 h9 v9 hi9
 have hcl2:(a0p s x dq y).length = x.eqs.length:=by simp [a0p]
 refine a7a (ho9.keep h9) (Nat.le_trans h59.size h9.size) hi9 (by simp only [List.length_append]; omega) (fun v10 w10 ho10 hg10 hv10=>?_)
 have hb10:Bw W1 w10:=(h59.on h9).grown hg10 (h59.on h9).size (fun j hj=>(a0d (ho9.keep h9) hj).2.1)
 refine Xa0 ?_
 refine ⟨⟨hb10,_,q + 1,rfl,by omega,by rw [hstep,← List.append_assoc]; exact ho10⟩,?_⟩
 simp only [a1u]; omega
theorem c8o {B b:Nat} {T:TypeId} {v xv:Value} {l m:List Int} {cs:List Value} (ho:OwnI w B v l) (hB:B ≤ w.heap.size) (hx:Ints w xv m) (hl:l.length + m.length < 1099511627776) (hb:b < w.heap.size) (hne:v.ownBlock ≠ some b) (hc:a0n w (cellsOf [] b 0 cs))
  (k:∀ v' w',OwnI w' B v' (l ++ m) → w.grownBy w' v.ownBlock → v'.ownBlock ≠ some b → a0n w' (cellsOf [] b 0 cs) → b < w'.heap.size → K v' w'):oM Tryz.prog (.call { callee:=.builtin .append,args:=#[.tmp 0,.tmp 1],argTypes:=#[24,24] }) T [v,xv] K w:=by
 refine a7a ho hB hx hl (fun v' w' ho' hg hv=>k v' w' ho' hg (fun e=>?_) ?_ (lL hb hg.size))
 ·rcases hv b e with h | h
  ·exact hne h
  ·omega
 ·exact a6c hc (Fr.of_by' hg) (fun p hp=>⟨a2q hc p hp,fun e=>by
   rcases a6u _ _ _ hp with h1 | h1
   ·rw [h1] at e; exact hne e
   ·cases h1⟩)
def TxA {α:Type} (f:α → List Int) (pre:List Int) (l:List α) (w0:World) (vs:List Value) (w':World):Prop:=Bw w0 w' ∧ ∃ (ov u1 u2 u3:Value) (i:Nat),vs = [ov,u1,u2,u3,.int .i64 (i:Int)] ∧ i ≤ l.length ∧ OwnI w' w0.heap.size ov (pre ++ (l.take i).flatMap f)
def TxB {α:Type} (f:α → List Int) (pre:List Int) (l:List α) (w0:World) (vs:List Value) (w':World):Prop:=Bw w0 w' ∧ ∃ (ov u1 u2:Value) (i:Nat),vs = [ov,u1,u2,.int .i64 (i:Int)] ∧ i ≤ l.length ∧ OwnI w' w0.heap.size ov (pre ++ (l.take i).flatMap f)
def TxC {α:Type} (f:α → List Int) (pre:List Int) (l:List α) (b:Nat) (cs:List Value) (w0:World) (vs:List Value) (w':World):Prop:=Bw w0 w' ∧ ∃ (ov u1:Value) (i:Nat),vs = [ov,u1,.int .i64 (i:Int)] ∧ i ≤ l.length ∧ OwnI w' w0.heap.size ov (pre ++ (l.take i).flatMap f) ∧ ov.ownBlock ≠ some b ∧ a0n w' (cellsOf [] b 0 cs) ∧ b < w'.heap.size
def TxD {α:Type} (f:α → List Int) (pre:List Int) (l:List α) (b:Nat) (cs:List Value) (w0:World) (vs:List Value) (w':World):Prop:=Bw w0 w' ∧ ∃ (ov:Value) (i:Nat),vs = [ov,.int .i64 (i:Int)] ∧ i ≤ l.length ∧ OwnI w' w0.heap.size ov (pre ++ (l.take i).flatMap f) ∧ ov.ownBlock ≠ some b ∧ a0n w' (cellsOf [] b 0 cs) ∧ b < w'.heap.size
def f3l (n:Nat) (l:List Value) (_:World):Nat:=match l with | [_,_,_,_,.int _ i]=>n - i.toNat | _=>0
theorem e0m (n:Nat) (u v x y:Value) (k:IntKind) (i:Int) (w:World):f3l n [u,v,x,y,.int k i] w = n - i.toNat:=rfl
set_option maxHeartbeats 4000000 in
theorem d0u (goal:List Cls) {gv:Value} (hg:a4f w gv goal) (hN:(a6r goal).length ≤ 1000000) (k:∀ w',Bw w w' → K (.string ⟨(b4u goal).toArray⟩) w'):a0a Tryz.prog 26 #[gv] K w:=by
 apply e5n
 unfold g0j
 have hg':=hg
 obtain ⟨gad,gc,rfl⟩:=hg.isSlice
 have hgl:=hg'.len
 have hNN:1 + (goal.flatMap a9j).length ≤ 1000000:=by unfold a6r at hN; simp only [List.length_cons] at hN; omega
 refine a9i ?_
 refine e3z _ (fun v1 w1 h1 ho1=>?_)
 refine Xa0 ?_
 refine ⟨TxA a9j [(goal.length:Int)] goal w,f3l goal.length,⟨h1,_,_,_,_,0,rfl,by omega,by simpa using ho1⟩,?_⟩
 have hpre0:[(goal.length:Int)].length + (goal.flatMap a9j).length ≤ 1000000:=by simp only [List.length_cons,List.length_nil]; omega
 rintro _ _ wA ⟨hbA,ovA,u1,u2,u3,iA,rfl,hiA,hoA⟩
 by_cases hin:iA = goal.length
 ·rw [List.take_of_length_le (by omega)] at hoA
  have hoA:OwnI wA w.heap.size ovA (a6r goal):=hoA
  have hinr:∀ x ∈ a6r goal,InR x:=c3c hg'
  have hle:=a6j hinr (by omega)
  subst hin
  refine Xa0 ?_
  refine Cd.qNums_ok _ _ (Ints.rowOf (hoA.ints (fun x hx=>(a7l x).1 (hinr x hx)) (by omega))) hinr (by omega) (fun w4 h4=>?_)
  exact k _ (hbA.on h4)
 have eA:goal[iA]? = some goal[iA]:=gE (by omega)
 have hstA:=a1o a9j _ _ _ eA
 have hleA:=a2k a9j _ _ _ eA
 obtain ⟨cbA,coA,rfl,hltA,csA,_,hcellA,cvA,rfl,hIA,hrowA⟩:=hg'.at (i:=iA) (by omega)
 have c0A:=hcellA 0 _ rfl
 have c1A:=hcellA 1 _ rfl
 simp only [Nat.add_zero] at c0A
 generalize goal[iA] = c at *
 obtain ⟨cadA,ccA,rfl⟩:=id hrowA.isSlice
 have hlenA:=hrowA.len
 have hllA:(iA:Int) < goal.length:=by omega
 have hfxA:(a9j c).length = 2 + (c.claims.flatMap b1z).length:=by simp only [a9j,List.length_cons]; omega
 refine Xa @hllA ?_
 unfold c5x
 simp only [List.getD_cons_succ,List.getD_cons_zero]
 have hbd:Below w.heap.size w { wA with drawn:=wA.drawn + 1 }:=hbA.on .drawn
 have hod:OwnI { wA with drawn:=wA.drawn + 1 } w.heap.size ovA ([(goal.length:Int)] ++ (goal.take iA).flatMap a9j):=hoA.keep .drawn
 refine ⟨Nx { wA with drawn:=wA.drawn + 1 },bR,by trivial,?_⟩
 generalize ({ wA with drawn:=wA.drawn + 1 }:World) = W9 at *
 refine Xf (fun W0 hW0=>An2 (((hbd.on hW0).cell hltA).trans c0A) (((hbd.on hW0).cell hltA).trans c1A)) @hllA ?_
 refine ⟨Nx,?_⟩
 refine a3i (fun v w'=>Ints w' v [c.need,(c.claims.length:Int)]) (fun v w w1 hS h=>h.next hS) ?_ ?_
 ·intro w5 h5
  exact mk2 _ _ hIA (by unfold I64; omega) (fun v w6 h6 hi6=>⟨h5.on h6,h6,hi6⟩)
 rintro w3 h9 v2 hi3
 have hb3:=hbd.on h9
 have ho3:=hod.keep h9
 refine a7a ho3 hb3.size hi3 (by simp only [List.length_append,List.length_cons,List.length_nil] at hpre0 ⊢; omega) (fun v4 w4 ho4 hg4 hv4=>?_)
 have hb4:=hb3.grown hg4 hb3.size (fun j hj=>(a0d ho3 hj).2.1)
 refine Xa0 ?_
 refine ⟨TxB b1z ([(goal.length:Int)] ++ (goal.take iA).flatMap a9j ++ [c.need,(c.claims.length:Int)]) c.claims w,e0g c.claims.length,⟨hb4,_,_,_,0,rfl,by omega,by simpa using ho4⟩,?_⟩
 have hpreA:([(goal.length:Int)] ++ (goal.take iA).flatMap a9j ++ [c.need,(c.claims.length:Int)]).length + (c.claims.flatMap b1z).length ≤ 1000000:=by simp only [List.length_append,List.length_cons,List.length_nil] at hpre0 ⊢; omega
 clear ho4 hb4 hg4 hv4 ho3 hb3 hi3 h9 hbd hod hoA
 rintro _ _ wB ⟨hbB,ovB,u1,u2,iB,rfl,hiB,hoB⟩
 unfold c1e
 by_cases hinB:iB = c.claims.length
 ·rw [List.take_of_length_le (l:=c.claims) (by omega)] at hoB
  subst hinB
  refine Xa (An2 ((hbB.cell hltA).trans c1A) @hllA) ?_
  refine ⟨⟨hbB,_,_,_,_,iA + 1,rfl,by omega,?_⟩,by simp only [e0m]; omega⟩
  rw [hstA]
  simpa [a9j] using hoB
 have eB:c.claims[iB]? = some c.claims[iB]:=gE (by omega)
 have hstB:=a1o b1z _ _ _ eB
 have hleB:=a2k b1z _ _ _ eB
 obtain ⟨cbB,coB,rfl,hltB,csB,_,hcellB,cvB,rfl,hmB⟩:=hrowA.at (i:=iB) (by omega)
 have hIB:=hmB.vars
 have hrowB:=hmB.eqs
 have c0B:=hcellB 0 _ rfl
 have c1B:=hcellB 1 _ rfl
 simp only [Nat.add_zero] at c0B
 generalize c.claims[iB] = m at *
 obtain ⟨cadB,ccB,rfl⟩:=id hrowB.isSlice
 have hlenB:=hrowB.len
 have hllB:(iB:Int) < c.claims.length:=by omega
 have hfxB:(b1z m).length = 2 + (m.eqs.flatMap b4t).length:=by simp only [b1z,List.length_cons]; omega
 refine h1i (An5 ((hbB.cell hltA).trans c1A) ((hbB.cell hltB).trans c0B) ((hbB.cell hltB).trans c1B) @hllA @hllB) ?_
 refine a4u _ _ _ _ (.start wB) (fun bB WB hkB hbbB hgbB=>?_)
 refine Xb5 hkB.cells ?_
 refine mk2 _ _ hIB (by unfold I64; omega) (fun v2 w3 h3 hi3=>?_)
 have hb3:=(hbB.on hbbB).on h3
 have ho3:=(hoB.keep hbbB).keep h3
 have hbl:bB < WB.heap.size:=a2q hkB.cells _ (List.mem_cons_self ..)
 refine c8o ho3 hb3.size hi3 (by simp only [List.length_append,List.length_cons,List.length_nil] at hpreA ⊢; omega) (lL hbl h3.size) (fun e=>by have:=(a0d hoB e).1; omega) (hkB.next h3).cells (fun v4 w4 ho4 hg4 hn4 hc4 hb4l=>?_)
 have hb4:=hb3.grown hg4 hb3.size (fun j hj=>(a0d ho3 hj).2.1)
 refine Xa0 ?_
 refine ⟨TxC b4t (([(goal.length:Int)] ++ (goal.take iA).flatMap a9j ++ [c.need,(c.claims.length:Int)]) ++ (c.claims.take iB).flatMap b1z ++ [m.vars,(m.eqs.length:Int)]) m.eqs bB [.int .i64 m.vars,.slice cadB m.eqs.length ccB] w,c3t m.eqs.length,⟨hb4,_,_,0,rfl,by omega,by simpa using ho4,hn4,hc4,hb4l⟩,?_⟩
 have hpreB:(([(goal.length:Int)] ++ (goal.take iA).flatMap a9j ++ [c.need,(c.claims.length:Int)]) ++ (c.claims.take iB).flatMap b1z ++ [m.vars,(m.eqs.length:Int)]).length + (m.eqs.flatMap b4t).length ≤ 1000000:=by simp only [List.length_append,List.length_cons,List.length_nil] at hpreA ⊢; omega
 have hgw:w.heap.size ≤ bB:=Nat.le_trans hbB.size hgbB
 clear hc4 ho4 hb4 hg4 hn4 hb4l ho3 hb3 hi3 h3 hkB hbbB hoB
 rintro _ _ wC ⟨hbC,ovC,u1,iC,rfl,hiC,hoC,hnC,hcC,hlC⟩
 unfold c1d
 by_cases hinC:iC = m.eqs.length
 ·rw [List.take_of_length_le (l:=m.eqs) (by omega)] at hoC
  subst hinC
  refine Xa @hcC ?_
  refine ⟨⟨hbC,_,_,_,iB + 1,rfl,by omega,?_⟩,by simp only [b6o]; omega⟩
  rw [hstB]
  simpa [b1z] using hoC
 have eC:m.eqs[iC]? = some m.eqs[iC]:=gE (by omega)
 have hstC:=a1o b4t _ _ _ eC
 have hleC:=a2k b4t _ _ _ eC
 obtain ⟨cbC,coC,rfl,hltC,cvC,c0C,c1C,hrowC,hIC⟩:=hrowB.at (i:=iC) (by omega)
 generalize m.eqs[iC] = e at *
 obtain ⟨cadC,ccC,rfl⟩:=id hrowC.isSlice
 have hlenC:=hrowC.len
 have hllC:(iC:Int) < m.eqs.length:=by omega
 have hfxC:(b4t e).length = 2 + (e.terms.flatMap c3m).length:=by simp only [b4t,List.length_cons]; omega
 refine Xa (An2 @hcC @hllC) ?_
 unfold c1c
 simp only [List.getD_cons_succ,List.getD_cons_zero]
 have hbd:Below w.heap.size w { wC with drawn:=wC.drawn + 1 }:=hbC.on .drawn
 have hodr:Below wC.heap.size wC { wC with drawn:=wC.drawn + 1 }:=.drawn
 have hod:OwnI { wC with drawn:=wC.drawn + 1 } w.heap.size ovC (([(goal.length:Int)] ++ (goal.take iA).flatMap a9j ++ [c.need,(c.claims.length:Int)]) ++ (c.claims.take iB).flatMap b1z ++ [m.vars,(m.eqs.length:Int)] ++ (m.eqs.take iC).flatMap b4t):=hoC.keep .drawn
 refine ⟨Nx { wC with drawn:=wC.drawn + 1 },bR,by trivial,?_⟩
 generalize ({ wC with drawn:=wC.drawn + 1 }:World) = W9 at *
 refine Xf (fun W0 hW0=>An3 (a0q hcC (fun a ha=>(hodr.on hW0).cell ha)) (((hbd.on hW0).cell hltC).trans c0C) (((hbd.on hW0).cell hltC).trans c1C)) @hllC ?_
 refine ⟨Nx,?_⟩
 refine a3i (fun v w'=>Ints w' v [e.target,(e.terms.length:Int)]) (fun v w w1 hS h=>h.next hS) ?_ ?_
 ·intro w5 h5
  exact mk2 _ _ hIC (by unfold I64; omega) (fun v w6 h6 hi6=>⟨h5.on h6,h6,hi6⟩)
 rintro w3 h9 v2 hi3
 have hb3:=hbd.on h9
 have ho3:=hod.keep h9
 have hCC:=hodr.on h9
 refine c8o ho3 hb3.size hi3 (by simp only [List.length_append,List.length_cons,List.length_nil] at hpreB ⊢; omega) (lL hlC hCC.size) hnC (a0q hcC (fun a ha=>hCC.cell ha)) (fun v4 w4 ho4 hg4 hn4 hc4 hb4l=>?_)
 have hb4:=hb3.grown hg4 hb3.size (fun j hj=>(a0d ho3 hj).2.1)
 refine Xa0 ?_
 refine ⟨TxD c3m ((([(goal.length:Int)] ++ (goal.take iA).flatMap a9j ++ [c.need,(c.claims.length:Int)]) ++ (c.claims.take iB).flatMap b1z ++ [m.vars,(m.eqs.length:Int)]) ++ (m.eqs.take iC).flatMap b4t ++ [e.target,(e.terms.length:Int)]) e.terms bB [.int .i64 m.vars,.slice (some ⟨cbC,coC,none⟩) m.eqs.length ccB] w,b2m e.terms.length,⟨hb4,_,0,rfl,by omega,by simpa using ho4,hn4,hc4,hb4l⟩,?_⟩
 have hpreC:((([(goal.length:Int)] ++ (goal.take iA).flatMap a9j ++ [c.need,(c.claims.length:Int)]) ++ (c.claims.take iB).flatMap b1z ++ [m.vars,(m.eqs.length:Int)]) ++ (m.eqs.take iC).flatMap b4t ++ [e.target,(e.terms.length:Int)]).length + (e.terms.flatMap c3m).length ≤ 1000000:=by simp only [List.length_append,List.length_cons,List.length_nil] at hpreB ⊢; omega
 clear hc4 ho4 hb4 hg4 hn4 hb4l ho3 hb3 hi3 h9 hCC hbd hod hodr hoC hnC hcC hlC
 rintro _ _ wD ⟨hbD,ovD,iD,rfl,hiD,hoD,hnD,hcD,hlD⟩
 unfold c1b
 by_cases hinD:iD = e.terms.length
 ·rw [List.take_of_length_le (l:=e.terms) (by omega)] at hoD
  subst hinD
  refine Xa (An3 @hcD ((hbD.cell hltC).trans c1C) @hllC) ?_
  refine ⟨⟨hbD,_,_,iC + 1,rfl,by omega,?_,hnD,hcD,hlD⟩,by simp only [b0q]; omega⟩
  rw [hstC]
  simpa [b4t] using hoD
 have eD:e.terms[iD]? = some e.terms[iD]:=gE (by omega)
 have hstD:=a1o c3m _ _ _ eD
 have hleD:=a2k c3m _ _ _ eD
 obtain ⟨cbD,coD,rfl,hltD,c0D,c1D,i0D,i1D⟩:=hrowC.at (i:=iD) (by omega)
 generalize e.terms[iD] = t at *
 have hllD:(iD:Int) < e.terms.length:=by omega
 have hfxD:(c3m t).length = 2:=rfl
 refine Xa (An4 @hcD ((hbD.cell hltC).trans c1C) @hllC @hllD) ?_
 unfold c1a
 simp only [List.getD_cons_succ,List.getD_cons_zero]
 have hbd:Below w.heap.size w { wD with drawn:=wD.drawn + 1 }:=hbD.on .drawn
 have hodr:Below wD.heap.size wD { wD with drawn:=wD.drawn + 1 }:=.drawn
 have hod:OwnI { wD with drawn:=wD.drawn + 1 } w.heap.size ovD ((([(goal.length:Int)] ++ (goal.take iA).flatMap a9j ++ [c.need,(c.claims.length:Int)]) ++ (c.claims.take iB).flatMap b1z ++ [m.vars,(m.eqs.length:Int)]) ++ (m.eqs.take iC).flatMap b4t ++ [e.target,(e.terms.length:Int)] ++ (e.terms.take iD).flatMap c3m):=hoD.keep .drawn
 refine ⟨Nx { wD with drawn:=wD.drawn + 1 },bR,by trivial,?_⟩
 generalize ({ wD with drawn:=wD.drawn + 1 }:World) = W9 at *
 refine Xf (fun W0 hW0=>An4 (a0q hcD (fun a ha=>(hodr.on hW0).cell ha)) (((hbd.on hW0).cell hltC).trans c1C) (((hbd.on hW0).cell hltD).trans c0D) (((hbd.on hW0).cell hltD).trans c1D)) (An2 @hllC @hllD) ?_
 refine ⟨Nx,?_⟩
 refine a3i (fun v w'=>Ints w' v [t.var,t.base]) (fun v w w1 hS h=>h.next hS) ?_ ?_
 ·intro w5 h5
  exact mk2 _ _ i0D i1D (fun v w6 h6 hi6=>⟨h5.on h6,h6,hi6⟩)
 rintro w3 h9 v2 hi3
 have hb3:=hbd.on h9
 have ho3:=hod.keep h9
 have hCC:=hodr.on h9
 refine c8o ho3 hb3.size hi3 (by simp only [List.length_append,List.length_cons,List.length_nil] at hpreC ⊢; omega) (lL hlD hCC.size) hnD (a0q hcD (fun a ha=>hCC.cell ha)) (fun v4 w4 ho4 hg4 hn4 hc4 hb4l=>?_)
 have hb4:=hb3.grown hg4 hb3.size (fun j hj=>(a0d ho3 hj).2.1)
 refine Xa0 ?_
 refine ⟨⟨hb4,_,iD + 1,rfl,by omega,?_,hn4,hc4,hb4l⟩,by simp only [a1u]; omega⟩
 rw [hstD]
 simpa [c3m] using ho4
end
end Go.Proofs
namespace Go.Proofs
open Go Go.Sh Go.RowKit ShaSpec
section
variable {K:VK} {w w0:World}
abbrev OwnW (w:World) (B:Nat) (v:Value) (l:List W):Prop:=w.ownsRow B 223 1 v l.length (ws l)
def WrdR (w:World) (v:Value) (l:List W):Prop:=∃ ad c,v = .slice ad l.length c ∧ (l = [] ∨ ∃ b o,ad = some ⟨b,o,none⟩ ∧ b < w.heap.size ∧ ∀ i,i < l.length → w.cell? ⟨b,o + i,none⟩ = some (w32 (at' l i)))
theorem WrdR.next {w':World} {v:Value} {l:List W} (h:WrdR w v l) (hb:Bw w w'):WrdR w' v l:=by
 obtain ⟨ad,c,rfl,h⟩:=h
 refine ⟨ad,c,rfl,h.imp id ?_⟩
 rintro ⟨b,o,rfl,hlt,hc⟩
 exact ⟨b,o,rfl,lL hlt hb.size,fun i hi=>by rw [hb.cell hlt]; exact hc i hi⟩
theorem WrdR.at {v:Value} {l:List W} (h:WrdR w v l) (hne:0 < l.length):∃ b o c,v = .slice (some ⟨b,o,none⟩) l.length c ∧ ∀ w',Bw w w' → ∀ i,i < l.length → w'.cell? ⟨b,o + i,none⟩ = some (w32 (at' l i)):=by
 obtain ⟨ad,c,rfl,h⟩:=h
 rcases h with rfl | ⟨b,o,rfl,hlt,hc⟩
 ·simp at hne
 ·exact ⟨b,o,c,rfl,fun w' hb i hi=>by rw [hb.cell hlt]; exact hc i hi⟩
theorem OwnW.read {B:Nat} {v:Value} {l:List W} (h:OwnW w B v l):WrdR w v l:=by
 by_cases h0:l = []
 ·subst h0
  rcases h.2 with ⟨rfl,_⟩ | ⟨g,cap,cur,rfl,_⟩
  ·exact ⟨none,0,rfl,.inl rfl⟩
  ·exact ⟨_,cap,rfl,.inl rfl⟩
 ·obtain ⟨g,cap,cur,rfl,hlt,_,_,_,_,hc⟩:=a6m h (List.length_pos_iff.2 h0)
  refine ⟨_,cap,rfl,.inr ⟨g,0,rfl,hlt,fun i hi=>?_⟩⟩
  rw [Nat.zero_add]
  exact hc i _ (by simp [ws,at',List.getD_eq_getElem?_getD,hi])
theorem OwnW.keep {B:Nat} {v:Value} {l:List W} {w':World} (h:OwnW w B v l) (hb:Bw w w'):OwnW w' B v l:=
 a3r h (fun i hi=>hb.block i (a0d h hi).1)
@[go_sem] theorem g4q (T:TypeId) (b o n c:Nat) (x:Int):oM Tryz.prog (.indexAddr 230 (.tmp 0) (.tmp 1)) T [.slice (some ⟨b,o,none⟩) n c,.int .i64 x] = onM (0 ≤ x ∧ x < n) (.pointer (some ⟨b,o + x.toNat,none⟩)):=by
 funext K w
 rw [a2x,run_indexAt_slice (h:=by kernel_rfl)]
 have hs:(sizeOf (Tryz.prog.elem 230)).run Tryz.prog w = .ok 1 w:=by kernel_rfl
 by_cases hi:0 ≤ x ∧ x < n
 ·rw [if_pos hi,hs]
  simp only [Result.andThen,a1w,Nat.mul_one,c4h]
  exact propext ⟨fun h=>⟨hi,h⟩,fun h=>h.2⟩
 ·rw [if_neg hi]
  obtain ⟨e',w',he⟩:=c9b Value Tryz.prog .i64 x n .index w
  rw [he]
  exact propext ⟨fun h=>h.elim,fun h=>hi h.1⟩
theorem g6s {T:TypeId} (x:W) (k:∀ g W,Bw w W → g < W.heap.size → W.cell? ⟨g,0,none⟩ = some (w32 x) → K (.slice (some ⟨g,0,none⟩) 1 1) W):oM Tryz.prog (.buildSlice 230 1 #[(0,.tmp 0)]) T [w32 x] K w:=by
 rw [a1a]
 have e:(Instr.buildSlice 230 1 #[(0,w32 x)]).run Tryz.prog w = .ok (.slice (some ⟨w.heap.size,0,none⟩) 1 1) (w.alloc (.cells #[w32 x] 223)):=by kernel_rfl
 rw [e]
 refine k _ _ ((Below.refl _ w).alloc (rL) _) (by simp) ?_
 have:=World.cell?_alloc_at (w:=w) #[w32 x] 223 w.heap.size 0 rfl
 rw [this]
 rfl
theorem e0a {B:Nat} {T:TypeId} {v:Value} {l:List W} {x:W} {g c:Nat} (ho:OwnW w B v l) (hB:B ≤ w.heap.size) (hx:w.cell? ⟨g,0,none⟩ = some (w32 x)) (hl:l.length < 1099511627776)
  (k:∀ v' w',OwnW w' B v' (l ++ [x]) → Below B w w' → K v' w'):oM Tryz.prog (.call { callee:=.builtin .append,args:=#[.tmp 0,.tmp 1],argTypes:=#[230,230] }) T [v,.slice (some ⟨g,0,none⟩) 1 c] K w:=by
 refine a5a 230 T 223 ((Tryz.prog.info? 223).getD default) (.int .u32 0) 1 4 (by kernel_rfl) (by kernel_rfl) (by kernel_rfl) (by kernel_rfl) (by kernel_rfl) (by kernel_rfl) (by omega) (a2v ho (Nat.zero_le _)) [w32 x] (by simp) (by simp) ?_ ?_ (by simp only [maxLen]; omega) (by omega) ?_
 ·rintro a ha j u hj
  cases ha
  match j,hj with
  | 0,hj=>
   simp only [List.getElem?_cons_zero,Option.some.injEq] at hj
   subst hj
   rw [a1w]; exact hx
 ·intro u hu
  simp only [List.mem_singleton] at hu
  subst hu; rfl
 ·intro v' w' ho' hg hv
  have hbl:∀ i,v.ownBlock = some i → B ≤ i:=fun i hi=>(a0d ho hi).2.1
  refine k v' w' ?_ ((Below.refl B w).grown hg hB hbl)
  have e2:ws (l ++ [x]) = ws l ++ [w32 x]:=by simp [ws]
  show w'.ownsRow B 223 1 v' (l ++ [x]).length (ws (l ++ [x]))
  rw [List.length_append,e2]
  exact a2b ho' (fun i hi=>(hv i hi).elim (hbl i) (fun h=>Nat.le_trans hB h))
theorem a7n (x:W) (r:Nat) (h0:0 < r) (h1:r < 32) (k:∀ w',Bw w w' → K (w32 (a5b x r)) w'):a0a Tryz.prog 234 #[w32 x,.int .i64 (r:Int)] K w:=by
 apply d7j
 unfold f1q
 have s1:=fun t t' T=>g2x (P:=Tryz.prog) t t' T .i64 x (32 - r) (by omega)
 have s2:=fun t t' T=>f4e (P:=Tryz.prog) t t' T .i64 x r (by omega)
 have e1:IntKind.i64.wrap (32 - (r:Int)) = ((32 - r:Nat):Int):=by rw [a0o _ (by omega) (by omega)]; omega
 obtain ⟨m,hm⟩:∃ m,m = 32 - r:=⟨_,rfl⟩
 rw [← hm] at e1 s1
 refine ⟨Nx w,.drawn,?_⟩
 refine Xg (An4 @e1 @s1 @s2 @wor) ?_
 intro w' hw'
 have k:=k w' hw'
 unfold a5b at k
 rw [← hm] at k
 exact k
abbrev W':=BitVec 32
theorem tu6 {K:VK} {w:World} (x:W) (k:∀ w',Bw w w' → K (w32 (a5b x 6)) w'):a0a Tryz.prog 234 #[w32 x,.int .i64 6] K w:=a7n x 6 (by omega) (by omega) k
theorem g6t {W:World} {KQ:Value → Prop} (x:W') (k:KQ (w32 (a5b x 6))):a3h Tryz.prog 234 #[w32 x,.int .i64 6] (Nx W) KQ:=a1j (v:=w32 (a5b x 6)) (fun w hw=>tu6 x (fun w' h=>⟨rfl,hw.on h⟩)) k
theorem g8l {K:VK} {w:World} (x:W) (k:∀ w',Bw w w' → K (w32 (a5b x 11)) w'):a0a Tryz.prog 234 #[w32 x,.int .i64 11] K w:=a7n x 11 (by omega) (by omega) k
theorem g0z {W:World} {KQ:Value → Prop} (x:W') (k:KQ (w32 (a5b x 11))):a3h Tryz.prog 234 #[w32 x,.int .i64 11] (Nx W) KQ:=a1j (v:=w32 (a5b x 11)) (fun w hw=>g8l x (fun w' h=>⟨rfl,hw.on h⟩)) k
theorem g8m {K:VK} {w:World} (x:W) (k:∀ w',Bw w w' → K (w32 (a5b x 25)) w'):a0a Tryz.prog 234 #[w32 x,.int .i64 25] K w:=a7n x 25 (by omega) (by omega) k
theorem g1a {W:World} {KQ:Value → Prop} (x:W') (k:KQ (w32 (a5b x 25))):a3h Tryz.prog 234 #[w32 x,.int .i64 25] (Nx W) KQ:=a1j (v:=w32 (a5b x 25)) (fun w hw=>g8m x (fun w' h=>⟨rfl,hw.on h⟩)) k
theorem tu2 {K:VK} {w:World} (x:W) (k:∀ w',Bw w w' → K (w32 (a5b x 2)) w'):a0a Tryz.prog 234 #[w32 x,.int .i64 2] K w:=a7n x 2 (by omega) (by omega) k
theorem g6u {W:World} {KQ:Value → Prop} (x:W') (k:KQ (w32 (a5b x 2))):a3h Tryz.prog 234 #[w32 x,.int .i64 2] (Nx W) KQ:=a1j (v:=w32 (a5b x 2)) (fun w hw=>tu2 x (fun w' h=>⟨rfl,hw.on h⟩)) k
theorem g8n {K:VK} {w:World} (x:W) (k:∀ w',Bw w w' → K (w32 (a5b x 13)) w'):a0a Tryz.prog 234 #[w32 x,.int .i64 13] K w:=a7n x 13 (by omega) (by omega) k
theorem g1b {W:World} {KQ:Value → Prop} (x:W') (k:KQ (w32 (a5b x 13))):a3h Tryz.prog 234 #[w32 x,.int .i64 13] (Nx W) KQ:=a1j (v:=w32 (a5b x 13)) (fun w hw=>g8n x (fun w' h=>⟨rfl,hw.on h⟩)) k
theorem g8o {K:VK} {w:World} (x:W) (k:∀ w',Bw w w' → K (w32 (a5b x 22)) w'):a0a Tryz.prog 234 #[w32 x,.int .i64 22] K w:=a7n x 22 (by omega) (by omega) k
theorem g1c {W:World} {KQ:Value → Prop} (x:W') (k:KQ (w32 (a5b x 22))):a3h Tryz.prog 234 #[w32 x,.int .i64 22] (Nx W) KQ:=a1j (v:=w32 (a5b x 22)) (fun w hw=>g8o x (fun w' h=>⟨rfl,hw.on h⟩)) k
theorem tu7 {K:VK} {w:World} (x:W) (k:∀ w',Bw w w' → K (w32 (a5b x 7)) w'):a0a Tryz.prog 234 #[w32 x,.int .i64 7] K w:=a7n x 7 (by omega) (by omega) k
theorem g8p {K:VK} {w:World} (x:W) (k:∀ w',Bw w w' → K (w32 (a5b x 18)) w'):a0a Tryz.prog 234 #[w32 x,.int .i64 18] K w:=a7n x 18 (by omega) (by omega) k
theorem g8q {K:VK} {w:World} (x:W) (k:∀ w',Bw w w' → K (w32 (a5b x 17)) w'):a0a Tryz.prog 234 #[w32 x,.int .i64 17] K w:=a7n x 17 (by omega) (by omega) k
theorem g8r {K:VK} {w:World} (x:W) (k:∀ w',Bw w w' → K (w32 (a5b x 19)) w'):a0a Tryz.prog 234 #[w32 x,.int .i64 19] K w:=a7n x 19 (by omega) (by omega) k
theorem g6v {T:TypeId} (s:St) (k:∀ v W,Bw w W → OwnW W w.heap.size v s.list → K v W):oM Tryz.prog (.buildSlice 230 8 #[(0,(.tmp 0)),(1,(.tmp 1)),(2,(.tmp 2)),(3,(.tmp 3)),(4,(.tmp 4)),(5,(.tmp 5)),(6,(.tmp 6)),(7,(.tmp 7))]) T [w32 s.a,w32 s.b,w32 s.c,w32 s.d,w32 s.e,w32 s.f,w32 s.g,w32 s.h] K w:=by
 rw [b0d (S:=Instr.buildSlice 230 8 (((List.range 8).zip (ws s.list))).toArray) (by kernel_rfl)]
 have e:(Instr.buildSlice 230 8 (((List.range 8).zip (ws s.list))).toArray).run Tryz.prog w = .ok (.slice (some ⟨w.heap.size,0,none⟩) 8 8) (w.alloc (.cells (ws s.list).toArray 223)):=by kernel_rfl
 rw [e]
 refine k _ _ ((Below.refl _ w).alloc (rL) _) ⟨by simp,.inr ⟨w.heap.size,8,_,rfl,rL,heap_alloc_new w _,rL,by decide,rfl,?_⟩⟩
 rw [List.take_of_length_le (by simp [St.list])]
theorem e0b (k:∀ v W,Bw w W → OwnW W w.heap.size v first.list → K v W):a0a Tryz.prog 218 #[] K w:=by
 apply d7f
 unfold f1m
 exact g6v first k
theorem f5z (k:∀ v W,Bw w W → WrdR W v consts → K v W):a0a Tryz.prog 233 #[] K w:=by
 apply d7i
 unfold f1p
 have e0:∀ K w,oM Tryz.prog (Go.Op.buildSlice 230 64 ((List.range 64).map fun i=>(i,Operand.tmp i)).toArray) 230 (ws consts) K w = K (.slice (some ⟨w.heap.size,0,none⟩) 64 64) (w.alloc (.cells (ws consts).toArray 223)):=by
  intro K w
  kernel_rfl
 refine (e0 _ w).symm ▸ ?_
 refine k _ _ ((Below.refl _ w).alloc (rL) _) ⟨_,64,rfl,.inr ⟨w.heap.size,0,rfl,by simp,fun i hi=>?_⟩⟩
 rw [Nat.zero_add]
 have:=World.cell?_alloc_at (w:=w) (ws consts).toArray 223 w.heap.size i rfl
 rw [this]
 simp [ws,at',List.getD_eq_getElem?_getD,hi]
def WoJ (w0:World) (b:List UInt8) (l:List Value) (w':World):Prop:=∃ (v:Value) (i:Nat),l = [v,.int .i64 (i:Int)] ∧ i ≤ 16 ∧ OwnW w' w0.heap.size v (a3c b i) ∧ Bw w0 w'
def g6w (n:Nat) (l:List Value) (_:World):Nat:=match l with | [_,.int _ i]=>n - i.toNat | _=>0
theorem f6a (n:Nat) (x:Value) (q:IntKind) (i:Int) (w:World):g6w n [x,.int q i] w = n - i.toNat:=rfl
def g8s (w0:World) (b:List UInt8) (l:List Value) (w':World):Prop:=∃ (v1 v2 v3 v4 v:Value) (i:Nat),l = [v1,v2,v3,v4,v,.int .i64 (i:Int)] ∧ 16 ≤ i ∧ i ≤ 64 ∧ OwnW w' w0.heap.size v (a3c b i) ∧ Bw w0 w'
def One (x:W) (v:Value) (w':World):Prop:=∃ g,v = .slice (some ⟨g,0,none⟩) 1 1 ∧ g < w'.heap.size ∧ w'.cell? ⟨g,0,none⟩ = some (w32 x)
theorem One.next {x:W} {v:Value} {w w':World} (h:One x v w) (hb:Nx w w'):One x v w':=by
 obtain ⟨g,rfl,hlt,hc⟩:=h
 exact ⟨g,rfl,lL hlt hb.size,by rw [hb.cell hlt]; exact hc⟩
theorem e6p (b:List UInt8) {B o c:Nat} (hl:b.length = 64) (hb:ByR w B o b) (k:∀ v W,Bw w W → WrdR W v (a3c b 64) → K v W):a0a Tryz.prog 232 #[.slice (some ⟨B,o,none⟩) 64 c] K w:=by
 apply d7h
 unfold f1o
 refine ⟨WoJ w b,g6w 16,⟨_,0,rfl,by omega,⟨rfl,.inl ⟨rfl,rfl⟩⟩,bR⟩,?_⟩
 rintro _ _ w1 ⟨v,i,rfl,hi,ho,hB⟩
 by_cases h16:i < 16
 ·refine Xa0 ?_
  have ho:=ho.keep (.drawn (B:=w1.heap.size))
  have hB:=hB.on (.drawn (B:=w1.heap.size))
  refine ⟨Nx { w1 with drawn:=w1.drawn + 1 },bR,rfl,?_⟩
  generalize ({ w1 with drawn:=w1.drawn + 1 }:World) = w2 at ho hB ⊢
  have cb:∀ j,j < 64 → ∀ w',Nx w2 w' → w'.cell? ⟨B,o + j,none⟩ = some (.int .u8 ((b.getD j 0).toNat:Int)):=fun j hj w' hw=>(hb.next (hB.on hw)).2 j (by omega)
  have t1:(4 * (i:Int)).toNat = 4 * i:=by omega
  have t2:(4 * (i:Int) + 1).toNat = 4 * i + 1:=by omega
  have t3:(4 * (i:Int) + 2).toNat = 4 * i + 2:=by omega
  have t4:(4 * (i:Int) + 3).toNat = 4 * i + 3:=by omega
  have c1:=cb (4 * i) (by omega)
  have c2:=cb (4 * i + 1) (by omega)
  have c3:=cb (4 * i + 2) (by omega)
  have c4:=cb (4 * i + 3) (by omega)
  have q1:IntKind.i64.wrap (4 * (i:Int)) = 4 * i:=a0o _ (by omega) (by omega)
  have q2:IntKind.i64.wrap (4 * (i:Int) + 1) = 4 * i + 1:=a0o _ (by omega) (by omega)
  have q3:IntKind.i64.wrap (4 * (i:Int) + 2) = 4 * i + 2:=a0o _ (by omega) (by omega)
  have q4:IntKind.i64.wrap (4 * (i:Int) + 3) = 4 * i + 3:=a0o _ (by omega) (by omega)
  refine Xf (fun W0 hW0=>An4 (c1 _ hW0) (c2 _ hW0) (c3 _ hW0) (c4 _ hW0)) (g7p @q1 @q2 @q3 @q4 @t1 @t2 @t3 @t4 @e0r @g1j @g1k @g7c @wor) ?_
  have en:b3u b (a3c b i) i = w8 (b[4 * i]?.getD 0) <<< 24 ||| w8 (b[4 * i + 1]?.getD 0) <<< 16 ||| w8 (b[4 * i + 2]?.getD 0) <<< 8 ||| w8 (b[4 * i + 3]?.getD 0):=by
   unfold b3u g5x
   rw [if_pos h16]
   simp only [List.getD_eq_getElem?_getD]
  rw [← en]
  refine ⟨Nx,a3i (One (b3u b (a3c b i) i)) (fun v w w1 hS h=>h.next hS) ?_ ?_⟩
  ·intro w3 h3
   exact g6s _ (fun g w4 h4 hlt hc=>⟨h3.on h4,h4,g,rfl,hlt,hc⟩)
  rintro w3 h3 _ ⟨g,rfl,hlt,hc⟩
  refine e0a (ho.keep h3) (hB.on h3).size hc (by rw [a1k]; omega) (fun v' w4 ho4 hb4=>?_)
  refine Xa0 ?_
  refine ⟨⟨_,i + 1,rfl,h16,ho4,(hB.on h3).trans hb4⟩,?_⟩
  simp only [f6a]; omega
 ·obtain rfl:i = 16:=by omega
  refine Xa0 ?_
  refine ⟨g8s w b,e7f,⟨_,_,_,_,_,16,rfl,by omega,by omega,ho,hB⟩,?_⟩
  clear ho hB v
  rintro _ _ w1 ⟨v1,v2,v3,v4,v,i,rfl,hi1,hi,ho,hB⟩
  by_cases hi64:i < 64
  ·obtain ⟨g,og,cg,rfl,hr⟩:=ho.read.at (by rw [a1k]; omega)
   rw [a1k] at *
   have t1:((i:Int) - 15).toNat = i - 15:=by omega
   have t2:((i:Int) - 2).toNat = i - 2:=by omega
   have t3:((i:Int) - 16).toNat = i - 16:=by omega
   have t4:((i:Int) - 7).toNat = i - 7:=by omega
   have q3:IntKind.i64.wrap ((i:Int) - 16) = (i:Int) - 16:=a0o _ (by omega) (by omega)
   have q4:IntKind.i64.wrap ((i:Int) - 7) = (i:Int) - 7:=a0o _ (by omega) (by omega)
   have hz:=Below.refl w1.heap.size w1
   refine Xa (An4 @t1 @t2 (hr _ hz (i - 15) (by omega)) (hr _ hz (i - 2) (by omega))) ?_
   refine tu7 _ (fun w2 h2=>?_)
   refine g8p _ (fun w3 h3=>?_)
   refine Xa (An2 @g7d @e3c) ?_
   refine g8q _ (fun w4 h4=>?_)
   refine g8r _ (fun w5 h5=>?_)
   refine Xa (An2 @g1l @e3c) ?_
   have h5:=(((h2.on h3).on h4).on h5).on (.drawn (B:=w5.heap.size))
   clear h2 h3 h4 hz
   refine ⟨Nx { w5 with drawn:=w5.drawn + 1 },bR,rfl,?_⟩
   generalize ({ w5 with drawn:=w5.drawn + 1 }:World) = w6 at h5 ⊢
   refine Xf (fun W0 hW0=>An2 (hr _ (h5.on hW0) (i - 16) (by omega)) (hr _ (h5.on hW0) (i - 7) (by omega))) (An5 @q3 @q4 @t3 @t4 @f4d) ?_
   have en:b3u b (a3c b i) i = at' (a3c b i) (i - 16) + g3b (at' (a3c b i) (i - 15)) + at' (a3c b i) (i - 7) + g3c (at' (a3c b i) (i - 2)):=by
    unfold b3u
    rw [if_neg (by omega)]
   unfold g3b g3c at en
   rw [← en]
   refine ⟨Nx,a3i (One (b3u b (a3c b i) i)) (fun v w w1 hS h=>h.next hS) ?_ ?_⟩
   ·intro w3 h3
    exact g6s _ (fun g w4 h4 hlt hc=>⟨h3.on h4,h4,g,rfl,hlt,hc⟩)
   rintro w3 h3 _ ⟨g2,rfl,hlt,hc⟩
   have h3:=h5.on h3
   refine e0a (ho.keep h3) (hB.on h3).size hc (by rw [a1k]; omega) (fun v' w4 ho4 hb4=>?_)
   refine Xa0 ?_
   refine ⟨⟨_,_,_,_,_,i + 1,rfl,by omega,hi64,ho4,(hB.on h3).trans hb4⟩,?_⟩
   simp only [c3w]; omega
  ·obtain rfl:i = 64:=by omega
   refine Xa0 ?_
   exact k _ _ hB ho.read
theorem g8t {T:TypeId} (k:∀ v W,Bw w W → OwnW W w.heap.size v [] → K v W):oM Tryz.prog (.buildSlice 230 0 #[]) T [] K w:=by
 rw [a5s]
 have e:(Instr.buildSlice 230 0 #[]).run Tryz.prog w = .ok (.slice (some ⟨w.heap.size,0,none⟩) 0 0) (w.alloc (.cells #[] 223)):=by kernel_rfl
 rw [e]
 exact k _ _ ((Below.refl _ w).alloc (rL) _) ⟨rfl,.inr ⟨w.heap.size,0,#[],rfl,rL,heap_alloc_new w _,rL,by decide,rfl,rfl⟩⟩
theorem e0c {B:Nat} {T:TypeId} {v hv:Value} {l m:List W} (ho:OwnW w B v l) (hB:B ≤ w.heap.size) (hx:WrdR w hv m) (hne:0 < m.length) (hl:l.length + m.length < 1099511627776)
  (k:∀ v' w',OwnW w' B v' (l ++ m) → Below B w w' → K v' w'):oM Tryz.prog (.call { callee:=.builtin .append,args:=#[.tmp 0,.tmp 1],argTypes:=#[230,230] }) T [v,hv] K w:=by
 obtain ⟨ad,c,rfl,hm⟩:=hx
 obtain ⟨b,o,rfl,hlt,hc⟩:=hm.resolve_left (fun h0=>by subst h0; simp at hne)
 refine a5a 230 T 223 ((Tryz.prog.info? 223).getD default) (.int .u32 0) 1 4 (by kernel_rfl) (by kernel_rfl) (by kernel_rfl) (by kernel_rfl) (by kernel_rfl) (by kernel_rfl) (by omega) (a2v ho (Nat.zero_le _)) (ws m) (by simp) (by simp) ?_ ?_ (by simp only [maxLen]; omega) (by omega) ?_
 ·rintro a ha j u hj
  cases ha
  have hjl:j < m.length:=by have:=(gS hj).1; simpa using this
  rw [a1w,hc j hjl,← hj]
  simp [ws,at',List.getD_eq_getElem?_getD,hjl]
 ·exact a9w m
 ·intro v' w' ho' hg hv
  have hbl:∀ i,v.ownBlock = some i → B ≤ i:=fun i hi=>(a0d ho hi).2.1
  refine k v' w' ?_ ((Below.refl B w).grown hg hB hbl)
  have e2:ws (l ++ m) = ws l ++ ws m:=by simp [ws]
  show w'.ownsRow B 223 1 v' (l ++ m).length (ws (l ++ m))
  rw [List.length_append,e2]
  exact a2b ho' (fun i hi=>(hv i hi).elim (hbl i) (fun h=>Nat.le_trans hB h))
theorem g8u {B i:Nat} {T:TypeId} {v:Value} {l:List W} (x:W) (ho:OwnW w B v l) (hi:i < l.length):∃ g c,v = .slice (some ⟨g,0,none⟩) l.length c ∧ B ≤ g ∧ ∀ K:VK,(∀ w',w.grownBy w' (some g) → OwnW w' B v (l.set i x) → K undef w') →
  oM Tryz.prog (.store 223 (.tmp 0) (.tmp 1)) T [ptr g i,w32 x] K w:=by
 rcases ho.2 with ⟨_,h0⟩ | ⟨g,cap,cur,rfl,hb,hg,hn,hm,hs,ht⟩
 ·omega
 ·refine ⟨g,cap,rfl,hb,fun K k=>?_⟩
  have hh:Holds w g 223 cur.toList:=by unfold Holds; simpa using hg
  have hcl:cur.toList.length = cap:=by simpa using hs
  refine a3q (i:=i) d0y rfl rfl hh (by omega) (fun w' hgr hh'=>k w' hgr ⟨by simp,.inr ⟨g,cap,(cur.toList.set i (w32 x)).toArray,by rw [List.length_set],hb,hh',by rw [List.length_set]; exact hn,hm,by simp; omega,?_⟩⟩)
  rw [List.length_set]
  rw [Nat.mul_one] at ht ⊢
  simp only [List.take_set,ht]
  unfold ws
  rw [List.map_set]
def RdJ (w0:World) (b:List UInt8) (s:St) (l:List Value) (w':World):Prop:=∃ (v1 v2 v3 v4 v5 v:Value) (i:Nat),l = [v1,v2,v3,v4,v5,v,.int .i64 (i:Int)] ∧ i ≤ 64 ∧ OwnW w' w0.heap.size v (a6a b s i).list ∧ Bw w0 w'
def g6x (l:List Value) (_:World):Nat:=match l with | [_,_,_,_,_,_,.int _ i]=>64 - i.toNat | _=>0
theorem f6b (a b c d e f:Value) (q:IntKind) (i:Int) (w:World):g6x [a,b,c,d,e,f,.int q i] w = 64 - i.toNat:=rfl
theorem e0d (b:List UInt8) {B o c:Nat} (hl:b.length = 64) (hb:ByR w B o b) (k:∀ sl v W,sl = a3c b 64 → Bw w W → WrdR W v sl → K v W):a0a Tryz.prog 232 #[.slice (some ⟨B,o,none⟩) 64 c] K w:=
 e6p b hl hb fun v W h1 h2=>k _ v W rfl h1 h2
theorem g4r {P:Program} (t T:TypeId) (x:W):oM P (.unOp .xor t (.tmp 0)) T [w32 x] = a0j (w32 (~~~ x)):=by
 funext K w
 have e:bits .xor .u32 4294967295 (x.toNat:Int) = ((~~~ x).toNat:Int):=by
  have:=c2k (BitVec.allOnes 32) x
  rw [BitVec.allOnes_xor] at this
  exact this
 unfold w32
 rw [← e]
 simp [oM,opM,xop,execOp,a1h,evE,Op.unary,go_sem]
 exact Iff.rfl
theorem e6q (s:St) (b:List UInt8) {hv:Value} {B o c:Nat} (hl:b.length = 64) (hb:ByR w B o b) (hs:WrdR w hv s.list) (k:∀ v W,Bw w W → OwnW W w.heap.size v (mix s b).list → K v W):a0a Tryz.prog 219 #[hv,.slice (some ⟨B,o,none⟩) 64 c] K w:=by
 apply d7g
 unfold f1n
 refine e0d b hl hb fun sl v1 w1 hsl h1 hw1=>?_
 refine f5z fun v2 w2 h2 hw2=>?_
 refine g8t fun v3 w3 h3 ho3=>?_
 have hl64:sl.length = 64:=by rw [hsl]; exact a1k b 64
 have hA:Nx w w2:=h1.on h2
 refine e0c ho3 h3.size ((hs.next hA).next h3) (show 0 < 8 by decide) (by show 0 + 8 < _; omega) (fun v4 w4 ho5 h4=>?_)
 have ho4:OwnW w4 w2.heap.size v4 s.list:=ho5
 have hB4:Nx w2 w4:=h3.trans h4
 obtain ⟨bs,os,cs,rfl,hsr⟩:=(hw1.next h2).at (by omega)
 obtain ⟨bk,ok,ck,rfl,hkr⟩:=hw2.at (by rw [a9c]; omega)
 obtain ⟨bh,oh,chh,rfl,hhr⟩:=(hs.next hA).at (show 0 < 8 by decide)
 refine ⟨RdJ w2 b s,g6x,⟨_,_,_,_,_,_,0,rfl,by omega,ho4,hB4⟩,?_⟩
 clear hB4 ho4 ho5 h4 ho3 h3 w4 w3
 rintro _ _ w5 ⟨u1,u2,u3,u4,u5,v,i,rfl,hi,ho,hB⟩
 rw [a9c,hl64] at *
 by_cases hi64:i < 64
 ·have e1:a6a b s (i + 1) = round (a6a b s i) (at' consts i) (at' sl i):=by rw [hsl]; rfl
  have kk:=fun w' (h:Nx w5 w')=>hkr w' (hB.on h) i hi64
  have ks:=fun w' (h:Nx w5 w')=>hsr w' (hB.on h) i hi64
  obtain ⟨q,hq⟩:∃ q,q = a6a b s i:=⟨_,rfl⟩
  rw [← hq] at e1 ho
  obtain ⟨bv,ov,cv,rfl,hvr⟩:=ho.read.at (show 0 < 8 by decide)
  have c0:∀ w',Nx w5 w' → w'.cell? ⟨bv,ov,none⟩ = some (w32 q.a):=fun w' h=>hvr w' h 0 (show 0 < 8 by decide)
  have c1:∀ w',Nx w5 w' → w'.cell? ⟨bv,ov + 1,none⟩ = some (w32 q.b):=fun w' h=>hvr w' h 1 (show 1 < 8 by decide)
  have c2:∀ w',Nx w5 w' → w'.cell? ⟨bv,ov + 2,none⟩ = some (w32 q.c):=fun w' h=>hvr w' h 2 (show 2 < 8 by decide)
  have c3:∀ w',Nx w5 w' → w'.cell? ⟨bv,ov + 3,none⟩ = some (w32 q.d):=fun w' h=>hvr w' h 3 (show 3 < 8 by decide)
  have c4:∀ w',Nx w5 w' → w'.cell? ⟨bv,ov + 4,none⟩ = some (w32 q.e):=fun w' h=>hvr w' h 4 (show 4 < 8 by decide)
  have c5:∀ w',Nx w5 w' → w'.cell? ⟨bv,ov + 5,none⟩ = some (w32 q.f):=fun w' h=>hvr w' h 5 (show 5 < 8 by decide)
  have c6:∀ w',Nx w5 w' → w'.cell? ⟨bv,ov + 6,none⟩ = some (w32 q.g):=fun w' h=>hvr w' h 6 (show 6 < 8 by decide)
  have c7:∀ w',Nx w5 w' → w'.cell? ⟨bv,ov + 7,none⟩ = some (w32 q.h):=fun w' h=>hvr w' h 7 (show 7 < 8 by decide)
  have l8:q.list.length = 8:=rfl
  rw [l8] at *
  refine Xa0 ?_
  refine ⟨Nx w5,.drawn,?_⟩
  repeat (any_goals (first
  | (with_reducible refine g6t _ ?_) | (with_reducible refine g0z _ ?_) | (with_reducible refine g1a _ ?_) | (with_reducible refine g6u _ ?_) | (with_reducible refine g1b _ ?_) | (with_reducible refine g1c _ ?_)
  | ((with_reducible refine f3y ?_); (with_reducible refine d3b ⟨_,rfl⟩ (fun W0 hW0=>by (refine oG (fun X Y=>?_)); simp [go_sem,c4 _ hW0,e3c]; (first | exact Y _ _ ⟨rfl,rfl⟩ | exact ⟨by omega,Y _ _ ⟨rfl,rfl⟩⟩)) ?_))))
  intro w6 h6
  refine ⟨Nx w5,h6.on .drawn,?_⟩
  clear h6 w6
  refine Xf (fun W0 hW0=>An3 (c4 _ hW0) (c5 _ hW0) (c6 _ hW0)) (An4 @e3c @g3v @g4r @g5w) ?_
  intro w6 h6
  refine ⟨Nx w5,h6.on .drawn,?_⟩
  clear h6 w6
  refine Xf (fun W0 hW0=>An3 (c7 _ hW0) (kk _ hW0) (ks _ hW0)) @f4d ?_
  intro w6 h6
  refine ⟨Nx w5,h6.on .drawn,?_⟩
  clear h6 w6
  repeat (any_goals (first
  | (with_reducible refine g6t _ ?_) | (with_reducible refine g0z _ ?_) | (with_reducible refine g1a _ ?_) | (with_reducible refine g6u _ ?_) | (with_reducible refine g1b _ ?_) | (with_reducible refine g1c _ ?_)
  | ((with_reducible refine f3y ?_); (with_reducible refine d3b ⟨_,rfl⟩ (fun W0 hW0=>by (refine oG (fun X Y=>?_)); simp [go_sem,c0 _ hW0,e3c]; (first | exact Y _ _ ⟨rfl,rfl⟩ | exact ⟨by omega,Y _ _ ⟨rfl,rfl⟩⟩)) ?_))))
  intro w6 h6
  refine ⟨Nx w5,h6.on .drawn,?_⟩
  clear h6 w6
  refine Xf (fun W0 hW0=>An3 (c0 _ hW0) (c1 _ hW0) (c2 _ hW0)) (An3 @e3c @g3v @g3a) ?_
  intro w6 h6
  refine ⟨Nx w5,h6.on .drawn,rfl,?_⟩
  clear h6 w6
  refine Xf (fun W0 hW0=>An7 (c0 _ hW0) (c1 _ hW0) (c2 _ hW0) (c3 _ hW0) (c4 _ hW0) (c5 _ hW0) (c6 _ hW0)) @f4d ?_
  refine ⟨Nx,fun w6 h6=>?_⟩
  refine g6v (round q (at' consts i) (at' sl i)) (fun v6 w7 h7 ho7=>?_)
  rw [← e1] at ho7
  have h67:=(hB.on h6)
  refine Xa0 ?_
  refine ⟨⟨_,_,_,_,_,_,i + 1,rfl,hi64,a2v ho7 h67.size,h67.on h7⟩,?_⟩
  simp only [f6b]; omega
 ·obtain rfl:i = 64:=by omega
  have em:(mix s b).list = adL (a6a b s 64) s 8:=rfl
  rw [em] at k
  have ho:OwnW w5 w2.heap.size v (adL (a6a b s 64) s 0):=ho
  clear em
  generalize a6a b s 64 = q at *
  obtain ⟨g,cap,cur,rfl,hlt,hbg,_⟩:=a6m ho (show 0 < 8 by decide)
  refine Xa0 ?_
  refine ⟨fun l w'=>∃ j:Nat,l = [.int .i64 (j:Int)] ∧ j ≤ 8 ∧ OwnW w' w2.heap.size (.slice (some ⟨g,0,none⟩) 8 cap) (adL q s j) ∧ Nx w2 w',fun l _=>match l with | [.int _ j]=>8 - j.toNat | _=>0,⟨0,rfl,by omega,ho,hB⟩,?_⟩
  clear ho hB hlt
  rintro _ _ w6 ⟨j,rfl,hj,ho,hB⟩
  by_cases hj8:j < 8
  ·have h8:=b4y q s j
   refine Xa0 ?_
   have hB:=hB.on (.drawn (B:=w6.heap.size))
   have ho:=ho.keep (.drawn (B:=w6.heap.size))
   refine ⟨Nx { w6 with drawn:=w6.drawn + 1 },bR,rfl,?_⟩
   generalize ({ w6 with drawn:=w6.drawn + 1 }:World) = w7 at ho hB ⊢
   obtain ⟨bv,ov,cv,hv,hvr⟩:=ho.read.at (by omega)
   rw [h8] at hv hvr
   cases hv
   have cv:=fun w' h=>hvr w' h j hj8
   have ch:=fun w' (h:Nx w7 w')=>hhr w' (hB.on h) j hj8
   rw [f3m q s hj8] at cv
   simp only [Nat.zero_add] at cv
   have hs8:s.list.length = 8:=rfl
   refine Xf (fun W0 hW0=>An2 (cv _ hW0) (ch _ hW0)) (An3 @f4d @b4y @hs8) ?_
   refine ⟨Nx,fun w8 h8'=>?_⟩
   obtain ⟨g2,c2,hv2,hb2,hset⟩:=g8u (T:=0) (i:=j) (at' q.list j + at' s.list j) (ho.keep h8') (by rw [h8]; exact hj8)
   cases hv2
   refine hset _ (fun w9 hg9 ho9=>?_)
   rw [e0u q s hj8] at ho9
   have hB9:=a0m (hB.on h8') hg9 hb2
   refine Xa0 ?_
   refine ⟨⟨j + 1,rfl,hj8,ho9,hB9⟩,?_⟩
   show 8 - ((j:Int) + 1).toNat < 8 - (j:Int).toNat
   omega
  ·obtain rfl:j = 8:=by omega
   refine Xa0 ?_
   exact k _ _ (hA.trans (hB.mono hA.size)) (a2v ho hA.size)
end
end Go.Proofs
namespace Go.Proofs
open Go Go.Sh Go.RowKit ShaSpec FdSpec TkSpec
section
variable {K:VK} {w w0:World}
theorem OwnB.keep {B:Nat} {v:Value} {l:List UInt8} {w':World} (h:OwnB w B v l) (hb:Bw w w'):OwnB w' B v l:=
 a3r h (fun i hi=>hb.block i (a0d h hi).1)
theorem OwnB.shape {B:Nat} {v:Value} {l:List UInt8} (h:OwnB w B v l):∃ ad c,v = .slice ad l.length c:=by
 rcases h.2 with ⟨rfl,h0⟩ | ⟨g,cap,cur,rfl,_⟩
 ·exact ⟨none,0,by rw [h0]⟩
 ·exact ⟨_,cap,rfl⟩
theorem g6y {T:TypeId} (k:∀ v W,Bw w W → OwnB W w.heap.size v [] → K v W):oM Tryz.prog (.buildSlice 202 0 #[]) T [] K w:=by
 rw [a5s]
 have e:(Instr.buildSlice 202 0 #[]).run Tryz.prog w = .ok (.slice (some ⟨w.heap.size,0,none⟩) 0 0) (w.alloc (.cells #[] 5)):=by kernel_rfl
 rw [e]
 exact k _ _ ((Below.refl _ w).alloc (rL) _) ⟨rfl,.inr ⟨w.heap.size,0,#[],rfl,rL,heap_alloc_new w _,rL,by decide,rfl,rfl⟩⟩
theorem d0m {B:Nat} {T:TypeId} {v:Value} {l m:List UInt8} {g o n c:Nat} (ho:OwnB w B v l) (hB:B ≤ w.heap.size) (hn:n = m.length) (hx:∀ i,i < m.length → w.cell? ⟨g,o + i,none⟩ = some (.int .u8 ((m.getD i 0).toNat:Int))) (hl:l.length + m.length < 1099511627776)
  (k:∀ v' w',OwnB w' B v' (l ++ m) → Below B w w' → K v' w'):oM Tryz.prog (.call { callee:=.builtin .append,args:=#[.tmp 0,.tmp 1],argTypes:=#[202,202] }) T [v,.slice (some ⟨g,o,none⟩) n c] K w:=by
 subst hn
 refine a5a 202 T 5 ((Tryz.prog.info? 5).getD default) (.int .u8 0) 1 1 (by kernel_rfl) (by kernel_rfl) (by kernel_rfl) (by kernel_rfl) (by kernel_rfl) (by kernel_rfl) (by omega) (a2v ho (Nat.zero_le _)) (Lib.byteCells m) (by simp [Lib.byteCells]) (by simp) ?_ ?_ (by simp only [maxLen]; omega) (by omega) ?_
 ·rintro a ha j u hj
  cases ha
  have hjl:j < m.length:=by have:=(gS hj).1; simpa [Lib.byteCells] using this
  rw [a1w,hx j hjl,← hj]
  simp [Lib.byteCells,List.getD_eq_getElem?_getD,hjl]
 ·intro u hu
  simp only [Lib.byteCells,List.mem_map] at hu
  obtain ⟨x,_,rfl⟩:=hu
  rfl
 ·intro v' w' ho' hg hv
  have hbl:∀ i,v.ownBlock = some i → B ≤ i:=fun i hi=>(a0d ho hi).2.1
  refine k v' w' ?_ ((Below.refl B w).grown hg hB hbl)
  have e2:Lib.byteCells (l ++ m) = Lib.byteCells l ++ Lib.byteCells m:=by simp [Lib.byteCells]
  show w'.ownsRow B 5 1 v' (l ++ m).length (Lib.byteCells (l ++ m))
  rw [List.length_append,e2]
  exact a2b ho' (fun i hi=>(hv i hi).elim (hbl i) (fun h=>Nat.le_trans hB h))
theorem e6r {B:Nat} {T T':TypeId} {v:Value} {l:List UInt8} (x:UInt8) {n:Int} (hx:n = (x.toNat:Int)) (ho:OwnB w B v l) (hB:B ≤ w.heap.size) (hl:l.length + 1 < 1099511627776) (k:∀ v' w',OwnB w' B v' (l ++ [x]) → Below B w w' → K v' w') :
  oM Tryz.prog (.buildSlice 202 1 #[(0,.tmp 0)]) T [.int .u8 n] (fun u w=>oM Tryz.prog (.call { callee:=.builtin .append,args:=#[.tmp 0,.tmp 1],argTypes:=#[202,202] }) T' [v,u] K w) w:=by
 subst hx
 refine g7f x fun g W hb hc=>?_
 refine d0m (m:=[x]) (ho.keep hb) (Nat.le_trans hB hb.size) rfl (fun i hi=>?_) hl (fun v' w' ho' hb'=>k v' w' ho' ((hb.mono hB).trans hb'))
 obtain rfl:i = 0:=by simp at hi; omega
 exact hc
def RzJ (w0:World) (s:List UInt8) (l:List Value) (w':World):Prop:=∃ v j,l = [v] ∧ j ≤ a4s s.length ∧ OwnB w' w0.heap.size v (s ++ [128] ++ List.replicate j 0) ∧ Bw w0 w'
def g8v (w0:World) (s:List UInt8) (l:List Value) (w':World):Prop:=∃ (v:Value) (j:Nat),l = [v,.int .i64 (56 - 8 * (j:Int))] ∧ j ≤ 8 ∧ OwnB w' w0.heap.size v (s ++ [128] ++ List.replicate (a4s s.length) 0 ++ (a4j s.length).take j) ∧ Bw w0 w'
theorem e0e (s:List UInt8) (hs:s.length ≤ 1000000000) {v0:Value} (h0:BufM w 5 v0 s) (k:∀ v w',OwnB w' w.heap.size v (a2w s) → Bw w w' → K v w'):a0a Tryz.prog 217 #[v0] K w:=by
 apply d7e
 unfold f1l
 obtain ⟨g0,c0,rfl,hlt0⟩:=h0.shape
 have hby:=e0x h0
 refine g6y fun v1 w1 h1 ho1=>?_
 refine d0m (m:=s) ho1 h1.size rfl (fun i hi=>(hby.next h1).2 i hi) (by simp; omega) (fun v2 w2 ho2 h2=>?_)
 have h2:=h1.trans h2
 rw [List.nil_append] at ho2
 refine e6r 128 rfl ho2 h2.size (by omega) (fun v3 w3 ho3 h3=>?_)
 have h3:=h2.trans h3
 refine ⟨RzJ w s,g5f (s.length + 1 + a4s s.length),⟨_,0,rfl,by omega,by simpa using ho3,h3⟩,?_⟩
 rintro _ _ w1 ⟨v1,j,rfl,hj,ho,hB⟩
 obtain ⟨ad1,c1,rfl⟩:=ho.shape
 have hz:a4s s.length < 64:=by unfold a4s; omega
 by_cases hjz:j < a4s s.length
 ·have hm:¬ ((s.length:Int) + 1 + (j:Int)).tmod 64 = 56:=by
   rw [Int.tmod_eq_emod_of_nonneg (by omega)]; unfold a4s at hjz; omega
  rw [a7q] at *
  repeat (any_goals (first
  | ((with_reducible refine e6r 0 rfl ho hB.size (by rw [a7q]; omega) ?_); intro v2 w2 ho2 h2)
  | (with_reducible refine yL ?_)
  | ((with_reducible refine oG fun X Y=>?_); simp [go_sem,hm]; apply Y; clear Y X)))
  have h2:=hB.trans h2
  have e:s ++ [(128:UInt8)] ++ List.replicate j 0 ++ [0] = s ++ [128] ++ List.replicate (j + 1) 0:=by
   simp [List.replicate_succ',List.append_assoc]
  rw [e] at ho2
  obtain ⟨ad2,c2,rfl⟩:=ho2.shape
  refine ⟨⟨_,j + 1,rfl,hjz,ho2,h2⟩,?_⟩
  rw [a7q]
  simp only [e1a]; omega
 ·obtain rfl:j = a4s s.length:=by omega
  have hm:((s.length:Int) + 1 + (a4s s.length:Int)).tmod 64 = 56:=by
   rw [Int.tmod_eq_emod_of_nonneg (by omega)]; unfold a4s; omega
  rw [a7q] at *
  have hq:IntKind.u64.wrap (s.length:Int) = (s.length:Int):=a1v _ (by omega) (by omega)
  refine Xa (An2 @hm @hq) ?_
  refine ⟨g8v w s,g5g,⟨_,0,rfl,by omega,by simpa using ho,hB⟩,?_⟩
  clear ho hB hm
  rintro _ _ w1 ⟨v1,j,rfl,hj,ho,hB⟩
  have hle:(s ++ [(128:UInt8)] ++ List.replicate (a4s s.length) 0 ++ (a4j s.length).take j).length = s.length + 1 + a4s s.length + j:=by
   rw [List.length_append,a7q,List.length_take,a1s]; omega
  by_cases hj8:j < 8
  ·have hsh:=fun t t' T x=>b3p (P:=Tryz.prog) t t' T .i64 x (56 - 8 * (j:Int)) (by omega) (by omega)
   repeat (any_goals (first
   | ((with_reducible refine e6r ((a4j s.length).getD j 0) (e1c _ _ hj8 (by omega)) ho hB.size (by omega) ?_); intro v2 w2 ho2 h2)
   | (with_reducible refine yN ?_)
   | ((with_reducible refine oG fun X Y=>?_); simp [go_sem,hq,hsh]; (try simp (disch:=omega) only [a0o,a4r,a1v]); apply Y; clear Y X)))
   refine ⟨⟨_,j + 1,by rw [show 56 - 8 * (j:Int) - 8 = 56 - 8 * ((j + 1:Nat):Int) by omega],hj8,?_,hB.trans h2⟩,?_⟩
   ·rw [b8u _ _ (by rw [a1s]; exact hj8),← List.append_assoc]
    exact ho2
   ·simp only [e1b]; omega
  ·obtain rfl:j = 8:=by omega
   rw [List.take_of_length_le (by rw [a1s]; omega)] at ho
   refine Xa0 ?_
   exact k _ _ ho hB
theorem f6c {T:TypeId} {g n c t:Nat} {j:Int} (hj:j = ((64 * t + 64:Nat):Int)) (hn:64 * t + 64 ≤ c) (k:K (.slice (some ⟨g,64 * t,none⟩) 64 (c - 64 * t)) w) :
  oM Tryz.prog (.slice 202 (.tmp 0) (some (.tmp 1)) (some (.tmp 2)) none) T [.slice (some ⟨g,0,none⟩) n c,.int .i64 ((64 * t:Nat):Int),.int .i64 j] K w:=by
 subst hj
 have hs:∀ w,(sizeOf (Tryz.prog.elem 202)).run Tryz.prog w = .ok 1 w:=fun w=>by kernel_rfl
 rw [b0d (S:=Instr.sliceAt 202 (.slice (some ⟨g,0,none⟩) n c) (some (.int .i64 ((64 * t:Nat):Int))) (some (.int .i64 ((64 * t + 64:Nat):Int))) none) rfl,
  run_sliceAt_slice w 202 _ _ _ _ (by kernel_rfl),run_slice_lh w 202 _ n c (by kernel_rfl) .i64 .i64 _ _ (by omega) (by omega) (by omega),hs]
 simp only [Result.andThen_ok,sliced,Int.toNat_natCast]
 rw [if_neg (by omega),show 64 * t + 64 - 64 * t = 64 by omega]
 simp only [Option.map_some,a1w,Nat.mul_one,Nat.zero_add,c4h]
 exact k
def RbJ (w0:World) (p:List UInt8) (m:Nat) (R:St) (l:List Value) (w':World):Prop:=
 ∃ (v:Value) (t:Nat) (st:St),l = [v,.int .i64 ((64 * t:Nat):Int)] ∧ t ≤ m ∧ WrdR w' v st.list ∧ Nx w0 w' ∧ a9f (m - t) st (p.drop (64 * t)) = R
def g6z (n:Nat) (l:List Value) (_:World):Nat:=match l with | [_,.int _ i]=>n - i.toNat | _=>0
theorem f6d (n:Nat) (a:Value) (q:IntKind) (i:Int) (w:World):g6z n [a,.int q i] w = n - i.toNat:=rfl
def f3j (st:St):List UInt8:=(st.list.map c7h).flatten
theorem b2d (st:St):(f3j st).length = 32:=by simp [f3j,St.list,c7h]
theorem f6e (st:St):∀ i,i < 32 → (f3j st).getD i 0 = lo8 (at' st.list (i / 4) >>> (24 - 8 * (i % 4))):=by
 intro i hi
 have e:f3j st = [c7h st.a,c7h st.b,c7h st.c,c7h st.d,c7h st.e,c7h st.f,c7h st.g,c7h st.h].flatten:=rfl
 rw [e]
 simp only [e0y]
 obtain ⟨q,r,rfl,hr⟩:∃ q r,i = 4 * q + r ∧ r < 4:=⟨i / 4,i % 4,by omega,by omega⟩
 rw [show (4 * q + r) / 4 = q by omega,show (4 * q + r) % 4 = r by omega]
 have hq:q < 8:=by omega
 rcases q with _ | _ | _ | _ | _ | _ | _ | _ | q
 all_goals first | omega | skip
 all_goals (rcases r with _ | _ | _ | _ | r <;> first | omega | rfl | (show lo8 _ = lo8 _; congr 1))
def RoJ (w0:World) (st:St) (l:List Value) (w':World):Prop:=∃ (v:Value) (i:Nat),l = [v,.int .i64 (i:Int)] ∧ i ≤ 32 ∧ OwnB w' w0.heap.size v ((f3j st).take i) ∧ Nx w0 w'
def g7a (l:List Value) (_:World):Nat:=match l with | [_,.int _ i]=>32 - i.toNat | _=>0
theorem f6f (a:Value) (q:IntKind) (i:Int) (w:World):g7a [a,.int q i] w = 32 - i.toNat:=rfl
theorem f6g (s:List UInt8) (hs:s.length ≤ 1000000000) (k:∀ w',Bw w w' → K (.string ⟨(sha s).toArray⟩) w'):a0a Tryz.prog 199 #[.string ⟨s.toArray⟩] K w:=by
 apply d7d
 unfold f1k
 refine f6q s fun v0 w1 h1=>?_
 have hN1:Nx w w1:=h1.below
 refine e0e s hs h1.row (fun v1 w2 ho2 h2=>?_)
 have hN2:Nx w w2:=hN1.on h2
 refine e0b fun v2 w3 h3 ho3=>?_
 have hN3:Nx w w3:=hN2.on h3
 have ho1:=ho2.keep h3
 have hp64:=b3v s
 obtain ⟨m,hm⟩:∃ m,(a2w s).length = 64 * m:=⟨(a2w s).length / 64,by omega⟩
 have hpl:(a2w s).length = s.length + 1 + a4s s.length + 8:=by
  simp only [a2w,List.length_append,List.length_replicate,a1s,List.length_singleton]
 have hpz:a4s s.length < 64:=by unfold a4s; omega
 obtain ⟨g,cap,cur,rfl,hlt,_,_,_,hcap,hc⟩:=a6m ho1 (by omega)
 have hby:ByR w3 g 0 (a2w s):=⟨hlt,fun i hi=>by
  rw [Nat.zero_add]
  exact hc i _ (by simp [Lib.byteCells,List.getD_eq_getElem?_getD,hi])⟩
 have ef:sha s = f3j (a9f m first (a2w s)):=by
  unfold sha f3j
  rw [hm,Nat.mul_div_cancel_left m (by omega)]
 refine ⟨RbJ w3 (a2w s) m (a9f m first (a2w s)),g6z (64 * m),⟨_,0,first,rfl,by omega,ho3.read,bR,rfl⟩,?_⟩
 clear ho3 ho1 hc hlt ho2 h2 h1
 generalize a9f m first (a2w s) = R at *
 rintro _ _ w4 ⟨hv,t,st,rfl,ht,hw,hN,hR⟩
 by_cases htm:t < m
 ·obtain ⟨r,hr⟩:∃ r,m - t = r + 1:=⟨m - t - 1,by omega⟩
  rw [hr] at hR
  have hlen:((a2w s).length:Int) = 64 * (m:Int):=by omega
  have hlt64:(64 * t:Nat) < (64 * m:Nat):=by omega
  refine Xa @hlen ?_
  refine f6c (t:=t) (by omega) (by omega) ?_
  have hpart:=(hby.next hN).part (64 * t) 64 (by omega)
  rw [Nat.zero_add] at hpart
  refine e6q st _ (by rw [List.length_take,List.length_drop]; omega) hpart hw (fun v5 w5 h5 ho5=>?_)
  refine Xa0 ?_
  refine ⟨⟨v5,t + 1,_,by rw [show (64 * (t:Int) + 64) = ((64 * (t + 1):Nat):Int) by omega],by omega,ho5.read,hN.on h5,?_⟩,?_⟩
  ·rw [show m - (t + 1) = r by omega,← hR]
   show _ = a9f r (mix st ((List.drop (64 * t) (a2w s)).take 64)) ((List.drop (64 * t) (a2w s)).drop 64)
   rw [List.drop_drop,show 64 * t + 64 = 64 * (t + 1) by omega]
  ·simp only [f6d]; omega
 ·obtain rfl:t = m:=by omega
  rw [Nat.sub_self] at hR
  have hst:st = R:=hR
  subst hst
  have hlen:((a2w s).length:Int) = 64 * (t:Int):=by omega
  repeat (any_goals (first
  | ((with_reducible refine g6y ?_); intro v5 w5 h5 ho5)
  | (with_reducible refine yM ?_)
  | ((with_reducible refine oG fun X Y=>?_); simp [go_sem,hlen]; apply Y; clear Y X)))
  obtain ⟨bh,oh,chh,rfl,hhr⟩:=hw.at (show 0 < 8 by decide)
  have hN5:Nx w4 w5:=h5
  refine ⟨RoJ w4 st,g7a,⟨_,0,rfl,by omega,ho5,hN5⟩,?_⟩
  clear ho5 h5 hN5
  rintro _ _ w6 ⟨v6,i,rfl,hi,ho6,hN6⟩
  by_cases hi32:i < 32
  ·have hl:=b2d st
   have e1:(i:Int).tdiv 4 = ((i / 4:Nat):Int):=by rw [Int.tdiv_eq_ediv_of_nonneg (by omega)]; omega
   have e2:(i:Int).tmod 4 = ((i % 4:Nat):Int):=by rw [Int.tmod_eq_emod_of_nonneg (by omega)]; omega
   have hs8:st.list.length = 8:=rfl
   have hcell:=hhr w6 hN6 (i / 4) (by rw [hs8]; omega)
   obtain ⟨q,hq⟩:∃ q,q = i / 4:=⟨_,rfl⟩
   obtain ⟨r,hr⟩:∃ r,r = i % 4:=⟨_,rfl⟩
   have hat:=f6e st i hi32
   rw [← hq] at e1 hcell hat
   rw [← hr] at e2 hat
   have hsh:∀ t t' T,oM Tryz.prog (.binOp .shr t (.tmp 0) (.tmp 1) t') T [w32 (at' st.list q),.int .i64 (24 - 8 * (r:Int))] = a0j (w32 (at' st.list q >>> (24 - 8 * r))):=fun t t' T=>by
    have:=f4e (P:=Tryz.prog) t t' T .i64 (at' st.list q) (24 - 8 * r) (by omega)
    rw [← this]
    congr 4
    omega
   repeat (any_goals (first
   | ((with_reducible refine e6r (lo8 (at' st.list q >>> (24 - 8 * r))) rfl ho6 hN6.size (by rw [List.length_take]; omega) ?_); intro v7 w7 ho7 h7)
   | (with_reducible refine yN ?_)
   | ((with_reducible refine oG fun X Y=>?_); simp [go_sem,e1,e2,hcell,hs8,hsh,e0v]; (try simp (disch:=omega) only [a0o,a4r,a1v]); (first|refine Y _ _ ?_|refine And.intro (by omega) (Y _ _ ?_)); clear Y X)))
   rw [← hat,← b8u (f3j st) i (by omega)] at ho7
   refine ⟨⟨v7,i + 1,rfl,hi32,ho7,hN6.trans h7⟩,?_⟩
   simp only [f6f]; omega
  ·obtain rfl:i = 32:=by omega
   rw [List.take_of_length_le (by rw [b2d]; omega)] at ho6
   repeat (any_goals (first
   | ((with_reducible refine f3r ho6 (by rw [b2d]; omega) ?_))
   | (with_reducible refine yM ?_)
   | ((with_reducible refine oG fun X Y=>?_); simp [go_sem]; apply Y; clear Y X)))
   rw [← ef]
   exact k _ ((hN3.on hN).on hN6)
def RnJ (n R:Int) (d:List UInt8) (w0:World) (l:List Value) (w':World):Prop:=Bw w0 w' ∧ ∃ (o:Int) (i:Nat),l = [.int .i64 o,.int .i64 (i:Int)] ∧ i ≤ d.length ∧ (d.drop i).foldl (a9d n) o = R
theorem d2o (s:List UInt8) (n:Int) (hs:s.length ≤ 1000000000) (k:∀ w',Bw w w' → K (.int .i64 (a3t s n)) w'):a0a Tryz.prog 163 #[.string ⟨s.toArray⟩,.int .i64 n] K w:=by
 apply d7c
 unfold f1j
 unfold a3t at k
 refine a4g n ?_
 by_cases hn:okN n
 ·rw [if_pos hn] at k
  refine Xa0 ?_
  refine f6g s hs (fun w1 h1=>?_)
  have hl:=ShaSpec.sha_length s
  generalize ShaSpec.sha s = d at *
  refine ⟨RnJ n (d.foldl (a9d n) 0) d w,f5y d.length,⟨h1,_,0,rfl,by omega,rfl⟩,?_⟩
  clear h1
  rintro _ _ w3 ⟨h3,o,i,rfl,hi,hf⟩
  have hds:(⟨d.toArray⟩:ByteArray).size = d.length:=rfl
  by_cases hin:i < d.length
  ·have hbt:a5d ⟨d.toArray⟩ i = d[i]:=by
    unfold a5d
    simp [hin]
   refine Xa @hds ?_
   refine ⟨Nx w3,.drawn,?_⟩
   refine a1j (fun W0 hW0=>a4w n o 256 ⟨rfl,hW0⟩) ?_
   have hu:=(d[i]).toNat_lt
   have hw8:IntKind.i64.wrap ((d[i]).toNat:Int) = ((d[i]).toNat:Int):=a0o _ (by omega) (by omega)
   refine Xg (An3 @hds @hbt @hw8) ?_
   refine a1j (fun W0 hW0=>b8k n _ _ ⟨rfl,hW0⟩) ?_
   intro w4 h4
   refine Xa0 ?_
   rw [List.drop_eq_getElem_cons hin,List.foldl_cons] at hf
   refine ⟨⟨h3.on h4,_,i + 1,rfl,by omega,hf⟩,?_⟩
   simp only [d0l]; omega
  ·rw [List.drop_of_length_le (by omega),List.foldl_nil] at hf
   refine Xa @hds ?_
   rw [hf]
   exact k _ h3
 ·rw [if_neg hn] at k
  refine Xa0 ?_
  exact k _ (bR)
end
end Go.Proofs
namespace Go.Proofs
open Go Go.Sh Go.RowKit FdSpec TkSpec CodeSpec PrSpec FdPoly GrLaw
section
variable {K:VK} {w w' w0 W W' We W1 W2:World} {L:List (Addr × Value)} {g n B b i:Nat} {row:Option Nat}
set_option maxHeartbeats 1000000 in
theorem d0v (s:Stp) (goal:List Cls) (ctx:a5e) (l:List Int) {sv gv lv:Value} (hs:SetR w s sv) (hg:a4f w gv goal) (hl:Ints w lv l) (hN:(a6r goal).length ≤ 1000000) (hctx:ctx.length ≤ 1000000) (hlen:l.length ≤ 1000000)
  (k:∀ w',Bw w w' → K (.int .i64 (a3t (a2t (b4u goal) ++ a2t ctx ++ a9l l) s.g.Q)) w'):a0a Tryz.prog 99 #[a6b s sv,gv,.string ⟨ctx.toArray⟩,lv] K w:=by
 apply e5p
 unfold g0l
 have hg':=hg
 have hl':=hl
 obtain ⟨ad,c,rfl⟩:=hs.ints.isSlice
 obtain ⟨gad,gc,rfl⟩:=hg.isSlice
 obtain ⟨lad,lc,rfl⟩:=hl.isSlice
 refine a0l (cs:=a2r s (.slice ad s.bases.length c)) rfl (.start w) fun b1 W1 hk hb1 hbb=>?_
 unfold c5y
 have hk9:=hk.drew
 have hCI:∀ y ∈ l,InR y:=fun y hy=>(a7l y).2 (hl'.rng y hy)
 have hCe:=a6j hCI (by omega)
 have hTe:=a6j (c3c hg') (by omega)
 have hTe':(b4u goal).length ≤ 22 * (a6r goal).length + 30:=hTe
 have hT1:=Cd.encText_len (b4u goal) (by omega)
 have hT2:=Cd.encText_len ctx (by omega)
 refine ⟨Nx { W1 with drawn:=W1.drawn + 1 },bR,by trivial,?_⟩
 generalize ({ W1 with drawn:=W1.drawn + 1 }:World) = W9 at *
 refine Xc (fun W0 hW0=>(hk9.next hW0).cells) ?_
 refine ⟨Nx,?_⟩
 apply a1i
 ·intro w5 h5
  exact d0u goal (hg'.next (a0b a0i) (hk9.next h5).below) hN (fun w6 h6=>⟨h5.on h6,h6,rfl⟩)
 apply a1i
 ·rintro w5 h5 _ rfl
  exact Cd.qText_ok _ (by omega) (fun w6 h6=>⟨h5.on h6,h6,rfl⟩)
 apply a1i
 ·intro w5 h5
  exact Cd.qText_ok ctx (by omega) (fun w6 h6=>⟨h5.on h6,h6,rfl⟩)
 apply a1i
 ·rintro w5 h5 _ rfl _ rfl
  exact c2p _ _ (by omega) ⟨h5,bR,rfl⟩
 apply a1i
 ·intro w5 h5
  exact Cd.qNums_ok l _ (Ints.rowOf (hl'.next (hk9.next h5).below)) hCI (by omega) (fun w6 h6=>⟨h5.on h6,h6,rfl⟩)
 apply a1i
 ·rintro w5 h5 _ rfl _ rfl
  exact c2p _ _ (by simp only [List.length_append]; omega) ⟨h5,bR,rfl⟩
 (intro w9 h9; repeat (intro v9 e9; try (obtain rfl:=e9)))
 refine d2o _ _ (by simp only [List.length_append]; omega) (fun w10 h10=>?_)
 exact k _ ((hk9.next h9).next h10).below
def OkG (s:Stp) (c:Cls):Prop:=a0z s c = true ∧ c.claims.all (a1q s) = true
theorem a3o {s:Stp} {goal:List Cls}:a1p s goal = true ↔ (a1x s = true ∧ 1 ≤ goal.length ∧ goal.length ≤ 300) ∧ ∀ (i:Nat) (c:Cls),goal[i]? = some c → OkG s c:=by
 unfold a1p
 simp only [bA,dE]
 constructor
 ·rintro ⟨⟨⟨⟨h1,h2⟩,h3⟩,h4⟩,h5⟩
  exact ⟨⟨h1,h2,h3⟩,fun i c h=>⟨List.all_eq_true.1 h4 c (List.mem_of_getElem? h),List.all_eq_true.1 h5 c (List.mem_of_getElem? h)⟩⟩
 ·rintro ⟨⟨h1,h2,h3⟩,h4⟩
  refine ⟨⟨⟨⟨h1,h2⟩,h3⟩,List.all_eq_true.2 fun c hc=>?_⟩,List.all_eq_true.2 fun c hc=>?_⟩
  ·obtain ⟨i,hi⟩:=List.getElem?_of_mem hc
   exact (h4 i c hi).1
  ·obtain ⟨i,hi⟩:=List.getElem?_of_mem hc
   exact (h4 i c hi).2
def g9o (w0:World) (L:List (Addr × Value)) (s:Stp) (goal:List Cls) (vs:List Value) (w':World):Prop:=Kn w0 L w' ∧ ∃ (u v x:Value) (i:Nat),vs = [u,v,x,.int .i64 (i:Int)] ∧ i ≤ goal.length ∧ ∀ (j:Nat) (c:Cls),j < i → goal[j]? = some c → OkG s c
def g9p (w0:World) (L:List (Addr × Value)) (s:Stp) (cl:Cls) (vs:List Value) (w':World):Prop:=Kn w0 L w' ∧ ∃ (u:Value) (q:Nat),vs = [u,.int .i64 (q:Int)] ∧ q ≤ cl.claims.length ∧ ∀ (j:Nat) (x:Clm),j < q → cl.claims[j]? = some x → a1q s x = true
set_option maxHeartbeats 2000000 in
theorem a8t (s:Stp) {sv gv:Value} {goal:List Cls} (hs:SetR w s sv) (hg:a4f w gv goal)
  (k:∀ w',Bw w w' → K (.bool (a1p s goal)) w'):a0a Tryz.prog 24 #[a6b s sv,gv] K w:=by
 apply e5m
 unfold g0i
 have hs':=hs
 have hg':=hg
 obtain ⟨ad,c,rfl⟩:=hs.ints.isSlice
 obtain ⟨gad,gc,rfl⟩:=hg.isSlice
 have hlg:=hg'.len
 refine a0l (cs:=a2r s (.slice ad s.bases.length c)) rfl (.start w) fun b1 W hk hb1 hbb=>?_
 clear hb1 hbb
 have bad:¬ a1p s goal = true → ∀ w',Bw w w' → K (.bool false) w':=fun h w' hb=>by
  have:=k w' hb
  rwa [Bool.eq_false_iff.2 h] at this
 refine Xa hk.cells ?_
 refine a5p s (hs'.next hk.below) (fun w2 h2=>?_)
 have hk:=hk.next h2
 cases hv:a1x s with
 | false=>
  refine Xa0 ?_
  exact bad (fun h=>by have:=(a3o.1 h).1.1; rw [hv] at this; cases this) _ hk.below
 | true=>
 by_cases h1:(goal.length:Int) < 1
 ·refine Xa @h1 ?_
  exact bad (fun h=>by have:=(a3o.1 h).1.2.1; omega) _ hk.below
 by_cases h3:(300:Int) < goal.length
 ·refine Xa (An2 @h1 @h3) ?_
  exact bad (fun h=>by have:=(a3o.1 h).1.2.2; omega) _ hk.below
 refine Xa (An2 @h1 @h3) ?_
 have no:∀ (i:Nat) (c:Cls),goal[i]? = some c → ¬ OkG s c → ∀ w',Bw w w' → K (.bool false) w':=fun i c a h=>bad (fun e=>h ((a3o.1 e).2 i c a))
 refine ⟨g9o w (cellsOf [] b1 0 (a2r s (.slice ad s.bases.length c))) s goal,e0g goal.length,⟨hk,_,_,_,0,rfl,by omega,fun j c hj=>by omega⟩,?_⟩
 clear hk
 rintro _ _ w3 ⟨hk,u,v,x,i,rfl,hi,hall⟩
 unfold c0z
 by_cases hin:i = goal.length
 ·subst hin
  refine Xa0 ?_
  have k:=k _ hk.below
  rw [a3o.2 ⟨⟨hv,by omega,by omega⟩,fun j c a=>hall j c (gS a).1 a⟩] at k
  exact k
 have eg:goal[i]? = some goal[i]:=gE (by omega)
 obtain ⟨bg,og,rfl,hbg,_,_,hgcell,gcv,rfl,hnI,hgc⟩:=hg'.at (i:=i) (by omega)
 have g0:=hgcell 0 _ rfl
 have g1:=hgcell 1 _ rfl
 simp only [Nat.add_zero] at g0
 have hno:=no i _ eg
 generalize goal[i] = cl at *
 have hgc':=hgc
 obtain ⟨cad,cc,rfl⟩:=hgc.isSlice
 have hlcs:=hgc'.len
 have hiG:(i:Int) < goal.length:=by omega
 have hfine:a0z s cl = (decide (1 ≤ cl.claims.length) && decide (cl.claims.length ≤ 16) && decide ((cl.claims.length:Int) < s.g.Q) && decide (1 ≤ cl.need) && decide (cl.need ≤ cl.claims.length)):=rfl
 have hgcB:=(hk.below.cell hbg).trans g1
 have hgcA:=(hk.below.cell hbg).trans g0
 by_cases f1:(cl.claims.length:Int) < 1
 ·refine Xa (An5 hk.cells @hgcA @hgcB @hiG @f1) ?_
  exact hno (fun h=>by have:=h.1; rw [hfine] at this; simp only [bA,dE] at this; omega) _ hk.below
 by_cases f2:(16:Int) < cl.claims.length
 ·refine Xa (An6 hk.cells @hgcA @hgcB @hiG @f1 @f2) ?_
  exact hno (fun h=>by have:=h.1; rw [hfine] at this; simp only [bA,dE] at this; omega) _ hk.below
 by_cases f3:s.g.Q ≤ (cl.claims.length:Int)
 ·refine Xa (An7 hk.cells @hgcA @hgcB @hiG @f1 @f2 @f3) ?_
  exact hno (fun h=>by have:=h.1; rw [hfine] at this; simp only [bA,dE] at this; omega) _ hk.below
 by_cases f4:cl.need < 1
 ·refine Xa (An8 hk.cells @hgcA @hgcB @hiG @f1 @f2 @f3 @f4) ?_
  exact hno (fun h=>by have:=h.1; rw [hfine] at this; simp only [bA,dE] at this; omega) _ hk.below
 by_cases f5:(cl.claims.length:Int) < cl.need
 ·refine Xa (An9 hk.cells @hgcA @hgcB @hiG @f1 @f2 @f3 @f4 @f5) ?_
  exact hno (fun h=>by have:=h.1; rw [hfine] at this; simp only [bA,dE] at this; omega) _ hk.below
 have hF:a0z s cl = true:=by
  rw [hfine]
  simp only [bA,dE]
  omega
 refine Xa (An9 hk.cells @hgcA @hgcB @hiG @f1 @f2 @f3 @f4 @f5) ?_
 refine ⟨g9p w (cellsOf [] b1 0 (a2r s (.slice ad s.bases.length c))) s cl,b2m cl.claims.length,⟨hk,_,0,rfl,by omega,fun j x hj=>by omega⟩,?_⟩
 clear hk hgcA hgcB
 rintro _ _ w5 ⟨hk,u5,q,rfl,hq,hall5⟩
 by_cases hqn:q = cl.claims.length
 ·subst hqn
  refine Xa0 ?_
  refine ⟨⟨hk,_,_,_,i + 1,rfl,by omega,fun j c' hj a=>?_⟩,?_⟩
  ·by_cases hji:j = i
   ·subst hji
    rw [eg] at a; cases a
    refine ⟨hF,List.all_eq_true.2 fun x hx=>?_⟩
    obtain ⟨p,hp⟩:=List.getElem?_of_mem hx
    exact hall5 p x (gS hp).1 hp
   ·exact hall j c' (by omega) a
  ·simp only [b6o]; omega
 have ecm:cl.claims[q]? = some (cl.claims[q]'(by omega)):=gE (by omega)
 obtain ⟨bcl,ocl,rfl,hbcl,_,_,hccell,ccv,rfl,hclm⟩:=hgc'.at (i:=q) (by omega)
 have p0:=hccell 0 _ rfl
 have p1:=hccell 1 _ rfl
 generalize cl.claims[q] = x at *
 simp only [Nat.add_zero] at p0
 have hclm':=hclm
 obtain ⟨xad,xc,rfl⟩:=hclm.eqs.isSlice
 have hqc:(q:Int) < cl.claims.length:=by omega
 refine Xa @hqc ?_
 unfold c0y
 simp only [List.getD_cons_succ,List.getD_cons_zero]
 have hk9:=hk.drew
 refine ⟨Nx { w5 with drawn:=w5.drawn + 1 },bR,by trivial,?_⟩
 generalize ({ w5 with drawn:=w5.drawn + 1 }:World) = W8 at *
 refine Xf (fun W0 hW0=>An4 ((hk9.next hW0).cells) (((hk9.next hW0).below.cell hbg).trans g1) (((hk9.next hW0).below.cell hbcl).trans p0) (((hk9.next hW0).below.cell hbcl).trans p1)) (An2 @hiG @hqc) ?_
 refine ⟨Nx,fun w9 h9=>?_⟩
 have hk:=hk9.next h9
 refine Xa0 ?_
 refine a7o s x (hs'.next hk.below) (hclm'.next hk.below) (fun w10 h10=>?_)
 have hk:=hk.next h10
 cases hx:a1q s x with
 | false=>
  refine Xa0 ?_
  exact hno (fun h=>by have:=List.all_eq_true.1 h.2 x (List.mem_of_getElem? ecm); rw [hx] at this; cases this) _ hk.below
 | true=>
  refine Xa0 ?_
  refine ⟨⟨hk,_,q + 1,rfl,by omega,fun j x' hj a=>?_⟩,?_⟩
  ·by_cases hjq:j = q
   ·subst hjq
    rw [ecm] at a; cases a
    exact hx
   ·exact hall5 j x' (by omega) a
  ·simp only [a1u]; omega
theorem b8s {s:Stp}:∀ {goal:List Cls} {know:List (List Knw)},know.length = goal.length → ((a0h s goal know).2 = true ↔ ∀ (i:Nat) (c:Cls) (ks:List Knw),goal[i]? = some c → know[i]? = some ks → (a0e s c.need c.claims ks).2 = 0)
 | [],[],_=>by simp [a0h]
 | [],_ :: _,h=>by simp at h
 | _ :: _,[],h=>by simp at h
 | c :: cs,k :: ks,h=>by
  have ih:=b8s (s:=s) (goal:=cs) (know:=ks) (by simpa using h)
  simp only [a0h,bA,dE,ih]
  constructor
  ·rintro ⟨h1,h2⟩ i c' k' a b
   cases i with
   | zero=>simp at a b; subst a b; exact h1
   | succ i=>exact h2 i c' k' (by simpa using a) (by simpa using b)
  ·intro h1
   exact ⟨h1 0 c k rfl rfl,fun i c' k' a b=>h1 (i + 1) c' k' (by simpa using a) (by simpa using b)⟩
def g9q (w0:World) (L:List (Addr × Value)) (s:Stp) (goal:List Cls) (know:List (List Knw)) (vs:List Value) (w':World):Prop:=Kn w0 L w' ∧ ∃ (u1 u2 u3:Value) (i:Nat),vs = [u1,u2,u3,.int .i64 (i:Int)] ∧ i ≤ goal.length ∧ ∀ (j:Nat) (c:Cls) (ks:List Knw),j < i → goal[j]? = some c → know[j]? = some ks → (a0e s c.need c.claims ks).2 = 0
set_option maxHeartbeats 2000000 in
theorem b1i (s:Stp) {sv gv kv:Value} {goal:List Cls} {know:List (List Knw)} (hs:SetR w s sv) (hg:a4f w gv goal) (hk0:a5v w kv know) (hgm:a1p s goal = true) (hft:a3a s goal know = true)
  (k:∀ w',Bw w w' → K (.bool (a0h s goal know).2) w'):a0a Tryz.prog 98 #[a6b s sv,gv,kv] K w:=by
 apply e5q
 unfold g0m
 have hs':=hs
 have hg':=hg
 have hk0':=hk0
 obtain ⟨ad,c,rfl⟩:=hs.ints.isSlice
 obtain ⟨gad,gc,rfl⟩:=hg.isSlice
 obtain ⟨kad,kc,rfl⟩:=hk0.isSlice
 have hlg:=hg.len
 obtain ⟨hkl,hfx⟩:=a6q.1 hft
 have hgi:=a3o.1 hgm
 have hv:=hgi.1.1
 have hiff:=b8s (s:=s) (goal:=goal) (know:=know) hkl
 refine a0l (cs:=a2r s (.slice ad s.bases.length c)) rfl (.start w) fun b1 W hk hb1 hbb=>?_
 clear hb1 hbb
 have no:∀ (i:Nat) (c:Cls) (ks:List Knw),goal[i]? = some c → know[i]? = some ks → ¬ (a0e s c.need c.claims ks).2 = 0 → ∀ w',Bw w w' → K (.bool false) w':=fun i c ks a b h w' hb=>by
  have:=k w' hb
  rwa [show (a0h s goal know).2 = false by rw [Bool.eq_false_iff]; intro x; exact h (hiff.1 x i c ks a b)] at this
 refine ⟨g9q w (cellsOf [] b1 0 (a2r s (.slice ad s.bases.length c))) s goal know,e0g goal.length,⟨hk,_,_,_,0,rfl,by omega,fun j c ks hj=>by omega⟩,?_⟩
 clear hk
 rintro _ _ w3 ⟨hk,u1,u2,u3,i,rfl,hi,hall⟩
 by_cases hin:i = goal.length
 ·subst hin
  refine Xa0 ?_
  have k:=k _ hk.below
  rw [show (a0h s goal know).2 = true from hiff.2 (fun j c ks a b=>hall j c ks (gS a).1 a b)] at k
  exact k
 have eg:goal[i]? = some goal[i]:=gE (by omega)
 have ek:know[i]? = some know[i]:=gE (by omega)
 obtain ⟨bk,ok,rfl,hltk,csk,_,hcellk,vk,rfl,hrowk⟩:=hk0'.at (i:=i) (by omega)
 obtain ⟨bg,og,rfl,hbg,_,_,hgcell,gcv,rfl,_,hgc⟩:=hg'.at (i:=i) (by omega)
 have ck:=hcellk 0 _ rfl
 simp only [Nat.add_zero,Nat.mul_one,Nat.zero_add] at ck
 have g0:=hgcell 0 _ rfl
 have g1:=hgcell 1 _ rfl
 simp only [Nat.add_zero] at g0
 have hno:=no i _ _ eg ek
 have hok:=hfx i _ _ eg ek
 obtain ⟨hfi,hci⟩:=hgi.2 i _ eg
 generalize goal[i] = cl at *
 generalize know[i] = ks at *
 have hlks:ks.length = cl.claims.length:=hok.1
 simp only [a0z,bA,dE] at hfi
 have hrowk':=hrowk
 have hgc':=hgc
 obtain ⟨kad2,kc2,rfl⟩:=hrowk.isSlice
 obtain ⟨cad,cc,rfl⟩:=hgc.isSlice
 have hiK:(i:Int) < know.length:=by omega
 have hiG:(i:Int) < goal.length:=by omega
 refine Xa (An2 hk.cells @hiG) ?_
 unfold c5z
 simp only [List.getD_cons_succ,List.getD_cons_zero]
 have hk9:=hk.drew
 refine ⟨Nx { w3 with drawn:=w3.drawn + 1 },bR,by trivial,?_⟩
 generalize ({ w3 with drawn:=w3.drawn + 1 }:World) = W9 at *
 refine Xf (fun W0 hW0=>An4 ((hk9.next hW0).cells) (((hk9.next hW0).below.cell hltk).trans ck) (((hk9.next hW0).below.cell hbg).trans g0) (((hk9.next hW0).below.cell hbg).trans g1)) (An2 @hiK @hiG) ?_
 refine ⟨Nx,?_⟩
 generalize hq:decide ((a0e s cl.need cl.claims ks).2 = 0) = q at *
 refine a3i (fun v w'=>∃ g,v = .tuple #[.slice (some ⟨g,0,none⟩) cl.claims.length cl.claims.length,.bool q]) (fun v w w1 hS h=>h) ?_ ?_
 ·intro w1 h1
  exact b0r s cl ks (hs'.next (hk9.next h1).below) (hgc'.next (a0b a7x) (hk9.next h1).below) (hrowk'.next (a0b a6p) (hk9.next h1).below) hlks hv (fun x hx=>List.all_eq_true.1 hci x hx) (by omega) (by omega) (fun w2 g h2 hg2 hh2=>⟨h1.on h2,h2,g,by rw [hq]⟩)
 refine a3i (fun v w'=>∃ g,v = .tuple #[.slice (some ⟨g,0,none⟩) cl.claims.length cl.claims.length,.bool q]) (fun v w w1 hS h=>h) ?_ ?_
 ·intro w1 h1 v hv1
  exact ⟨h1,bR,hv1⟩
 refine a3i (fun v w'=>True) (fun _ _ _ _ _=>trivial) ?_ ?_
 ·rintro w1 h1 v ⟨g,rfl⟩
  refine Xa0 ?_
  exact ⟨h1,bR,trivial⟩
 refine a3i (fun v w'=>v = .bool q) (fun _ _ _ _ h=>h) ?_ ?_
 ·rintro w1 h1 v ⟨g,rfl⟩
  refine Xa0 ?_
  exact ⟨h1,bR,rfl⟩
 refine a3i (fun v w'=>True) (fun _ _ _ _ _=>trivial) ?_ ?_
 ·intro w1 h1 v hv1
  exact ⟨h1,bR,trivial⟩
 rintro w9 h9 _ _ _ _ _ _ _ rfl _ _
 have hk:=hk9.next h9
 cases q with
 | false=>
  refine Xa0 ?_
  exact hno (of_decide_eq_false hq) _ hk.below
 | true=>
  refine Xa0 ?_
  refine ⟨⟨hk,_,_,_,i + 1,rfl,by omega,fun j c' ks' hj a b=>?_⟩,?_⟩
  ·by_cases hji:j = i
   ·subst hji
    rw [eg] at a; rw [ek] at b
    cases a; cases b
    exact of_decide_eq_true hq
   ·exact hall j c' ks' (by omega) a b
  ·simp only [b6o]; omega
theorem d0w {s:Stp} {r:Int} {goal:List Cls} {ds:L2}:d0f s r goal ds = true ↔ ∀ (i:Nat) (c:Cls) (d:List Int),goal[i]? = some c → ds[i]? = some d → a1y s.g.Q (a5y c.claims.length c.need) d r = d:=
 ⟨fun h i c d a b=>c8j h a b,c8i⟩
theorem c8p {s:Stp} {goal:List Cls} (h:a1p s goal = true) {i:Nat} {c:Cls} (hi:goal[i]? = some c):Sm s.g.Q c.claims.length:=by
 have hg:=a3o.1 h
 have hf:=(hg.2 i c hi).1
 simp only [a0z,bA,dE] at hf
 have hgv:=c3l hg.1.1
 exact ⟨hgv.pq,by omega,by omega,hgv.okQ⟩
def g9r (w0:World) (L:List (Addr × Value)) (s:Stp) (goal:List Cls) (ds:L2) (r:Int) (vs:List Value) (w':World):Prop:=Kn w0 L w' ∧ ∃ (u:Value) (i:Nat),vs = [u,.int .i64 (i:Int)] ∧ i ≤ goal.length ∧ ∀ (j:Nat) (c:Cls) (d:List Int),j < i → goal[j]? = some c → ds[j]? = some d → a1y s.g.Q (a5y c.claims.length c.need) d r = d
set_option maxHeartbeats 2000000 in
theorem c1x (s:Stp) (goal:List Cls) (ctx:a5e) (ds:L2) (ns:L3) {sv gv dv nv:Value} (hs:SetR w s sv) (hg:a4f w gv goal) (hd:a0s w dv ds) (hn:a2j w nv ns)
  (hN:(a6r goal).length ≤ 1000000) (hctx:ctx.length ≤ 1000000)
  (k:∀ w',Bw w w' → K (.bool (a2u s goal ctx ds ns)) w'):a0a Tryz.prog 31 #[a6b s sv,gv,.string ⟨ctx.toArray⟩,b5m dv nv] K w:=by
 apply e5r
 unfold g0n
 have hs':=hs
 have hg':=hg
 have hd':=hd
 have hn':=hn
 obtain ⟨ad,c,rfl⟩:=hs.ints.isSlice
 obtain ⟨gad,gc,rfl⟩:=hg.isSlice
 obtain ⟨dad,dc,rfl⟩:=hd.isSlice
 obtain ⟨nad,nc,rfl⟩:=hn.isSlice
 have hlg:=hg.len
 refine a0l (cs:=a2r s (.slice ad s.bases.length c)) rfl (.start w) fun b1 W hk hb1 hbb=>?_
 refine a0l (cs:=a5n (.slice dad ds.length dc) (.slice nad ns.length nc)) rfl hk fun b2 W hk hb2 hbb2=>?_
 clear hb1 hbb hb2 hbb2
 have bad:a2u s goal ctx ds ns = false → ∀ w',Bw w w' → K (.bool false) w':=fun h w' hb=>by
  have:=k w' hb
  rwa [h] at this
 refine Xa hk.cells ?_
 refine a8t s (hs'.next hk.below) (hg'.next (a0b a0i) hk.below) (fun w2 h2=>?_)
 have hk:=hk.next h2
 cases hgm:a1p s goal with
 | false=>
  refine Xa0 ?_
  exact bad (by simp [a2u,hgm]) _ hk.below
 | true=>
 refine Xa hk.cells ?_
 refine c1w s (hs'.next hk.below) (hg'.next (a0b a0i) hk.below) (hd'.next (a0b a0k) hk.below) (hn'.next (a0b a0f) hk.below) (fun w4 h4=>?_)
 have hk:=hk.next h4
 cases hsm:a0u s goal ds ns with
 | false=>
  refine Xa0 ?_
  exact bad (by simp [a2u,hsm]) _ hk.below
 | true=>
 have hvm:a2u s goal ctx ds ns = d0f s (a8s s goal ctx ds ns) goal ds:=by simp [a2u,hgm,hsm]
 rw [hvm] at k bad
 clear hvm
 obtain ⟨⟨e1,e2⟩,hok⟩:=a2o.1 hsm
 have hcl:=b3j (s:=s) goal ds ns (a5g hgm).2
 have h300:=(a5g hgm).1
 have hrI:=b6f s goal ctx ds ns
 have hrd:a8s s goal ctx ds ns = a3t (a2t (b4u goal) ++ a2t ctx ++ a9l (a0t s goal ds ns)) s.g.Q:=rfl
 refine Xa0 ?_
 unfold c1l
 simp only [List.getD_cons_succ,List.getD_cons_zero]
 have hk9:=hk.drew
 refine ⟨Nx { w4 with drawn:=w4.drawn + 1 },bR,by trivial,?_⟩
 generalize ({ w4 with drawn:=w4.drawn + 1 }:World) = W9 at *
 refine Xc (fun W0 hW0=>(hk9.next hW0).cells) ?_
 refine ⟨Nx,?_⟩
 refine a3i (fun v w'=>Ints w' v (a0t s goal ds ns)) (fun v w w1 hS h=>h.next hS) ?_ ?_
 ·intro w6 h6
  exact a9v s goal ds ns (hs'.next (hk9.next h6).below) (hg'.next (a0b a0i) (hk9.next h6).below) (hd'.next (a0b a0k) (hk9.next h6).below) (hn'.next (a0b a0f) (hk9.next h6).below) hgm hsm (fun v w7 h7 hi7=>⟨h6.on h7,h7,hi7⟩)
 rintro w9 h9 v9 hi9
 have hk:=hk9.next h9
 refine d0v s goal ctx _ (hs'.next hk.below) (hg'.next (a0b a0i) hk.below) hi9 hN hctx (by omega) (fun w10 h10=>?_)
 have hk:=hk.next h10
 rw [← hrd]
 generalize a8s s goal ctx ds ns = r at *
 refine ⟨g9r w (cellsOf (cellsOf [] b1 0 (a2r s (.slice ad s.bases.length c))) b2 0 (a5n (.slice dad ds.length dc) (.slice nad ns.length nc))) s goal ds r,b2m goal.length,⟨hk,_,0,rfl,by omega,fun j c d hj=>by omega⟩,?_⟩
 clear hk hk9 h9 h10 hi9
 rintro _ _ w3 ⟨hk,u,i,rfl,hi,hall⟩
 by_cases hin:i = goal.length
 ·subst hin
  refine Xa0 ?_
  have k:=k _ hk.below
  rw [d0w.2 (fun j c d a b=>hall j c d (gS a).1 a b)] at k
  exact k
 have eg:goal[i]? = some goal[i]:=gE (by omega)
 have ed:ds[i]? = some ds[i]:=gE (by omega)
 have en:ns[i]? = some ns[i]:=gE (by omega)
 have hoki:=hok i _ _ _ eg ed en
 have hfi:=(a3o.1 hgm).2 i _ eg
 have hsmi:=c8p hgm eg
 obtain ⟨bd,od,rfl,hltd,csd,_,hcelld,vd,rfl,hrowd⟩:=hd'.at (i:=i) (by omega)
 obtain ⟨bg,og,rfl,hbg,_,_,hgcell,gcv,rfl,_,hgc⟩:=hg'.at (i:=i) (by omega)
 have cd:=hcelld 0 _ rfl
 simp only [Nat.add_zero,Nat.mul_one,Nat.zero_add] at cd
 have g0:=hgcell 0 _ rfl
 have g1:=hgcell 1 _ rfl
 simp only [Nat.add_zero] at g0
 generalize goal[i] = cl at *
 generalize ds[i] = d at *
 have hdl:(d.length:Int) = cl.claims.length:=by
  have:=hoki.1.1
  unfold a0g at this
  simp only [bA,dE] at this
  exact this.1
 have hfi:=hfi.1
 simp only [a0z,bA,dE] at hfi
 have hrowd':=hrowd
 obtain ⟨dad2,dc2,rfl⟩:=hrowd.isSlice
 obtain ⟨cad,cc,rfl⟩:=hgc.isSlice
 have hiD:(i:Int) < ds.length:=by omega
 have hiG:(i:Int) < goal.length:=by omega
 refine Xa @hiG ?_
 unfold c1k
 simp only [List.getD_cons_succ,List.getD_cons_zero]
 have hk9:=hk.drew
 refine ⟨Nx { w3 with drawn:=w3.drawn + 1 },bR,by trivial,?_⟩
 generalize ({ w3 with drawn:=w3.drawn + 1 }:World) = W9 at *
 refine Xf (fun W0 hW0=>An4 ((hk9.next hW0).cells) (((hk9.next hW0).below.cell hltd).trans cd) (((hk9.next hW0).below.cell hbg).trans g0) (((hk9.next hW0).below.cell hbg).trans g1)) (An2 @hiD @hiG) ?_
 refine ⟨Nx,fun w9 h9=>?_⟩
 have hk:=hk9.next h9
 refine Xa0 ?_
 refine f6k s cl d r rfl (hs'.next hk.below) (hrowd'.next hk.below) hrI (by omega) (by omega) hsmi (fun w10 h10=>?_)
 have hk:=hk.next h10
 by_cases hF:a1y s.g.Q (a5y cl.claims.length cl.need) d r = d
 ·rw [decide_eq_true hF]
  refine Xa0 ?_
  refine ⟨⟨hk,_,i + 1,rfl,by omega,fun j c' d' hj a b=>?_⟩,?_⟩
  ·by_cases hji:j = i
   ·subst hji
    rw [eg] at a; rw [ed] at b
    cases a; cases b
    exact hF
   ·exact hall j c' d' (by omega) a b
  ·simp only [a1u]; omega
 ·rw [decide_eq_false hF]
  refine Xa0 ?_
  exact bad (by rw [Bool.eq_false_iff]; intro h; exact hF (d0w.1 h i _ _ eg ed)) _ hk.below
end
end Go.Proofs
namespace Go.Proofs
open Go Go.Sh Tryz
variable {a0 a1 a2 a3 a4:Value} {K:VK} {w:World}
def b7y (M_124:List Value → World → Prop) (a3:Value) (l_102 l_107 l_57:List Value) (v106 v136 v73:Value) (w:World):Prop:=
 kH (fun C_128 w=>(((true:Bool) = true) ∧ (a0c v73 C_128 fun v141=>
 a0c v136 C_128 fun v142=>
 a0c v73 C_128 fun v143=>
 a0c v106 C_128 fun v144=>
 a0c (l_102.getD 4 undef) C_128 fun v145=>
 jI 24 v144 v145 C_128 fun v146=>
 jL 3 v146 C_128 fun v147=>
 a0c a3 C_128 fun v148=>
 a0c (l_57.getD 8 undef) C_128 fun v149=>
 jI 28 v148 v149 C_128 fun v150=>
 jL 114 v150 C_128 fun v151=>
 a0c (l_102.getD 4 undef) C_128 fun v152=>
 jI 114 v151 v152 C_128 fun v153=>
 jF 113 1 v153 C_128 fun v154=>
 jL 24 v154 C_128 fun v155=>
 a0c (l_107.getD 2 undef) C_128 fun v156=>
 jI 24 v155 v156 C_128 fun v157=>
 jL 3 v157 C_128 fun v158=>
 ∃ S_147:World → WK,xR S_147 fun R_148=>
 (∀ w,C_128 w → (a0a prog 104 #[v143,v147,v158] (xK C_128 S_147 R_148 w) w)) ∧
 (∀ w,C_128 w → ∀ v159,R_148 v159 w → (
 a0a prog 103 #[v141,v142,v159] (fun v160=>
 M_124 [v160]) w))))) w
def b1t (J_100 J_105:List Value → World → Prop) (a3:Value) (l_102 l_107 l_57:List Value) (m_101 m_106:List Value → World → Nat) (v106 v16 v73 v9:Value) (w0_l_102 w0_l_107:World):Prop:=
 (fun w=>(
 kF 32 0 v9 (fun v114=>
 kL 29 v114 fun v115=>
 kI 29 v115 (l_57.getD 8 undef) fun v117=>
 kL 30 v117 fun v118=>
 kI 30 v118 (l_102.getD 4 undef) fun v120=>
 kL 24 v120 fun v121=>
 kN 24 v121 fun v122=>
 kB .lss 3 4 (l_107.getD 2 undef) v122 fun v123=>
 kO v123 (kF 32 0 v9 fun v126=>
 kL 29 v126 fun v127=>
 kI 29 v127 (l_57.getD 8 undef) fun v129=>
 kL 30 v129 fun v130=>
 kI 30 v130 (l_102.getD 4 undef) fun v132=>
 kL 24 v132 fun v133=>
 kI 24 v133 (l_107.getD 2 undef) fun v135=>
 kL 3 v135 fun v136 w=>
 a5z (fun M_124=>(kI 61 v16 (l_102.getD 4 undef) (fun v139=>
 kL 4 v139 fun v140 w=>
 a0v v140
 (b7y M_124 a3 l_102 l_107 l_57 v106 v136 v73 w)
 (M_124 [v136] w)) w))
 fun l_125 u_l_125 w=>(oM prog (.buildSlice 24 1 #[(0,(.tmp 0))]) 24 [(l_125.getD 0 undef)] (fun v163=>
 oM prog (.call (Go.Call.mk (.builtin .append) #[(.tmp 0),(.tmp 1)] #[24,24])) 24 [(l_107.getD 1 undef),v163] fun v164=>
 kB .add 3 3 (l_107.getD 2 undef) (.int .i64 1) fun v125=>
 kJ J_105 m_106 l_107 w0_l_107 [(l_125.getD 0 undef),v164,v125]) w))
 (oM prog (.buildSlice 30 1 #[(0,(.tmp 0))]) 30 [(l_107.getD 1 undef)] fun v167=>
 oM prog (.call (Go.Call.mk (.builtin .append) #[(.tmp 0),(.tmp 1)] #[30,30])) 30 [(l_102.getD 3 undef),v167] fun v168=>
 kB .add 3 3 (l_102.getD 4 undef) (.int .i64 1) fun v112=>
 kJ J_100 m_101 l_102 w0_l_102 [(l_107.getD 1 undef),(l_107.getD 2 undef),(l_107.getD 0 undef),v168,v112])) w)) w0_l_107
def b1u (J_100 J_55:List Value → World → Prop) (a3:Value) (l_102 l_57:List Value) (m_101 m_56:List Value → World → Nat) (v106 v14 v16 v73 v93 v9:Value) (w0_l_57 w0_l_102:World):Prop:=
 (fun w=>(
 kN 24 v106 (fun v109=>
 kB .lss 3 4 (l_102.getD 4 undef) v109 fun v110=>
 kO v110 (kQ [(l_102.getD 2 undef),(.slice none 0 0),(.int .i64 0)] fun J_105 m_106 l_107 u_l_107 w0_l_107=>b1t J_100 J_105 a3 l_102 l_107 l_57 m_101 m_106 v106 v16 v73 v9 w0_l_102 w0_l_107)
 (kF 34 0 v14 fun v169=>
 kL 30 v169 fun v170=>
 oM prog (.buildSlice 30 1 #[(0,(.tmp 0))]) 30 [v106] fun v172=>
 oM prog (.call (Go.Call.mk (.builtin .append) #[(.tmp 0),(.tmp 1)] #[30,30])) 30 [v170,v172] fun v173=>
 kF 34 0 v14 fun v174=>
 kS 30 v174 v173 fun _=>
 kF 34 1 v14 fun v175=>
 kL 29 v175 fun v176=>
 oM prog (.buildSlice 29 1 #[(0,(.tmp 0))]) 29 [(l_102.getD 3 undef)] fun v178=>
 oM prog (.call (Go.Call.mk (.builtin .append) #[(.tmp 0),(.tmp 1)] #[29,29])) 29 [v176,v178] fun v179=>
 kF 34 1 v14 fun v180=>
 kS 29 v180 v179 fun _=>
 kB .add 3 3 (l_57.getD 8 undef) (.int .i64 1) fun v80=>
 kJ J_55 m_56 l_57 w0_l_57 [v16,v93,v106,(l_102.getD 3 undef),(l_102.getD 4 undef),(l_102.getD 0 undef),(l_102.getD 1 undef),(l_102.getD 2 undef),v80])) w)) w0_l_102
def c1p (J_55:List Value → World → Prop) (a1 a3:Value) (l_57:List Value) (m_56:List Value → World → Nat) (v14 v16 v5 v70 v73 v93 v9:Value) (w0_l_57 w:World):Prop:=
 kH (fun C_85 w=>(((true:Bool) = true) ∧ (jL 26 v5 C_85 fun v94=>
 a0c a1 C_85 fun v95=>
 a0c (l_57.getD 8 undef) C_85 fun v96=>
 jI 27 v95 v96 C_85 fun v97=>
 jL 65 v97 C_85 fun v98=>
 a0c v16 C_85 fun v99=>
 jF 32 1 v9 C_85 fun v100=>
 jL 30 v100 C_85 fun v101=>
 a0c (l_57.getD 8 undef) C_85 fun v102=>
 jI 30 v101 v102 C_85 fun v103=>
 jL 24 v103 C_85 fun v104=>
 a0c v70 C_85 fun v105=>
 ∃ S_98:World → WK,∀ w,C_85 w → (
 a0a prog 102 #[v94,v98,v99,v104,v105] (fun v106=>
 kQ [(l_57.getD 5 undef),(l_57.getD 6 undef),(l_57.getD 7 undef),(.slice none 0 0),(.int .i64 0)] fun J_100 m_101 l_102 u_l_102 w0_l_102=>b1u J_100 J_55 a3 l_102 l_57 m_101 m_56 v106 v14 v16 v73 v93 v9 w0_l_57 w0_l_102) w)))) w
def b4n (J_55:List Value → World → Prop) (a1 a3:Value) (l_57:List Value) (m_56:List Value → World → Nat) (v14 v5 v70 v73 v9:Value) (w0_l_57 w:World):Prop:=
 kH (fun C_60 w=>(((true:Bool) = true) ∧ (jL 26 v5 C_60 fun v82=>
 a0c a1 C_60 fun v83=>
 a0c (l_57.getD 8 undef) C_60 fun v84=>
 jI 27 v83 v84 C_60 fun v85=>
 jL 65 v85 C_60 fun v86=>
 a0c a3 C_60 fun v87=>
 a0c (l_57.getD 8 undef) C_60 fun v88=>
 jI 28 v87 v88 C_60 fun v89=>
 jL 114 v89 C_60 fun v90=>
 ∃ S_70:World → WK,xR S_70 fun R_71=>
 (∀ w,C_60 w → (a0a prog 101 #[v82,v86,v90] (xK C_60 S_70 R_71 w) w)) ∧
 (xR S_70 fun R_72=>
 (∀ w,C_60 w → ∀ v91,R_71 v91 w → (C_60 w ∧ S_70 w w ∧ R_72 v91 w)) ∧
 (xR S_70 fun R_74=>
 (∀ w,C_60 w → ∀ v81,R_72 v81 w → (kE 0 61 v81 (xK C_60 S_70 R_74 w) w)) ∧
 (xR S_70 fun R_76=>
 (∀ w,C_60 w → ∀ v81,R_72 v81 w → (kE 1 4 v81 (xK C_60 S_70 R_76 w) w)) ∧
 (xR S_70 fun R_78=>
 (∀ w,C_60 w → ∀ v92,R_74 v92 w → (C_60 w ∧ S_70 w w ∧ R_78 v92 w)) ∧
 (∀ w,C_60 w → ∀ v91,R_71 v91 w → ∀ v81,R_72 v81 w → ∀ v92,R_74 v92 w → ∀ v93,R_76 v93 w → ∀ v16,R_78 v16 w → (
 c1p J_55 a1 a3 l_57 m_56 v14 v16 v5 v70 v73 v93 v9 w0_l_57 w))))))))) w
def c1q (K:VK) (a1 a2 a3 v10 v5 v9:Value) (w:World):Prop:=
 kH (fun C_36 w=>(((true:Bool) = true) ∧ (jL 26 v5 C_36 fun v60=>
 a0c a1 C_36 fun v61=>
 a0c a2 C_36 fun v62=>
 jL 26 v5 C_36 fun v63=>
 a0c a1 C_36 fun v64=>
 jF 32 1 v9 C_36 fun v65=>
 jL 30 v65 C_36 fun v66=>
 jF 32 0 v9 C_36 fun v67=>
 jL 29 v67 C_36 fun v68=>
 ∃ S_46:World → WK,xR S_46 fun R_47=>
 (∀ w,C_36 w → (a0a prog 100 #[v63,v64,v66,v68] (xK C_36 S_46 R_47 w) w)) ∧
 (∀ w,C_36 w → ∀ v69,R_47 v69 w → (
 a0a prog 99 #[v60,v61,v62,v69] (fun v70=>
 kF 26 0 v5 fun v71=>
 kF 23 1 v71 fun v72=>
 kL 3 v72 fun v73=>
 oM prog (.build 34 #[]) 34 [] fun v74=>
 kA 34 fun v14=>
 kS 34 v14 v74 fun _=>
 kQ [undef,undef,undef,undef,undef,undef,undef,undef,(.int .i64 0)] fun J_55 m_56 l_57 u_l_57 w0_l_57=>(fun w=>(
 kN 27 a1 (fun v77=>
 kB .lss 3 4 (l_57.getD 8 undef) v77 fun v78 w=>
 a0v v78
 (b4n J_55 a1 a3 l_57 m_56 v14 v5 v70 v73 v9 w0_l_57 w)
 (kL 34 v14 (fun v181=>
 kS 34 v10 v181 fun _ w=>
 ∃ r_169,(do loadVar 34 (← asAddr v10):Sem Value).run prog w = .ok r_169 w ∧ K (.tuple #[r_169,(.int .i64 0)]) w) w)) w)) w0_l_57) w))))) w
def g0o (a0 a1 a2 a3 a4:Value) (K:VK) (w:World):Prop:=
 oM prog (.box 26 (.tmp 0)) 0 [a0] (fun v5=>
 oM prog (.box 32 (.tmp 0)) 0 [a4] fun v9=>
 kA 34 fun v10=>
 kL 26 v5 fun v24=>
 a0a prog 24 #[v24,a1] fun v26=>
 kU v26 fun v27 w=>
 gF v27 (kL 26 v5) (fun v29 w=>
 gF v27 (a0j a1) (fun v30 w=>
 gF v27 (a0j a3) (fun v31 w=>
 gF v27 (a0a prog 32 #[v29,v30,v31]) (fun v32 w=>
 gF v27 (kU v32) (fun v33=>
 kP v27 (.bool true) v33 fun v34 w=>
 gF v34 (kL 26 v5) (fun v36 w=>
 gF v34 (a0j a1) (fun v37 w=>
 gF v34 (kF 32 1 v9) (fun v38 w=>
 gF v34 (kL 30 v38) (fun v39 w=>
 gF v34 (kF 32 0 v9) (fun v40 w=>
 gF v34 (kL 29 v40) (fun v41 w=>
 gF v34 (a0a prog 33 #[v36,v37,v39,v41]) (fun v42 w=>
 gF v34 (kU v42) (fun v43=>
 kP v34 (.bool true) v43 fun v44=>
 kO v44 (oM prog (.build 34 #[]) 34 [] fun v45=>
 kS 34 v10 v45 fun _ w=>
 ∃ r_23,(do loadVar 34 (← asAddr v10):Sem Value).run prog w = .ok r_23 w ∧ K (.tuple #[r_23,(.int .i64 1)]) w)
 (kL 26 v5 fun v46=>
 a0a prog 98 #[v46,a1,a3] fun v49=>
 kU v49 fun v50=>
 kO v50 (oM prog (.build 34 #[]) 34 [] fun v51=>
 kS 34 v10 v51 fun _ w=>
 ∃ r_28,(do loadVar 34 (← asAddr v10):Sem Value).run prog w = .ok r_28 w ∧ K (.tuple #[r_28,(.int .i64 13)]) w)
 (kL 26 v5 fun v52=>
 kF 32 1 v9 fun v55=>
 kL 30 v55 fun v56=>
 a0a prog 35 #[v52,a1,a3,v56] fun v57=>
 kU v57 fun v58 w=>
 a0v v58
 (oM prog (.build 34 #[]) 34 [] (fun v59=>
 kS 34 v10 v59 fun _ w=>
 ∃ r_35,(do loadVar 34 (← asAddr v10):Sem Value).run prog w = .ok r_35 w ∧ K (.tuple #[r_35,(.int .i64 3)]) w) w)
 (c1q K a1 a2 a3 v10 v5 v9 w)))) w) w) w) w) w) w) w) w) w) w) w) w) w) w
theorem e5s (h:g0o a0 a1 a2 a3 a4 K w):a0a prog 19 #[a0,a1,a2,a3,a4] K w:=
 cZ (mz [(7,fz 9 1 2),(13,fz 9 5 1),(14,fz 12 0 2),(25,fz 18 1 2)]) func19 h
def c6a (a4:Value) (l_29 l_59 l_70:List Value) (v105 v15 v47 v81:Value) (M_87:List Value → World → Prop) (w:World):Prop:=
 kI 61 v15 (l_59.getD 6 undef) (fun v108=>
 kL 4 v108 fun v109=>
 kO v109 (kI 28 a4 (l_29.getD 9 undef) fun v116=>
 kL 114 v116 fun v117=>
 kI 114 v117 (l_59.getD 6 undef) fun v119=>
 kF 113 1 v119 fun v120=>
 kL 24 v120 fun v121=>
 kI 24 v121 (l_70.getD 2 undef) fun v123=>
 kL 3 v123 fun v124=>
 a0a prog 104 #[v47,v81,v124] fun v125=>
 a0a prog 116 #[v47,v105,v125] fun v126=>
 M_87 [v126])
 (M_87 [v105])) w
def b7z (J_57:List Value → World → Prop) (l_59 l_70:List Value) (m_58:List Value → World → Nat) (w0_l_59:World) (l_104:List Value) (w:World):Prop:=
 oM prog (.buildSlice 24 1 #[(0,(.tmp 0))]) 24 [(l_104.getD 0 undef)] (fun v137=>
 oM prog (.call (Go.Call.mk (.builtin .append) #[(.tmp 0),(.tmp 1)] #[24,24])) 24 [(l_59.getD 4 undef),v137] fun v138=>
 oM prog (.buildSlice 30 1 #[(0,(.tmp 0))]) 30 [(l_70.getD 1 undef)] fun v141=>
 oM prog (.call (Go.Call.mk (.builtin .append) #[(.tmp 0),(.tmp 1)] #[30,30])) 30 [(l_59.getD 5 undef),v141] fun v142=>
 kB .add 3 3 (l_59.getD 6 undef) (.int .i64 1) fun v73=>
 kJ J_57 m_58 l_59 w0_l_59 [(l_104.getD 0 undef),(l_70.getD 1 undef),(l_70.getD 2 undef),(l_70.getD 0 undef),v138,v142,v73]) w
def b4o (J_57 J_68:List Value → World → Prop) (a4:Value) (l_29 l_59 l_70:List Value) (m_58 m_69:List Value → World → Nat) (v15 v47 v81 v8:Value) (w0_l_59 w0_l_70:World):Prop:=
 (fun w=>(
 kF 34 1 v8 (fun v83=>
 kL 29 v83 fun v84=>
 kI 29 v84 (l_29.getD 9 undef) fun v86=>
 kL 30 v86 fun v87=>
 kI 30 v87 (l_59.getD 6 undef) fun v89=>
 kL 24 v89 fun v90=>
 kN 24 v90 fun v91=>
 kB .lss 3 4 (l_70.getD 2 undef) v91 fun v92 w=>
 a0v v92
 (kF 34 1 v8 (fun v95=>
 kL 29 v95 fun v96=>
 kI 29 v96 (l_29.getD 9 undef) fun v98=>
 kL 30 v98 fun v99=>
 kI 30 v99 (l_59.getD 6 undef) fun v101=>
 kL 24 v101 fun v102=>
 kI 24 v102 (l_70.getD 2 undef) fun v104=>
 kL 3 v104 fun v105 w=>
 a5z (fun M_87=>(c6a a4 l_29 l_59 l_70 v105 v15 v47 v81 M_87 w))
 fun l_88 u_l_88 w=>(oM prog (.buildSlice 24 1 #[(0,(.tmp 0))]) 24 [(l_88.getD 0 undef)] (fun v129=>
 oM prog (.call (Go.Call.mk (.builtin .append) #[(.tmp 0),(.tmp 1)] #[24,24])) 24 [(l_70.getD 1 undef),v129] fun v130=>
 kB .add 3 3 (l_70.getD 2 undef) (.int .i64 1) fun v94=>
 kJ J_68 m_69 l_70 w0_l_70 [(l_88.getD 0 undef),v130,v94]) w)) w)
 (a5z (fun M_103=>(kI 61 v15 (l_59.getD 6 undef) (fun v133=>
 kL 4 v133 fun v134=>
 kO v134 (M_103 [(.int .i64 0)])
 (M_103 [v81])) w))
 fun l_104 u_l_104 w=>(b7z J_57 l_59 l_70 m_58 w0_l_59 l_104 w))) w)) w0_l_70
def b4p (J_27 J_57:List Value → World → Prop) (a4:Value) (l_29 l_59:List Value) (m_28 m_58:List Value → World → Nat) (v13 v15 v47 v67 v8:Value) (w0_l_29 w0_l_59:World):Prop:=
 (fun w=>(
 kN 61 v15 (fun v70=>
 kB .lss 3 4 (l_59.getD 6 undef) v70 fun v71=>
 kO v71 (kF 34 0 v8 fun v74=>
 kL 30 v74 fun v75=>
 kI 30 v75 (l_29.getD 9 undef) fun v77=>
 kL 24 v77 fun v78=>
 kI 24 v78 (l_59.getD 6 undef) fun v80=>
 kL 3 v80 fun v81=>
 kQ [(l_59.getD 3 undef),(.slice none 0 0),(.int .i64 0)] fun J_68 m_69 l_70 u_l_70 w0_l_70=>b4o J_57 J_68 a4 l_29 l_59 l_70 m_58 m_69 v15 v47 v81 v8 w0_l_59 w0_l_70)
 (kF 32 1 v13 fun v143=>
 kL 30 v143 fun v144=>
 oM prog (.buildSlice 30 1 #[(0,(.tmp 0))]) 30 [(l_59.getD 4 undef)] fun v146=>
 oM prog (.call (Go.Call.mk (.builtin .append) #[(.tmp 0),(.tmp 1)] #[30,30])) 30 [v144,v146] fun v147=>
 kF 32 1 v13 fun v148=>
 kS 30 v148 v147 fun _=>
 kF 32 0 v13 fun v149=>
 kL 29 v149 fun v150=>
 oM prog (.buildSlice 29 1 #[(0,(.tmp 0))]) 29 [(l_59.getD 5 undef)] fun v152=>
 oM prog (.call (Go.Call.mk (.builtin .append) #[(.tmp 0),(.tmp 1)] #[29,29])) 29 [v150,v152] fun v153=>
 kF 32 0 v13 fun v154=>
 kS 29 v154 v153 fun _=>
 kB .add 3 3 (l_29.getD 9 undef) (.int .i64 1) fun v54=>
 kJ J_27 m_28 l_29 w0_l_29 [v15,v67,(l_59.getD 4 undef),(l_59.getD 5 undef),(l_59.getD 6 undef),(l_59.getD 0 undef),(l_59.getD 1 undef),(l_59.getD 2 undef),(l_59.getD 3 undef),v54])) w)) w0_l_59
def b4q (J_27:List Value → World → Prop) (a1 a4:Value) (l_29:List Value) (m_28:List Value → World → Nat) (v13 v47 v5 v8:Value) (w0_l_29 w:World):Prop:=
 kH (fun C_32 w=>(((true:Bool) = true) ∧ (jL 26 v5 C_32 fun v56=>
 a0c a1 C_32 fun v57=>
 a0c (l_29.getD 9 undef) C_32 fun v58=>
 jI 27 v57 v58 C_32 fun v59=>
 jL 65 v59 C_32 fun v60=>
 a0c a4 C_32 fun v61=>
 a0c (l_29.getD 9 undef) C_32 fun v62=>
 jI 28 v61 v62 C_32 fun v63=>
 jL 114 v63 C_32 fun v64=>
 ∃ S_42:World → WK,xR S_42 fun R_43=>
 (∀ w,C_32 w → (a0a prog 101 #[v56,v60,v64] (xK C_32 S_42 R_43 w) w)) ∧
 (xR S_42 fun R_44=>
 (∀ w,C_32 w → ∀ v65,R_43 v65 w → (C_32 w ∧ S_42 w w ∧ R_44 v65 w)) ∧
 (xR S_42 fun R_46=>
 (∀ w,C_32 w → ∀ v55,R_44 v55 w → (kE 0 61 v55 (xK C_32 S_42 R_46 w) w)) ∧
 (xR S_42 fun R_48=>
 (∀ w,C_32 w → ∀ v55,R_44 v55 w → (kE 1 4 v55 (xK C_32 S_42 R_48 w) w)) ∧
 (xR S_42 fun R_50=>
 (∀ w,C_32 w → ∀ v66,R_46 v66 w → (C_32 w ∧ S_42 w w ∧ R_50 v66 w)) ∧
 (∀ w,C_32 w → ∀ v65,R_43 v65 w → ∀ v55,R_44 v55 w → ∀ v66,R_46 v66 w → ∀ v67,R_48 v67 w → ∀ v15,R_50 v15 w → (kQ [(l_29.getD 5 undef),(l_29.getD 6 undef),(l_29.getD 7 undef),(l_29.getD 8 undef),(.slice none 0 0),(.slice none 0 0),(.int .i64 0)] (fun J_57 m_58 l_59 u_l_59 w0_l_59=>b4p J_27 J_57 a4 l_29 l_59 m_28 m_58 v13 v15 v47 v67 v8 w0_l_29 w0_l_59) w))))))))) w
def g0p (a0 a1 a2 a3 a4:Value) (K:VK) (w:World):Prop:=
 oM prog (.box 26 (.tmp 0)) 0 [a0] (fun v5=>
 oM prog (.box 34 (.tmp 0)) 0 [a3] fun v8=>
 kA 32 fun v10=>
 kL 26 v5 fun v24=>
 kL 34 v8 fun v27=>
 a0a prog 31 #[v24,a1,a2,v27] fun v28=>
 kU v28 fun v29 w=>
 gF v29 (kL 26 v5) (fun v31 w=>
 gF v29 (a0j a1) (fun v32 w=>
 gF v29 (a0j a4) (fun v33 w=>
 gF v29 (a0a prog 32 #[v31,v32,v33]) (fun v34 w=>
 gF v29 (kU v34) (fun v35=>
 kP v29 (.bool true) v35 fun v36 w=>
 gF v36 (kL 26 v5) (fun v38 w=>
 gF v36 (a0j a1) (fun v39 w=>
 gF v36 (a0j a4) (fun v40 w=>
 gF v36 (a0a prog 98 #[v38,v39,v40]) (fun v41 w=>
 gF v36 (kU v41) (fun v42=>
 kP v36 (.bool true) v42 fun v43=>
 kO v43 (oM prog (.build 32 #[]) 32 [] fun v44=>
 kS 32 v10 v44 fun _ w=>
 ∃ r_21,(do loadVar 32 (← asAddr v10):Sem Value).run prog w = .ok r_21 w ∧ K (.tuple #[r_21,(.bool false)]) w)
 (kF 26 0 v5 fun v45=>
 kF 23 1 v45 fun v46=>
 kL 3 v46 fun v47=>
 oM prog (.build 32 #[]) 32 [] fun v48=>
 kA 32 fun v13=>
 kS 32 v13 v48 fun _=>
 kQ [undef,undef,undef,undef,undef,undef,undef,undef,undef,(.int .i64 0)] fun J_27 m_28 l_29 u_l_29 w0_l_29=>(fun w=>(
 kN 27 a1 (fun v51=>
 kB .lss 3 4 (l_29.getD 9 undef) v51 fun v52 w=>
 a0v v52
 (b4q J_27 a1 a4 l_29 m_28 v13 v47 v5 v8 w0_l_29 w)
 (kL 32 v13 (fun v155=>
 kS 32 v10 v155 fun _ w=>
 ∃ r_124,(do loadVar 32 (← asAddr v10):Sem Value).run prog w = .ok r_124 w ∧ K (.tuple #[r_124,(.bool true)]) w) w)) w)) w0_l_29)) w) w) w) w) w) w) w) w) w) w) w
theorem e5t (h:g0p a0 a1 a2 a3 a4 K w):a0a prog 28 #[a0,a1,a2,a3,a4] K w:=
 cZ (fun _=>(fz 9 5 1)) func28 h
end Go.Proofs
namespace Go.Proofs
open Go Go.Sh Go.RowKit FdSpec TkSpec CodeSpec PrSpec FdPoly GrLaw
section
variable {K:VK} {w w' w0 W W' We W1 W2:World} {L:List (Addr × Value)} {g n B b i:Nat} {row:Option Nat}
theorem d0x {q f:Int} {a c:List Int} {v:Nat} {x y:Int} (h1:a[v]? = some x) (h2:c[v]? = some y):(a2l q a f c)[v]? = some (a6i q x (a2n q f y)):=by
 unfold a2l
 have e:(a.zip c)[v]? = some (x,y):=List.getElem?_zip_eq_some.2 ⟨h1,h2⟩
 rw [List.getElem?_map,e]
 rfl
theorem c1y {q f:Int} {a c:List Int} (h:c.length = a.length):(a2l q a f c).length = a.length:=by
 unfold a2l; rw [List.length_map,List.length_zip]; omega
structure Gl (B:Nat) (w:World) (v:Value) (l:L2):Prop where
 ex:∃ D,b0x B D w v l ∧ Off D w v ∧ ∀ j,D j → B ≤ j
theorem Gl.nil:Gl B w (.slice none 0 0) []:=⟨fun _=>False,.nil,fun i h=>h.elim,fun i h=>h.elim⟩
theorem Gl.next {v:Value} {l:L2} (h:Gl B w v l) (hb:Bw w w'):Gl B w' v l:=by
 obtain ⟨D,h1,h2,h3⟩:=h.ex
 exact ⟨D,h1.next hb (fun j hj=>(h2 j hj).1),h2.next hb.size,h3⟩
theorem Gl.own {v:Value} {l:L2} (h:Gl B w v l) {j:Nat} (hj:v.ownBlock = some j):j < w.heap.size ∧ B ≤ j:=by
 obtain ⟨D,h1,_⟩:=h.ex
 exact h1.own hj
theorem Gl.isSlice {v:Value} {l:L2} (h:Gl B w v l):∃ ad c,v = .slice ad l.length c:=by
 obtain ⟨D,h1,_⟩:=h.ex
 exact h1.isSlice
theorem Gl.push {E:Nat → Prop} {v:Value} {l:L2} {x:List Int} {T:TypeId} {gb gc m c:Nat} {ad:Option Addr} (h:Gl B w v l) (hB:B ≤ w.heap.size) (hh:Holds w gb 24 [.slice ad m c]) (hx:FP E w (fun w=>Ints w (.slice ad m c) x)) (hE:∀ i,E i → B ≤ i ∧ i < w.heap.size ∧ v.ownBlock ≠ some i) (hl:l.length < 1099511627776)
  (k:∀ v' w',w.grownBy w' v.ownBlock → Gl B w' v' (l ++ [x]) → K v' w'):oM Tryz.prog (.call { callee:=.builtin .append,args:=#[.tmp 0,.tmp 1],argTypes:=#[30,30] }) T [v,.slice (some ⟨gb,0,none⟩) 1 gc] K w:=by
 obtain ⟨D,h1,h2,h3⟩:=h.ex
 refine b1p (D:=fun i=>D i ∨ E i) (h1.mono fun i hi=>.inl hi) hB hh (hx.mono fun i hi=>.inr hi) (fun i hi=>hi.elim (h2 i) (fun hi=>(hE i hi).2)) hl (fun v' w' hg hb hv ho=>k v' w' hb ⟨_,hg,ho,?_⟩)
 rintro i (hi | hi)
 ·exact h3 i hi
 ·exact (hE i hi).1
theorem Gl.fp {v:Value} {l:L2} (h:Gl B w v l) (hl:l.length ≤ 9223372036854775807):FP (fun j=>B ≤ j ∧ j < w.heap.size) w (fun w=>a0s w v l):=by
 obtain ⟨D,h1,h2,h3⟩:=h.ex
 exact (h1.fp (by decide) hl).mono (fun j hj=>hj.elim (fun h=>⟨h3 j h,(h2 j h).1⟩) (fun h=>⟨(h1.own h).2,(h1.own h).1⟩))
def f7r (T:List Int) (Wl:World) (vs:List Value) (W:World):Prop:=Bw Wl W ∧ ∃ (u lv:Value) (v:Nat),vs = [u,lv,.int .i64 (v:Int)] ∧ v ≤ T.length ∧ OwnI W Wl.heap.size lv (T.take v)
def g3p (A:L2) (Wm:World) (vs:List Value) (W:World):Prop:=Bw Wm W ∧ ∃ (u0 u1 u2 av:Value) (k:Nat),vs = [u0,u1,u2,av,.int .i64 (k:Int)] ∧ k ≤ A.length ∧ Gl Wm.heap.size W av (A.take k)
set_option maxHeartbeats 2000000 in
theorem e0n {q:Int} {kad nad xad:Option Addr} {kc nc xc b2 gb k:Nat} {dv:Value} {ns:L3} {know:List (List Knw)} {A N:L2} {F:List Int} {Bs:List Bool} {Ks:List Knw} {x:Bool} {z:List Int} {u:Knw} {y:Int} {p0 p1 p2 p3 p4 p5 p6 p7 u0 u1 u2 av:Value} {lvs:List Value} {wm Wm Wl:World}
  (hk:Kn w L Wm) (hb2:∀ W,a0n W L → a0n W (cellsOf [] b2 0 (a5n (.slice nad ns.length nc) dv))) (hn:a2j w (.slice nad ns.length nc) ns) (hkn:a5v w (.slice kad know.length kc) know)
  (hbs:b1e Wm (.slice (some ⟨gb,0,none⟩) F.length F.length) Bs) (hF:Ints Wm (.slice xad F.length xc) F) (hA:AnsC q A F.length Bs F N Ks) (en:ns[i]? = some N) (ek:know[i]? = some Ks)
  (ex:Bs[k]? = some x) (ey:F[k]? = some y) (ez:N[k]? = some z) (eu:Ks[k]? = some u) {T:List Int} (hT:A[k]? = some T)
  (hm:Bw Wm Wl) (hG:Gl Wm.heap.size Wl av (A.take k)) (hJ:f7r T Wl lvs W) :
  b1t (g3p A Wm) (f7r T Wl) (.slice kad know.length kc) [u0,u1,u2,av,.int .i64 (k:Int)] lvs [p0,p1,p2,p3,p4,p5,p6,p7,.int .i64 (i:Int)] (fun vs _=>match vs with | [_,_,_,_,.int _ k]=>F.length - k.toNat | _=>0) (c3t T.length) (.slice xad F.length xc) (.slice (some ⟨gb,0,none⟩) F.length F.length) (.int .i64 q) (ptr b2 0) wm W:=by
 obtain ⟨hb,u9,lv,v,rfl,hv,ho⟩:=hJ
 have hkF:k < F.length:=(gS ey).1
 have hAl:A.length = F.length:=by rw [hA.eq,a4m (by rw [hA.ld,hA.lb]) (by rw [hA.ln,hA.lb]) (by rw [hA.lk,hA.lb]),hA.lb]
 have hTe:T = if x then a2l q z y u.values else z:=by
  have:=b1x (q:=q) ex ey ez eu
  rw [← hA.eq,hT] at this
  exact oI this
 have hzl:=hA.len k z ez
 have hmax:=hA.max
 have hTl:T.length = z.length:=by
  rw [hTe]
  cases x with
  | true=>exact c1y (hA.fit k u z ex eu ez)
  | false=>rfl
 have hmW:=hm.on hb
 have hkW:=hk.next hmW
 have hcb:=hb2 _ hkW.cells
 have hin:=(gS en).1
 have hiN:(i:Int) < ns.length:=by omega
 obtain ⟨bn,on,rfl,hltn,csn,_,hcelln,vn,rfl,hrown⟩:=hn.at (i:=i) hin
 have cn:=hcelln 0 _ rfl
 rw [(gS en).2] at hrown
 have hkN:k < N.length:=(gS ez).1
 have hkN':(k:Int) < N.length:=by omega
 obtain ⟨nad2,nc2,rfl⟩:=id hrown.isSlice
 obtain ⟨bz,oz,rfl,hltz,csz,_,hcellz,vz,rfl,hrowz⟩:=hrown.at (i:=k) hkN
 have cz:=hcellz 0 _ rfl
 rw [(gS ez).2] at hrowz
 simp only [Nat.add_zero,Nat.mul_one,Nat.zero_add] at cn cz
 obtain ⟨zad,zc,rfl⟩:=id hrowz.isSlice
 have hcn:=(hkW.below.cell hltn).trans cn
 have hcz:=(hkW.below.cell hltz).trans cz
 unfold b1t
 by_cases hvz:v = z.length
 ·have hno:¬ (v:Int) < z.length:=by omega
  refine Xb9 (An6 @hcb @hcn @hcz @hiN @hkN' @hno) ?_
  rw [List.take_of_length_le (by omega)] at ho
  obtain ⟨lad,lc,rfl⟩:=a2m ho
  have hTI:∀ t ∈ T,I64 t:=by
   rw [hTe]
   cases x with
   | true=>exact b2r _ _ _ _
   | false=>exact hrowz.rng
  have hfp:=(ho.ints hTI (by omega)).fp
  refine a8n _ _ _ (fun gl w3 h3 hgl hh3=>?_)
  refine Gl.push (E:=fun j=>Wl.heap.size ≤ j ∧ j < w3.heap.size) ((hG.next hb).next h3) (hmW.on h3).size hh3 ((hfp.next h3 (fun j hj=>hj.2)).mono (fun j hj=>⟨(a0d ho (a7m ho hj.1)).2.1,lL hj.2 h3.size⟩)) (fun j hj=>⟨Nat.le_trans hm.size hj.1,hj.2,fun e=>by have:=(hG.own e).1; omega⟩) (by rw [List.length_take]; omega) (fun v4 w4 hg4 hG4=>?_)
  have hb4:=(hmW.on h3).grown hg4 (hmW.on h3).size (fun j hj=>(hG.own hj).2)
  refine Xa0 ?_
  refine ⟨⟨hb4,_,_,_,_,k + 1,rfl,by omega,?_⟩,?_⟩
  ·rw [← a2i hT]; exact hG4
  ·show F.length - (((k + 1:Nat):Int)).toNat < F.length - ((k:Nat):Int).toNat; omega
 have hvl:(v:Int) < z.length:=by omega
 obtain ⟨bt,ot,e1,_,ct,hti,_⟩:=hrowz.at (i:=v) (by omega)
 subst e1
 have ezv:z[v]? = some z[v]:=gE (by omega)
 generalize z[v] = zv at *
 obtain ⟨bb,ob,ebb,hltb,csb,_,hcellb,vb,rfl,hvb⟩:=hbs.at (i:=k) (by have:=(gS ex).1; exact this)
 cases ebb
 have cb:=hcellb 0 _ rfl
 unfold b7j at hvb
 subst hvb
 rw [(gS ex).2] at cb
 simp only [Nat.add_zero,Nat.mul_one,Nat.zero_add] at cb
 have hkF':(k:Int) < F.length:=by omega
 have hTv:∃ tv,T[v]? = some tv:=⟨_,gE (by omega)⟩
 obtain ⟨tv,hTv⟩:=hTv
 refine Xa (An7 @hcb @hcn @hcz (ct _ hkW.below) @hiN @hkN' @hvl) ?_
 refine ⟨fun l W3=>∃ t,l = [.int .i64 t] ∧ t = tv ∧ I64 t ∧ Bw Wl W3 ∧ OwnI W3 Wl.heap.size lv (T.take v),?_,?_⟩
 rotate_left
 ·rintro _ _ W3 ⟨t,rfl,rfl,htI,hb3,ho3⟩
  refine g2y ?_
  refine mk1 _ htI (fun v8 w8 h8 hi8=>?_)
  refine a9u (ho3.keep h8) (hb3.on h8).size hi8 (by rw [List.length_take]; omega) (fun v9 w9 ho9 h9=>?_)
  refine Xa0 ?_
  refine ⟨⟨(hb3.on h8).trans h9,_,_,v + 1,rfl,by omega,?_⟩,?_⟩
  ·rw [← a2s hTv]; exact ho9
  ·simp only [b0q]; omega
 cases x with
 | false=>
  refine Xa (An2 ((hmW.cell hltb).trans cb) @hkF') ?_
  rw [hTe] at hTv
  have htv:tv = zv:=by
   have h:z[v]? = some tv:=hTv
   rw [ezv] at h
   exact (oI h).symm
  exact ⟨_,rfl,htv.symm,hti,hb,ho⟩
 | true=>
  refine Xa (An2 ((hmW.cell hltb).trans cb) @hkF') ?_
  have hfit:=hA.fit k u z ex eu ez
  have hik:=(gS ek).1
  have hiK:(i:Int) < know.length:=by omega
  obtain ⟨bk,okk,rfl,hltk,csk,_,hcellk,vk,rfl,hrowk⟩:=hkn.at (i:=i) hik
  have ck:=hcellk 0 _ rfl
  rw [(gS ek).2] at hrowk
  obtain ⟨kad2,kc2,rfl⟩:=id hrowk.isSlice
  have hkk:=(gS eu).1
  have hkk':(k:Int) < Ks.length:=by omega
  obtain ⟨bu,ou,rfl,hltu,csu,_,hcellu,vu,rfl,hvu⟩:=hrowk.at (i:=k) hkk
  have q1:=hcellu 1 _ rfl
  rw [(gS eu).2] at hvu
  simp only [Nat.add_zero,Nat.mul_one,Nat.zero_add] at ck
  obtain ⟨uad,uc,rfl⟩:=id hvu.isSlice
  obtain ⟨bw,ow,e3,_,cw,_,_⟩:=hvu.at (i:=v) (by omega)
  subst e3
  have euv:u.values[v]? = some u.values[v]:=gE (by omega)
  obtain ⟨bf,of,e4,_,cf,_,_⟩:=hF.at (i:=k) hkF
  subst e4
  rw [(gS ey).2] at cf
  generalize u.values[v] = uv at *
  have hvu':(v:Int) < u.values.length:=by omega
  have htv:tv = a6i q zv (a2n q y uv):=by
   have:=d0x (q:=q) (f:=y) ezv euv
   rw [hTe] at hTv
   have h:(a2l q z y u.values)[v]? = some tv:=hTv
   rw [this] at h
   exact (oI h).symm
  unfold b7y
  simp only [List.getD_cons_succ,List.getD_cons_zero]
  have hk9:=hkW.drew
  have hm9:Below Wm.heap.size Wm { W with drawn:=W.drawn + 1 }:=hmW.on .drawn
  have hb9:Below Wl.heap.size Wl { W with drawn:=W.drawn + 1 }:=hb.on .drawn
  have ho9:OwnI { W with drawn:=W.drawn + 1 } Wl.heap.size lv (T.take v):=ho.keep .drawn
  refine ⟨Nx { W with drawn:=W.drawn + 1 },bR,by trivial,?_⟩
  generalize ({ W with drawn:=W.drawn + 1 }:World) = W9 at *
  refine Xf (fun W0 hW0=>An4 (cf _ (hm9.on hW0)) (((hk9.next hW0).below.cell hltk).trans ck) (((hk9.next hW0).below.cell hltu).trans q1) (cw _ (hk9.next hW0).below)) (An4 @hkF' @hiK @hkk' @hvu') ?_
  refine ⟨Nx,?_⟩
  apply a1i
  ·(intro w9 h9; repeat (intro v9 e9; try (obtain rfl:=e9)))
   refine Xa0 ?_
   exact a4w _ _ _ ⟨h9,bR,rfl⟩
  (intro w9 h9; repeat (intro v9 e9; try (obtain rfl:=e9)))
  refine Xa0 ?_
  refine b8k _ _ _ ?_
  exact ⟨_,rfl,htv.symm,a7d _ _ _,hb9.on h9,ho9.keep h9⟩
set_option maxHeartbeats 4000000 in
theorem d2q {q:Int} {kad nad xad:Option Addr} {kc nc xc b2 gb:Nat} {dv:Value} {ns:L3} {know:List (List Knw)} {A N:L2} {F:List Int} {Bs:List Bool} {Ks:List Knw} {p0 p1 p2 p3 p4 p5 p6 p7:Value} {mvs:List Value} {Wm wo:World} {dl:L2} {al:L3} {J:List Value → World → Prop} {m:List Value → World → Nat} {bv:Value}
  (hk:Kn w L Wm) (hb2:∀ W,a0n W L → a0n W (cellsOf [] b2 0 (a5n (.slice nad ns.length nc) dv))) (hn:a2j w (.slice nad ns.length nc) ns) (hkn:a5v w (.slice kad know.length kc) know)
  (hbs:b1e Wm (.slice (some ⟨gb,0,none⟩) F.length F.length) Bs) (hF:Ints Wm (.slice xad F.length xc) F) (hA:AnsC q A F.length Bs F N Ks) (en:ns[i]? = some N) (ek:know[i]? = some Ks)
  (hQ:OutQ B b 34 a5n We dl al) (hWe:Bw We Wm) (hB:B ≤ We.heap.size) (hFf:FP (fun j=>We.heap.size ≤ j ∧ j < Wm.heap.size) Wm (fun w=>Ints w (.slice xad F.length xc) F)) (hdl:dl.length < 1099511627776) (hal:al.length < 1099511627776) (hi:i < 100000)
  (kk:∀ W' vs,Fr (fun j=>j = b ∨ B ≤ j) We W' → OutQ B b 34 a5n W' (dl ++ [F]) (al ++ [A]) → (∃ a0 a1 a2 a3 a4 a5 a6 a7,vs = [a0,a1,a2,a3,a4,a5,a6,a7,.int .i64 ((i + 1:Nat):Int)]) → J vs W' ∧ m vs W' < m [p0,p1,p2,p3,p4,p5,p6,p7,.int .i64 (i:Int)] wo)
  (hJ:g3p A Wm mvs W) :
  b1u (g3p A Wm) J (.slice kad know.length kc) mvs [p0,p1,p2,p3,p4,p5,p6,p7,.int .i64 (i:Int)] (fun vs _=>match vs with | [_,_,_,_,.int _ k]=>F.length - k.toNat | _=>0) m (.slice xad F.length xc) (ptr b 0) (.slice (some ⟨gb,0,none⟩) F.length F.length) (.int .i64 q) bv (ptr b2 0) wo W:=by
 obtain ⟨hb,u0,u1,u2,av,k,rfl,hkA,hG⟩:=hJ
 have hAl:A.length = F.length:=by rw [hA.eq,a4m (by rw [hA.ld,hA.lb]) (by rw [hA.ln,hA.lb]) (by rw [hA.lk,hA.lb]),hA.lb]
 have hmax:=hA.max
 unfold b1u
 by_cases hkF:k = F.length
 ·have hno:¬ (k:Int) < F.length:=by omega
  rw [List.take_of_length_le (by omega)] at hG
  obtain ⟨aad,ac,rfl⟩:=hG.isSlice
  have hWW:=hWe.on hb
  have hWs:=hb.size
  obtain ⟨dad,aad2,dc,ac2,D,hH,hduo,hDB,hdB,haB⟩:=hQ.duo (xad:=xad) (nx:=F.length) (cx:=xc) (yad:=aad) (ny:=A.length) (cy:=ac) hWW hB ((hFf.next hb (fun j hj=>hj.2)).mono (fun j hj=>⟨hj.1,lL hj.2 hWs⟩)) ((hG.fp (by omega)).mono (fun j hj=>⟨Nat.le_trans hWe.size hj.1,hj.2⟩)) hdl hal
  have hbl:=hQ.lt
  have hbW:b < W.heap.size:=by have:=hWW.size; omega
  have hbd:∀ j,D j → ¬ j = b:=fun j hj e=>by have:=hDB j hj; omega
  have hwi:IntKind.i64.wrap ((i:Int) + 1) = ((i + 1:Nat):Int):=by rw [a0o _ (by omega) (by omega)]; rfl
  refine Xb5 (An2 @hno hH.are) ?_
  refine a8n _ _ _ (fun g1 w1 h1 hg1 hh1=>?_)
  have d1:=(Duo.start hduo.a hduo.b hduo.oa hduo.ob hduo.ap hduo.B).next h1
  refine d1.addA hh1 hduo.x (fun j hj=>⟨(hduo.oa j hj).1,(hduo.oa j hj).2,(hduo.ob j hj).2⟩) hdl (fun v2 w2 d2 hg2=>?_)
  obtain ⟨vad2,vc2,rfl⟩:=d2.a.isSlice
  have hH2:=hH.fr d2.fr (fun e=>by
   rcases e with e | e
   ·have:=hdB _ e; omega
   ·have:=haB _ e; omega)
  refine a9i ?_
  refine a3q (i:=0) a6e rfl rfl hH2 (by simp) (fun w3 hg3 hh3=>?_)
  have hf3:Fr (fun j=>j = b) w2 w3:=Fr.of_by hg3
  have hD2:∀ j,D j → j < w2.heap.size ∧ ¬ j = b:=fun j hj=>⟨(d2.oa j hj).1,hbd j hj⟩
  have a3:=d2.a.keep hf3 hD2 (fun j hj e=>by have:=(d2.a.own hj).2; omega)
  have b3:=d2.b.keep hf3 hD2 (fun j hj e=>by have:=(d2.b.own hj).2; omega)
  have hy3:=(hduo.y.fr d2.fr (fun j hj=>⟨(hduo.oa j hj).1,fun e=>e.elim (hduo.oa j hj).2 (hduo.ob j hj).2⟩)).fr hf3 hD2
  have d3:=Duo.start a3 b3 (d2.oa.next hg3.size) (d2.ob.next hg3.size) d2.ap (Nat.le_trans d2.B (Nat.le_trans d2.fr.size hg3.size))
  have hh3:Holds w3 b 34 [.slice vad2 (dl ++ [F]).length vc2,.slice aad2 al.length ac2]:=hh3
  refine Xb2 hh3.are ?_
  refine b2y _ _ _ (fun g4 w4 h4 hg4 hh4=>?_)
  have d4:=d3.next h4
  refine d4.addB hh4 hy3 (fun j hj=>⟨(d3.oa j hj).1,(d3.oa j hj).2,(d3.ob j hj).2⟩) hal (fun u5 w5 d5 hg5=>?_)
  obtain ⟨uad5,uc5,rfl⟩:=d5.b.isSlice
  have hH5:=hh3.fr d5.fr (fun e=>by
   rcases e with e | e
   ·have:=(a3.own e).2; omega
   ·have:=(b3.own e).2; omega)
  refine a9i ?_
  refine a3q (i:=1) a6e rfl rfl hH5 (by simp) (fun w6 hg6 hh6=>?_)
  have hf6:Fr (fun j=>j = b) w5 w6:=Fr.of_by hg6
  have hD5:∀ j,D j → j < w5.heap.size ∧ ¬ j = b:=fun j hj=>⟨(d5.oa j hj).1,hbd j hj⟩
  have a6:=d5.a.keep hf6 hD5 (fun j hj e=>by have:=(d5.a.own hj).2; omega)
  have b6:=d5.b.keep hf6 hD5 (fun j hj e=>by have:=(d5.b.own hj).2; omega)
  refine Xa0 ?_
  have e0:Fr (fun j=>j = b ∨ B ≤ j) We W:=Fr.of_below' hWW
  have e2:=e0.trans d2.fr (fun j e=>.inl (.inr (e.elim (hdB j) (haB j))))
  have e3:=e2.trans hf3 (fun j e=>.inl (.inl e))
  have e5:=e3.trans d5.fr (fun j e=>.inl (.inr (e.elim (fun h=>(a3.own h).2) (fun h=>(b3.own h).2))))
  have e6:=e5.trans hf6 (fun j e=>.inl (.inl e))
  exact kk w6 _ e6 ⟨⟨_,_,D,hh6,a6,b6,d5.oa.next hg6.size,d5.ob.next hg6.size,d5.ap,hDB⟩,hbl⟩ ⟨_,_,_,_,_,_,_,_,rfl⟩
 have hkl:k < F.length:=by omega
 have hkl':(k:Int) < F.length:=by omega
 have ex:Bs[k]? = some (Bs[k]'(by have:=hA.lb; omega)):=gE _
 have ey:F[k]? = some F[k]:=gE _
 have ez:N[k]? = some (N[k]'(by have:=hA.ln; omega)):=gE _
 have eu:Ks[k]? = some (Ks[k]'(by have:=hA.lk; omega)):=gE _
 have hT:A[k]? = some (A[k]'(by omega)):=gE _
 refine Xa @hkl' ?_
 refine ⟨f7r A[k] W,c3t (A[k]'(by omega)).length,⟨bR,_,_,0,rfl,by omega,a3u⟩,?_⟩
 intro l107 u107 W3 hJ3
 exact e0n hk hb2 hn hkn hbs hF hA en ek ex ey ez eu hT hb hG hJ3
def g4t (P:L2 × L3) (B b:Nat) (W1:World) (n:Nat) (vs:List Value) (W:World):Prop:=Bw W1 W ∧ B ≤ W.heap.size ∧ ∃ (u0 u1 u2 u3 u4 u5 u6 u7:Value) (i:Nat),vs = [u0,u1,u2,u3,u4,u5,u6,u7,.int .i64 (i:Int)] ∧ i ≤ n ∧ OutQ B b 34 a5n W (P.1.take i) (P.2.take i)
def g1e (n:Nat) (vs:List Value) (_:World):Nat:=match vs with | [_,_,_,_,_,_,_,_,.int _ i]=>n - i.toNat | _=>0
theorem c1z {s:Stp} {goal:List Cls} (h:a1p s goal = true):a1x s = true:=(a3o.1 h).1.1
set_option maxHeartbeats 4000000 in
theorem c8q (s:Stp) {ad gad nad dad kad:Option Addr} {c gc nc dc kc b1 b2 r1:Nat} {ns:L3} {ds:L2} {goal:List Cls} {know:List (List Knw)} {r:Int} {lvs:List Value} {pa pb:Value}
  (hs:SetR w s (.slice ad s.bases.length c)) (hg:a4f w (.slice gad goal.length gc) goal)
  (hk:Kn w (cellsOf (cellsOf [] b1 0 (a2r s (.slice ad s.bases.length c))) b2 0 (a5n (.slice nad ns.length nc) (.slice dad ds.length dc))) W1)
  (hR:Holds W1 r1 34 [pa,pb]) (hr1:w.heap.size ≤ r1)
  (hn:a2j w (.slice nad ns.length nc) ns) (hd:a0s w (.slice dad ds.length dc) ds) (hkn:a5v w (.slice kad know.length kc) know)
  (hgm:a1p s goal = true) (hft:a3a s goal know = true) (hsm:a0u s goal ds ns = true) (hrI:I64 r) (hb1:W1.heap.size ≤ b) (hbB:b < B)
  (hJ:g4t (a1r s r (a0h s goal know).1 ds ns know) B b W1 goal.length lvs W)
  (k:∀ w' pv av,Bw w w' → a0s w' pv (a1r s r (a0h s goal know).1 ds ns know).1 → a2j w' av (a1r s r (a0h s goal know).1 ds ns know).2 → K (.tuple #[b5m pv av,.int .i64 0]) w') :
  (oM Tryz.prog (Go.Op.call (Go.Call.mk (Go.Callee.builtin Go.Builtin.len) #[(.tmp 0)] #[27])) 3 [.slice gad goal.length gc] (fun v77_58 w=>
   oM Tryz.prog (Go.Op.binOp Go.BinOp.lss 3 (.tmp 0) (.tmp 1) 3) 4 [(lvs.getD 8 undef),v77_58] (fun v78_59 w_1=>
   a0v v78_59
   (b4n (g4t (a1r s r (a0h s goal know).1 ds ns know) B b W1 goal.length) (.slice gad goal.length gc) (.slice kad know.length kc) lvs (g1e goal.length) (ptr b 0) (ptr b1 0) (.int .i64 r) (.int .i64 s.g.Q) (ptr b2 0) W w_1)
   (oM Tryz.prog (Go.Op.load 34 (.tmp 0)) 34 [ptr b 0] (fun v181_168 w=>
    oM Tryz.prog (Go.Op.store 34 (.tmp 0) (.tmp 1)) 0 [ptr r1 0,v181_168] (fun _ w=>
    ∃ r_169,(do loadVar 34 (← asAddr (ptr r1 0)):Sem Value).run Tryz.prog w = .ok r_169 w ∧ K (.tuple #[r_169,(.int .i64 0)]) w) w) w_1)) w) W):=by
 obtain ⟨hb,hBW,u0,u1,u2,u3,u4,u5,u6,u7,i,rfl,hi,hQ⟩:=hJ
 obtain ⟨hkl,hfx⟩:=a6q.1 hft
 obtain ⟨⟨hsd,hsn⟩,hok⟩:=a2o.1 hsm
 have hv:=c1z hgm
 have hlg:=hg.len
 have hcl:=a4k (s:=s) hkl
 have hpl:=b4r (s:=s) (r:=r) (bs:=(a0h s goal know).1) (ds:=ds) (ns:=ns) (ks:=know) (by omega) (by omega) (by omega)
 have hkW:=hk.next hb
 have h300:=(a5g hgm).1
 by_cases hin:i = goal.length
 ·subst hin
  rw [List.take_of_length_le (by omega),List.take_of_length_le (by omega)] at hQ
  generalize a1r s r (a0h s goal know).1 ds ns know = P at *
  obtain ⟨dv,av,D,h1,h2,h3,h4,h5,h6,h7⟩:=hQ.ex
  have h2':=h2
  have h3':=h3
  obtain ⟨xad,xc,rfl⟩:=h2.isSlice
  obtain ⟨yad,yc,rfl⟩:=h3.isSlice
  refine g2z ?_
  refine e9a h1 ?_
  refine a0x c0g (xs:=a5n (.slice xad P.1.length xc) (.slice yad P.2.length yc)) rfl rfl (a5f _ _ _ _ _ _) (hR.next hb) rfl (fun W3 hg3 hh3=>c7n (K:=fun r W=>K (.tuple #[r,.int .i64 0]) W) hh3 ?_)
  have hrB:r1 < B:=by have:=hR.lt; have:=hQ.lt; omega
  have hf3:Fr (fun j=>j = r1) W W3:=Fr.of_by hg3
  have hD3:∀ j,D j → j < W.heap.size ∧ ¬ j = r1:=fun j hj=>⟨(h4 j hj).1,fun e=>by have:=h7 j hj; omega⟩
  have g2:=h2'.keep hf3 hD3 (fun j hj e=>by have:=(h2'.own hj).2; omega)
  have g3:=h3'.keep hf3 hD3 (fun j hj e=>by have:=(h3'.own hj).2; omega)
  exact k _ _ _ (a0m hkW.below hg3 hr1) (g2.srow (by decide) (by omega)) (g3.srow (by decide) (by omega))
 have eg:goal[i]? = some goal[i]:=gE (by omega)
 have ek:know[i]? = some know[i]:=gE (by omega)
 have ed:ds[i]? = some ds[i]:=gE (by omega)
 have en:ns[i]? = some ns[i]:=gE (by omega)
 have eb:=a4n (s:=s) eg ek
 have hP:=b8g (s:=s) (r:=r) eb ed en ek
 have hlF:(a1y s.g.Q (a0e s goal[i].need goal[i].claims know[i]).1 ds[i] r).length = (a0e s goal[i].need goal[i].claims know[i]).1.length:=by simp [a1y]
 have hlks:=(hfx i _ _ eg ek).1
 have hcln:=a3y s goal[i].claims know[i] goal[i].need hlks
 obtain ⟨hA,hdl⟩:=c3o hgm hft hsm eg ek ed en (a1y s.g.Q (a0e s goal[i].need goal[i].claims know[i]).1 ds[i] r) (by rw [hlF,hcln])
 have hsmi:=c8p hgm eg
 obtain ⟨hfi,hci⟩:=(a3o.1 hgm).2 i _ eg
 obtain ⟨bk,ok,rfl,hltk,csk,_,hcellk,vk,rfl,hrowk⟩:=hkn.at (i:=i) (by omega)
 obtain ⟨bg,og,rfl,hbg,_,_,hgcell,gcv,rfl,_,hgc⟩:=hg.at (i:=i) (by omega)
 obtain ⟨bd,od,rfl,hltd,csd,_,hcelld,vd,rfl,hrowd⟩:=hd.at (i:=i) (by omega)
 have ck:=hcellk 0 _ rfl
 have cd:=hcelld 0 _ rfl
 simp only [Nat.add_zero,Nat.mul_one,Nat.zero_add] at ck cd
 have g0:=hgcell 0 _ rfl
 have g1:=hgcell 1 _ rfl
 simp only [Nat.add_zero] at g0
 have hFI:∀ x ∈ a1y s.g.Q (a0e s goal[i].need goal[i].claims know[i]).1 ds[i] r,I64 x:=c2r _ _ _ _
 simp only [a0z,bA,dE] at hfi
 rw [← hcln] at hA hsmi
 generalize ds[i] = d at *
 generalize ns[i] = N at *
 generalize know[i] = ks at *
 generalize goal[i] = cl at *
 have hrowk':=hrowk
 have hgc':=hgc
 obtain ⟨kad2,kc2,rfl⟩:=hrowk.isSlice
 obtain ⟨cad,cc,rfl⟩:=hgc.isSlice
 have hiK:(i:Int) < know.length:=by omega
 have hiG:(i:Int) < goal.length:=by omega
 have hiD:(i:Int) < ds.length:=by omega
 refine Xa @hiG ?_
 unfold b4n
 simp only [List.getD_cons_succ,List.getD_cons_zero]
 have hk9:=hkW.drew
 have hb9:Below W.heap.size W { W with drawn:=W.drawn + 1 }:=.drawn
 refine ⟨Nx { W with drawn:=W.drawn + 1 },bR,by trivial,?_⟩
 generalize ({ W with drawn:=W.drawn + 1 }:World) = W9 at hk9 hb9 ⊢
 refine Xf (fun W0 hW0=>An4 ((hk9.next hW0).cells) (((hk9.next hW0).below.cell hltk).trans ck) (((hk9.next hW0).below.cell hbg).trans g0) (((hk9.next hW0).below.cell hbg).trans g1)) (An2 @hiK @hiG) ?_
 refine ⟨Nx,?_⟩
 have hmono:∀ (f:Nat → Value) (v:Value) (w w1:World),Nx w w1 → (∃ g,v = f g ∧ Holds w g 4 ((a0e s cl.need cl.claims ks).1.map Value.bool)) → ∃ g,v = f g ∧ Holds w1 g 4 ((a0e s cl.need cl.claims ks).1.map Value.bool):=fun f v w w1 hS h=>h.imp fun g h=>⟨h.1,h.2.next hS⟩
 refine a3i (fun v w'=>∃ g,v = .tuple #[.slice (some ⟨g,0,none⟩) cl.claims.length cl.claims.length,.bool (decide ((a0e s cl.need cl.claims ks).2 = 0))] ∧ Holds w' g 4 ((a0e s cl.need cl.claims ks).1.map Value.bool)) (hmono _) ?_ ?_
 ·intro w1 h1
  exact b0r s cl ks (hs.next (hk9.next h1).below) (hgc'.next (a0b a7x) (hk9.next h1).below) (hrowk'.next (a0b a6p) (hk9.next h1).below) hlks hv (fun x hx=>List.all_eq_true.1 hci x hx) (by omega) (by omega) (fun w2 g h2 hg2 hh2=>⟨h1.on h2,h2,g,rfl,hh2⟩)
 refine a3i (fun v w'=>∃ g,v = .tuple #[.slice (some ⟨g,0,none⟩) cl.claims.length cl.claims.length,.bool (decide ((a0e s cl.need cl.claims ks).2 = 0))] ∧ Holds w' g 4 ((a0e s cl.need cl.claims ks).1.map Value.bool)) (hmono _) ?_ ?_
 ·intro w1 h1 v hv1
  exact ⟨h1,bR,hv1⟩
 refine a3i (fun v w'=>∃ g,v = .slice (some ⟨g,0,none⟩) cl.claims.length cl.claims.length ∧ Holds w' g 4 ((a0e s cl.need cl.claims ks).1.map Value.bool)) (hmono _) ?_ ?_
 ·rintro w1 h1 v ⟨g,rfl,hh⟩
  refine Xa0 ?_
  exact ⟨h1,bR,g,rfl,hh⟩
 refine a3i (fun v w'=>True) (fun _ _ _ _ _=>trivial) ?_ ?_
 ·rintro w1 h1 v ⟨g,rfl,hh⟩
  refine Xa0 ?_
  exact ⟨h1,bR,trivial⟩
 refine a3i (fun v w'=>∃ g,v = .slice (some ⟨g,0,none⟩) cl.claims.length cl.claims.length ∧ Holds w' g 4 ((a0e s cl.need cl.claims ks).1.map Value.bool)) (hmono _) ?_ ?_
 ·intro w1 h1 v hv1
  exact ⟨h1,bR,hv1⟩
 rintro w9 h9 _ _ _ _ _ _ v93 _ v16 ⟨gb,rfl,hh⟩
 have hk:=hk9.next h9
 have hbW:=hb9.on h9
 have hhb:=b6e hh (by omega)
 rw [hcln] at hhb
 rw [← hcln] at hhb ⊢
 rw [← hcln] at hdl
 generalize (a0e s cl.need cl.claims ks).1 = Bs at *
 unfold c1p
 simp only [List.getD_cons_succ,List.getD_cons_zero]
 have hkA:=hk.drew
 have hbA:Below W.heap.size W { w9 with drawn:=w9.drawn + 1 }:=hbW.on .drawn
 have hhA:b1e { w9 with drawn:=w9.drawn + 1 } (.slice (some ⟨gb,0,none⟩) Bs.length Bs.length) Bs:=hhb.next (a0b a3m) .drawn
 refine ⟨Nx { w9 with drawn:=w9.drawn + 1 },bR,by trivial,?_⟩
 generalize ({ w9 with drawn:=w9.drawn + 1 }:World) = WA at hkA hbA hhA ⊢
 refine Xf (fun W0 hW0=>An4 ((hkA.next hW0).cells) (((hkA.next hW0).below.cell hbg).trans g0) (((hkA.next hW0).below.cell hbg).trans g1) (((hkA.next hW0).below.cell hltd).trans cd)) (An2 @hiG @hiD) ?_
 refine ⟨Nx,fun wB hB=>?_⟩
 have hkB:=hkA.next hB
 refine Xa0 ?_
 refine e6u s cl Bs d r rfl (hs.next hkB.below) (hhA.next (a0b a3m) hB) (hrowd.next hkB.below) hrI (by omega) hsmi (fun v11 wC hC hoC=>?_)
 have hkC:=hkB.next hC
 have hbC:=(hbA.on hB).on hC
 obtain ⟨xad,xc,rfl⟩:=a2m hoC
 have hFl:(a1y s.g.Q Bs d r).length = Bs.length:=by simp [a1y]
 have hFi:=hoC.ints hFI (by omega)
 have hfp:FP (fun j=>W.heap.size ≤ j ∧ j < wC.heap.size) wC (fun w=>Ints w (.slice xad (a1y s.g.Q Bs d r).length xc) (a1y s.g.Q Bs d r)):=hFi.fp.mono (fun j hj=>⟨by have h1:=(a0d hoC (a7m hoC hj.1)).2.1; have h2:=(hbA.on hB).size; omega,hj.2⟩)
 have hhC:=(hhA.next (a0b a3m) hB).next (a0b a3m) hC
 generalize a1y s.g.Q Bs d r = F at *
 rw [← hFl] at hA hhC ⊢
 have hAl:(a3j s.g.Q Bs F N ks).length = F.length:=by rw [a4m (by rw [hA.ld,hA.lb]) (by rw [hA.ln,hA.lb]) (by rw [hA.lk,hA.lb]),hA.lb]
 refine Xa0 ?_
 refine ⟨g3p (a3j s.g.Q Bs F N ks) wC,(fun vs _=>match vs with | [_,_,_,_,.int _ k]=>F.length - k.toNat | _=>0),⟨bR,_,_,_,_,0,rfl,by omega,by rw [List.take_zero]; exact .nil⟩,?_⟩
 intro l102 u102 wD hJD
 refine d2q (dv:=.slice (some ⟨bd,od,none⟩) ds.length dc) hkC (fun W h=>?_) hn hkn hhC hFi hA en ek hQ hbC hBW hfp (by rw [List.length_take]; omega) (by rw [List.length_take]; omega) (by omega) (fun W' vs hf hQ' hvs=>?_) hJD
 ·exact ⟨h.1,h.2.1,trivial⟩
 ·obtain ⟨a0,a1,a2,a3,a4,a5,a6,a7,rfl⟩:=hvs
  rw [a2i hP.1,a2i hP.2] at hQ'
  refine ⟨⟨a6g hb hf (by rintro j (rfl | h) <;> omega),by have:=hf.size; omega,_,_,_,_,_,_,_,_,i + 1,rfl,by omega,hQ'⟩,by show goal.length - (((i + 1:Nat):Int)).toNat < goal.length - ((i:Nat):Int).toNat; omega⟩
theorem e0o {s:Stp} {l:List Int} {n:Int} (h:a0g s l n = true):(l.length:Int) = n:=by
 unfold a0g at h
 simp only [bA,dE] at h
 exact h.1
set_option maxHeartbeats 4000000 in
theorem e0p (s:Stp) (goal:List Cls) (ctx:a5e) (know:List (List Knw)) (ns:L3) (ds:L2) {sv gv kv nv dv:Value} (hs:SetR w s sv) (hg:a4f w gv goal) (hk0:a5v w kv know) (hn:a2j w nv ns) (hd:a0s w dv ds)
  (hN:(a6r goal).length ≤ 1000000) (hctx:ctx.length ≤ 1000000)
  (k:∀ w' pv av,Bw w w' → a0s w' pv (a1m s goal ctx know ns ds).1.1 → a2j w' av (a1m s goal ctx know ns ds).1.2 → K (.tuple #[b5m pv av,.int .i64 (a1m s goal ctx know ns ds).2]) w'):a0a Tryz.prog 19 #[a6b s sv,gv,.string ⟨ctx.toArray⟩,kv,b5m nv dv] K w:=by
 apply e5s
 unfold g0o
 have hs':=hs
 have hg':=hg
 have hd':=hd
 have hn':=hn
 have hk0':=hk0
 obtain ⟨ad,c,rfl⟩:=hs.ints.isSlice
 obtain ⟨gad,gc,rfl⟩:=hg.isSlice
 obtain ⟨dad,dc,rfl⟩:=hd.isSlice
 obtain ⟨nad,nc,rfl⟩:=hn.isSlice
 obtain ⟨kad,kc,rfl⟩:=hk0.isSlice
 have hlg:=hg.len
 refine a0l (cs:=a2r s (.slice ad s.bases.length c)) rfl (.start w) fun b1 W hk hb1 hbb=>?_
 refine a0l (cs:=a5n (.slice nad ns.length nc) (.slice dad ds.length dc)) rfl hk fun b2 W hk hb2 hbb2=>?_
 refine a1d c5r (fun r1 W3 h3 hr1 hR=>?_)
 have hr1w:w.heap.size ≤ r1:=by have:=hb1.size; have:=hb2.size; omega
 have hk:=hk.next h3
 clear hb1 hb2 hbb hbb2 h3 hr1
 have no:∀ (e:Int) (W:World) {T1:TypeId},a1m s goal ctx know ns ds = (([],[]),e) → Bw w W → Holds W r1 34 [.slice none 0 0,.slice none 0 0] →
   oM Tryz.prog (.store 34 (.tmp 0) (.tmp 1)) T1 [ptr r1 0,.agg #[.slice none 0 0,.slice none 0 0]] (fun _ w=>
    ∃ r,(do loadVar 34 (← asAddr (ptr r1 0)):Sem Value).run Tryz.prog w = .ok r w ∧ K (.tuple #[r,.int .i64 e]) w) W:=by
  intro e W T1 he hb hR
  refine a0x c0g (xs:=a5n (.slice none 0 0) (.slice none 0 0)) rfl rfl (a5f _ _ _ _ _ _) hR rfl (fun W' hg hh=>c7n (K:=fun r W=>K (.tuple #[r,.int .i64 e]) W) hh ?_)
  have:=k W' (.slice none 0 0) (.slice none 0 0) (a0m hb hg hr1w) (by rw [he]; exact SRow.nil) (by rw [he]; exact SRow.nil)
  rwa [he] at this
 refine Xa hk.cells ?_
 refine a8t s (hs'.next hk.below) (hg'.next (a0b a0i) hk.below) (fun w2 h2=>?_)
 have hk:=hk.next h2
 have hR:=hR.next h2
 cases hgm:a1p s goal with
 | false=>
  refine Xa0 ?_
  exact no 1 _ (by simp [a1m,hgm]) hk.below hR
 | true=>
 refine Xa hk.cells ?_
 refine d0o s (hs'.next hk.below) (hg'.next (a0b a0i) hk.below) (hk0'.next (a0b a0w) hk.below) (fun w3 h3=>?_)
 have hk:=hk.next h3
 have hR:=hR.next h3
 cases hft:a3a s goal know with
 | false=>
  refine Xa0 ?_
  exact no 1 _ (by simp [a1m,hft]) hk.below hR
 | true=>
 refine Xa hk.cells ?_
 refine c1w s (hs'.next hk.below) (hg'.next (a0b a0i) hk.below) (hd'.next (a0b a0k) hk.below) (hn'.next (a0b a0f) hk.below) (fun w4 h4=>?_)
 have hk:=hk.next h4
 have hR:=hR.next h4
 cases hsm:a0u s goal ds ns with
 | false=>
  refine Xa0 ?_
  exact no 1 _ (by simp [a1m,hsm]) hk.below hR
 | true=>
 have hsh:=a2o.1 hsm
 refine Xa hk.cells ?_
 refine b1i s (hs'.next hk.below) (hg'.next (a0b a0i) hk.below) (hk0'.next (a0b a0w) hk.below) hgm hft (fun w5 h5=>?_)
 have hk:=hk.next h5
 have hR:=hR.next h5
 cases hch:(a0h s goal know).2 with
 | false=>
  refine Xa0 ?_
  exact no 13 _ (by simp [a1m,hgm,hft,hsm,hch]) hk.below hR
 | true=>
 refine Xa hk.cells ?_
 refine c8m s (hs'.next hk.below) (hg'.next (a0b a0i) hk.below) (hk0'.next (a0b a0w) hk.below) (hd'.next (a0b a0k) hk.below) hgm hft hsh.1.1 (fun i c d a e=>?_) (fun w6 h6=>?_)
 ·have hi:=(gS a).1
  have h3:=(hsh.2 i c d _ a e (gE (show i < ns.length by have:=hsh.1.2; omega))).1.1
  exact_mod_cast (e0o h3)
 have hk:=hk.next h6
 have hR:=hR.next h6
 cases hz:a9g (a0h s goal know).1 ds with
 | false=>
  refine Xa0 ?_
  exact no 3 _ (by simp [a1m,hgm,hft,hsm,hch,hz]) hk.below hR
 | true=>
 have hpr:a1m s goal ctx know ns ds = (a1r s (a8s s goal ctx ds ns) (a0h s goal know).1 ds ns know,0):=by simp [a1m,hgm,hft,hsm,hch,hz]
 rw [hpr] at k
 clear no hpr
 have hcl:=b3j (s:=s) goal ds ns (a5g hgm).2
 have h300:=(a5g hgm).1
 have hrI:=b6f s goal ctx ds ns
 have hrd:a8s s goal ctx ds ns = a3t (a2t (b4u goal) ++ a2t ctx ++ a9l (a0t s goal ds ns)) s.g.Q:=rfl
 refine Xa0 ?_
 unfold c1q
 simp only [List.getD_cons_succ,List.getD_cons_zero]
 have hk9:=hk.drew
 have hR9:Holds { w6 with drawn:=w6.drawn + 1 } r1 34 [.slice none 0 0,.slice none 0 0]:=hR.next .drawn
 refine ⟨Nx { w6 with drawn:=w6.drawn + 1 },bR,by trivial,?_⟩
 generalize ({ w6 with drawn:=w6.drawn + 1 }:World) = W9 at hk9 hR9 ⊢
 refine Xc (fun W0 hW0=>(hk9.next hW0).cells) ?_
 refine ⟨Nx,?_⟩
 refine a3i (fun v w'=>Ints w' v (a0t s goal ds ns)) (fun v w w1 hS h=>h.next hS) ?_ ?_
 ·intro w6 h6
  exact a9v s goal ds ns (hs'.next (hk9.next h6).below) (hg'.next (a0b a0i) (hk9.next h6).below) (hd'.next (a0b a0k) (hk9.next h6).below) (hn'.next (a0b a0f) (hk9.next h6).below) hgm hsm (fun v w7 h7 hi7=>⟨h6.on h7,h7,hi7⟩)
 rintro w9 h9 v9 hi9
 have hk:=hk9.next h9
 have hR:=hR9.next h9
 refine d0v s goal ctx _ (hs'.next hk.below) (hg'.next (a0b a0i) hk.below) hi9 hN hctx (by omega) (fun w10 h10=>?_)
 have hk:=hk.next h10
 have hR:=hR.next h10
 rw [← hrd]
 generalize a8s s goal ctx ds ns = r at *
 refine Xb4 hk.cells ?_
 refine a1d c5r (fun b16 w7 h7 hb16 hh7=>?_)
 refine a0x c0g (xs:=a5n (.slice none 0 0) (.slice none 0 0)) rfl rfl (a5f none none 0 0 0 0) hh7 rfl (fun w8 hg8 hh8=>?_)
 have h48:Bw w10 w8:=a0m h7 hg8 hb16
 refine ⟨g4t (a1r s r (a0h s goal know).1 ds ns know) w8.heap.size b16 w10 goal.length,g1e goal.length,⟨h48,rL,_,_,_,_,_,_,_,_,0,rfl,by omega,.start hh8.lt (by simpa using hh8)⟩,?_⟩
 intro l57 u57 W9 hJ
 exact c8q s hs' hg' hk hR hr1w hn' hd' hk0' hgm hft hsm hrI hb16 hh8.lt hJ k
end
end Go.Proofs
