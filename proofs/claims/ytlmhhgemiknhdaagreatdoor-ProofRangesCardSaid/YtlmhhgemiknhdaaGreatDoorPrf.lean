/- Parts of the proof of the seat's statements (CtF, CtG, CtH, CtI, CtJ, CtK, CtL, CtM, CtN, CtO, CtP, HFl, PrPts, HL9, GrP, HL8, GrV, CtQ, CtR, CtS, CtT, CtU, CtV, HPv, CtW, CtX, CtY, CtZ, PvA, PvB, PvC, PvD, PvE, RnB, RnC, RnD, RnE): lemmas about the given translation and plain laws. No condition of their own. -/
import Derived.Test.YtlmhhgemiknhdaaGreatDoorPre
import Derived.Test.YtlmhhgemiknhdaaGreatDoorProg
set_option linter.all false
set_option maxRecDepth 100000
namespace Go.Proofs
open Go Go.Sh Go.RowKit FdSpec TkSpec CodeSpec PrSpec
section
variable {K:VK} {w w' w0 W W':World} {L:List (Addr × Value)} {g n B:Nat} {row:Option Nat}
theorem keeps_by {b:Option Nat} (hg:W.grownBy W' b) (hb:∀ i,b = some i → ∃ cur T,W.heap[i]? = some (.cells cur T (0,0))):KeepsFrom B W W':=⟨hg.size,fun k o _ hk ho=>by
 rw [hg.block k (Array.getElem?_eq_some_iff.1 hk).1 (fun e=>by
  obtain ⟨cur,T,h1⟩:=hb k (by first | exact e | exact e.symm)
  rw [h1] at hk; cases hk; cases ho)]
 exact hk⟩
theorem knm_by {b:Option Nat} (h:KnM w0 L g n W) (hg:W.grownBy W' b) (hb:∀ i,b = some i → B ≤ i) (h1:g < B) (h2:∀ p ∈ L,p.1.block < B) (h3:w0.heap.size ≤ B):KnM w0 L g n W':=by
 have hf:=Fr.of_by' hg
 refine ⟨⟨h.below.grown hg h.below.size (fun k hk=>by have:=hb k (by first | exact hk | exact hk.symm); omega),cells_fr h.cells hf (fun p hp=>⟨cells_lt h.cells p hp,fun e=>by have:=hb _ e; have:=h2 p hp; omega⟩)⟩,?_,h.base,h.off⟩
 obtain ⟨cur,T,h4,h5⟩:=h.mine
 exact ⟨cur,T,by rw [hf.block g (Array.getElem?_eq_some_iff.1 h4).1 (fun e=>by have:=hb _ e; omega)]; exact h4,h5⟩
structure VarI (w0:World) (L:List (Addr × Value)) (cb B:Nat) (l:List Int) (W:World):Prop where
 knm:KnM w0 L cb 1 W
 ex:∃ ad c,W.cell? ⟨cb,0,none⟩ = some (.slice ad l.length c) ∧ OwnI W B (.slice ad l.length c) l
 b1:cb < B
 b2:∀ p ∈ L,p.1.block < B
 b3:w0.heap.size ≤ B
 b4:B ≤ W.heap.size
variable {cb:Nat} {l m:List Int}
theorem VarI.next (h:VarI w0 L cb B l W) (hb:Bw W W'):VarI w0 L cb B l W':=by
 obtain ⟨ad,c,h1,h2⟩:=h.ex
 exact ⟨h.knm.next hb,⟨ad,c,(hb.cell (mine_lt h.knm.mine)).trans h1,h2.keep hb⟩,h.b1,h.b2,h.b3,Nat.le_trans h.b4 hb.size⟩
theorem VarI.own {C:Nat} (h:VarI w0 L cb B l W) (hC:w0.heap.size ≤ C) (hf:Fr (OwnS C W) W W'):VarI w0 L cb B l W':=by
 obtain ⟨ad,c,h1,h2⟩:=h.ex
 refine ⟨own_knm h.knm hC hf,⟨ad,c,own_cell h1 hf,owns_keep h2 (fun i hi=>?_)⟩,h.b1,h.b2,h.b3,Nat.le_trans h.b4 hf.size⟩
 obtain ⟨h3,_,cur,h4⟩:=owns_own h2 hi
 exact hf.block i h3 (own_not h4 rfl)
theorem al_ints (w:World):(Instr.alloc 24 true (.tuple #[])).run Tryz.prog w = .ok (.pointer (some ⟨w.heap.size,0,none⟩)) (w.alloc (.cells [.slice none 0 0].toArray 24)):=by kernel_rfl
theorem VarI.add {C:Nat} {ad:Option Addr} {c:Nat} {xv:Value} {T T2:TypeId} {Q:WK} (h:VarI w0 L cb B l W) (ho:OwnI W B (.slice ad l.length c) l) (hx:Ints W xv m) (hl:l.length + m.length < 1099511627776)
  (k:∀ W2,VarI w0 L cb B (l ++ m) W2 → KeepsFrom C W W2 → Below w0.heap.size W W2 → Q W2) :
  oM Tryz.prog (.call { callee:=.builtin .append,args:=#[.tmp 0,.tmp 1],argTypes:=#[24,24] }) T [.slice ad l.length c,xv] (fun v' w=>oM Tryz.prog (.store 24 (.tmp 0) (.tmp 1)) T2 [.pointer (some ⟨cb,0,none⟩),v'] (fun _ w=>Q w) w) W:=by
 refine appendNg ho h.b4 hx hl (fun v' w1 ho1 hg1 hv1=>?_)
 obtain ⟨ad',c',rfl⟩:=owns_len ho1
 have hbB:∀ i,(Value.slice ad l.length c).ownBlock = some i → B ≤ i:=fun i e=>(owns_own ho e).2.1
 have hk1:=knm_by h.knm hg1 hbB h.b1 h.b2 h.b3
 obtain ⟨W2,e,hg2,hm2,hc2⟩:=store_run (P:=Tryz.prog) (w:=w1) (W:=w1) (T:=24) (x:=.slice ad' (l ++ m).length c') (xs:=[.slice ad' (l ++ m).length c']) sz_ints rfl rfl (by intro u hu; rw [List.mem_singleton] at hu; subst hu; rfl) hk1.mine
 rw [oM_store,e]
 have hk2:KnM w0 L cb 1 W2:=⟨hk1.kn.wrote hg2 hk1.base hk1.off,hm2,hk1.base,hk1.off⟩
 have hB1:Below w0.heap.size W w1:=(Below.refl w0.heap.size W).grown hg1 h.knm.below.size (fun k hk=>by have:=hbB k (by first | exact hk | exact hk.symm); have:=h.b3; omega)
 refine k W2 ⟨hk2,⟨ad',c',hc2.1,owns_keep ho1 (fun i hi=>hg2.block i (owns_own ho1 hi).1 (fun e=>by cases e; have:=(owns_own ho1 hi).2.1; have:=h.b1; omega))⟩,h.b1,h.b2,h.b3,Nat.le_trans h.b4 (Nat.le_trans hg1.size hg2.size)⟩ ?_ ?_
 ·exact (keeps_by hg1 (fun i e=>by obtain ⟨_,_,cur,h4⟩:=owns_own ho e; exact ⟨cur,_,h4⟩)).trans (keeps_mine hg2 hk1.mine)
 ·exact hB1.grown hg2 (Nat.le_trans h.knm.below.size hB1.size) (fun k hk=>by have:=hk1.base; cases hk; omega)
end
end Go.Proofs
namespace Go.Proofs
open Go Go.Sh Go.RowKit FdSpec TkSpec CodeSpec PrSpec
section
variable {K:VK} {w w' w0 W W':World} {L:List (Addr × Value)} {g n B:Nat} {row:Option Nat}
theorem alloc_varI {T':TypeId} (hk:Kn w0 L w) (k:∀ cb W,VarI w0 L cb W.heap.size [] W → Bw w W → K (.pointer (some ⟨cb,0,none⟩)) W):oM Tryz.prog (.alloc 24) T' [] K w:=by
 refine arr_alloc al_ints (fun g W hb hg hh=>k g W ⟨⟨hk.next hb,⟨_,_,hh,rfl⟩,Nat.le_trans hk.below.size hg,fun p hp=>?_⟩,⟨none,0,hh.cell 0 (by simp),own_none⟩,hh.lt,fun p hp=>?_,?_,Nat.le_refl _⟩ hb)
 ·have:=cells_lt hk.cells p hp; omega
 ·have:=cells_lt hk.cells p hp; have:=hb.size; omega
 ·exact Nat.le_trans hk.below.size hb.size
theorem cat_str {t t' T:TypeId} (a b:Bytes) (h:a.length + b.length ≤ 1099511627776) (k:K (.string ⟨(a ++ b).toArray⟩) w):oM Tryz.prog (.binOp .add t (.tmp 0) (.tmp 1) t') T [.string ⟨a.toArray⟩,.string ⟨b.toArray⟩] K w:=by
 rw [oM_adds]
 refine ⟨?_,?_⟩
 ·have e1:(ByteArray.mk a.toArray).size = a.length:=by simp [ByteArray.size]
  have e2:(ByteArray.mk b.toArray).size = b.length:=by simp [ByteArray.size]
  rw [e1,e2]
  omega
 ·have:(Value.string (ByteArray.mk a.toArray ++ ByteArray.mk b.toArray)) = .string ⟨(a ++ b).toArray⟩:=by
   refine congrArg Value.string ?_
   apply ByteArray.ext
   simp
  rw [this]
  exact k
theorem places_le (m:Nat):∀ (goal:List Cls) (o:Nat),(∀ c ∈ goal,c.claims.length ≤ m) → (places o goal).length ≤ m * goal.length
 | [],_,_=>by simp [places]
 | c :: l,o,h=>by
  have ih:=places_le m l (o + 1) (fun c' h'=>h c' (by simp [h']))
  have h1:=h c (by simp)
  rw [places_cons,List.length_append,List.length_cons]
  have e:(rowP o 0 c.claims).length = c.claims.length:=by simp [rowP]
  rw [e,Nat.mul_add,Nat.mul_one]
  omega
theorem goal_places {s:Stp} {goal:List Cls} (h:goalM s goal = true):(places 0 goal).length ≤ 4800:=by
 unfold goalM at h
 simp only [Bool.and_eq_true,decide_eq_true_eq] at h
 have:=places_le 16 goal 0 (fun c hc=>by
  have:=List.all_eq_true.1 h.1.2 c hc
  unfold clsFine at this
  simp only [Bool.and_eq_true,decide_eq_true_eq] at this
  omega)
 omega
theorem goal_claim {s:Stp} {goal:List Cls} (h:goalM s goal = true) {i k:Nat} {cl:Cls} {c:Clm} (hi:goal[i]? = some cl) (hk:cl.claims[k]? = some c):claimM s c = true:=by
 unfold goalM at h
 simp only [Bool.and_eq_true,decide_eq_true_eq] at h
 exact List.all_eq_true.1 (List.all_eq_true.1 h.2 cl (List.mem_of_getElem? hi)) c (List.mem_of_getElem? hk)
theorem claim_eqs {s:Stp} {c:Clm} (h:claimM s c = true):c.eqs.length ≤ 60:=by
 unfold claimM at h
 simp only [Bool.and_eq_true,decide_eq_true_eq] at h
 omega
def comsX {goal:List Cls} {w:World} (s:Stp) (ds:List (List Int)) (ns:List (List (List Int))) (xs:List (Itm goal w)):List Int:=(xs.map Itm.at).flatMap (comAt s ds ns)
theorem comsX_snoc {goal:List Cls} {w:World} {s:Stp} {ds:List (List Int)} {ns:List (List (List Int))} (xs:List (Itm goal w)) (x:Itm goal w):comsX s ds ns (xs ++ [x]) = comsX s ds ns xs ++ comAt s ds ns x.at:=by
 simp [comsX]
theorem comAt_len {s:Stp} {goal:List Cls} {w:World} (h:goalM s goal = true) (ds:List (List Int)) (ns:List (List (List Int))) (x:Itm goal w):(comAt s ds ns x.at).length ≤ 60:=by
 have:=claim_eqs (goal_claim h x.hi x.hk)
 simpa [comAt,commitsM,Itm.at] using this
theorem comsX_len {s:Stp} {goal:List Cls} {w:World} (h:goalM s goal = true) (ds:List (List Int)) (ns:List (List (List Int))):∀ xs:List (Itm goal w),(comsX s ds ns xs).length ≤ 60 * xs.length
 | []=>by simp [comsX]
 | x :: xs=>by
  have h1:=comAt_len h ds ns x
  have h2:=comsX_len h ds ns xs
  have e:(comsX s ds ns (x :: xs)).length = (comAt s ds ns x.at).length + (comsX s ds ns xs).length:=by simp [comsX]
  rw [e,List.length_cons]
  omega
theorem comsX_I64 {s:Stp} {goal:List Cls} {w:World} (ds:List (List Int)) (ns:List (List (List Int))) (xs:List (Itm goal w)):∀ y ∈ comsX s ds ns xs,I64 y:=by
 intro y hy
 unfold comsX at hy
 obtain ⟨p,_,hp⟩:=List.mem_flatMap.1 hy
 unfold comAt commitsM at hp
 obtain ⟨e,_,rfl⟩:=List.mem_map.1 hp
 exact overG_I64 _ _ _
end
end Go.Proofs
namespace Go.Proofs
open Go Go.Sh Go.RowKit FdSpec TkSpec CodeSpec PrSpec
section
variable {K:VK} {w w' w0 W W':World} {L:List (Addr × Value)} {g n B:Nat} {row:Option Nat}
theorem root_ok (s:Stp) (goal:List Cls) (ctx:Bytes) (ds:List (List Int)) (ns:List (List (List Int))) {sv gv dv nv:Value} (hs:SetR w s sv) (hg:GoalR w gv goal) (hd:ListsR w dv ds) (hn:NumsR w nv ns) (hl:Cd.Laid w)
  (hgm:goalM s goal = true) (hsm:shapedM s goal ds ns = true) (hN:(goalL goal).length ≤ 1000000) (hctx:ctx.length ≤ 1000000)
  (k:∀ w',Bw w w' → K (.int .i64 (rootM s goal ctx ds ns)) w'):callM Tryz.prog 94 #[stpV s sv,gv,.string ⟨ctx.toArray⟩,dv,nv] K w:=by
 apply sh_94_ok
 unfold sh_94
 have hs':=hs
 have hg':=hg
 obtain ⟨ad,c,rfl⟩:=hs.ints.isSlice
 obtain ⟨gad,gc,rfl⟩:=hg.isSlice
 obtain ⟨dad,dc,rfl⟩:=hd.isSlice
 obtain ⟨nad,nc,rfl⟩:=hn.isSlice
 have hsm':=hsm
 unfold shapedM at hsm'
 simp only [Bool.and_eq_true,decide_eq_true_eq] at hsm'
 obtain ⟨⟨e1,e2⟩,hsl⟩:=hsm'
 have hpl:=goal_places hgm
 refine box_kn (cs:=stpC s (.slice ad s.bases.length c)) rfl (.start w) fun b1 W hk hb1 hbb=>?_
 refine box_kn (cs:=[.slice dad ds.length dc]) rfl hk fun b2 W hk hb2 hbb2=>?_
 refine box_kn (cs:=[.slice nad ns.length nc]) rfl hk fun b3 W hk hb3 hbb3=>?_
 refine alloc_varI hk fun cb W hv hb4=>?_
 clear hb1 hb2 hb3 hk hb4
 refine claims_ok (hg'.next (atOf_stay cls_vstay) hv.knm.below) (fun gb W2 hb2 hcb hlt hcell=>?_)
 generalize hB:W.heap.size = B at hv
 have hv:=hv.next hb2
 have hWW:=hv.knm.below.size
 refine range_claims (w:=w) hg' hv.knm.below hlt hcell
  (fun pre W=>VarI w (cellsOf (cellsOf (cellsOf [] b1 0 (stpC s (.slice ad s.bases.length c))) b2 0 [.slice dad ds.length dc]) b3 0 [.slice nad ns.length nc]) cb B (comsX s ds ns pre) W)
  (fun pre W=>False) PcM
  (fun pre W W' h hf=>h.own hWW hf) (fun pre W W' h hf=>h)
  (fun x l W W' h hf=>by obtain ⟨p,b,e,h⟩:=h; exact ⟨p,b,e,own_cells h hf⟩)
  hv ?_ ?_ ?_ ?_
 ·intro pre x W hv
  obtain ⟨xad,xc,hxv⟩:=x.hv.eqs.isSlice
  dsimp only
  rw [enc0,enc1,hxv]
  refine local_plc _ _ (.start W) (fun p W1 hk1 hb1 hgp=>?_)
  refine local_clm _ _ _ _ hk1 (fun b W2 hk2 hb2 hgb=>?_)
  have hb:=hk2.below
  exact ⟨keeps_below hb,hb.mono hv.knm.below.size,hv.next hb,p,b,rfl,by rw [hxv]; exact hk2.cells⟩
 ·rintro pre x l u W hv ⟨p,b,rfl,hm⟩ hlen
  obtain ⟨xad,xc,hxv⟩:=x.hv.eqs.isSlice
  rw [hxv] at hm
  have hxr:=x.hv
  rw [hxv] at hxr
  have hxc:=goal_claim hgm x.hi x.hk
  have hi:=(gS x.hi).1
  have hki:=(gS x.hk).1
  have en:ns[x.i]? = some ns[x.i]:=gE (by omega)
  have ed:ds[x.i]? = some ds[x.i]:=gE (by omega)
  obtain ⟨hsh,hshc⟩:=shapedL_at hsl x.hi ed en
  simp only [shapeOf,Bool.and_eq_true,decide_eq_true_eq] at hsh
  obtain ⟨bn,on,rfl,hltn,csn,_,hcelln,vn,rfl,hrown⟩:=hn.at (i:=x.i) (by omega)
  obtain ⟨bd,od,rfl,hltd,csd,_,hcelld,vd,rfl,hrowd⟩:=hd.at (i:=x.i) (by omega)
  have cn:=hcelln 0 _ rfl
  have cd:=hcelld 0 _ rfl
  simp only [Nat.add_zero,Nat.mul_one] at cn cd
  have en':∃ n,ns[x.i] = n:=⟨_,rfl⟩
  obtain ⟨n,en'⟩:=en'
  have ed':∃ d,ds[x.i] = d:=⟨_,rfl⟩
  obtain ⟨d,ed'⟩:=ed'
  rw [en'] at hrown en hsh hshc
  rw [ed'] at hrowd ed hsh
  have hdl:d.length = x.cl.claims.length:=by
   have:=hsh.1
   unfold exponentsM at this
   simp only [Bool.and_eq_true,decide_eq_true_eq] at this
   omega
  have hkn:x.k < n.length:=by omega
  have hkd:x.k < d.length:=by omega
  obtain ⟨had,hc',rfl⟩:=hrown.isSlice
  obtain ⟨had2,hc2,rfl⟩:=hrowd.isSlice
  have el:n[x.k]? = some n[x.k]:=gE hkn
  have hex:=shapedC_at hshc x.hk el
  have eat:comAt s ds ns x.at = commitsM s x.c d[x.k] n[x.k]:=by
   unfold comAt dareAt numsAt Itm.at
   dsimp only
   rw [List.getD_eq_getElem?_getD,List.getD_eq_getElem?_getD,List.getD_eq_getElem?_getD,List.getD_eq_getElem?_getD,ed,en]
   simp [gE hkd,el]
  obtain ⟨bl,ol,rfl,hltl,csl,_,hcelll,vl,rfl,hrowl⟩:=hrown.at (i:=x.k) hkn
  obtain ⟨b5,o5,rfl,hlt5,hc5,hr5,_⟩:=hrowd.at (i:=x.k) hkd
  have cl:=hcelll 0 _ rfl
  simp only [Nat.add_zero,Nat.mul_one] at cl
  have hi1:(x.i:Int) < ns.length:=by omega
  have hi2:(x.k:Int) < n.length:=by omega
  have hi3:(x.i:Int) < ds.length:=by omega
  have hi4:(x.k:Int) < d.length:=by omega
  generalize hlx:n[x.k] = lx at *
  generalize hdx:d[x.k] = dx at *
  obtain ⟨vad,vc,hvc,hvo⟩:=hv.ex
  have hCl:=comsX_len hgm ds ns pre
  have hAl:=comAt_len hgm ds ns x
  have hfit:=claim_fit hxc
  have hlxl:(lx.length:Int) = x.c.vars:=by
   unfold exponentsM at hex
   simp only [Bool.and_eq_true,decide_eq_true_eq] at hex
   exact hex.1
  dsimp only
  have hb9:Below W.heap.size W { W with drawn:=W.drawn + 1 }:=.drawn
  have hv9:=hv.next hb9
  have hvc:=(hb9.cell (mine_lt hv.knm.mine)).trans hvc
  have hvo:=hvo.keep hb9
  have hm:=cellsAre_keep hm (fun a ha=>hb9.cell ha)
  have hcw:=mine_lt hv9.knm.mine
  have hk9:=hv9.knm
  refine ⟨Nx { W with drawn:=W.drawn + 1 },Below.refl _ _,rfl,?_⟩
  generalize ({ W with drawn:=W.drawn + 1 }:World) = W9 at hv9 hk9 hb9 hm hvc hvo hcw ⊢
  repeat (any_goals ((with_reducible refine idOH ?_); (with_reducible refine oH_of ⟨_,rfl⟩ (fun W0 hW0=>by (refine oG (fun V Z=>?_)); simp [go_sem,(hk9.next hW0).cells,cellsAre_keep hm (fun a ha=>hW0.cell ha),((hk9.next hW0).below.cell hltn).trans cn,((hk9.next hW0).below.cell hltd).trans cd,((hk9.next hW0).below.cell hltl).trans cl,hc5 _ (hk9.next hW0).below,(hW0.cell hcw).trans hvc,hi1,hi2,hi3,hi4]; (first | exact Z _ _ ⟨rfl,rfl⟩ | exact ⟨by omega,Z _ _ ⟨rfl,rfl⟩⟩)) ?_)))
  refine ⟨Nx,?_⟩
  refine monoR (fun v w'=>Ints w' v (comAt s ds ns x.at)) (fun v w w1 hS h=>h.next hS) ?_ ?_
  ·intro w5 h5
   rw [eat]
   exact commitments_ok s x.c dx lx (hs'.next (hk9.next h5).below) (hxr.next (hk9.next h5).below) hr5 (hrowl.next (hk9.next h5).below) (by have:=claim_eqs hxc; omega) (fun e he=>⟨(hfit e he).1,fun t ht=>by have:=(hfit e he).2 t ht; omega⟩)
    (fun v w6 h6 ho6=>⟨h5.on h6,h6,ho6.ints (fun y hy=>by unfold commitsM at hy; obtain ⟨e,_,rfl⟩:=List.mem_map.1 hy; exact overG_I64 _ _ _) (by rw [eat] at hAl; omega)⟩)
  rintro w7 h7 v7 hi7
  refine VarI.add (C:=W2.heap.size) (hv9.next h7) (hvo.keep h7) hi7 (by omega) (fun W8 hv8 hkf hbf=>?_)
  have h97:=hb9.on h7
  refine ⟨(keeps_below h97).trans hkf,(h97.mono hv.knm.below.size).trans hbf,?_⟩
  rw [comsX_snoc]
  exact hv8
 ·rintro D xs W hD hxs hv hh
  obtain ⟨vad,vc,hvc,hvo⟩:=hv.ex
  have hCl:=comsX_len hgm ds ns xs
  have hxl:xs.length = (places 0 goal).length:=by rw [← hxs,List.length_map]
  have hvi:=hvo.ints (comsX_I64 ds ns xs) (by omega)
  have hb9:Below W.heap.size W { W with drawn:=W.drawn + 1 }:=.drawn
  have hv9:=hv.next hb9
  have hvc:=(hb9.cell (mine_lt hv.knm.mine)).trans hvc
  have hvi:=hvi.next hb9
  have hcw:=mine_lt hv9.knm.mine
  have hk9:=hv9.knm
  have hl9:=hl.below hk9.below hl.size
  refine ⟨Nx { W with drawn:=W.drawn + 1 },Below.refl _ _,rfl,?_⟩
  have hh:({ W with drawn:=W.drawn + 1 }:World).heap[D]? = some (.deferred (some [])):=hh
  generalize ({ W with drawn:=W.drawn + 1 }:World) = W9 at hv9 hk9 hvc hvi hcw hl9 hh ⊢
  clear hb9
  have hCI:∀ y ∈ comsX s ds ns xs,InR y:=fun y hy=>(InR_iff y).2 (comsX_I64 ds ns xs y hy)
  have hCe:=encNums_le hCI (by omega)
  have hTe:=encNums_le (goal_in hg') (by omega)
  have hTe':(textM goal).length ≤ 22 * (goalL goal).length + 30:=hTe
  have hT1:=Cd.encText_len (textM goal) (by omega)
  have hT2:=Cd.encText_len ctx (by omega)
  have hcom:comsX s ds ns xs = commitsL s goal ds ns:=by
   unfold comsX
   rw [hxs]
   refine commitsL_eq goal ds ns e1 e2 (fun i c d n h1 h2 h3=>?_)
   have:=(shapedL_at hsl h1 h2 h3).1
   simp only [shapeOf,Bool.and_eq_true,decide_eq_true_eq] at this
   refine ⟨?_,this.2⟩
   have:=this.1
   unfold exponentsM at this
   simp only [Bool.and_eq_true,decide_eq_true_eq] at this
   omega
  generalize comsX s ds ns xs = cm at *
  repeat (any_goals (first
  | (with_reducible refine pX ?_)
  | ((with_reducible refine idOH ?_); (with_reducible refine oH_of ⟨_,rfl⟩ (fun W0 hW0=>by (refine oG (fun V Z=>?_)); simp [go_sem,(hk9.next hW0).cells,(hW0.cell hcw).trans hvc]; (first | exact Z _ _ ⟨rfl,rfl⟩ | exact ⟨by omega,Z _ _ ⟨rfl,rfl⟩⟩)) ?_))))
  refine ⟨Nx,?_⟩
  apply monoE
  ·intro w5 h5
   exact Text_ok goal (hg'.next (atOf_stay cls_vstay) (hk9.next h5).below) hN (hl9.below h5 hl9.size) (fun w6 h6=>⟨h5.on h6,h6,rfl⟩)
  apply monoE
  ·rintro w5 h5 _ rfl
   exact Cd.pText_ok _ (by omega) (hl9.below h5 hl9.size) (fun w6 h6=>⟨h5.on h6,h6,rfl⟩)
  apply monoE
  ·intro w5 h5
   exact Cd.pText_ok ctx (by omega) (hl9.below h5 hl9.size) (fun w6 h6=>⟨h5.on h6,h6,rfl⟩)
  apply monoE
  ·rintro w5 h5 _ rfl _ rfl
   exact cat_str _ _ (by omega) ⟨h5,Below.refl _ _,rfl⟩
  apply monoE
  ·intro w5 h5
   exact Cd.pNums_ok cm _ (hl9.below h5 hl9.size) (Ints.rowOf (hvi.next h5)) hCI (by omega) (fun w6 h6=>⟨h5.on h6,h6,rfl⟩)
  apply monoE
  ·rintro w5 h5 _ rfl _ rfl
   exact cat_str _ _ (by simp only [List.length_append]; omega) ⟨h5,Below.refl _ _,rfl⟩
  (intro w9 h9; repeat (intro v9 e9; try (obtain rfl:=e9)))
  refine Number_ok _ _ (by simp only [List.length_append]; omega) (fun w10 h10=>?_)
  have hb:=h9.on h10
  have hh2:w10.heap[D]? = some (.deferred (some [])):=by rw [hb.block D (Array.getElem?_eq_some_iff.1 hh).1]; exact hh
  have hf:=put_fr (B:=W2.heap.size) (.deferred none) hD hh2 rfl
  refine ⟨hh2,?_⟩
  rw [hcom]
  exact k _ (own_below ((hk9.next hb).below) hWW hf)
 ·rintro D pre W hD hpre hf
  exact hf.elim
end
end Go.Proofs
namespace Go.Proofs
open Go Go.Sh Go.RowKit FdSpec TkSpec CodeSpec PrSpec
section
variable {K:VK} {w w' w0 W W':World} {L:List (Addr × Value)} {g n B:Nat} {row:Option Nat}
theorem al_knw (w:World):(Instr.alloc 113 true (.tuple #[])).run Tryz.prog w = .ok (.pointer (some ⟨w.heap.size,0,none⟩)) (w.alloc (.cells [.bool false,.slice none 0 0].toArray 113)):=by kernel_rfl
def FtJ (goal:List Cls) (ks:List (List Knw)) (w0:World) (L:List (Addr × Value)) (rb:Nat) (vs:List Value) (W:World):Prop:=KnM w0 L rb 1 W ∧ ∃ (u0:Value) (i:Nat),vs = [u0,.int .i64 (i:Int)] ∧ i ≤ goal.length ∧
 ∀ (j:Nat) (c:Cls) (n:List Knw),j < i → goal[j]? = some c → ks[j]? = some n → n.length = c.claims.length
theorem fits_ok (s:Stp) {sv gv kv:Value} {goal:List Cls} {ks:List (List Knw)} (hs:SetR w s sv) (hg:GoalR w gv goal) (hk0:KnowR w kv ks)
  (k:∀ w',Bw w w' → K (.bool (fitsM s goal ks)) w'):callM Tryz.prog 90 #[stpV s sv,gv,kv] K w:=by
 apply sh_90_ok
 unfold sh_90
 have hs':=hs
 have hg':=hg
 obtain ⟨ad,c,rfl⟩:=hs.ints.isSlice
 obtain ⟨gad,gc,rfl⟩:=hg.isSlice
 obtain ⟨kad,kc,rfl⟩:=hk0.isSlice
 have hlg:=hg.len
 have hlk:=hk0.len
 refine box_kn (cs:=stpC s (.slice ad s.bases.length c)) rfl (.start w) fun b1 W hk hb1 hbb=>?_
 refine box_kn (cs:=[.slice kad ks.length kc]) rfl hk fun b2 W hk hb2 hbb2=>?_
 refine alloc_mine (zs:=[.bool false]) al_bool rfl hk fun rb W hk hb3 hgb=>?_
 clear hb1 hb2 hb3
 have no:fitsM s goal ks = false → ∀ {L:List (Addr × Value)} {W:World} {T:TypeId},KnM w L rb 1 W → oM Tryz.prog (.store 4 (.tmp 0) (.tmp 1)) T [.pointer (some ⟨rb,0,none⟩),.bool false] (fun _ w=>∃ r,(do loadVar 4 (← asAddr (.pointer (some ⟨rb,0,none⟩))):Sem Value).run Tryz.prog w = .ok r w ∧ K r w) W:=by
  intro hf L W T hk
  refine store_bool hk fun W hk hgr hc=>ret_bool hc ?_
  have k:=k _ hk.below
  rwa [hf] at k
 by_cases e1:¬ ks.length = goal.length
 ·have e1':¬ (ks.length:Int) = goal.length:=by omega
  repeat (any_goals (first
  | (with_reducible refine yL ?_)
  | ((with_reducible refine oG fun V Z=>?_); simp [go_sem,hk.cells,e1']; apply Z; clear Z V)))
  exact no (by simp [fitsM,e1]) hk
 have e1:ks.length = goal.length:=by omega
 have e1':(ks.length:Int) = goal.length:=by omega
 repeat (any_goals (first
 | (with_reducible refine yM ?_)
 | ((with_reducible refine oG fun V Z=>?_); simp [go_sem,hk.cells,e1']; apply Z; clear Z V)))
 refine ⟨FtJ goal ks w _ rb,grMu goal.length,⟨hk,_,0,rfl,by omega,fun j c n hj=>by omega⟩,?_⟩
 clear hk
 rintro _ _ W1 ⟨hk,u0,i,rfl,hi,hall⟩
 by_cases hin:i = goal.length
 ·subst hin
  have hall':∀ (j:Nat) (c:Cls) (n:List Knw),goal[j]? = some c → ks[j]? = some n → n.length = c.claims.length:=fun j c n h1 h3=>hall j c n (gS h1).1 h1 h3
  repeat (any_goals (first
  | (with_reducible refine yM ?_)
  | ((with_reducible refine oG fun V Z=>?_); simp [go_sem]; apply Z; clear Z V)))
  refine claims_ok (hg'.next (atOf_stay cls_vstay) hk.below) (fun cb W2 hb2 hcb hlt hcell=>?_)
  have hk:=hk.next hb2
  refine range_claims (w:=w) hg' hk.below hlt hcell
   (fun pre W=>KnM w (cellsOf (cellsOf [] b1 0 (stpC s (.slice ad s.bases.length c))) b2 0 [.slice kad ks.length kc]) rb 1 W ∧ ∀ x ∈ pre,∀ n l,ks[x.i]? = some n → n[x.k]? = some l → fitK s x.c l = true)
   (fun pre W=>Bw w W ∧ W.cell? ⟨rb,0,none⟩ = some (.bool false) ∧ fitsM s goal ks = false)
   PcM
   (fun pre W W' h hf=>⟨own_knm h.1 hk.below.size hf,h.2⟩)
   (fun pre W W' h hf=>⟨own_below h.1 hk.below.size hf,own_cell h.2.1 hf,h.2.2⟩)
   (fun x l W W' h hf=>by obtain ⟨p,b,e,h⟩:=h; exact ⟨p,b,e,own_cells h hf⟩)
   ⟨hk,fun x hx=>by cases hx⟩ ?_ ?_ ?_ ?_
  ·rintro pre x W ⟨hk,hp⟩
   obtain ⟨xad,xc,hxv⟩:=x.hv.eqs.isSlice
   dsimp only
   rw [enc0,enc1,hxv]
   refine local_plc _ _ (.start W) (fun p W1 hk1 hb1 hgp=>?_)
   refine local_clm _ _ _ _ hk1 (fun b W2 hk2 hb2 hgb=>?_)
   have hb:=hk2.below
   exact ⟨keeps_below hb,hb.mono hk.below.size,⟨hk.next hb,hp⟩,p,b,rfl,by rw [hxv]; exact hk2.cells⟩
  ·rintro pre x l u W ⟨hk,hp⟩ ⟨p,b,rfl,hm⟩ hlen
   obtain ⟨xad,xc,hxv⟩:=x.hv.eqs.isSlice
   rw [hxv] at hm
   have hi:=(gS x.hi).1
   have hki:=(gS x.hk).1
   have en:ks[x.i]? = some ks[x.i]:=gE (by omega)
   have hsh:=hall' _ _ _ x.hi en
   obtain ⟨bn,on,rfl,hltn,csn,_,hcelln,vn,rfl,hrown⟩:=hk0.at (i:=x.i) (by omega)
   have cn:=hcelln 0 _ rfl
   simp only [Nat.add_zero,Nat.mul_one] at cn
   have en':∃ n,ks[x.i] = n:=⟨_,rfl⟩
   obtain ⟨n,en'⟩:=en'
   rw [en'] at hrown en hsh
   have hkn:x.k < n.length:=by omega
   obtain ⟨had,hc',rfl⟩:=hrown.isSlice
   have el:n[x.k]? = some n[x.k]:=gE hkn
   obtain ⟨bl,ol,rfl,hltl,csl,_,hcelll,vl,rfl,hrowl⟩:=hrown.at (i:=x.k) hkn
   have c0:=hcelll 0 _ rfl
   have c1:=hcelll 1 _ rfl
   simp only [Nat.add_zero] at c0
   have hi1:(x.i:Int) < ks.length:=by omega
   have hi2:(x.k:Int) < n.length:=by omega
   generalize n[x.k] = kn at *
   obtain ⟨vad,vc,rfl⟩:=hrowl.isSlice
   dsimp only
   have hk9:=hk.drew
   have hb9:Below W.heap.size W { W with drawn:=W.drawn + 1 }:=.drawn
   have hm:=cellsAre_keep hm (fun a ha=>hb9.cell ha)
   refine ⟨Nx { W with drawn:=W.drawn + 1 },Below.refl _ _,rfl,?_⟩
   generalize ({ W with drawn:=W.drawn + 1 }:World) = W9 at hk9 hb9 hm ⊢
   repeat (any_goals ((with_reducible refine idOH ?_); (with_reducible refine oH_of ⟨_,rfl⟩ (fun W0 hW0=>by (refine oG (fun V Z=>?_)); simp [go_sem,(hk9.next hW0).cells,cellsAre_keep hm (fun a ha=>hW0.cell ha),((hk9.next hW0).below.cell hltn).trans cn,((hk9.next hW0).below.cell hltl).trans c0,((hk9.next hW0).below.cell hltl).trans c1,hi1,hi2]; (first | exact Z _ _ ⟨rfl,rfl⟩ | exact ⟨by omega,Z _ _ ⟨rfl,rfl⟩⟩)) ?_)))
   refine ⟨Nx,?_⟩
   refine monoR (fun v w'=>∃ g2,v = ptr g2 0 ∧ W9.heap.size ≤ g2 ∧ Holds w' g2 113 [.bool false,.slice none 0 0]) (fun v w w1 hS h=>h.imp fun g2 h=>⟨h.1,h.2.1,h.2.2.next hS⟩) ?_ ?_
   ·intro w1 h1
    exact arr_alloc al_knw (fun g2 w2 h2 hg2 hh=>⟨h1.on h2,h2,g2,rfl,Nat.le_trans h1.size hg2,hh⟩)
   rintro w5 h5 _ ⟨g5,rfl,hg5,hh5⟩
   refine arr_store sz_knw (xs:=knwC kn (.slice vad kn.values.length vc)) rfl rfl (knw_one _ _ _ _) hh5 rfl (fun w6 hg6 hh6=>?_)
   have hh6:Holds w6 g5 113 [.bool kn.has,.slice vad kn.values.length vc]:=hh6
   have h6:Bw W9 w6:=grown_below h5 hg6 hg5
   have hk6:=hk9.next h6
   have hm6:=cellsAre_keep hm (fun a ha=>h6.cell ha)
   have hb6:=hb9.on h6
   have fin:∀ w7,Bw W w7 → KnM w (cellsOf (cellsOf [] b1 0 (stpC s (.slice ad s.bases.length c))) b2 0 [.slice (some ⟨bn,on,none⟩) ks.length kc]) rb 1 w7 → fitK s x.c kn = true →
     KeepsFrom W2.heap.size W w7 ∧ Below w.heap.size W w7 ∧ KnM w (cellsOf (cellsOf [] b1 0 (stpC s (.slice ad s.bases.length c))) b2 0 [.slice (some ⟨bn,on,none⟩) ks.length kc]) rb 1 w7 ∧ ∀ y ∈ pre ++ [x],∀ n l,ks[y.i]? = some n → n[y.k]? = some l → fitK s y.c l = true:=by
    intro w7 hb7 hk7 hcl
    refine ⟨keeps_below hb7,hb7.mono hk.below.size,hk7,fun y hy=>?_⟩
    rcases List.mem_append.1 hy with hy | hy
    ·exact hp y hy
    ·rw [List.mem_singleton.1 hy]
     intro n' l' h1 h2
     rw [en] at h1
     cases h1
     rw [el] at h2
     cases h2
     exact hcl
   cases hhas:kn.has with
   | false=>
    rw [hhas] at hh6
    repeat (any_goals (first
    | (with_reducible first|refine zB ?_|refine yC ?_|refine yM ?_)
    | ((with_reducible refine oG fun V Z=>?_); simp [go_sem,hk6.cells,hm6,hh6.are]; apply Z; clear Z V)))
    exact fin _ hb6 hk6 (by simp [fitK,hhas])
   | true=>
    rw [hhas] at hh6
    repeat (any_goals (first
    | (with_reducible refine zA ?_)
    | ((with_reducible refine oG fun V Z=>?_); simp [go_sem,hk6.cells,hm6,hh6.are]; apply Z; clear Z V)))
    refine exponents_ok s x.c.vars (hs'.next hk6.below) (hrowl.next hk6.below) (fun W4 hb4=>?_)
    have hk4:=hk6.next hb4
    have hb:=hb6.on hb4
    cases hcl:exponentsM s kn.values x.c.vars with
    | false=>
     repeat (any_goals (first
     | (with_reducible first|refine zA ?_|refine yB ?_|refine yL ?_)
     | ((with_reducible refine oG fun V Z=>?_); simp [go_sem]; apply Z; clear Z V)))
     refine store_bool hk4 fun W'' hk5 hgr hc=>?_
     refine ⟨(keeps_below hb).trans (keeps_mine hgr hk4.mine),hk5.below,hc,?_⟩
     rw [Bool.eq_false_iff]
     intro hsm
     unfold fitsM at hsm
     simp only [Bool.and_eq_true] at hsm
     have:=fitsC_at (fitsL_at hsm.2 x.hi en).2 x.hk el
     unfold fitK at this
     rw [hcl,hhas] at this
     cases this
    | true=>
     repeat (any_goals (first
     | (with_reducible first|refine zA ?_|refine yB ?_|refine yM ?_)
     | ((with_reducible refine oG fun V Z=>?_); simp [go_sem]; apply Z; clear Z V)))
     exact fin _ hb hk4 (by simp [fitK,hcl])
  ·rintro D xs W hD hxs ⟨hk2,hp⟩ hh
   have hgD:rb < D:=Nat.lt_of_lt_of_le (mine_lt hk.mine) hD
   refine store_bool hk2 fun W'' hk3 hgr hc=>?_
   have hh2:W''.heap[D]? = some (.deferred (some [])):=by
    rw [hgr.block D (Array.getElem?_eq_some_iff.1 hh).1 (fun e=>by cases e; omega)]; exact hh
   have hf:=put_fr (B:=W2.heap.size) (.deferred none) hD hh2 rfl
   refine ⟨hh2,ret_bool (own_cell hc hf) ?_⟩
   have k:=k _ (own_below hk3.below hk.below.size hf)
   have e:fitsM s goal ks = true:=by
    unfold fitsM
    rw [decide_eq_true e1,fitsL_of e1 (fun i c n h1 h3=>⟨hall' i c n h1 h3,fun k' x l h4 h5=>?_⟩)]
    ·rfl
    ·have hm:=places_mem h1 h4
     rw [← hxs,List.mem_map] at hm
     obtain ⟨y,hy,hye⟩:=hm
     simp only [Itm.at,Prod.mk.injEq] at hye
     obtain ⟨rfl,rfl,rfl⟩:=hye
     exact hp y hy n l h3 h5
   rwa [e] at k
  ·rintro D pre W hD hpre ⟨hk3,hc,hcl⟩ hh
   have hf:=put_fr (B:=W2.heap.size) (.deferred none) hD hh rfl
   refine ⟨hh,ret_bool (own_cell hc hf) ?_⟩
   have k:=k _ (own_below hk3 hk.below.size hf)
   rwa [hcl] at k
 have eg:goal[i]? = some goal[i]:=gE (by omega)
 have en:ks[i]? = some ks[i]:=gE (by omega)
 obtain ⟨b1',o1,rfl,hlt1,cs1,_,hcell1,v1,rfl,hI1,hrow1⟩:=hg'.at (i:=i) (by omega)
 obtain ⟨bn,on,rfl,hltn,csn,_,hcelln,vn,rfl,hrown⟩:=hk0.at (i:=i) (by omega)
 have c01:=hcell1 0 _ rfl
 have c11:=hcell1 1 _ rfl
 have cn:=hcelln 0 _ rfl
 simp only [Nat.add_zero,Nat.mul_one] at c01 cn
 generalize goal[i] = cl at *
 generalize ks[i] = nn at *
 obtain ⟨ad1,cp1,rfl⟩:=hrow1.isSlice
 obtain ⟨ad2,cp2,rfl⟩:=hrown.isSlice
 have hln1:=hrow1.len
 have hln2:=hrown.len
 have hll1:(i:Int) < goal.length:=by omega
 have hll3:(i:Int) < ks.length:=by omega
 iterate 4 (any_goals (first
 | (with_reducible refine yL ?_)
 | ((with_reducible refine oG fun V Z=>?_); simp [go_sem,(hk.below.cell hlt1).trans c01,(hk.below.cell hlt1).trans c11,hll1]; apply Z; clear Z V)))
 refine local_clsM _ _ _ _ hk (fun b4 W4 hk4 hb4 hg4=>?_)
 have hk:=(hk.next hb4).drew
 have hk4:=hk4.drew
 refine ⟨Nx { W4 with drawn:=W4.drawn + 1 },Below.refl _ _,rfl,?_⟩
 generalize ({ W4 with drawn:=W4.drawn + 1 }:World) = W5 at hk hk4 ⊢
 by_cases e5:¬ nn.length = cl.claims.length
 ·have e5':¬ (nn.length:Int) = cl.claims.length:=by omega
  repeat (any_goals (first
  | (with_reducible refine pX ?_)
  | ((with_reducible refine idOH ?_); (with_reducible refine oH_of ⟨_,rfl⟩ (fun W0 hW0=>by (refine oG (fun V Z=>?_)); simp [go_sem,(hk4.next hW0).cells,((hk4.next hW0).below.cell hltn).trans cn,hll3,e5']; (first | exact Z _ _ ⟨rfl,rfl⟩ | exact ⟨by omega,Z _ _ ⟨rfl,rfl⟩⟩)) ?_))))
  refine ⟨Nx,fun w9 h9=>?_⟩
  repeat (any_goals (with_reducible refine yL ?_))
  refine no ?_ (hk.next h9)
  rw [Bool.eq_false_iff]
  intro hsm
  unfold fitsM at hsm
  simp only [Bool.and_eq_true] at hsm
  exact e5 (fitsL_at hsm.2 eg en).1
 ·have e5:nn.length = cl.claims.length:=by omega
  have e5':(nn.length:Int) = cl.claims.length:=by omega
  repeat (any_goals (first
  | (with_reducible refine pX ?_)
  | ((with_reducible refine idOH ?_); (with_reducible refine oH_of ⟨_,rfl⟩ (fun W0 hW0=>by (refine oG (fun V Z=>?_)); simp [go_sem,(hk4.next hW0).cells,((hk4.next hW0).below.cell hltn).trans cn,hll3,e5']; (first | exact Z _ _ ⟨rfl,rfl⟩ | exact ⟨by omega,Z _ _ ⟨rfl,rfl⟩⟩)) ?_))))
  refine ⟨Nx,fun w9 h9=>?_⟩
  repeat (any_goals (first
  | (with_reducible refine yM ?_)
  | ((with_reducible refine oG fun V Z=>?_); simp [go_sem]; (try simp (disch:=omega) only [wrapI64,wrapU8,wrapU32,wrapU64]); apply Z; clear Z V)))
  refine ⟨⟨hk.next h9,_,i + 1,rfl,by omega,fun j c' n' hj h1 h3=>?_⟩,by simp only [grMu_eq]; omega⟩
  by_cases hji:j < i
  ·exact hall j c' n' hji h1 h3
  ·obtain rfl:j = i:=by omega
   rw [eg] at h1
   rw [en] at h3
   cases h1; cases h3
   exact e5
end
end Go.Proofs
namespace Go.Proofs
open Go Go.Sh Go.RowKit FdSpec TkSpec CodeSpec PrSpec
structure Bit (l:List Int) where
 i:Nat
 c:Int
 h:l[i]? = some c
def Bit.enc {l:List Int} (x:Bit l):Array Value:=#[.int .i64 x.i,.int .i64 x.c]
section
variable {K:VK} {w w' w0 W W':World} {L:List (Addr × Value)} {g n B:Nat} {row:Option Nat}
def KpB (n g:Nat) (A B:World):Prop:=Below n A B ∧ ∀ o,A.heap[g]? = some o → B.heap[g]? = some o
theorem KpB.trans {n g:Nat} {A B C:World} (h:KpB n g A B) (k:KpB n g B C):KpB n g A C:=⟨h.1.trans k.1,fun o ho=>k.2 o (h.2 o ho)⟩
theorem KpB.cell {n g:Nat} {A B:World} {u:Value} (h:KpB n g A B) (hc:A.cell? ⟨g,0,none⟩ = some u):B.cell? ⟨g,0,none⟩ = some u:=by
 obtain ⟨o,h1,_⟩:=cell_obj hc
 have h1:A.heap[g]? = some o:=h1
 rw [← hc]
 unfold World.cell?
 rw [h1,h.2 o h1]
def BwJ (l:List Int) (lv:Value) (w:World) (g:Nat) (J:List (Bit l) → WK) (vs:List Value) (W:World):Prop:=∃ pre:List (Bit l),vs = [.int .i64 ((l.length:Int) - 1 - pre.length)] ∧ pre.length ≤ l.length ∧ pre.map Bit.c = l.reverse.take pre.length ∧ J pre W ∧ Bw w W ∧ W.cell? ⟨g,0,none⟩ = some lv
theorem back_seq {l:List Int} {lv:Value} {g:Nat} (hi:Ints w lv l) (hww:Bw w w') (hlt:g < w'.heap.size) (hc:w'.cell? ⟨g,0,none⟩ = some lv) :
  SeqStopsK Fence.wide 9 Tryz.prog 216 #[.pointer (some ⟨g,0,none⟩)] (Bit.enc (l:=l)) (KpB w.heap.size g) (fun xs=>xs.map Bit.c = l.reverse) (fun pre=>True) l.length w':=by
 intro ll J Jx W hb hJ hJx hY h0
 refine CallsIn.mono (sh_216_ok (m:=0) (a0:=.func (.yield ll) #[] #[]) (a1:=.pointer (some ⟨g,0,none⟩)) (w:=W) (K:=fun _ W'=>(∃ xs:List (Bit l),xs.map Bit.c = l.reverse ∧ J xs W') ∨ (∃ pre:List (Bit l),True ∧ Jx pre W')) ?_) (fun e W' h=>by obtain ⟨v,h1,h2⟩:=h; exact ⟨⟨v,h1⟩,h2⟩)
 unfold sh_216
 obtain ⟨ad,cap,rfl⟩:=hi.isSlice
 have hln:=hi.len
 have hc0:=(hb.cell hlt).trans hc
 have hb:=hww.on hb
 repeat (any_goals ((with_reducible refine oG fun V Z=>?_); simp [go_sem,hc0]; (try simp (disch:=omega) only [wrapI64,wrapU8,wrapU32,wrapU64]); apply Z; clear Z V))
 refine ⟨BwJ l (.slice ad l.length cap) w g J,(fun vs _=>match vs with | [.int _ i]=>(i + 1).toNat | _=>0),⟨[],by simp,by simp,by simp,h0,hb,hc0⟩,?_⟩
 rintro _ _ W1 ⟨pre,rfl,hpl,hpm,hJp,hb1,hc1⟩
 by_cases hin:pre.length = l.length
 ·have hneg:¬ (0:Int) ≤ (l.length:Int) - 1 - pre.length:=by omega
  repeat (any_goals (first
  | (with_reducible refine yO ?_)
  | ((with_reducible refine oG fun V Z=>?_); simp [go_sem,hneg]; apply Z; clear Z V)))
  refine .inl ⟨pre,?_,hJp⟩
  rw [hpm,List.take_of_length_le (by simp; omega)]
 have hpos:(0:Int) ≤ (l.length:Int) - 1 - pre.length:=by omega
 obtain ⟨i,hii⟩:∃ i:Nat,i = l.length - 1 - pre.length:=⟨_,rfl⟩
 have ei:(l.length:Int) - 1 - pre.length = (i:Int):=by omega
 have hx:l[i]? = some l[i]:=gE (by omega)
 have hrev:l.reverse[pre.length]? = some l[i]:=by
  rw [List.getElem?_reverse (by omega),← hii]
  exact hx
 obtain ⟨b,o,rfl,hlb,hcell,hrng,_⟩:=hi.at (i:=i) (by omega)
 generalize l[i] = xv at *
 rw [ei] at hpos ⊢
 have hil:(i:Int) < l.length:=by omega
 repeat (any_goals (first
 | (with_reducible refine yL ?_)
 | ((with_reducible refine oG fun V Z=>?_); simp [go_sem,hc1,hcell _ hb1,hil,hpos]; apply Z; clear Z V)))
 refine ⟨ll,rfl,yield_mono (hY pre ⟨i,xv,hx⟩ W1 hJp (by omega)) ?_⟩
 rintro e W5 (⟨rfl,h5,hk5⟩ | ⟨rfl,h5⟩)
 ·refine ⟨_,rfl,?_⟩
  repeat (any_goals (first
  | (with_reducible refine yM ?_)
  | ((with_reducible refine oG fun V Z=>?_); simp [go_sem]; (try simp (disch:=omega) only [wrapI64,wrapU8,wrapU32,wrapU64]); apply Z; clear Z V)))
  refine ⟨⟨pre ++ [⟨i,xv,hx⟩],?_,by simp; omega,?_,h5,hb1.trans hk5.1,hk5.cell hc1⟩,?_⟩
  ·simp only [List.length_append,List.length_cons,List.length_nil]
   have:(i:Int) - 1 = (l.length:Int) - 1 - ((pre.length + (0 + 1):Nat):Int):=by omega
   rw [this]
  ·rw [List.map_append,hpm,List.length_append]
   show _ = l.reverse.take (pre.length + 1)
   rw [List.take_add_one,hrev]
   rfl
  ·show ((i:Int) - 1 + 1).toNat < ((i:Int) + 1).toNat
   omega
 ·refine ⟨_,rfl,?_⟩
  repeat (any_goals (first
  | (with_reducible refine yL ?_)
  | ((with_reducible refine oG fun V Z=>?_); simp [go_sem]; apply Z; clear Z V)))
  exact .inr ⟨_,trivial,h5⟩
theorem Backward_ok {lv:Value} {l:List Int} (hi:Ints w lv l) (k:∀ g W,Bw w W → w.heap.size ≤ g → g < W.heap.size → W.cell? ⟨g,0,none⟩ = some lv → K (.func (.func 216) #[] #[.pointer (some ⟨g,0,none⟩)]) W):callM Tryz.prog 198 #[lv] K w:=by
 apply sh_198_ok
 unfold sh_198
 obtain ⟨ad,c,rfl⟩:=hi.isSlice
 refine box_kn (cs:=[.slice ad l.length c]) rfl (.start w) fun b1 W hk hb1 hbb=>?_
 have h1:=cells_lt hk.cells _ (List.mem_singleton.2 rfl)
 have h2:=hk.cells.1
 repeat (any_goals ((with_reducible refine oG fun V Z=>?_); simp [go_sem]; apply Z; clear Z V))
 exact k _ _ hb1 hbb h1 h2
theorem range_back {l:List Int} {lv:Value} {A:Array Value → (List Value → World → Prop) → WK} {Bd:Array Value → List Value → Env → (WK) → (WK) → WK} {Kd Kr:Nat → WK}
  (hi:Ints w lv l) (hww:Bw w w') (hlt:g < w'.heap.size) (hc:w'.cell? ⟨g,0,none⟩ = some lv)
  (I:List (Bit l) → WK) (M:Bit l → List Value → World → Prop)
  (hI:∀ pre W W',I pre W → Fr (OwnS w'.heap.size W) W W' → I pre W') (hM:∀ x l W W',M x l W → Fr (OwnS w'.heap.size W) W W' → M x l W') (h0:I [] w')
  (hA:∀ pre x W,I pre W → A x.enc (fun l W1=>KeepsFrom w'.heap.size W W1 ∧ KpB w.heap.size g W W1 ∧ I pre W1 ∧ M x l W1) W)
  (hB:∀ pre x l u W,I pre W → M x l W → Bd x.enc l u (fun W2=>KeepsFrom w'.heap.size W W2 ∧ KpB w.heap.size g W W2 ∧ I (pre ++ [x]) W2) (fun W2=>KeepsFrom w'.heap.size W W2 ∧ False) W)
  (hd:∀ D xs W,w'.heap.size ≤ D → xs.map Bit.c = l.reverse → I xs W → W.heap[D]? = some (.deferred (some [])) → Kd D W) :
  Go.Sh.rangeM Tryz.prog (.func (.func 216) #[] #[.pointer (some ⟨g,0,none⟩)]) 2 w' A Bd Kd Kr:=
 ⟨216,_,Bit l,Bit.enc,KpB w.heap.size g,_,_,_,rfl,by kernel_rfl,back_seq hi hww hlt hc,fun _=>rfl,fun h k=>h.trans k,
  fun X m o o' hl h1 h2 h3=>⟨belowK_b (n₀:=w.heap.size) hww.size X m o o' hl h1 h2 h3,fun q hq=>by
   have hf:=put_fr (B:=w'.heap.size) o' hl h1 h2
   rw [hf.block g (Array.getElem?_eq_some_iff.1 hq).1 (fun x=>by have:=x.1; omega)]
   exact hq⟩,
  I,fun _ _=>False,M,fun s X Y row h1 h2 h3=>hI _ _ _ h1 (own_fr h2 h3),fun s X Y row h1 h2 h3=>h1,fun x l s X Y row h1 h2 h3=>hM _ _ _ _ h1 (own_fr h2 h3),h0,hA,fun pre x l u W h1 h2 _=>hB pre x l u W h1 h2,hd,fun _ _ _ _ _ h _=>h.elim⟩
end
end Go.Proofs
namespace Go.Proofs
open Go Go.Sh Go.RowKit FdSpec TkSpec CodeSpec PrSpec FdPoly
section
variable {K:VK} {w w' w0 W W':World} {L:List (Addr × Value)} {g n B:Nat} {row:Option Nat}
theorem al_int (w:World):(Instr.alloc 3 true (.tuple #[])).run Tryz.prog w = .ok (.pointer (some ⟨w.heap.size,0,none⟩)) (w.alloc (.cells [.int .i64 0].toArray 3)):=by kernel_rfl
theorem sz_int1 (w:World):(sizeOf 3).run Tryz.prog w = .ok 1 w:=by kernel_rfl
theorem store_int {T':TypeId} {x:Int} (hk:KnM w0 L g 1 w) (k:∀ W,KnM w0 L g 1 W → w.grownBy W (some g) → W.cell? ⟨g,0,none⟩ = some (.int .i64 x) → K undef W) :
  oM Tryz.prog (.store 3 (.tmp 0) (.tmp 1)) T' [.pointer (some ⟨g,0,none⟩),.int .i64 x] K w:=by
 obtain ⟨W,e,hg,hm,hc⟩:=store_run (P:=Tryz.prog) (w:=w) (W:=w) (T:=3) (x:=.int .i64 x) (xs:=[.int .i64 x]) sz_int1 rfl rfl (by intro u hu; rw [List.mem_singleton] at hu; subst hu; rfl) hk.mine
 rw [oM_store,e]
 exact k W ⟨hk.kn.wrote hg hk.base hk.off,hm,hk.base,hk.off⟩ hg hc.1
def atF (q x:Int) (l:List Int):Int:=l.foldl (fun out c=>addM q (mulM q out x) c) 0
theorem atF_rev (q x:Int) (p:List Int):atF q x p.reverse = atM q p x:=by
 unfold atF atM
 rw [List.foldl_reverse]
theorem At_ok (q x:Int) (p:List Int) {pv:Value} (hi:Ints w pv p) (k:∀ w',Bw w w' → K (.int .i64 (atM q p x)) w'):callM Tryz.prog 162 #[.int .i64 q,pv,.int .i64 x] K w:=by
 apply sh_162_ok
 unfold sh_162
 refine box_kn (cs:=[.int .i64 q]) rfl (.start w) fun b1 W hk hb1 hbb=>?_
 refine box_kn (cs:=[.int .i64 x]) rfl hk fun b2 W hk hb2 hbb2=>?_
 refine alloc_mine (zs:=[.int .i64 0]) al_int rfl hk fun cb W hk hb3 hgb=>?_
 clear hb1 hb2 hb3
 refine store_int hk fun W hk _ hcc=>?_
 refine Backward_ok (hi.next hk.below) (fun g W2 hb2 hgg hlt hcell=>?_)
 have hcb:=mine_lt hk.mine
 have hcc:=(hb2.cell hcb).trans hcc
 have hk:=hk.next hb2
 have hgc:g ≠ cb:=by omega
 have hbg:∀ p ∈ cellsOf (cellsOf [] b1 0 [.int .i64 q]) b2 0 [.int .i64 x],True:=fun _ _=>trivial
 refine range_back (w:=w) hi hk.below hlt hcell
  (fun pre W=>KnM w (cellsOf (cellsOf [] b1 0 [.int .i64 q]) b2 0 [.int .i64 x]) cb 1 W ∧ g < W.heap.size ∧ W.cell? ⟨cb,0,none⟩ = some (.int .i64 (atF q x (pre.map Bit.c))))
  (fun y l W=>l = [.int .i64 y.c])
  (fun pre W W' h hf=>⟨own_knm h.1 hk.below.size hf,Nat.lt_of_lt_of_le h.2.1 hf.size,own_cell h.2.2 hf⟩)
  (fun y l W W' h hf=>h) ⟨hk,hlt,hcc⟩ ?_ ?_ ?_
 ·rintro pre y W h
  exact ⟨KeepsFrom.refl _ _,⟨Below.refl _ _,fun o ho=>ho⟩,h,rfl⟩
 ·rintro pre y l u W ⟨hk,hgW,hc⟩ rfl
  dsimp only
  have hb9:Below W.heap.size W { W with drawn:=W.drawn + 1 }:=.drawn
  have hk9:=hk.drew
  have hcw:=mine_lt hk9.mine
  have hc:=(hb9.cell (mine_lt hk.mine)).trans hc
  refine ⟨Nx { W with drawn:=W.drawn + 1 },Below.refl _ _,rfl,?_⟩
  generalize ({ W with drawn:=W.drawn + 1 }:World) = W9 at hk9 hb9 hc hcw ⊢
  repeat (any_goals (first
  | (with_reducible refine pX ?_)
  | ((with_reducible refine idOH ?_); (with_reducible refine oH_of ⟨_,rfl⟩ (fun W0 hW0=>by (refine oG (fun V Z=>?_)); simp [go_sem,(hk9.next hW0).cells,(hW0.cell hcw).trans hc]; (first | exact Z _ _ ⟨rfl,rfl⟩ | exact ⟨by omega,Z _ _ ⟨rfl,rfl⟩⟩)) ?_))))
  refine ⟨Nx,?_⟩
  apply monoE
  ·intro w5 h5
   exact Mul_ok _ _ _ (fun w6 h6=>⟨h5.on h6,h6,rfl⟩)
  (intro w9 h9; repeat (intro v9 e9; try (obtain rfl:=e9)))
  refine Add_ok _ _ _ ?_
  have hk7:=hk9.next h9
  refine store_int hk7 fun W8 hk8 hgr hc8=>?_
  have h97:=hb9.on h9
  refine ⟨(keeps_below h97).trans (keeps_mine hgr hk7.mine),⟨?_,fun o ho=>?_⟩,hk8,?_,?_⟩
  ·exact (h97.mono hk.below.size).grown hgr (Nat.le_trans hk.below.size h97.size) (fun j hj=>by cases hj; exact hk.base)
  ·have hgw:g < w9.heap.size:=Nat.lt_of_lt_of_le hgW h97.size
   rw [hgr.block g hgw (fun e=>hgc (by cases e; rfl)),h97.block g hgW]
   exact ho
  ·exact Nat.lt_of_lt_of_le hgW (Nat.le_trans h97.size hgr.size)
  ·rw [hc8]
   simp [atF]
 ·rintro D xs W hD hxs ⟨hk2,hgW,hc⟩ hh
  repeat (any_goals ((with_reducible refine oG fun V Z=>?_); simp [go_sem,hc]; apply Z; clear Z V))
  have hf:=put_fr (B:=W2.heap.size) (.deferred none) hD hh rfl
  refine ⟨hh,?_⟩
  rw [hxs,atF_rev]
  exact k _ (own_below hk2.below hk.below.size hf)
end
end Go.Proofs
namespace Go.Proofs
open Go Go.Sh Go.RowKit FdSpec TkSpec CodeSpec PrSpec
section
variable {K:VK} {w w' w0 W W':World} {L:List (Addr × Value)} {g n B:Nat} {row:Option Nat}
@[reducible] def uqV (n:Int):Value:=.int .u64 n
theorem keyU:KeyOK Tryz.prog 150 uqV:=keyInt (by kernel_rfl)
structure Met (q:Int) (pre:List Int) (l:List (Int × Value)):Prop where
 nd:(l.map (·.1)).Nodup
 mem:∀ k,k ∈ l.map (·.1) ↔ k ∈ pre.map (fun x=>x % q)
 le:l.length ≤ pre.length
 len:l.length = pre.length ↔ (pre.map fun x=>x % q).Nodup
theorem Met.put {q:Int} {pre:List Int} {l:List (Int × Value)} (h:Met q pre l) (x:Int) (v:Value):Met q (pre ++ [x]) (putA l (x % q) v):=by
 have hk:=keys_put l (x % q) v
 have hlen:(putA l (x % q) v).length = ((putA l (x % q) v).map (·.1)).length:=by simp
 by_cases hs:(lookA l (x % q)).isSome
 ·rw [if_pos hs] at hk
  have hm:=(lookA_isSome l (x % q)).1 hs
  have hm':=(h.mem _).1 hm
  refine ⟨nodup_put l _ v h.nd,fun k=>?_,?_,?_⟩
  ·rw [hk,h.mem k,List.map_append,List.mem_append]
   refine ⟨.inl,fun e=>e.elim id fun e=>?_⟩
   simp only [List.map_cons,List.map_nil,List.mem_singleton] at e
   rw [e]; exact hm'
  ·rw [hlen,hk,List.length_map,List.length_append]
   have:=h.le
   omega
  ·rw [hlen,hk,List.length_map,List.length_append]
   have:=h.le
   refine ⟨fun e=>by simp only [List.length_cons,List.length_nil] at e; omega,fun e=>?_⟩
   rw [List.map_append,List.nodup_append] at e
   exact (e.2.2 _ hm' _ (by simp) rfl).elim
 ·rw [if_neg hs] at hk
  have hm:x % q ∉ l.map (·.1):=fun e=>hs ((lookA_isSome l (x % q)).2 e)
  have hm':x % q ∉ pre.map (fun x=>x % q):=fun e=>hm ((h.mem _).2 e)
  refine ⟨nodup_put l _ v h.nd,fun k=>?_,?_,?_⟩
  ·rw [hk,List.mem_append,h.mem k,List.map_append,List.mem_append]
   simp
  ·rw [hlen,hk,List.length_append,List.length_map,List.length_append]
   have:=h.le
   simp only [List.length_cons,List.length_nil]
   omega
  ·rw [hlen,hk,List.length_append,List.length_map,List.length_append,List.map_append,List.nodup_append]
   simp only [List.length_cons,List.length_nil]
   rw [show l.length + (0 + 1) = pre.length + (0 + 1) ↔ l.length = pre.length by omega,h.len]
   refine ⟨fun e=>⟨e,by simp,fun a ha b hb=>?_⟩,fun e=>e.1⟩
   simp only [List.map_cons,List.map_nil,List.mem_singleton] at hb
   rw [hb]
   rintro rfl
   exact hm' ha
theorem prime_okN {q:Int} (h:primeM q = true):okN q:=by
 unfold primeM at h
 by_cases h1:q < 2 ∨ 2305843009213693952 ≤ q
 ·rw [if_pos h1] at h
  cases h
 ·unfold okN
  omega
def PtJ (q:Int) (xs:List Int) (w0:World) (b:Nat) (vs:List Value) (W:World):Prop:=Bw w0 W ∧ w0.heap.size ≤ b ∧ ∃ (u:Value) (i:Nat) (l:List (Int × Value)),vs = [u,.int .i64 (i:Int)] ∧ i ≤ xs.length ∧ MapIs uqV W b l ∧ Met q (xs.take i) l
theorem len_map {T:TypeId} {b:Nat} {l:List (Int × Value)} (h:MapIs uqV w b l) (k:K (.int .i64 l.length) w):oM Tryz.prog (.call { callee:=.builtin .len,args:=#[.tmp 0],argTypes:=#[228] }) T [.map (some b)] K w:=by
 obtain ⟨es,clock,hb,he,_⟩:=h
 have e:es.size = l.length:=by
  have:=congrArg List.length he
  simpa using this
 have hr:(Builtin.len_ #[228] T #[.map (some b)]).run Tryz.prog w = .ok (goInt es.size) w:=run_len_map _ _ _ b es clock (by kernel_rfl) hb
 have e2:oM Tryz.prog (.call { callee:=.builtin .len,args:=#[.tmp 0],argTypes:=#[228] }) T [.map (some b)] K w = K (.int .i64 es.size) w:=by
  refine oM_of_run (w':=w) ?_
  simp [xop,evalL,evE,go_sem]
  rw [hr]
  rfl
 rw [e2,e]
 exact k
theorem put_map {T:TypeId} {b:Nat} {l:List (Int × Value)} {x:Int} {v:Value} (h:MapIs uqV w b l) (k:∀ w',MapIs uqV w' b (putA l x v) → w.grownBy w' (some b) → K undef w'):oM Tryz.prog (.mapUpdate 228 (.tmp 0) (.tmp 1) (.tmp 2)) T [.map (some b),.int .u64 x,v] K w:=by
 obtain ⟨w',hr,hm,hg,_⟩:=run_update (P:=Tryz.prog) (t:=228) (et:=4) keyU (by kernel_rfl) h x v
 rw [oM_unit (S:=Instr.mapUpdate 228 (.map (some b)) (.int .u64 x) v) rfl,hr]
 exact k w' hm hg
theorem points_ok (q:Int) (xs:List Int) {xv:Value} (hx:Ints w xv xs) (hT:DbT w) (k:∀ w',Bw w w' → K (.bool (primeM q && decide (xs.length ≤ 64) && PrSpec.distinct q xs)) w'):callM Tryz.prog 197 #[.int .i64 q,xv] K w:=by
 apply sh_197_ok
 unfold sh_197
 obtain ⟨ad,c,rfl⟩:=hx.isSlice
 have hln:=hx.len
 refine Prime_ok q hT (fun w1 h1=>?_)
 cases hp:primeM q with
 | false=>
  rw [hp] at k
  repeat (any_goals (first
  | (with_reducible first|refine zD ?_|refine yB ?_|refine yL ?_)
  | ((with_reducible refine oG fun V Z=>?_); simp [go_sem]; apply Z; clear Z V)))
  exact k _ h1
 | true=>
 rw [hp] at k
 have hq:=prime_okN hp
 by_cases h64:64 < xs.length
 ·have h64':(64:Int) < xs.length:=by omega
  rw [decide_eq_false (by omega)] at k
  repeat (any_goals (first
  | (with_reducible first|refine pureM_in ?_|refine zC ?_|refine yC ?_|refine yL ?_)
  | ((with_reducible refine oG fun V Z=>?_); simp [go_sem,h64']; apply Z; clear Z V)))
  exact k _ h1
 have h64':¬ (64:Int) < xs.length:=by omega
 rw [decide_eq_true (by omega)] at k
 repeat (any_goals (first
 | (with_reducible first|refine pureM_in ?_|refine zC ?_|refine yC ?_|refine yM ?_)
 | ((with_reducible refine oG fun V Z=>?_); simp [go_sem,h64']; apply Z; clear Z V)))
 have hal:Below w1.heap.size w1 (w1.alloc (.map #[] 0)):=(Below.refl _ w1).alloc (Nat.le_refl _) _
 have hb0:Below w.heap.size w (w1.alloc (.map #[] 0)):=h1.on hal
 refine ⟨PtJ q xs w w1.heap.size,grMu xs.length,⟨hb0,h1.size,_,0,[],rfl,by omega,mapIs_new w1,⟨by simp,by simp,by simp,by simp⟩⟩,?_⟩
 rintro _ _ w2 ⟨h2,hbb,u,i,l,rfl,hi,hm,hme⟩
 by_cases hin:i = xs.length
 ·subst hin
  rw [List.take_length] at hme
  repeat (any_goals (first
  | (with_reducible refine yM ?_)
  | ((with_reducible refine oG fun V Z=>?_); simp [go_sem]; apply Z; clear Z V)))
  refine len_map hm ?_
  have k:=k _ h2
  by_cases hl:l.length = xs.length
  ·have hl':(l.length:Int) = xs.length:=by omega
   have e:PrSpec.distinct q xs = true:=decide_eq_true (hme.len.1 hl)
   rw [e] at k
   repeat (any_goals ((with_reducible refine oG fun V Z=>?_); simp [go_sem,hl']; apply Z; clear Z V))
   exact k
  ·have hl':¬ (l.length:Int) = xs.length:=by omega
   have e:PrSpec.distinct q xs = false:=decide_eq_false (fun e=>hl (hme.len.2 e))
   rw [e] at k
   repeat (any_goals ((with_reducible refine oG fun V Z=>?_); simp [go_sem,hl']; apply Z; clear Z V))
   exact k
 ·obtain ⟨b,o,rfl,hlb,hcell,hrng,_⟩:=hx.at (i:=i) (by omega)
  have ex:xs[i]? = some xs[i]:=gE (by omega)
  generalize xs[i] = x at *
  have hil:(i:Int) < xs.length:=by omega
  repeat (any_goals (first
  | (with_reducible refine yL ?_)
  | ((with_reducible refine oG fun V Z=>?_); simp [go_sem,hcell _ h2,hil]; apply Z; clear Z V)))
  refine residue_ok q x hq ?_
  refine put_map hm (fun w3 hm3 hg3=>?_)
  repeat (any_goals ((with_reducible refine oG fun V Z=>?_); simp [go_sem]; (try simp (disch:=omega) only [wrapI64,wrapU8,wrapU32,wrapU64]); apply Z; clear Z V))
  refine ⟨⟨h2.grown hg3 h2.size (fun j hj=>by cases hj; exact hbb),hbb,_,i + 1,_,rfl,by omega,hm3,?_⟩,by simp only [grMu_eq]; omega⟩
  rw [← take_snoc' ex]
  exact hme.put x _
end
end Go.Proofs
namespace Go.Proofs
open Go Go.Sh Go.RowKit FdSpec TkSpec CodeSpec PrSpec FdPoly
section
variable {K:VK} {w w' w0 W W':World} {L:List (Addr × Value)} {g n B:Nat} {row:Option Nat}
structure RowP (W:World) (B g c:Nat) (l:List Int):Prop where
 cells:∃ cur,W.heap[g]? = some (.cells cur 3 (0,0)) ∧ cur.size = c ∧ cur.toList.take l.length = l.map (Value.int .i64)
 le:l.length ≤ c
 base:B ≤ g
 max:c ≤ maxLen
theorem RowP.of {ad:Option Addr} {c:Nat} {l:List Int} (h:OwnI W B (.slice ad l.length c) l) (hl:l ≠ []):∃ g,ad = some ⟨g,0,none⟩ ∧ RowP W B g c l:=by
 rcases h.2 with ⟨h1,h2⟩ | ⟨g,cap,cur,h1,hb,hg,hc,hm,hs,ht⟩
 ·exact absurd (List.length_eq_zero_iff.1 h2) hl
 ·cases h1
  refine ⟨g,rfl,⟨cur,hg,by simpa using hs,?_⟩,hc,hb,hm⟩
  rw [Nat.mul_one,flat_int] at ht
  exact ht
theorem RowP.owns {c:Nat} {l:List Int} (h:RowP W B g c l):OwnI W B (.slice (some ⟨g,0,none⟩) l.length c) l:=by
 obtain ⟨cur,hg,hs,ht⟩:=h.cells
 refine ⟨by rw [flat_int]; simp,.inr ⟨g,c,cur,rfl,h.base,hg,h.le,h.max,by simpa using hs,?_⟩⟩
 rw [Nat.mul_one,flat_int]
 exact ht
theorem RowP.lt {c:Nat} {l:List Int} (h:RowP W B g c l):g < W.heap.size:=by
 obtain ⟨cur,hg,_⟩:=h.cells
 exact (Array.getElem?_eq_some_iff.1 hg).1
theorem RowP.next {c:Nat} {l:List Int} (h:RowP W B g c l) (hb:Bw W W'):RowP W' B g c l:=by
 obtain ⟨cur,hg,hr⟩:=h.cells
 exact ⟨⟨cur,by rw [hb.block g h.lt]; exact hg,hr⟩,h.le,h.base,h.max⟩
theorem RowP.cell {c:Nat} {l:List Int} (h:RowP W B g c l) {i:Nat} {x:Int} (hx:l[i]? = some x):W.cell? ⟨g,i,none⟩ = some (.int .i64 x):=by
 obtain ⟨cur,hg,hs,ht⟩:=h.cells
 have hi:=(gS hx).1
 have h1:(cur.toList.take l.length)[i]? = some (.int .i64 x):=by rw [ht,List.getElem?_map,hx]; rfl
 rw [List.getElem?_take_of_lt hi] at h1
 unfold World.cell?
 rw [hg]
 simpa using h1
theorem RowP.set {c:Nat} {l:List Int} {i:Nat} {x:Int} {T':TypeId} (h:RowP W B g c l) (hi:i < l.length) (k:∀ W',W.grownBy W' (some g) → RowP W' B g c (l.set i x) → K undef W') :
  oM Tryz.prog (.store 3 (.tmp 0) (.tmp 1)) T' [.pointer (some ⟨g,i,none⟩),.int .i64 x] K W:=by
 obtain ⟨cur,hg,hs,ht⟩:=h.cells
 have hh:Holds W g 3 cur.toList:=by
  unfold Holds
  simpa using hg
 have hle:=h.le
 refine arr_set (w:=W) (T:=3) sz_int1 rfl rfl hh (by simpa [hs] using Nat.lt_of_lt_of_le hi hle) (fun W2 h2 h3=>k W2 h2 ⟨⟨(cur.toList.set i (.int .i64 x)).toArray,h3,by simpa using hs,?_⟩,by simpa using hle,h.base,h.max⟩)
 simp only [List.length_set]
 show (cur.toList.set i (.int .i64 x)).take l.length = _
 rw [List.take_set,ht,List.map_set]
theorem RowP.other {b:Option Nat} {c:Nat} {l:List Int} (h:RowP W B g c l) (hg:W.grownBy W' b) (hb:b ≠ some g):RowP W' B g c l:=by
 obtain ⟨cur,h1,hr⟩:=h.cells
 exact ⟨⟨cur,by rw [hg.block g h.lt (fun e=>hb (by first | exact e | exact e.symm))]; exact h1,hr⟩,h.le,h.base,h.max⟩
end
end Go.Proofs
namespace Go.Proofs
open Go Go.Sh Go.RowKit FdSpec TkSpec CodeSpec PrSpec FdPoly
section
variable {K:VK} {w w' w0 W W':World} {L:List (Addr × Value)} {g n B:Nat} {row:Option Nat}
theorem conv_ui {T:TypeId} {x q:Int} (hq:okN q) (k:K (.int .i64 (x % q)) w):oM Tryz.prog (.convert 150 3 (.tmp 0)) T [.int .u64 (x % q)] K w:=by
 have h1:=Int.emod_nonneg x (show q ≠ 0 by unfold okN at hq; omega)
 have h2:=Int.emod_lt_of_pos x (show 0 < q by unfold okN at hq; omega)
 unfold okN at hq
 generalize x % q = y at *
 have hw:IntKind.i64.wrap y = y:=wrapI64 _ (by omega) (by omega)
 rw [oM_convert]
 have e:(convert 150 3 (.int .u64 y)).run Tryz.prog w = .ok (.int .i64 (IntKind.i64.wrap y)) w:=by kernel_rfl
 rw [e,hw]
 exact k
theorem make_ints {T:TypeId} {n:Nat} (hn:n ≤ 65536) (k:∀ g W,Bw w W → w.heap.size ≤ g → RowP W w.heap.size g n (List.replicate n 0) → K (.slice (some ⟨g,0,none⟩) n n) W):oM Tryz.prog (.makeSlice 24 (.tmp 0) (.tmp 1)) T [.int .i64 n,.int .i64 n] K w:=by
 obtain ⟨w',hr,ho,hg⟩:=run_makeSlice_full (P:=Tryz.prog) (w:=w) w.heap.size 24 3 ((Tryz.prog.info? 3).getD default) (.int .i64 0) 1 (by kernel_rfl) (by kernel_rfl) (by kernel_rfl) (by kernel_rfl) .i64 .i64 n (by omega) (by
  have:((Tryz.prog.info? 3).getD default).bytes = 8:=by kernel_rfl
  rw [this]; omega) (by simp only [maxLen]; omega) (Nat.le_refl _)
 rw [oM_makeSlice,hr]
 have hb:Bw w w':=⟨hg.os,hg.tape,hg.output,hg.size,fun k hk=>hg.block k hk (by simp)⟩
 have hcells:(madeCells (Value.int .i64 0).cells (n * 1)).toList = List.replicate n (.int .i64 0):=by
  rw [Nat.mul_one]
  apply List.ext_getElem?
  intro i
  unfold madeCells
  simp [Value.cells,List.getElem?_replicate,Array.getElem?_ofFn]
  try (split <;> simp_all [Nat.mod_one])
 refine k _ _ hb (Nat.le_refl _) ?_
 rcases ho.2 with ⟨h1,h2⟩ | ⟨g,cap,cur,h1,hb2,hg2,hc,hm,hs,ht⟩
 ·cases h1
 ·cases h1
  refine ⟨⟨cur,hg2,by simpa using hs,?_⟩,by simp,Nat.le_refl _,hm⟩
  rw [hcells,Nat.mul_one] at ht
  rw [List.length_replicate,ht,List.map_replicate]
end
end Go.Proofs
namespace Go.Proofs
open Go Go.Sh Go.RowKit FdSpec TkSpec CodeSpec PrSpec FdPoly
section
variable {K:VK} {w w' w0 W W':World} {L:List (Addr × Value)} {g n B:Nat} {row:Option Nat}
theorem getD_some {l:List Int} {i:Nat} (h:i < l.length):l[i]? = some (l.getD i 0):=by
 rw [List.getD_eq_getElem?_getD,gE h]; rfl
def hPre (q x:Int) (o:List Int) (i:Nat):Int:=if i = 0 then subM q 0 (mulM q (o.getD 0 0) x) else addM q (subM q 0 (mulM q (o.getD i 0) x)) (o.getD (i - 1) 0)
theorem hPre_step {q x d:Int} {o o':List Int} (hl:o'.length = o.length) (h0:0 < o.length) (h:∀ i,i < o.length → o'.getD i 0 = hPre q x o i):o'.set 0 (addM q (o'.getD 0 0) d) = hStep q x d o:=by
 apply List.ext_getElem?
 intro i
 unfold hStep
 rw [List.getElem?_map]
 by_cases hi:i < o.length
 ·rw [List.getElem?_range hi]
  show _ = some (hNew q x d o i)
  have h1:=getD_some (l:=o'.set 0 (addM q (o'.getD 0 0) d)) (i:=i) (by rw [List.length_set]; omega)
  rw [h1,getD_set _ _ _ _ (by omega)]
  unfold hNew
  by_cases hz:i = 0
  ·rw [if_pos hz,if_pos hz,h 0 h0]; rfl
  ·rw [if_neg hz,if_neg hz,h i hi]
   unfold hPre
   rw [if_neg hz]
 ·rw [List.getElem?_eq_none (by rw [List.length_set]; omega),List.getElem?_eq_none (by simp; omega)]
  rfl
def TaJ (l:List Int) (w0:World) (vs:List Value) (W:World):Prop:=Bw w0 W ∧ ∃ (u v:Value) (i:Nat),vs = [u,v,.int .i64 (i:Int)] ∧ i ≤ l.length ∧ OwnI W w0.heap.size v (l.take i)
def TbJ (q:Int) (xs d:List Int) (w0:World) (g c:Nat) (vs:List Value) (W:World):Prop:=Bw w0 W ∧ ∃ (u0 u1 u2:Value) (j:Nat),vs = [u0,u1,u2,.int .i64 ((j + 1:Nat):Int)] ∧ j + 1 ≤ xs.length ∧ RowP W w0.heap.size g c (dOut q xs j d)
def TcJ (q:Int) (xs T:List Int) (k:Nat) (w0:World) (g c:Nat) (vs:List Value) (W:World):Prop:=Bw w0 W ∧ ∃ (u0 u1:Value) (m:Nat) (d:List Int),vs = [u0,u1,.int .i64 ((k:Int) + m - 1)] ∧ k + m ≤ xs.length ∧ d.length = xs.length ∧ dIn q xs k m d = T ∧ RowP W w0.heap.size g c d
def TdJ (q:Int) (xs d T:List Int) (w0:World) (g c g2 n:Nat) (vs:List Value) (W:World):Prop:=Bw w0 W ∧ RowP W w0.heap.size g c d ∧ ∃ (u:Value) (m:Nat) (o:List Int),vs = [u,.int .i64 ((m:Int) - 1)] ∧ m ≤ n ∧ o.length = n ∧ hAll q xs d m o = T ∧ RowP W w0.heap.size g2 n o
def TeJ (q x:Int) (o d:List Int) (w0:World) (g c g2 n:Nat) (vs:List Value) (W:World):Prop:=Bw w0 W ∧ RowP W w0.heap.size g c d ∧ ∃ (m:Nat) (o':List Int),vs = [.int .i64 ((m:Int) - 1)] ∧ m ≤ n ∧ o'.length = n ∧ (∀ i,i < n → o'.getD i 0 = if i < m then o.getD i 0 else hPre q x o i) ∧ RowP W w0.heap.size g2 n o'
theorem Through_ok (q:Int) (xs ys:List Int) {xv yv:Value} (hx:Ints w xv xs) (hy:Ints w yv ys) (hT:DbT w) (h0:0 < xs.length)
  (k:∀ w' v b,Bw w w' → OwnI w' w.heap.size v (throughM q xs ys) → K (.tuple #[v,.bool b]) w'):callM Tryz.prog 161 #[.int .i64 q,xv,yv] K w:=by
 apply sh_161_ok
 unfold sh_161
 obtain ⟨xad,xc,rfl⟩:=hx.isSlice
 obtain ⟨yad,yc,rfl⟩:=hy.isSlice
 have hlx:=hx.len
 have hly:=hy.len
 refine points_ok q xs hx hT (fun w1 h1=>?_)
 unfold throughM at k
 have bad:(primeM q && decide (xs.length ≤ 64) && PrSpec.distinct q xs && decide (xs.length = ys.length)) = false → ∀ w',Bw w w' → K (.tuple #[.slice none 0 0,.bool false]) w':=by
  intro hf w' h
  have:=k w' (.slice none 0 0) false h
  rw [hf] at this
  exact this own_none
 cases hp:(primeM q && decide (xs.length ≤ 64) && PrSpec.distinct q xs) with
 | false=>
  repeat (any_goals (first
  | (with_reducible first|refine zD ?_|refine yB ?_|refine yL ?_)
  | ((with_reducible refine oG fun V Z=>?_); simp [go_sem]; apply Z; clear Z V)))
  exact bad (by rw [hp]; rfl) _ h1
 | true=>
 by_cases hlen:¬ xs.length = ys.length
 ·have hlen':¬ (xs.length:Int) = ys.length:=by omega
  repeat (any_goals (first
  | (with_reducible first|refine pureM_in ?_|refine zC ?_|refine yC ?_|refine yL ?_)
  | ((with_reducible refine oG fun V Z=>?_); simp [go_sem,hlen']; apply Z; clear Z V)))
  exact bad (by rw [hp,decide_eq_false hlen]; rfl) _ h1
 have hlen:xs.length = ys.length:=by omega
 have hlen':(xs.length:Int) = ys.length:=by omega
 rw [hp,decide_eq_true hlen] at k
 simp only [Bool.and_self,if_true] at k
 simp only [Bool.and_eq_true,decide_eq_true_eq] at hp
 have hq:=prime_okN hp.1.1
 have h64:=hp.1.2
 clear bad hp
 have hX:∃ b o,xad = some ⟨b,o,none⟩ ∧ ∀ i x,xs[i]? = some x → ∀ w',Bw w w' → w'.cell? ⟨b,o + i,none⟩ = some (.int .i64 x):=by
  obtain ⟨b,o,e,_,_⟩:=hx.at (i:=0) h0
  refine ⟨b,o,e,fun i x hi w' hb=>?_⟩
  obtain ⟨hi1,rfl⟩:=gS hi
  obtain ⟨b2,o2,e2,_,hc,_⟩:=hx.at (i:=i) hi1
  rw [e] at e2
  cases e2
  exact hc _ hb
 obtain ⟨xb,xo,rfl,hXc⟩:=hX
 have hd0:(d0 q ys).length = ys.length:=by simp [d0]
 repeat (any_goals (first
 | (with_reducible first|refine pureM_in ?_|refine zC ?_|refine yC ?_|refine yM ?_)
 | ((with_reducible refine oG fun V Z=>?_); simp [go_sem,hlen']; apply Z; clear Z V)))
 refine ⟨TaJ (d0 q ys) w,(fun vs _=>match vs with | [_,_,.int _ i]=>ys.length - i.toNat | _=>0),⟨h1,_,_,0,rfl,by omega,own_none⟩,?_⟩
 rintro _ _ w2 ⟨h2,u,v,i,rfl,hi,ho⟩
 by_cases hin:¬ i = ys.length
 ·obtain ⟨b,o,rfl,hlb,hcell,hrng,_⟩:=hy.at (i:=i) (by omega)
  have ey:ys[i]? = some ys[i]:=gE (by omega)
  have ed:(d0 q ys)[i]? = some (ys[i] % q):=by unfold d0; rw [List.getElem?_map,ey]; rfl
  generalize ys[i] = y at *
  have hil:(i:Int) < ys.length:=by omega
  repeat (any_goals (first
  | (with_reducible refine yL ?_)
  | ((with_reducible refine oG fun V Z=>?_); simp [go_sem,hcell _ h2,hil]; apply Z; clear Z V)))
  refine residue_ok q y hq ?_
  refine conv_ui hq ?_
  refine mk1 _ (by have a:=Int.emod_nonneg y (show q ≠ 0 by unfold okN at hq; omega); have b:=Int.emod_lt_of_pos y (show 0 < q by unfold okN at hq; omega); unfold okN at hq; unfold I64; omega) (fun v3 w3 h3 hi3=>?_)
  refine append1 (ho.keep h3) (Nat.le_trans h2.size h3.size) hi3 (by simp only [List.length_take]; omega) (fun v4 w4 ho4 h4=>?_)
  repeat (any_goals ((with_reducible refine oG fun V Z=>?_); simp [go_sem]; (try simp (disch:=omega) only [wrapI64,wrapU8,wrapU32,wrapU64]); apply Z; clear Z V))
  refine ⟨⟨(h2.on h3).trans h4,_,_,i + 1,rfl,by omega,?_⟩,by show ys.length - (((i + 1:Nat):Int)).toNat < ys.length - ((i:Nat):Int).toNat; omega⟩
  rw [← take_snoc' ed]
  exact ho4
 have hin:i = ys.length:=by omega
 rw [List.take_of_length_le (by omega)] at ho
 obtain ⟨dad,dc,rfl⟩:=owns_len ho
 obtain ⟨g,rfl,hR⟩:=RowP.of ho (by intro e; rw [e] at hd0; simp at hd0; omega)
 rw [hd0] at *
 clear ho hi
 repeat (any_goals (first
 | (with_reducible refine yM ?_)
 | ((with_reducible refine oG fun V Z=>?_); simp [go_sem,hin]; apply Z; clear Z V)))
 refine ⟨TbJ q xs (d0 q ys) w g dc,(fun vs _=>match vs with | [_,_,_,.int _ k]=>xs.length - k.toNat | _=>0),⟨h2,_,_,_,0,rfl,by omega,hR⟩,?_⟩
 clear hR h2
 rintro _ _ w3 ⟨h3,u0,u1,u2,j,rfl,hj,hR⟩
 have hdl:(dOut q xs j (d0 q ys)).length = xs.length:=by rw [dOut_len]; simp [d0,hlen]
 obtain ⟨kk,hkk⟩:∃ kk:Nat,j + 1 = kk:=⟨_,rfl⟩
 rw [hkk] at hj ⊢
 by_cases hjn:kk < xs.length
 ·have hjn':(kk:Int) < xs.length:=by omega
  repeat (any_goals (first
  | (with_reducible refine yL ?_)
  | ((with_reducible refine oG fun V Z=>?_); simp [go_sem,hjn']; (try simp (disch:=omega) only [wrapI64,wrapU8,wrapU32,wrapU64]); apply Z; clear Z V)))
  refine ⟨TcJ q xs (dOut q xs kk (d0 q ys)) kk w g dc,(fun vs _=>match vs with | [_,_,.int _ i]=>(i + 1).toNat | _=>0),⟨h3,u1,u2,xs.length - kk,_,?_,by omega,hdl,by rw [← hkk]; rfl,hR⟩,?_⟩
  ·have:(xs.length:Int) - 1 = (kk:Int) + ((xs.length - kk:Nat):Int) - 1:=by omega
   rw [this]
   rfl
  clear hR h3
  rintro _ _ w4 ⟨h4,u3,u4,m,d,rfl,hm,hdlen,hdT,hR⟩
  cases m with
  | zero=>
   have hneg:¬ (kk:Int) ≤ (kk:Int) + ((0:Nat):Int) - 1:=by omega
   repeat (any_goals (first
   | (with_reducible refine yO ?_)
   | ((with_reducible refine oG fun V Z=>?_); simp [go_sem,hneg]; (try simp (disch:=omega) only [wrapI64,wrapU8,wrapU32,wrapU64]); apply Z; clear Z V)))
   rw [show d = dOut q xs kk (d0 q ys) from hdT] at hR
   refine ⟨⟨h4,_,_,_,kk,rfl,by omega,hR⟩,by show xs.length - (((kk + 1:Nat):Int)).toNat < xs.length - ((kk:Nat):Int).toNat; omega⟩
  | succ m=>
   obtain ⟨i,hi⟩:∃ i:Nat,i = kk + m:=⟨_,rfl⟩
   have ei:(kk:Int) + ((m + 1:Nat):Int) - 1 = (i:Int):=by omega
   rw [ei]
   have hki:(kk:Int) ≤ (i:Int):=by omega
   obtain ⟨a,ha⟩:∃ a:Nat,a = i - kk:=⟨_,rfl⟩
   obtain ⟨b,hb⟩:∃ b:Nat,b = i - 1:=⟨_,rfl⟩
   have hsub:(i:Int) - (kk:Int) = (a:Int):=by omega
   have hsub1:(i:Int) - 1 = (b:Int):=by omega
   have hix:(i:Int) < xs.length:=by omega
   have hix2:(a:Int) < xs.length:=by omega
   have hix3:(b:Int) < xs.length:=by omega
   have x1:=getD_some (l:=xs) (i:=i) (by omega)
   have x2:=getD_some (l:=xs) (i:=a) (by omega)
   have y1:=getD_some (l:=d) (i:=i) (by omega)
   have y2:=getD_some (l:=d) (i:=b) (by omega)
   have hdn:dNew q xs kk d i = mulM q (subM q (d.getD i 0) (d.getD b 0)) (invO q (subM q (xs.getD i 0) (xs.getD a 0))):=by unfold dNew; rw [hb,ha]
   have hwa:IntKind.i64.wrap (a:Int) = a:=wrapI64 _ (by omega) (by omega)
   have hwb:IntKind.i64.wrap (b:Int) = b:=wrapI64 _ (by omega) (by omega)
   repeat (any_goals (first
   | (with_reducible refine yL ?_)
   | ((with_reducible refine oG fun V Z=>?_); simp [go_sem,hki]; apply Z; clear Z V)))
   have hb9:Below w4.heap.size w4 { w4 with drawn:=w4.drawn + 1 }:=.drawn
   have hR9:=hR.next hb9
   have h9':=h4.on hb9
   refine ⟨Nx { w4 with drawn:=w4.drawn + 1 },Below.refl _ _,rfl,?_⟩
   generalize ({ w4 with drawn:=w4.drawn + 1 }:World) = W9 at hR9 h9' ⊢
   clear hR hb9
   repeat (any_goals (first
   | (with_reducible refine pX ?_)
   | ((with_reducible refine idOH ?_); (with_reducible refine oH_of ⟨_,rfl⟩ (fun W0 hW0=>by (refine oG (fun V Z=>?_)); simp [go_sem,hXc _ _ x1 _ (h9'.on hW0),hXc _ _ x2 _ (h9'.on hW0),hsub,hwa,hix,hix2]; (first | exact Z _ _ ⟨rfl,rfl⟩ | exact ⟨by omega,Z _ _ ⟨rfl,rfl⟩⟩)) ?_))))
   refine ⟨Nx,?_⟩
   apply monoE
   ·intro w5 h5
    exact Sub_ok _ _ _ ⟨h5,Below.refl _ _,rfl⟩
   apply monoE
   ·rintro w5 h5 _ rfl
    exact Inv_ok _ _ (fun w6 h6=>⟨h5.on h6,h6,rfl⟩)
   repeat (apply monoE; focus (intro w9 h9; (repeat (intro v9 e9; try (obtain rfl:=e9))); (repeat (any_goals ((with_reducible refine oG fun V Z=>?_); simp [go_sem]; apply Z; clear Z V))); exact ⟨h9,Below.refl _ _,rfl⟩))
   (intro w9 h9; repeat (intro v9 e9; try (obtain rfl:=e9)))
   have hg0:w.heap.size ≤ g:=hR9.base
   have hb9:Below w9.heap.size w9 { w9 with drawn:=w9.drawn + 1 }:=.drawn
   have hR8:=(hR9.next h9).next hb9
   have h8':=(h9'.on h9).on hb9
   have hdd:(i:Int) < d.length:=by omega
   have hbd:(b:Int) < d.length:=by omega
   have hdl2:d.length = ys.length:=by omega
   refine ⟨Nx { w9 with drawn:=w9.drawn + 1 },Below.refl _ _,rfl,?_⟩
   generalize ({ w9 with drawn:=w9.drawn + 1 }:World) = W8 at hR8 h8' ⊢
   clear hR9 hb9 h9'
   have hiy:(i:Int) < ys.length:=by omega
   have hby:(b:Int) < ys.length:=by omega
   repeat (any_goals (first
   | (with_reducible refine pX ?_)
   | ((with_reducible refine idOH ?_); (with_reducible refine oH_of ⟨_,rfl⟩ (fun W0 hW0=>by (refine oG (fun V Z=>?_)); simp [go_sem,(hR8.next hW0).cell y1,(hR8.next hW0).cell y2,hsub1,hwb,hiy,hby]; (first | exact Z _ _ ⟨rfl,rfl⟩ | exact ⟨by omega,Z _ _ ⟨rfl,rfl⟩⟩)) ?_))))
   refine ⟨Nx,?_⟩
   apply monoE
   ·intro w5 h5
    exact Sub_ok _ _ _ ⟨h5,Below.refl _ _,rfl⟩
   apply monoE
   ·rintro w5 h5 _ rfl
    exact Mul_ok _ _ _ (fun w6 h6=>⟨h5.on h6,h6,rfl⟩)
   rintro w10 h10 _ rfl _ rfl
   repeat (any_goals ((with_reducible refine oG fun V Z=>?_); simp [go_sem,hiy]; apply Z; clear Z V))
   have hv:mulM q (subM q (d[i]?.getD 0) (d[b]?.getD 0)) ((invM q (subM q (xs[i]?.getD 0) (xs[a]?.getD 0))).getD 0) = dNew q xs kk d i:=by
    rw [hdn]
    simp [invO,List.getD_eq_getElem?_getD]
   rw [hv]
   refine (hR8.next h10).set (i:=i) (by omega) (fun W12 hg12 hR12=>?_)
   have h12:=(h8'.on h10).grown hg12 (Nat.le_trans h8'.size h10.size) (fun jj hjj=>by cases hjj; exact hg0)
   repeat (any_goals ((with_reducible refine oG fun V Z=>?_); simp [go_sem,hsub1,hwb]; apply Z; clear Z V))
   have ec:(b:Int) = (kk:Int) + m - 1:=by omega
   rw [ec]
   refine ⟨⟨h12,_,_,m,d.set i (dNew q xs kk d i),rfl,by omega,by rw [List.length_set]; exact hdlen,by rw [← hdT,hi]; rfl,hR12⟩,?_⟩
   show ((kk:Int) + m - 1 + 1).toNat < ((i:Int) + 1).toNat
   omega
 have hkn:kk = xs.length:=by omega
 rw [show j = xs.length - 1 by omega] at hR
 generalize hD:dOut q xs (xs.length - 1) (d0 q ys) = D at *
 have hDl:D.length = xs.length:=by rw [← hD,dOut_len]; simp [d0,hlen]
 have hjn':¬ (kk:Int) < xs.length:=by omega
 repeat (any_goals (first
 | (with_reducible refine yM ?_)
 | ((with_reducible refine oG fun V Z=>?_); simp [go_sem,hjn']; apply Z; clear Z V)))
 refine make_ints (by omega) (fun g2 w5 h5 hg2 hO=>?_)
 have hne:g ≠ g2:=by have:=hR.lt; omega
 have hR:=hR.next h5
 have h5':=h3.on h5
 have hO:RowP w5 w.heap.size g2 xs.length (List.replicate xs.length 0):=⟨hO.cells,hO.le,Nat.le_trans h3.size hO.base,hO.max⟩
 have hg0:w.heap.size ≤ g2:=hO.base
 repeat (any_goals ((with_reducible refine oG fun V Z=>?_); simp [go_sem]; (try simp (disch:=omega) only [wrapI64,wrapU8,wrapU32,wrapU64]); apply Z; clear Z V))
 refine ⟨TdJ q xs D (hAll q xs D xs.length (List.replicate xs.length 0)) w g dc g2 xs.length,(fun vs _=>match vs with | [_,.int _ i]=>(i + 1).toNat | _=>0),⟨h5',hR,_,xs.length,_,rfl,Nat.le_refl _,by simp,rfl,hO⟩,?_⟩
 clear hR hO h5' h5 h3 hg2
 rintro _ _ w6 ⟨h6,hR6,u,m,o,rfl,hm,hol,hoT,hO6⟩
 cases m with
 | zero=>
  have hneg:¬ (0:Int) ≤ ((0:Nat):Int) - 1:=by omega
  repeat (any_goals (first
  | (with_reducible refine yM ?_)
  | ((with_reducible refine oG fun V Z=>?_); simp [go_sem,hneg]; apply Z; clear Z V)))
  have hoo:=hO6.owns
  rw [hol,show o = thr q xs ys by unfold thr; rw [hD]; exact hoT] at hoo
  exact k _ _ _ h6 hoo
 | succ m=>
  have ei:((m + 1:Nat):Int) - 1 = (m:Int):=by omega
  rw [ei]
  have hpos:(0:Int) ≤ (m:Int):=by omega
  repeat (any_goals (first
  | (with_reducible refine yL ?_)
  | ((with_reducible refine oG fun V Z=>?_); simp [go_sem,hpos]; (try simp (disch:=omega) only [wrapI64,wrapU8,wrapU32,wrapU64]); apply Z; clear Z V)))
  refine ⟨TeJ q (xs.getD m 0) o D w g dc g2 xs.length,(fun vs _=>match vs with | [.int _ i]=>(i + 1).toNat | _=>0),⟨h6,hR6,xs.length,o,rfl,Nat.le_refl _,hol,fun i hi=>by rw [if_pos hi],hO6⟩,?_⟩
  clear hR6 hO6 h6
  rintro _ _ w7 ⟨h7,hR7,m2,o',rfl,hm2,hol',hval,hO7⟩
  have hb9:Below w7.heap.size w7 { w7 with drawn:=w7.drawn + 1 }:=.drawn
  have hmx:(m:Int) < xs.length:=by omega
  have hmy:(m:Int) < ys.length:=by omega
  have x1:=getD_some (l:=xs) (i:=m) (by omega)
  cases m2 with
  | zero=>
   have hneg:¬ (0:Int) ≤ ((0:Nat):Int) - 1:=by omega
   have h0x:(0:Int) < xs.length:=by omega
   repeat (any_goals (first
   | (with_reducible refine yM ?_)
   | ((with_reducible refine oG fun V Z=>?_); simp [go_sem,hneg]; apply Z; clear Z V)))
   have hR8:=hR7.next hb9
   have hO8:=hO7.next hb9
   have h8:=h7.on hb9
   refine ⟨Nx { w7 with drawn:=w7.drawn + 1 },Below.refl _ _,rfl,?_⟩
   generalize ({ w7 with drawn:=w7.drawn + 1 }:World) = W8 at hR8 hO8 h8 ⊢
   have y1:=getD_some (l:=D) (i:=m) (by omega)
   have y2:=getD_some (l:=o') (i:=0) (by omega)
   repeat (any_goals (first
   | (with_reducible refine pX ?_)
   | ((with_reducible refine idOH ?_); (with_reducible refine oH_of ⟨_,rfl⟩ (fun W0 hW0=>by (refine oG (fun V Z=>?_)); simp [go_sem,(hR8.next hW0).cell y1,(hO8.next hW0).cell y2,hmy,h0x]; (first | exact Z _ _ ⟨rfl,rfl⟩ | exact ⟨by omega,Z _ _ ⟨rfl,rfl⟩⟩)) ?_))))
   refine ⟨Nx,?_⟩
   apply monoE
   ·intro w9 h9
    exact Add_ok _ _ _ ⟨h9,Below.refl _ _,rfl⟩
   rintro w10 h10 _ rfl
   repeat (any_goals ((with_reducible refine oG fun V Z=>?_); simp [go_sem,h0x]; refine And.intro (by omega) (Z _ _ ?_); clear Z V))
   have hv:addM q (o'[0]?.getD 0) (D[m]?.getD 0) = addM q (o'.getD 0 0) (D.getD m 0):=by simp [List.getD_eq_getElem?_getD]
   rw [hv]
   refine (hO8.next h10).set (i:=0) (by omega) (fun W12 hg12 hO12=>?_)
   rw [hPre_step (x:=xs.getD m 0) (o:=o) (by omega) (by omega) (fun i hi=>by have:=hval i (by omega); rw [if_neg (by omega)] at this; exact this)] at hO12
   have h12:=(h8.on h10).grown hg12 (Nat.le_trans h8.size h10.size) (fun jj hjj=>by cases hjj; exact hg0)
   have hR12:=(hR8.next h10).other hg12 (by intro e; cases e; exact hne rfl)
   repeat (any_goals ((with_reducible refine oG fun V Z=>?_); simp [go_sem]; (try simp (disch:=omega) only [wrapI64,wrapU8,wrapU32,wrapU64]); apply Z; clear Z V))
   refine ⟨⟨h12,hR12,_,m,_,rfl,by omega,by simp [hStep]; omega,hoT,hO12⟩,?_⟩
   show ((m:Int) - 1 + 1).toNat < ((m:Int) + 1).toNat
   omega
  | succ m2=>
   have ei2:((m2 + 1:Nat):Int) - 1 = (m2:Int):=by omega
   rw [ei2]
   have hpos2:(0:Int) ≤ (m2:Int):=by omega
   have hm2x:(m2:Int) < xs.length:=by omega
   repeat (any_goals (first
   | (with_reducible refine yL ?_)
   | ((with_reducible refine oG fun V Z=>?_); simp [go_sem,hpos2]; apply Z; clear Z V)))
   refine ⟨fun _ W=>Bw w W ∧ RowP W w.heap.size g dc D ∧ RowP W w.heap.size g2 xs.length (o'.set m2 (hPre q (xs.getD m 0) o m2)),?_,?_⟩
   ·have hR8:=hR7.next hb9
    have hO8:=hO7.next hb9
    have h8:=h7.on hb9
    refine ⟨Nx { w7 with drawn:=w7.drawn + 1 },Below.refl _ _,rfl,?_⟩
    generalize ({ w7 with drawn:=w7.drawn + 1 }:World) = W8 at hR8 hO8 h8 ⊢
    have y2:=getD_some (l:=o') (i:=m2) (by omega)
    repeat (any_goals (first
    | (with_reducible refine pX ?_)
    | ((with_reducible refine idOH ?_); (with_reducible refine oH_of ⟨_,rfl⟩ (fun W0 hW0=>by (refine oG (fun V Z=>?_)); simp [go_sem,hXc _ _ x1 _ (h8.on hW0),(hO8.next hW0).cell y2,hmx,hm2x]; (first | exact Z _ _ ⟨rfl,rfl⟩ | exact ⟨by omega,Z _ _ ⟨rfl,rfl⟩⟩)) ?_))))
    refine ⟨Nx,?_⟩
    apply monoE
    ·intro w9 h9
     exact Mul_ok _ _ _ (fun w6 h6=>⟨h9.on h6,h6,rfl⟩)
    apply monoE
    ·rintro w9 h9 _ rfl
     exact Sub_ok _ _ _ ⟨h9,Below.refl _ _,rfl⟩
    rintro w10 h10 _ rfl _ rfl
    repeat (any_goals ((with_reducible refine oG fun V Z=>?_); simp [go_sem,hm2x]; apply Z; clear Z V))
    have hv2:=hval m2 (by omega)
    rw [if_pos (by omega)] at hv2
    have hv:subM q 0 (mulM q (o'[m2]?.getD 0) (xs[m]?.getD 0)) = subM q 0 (mulM q (o.getD m2 0) (xs.getD m 0)):=by rw [← hv2]; simp [List.getD_eq_getElem?_getD]
    rw [hv]
    refine (hO8.next h10).set (i:=m2) (by omega) (fun W12 hg12 hO12=>?_)
    have h12:=(h8.on h10).grown hg12 (Nat.le_trans h8.size h10.size) (fun jj hjj=>by cases hjj; exact hg0)
    have hR12:=(hR8.next h10).other hg12 (by intro e; cases e; exact hne rfl)
    by_cases hz:m2 = 0
    ·have hz':¬ (0:Int) < (m2:Int):=by omega
     repeat (any_goals (first
     | (with_reducible refine yO ?_)
     | ((with_reducible refine oG fun V Z=>?_); simp [go_sem,hz']; apply Z; clear Z V)))
     refine ⟨h12,hR12,?_⟩
     unfold hPre
     rw [if_pos hz,hz]
     rw [hz] at hO12
     exact hO12
    ·have hz':(0:Int) < (m2:Int):=by omega
     repeat (any_goals (first
     | (with_reducible refine yN ?_)
     | ((with_reducible refine oG fun V Z=>?_); simp [go_sem,hz']; apply Z; clear Z V)))
     obtain ⟨b,hb⟩:∃ b:Nat,b = m2 - 1:=⟨_,rfl⟩
     have hsub1:(m2:Int) - 1 = (b:Int):=by omega
     have hwb:IntKind.i64.wrap (b:Int) = b:=wrapI64 _ (by omega) (by omega)
     have hbx:(b:Int) < xs.length:=by omega
     have hbl:Below W12.heap.size W12 { W12 with drawn:=W12.drawn + 1 }:=.drawn
     have hR13:=hR12.next hbl
     have hO13:=hO12.next hbl
     have h13:=h12.on hbl
     have y3:=getD_some (l:=o'.set m2 (subM q 0 (mulM q (o.getD m2 0) (xs.getD m 0)))) (i:=m2) (by rw [List.length_set]; omega)
     have y4:=getD_some (l:=o'.set m2 (subM q 0 (mulM q (o.getD m2 0) (xs.getD m 0)))) (i:=b) (by rw [List.length_set]; omega)
     rw [getD_set _ _ _ _ (by omega),if_pos rfl] at y3
     have hvb:=hval b (by omega)
     rw [if_pos (by omega)] at hvb
     rw [getD_set _ _ _ _ (by omega),if_neg (by omega),hvb] at y4
     refine ⟨Nx { W12 with drawn:=W12.drawn + 1 },Below.refl _ _,rfl,?_⟩
     generalize ({ W12 with drawn:=W12.drawn + 1 }:World) = W13 at hR13 hO13 h13 ⊢
     repeat (any_goals (first
     | (with_reducible refine pX ?_)
     | ((with_reducible refine idOH ?_); (with_reducible refine oH_of ⟨_,rfl⟩ (fun W0 hW0=>by (refine oG (fun V Z=>?_)); simp [go_sem,(hO13.next hW0).cell y3,(hO13.next hW0).cell y4,hsub1,hwb,hbx,hm2x]; (first | exact Z _ _ ⟨rfl,rfl⟩ | exact ⟨by omega,Z _ _ ⟨rfl,rfl⟩⟩)) ?_))))
     refine ⟨Nx,?_⟩
     apply monoE
     ·intro w9 h9
      exact Add_ok _ _ _ ⟨h9,Below.refl _ _,rfl⟩
     rintro w14 h14 _ rfl
     repeat (any_goals ((with_reducible refine oG fun V Z=>?_); simp [go_sem,hm2x]; apply Z; clear Z V))
     refine (hO13.next h14).set (i:=m2) (by rw [List.length_set]; omega) (fun W15 hg15 hO15=>?_)
     rw [List.set_set] at hO15
     skip
     refine ⟨(h13.on h14).grown hg15 (Nat.le_trans h13.size h14.size) (fun jj hjj=>by cases hjj; exact hg0),(hR13.next h14).other hg15 (by intro e; cases e; exact hne rfl),?_⟩
     unfold hPre
     rw [if_neg hz,← hb]
     simpa [List.getD_eq_getElem?_getD] using hO15
   ·rintro _ _ w9 ⟨h9,hR9,hO9⟩
    repeat (any_goals ((with_reducible refine oG fun V Z=>?_); simp [go_sem]; (try simp (disch:=omega) only [wrapI64,wrapU8,wrapU32,wrapU64]); apply Z; clear Z V))
    refine ⟨⟨h9,hR9,m2,_,rfl,by omega,by rw [List.length_set]; exact hol',fun i hi=>?_,hO9⟩,?_⟩
    ·rw [getD_set _ _ _ _ (by omega)]
     by_cases him:i = m2
     ·rw [if_pos him,if_neg (by omega),him]
     ·rw [if_neg him,hval i hi]
      by_cases hlt:i < m2
      ·rw [if_pos (by omega),if_pos hlt]
      ·rw [if_neg (by omega),if_neg hlt]
    ·show ((m2:Int) - 1 + 1).toNat < ((m2:Int) + 1).toNat
     omega
end
end Go.Proofs
namespace Go.Proofs
open Go Go.Sh Go.RowKit FdSpec TkSpec CodeSpec PrSpec FdPoly
section
variable {K:VK} {w w' w0 W W':World} {L:List (Addr × Value)} {g n B:Nat} {row:Option Nat}
def rowI (T l:List Int) (i:Nat):List Int:=T.take i ++ l.drop i
theorem rowI_len {T l:List Int} {i:Nat} (h:T.length = l.length) (hi:i ≤ l.length):(rowI T l i).length = l.length:=by
 unfold rowI; rw [List.length_append,List.length_take,List.length_drop]; omega
theorem rowI_at {T l:List Int} {i:Nat} (h:T.length = l.length) (hi:i < l.length):(rowI T l i)[i]? = l[i]?:=by
 unfold rowI
 rw [List.getElem?_append_right (by rw [List.length_take]; omega),List.length_take,Nat.min_eq_left (by omega),Nat.sub_self,List.getElem?_drop,Nat.add_zero]
theorem rowI_set {T l:List Int} {i:Nat} {x:Int} (h:T.length = l.length) (hi:i < l.length) (hx:T[i]? = some x):(rowI T l i).set i x = rowI T l (i + 1):=by
 unfold rowI
 rw [List.set_append,if_neg (by rw [List.length_take]; omega),List.length_take,Nat.min_eq_left (by omega),Nat.sub_self,List.drop_eq_getElem_cons hi,List.set_cons_zero,List.take_add_one,hx,List.append_assoc]
 rfl
def SfJ (T l:List Int) (v:Value) (w0:World) (vs:List Value) (W:World):Prop:=Bw w0 W ∧ ∃ (u0 u1:Value) (i:Nat),vs = [u0,u1,.int .i64 (i:Int)] ∧ i ≤ l.length ∧ OwnI W w0.heap.size v (rowI T l i)
theorem shift_ok (q f:Int) (nums vals:List Int) {nv vv:Value} (hn:Ints w nv nums) (hv:Ints w vv vals) (hlen:vals.length = nums.length) (hmax:nums.length < 100000)
  (k:∀ v w',Bw w w' → OwnI w' w.heap.size v (shiftM q nums f vals) → K v w'):callM Tryz.prog 97 #[.int .i64 q,nv,.int .i64 f,vv] K w:=by
 apply sh_97_ok
 unfold sh_97
 obtain ⟨vad,vc,rfl⟩:=hv.isSlice
 have hlv:=hv.len
 refine Clone_ok hn (by omega) (fun v' w1 ho1 h1 hb1=>?_)
 have ho:OwnI w1 w.heap.size v' nums:=owns_up ho1 hb1
 have hTl:(shiftM q nums f vals).length = nums.length:=by unfold shiftM; rw [List.length_map,List.length_zip]; omega
 obtain ⟨oad,oc,rfl⟩:=owns_len ho
 repeat (any_goals ((with_reducible refine oG fun V Z=>?_); simp [go_sem]; apply Z; clear Z V))
 refine ⟨SfJ (shiftM q nums f vals) nums (.slice oad nums.length oc) w,(fun vs _=>match vs with | [_,_,.int _ i]=>nums.length - i.toNat | _=>0),⟨h1,_,_,0,rfl,by omega,by simpa [rowI] using ho⟩,?_⟩
 clear ho ho1 hb1 h1
 rintro _ _ w2 ⟨h2,u0,u1,i,rfl,hi,ho⟩
 by_cases hin:¬ i = nums.length
 ·have hil:i < nums.length:=by omega
  obtain ⟨b,o,rfl,hlb,hcell,hrng,_⟩:=hv.at (i:=i) (by omega)
  have ev:vals[i]? = some vals[i]:=gE (by omega)
  have en:nums[i]? = some nums[i]:=gE hil
  have eT:(shiftM q nums f vals)[i]? = some (addM q nums[i] (mulM q f vals[i])):=by
   unfold shiftM
   rw [List.getElem?_map,List.getElem?_zip_eq_some (z:=(nums[i],vals[i])) |>.2 ⟨en,ev⟩]
   rfl
  have hrl:=rowI_len (i:=i) hTl (by omega)
  have hra:=rowI_at hTl hil
  have hset:=rowI_set hTl hil eT
  rw [en] at hra
  generalize vals[i] = y at *
  generalize nums[i] = x at *
  generalize rowI (shiftM q nums f vals) nums i = r at *
  have hne:r ≠ []:=by intro e; rw [e] at hrl; simp at hrl; omega
  have ho:OwnI w2 w.heap.size (.slice oad r.length oc) r:=by rw [hrl]; exact ho
  obtain ⟨g,rfl,hR⟩:=RowP.of ho hne
  have hg0:=hR.base
  have hiv:(i:Int) < vals.length:=by omega
  have hin':(i:Int) < nums.length:=by omega
  repeat (any_goals (first
  | (with_reducible refine yL ?_)
  | ((with_reducible refine oG fun V Z=>?_); simp [go_sem,hcell _ h2,hiv]; apply Z; clear Z V)))
  have hb9:Below w2.heap.size w2 { w2 with drawn:=w2.drawn + 1 }:=.drawn
  have hR9:=hR.next hb9
  have h9':=h2.on hb9
  refine ⟨Nx { w2 with drawn:=w2.drawn + 1 },Below.refl _ _,rfl,?_⟩
  generalize ({ w2 with drawn:=w2.drawn + 1 }:World) = W9 at hR9 h9' ⊢
  repeat (any_goals (first
  | (with_reducible refine pX ?_)
  | ((with_reducible refine idOH ?_); (with_reducible refine oH_of ⟨_,rfl⟩ (fun W0 hW0=>by (refine oG (fun V Z=>?_)); simp [go_sem,(hR9.next hW0).cell hra,hin']; (first | exact Z _ _ ⟨rfl,rfl⟩ | exact ⟨by omega,Z _ _ ⟨rfl,rfl⟩⟩)) ?_))))
  refine ⟨Nx,?_⟩
  apply monoE
  ·intro w5 h5
   exact Mul_ok _ _ _ (fun w6 h6=>⟨h5.on h6,h6,rfl⟩)
  apply monoE
  ·rintro w5 h5 _ rfl
   exact Add_ok _ _ _ ⟨h5,Below.refl _ _,rfl⟩
  rintro w10 h10 _ rfl _ rfl
  repeat (any_goals ((with_reducible refine oG fun V Z=>?_); simp [go_sem,hin']; apply Z; clear Z V))
  refine (hR9.next h10).set (i:=i) (by omega) (fun W12 hg12 hR12=>?_)
  have h12:=(h9'.on h10).grown hg12 (Nat.le_trans h9'.size h10.size) (fun jj hjj=>by cases hjj; exact hg0)
  repeat (any_goals ((with_reducible refine oG fun V Z=>?_); simp [go_sem]; (try simp (disch:=omega) only [wrapI64,wrapU8,wrapU32,wrapU64]); apply Z; clear Z V))
  rw [hset] at hR12
  have hoo:=hR12.owns
  rw [rowI_len (i:=i + 1) hTl (by omega)] at hoo
  exact ⟨⟨h12,_,_,i + 1,rfl,by omega,hoo⟩,by show nums.length - (((i + 1:Nat):Int)).toNat < nums.length - ((i:Nat):Int).toNat; omega⟩
 have hin:i = nums.length:=by omega
 have hiv:¬ (i:Int) < vals.length:=by omega
 repeat (any_goals (first
 | (with_reducible refine yM ?_)
 | ((with_reducible refine oG fun V Z=>?_); simp [go_sem,hiv]; apply Z; clear Z V)))
 have e:rowI (shiftM q nums f vals) nums i = shiftM q nums f vals:=by
  unfold rowI
  rw [List.take_of_length_le (by omega),List.drop_of_length_le (by omega),List.append_nil]
 rw [e] at ho
 exact k _ _ h2 ho
end
end Go.Proofs
namespace Go.Proofs
open Go.Sh Tryz
def sh_95t (a0 a1 a2 a3:Value) (K:VK) (w:World):Prop:=
 oM prog (.box 26 (.tmp 0)) 0 [a0] (fun v4 w=>
 oM prog (.buildSlice 24 1 #[(0,(.tmp 0))]) 24 [(.int .i64 0)] (fun v17 w=>
 oM prog (.buildSlice 24 1 #[(0,(.tmp 0))]) 24 [a3] (fun v19 w=>
 kN 61 a1 (fun v21 w=>
 loopM [undef,undef,v17,v19,(.int .i64 0)] w (fun J_5 m_6 l_7 u_l_7 w0_l_7=>(fun w=>(
 kB .lss 3 0 (l_7.getD 4 undef) v21 (fun v23 w=>
 condM v23
 (joinM (fun M_9=>(kI 61 a1 (l_7.getD 4 undef) (fun v25 w=>
 kL 4 v25 (fun v26 w=>
 kU v26 (fun v28 w=>
 condM v28
 (heldM w (fun C_14 w=>(pureH (l_7.getD 2 undef) C_14 (fun v29=>
 pureH (l_7.getD 4 undef) C_14 (fun v30=>
 jB .add 3 3 v30 (.int .i64 1) C_14 (fun v31=>
 pureH (l_7.getD 3 undef) C_14 (fun v34=>
 pureH a2 C_14 (fun v35=>
 pureH (l_7.getD 4 undef) C_14 (fun v36=>
 jI 24 v35 v36 C_14 (fun v37=>
 jL 3 v37 C_14 (fun v38=>
 (oM prog (.buildSlice 24 1 #[(0,(.tmp 0))]) 24 [v31] (fun v32 w=>C_14 w ∧ (
 (oM prog (.call (Go.Call.mk (.builtin .append) #[(.tmp 0),(.tmp 1)] #[24,24])) 24 [v29,v32] (fun v33 w=>C_14 w ∧ (
 oM prog (.buildSlice 24 1 #[(0,(.tmp 0))]) 24 [v38] (fun v39 w=>C_14 w ∧ (
 oM prog (.call (Go.Call.mk (.builtin .append) #[(.tmp 0),(.tmp 1)] #[24,24])) 24 [v34,v39] (fun v40 w=>C_14 w ∧ (
 C_14 w ∧ (C_14 w ∧ (M_9 [(l_7.getD 4 undef),v26,v33,v40] w)))) w)) w)) w) ∧
 (oM prog (.buildSlice 24 1 #[(0,(.tmp 0))]) 24 [v38] (fun v39 w=>C_14 w ∧ (
 oM prog (.call (Go.Call.mk (.builtin .append) #[(.tmp 0),(.tmp 1)] #[24,24])) 24 [v29,v32] (fun v33 w=>C_14 w ∧ (
 oM prog (.call (Go.Call.mk (.builtin .append) #[(.tmp 0),(.tmp 1)] #[24,24])) 24 [v34,v39] (fun v40 w=>C_14 w ∧ (
 C_14 w ∧ (C_14 w ∧ (M_9 [(l_7.getD 4 undef),v26,v33,v40] w)))) w)) w)) w))) w) ∧
 (oM prog (.buildSlice 24 1 #[(0,(.tmp 0))]) 24 [v38] (fun v39 w=>C_14 w ∧ (
 oM prog (.buildSlice 24 1 #[(0,(.tmp 0))]) 24 [v31] (fun v32 w=>C_14 w ∧ (
 oM prog (.call (Go.Call.mk (.builtin .append) #[(.tmp 0),(.tmp 1)] #[24,24])) 24 [v29,v32] (fun v33 w=>C_14 w ∧ (
 oM prog (.call (Go.Call.mk (.builtin .append) #[(.tmp 0),(.tmp 1)] #[24,24])) 24 [v34,v39] (fun v40 w=>C_14 w ∧ (
 C_14 w ∧ (C_14 w ∧ (M_9 [(l_7.getD 4 undef),v26,v33,v40] w)))) w)) w)) w)) w))))))))))))
 (M_9 [(l_7.getD 4 undef),v26,(l_7.getD 2 undef),(l_7.getD 3 undef)] w)) w) w) w))
 (fun l_10 u_l_10 w=>(kB .add 3 3 (l_7.getD 4 undef) (.int .i64 1) (fun v41 w=>
 J_5 [(l_10.getD 0 undef),(l_10.getD 1 undef),(l_10.getD 2 undef),(l_10.getD 3 undef),v41] w ∧ m_6 [(l_10.getD 0 undef),(l_10.getD 1 undef),(l_10.getD 2 undef),(l_10.getD 3 undef),v41] w < m_6 l_7 w0_l_7) w)))
 (kF 26 0 v4 (fun v43 w=>
 kF 23 1 v43 (fun v44 w=>
 kL 3 v44 (fun v45 w=>
 callM prog 161 #[v45,(l_7.getD 2 undef),(l_7.getD 3 undef)] (fun v48 w=>
 kE 0 24 v48 (fun v49 w=>
 kE 1 4 v48 (fun v50 w=>
 kN 61 a1 (fun v52 w=>
 loopM [undef,(.slice none 0 0),(.int .i64 0)] w (fun J_48 m_49 l_50 u_l_50 w0_l_50=>(fun w=>(
 kB .lss 3 0 (l_50.getD 2 undef) v52 (fun v54 w=>
 condM v54
 (kF 26 0 v4 (fun v57 w=>
 kF 23 1 v57 (fun v58 w=>
 kL 3 v58 (fun v59 w=>
 kB .add 3 3 (l_50.getD 2 undef) (.int .i64 1) (fun v62 w=>
 callM prog 162 #[v59,v49,v62] (fun v63 w=>
 oM prog (.buildSlice 24 1 #[(0,(.tmp 0))]) 24 [v63] (fun v64 w=>
 oM prog (.call (Go.Call.mk (.builtin .append) #[(.tmp 0),(.tmp 1)] #[24,24])) 24 [(l_50.getD 1 undef),v64] (fun v65 w=>
 kB .add 3 3 (l_50.getD 2 undef) (.int .i64 1) (fun v66 w=>
 J_48 [(l_50.getD 2 undef),v65,v66] w ∧ m_49 [(l_50.getD 2 undef),v65,v66] w < m_49 l_50 w0_l_50) w) w) w) w) w) w) w) w)
 (K (l_50.getD 1 undef) w)) w)) w0_l_50)) w) w) w) w) w) w) w)) w)) w0_l_7)) w) w) w) w
theorem sh_95t_ok {a0 a1 a2 a3:Value} {K:VK} {w:World} (h:sh_95t a0 a1 a2 a3 K w):callM prog 95 #[a0,a1,a2,a3] K w:=
 calls_of_code (fun _=>.tree (.look 0 (.look 1 (.look 2 (.look 5 (.look 6 (.look 7 (.look 8 (.look 9 (.alt 3 (.alt 4 (.only 10 (.only 11 (.only 12 (.only 13 (.done))))) (.only 10 (.only 4 (.only 11 (.only 12 (.only 13 (.done))))))) (.only 10 (.only 3 (.only 4 (.only 11 (.only 12 (.only 13 (.done))))))))))))))))) (fn:=Tryz.f95) (rs:=[.tmp 8]) Tryz.func95 rfl rfl (by kernel_rfl) (nB rfl) (Eq.mp (by kernel_rfl) h)
end Go.Proofs
namespace Go.Proofs
open FdSpec TkSpec CodeSpec PrSpec FdPoly
theorem ptsX_snoc (b:Bool):∀ (bs:List Bool) (k:Nat),ptsX k (bs ++ [b]) = ptsX k bs ++ (if b then [] else [((k + bs.length:Nat):Int) + 1])
 | [],k=>by cases b <;> simp [ptsX]
 | c :: bs,k=>by
  rw [List.cons_append]
  unfold ptsX
  rw [ptsX_snoc b bs (k + 1)]
  have e:((k + 1 + bs.length:Nat):Int) = ((k + (bs.length + 1):Nat):Int):=by omega
  rw [List.length_cons,e]
  cases c <;> simp
theorem ptsY_snoc (b:Bool) (d:Int):∀ (bs:List Bool) (ds:List Int),ds.length = bs.length → ptsY (bs ++ [b]) (ds ++ [d]) = ptsY bs ds ++ (if b then [] else [d])
 | [],[],_=>by cases b <;> simp [ptsY]
 | c :: bs,e :: ds,h=>by
  rw [List.cons_append,List.cons_append]
  unfold ptsY
  rw [ptsY_snoc b d bs ds (by simpa using h)]
  cases c <;> simp
 | [],_ :: _,h=>by simp at h
 | _ :: _,[],h=>by simp at h
theorem ptsX_le:∀ (bs:List Bool) (k:Nat),∀ n ∈ ptsX k bs,0 ≤ n ∧ n ≤ (k + bs.length:Nat)
 | [],k,n,h=>by simp [ptsX] at h
 | c :: bs,k,n,h=>by
  have ih:=ptsX_le bs (k + 1) n
  unfold ptsX at h
  rw [List.length_cons]
  cases c
  ·rw [if_neg (by simp)] at h
   rcases List.mem_cons.1 h with rfl | h
   ·omega
   ·have:=ih h; omega
  ·rw [if_pos rfl] at h
   have:=ih h; omega
theorem ptsX_len:∀ (bs:List Bool) (k:Nat),(ptsX k bs).length ≤ bs.length
 | [],k=>by simp [ptsX]
 | c :: bs,k=>by
  have ih:=ptsX_len bs (k + 1)
  unfold ptsX
  cases c <;> simp <;> omega
theorem ptsY_mem:∀ (bs:List Bool) (ds:List Int),∀ n ∈ ptsY bs ds,n ∈ ds
 | [],_,n,h=>by simp [ptsY] at h
 | _ :: _,[],n,h=>by simp [ptsY] at h
 | c :: bs,d :: ds,n,h=>by
  have ih:=ptsY_mem bs ds n
  unfold ptsY at h
  cases c
  ·rw [if_neg (by simp)] at h
   rcases List.mem_cons.1 h with rfl | h
   ·simp
   ·exact List.mem_cons_of_mem _ (ih h)
  ·rw [if_pos rfl] at h
   exact List.mem_cons_of_mem _ (ih h)
theorem ptsY_len:∀ (bs:List Bool) (ds:List Int),(ptsY bs ds).length ≤ bs.length
 | [],_=>by simp [ptsY]
 | _ :: _,[]=>by simp [ptsY]
 | c :: bs,d :: ds=>by
  have ih:=ptsY_len bs ds
  unfold ptsY
  cases c <;> simp <;> omega
theorem hAll_in {P:Int → Prop} {q:Int} (hP:∀ a b,P (addM q a b)) (xs d:List Int):∀ (m:Nat) (o:List Int),(∀ n ∈ o,P n) → ∀ n ∈ hAll q xs d m o,P n
 | 0,o,h=>h
 | m + 1,o,h=>by
  unfold hAll
  refine hAll_in hP xs d m _ (fun n hn=>?_)
  unfold hStep at hn
  obtain ⟨i,_,rfl⟩:=List.mem_map.1 hn
  unfold hNew
  split
  ·exact hP _ _
  ·exact hP _ _
theorem through_in {P:Int → Prop} {q:Int} (hP:∀ a b,P (addM q a b)) (h0:P 0) (xs ys:List Int):∀ n ∈ throughM q xs ys,P n:=by
 unfold throughM
 split
 ·unfold thr
  refine hAll_in hP _ _ _ _ (fun n hn=>?_)
  rw [List.mem_replicate] at hn
  rw [hn.2]; exact h0
 ·intro n hn; cases hn
theorem through_len (q:Int) (xs ys:List Int):(throughM q xs ys).length ≤ xs.length:=by
 unfold throughM
 split
 ·rw [thr_len]; omega
 ·simp
end Go.Proofs
namespace Go.Proofs
open Go Go.Sh Tryz
end Go.Proofs
namespace Go.Proofs
open Go Go.Sh Go.RowKit FdSpec TkSpec CodeSpec PrSpec
section
variable {K:VK} {w w' w0 W:World} {L:List (Addr × Value)}
theorem FewSetup_ok (s:Stp) {v:Value} (hs:SetR w s v) (k:∀ w',Bw w w' → K (.bool (decide ((s.bases.length:Int) ≤ 9))) w'):callM Tryz.prog 39 #[stpV s v] K w:=by
 apply sh_39_ok
 unfold sh_39
 obtain ⟨ad,c,rfl⟩:=hs.ints.isSlice
 refine box_kn (cs:=stpC s (.slice ad s.bases.length c)) rfl (.start w) fun b1 W hk hb1 hbb=>?_
 have k:=k _ hk.below
 generalize hq:decide ((s.bases.length:Int) ≤ 9) = q at *
 repeat (any_goals ((with_reducible refine oG fun V Z=>?_); simp [go_sem,hk.cells]; apply Z; clear Z V))
 rw [hq]
 exact k
end
end Go.Proofs
namespace Go.Proofs
open Go Go.Sh Tryz
end Go.Proofs
namespace Go.Proofs
open Go Go.Sh Go.RowKit FdSpec TkSpec CodeSpec PrSpec
section
variable {K:VK} {w w' w0 W:World} {L:List (Addr × Value)}
def BoolR (_:World) (v:Value) (b:Bool):Prop:=v = .bool b
abbrev BoolsR (w:World) (v:Value) (l:List Bool):Prop:=SRow 1 (AtOf 1 (VOne BoolR)) w v l
theorem bools_vstay:VStay (VOne BoolR):=fun _ _ _ _ h _=>h
@[go_sem] theorem idx_bools (T:TypeId) (b o n c:Nat) (x:Int):oM Tryz.prog (.indexAddr 61 (.tmp 0) (.tmp 1)) T [.slice (some ⟨b,o,none⟩) n c,.int .i64 x] = onM (0 ≤ x ∧ x < n) (.pointer (some ⟨b,o + x.toNat,none⟩)):=by
 have:=idx_row (K:=fun _ _=>True) (P:=Tryz.prog) (n:=1) 61 T (by kernel_rfl) (fun w=>by kernel_rfl) b o n c x
 rwa [Nat.mul_one] at this
end
end Go.Proofs
namespace Go.Proofs
open Go Go.Sh Go.RowKit FdSpec TkSpec CodeSpec PrSpec FdPoly
section
variable {K:VK} {w w' w0 W W':World} {L:List (Addr × Value)} {g n B:Nat} {row:Option Nat}
def xsI (bs:List Bool) (i:Nat):List Int:=0 :: ptsX 0 (bs.take i)
def ysI (r:Int) (bs:List Bool) (ds:List Int) (i:Nat):List Int:=r :: ptsY (bs.take i) (ds.take i)
theorem xsI_step {bs:List Bool} {i:Nat} {b:Bool} (h:bs[i]? = some b):xsI bs (i + 1) = xsI bs i ++ (if b then [] else [(i:Int) + 1]):=by
 have hi:=(gS h).1
 unfold xsI
 rw [List.take_add_one,h]
 show 0 :: ptsX 0 (bs.take i ++ [b]) = _
 rw [ptsX_snoc,List.length_take,Nat.min_eq_left (by omega),Nat.zero_add]
 rfl
theorem ysI_step {r:Int} {bs:List Bool} {ds:List Int} {i:Nat} {b:Bool} {d:Int} (h:bs[i]? = some b) (hd:ds[i]? = some d):ysI r bs ds (i + 1) = ysI r bs ds i ++ (if b then [] else [d]):=by
 have hi:=(gS h).1
 have hi2:=(gS hd).1
 unfold ysI
 rw [List.take_add_one,h,List.take_add_one,hd]
 show r :: ptsY (bs.take i ++ [b]) (ds.take i ++ [d]) = _
 rw [ptsY_snoc b d _ _ (by rw [List.length_take,List.length_take]; omega)]
 rfl
theorem xsI_len (bs:List Bool) (i:Nat):(xsI bs i).length ≤ bs.length + 1:=by
 unfold xsI
 have:=ptsX_len (bs.take i) 0
 rw [List.length_cons]
 rw [List.length_take] at this
 omega
theorem ysI_len (r:Int) (bs:List Bool) (ds:List Int) (i:Nat):(ysI r bs ds i).length ≤ bs.length + 1:=by
 unfold ysI
 have:=ptsY_len (bs.take i) (ds.take i)
 rw [List.length_cons]
 rw [List.length_take] at this
 omega
def PtR (bs:List Bool) (r:Int) (ds:List Int) (w0:World) (xv yv:Value) (i:Nat) (W:World):Prop:=Bw w0 W ∧ OwnI W w0.heap.size xv (xsI bs i) ∧ OwnI W w0.heap.size yv (ysI r bs ds i) ∧ apart xv yv
def FillJ (bs:List Bool) (r:Int) (ds:List Int) (w0:World) (vs:List Value) (W:World):Prop:=∃ (u0 u1 xv yv:Value) (i:Nat),vs = [u0,u1,xv,yv,.int .i64 (i:Int)] ∧ i ≤ bs.length ∧ PtR bs r ds w0 xv yv i W
def FillK (T:List Int) (w0:World) (vs:List Value) (W:World):Prop:=Bw w0 W ∧ ∃ (u v:Value) (i:Nat),vs = [u,v,.int .i64 (i:Int)] ∧ i ≤ T.length ∧ OwnI W w0.heap.size v (T.take i)
theorem fill_ok (s:Stp) (bs:List Bool) (ds:List Int) (r:Int) {sv bv dv:Value} (hs:SetR w s sv) (hb:BoolsR w bv bs) (hd:Ints w dv ds) (hr:I64 r) (hl:ds.length = bs.length) (hmax:bs.length ≤ 1000)
  (k:∀ v w',Bw w w' → OwnI w' w.heap.size v (fillM s.g.Q bs ds r) → K v w'):callM Tryz.prog 95 #[stpV s sv,bv,dv,.int .i64 r] K w:=by
 apply sh_95t_ok
 unfold sh_95t
 have hs':=hs
 obtain ⟨ad,c,rfl⟩:=hs.ints.isSlice
 obtain ⟨bad,bc,rfl⟩:=hb.isSlice
 obtain ⟨dad,dc,rfl⟩:=hd.isSlice
 have hlb:=hb.len
 have hld:=hd.len
 refine box_kn (cs:=stpC s (.slice ad s.bases.length c)) rfl (.start w) fun b1 W1 hk hb1 hbb=>?_
 refine mk1o 0 (fun xv W2 h2 hx2=>?_)
 refine mk1o r (fun yv W3 h3 hy3=>?_)
 have hk3:=(hk.next h2).next h3
 have hap:apart xv yv:=fun i e1 e2=>by have:=(owns_own hx2 e1).1; have:=(owns_own hy3 e2).2.1; omega
 have h13:=h2.on h3
 repeat (any_goals ((with_reducible refine oG fun V Z=>?_); simp [go_sem]; apply Z; clear Z V))
 refine ⟨FillJ bs r ds W1,(fun vs _=>match vs with | [_,_,_,_,.int _ i]=>bs.length - i.toNat | _=>0),⟨_,_,_,_,0,rfl,by omega,h13,hx2.keep h3,owns_up hy3 (fun i hi=>Nat.le_trans h2.size (owns_own hy3 hi).2.1),hap⟩,?_⟩
 clear hx2 hy3 hap hk3 h13 h2 h3
 rintro _ _ W4 ⟨u0,u1,xv,yv,i,rfl,hi,h4,hox,hoy,hap⟩
 have hk4:=hk.next h4
 by_cases hin:¬ i = bs.length
 ·have eb:bs[i]? = some bs[i]:=gE (by omega)
  have ed:ds[i]? = some ds[i]:=gE (by omega)
  obtain ⟨b5,o5,rfl,hlt5,cs5,_,hcell5,v5,rfl,hv5⟩:=hb.at (i:=i) (by omega)
  obtain ⟨b6,o6,rfl,hlt6,hcell6,hr6,_⟩:=hd.at (i:=i) (by omega)
  have c5:=hcell5 0 _ rfl
  simp only [Nat.add_zero,Nat.mul_one] at c5
  unfold BoolR at hv5
  subst hv5
  have hib:(i:Int) < bs.length:=by omega
  have hid:(i:Int) < ds.length:=by omega
  have hxl:=xsI_len bs i
  have hyl:=ysI_len r bs ds i
  have hxs:=xsI_step eb
  have hys:=ysI_step (r:=r) eb ed
  generalize hbv:bs[i] = b at *
  generalize ds[i] = d at *
  repeat (any_goals (first
  | (with_reducible refine yL ?_)
  | ((with_reducible refine oG fun V Z=>?_); simp [go_sem,hib]; apply Z; clear Z V)))
  refine ⟨fun l W=>∃ u v xv' yv',l = [u,v,xv',yv'] ∧ PtR bs r ds W1 xv' yv' (i + 1) W,?_,?_⟩
  ·cases b with
   | true=>
    repeat (any_goals (first
    | (with_reducible refine yM ?_)
    | ((with_reducible refine oG fun V Z=>?_); simp [go_sem,(hk4.below.cell hlt5).trans c5,hib]; apply Z; clear Z V)))
    refine ⟨_,_,_,_,rfl,h4,?_,?_,hap⟩
    ·rw [hxs]; simpa using hox
    ·rw [hys]; simpa using hoy
   | false=>
    repeat (any_goals (first
    | (with_reducible refine yL ?_)
    | ((with_reducible refine oG fun V Z=>?_); simp [go_sem,(hk4.below.cell hlt5).trans c5,hib]; apply Z; clear Z V)))
    have hx1:xsI bs (i + 1) = xsI bs i ++ [(i:Int) + 1]:=hxs
    have hy1:ysI r bs ds (i + 1) = ysI r bs ds i ++ [d]:=hys
    have hbl:Below W4.heap.size W4 { W4 with drawn:=W4.drawn + 1 }:=.drawn
    have htwo:=Two.start (hox.keep hbl) (hoy.keep hbl) hap (w:={ W4 with drawn:=W4.drawn + 1 }) (by have:=h4.size; show W1.heap.size ≤ W4.heap.size; omega)
    have hbW:Below W1.heap.size W1 { W4 with drawn:=W4.drawn + 1 }:=h4.on hbl
    have hoxW:=hox.keep hbl
    have hoyW:=hoy.keep hbl
    have cW:cellsAre { W4 with drawn:=W4.drawn + 1 } [(⟨b6,o6 + i,none⟩,Value.int .i64 d)]:=⟨hcell6 _ (hk4.below.on hbl),trivial⟩
    have hoff:∀ p ∈ ([(⟨b6,o6 + i,none⟩,Value.int .i64 d)]:List (Addr × Value)),p.1.block < ({ W4 with drawn:=W4.drawn + 1 }:World).heap.size ∧ ¬ (xv.ownBlock = some p.1.block ∨ yv.ownBlock = some p.1.block):=fun p hp=>by
     refine ⟨cells_lt cW p hp,?_⟩
     rw [List.mem_singleton.1 hp]
     have hsz:=hk.below.size
     rintro (e | e)
     ·have h1:W1.heap.size ≤ b6:=(owns_own hox e).2.1; omega
     ·have h1:W1.heap.size ≤ b6:=(owns_own hoy e).2.1; omega
    refine ⟨Fr (fun i=>xv.ownBlock = some i ∨ yv.ownBlock = some i) { W4 with drawn:=W4.drawn + 1 },Fr.refl _ _,?_⟩
    generalize ({ W4 with drawn:=W4.drawn + 1 }:World) = W at htwo hbW hoxW hoyW cW hoff ⊢
    have hwi:IntKind.i64.wrap ((i:Int) + 1) = (i:Int) + 1:=wrapI64 _ (by omega) (by omega)
    repeat (any_goals (first
    | (with_reducible refine pX ?_)
    | ((with_reducible refine idOH ?_); (with_reducible refine oH_of ⟨_,rfl⟩ (fun W0 hW0=>by (refine oG (fun V Z=>?_)); simp [go_sem,(cells_fr cW hW0 hoff),hid,hwi]; (first | exact Z _ _ ⟨rfl,rfl⟩ | exact ⟨by omega,Z _ _ ⟨rfl,rfl⟩⟩)) ?_))))
    have fin:∀ (w':World) (v' u':Value),Two W1.heap.size W xv yv w' v' u' (xsI bs i ++ [(i:Int) + 1]) (ysI r bs ds i ++ [d]) → PtR bs r ds W1 v' u' (i + 1) w':=fun w' v' u' h=>
     ⟨h.below hbW hoxW hoyW (Nat.le_refl _),by rw [hx1]; exact h.ob,by rw [hy1]; exact h.oe,h.ap⟩
    have hn1:(xsI bs i).length < 1099511627776:=by omega
    have hn2:(ysI r bs ds i).length < 1099511627776:=by omega
    have hWb:∀ i,xv.ownBlock = some i → i < W.heap.size:=htwo.lit.1
    have hI1:I64 ((i:Int) + 1):=by unfold I64; omega
    constructor
    ·refine mk1g _ hI1 (fun y7 w7 h7 hy7 hb7=>?_)
     have t7:=htwo.next h7
     refine ⟨t7.fr,?_⟩
     constructor
     ·refine t7.addB hy7 hn1 (fun v8 w8 t8 hg8=>⟨t8.fr,?_⟩)
      refine mk1g d hr6 (fun y9 w9 h9 hy9 hb9=>?_)
      have t9:=t8.next h9
      refine ⟨t9.fr,?_⟩
      refine t9.addE hy9 hn2 (fun v10 w10 t10 hg10=>⟨t10.fr,t10.fr,t10.fr,?_⟩)
      exact ⟨_,_,_,_,rfl,fin _ _ _ t10⟩
     ·refine mk1g d hr6 (fun y8 w8 h8 hy8 hb8=>?_)
      have t8:=t7.next h8
      refine ⟨t8.fr,?_⟩
      refine t8.addB (hy7.next h8) hn1 (fun v9 w9 t9 hg9=>⟨t9.fr,?_⟩)
      have hy8:=ints_grown hy8 hg9 (fun i e1 e2=>by have:=hWb i e2; have:=h7.size; rw [hb8] at e1; cases e1; omega)
      refine t9.addE hy8 hn2 (fun v10 w10 t10 hg10=>⟨t10.fr,t10.fr,t10.fr,?_⟩)
      exact ⟨_,_,_,_,rfl,fin _ _ _ t10⟩
    ·refine mk1g d hr6 (fun y7 w7 h7 hy7 hb7=>?_)
     have t7:=htwo.next h7
     refine ⟨t7.fr,?_⟩
     refine mk1g _ hI1 (fun y8 w8 h8 hy8 hb8=>?_)
     have t8:=t7.next h8
     refine ⟨t8.fr,?_⟩
     refine t8.addB hy8 hn1 (fun v9 w9 t9 hg9=>⟨t9.fr,?_⟩)
     have hy7:=ints_grown (hy7.next h8) hg9 (fun i e1 e2=>by have:=hWb i e2; rw [hb7] at e1; cases e1; omega)
     refine t9.addE hy7 hn2 (fun v10 w10 t10 hg10=>⟨t10.fr,t10.fr,t10.fr,?_⟩)
     exact ⟨_,_,_,_,rfl,fin _ _ _ t10⟩
  ·rintro _ _ W5 ⟨u,v,xv',yv',rfl,hP⟩
   repeat (any_goals ((with_reducible refine oG fun V Z=>?_); simp [go_sem]; (try simp (disch:=omega) only [wrapI64,wrapU8,wrapU32,wrapU64]); apply Z; clear Z V))
   exact ⟨⟨_,_,_,_,i + 1,rfl,by omega,hP⟩,by show bs.length - (((i + 1:Nat):Int)).toNat < bs.length - ((i:Nat):Int).toNat; omega⟩
 have hin:i = bs.length:=by omega
 subst hin
 have ex:xsI bs bs.length = 0 :: ptsX 0 bs:=by unfold xsI; rw [List.take_length]
 have ey:ysI r bs ds bs.length = r :: ptsY bs ds:=by unfold ysI; rw [List.take_length,List.take_of_length_le (by omega)]
 have hxl:=xsI_len bs bs.length
 have hyl:=ysI_len r bs ds bs.length
 rw [ex] at hox hxl
 rw [ey] at hoy hyl
 have hxI:∀ n ∈ (0 :: ptsX 0 bs),I64 n:=fun n hn=>by
  rcases List.mem_cons.1 hn with rfl | hn
  ·exact I64_0
  ·have:=ptsX_le bs 0 n hn; unfold I64; omega
 have hyI:∀ n ∈ (r :: ptsY bs ds),I64 n:=fun n hn=>by
  rcases List.mem_cons.1 hn with rfl | hn
  ·exact hr
  ·exact hd.rng _ (ptsY_mem bs ds n hn)
 repeat (any_goals (first
 | (with_reducible refine yM ?_)
 | ((with_reducible refine oG fun V Z=>?_); simp [go_sem,hk4.cells]; apply Z; clear Z V)))
 refine Through_ok s.g.Q (0 :: ptsX 0 bs) (r :: ptsY bs ds) (hox.ints hxI (by omega)) (hoy.ints hyI (by omega)) (hs'.next hk4.below).db (by simp) (fun W5 pv okb h5 hop=>?_)
 have hk5:=hk4.next h5
 have htl:=through_len s.g.Q (0 :: ptsX 0 bs) (r :: ptsY bs ds)
 have hpi:=hop.ints (through_in (P:=I64) (fun a b=>addM_I64 _ a b) I64_0 _ _) (by omega)
 have hF:(fillM s.g.Q bs ds r).length = bs.length:=by simp [fillM]
 have hFe:∀ i,i < bs.length → (fillM s.g.Q bs ds r)[i]? = some (atM s.g.Q (throughM s.g.Q (0 :: ptsX 0 bs) (r :: ptsY bs ds)) ((i:Int) + 1)):=fun i hi=>by
  unfold fillM
  rw [List.getElem?_map,List.getElem?_range hi]
  rfl
 generalize fillM s.g.Q bs ds r = F at *
 generalize throughM s.g.Q (0 :: ptsX 0 bs) (r :: ptsY bs ds) = T at *
 repeat (any_goals ((with_reducible refine oG fun V Z=>?_); simp [go_sem]; apply Z; clear Z V))
 refine ⟨FillK F W5,(fun vs _=>match vs with | [_,_,.int _ i]=>bs.length - i.toNat | _=>0),⟨Below.refl _ _,_,_,0,rfl,by omega,own_none⟩,?_⟩
 rintro _ _ W6 ⟨h6,u,v,i,rfl,hi,ho⟩
 rw [hF] at hi
 have hk6:=hk5.next h6
 by_cases hin:i = bs.length
 ·subst hin
  repeat (any_goals (first
  | (with_reducible refine yM ?_)
  | ((with_reducible refine oG fun V Z=>?_); simp [go_sem]; apply Z; clear Z V)))
  rw [List.take_of_length_le (by omega)] at ho
  exact k _ _ hk6.below (owns_up ho (fun j hj=>Nat.le_trans hk5.below.size (owns_own ho hj).2.1))
 have hib:(i:Int) < bs.length:=by omega
 have hFi:=hFe i (by omega)
 repeat (any_goals (first
 | (with_reducible refine yL ?_)
 | ((with_reducible refine oG fun V Z=>?_); simp [go_sem,hk6.cells,hib]; (try simp (disch:=omega) only [wrapI64,wrapU8,wrapU32,wrapU64]); apply Z; clear Z V)))
 refine At_ok _ _ T (hpi.next h6) (fun W7 h7=>?_)
 refine mk1 _ ?_ (fun v8 W8 h8 hi8=>?_)
 ·unfold atM
  cases T with
  | nil=>exact I64_0
  | cons a l=>exact addM_I64 _ _ _
 have h68:=h7.on h8
 refine append1 (ho.keep h68) (Nat.le_trans h6.size h68.size) hi8 (by simp only [List.length_take]; omega) (fun v9 W9 ho9 h9=>?_)
 repeat (any_goals ((with_reducible refine oG fun V Z=>?_); simp [go_sem]; (try simp (disch:=omega) only [wrapI64,wrapU8,wrapU32,wrapU64]); apply Z; clear Z V))
 refine ⟨⟨(h6.on h68).trans h9,_,_,i + 1,rfl,by omega,?_⟩,by show bs.length - (((i + 1:Nat):Int)).toNat < bs.length - ((i:Nat):Int).toNat; omega⟩
 rw [← take_snoc' hFi]
 exact ho9
end
end Go.Proofs
namespace Go.Proofs
open Go Go.Sh Go.RowKit FdSpec TkSpec CodeSpec PrSpec FdPoly
section
variable {K:VK} {w w' w0 W W':World} {L:List (Addr × Value)} {g n B:Nat} {row:Option Nat}
theorem bools_of {l:List Bool} (h:Holds W g 4 (l.map Value.bool)) (hl:l.length ≤ 9223372036854775807):BoolsR W (.slice (some ⟨g,0,none⟩) l.length l.length) l:=by
 refine ⟨⟨_,_,rfl,.inr ⟨g,0,rfl,h.lt,fun i hi=>⟨[.bool l[i]],rfl,fun j u hj=>?_,_,rfl,rfl⟩⟩⟩,hl⟩
 obtain ⟨h1,rfl⟩:=gS hj
 have hj0:j = 0:=by simpa using h1
 subst hj0
 have:=h.cell i (by simpa using hi)
 simpa using this
theorem make_bools {T:TypeId} {n:Nat} (hn:n ≤ 65536) (k:∀ g W,Bw w W → w.heap.size ≤ g → Holds W g 4 ((List.replicate n false).map Value.bool) → K (.slice (some ⟨g,0,none⟩) n n) W):oM Tryz.prog (.makeSlice 61 (.tmp 0) (.tmp 1)) T [.int .i64 n,.int .i64 n] K w:=by
 obtain ⟨w',hr,ho,hg⟩:=run_makeSlice_full (P:=Tryz.prog) (w:=w) w.heap.size 61 4 ((Tryz.prog.info? 4).getD default) (.bool false) 1 (by kernel_rfl) (by kernel_rfl) (by kernel_rfl) (by kernel_rfl) .i64 .i64 n (by omega) (by
  have:((Tryz.prog.info? 4).getD default).bytes = 1:=by kernel_rfl
  rw [this]; omega) (by simp only [maxLen]; omega) (Nat.le_refl _)
 rw [oM_makeSlice,hr]
 have hb:Bw w w':=⟨hg.os,hg.tape,hg.output,hg.size,fun k hk=>hg.block k hk (by simp)⟩
 have hcells:(madeCells (Value.bool false).cells (n * 1)).toList = List.replicate n (.bool false):=by
  rw [Nat.mul_one]
  apply List.ext_getElem?
  intro i
  unfold madeCells
  simp [Value.cells,List.getElem?_replicate,Array.getElem?_ofFn]
  try (split <;> simp_all [Nat.mod_one])
 refine k _ _ hb (Nat.le_refl _) ?_
 rcases ho.2 with ⟨h1,h2⟩ | ⟨g,cap,cur,h1,hb2,hg2,hc,hm,hs,ht⟩
 ·cases h1
 ·cases h1
  rw [hcells,Nat.mul_one] at ht
  have e:cur.toList = List.replicate n (.bool false):=by
   rw [← ht,List.take_of_length_le (by simp; omega)]
  unfold Holds
  rw [hg2,List.map_replicate,← e]
theorem root_I64 (s:Stp) (goal:List Cls) (ctx:Bytes) (ds:List (List Int)) (ns:List (List (List Int))):I64 (rootM s goal ctx ds ns):=by
 unfold rootM
 by_cases h:okN s.g.Q
 ·exact I64_of (numberM_in h _) h
 ·unfold numberM; rw [if_neg h]; exact I64_0
theorem fill_I64 (q:Int) (bs:List Bool) (ds:List Int) (r:Int):∀ n ∈ fillM q bs ds r,I64 n:=by
 intro n hn
 unfold fillM at hn
 obtain ⟨i,_,rfl⟩:=List.mem_map.1 hn
 unfold atM
 cases throughM q (0 :: ptsX 0 bs) (r :: ptsY bs ds) with
 | nil=>exact I64_0
 | cons a l=>exact addM_I64 _ _ _
def VfJ (s:Stp) (goal:List Cls) (ds:List (List Int)) (r:Int) (w0:World) (L:List (Addr × Value)) (vs:List Value) (W:World):Prop:=Kn w0 L W ∧ ∃ (u0 u1 u2 u3 u4:Value) (i:Nat),vs = [u0,u1,u2,u3,u4,.int .i64 (i:Int)] ∧ i ≤ goal.length ∧
 ∀ (j:Nat) (c:Cls) (d:List Int),j < i → goal[j]? = some c → ds[j]? = some d → fillM s.g.Q (lastB c.claims.length c.need) d r = d
def VgK (n m:Nat) (g:Nat) (w0:World) (vs:List Value) (W:World):Prop:=Bw w0 W ∧ ∃ (u:Value) (j:Nat),vs = [u,.int .i64 (j:Int)] ∧ j ≤ m ∧ Holds W g 4 ((lastN n j).map Value.bool)
theorem Verify_ok (s:Stp) (goal:List Cls) (ctx:Bytes) (ds:List (List Int)) (ns:List (List (List Int))) {sv gv dv nv:Value} (hs:SetR w s sv) (hg:GoalR w gv goal) (hd:ListsR w dv ds) (hn:NumsR w nv ns) (hl:Cd.Laid w)
  (hN:(goalL goal).length ≤ 1000000) (hctx:ctx.length ≤ 1000000)
  (k:∀ w',Bw w w' → K (.bool (verifyM s goal ctx ds ns)) w'):callM Tryz.prog 30 #[stpV s sv,gv,.string ⟨ctx.toArray⟩,prfV dv nv] K w:=by
 apply sh_30_ok
 unfold sh_30
 have hs':=hs
 have hg':=hg
 have hd':=hd
 have hn':=hn
 obtain ⟨ad,c,rfl⟩:=hs.ints.isSlice
 obtain ⟨gad,gc,rfl⟩:=hg.isSlice
 obtain ⟨dad,dc,rfl⟩:=hd.isSlice
 obtain ⟨nad,nc,rfl⟩:=hn.isSlice
 have hlg:=hg.len
 refine box_kn (cs:=stpC s (.slice ad s.bases.length c)) rfl (.start w) fun b1 W hk hb1 hbb=>?_
 refine box_kn (cs:=prfC (.slice dad ds.length dc) (.slice nad ns.length nc)) rfl hk fun b2 W hk hb2 hbb2=>?_
 clear hb1 hb2
 have no:verifyM s goal ctx ds ns = false → ∀ w',Bw w w' → K (.bool false) w':=fun e w' h=>by
  have:=k w' h
  rwa [e] at this
 repeat (any_goals ((with_reducible refine oG fun V Z=>?_); simp [go_sem,hk.cells]; apply Z; clear Z V))
 refine ValidGoal_ok s (hs'.next hk.below) (hg'.next (atOf_stay cls_vstay) hk.below) (fun w2 h2=>?_)
 have hk:=hk.next h2
 cases hgm:goalM s goal with
 | false=>
  repeat (any_goals (first
  | (with_reducible first|refine zD ?_|refine yB ?_|refine yL ?_)
  | ((with_reducible refine oG fun V Z=>?_); simp [go_sem]; apply Z; clear Z V)))
  exact no (by simp [verifyM,hgm]) _ hk.below
 | true=>
 repeat (any_goals (first
 | (with_reducible first|refine pureM_in ?_|refine zC ?_)
 | ((with_reducible refine oG fun V Z=>?_); simp [go_sem,hk.cells]; apply Z; clear Z V)))
 refine shaped_ok s (hs'.next hk.below) (hg'.next (atOf_stay cls_vstay) hk.below) (hd'.next (atOf_stay ints_stay) hk.below) (hn'.next (atOf_stay lists_vstay) hk.below) (fun w3 h3=>?_)
 have hk:=hk.next h3
 cases hsm:shapedM s goal ds ns with
 | false=>
  repeat (any_goals (first
  | (with_reducible first|refine zC ?_|refine yC ?_|refine yL ?_)
  | ((with_reducible refine oG fun V Z=>?_); simp [go_sem]; apply Z; clear Z V)))
  exact no (by simp [verifyM,hsm]) _ hk.below
 | true=>
 repeat (any_goals (first
 | (with_reducible first|refine zC ?_|refine yC ?_|refine yM ?_)
 | ((with_reducible refine oG fun V Z=>?_); simp [go_sem,hk.cells]; apply Z; clear Z V)))
 refine root_ok s goal ctx ds ns (hs'.next hk.below) (hg'.next (atOf_stay cls_vstay) hk.below) (hd'.next (atOf_stay ints_stay) hk.below) (hn'.next (atOf_stay lists_vstay) hk.below) (hl.below hk.below hl.size) hgm hsm hN hctx (fun w4 h4=>?_)
 have hk:=hk.next h4
 have hrI:=root_I64 s goal ctx ds ns
 have hver:verifyM s goal ctx ds ns = fitL s (rootM s goal ctx ds ns) goal ds:=by simp [verifyM,hgm,hsm]
 rw [hver] at k no
 generalize rootM s goal ctx ds ns = r at *
 repeat (any_goals ((with_reducible refine oG fun V Z=>?_); simp [go_sem]; apply Z; clear Z V))
 refine ⟨VfJ s goal ds r w _,(fun vs _=>match vs with | [_,_,_,_,_,.int _ i]=>goal.length - i.toNat | _=>0),⟨hk,_,_,_,_,_,0,rfl,by omega,fun j c d h=>by omega⟩,?_⟩
 clear hk h2 h3 h4
 rintro _ _ W1 ⟨hk,u0,u1,u2,u3,u4,i,rfl,hi,hall⟩
 by_cases hin:i = goal.length
 ·subst hin
  repeat (any_goals (first
  | (with_reducible refine yM ?_)
  | ((with_reducible refine oG fun V Z=>?_); simp [go_sem]; apply Z; clear Z V)))
  have k:=k _ hk.below
  rw [fitL_of (fun j c d h1 h2=>hall j c d (gS h1).1 h1 h2)] at k
  exact k
 have hsm':=hsm
 unfold shapedM at hsm'
 simp only [Bool.and_eq_true,decide_eq_true_eq] at hsm'
 obtain ⟨⟨e1,e2⟩,hsl⟩:=hsm'
 have eg:goal[i]? = some goal[i]:=gE (by omega)
 have ed:ds[i]? = some ds[i]:=gE (by omega)
 have en:ns[i]? = some ns[i]:=gE (by omega)
 have hsh:=(shapedL_at hsl eg ed en).1
 obtain ⟨b1',o1,rfl,hlt1,cs1,_,hcell1,v1,rfl,hI1,hrow1⟩:=hg'.at (i:=i) (by omega)
 obtain ⟨bd,od,rfl,hltd,csd,_,hcelld,vd,rfl,hrowd⟩:=hd'.at (i:=i) (by omega)
 have c01:=hcell1 0 _ rfl
 have c11:=hcell1 1 _ rfl
 have cd:=hcelld 0 _ rfl
 simp only [Nat.add_zero,Nat.mul_one] at c01 cd
 have hcf:clsFine s goal[i] = true:=by
  unfold goalM at hgm
  simp only [Bool.and_eq_true] at hgm
  exact List.all_eq_true.1 hgm.1.2 _ (List.getElem_mem _)
 generalize goal[i] = cl at *
 generalize ds[i] = d at *
 simp only [clsFine,Bool.and_eq_true,decide_eq_true_eq] at hcf
 simp only [shapeOf,exponentsM,Bool.and_eq_true,decide_eq_true_eq] at hsh
 obtain ⟨ad1,cp1,rfl⟩:=hrow1.isSlice
 obtain ⟨m,hm⟩:∃ m:Nat,cl.need = (m:Int):=⟨cl.need.toNat,by omega⟩
 have hmn:m ≤ cl.claims.length:=by omega
 have hll1:(i:Int) < goal.length:=by omega
 have hll2:(i:Int) < ds.length:=by omega
 have bad:fillM s.g.Q (lastB cl.claims.length cl.need) d r ≠ d → fitL s r goal ds = false:=by
  intro hne
  rw [Bool.eq_false_iff]
  intro h
  exact hne (fitL_at h eg ed)
 rw [hm] at c01 hI1 bad
 iterate 4 (any_goals (first
 | (with_reducible refine yL ?_)
 | ((with_reducible refine oG fun V Z=>?_); simp [go_sem,(hk.below.cell hlt1).trans c01,(hk.below.cell hlt1).trans c11,hll1]; apply Z; clear Z V)))
 refine local_cls _ _ _ _ hk (fun b4 W4 hk4 hb4 hg4=>?_)
 iterate 3 (any_goals ((with_reducible refine oG fun V Z=>?_); simp [go_sem,hk4.cells]; apply Z; clear Z V))
 refine make_bools (by omega) (fun g W5 h5 hg5 hh5=>?_)
 have hk5:=hk4.next h5
 rw [← lastN_zero] at hh5
 repeat (any_goals ((with_reducible refine oG fun V Z=>?_); simp [go_sem,hk5.cells]; apply Z; clear Z V))
 refine ⟨VgK cl.claims.length m g W4,(fun vs _=>match vs with | [_,.int _ j]=>m - j.toNat | _=>0),⟨h5,u3,0,rfl,by omega,hh5⟩,?_⟩
 clear hh5
 rintro _ _ W6 ⟨h6,u5,j,rfl,hj,hh⟩
 by_cases hjm:¬ j = m
 ·have hjm':(j:Int) < m:=by omega
  obtain ⟨a,ha⟩:∃ a:Nat,a = cl.claims.length - 1 - j:=⟨_,rfl⟩
  have hsub:(cl.claims.length:Int) - 1 - (j:Int) = (a:Int):=by omega
  have hac:(a:Int) < cl.claims.length:=by omega
  repeat (any_goals (first
  | (with_reducible refine yL ?_)
  | ((with_reducible refine oG fun V Z=>?_); simp [go_sem,hjm',hsub,hac]; (try simp (disch:=omega) only [wrapI64,wrapU8,wrapU32,wrapU64]); apply Z; clear Z V)))
  refine arr_set sz_bool rfl rfl hh (i:=a) (by rw [List.length_map,lastN_len]; omega) (fun W7 hg7 hh7=>?_)
  have h7:=h6.grown hg7 h6.size (fun q hq=>by cases hq; exact hg5)
  repeat (any_goals ((with_reducible refine oG fun V Z=>?_); simp [go_sem]; (try simp (disch:=omega) only [wrapI64,wrapU8,wrapU32,wrapU64]); apply Z; clear Z V))
  refine ⟨⟨h7,_,j + 1,rfl,by omega,?_⟩,by show m - (((j + 1:Nat):Int)).toNat < m - ((j:Nat):Int).toNat; omega⟩
  rw [← lastN_set (by omega),List.map_set,← ha]
  exact hh7
 have hjm:j = m:=by omega
 subst hjm
 have hjn:¬ (j:Int) < j:=by omega
 have hk6:=hk4.next h6
 have hbr:=bools_of hh (by rw [lastN_len]; omega)
 rw [lastN_len,lastN_eq hmn,← hm] at hbr
 rw [← hm] at bad
 repeat (any_goals (first
 | (with_reducible refine yM ?_)
 | ((with_reducible refine oG fun V Z=>?_); simp [go_sem]; apply Z; clear Z V)))
 have hbl:Below W6.heap.size W6 { W6 with drawn:=W6.drawn + 1 }:=.drawn
 have hk9:=hk6.next hbl
 have hbr:=hbr.next (atOf_stay bools_vstay) hbl
 refine ⟨Nx { W6 with drawn:=W6.drawn + 1 },Below.refl _ _,rfl,?_⟩
 generalize ({ W6 with drawn:=W6.drawn + 1 }:World) = W9 at hk9 hbr ⊢
 repeat (any_goals (first
 | (with_reducible refine pX ?_)
 | ((with_reducible refine idOH ?_); (with_reducible refine oH_of ⟨_,rfl⟩ (fun W0 hW0=>by (refine oG (fun V Z=>?_)); simp [go_sem,(hk9.next hW0).cells,((hk9.next hW0).below.cell hltd).trans cd,hll2]; (first | exact Z _ _ ⟨rfl,rfl⟩ | exact ⟨by omega,Z _ _ ⟨rfl,rfl⟩⟩)) ?_))))
 refine ⟨Nx,?_⟩
 refine monoR (fun v w'=>Ints w' v (fillM s.g.Q (lastB cl.claims.length cl.need) d r)) (fun v w w1 hS h=>h.next hS) ?_ ?_
 ·intro w1 h1
  have hlB:(lastB cl.claims.length cl.need).length = cl.claims.length:=by simp [lastB]
  exact fill_ok s _ d r (hs'.next (hk9.next h1).below) (hbr.next (atOf_stay bools_vstay) h1) (hrowd.next (hk9.next h1).below) hrI (by rw [hlB]; omega) (by rw [hlB]; omega)
   (fun v w2 h2 ho=>⟨h1.on h2,h2,ho.ints (fill_I64 _ _ _ _) (by simp [fillM,hlB]; omega)⟩)
 rintro w10 h10 v10 hi10
 have hk10:=hk9.next h10
 refine Equal_ok hi10 (hrowd.next hk10.below) (fun w11 h11=>?_)
 have hk11:=hk10.next h11
 by_cases heq:fillM s.g.Q (lastB cl.claims.length cl.need) d r = d
 ·rw [decide_eq_true heq]
  repeat (any_goals (first
  | (with_reducible refine yM ?_)
  | ((with_reducible refine oG fun V Z=>?_); simp [go_sem]; (try simp (disch:=omega) only [wrapI64,wrapU8,wrapU32,wrapU64]); apply Z; clear Z V)))
  refine ⟨⟨⟨hk11.below,hk11.cells.2.2⟩,_,_,_,_,_,i + 1,rfl,by omega,?_⟩,?_⟩
  ·intro j' c' d' hj' h1 h2
   by_cases hji:j' < i
   ·exact hall j' c' d' hji h1 h2
   ·obtain rfl:j' = i:=by omega
    rw [eg] at h1
    rw [ed] at h2
    cases h1; cases h2
    exact heq
  ·show goal.length - (((i + 1:Nat):Int)).toNat < goal.length - ((i:Nat):Int).toNat
   omega
 ·rw [decide_eq_false heq]
  repeat (any_goals (first
  | (with_reducible refine yL ?_)
  | ((with_reducible refine oG fun V Z=>?_); simp [go_sem]; apply Z; clear Z V)))
  exact no (bad heq) _ hk11.below
end
end Go.Proofs
namespace Go.Proofs
open Go Go.Sh Go.RowKit FdSpec TkSpec CodeSpec PrSpec FdPoly
section
variable {K:VK} {w w' w0 W W':World} {L:List (Addr × Value)} {g n B:Nat} {row:Option Nat}
theorem lit_bool {T:TypeId} (b:Bool) (k:∀ g W,Bw w W → w.heap.size ≤ g → Holds W g 4 [.bool b] → K (.slice (some ⟨g,0,none⟩) 1 1) W):oM Tryz.prog (.buildSlice 61 1 #[(0,.tmp 0)]) T [.bool b] K w:=by
 rw [oM_buildSlice1]; exact lit_run (by kernel_rfl) k
abbrev BoolG (B:Nat) (w:World) (v:Value) (l:List Bool):Prop:=GRow 1 4 (VOne BoolR) B (fun _=>False) w v l
theorem bools_append {v:Value} {l:List Bool} {b:Bool} {T:TypeId} (h:BoolG B w v l) (hB:B ≤ w.heap.size) (hh:Holds w g 4 [.bool b]) (hl:l.length < 1099511627776)
  (k:∀ v' w',BoolG B w' v' (l ++ [b]) → w.grownBy w' v.ownBlock → (∀ i,v'.ownBlock = some i → v.ownBlock = some i ∨ w.heap.size ≤ i) → K v' w') :
  oM Tryz.prog (.call { callee:=.builtin .append,args:=#[.tmp 0,.tmp 1],argTypes:=#[61,61] }) T [v,.slice (some ⟨g,0,none⟩) 1 1] K w:=by
 refine grow_append 61 T ((Tryz.prog.info? 4).getD default) (((Tryz.prog.info? 4).getD default).zero.getD undef) 1 (by kernel_rfl) (by kernel_rfl) (by kernel_rfl) (by kernel_rfl) (by kernel_rfl) (by kernel_rfl) (by decide) (by decide)
  h hB (x:=b) (xs:=[.bool b]) rfl (fun j u hj=>?_) (fun u hu=>?_) (fun _ _ _ _ _ _=>⟨_,rfl,rfl⟩) (fun i hi=>hi.elim) hl (fun v' w' h1 h2 h3 _=>k v' w' h1 h2 h3)
 ·obtain ⟨h1,rfl⟩:=gS hj
  have hj0:j = 0:=by simpa using h1
  subst hj0
  exact hh.cell 0 (by simp)
 ·rw [List.mem_singleton] at hu
  subst hu; rfl
end
end Go.Proofs
namespace Go.Proofs
open Go Go.Sh Go.RowKit FdSpec TkSpec CodeSpec PrSpec FdPoly
section
variable {K:VK} {w w' w0 W W':World} {L:List (Addr × Value)} {g n B:Nat} {row:Option Nat}
structure OutB (w:World) (B g:Nat) (rows:List (List Bool)):Prop where
 ex:∃ vs:List Value,vs.length = rows.length ∧ Holds w g 61 vs ∧ (∀ (i:Nat) (v:Value) (r:List Bool),vs[i]? = some v → rows[i]? = some r → BoolG B w v r) ∧
  (∀ (i j:Nat) (v u:Value),i ≠ j → vs[i]? = some v → vs[j]? = some u → apart v u) ∧ (∀ (i:Nat) (v:Value),vs[i]? = some v → v.ownBlock ≠ some g)
 base:B ≤ g
theorem BoolG.keepS {v:Value} {l:List Bool} {S:Nat → Prop} (h:BoolG B w v l) (hf:Fr S w w') (hv:∀ i,v.ownBlock = some i → ¬ S i):BoolG B w' v l:=GRow.keep h hf (fun i hi=>hi.elim) hv
theorem OutB.next {rows:List (List Bool)} (h:OutB w B g rows) (hb:Bw w w'):OutB w' B g rows:=by
 obtain ⟨vs,h1,h2,h3,h4,h5⟩:=h.ex
 exact ⟨⟨vs,h1,h2.next hb,fun i v r a b=>GRow.next (h3 i v r a b) hb (fun i hi=>hi.elim),h4,h5⟩,h.base⟩
theorem OutB.lt {rows:List (List Bool)} (h:OutB w B g rows):g < w.heap.size:=by
 obtain ⟨vs,_,h2,_⟩:=h.ex
 exact h2.lt
theorem OutB.get {rows:List (List Bool)} {i:Nat} {r:List Bool} (h:OutB w B g rows) (hi:rows[i]? = some r):∃ ad c,w.cell? ⟨g,i,none⟩ = some (.slice ad r.length c):=by
 obtain ⟨vs,h1,h2,h3,_,_⟩:=h.ex
 have hlt:i < vs.length:=by have:=(gS hi).1; omega
 have hv:=gE hlt
 obtain ⟨ad,c,e⟩:=(h3 i _ r hv hi).isSlice
 exact ⟨ad,c,by rw [h2.cell i hlt,e]⟩
theorem sz_bools (w:World):(sizeOf 61).run Tryz.prog w = .ok 1 w:=by kernel_rfl
theorem OutB.push {rows:List (List Bool)} {i q:Nat} {r:List Bool} {b:Bool} {T:TypeId} {ad:Option Addr} {c:Nat} (h:OutB w B g rows) (hi:rows[i]? = some r) (hB:B ≤ w.heap.size) (hv:w.cell? ⟨g,i,none⟩ = some (.slice ad r.length c)) (hh:Holds w q 4 [.bool b]) (hl:r.length < 1099511627776)
  (k:∀ v' w1,(∀ (T':TypeId) (K':VK),(∀ w2,OutB w2 B g (rows.set i (r ++ [b])) → Fr (fun j=>B ≤ j) w w2 → K' undef w2) → oM Tryz.prog (.store 61 (.tmp 0) (.tmp 1)) T' [.pointer (some ⟨g,i,none⟩),v'] K' w1) → K v' w1) :
  oM Tryz.prog (.call { callee:=.builtin .append,args:=#[.tmp 0,.tmp 1],argTypes:=#[61,61] }) T [.slice ad r.length c,.slice (some ⟨q,0,none⟩) 1 1] K w:=by
 obtain ⟨vs,h1,h2,h3,h4,h5⟩:=h.ex
 have hlt:i < vs.length:=by have:=(gS hi).1; omega
 have hvi:=gE hlt
 have he:vs[i] = .slice ad r.length c:=by
  have:=h2.cell i hlt
  rw [hv] at this
  exact (Option.some.inj this).symm
 rw [he] at hvi
 have hG:=h3 i _ r hvi hi
 have hng:=h5 i _ hvi
 refine bools_append hG hB hh hl (fun v' w1 hG1 hg1 hf1=>k v' w1 (fun T' K' hk=>?_))
 have hgl:=h2.lt
 have hng':v'.ownBlock ≠ some g:=fun e=>by
  rcases hf1 g e with e2 | e2
  ·exact hng e2
  ·omega
 have hH1:Holds w1 g 61 vs:=by
  unfold Holds
  rw [hg1.block g hgl (fun e=>hng (by first | exact e | exact e.symm))]
  exact h2
 obtain ⟨ad',c',rfl⟩:=hG1.isSlice
 refine arr_set sz_bools rfl rfl hH1 hlt (fun w2 hg2 hH2=>hk w2 ⟨⟨_,by simpa using h1,hH2,?_,?_,?_⟩,h.base⟩ ?_)
 ·intro j v r' hj hr'
  rw [List.getElem?_set] at hj hr'
  by_cases hij:i = j
  ·rw [if_pos hij,if_pos hlt] at hj
   rw [if_pos hij,if_pos (by omega)] at hr'
   cases hj; cases hr'
   exact BoolG.keepS hG1 (Fr.of_by hg2) (fun x hx e=>hng' (by rw [hx,e]))
  ·rw [if_neg hij] at hj hr'
   have hGj:=h3 j v r' hj hr'
   have hap:=h4 i j _ _ hij hvi hj
   have h51:=h5 j v hj
   have hGj1:=BoolG.keepS hGj (Fr.of_by' hg1) (fun x hx e=>hap x e hx)
   exact BoolG.keepS hGj1 (Fr.of_by hg2) (fun x hx e=>h51 (by rw [hx,e]))
 ·have key:∀ (j:Nat) (u:Value),i ≠ j → vs[j]? = some u → apart (.slice ad' (r ++ [b]).length c') u:=by
   intro j u hij hj x e1 e2
   rcases hf1 x e1 with e3 | e3
   ·exact h4 i j _ _ hij hvi hj x e3 e2
   ·have hlt2:j < rows.length:=by have:=(gS hj).1; omega
    have:=((h3 j u _ hj (gE hlt2)).own e2).1
    omega
  intro j l v u hjl hj hl'
  rw [List.getElem?_set] at hj hl'
  by_cases hij:i = j
  ·rw [if_pos hij,if_pos hlt] at hj
   rw [if_neg (by omega)] at hl'
   cases hj
   exact key l u (by omega) hl'
  ·rw [if_neg hij] at hj
   by_cases hil:i = l
   ·rw [if_pos hil,if_pos hlt] at hl'
    cases hl'
    exact fun x e1 e2=>key j v hij hj x e2 e1
   ·rw [if_neg hil] at hl'
    exact h4 j l v u hjl hj hl'
 ·intro j v hj
  rw [List.getElem?_set] at hj
  by_cases hij:i = j
  ·rw [if_pos hij,if_pos hlt] at hj
   cases hj
   exact hng'
  ·rw [if_neg hij] at hj
   exact h5 j v hj
 ·refine ⟨hg2.os.trans hg1.os,hg2.tape.trans hg1.tape,hg2.output.trans hg1.output,Nat.le_trans hg1.size hg2.size,fun j hj hn=>?_⟩
  rw [hg2.block j (Nat.lt_of_lt_of_le hj hg1.size) (fun e=>hn (by cases e; exact h.base)),hg1.block j hj (fun e=>hn ((hG.own (by first | exact e | exact e.symm)).2))]
end
end Go.Proofs
namespace Go.Proofs
open Go Go.Sh Go.RowKit FdSpec TkSpec CodeSpec PrSpec FdPoly
section
variable {K:VK} {w w' w0 W W':World} {L:List (Addr × Value)} {g n B:Nat} {row:Option Nat}
theorem make_rows {T:TypeId} {n:Nat} (hn:n ≤ 65536) (k:∀ g W,Bw w W → w.heap.size ≤ g → OutB W w.heap.size g (List.replicate n []) → K (.slice (some ⟨g,0,none⟩) n n) W):oM Tryz.prog (.makeSlice 120 (.tmp 0) (.tmp 1)) T [.int .i64 n,.int .i64 n] K w:=by
 obtain ⟨w',hr,ho,hg⟩:=run_makeSlice_full (P:=Tryz.prog) (w:=w) w.heap.size 120 61 ((Tryz.prog.info? 61).getD default) (.slice none 0 0) 1 (by kernel_rfl) (by kernel_rfl) (by kernel_rfl) (by kernel_rfl) .i64 .i64 n (by omega) (by
  have:((Tryz.prog.info? 61).getD default).bytes = 24:=by kernel_rfl
  rw [this]; omega) (by simp only [maxLen]; omega) (Nat.le_refl _)
 rw [oM_makeSlice,hr]
 have hb:Bw w w':=⟨hg.os,hg.tape,hg.output,hg.size,fun k hk=>hg.block k hk (by simp)⟩
 have hcells:(madeCells (Value.slice none 0 0).cells (n * 1)).toList = List.replicate n (.slice none 0 0):=by
  rw [Nat.mul_one]
  apply List.ext_getElem?
  intro i
  unfold madeCells
  simp [Value.cells,List.getElem?_replicate,Array.getElem?_ofFn]
  try (split <;> simp_all [Nat.mod_one])
 refine k _ _ hb (Nat.le_refl _) ?_
 rcases ho.2 with ⟨h1,h2⟩ | ⟨g,cap,cur,h1,hb2,hg2,hc,hm,hs,ht⟩
 ·cases h1
 ·cases h1
  rw [hcells,Nat.mul_one] at ht
  have e:cur.toList = List.replicate n (.slice none 0 0):=by
   rw [← ht,List.take_of_length_le (by simp; omega)]
  have rep:∀ (i:Nat) (v:Value),(List.replicate n (Value.slice none 0 0))[i]? = some v → v = .slice none 0 0:=fun i v h=>by
   rw [List.getElem?_replicate] at h
   by_cases hi:i < n
   ·rw [if_pos hi] at h; exact (Option.some.inj h).symm
   ·rw [if_neg hi] at h; cases h
  refine ⟨⟨List.replicate n (.slice none 0 0),by simp,?_,?_,?_,?_⟩,hb2⟩
  ·unfold Holds
   rw [hg2,← e]
  ·intro i v r hv hr'
   rw [rep i v hv]
   rw [List.getElem?_replicate] at hr'
   by_cases hi:i < n
   ·rw [if_pos hi] at hr'
    cases hr'
    exact GRow.nil
   ·rw [if_neg hi] at hr'; cases hr'
  ·intro i j v u _ hv _ x e1
   rw [rep i v hv] at e1
   cases e1
  ·intro i v hv e1
   rw [rep i v hv] at e1
   cases e1
end
end Go.Proofs
namespace Go.Proofs
open Go Go.Sh Go.RowKit FdSpec TkSpec CodeSpec PrSpec FdPoly
section
variable {K:VK} {w w' w0 W W':World} {L:List (Addr × Value)} {g n B:Nat} {row:Option Nat}
def ChJ (s:Stp) (goal:List Cls) (know:List (List Knw)) (w0:World) (L:List (Addr × Value)) (B g:Nat) (vs:List Value) (W:World):Prop:=Kn w0 L W ∧ B ≤ W.heap.size ∧ ∃ (u0 u1 u2 u3:Value) (i:Nat) (R:List (List Bool)) (ok:Bool),vs = [u0,u1,u2,u3,.bool ok,.int .i64 (i:Int)] ∧ i ≤ goal.length ∧ R.length = i ∧
 R ++ (chosenL s (goal.drop i) (know.drop i)).1 = (chosenL s goal know).1 ∧ (ok && (chosenL s (goal.drop i) (know.drop i)).2) = (chosenL s goal know).2 ∧ OutB W B g (R ++ List.replicate (goal.length - i) [])
def CiJ (s:Stp) (c:Cls) (ks:List Knw) (R:List (List Bool)) (m:Nat) (w0:World) (L:List (Addr × Value)) (B g:Nat) (vs:List Value) (W:World):Prop:=Kn w0 L W ∧ B ≤ W.heap.size ∧ ∃ (u0 u1:Value) (j:Nat) (r:List Bool) (d:Int),vs = [u0,u1,.int .i64 d,.int .i64 (j:Int)] ∧ j ≤ c.claims.length ∧ I64 d ∧ r.length = j ∧ d ≤ c.need ∧ c.need - j ≤ d ∧
 r ++ (chosenC s d (c.claims.drop j) (ks.drop j)).1 = (chosenC s c.need c.claims ks).1 ∧ (chosenC s d (c.claims.drop j) (ks.drop j)).2 = (chosenC s c.need c.claims ks).2 ∧ OutB W B g (R ++ r :: List.replicate m [])
theorem kn_fr (h:Kn w0 L W) (hL:∀ p ∈ L,p.1.block < B) (hB:w0.heap.size ≤ B) (hf:Fr (fun j=>B ≤ j) W W'):Kn w0 L W':=
 ⟨⟨hf.os.trans h.below.os,hf.tape.trans h.below.tape,hf.output.trans h.below.output,Nat.le_trans h.below.size hf.size,fun j hj=>(hf.block j (Nat.lt_of_lt_of_le hj h.below.size) (by omega)).trans (h.below.block j hj)⟩,
  cells_fr h.cells hf fun p hp=>⟨cells_lt h.cells p hp,by have:=hL p hp; omega⟩⟩
@[go_sem] theorem idx_bb (T:TypeId) (b o n c:Nat) (x:Int):oM Tryz.prog (.indexAddr 120 (.tmp 0) (.tmp 1)) T [.slice (some ⟨b,o,none⟩) n c,.int .i64 x] = onM (0 ≤ x ∧ x < n) (.pointer (some ⟨b,o + x.toNat,none⟩)):=by
 have:=idx_row (K:=fun _ _=>True) (P:=Tryz.prog) (n:=1) 120 T (by kernel_rfl) (fun w=>by kernel_rfl) b o n c x
 rwa [Nat.mul_one] at this
set_option maxHeartbeats 4000000 in
theorem chosen_ok (s:Stp) {sv gv kv:Value} {goal:List Cls} {know:List (List Knw)} (hs:SetR w s sv) (hg:GoalR w gv goal) (hk0:KnowR w kv know) (hgm:goalM s goal = true) (hft:fitsM s goal know = true)
  (k:∀ g B w',Bw w w' → w.heap.size ≤ B → OutB w' B g (chosenL s goal know).1 → K (.tuple #[.slice (some ⟨g,0,none⟩) goal.length goal.length,.bool (chosenL s goal know).2]) w'):callM Tryz.prog 92 #[stpV s sv,gv,kv] K w:=by
 apply sh_92_ok
 unfold sh_92
 have hs':=hs
 have hg':=hg
 obtain ⟨ad,c,rfl⟩:=hs.ints.isSlice
 obtain ⟨gad,gc,rfl⟩:=hg.isSlice
 obtain ⟨kad,kc,rfl⟩:=hk0.isSlice
 have hgm':=hgm
 unfold goalM at hgm'
 simp only [Bool.and_eq_true,decide_eq_true_eq] at hgm'
 refine box_kn (cs:=stpC s (.slice ad s.bases.length c)) rfl (.start w) fun b1 W hk hb1 hbb=>?_
 clear hb1
 repeat (any_goals ((with_reducible refine oG fun V Z=>?_); simp [go_sem]; apply Z; clear Z V))
 refine make_rows (by omega) (fun g W2 h2 hg2 hO=>?_)
 have hL:∀ p ∈ cellsOf [] b1 0 (stpC s (.slice ad s.bases.length c)),p.1.block < W.heap.size:=cells_lt hk.cells
 have hk2:=hk.next h2
 have hWB:=hk.below.size
 repeat (any_goals ((with_reducible refine oG fun V Z=>?_); simp [go_sem]; apply Z; clear Z V))
 refine ⟨ChJ s goal know w _ W.heap.size g,(fun vs _=>match vs with | [_,_,_,_,_,.int _ i]=>goal.length - i.toNat | _=>0),⟨hk2,h2.size,_,_,_,_,0,[],true,rfl,by omega,rfl,by simp,by simp,by simpa using hO⟩,?_⟩
 clear hk2 hO hg2
 rintro _ _ W3 ⟨hk3,hB3,u0,u1,u2,u3,i,R,ok,rfl,hi,hRl,hR,hok,hO⟩
 by_cases hin:i = goal.length
 ·repeat (any_goals (first
  | (with_reducible refine yO ?_)
  | ((with_reducible refine oG fun V Z=>?_); simp [go_sem]; apply Z; clear Z V)))
  rw [hin,List.drop_of_length_le (Nat.le_refl _)] at hR hok
  have e1:(chosenL s [] (know.drop goal.length)) = ([],true):=by unfold chosenL; cases know.drop goal.length <;> rfl
  rw [e1] at hR hok
  simp only [List.append_nil,Bool.and_true] at hR hok
  have k:=k g _ _ hk3.below hWB (by rw [hin] at hO; simpa [hR] using hO)
  rwa [← hok] at k
 have hft':=hft
 unfold fitsM at hft'
 simp only [Bool.and_eq_true,decide_eq_true_eq] at hft'
 have hkl:=hft'.1
 have eg:goal[i]? = some goal[i]:=gE (by omega)
 have ek:know[i]? = some know[i]:=gE (by omega)
 have hfi:=fitsL_at hft'.2 eg ek
 have hgd:goal.drop i = goal[i] :: goal.drop (i + 1):=List.drop_eq_getElem_cons (by omega)
 have hkd:know.drop i = know[i] :: know.drop (i + 1):=List.drop_eq_getElem_cons (by omega)
 have hcf:clsFine s goal[i] = true:=List.all_eq_true.1 hgm'.1.2 _ (List.getElem_mem _)
 have hcm:∀ x ∈ goal[i].claims,claimM s x = true:=fun x hx=>List.all_eq_true.1 (List.all_eq_true.1 hgm'.2 _ (List.getElem_mem _)) x hx
 obtain ⟨b4,o4,rfl,hlt4,cs4,_,hcell4,v4,rfl,hI4,hrow4⟩:=hg'.at (i:=i) (by omega)
 obtain ⟨b5,o5,rfl,hlt5,cs5,_,hcell5,v5,rfl,hrow5⟩:=hk0.at (i:=i) (by omega)
 have c40:=hcell4 0 _ rfl
 have c41:=hcell4 1 _ rfl
 have c50:=hcell5 0 _ rfl
 simp only [Nat.add_zero,Nat.mul_one] at c40 c50
 rw [hgd,hkd] at hR hok
 have e2:chosenL s (goal[i] :: goal.drop (i + 1)) (know[i] :: know.drop (i + 1)) = ((chosenC s goal[i].need goal[i].claims know[i]).1 :: (chosenL s (goal.drop (i + 1)) (know.drop (i + 1))).1,decide ((chosenC s goal[i].need goal[i].claims know[i]).2 = 0) && (chosenL s (goal.drop (i + 1)) (know.drop (i + 1))).2):=rfl
 rw [e2] at hR hok
 clear e2 hgd hkd
 generalize goal[i] = cl at *
 generalize know[i] = ks at *
 simp only [clsFine,Bool.and_eq_true,decide_eq_true_eq] at hcf
 obtain ⟨ad4,cp4,rfl⟩:=hrow4.isSlice
 obtain ⟨ad5,cp5,rfl⟩:=hrow5.isSlice
 have hig:(i:Int) < goal.length:=by omega
 have hik:(i:Int) < know.length:=by omega
 have hrep:List.replicate (goal.length - i) ([]:List Bool) = [] :: List.replicate (goal.length - (i + 1)) []:=by
  rw [show goal.length - i = goal.length - (i + 1) + 1 by omega]; rfl
 rw [hrep] at hO
 iterate 4 (any_goals (first
 | (with_reducible refine yL ?_)
 | ((with_reducible refine oG fun V Z=>?_); simp [go_sem,(hk3.below.cell hlt4).trans c40,(hk3.below.cell hlt4).trans c41,hig]; apply Z; clear Z V)))
 refine local_cls _ _ _ _ (.start W3) (fun b6 W6 hk6 hb6 hg6=>?_)
 have hk36:=hk3.next hb6
 repeat (any_goals ((with_reducible refine oG fun V Z=>?_); simp [go_sem,hk6.cells]; apply Z; clear Z V))
 refine ⟨CiJ s cl ks R (goal.length - (i + 1)) w _ W.heap.size g,(fun vs _=>match vs with | [_,_,_,.int _ j]=>cl.claims.length - j.toNat | _=>0),⟨hk36,Nat.le_trans hB3 hb6.size,u2,u3,0,[],cl.need,rfl,by omega,hI4,rfl,by omega,by omega,rfl,rfl,hO.next hb6⟩,?_⟩
 clear hO hk36 hb6 hk6
 rintro _ _ W7 ⟨hk7,hB7,u5,u6,j,r,d,rfl,hj,hId,hrl,hd1,hd2,hr1,hr2,hO7⟩
 by_cases hjn:j = cl.claims.length
 ·rw [hjn,List.drop_of_length_le (Nat.le_refl _)] at hr1 hr2
  have e3:chosenC s d [] (ks.drop cl.claims.length) = ([],d):=by unfold chosenC; cases ks.drop cl.claims.length <;> rfl
  rw [e3,List.append_nil] at hr1
  rw [e3] at hr2
  rw [← hr1,← hr2] at hR
  rw [← hr2] at hok
  have hnx:∀ W8,W8 = W7 → ChJ s goal know w (cellsOf [] b1 0 (stpC s (.slice ad s.bases.length c))) W.heap.size g [.int .i64 (i:Int),.int .i64 d,u5,u6,.bool (ok && decide (d = 0)),.int .i64 ((i + 1:Nat):Int)] W8:=by
   rintro _ rfl
   refine ⟨hk7,hB7,_,_,_,_,i + 1,R ++ [r],ok && decide (d = 0),rfl,by omega,by simp [hRl],by simpa using hR,?_,by simpa using hO7⟩
   rw [← hok,Bool.and_assoc]
  have hwi:IntKind.i64.wrap ((i:Int) + 1) = ((i + 1:Nat):Int):=by rw [wrapI64 _ (by omega) (by omega)]; rfl
  cases ok with
  | false=>
   have e4:([u0,u1,u2,u3,Value.bool false,Value.int IntKind.i64 (i:Int)]:List Value).getD 4 undef = Value.bool false:=rfl
   repeat (any_goals (first
   | (with_reducible refine yO ?_)
   | ((with_reducible refine oG fun V Z=>?_); simp [go_sem]; apply Z; clear Z V)))
   simp only [e4]
   repeat (any_goals (first
   | (with_reducible first|refine zB ?_|refine yC ?_)
   | ((with_reducible refine oG fun V Z=>?_); simp [go_sem]; (try simp (disch:=omega) only [wrapI64,wrapU8,wrapU32,wrapU64]); apply Z; clear Z V)))
   exact ⟨hnx _ rfl,by show goal.length - (((i + 1:Nat):Int)).toNat < goal.length - ((i:Nat):Int).toNat; omega⟩
  | true=>
   have e4:([u0,u1,u2,u3,Value.bool true,Value.int IntKind.i64 (i:Int)]:List Value).getD 4 undef = Value.bool true:=rfl
   by_cases hd0:d = 0
   ·rw [decide_eq_true hd0] at hnx
    rw [hd0] at hnx ⊢
    simp only [e4]
    repeat (any_goals (first
    | (with_reducible first|refine pureM_in ?_|refine zA ?_|refine yB ?_|refine yO ?_)
    | ((with_reducible refine oG fun V Z=>?_); simp [go_sem]; (try simp (disch:=omega) only [wrapI64,wrapU8,wrapU32,wrapU64]); apply Z; clear Z V)))
    exact ⟨hnx _ rfl,by show goal.length - (((i + 1:Nat):Int)).toNat < goal.length - ((i:Nat):Int).toNat; omega⟩
   ·rw [decide_eq_false hd0] at hnx
    have hbe:(d == 0) = false:=by simp [hd0]
    simp only [e4]
    repeat (any_goals (first
    | (with_reducible first|refine pureM_in ?_|refine zA ?_|refine yB ?_|refine yO ?_)
    | ((with_reducible refine oG fun V Z=>?_); simp [go_sem,hd0,hbe]; (try simp (disch:=omega) only [wrapI64,wrapU8,wrapU32,wrapU64]); apply Z; clear Z V)))
    exact ⟨hnx _ rfl,by show goal.length - (((i + 1:Nat):Int)).toNat < goal.length - ((i:Nat):Int).toNat; omega⟩
 have ec:cl.claims[j]? = some cl.claims[j]:=gE (by omega)
 have ekn:ks[j]? = some ks[j]:=gE (by have:=hfi.1; omega)
 have hcd:cl.claims.drop j = cl.claims[j] :: cl.claims.drop (j + 1):=List.drop_eq_getElem_cons (by omega)
 have hkd:ks.drop j = ks[j] :: ks.drop (j + 1):=List.drop_eq_getElem_cons (by have:=hfi.1; omega)
 have hxm:=hcm _ (List.getElem_mem (by omega:j < cl.claims.length))
 obtain ⟨b8,o8,rfl,hlt8,cs8,_,hcell8,v8,rfl,hm8⟩:=hrow4.at (i:=j) (by omega)
 obtain ⟨b9,o9,rfl,hlt9,cs9,_,hcell9,v9,rfl,hv9⟩:=hrow5.at (i:=j) (by have:=hfi.1; omega)
 have c80:=hcell8 0 _ rfl
 have c81:=hcell8 1 _ rfl
 have c90:=hcell9 0 _ rfl
 have c91:=hcell9 1 _ rfl
 simp only [Nat.add_zero] at c80 c90
 generalize cl.claims[j] = x at *
 generalize ks[j] = kn at *
 obtain ⟨ad8,cp8,hv8⟩:=hm8.eqs.isSlice
 subst hv8
 obtain ⟨ad9,cp9,rfl⟩:=hv9.isSlice
 have hjc:(j:Int) < cl.claims.length:=by omega
 have hjk:(j:Int) < ks.length:=by have:=hfi.1; omega
 have hrow:(R ++ r :: List.replicate (goal.length - (i + 1)) [])[i]? = some r:=by
  rw [List.getElem?_append_right (by omega),hRl,Nat.sub_self]; rfl
 have hset:∀ b:Bool,(R ++ r :: List.replicate (goal.length - (i + 1)) []).set i (r ++ [b]) = R ++ (r ++ [b]) :: List.replicate (goal.length - (i + 1)) []:=fun b=>by
  rw [List.set_append,if_neg (by omega),hRl,Nat.sub_self]; rfl
 have hlen9:=hrow4.len
 iterate 4 (any_goals (first
 | (with_reducible refine yL ?_)
 | ((with_reducible refine oG fun V Z=>?_); simp [go_sem,(hk7.below.cell hlt8).trans c80,(hk7.below.cell hlt8).trans c81,hjc]; apply Z; clear Z V)))
 refine local_clm _ _ _ _ hk7 (fun b10 W8 hk8 hb8 hg8=>?_)
 have hb8:=hb8.on (.drawn (B:=W8.heap.size))
 have hk8:=hk8.drew
 refine ⟨Nx { W8 with drawn:=W8.drawn + 1 },Below.refl _ _,rfl,?_⟩
 generalize ({ W8 with drawn:=W8.drawn + 1 }:World) = W9 at hk8 hb8 ⊢
 by_cases hdp:¬ (0:Int) < d
 ·repeat (any_goals (first
  | (with_reducible first|refine pX ?_|((refine idGdH ?_); refine gdH_conv fun _=>?_)|refine zB ?_)
  | ((with_reducible refine idOH ?_); first|(with_reducible refine vB ?_)|(with_reducible refine oH_of ⟨_,rfl⟩ (fun W0 hW0=>by (refine oG (fun V Z=>?_)); simp [go_sem,hdp]; (first | exact Z _ _ ⟨rfl,rfl⟩ | exact ⟨by omega,Z _ _ ⟨rfl,rfl⟩⟩)) ?_))))
  refine ⟨Nx,fun w10 h10=>?_⟩
  have hb10:=hb8.on h10
  repeat (any_goals (with_reducible first|refine zB ?_|refine yC ?_))
  refine ⟨fun l W=>l = [.int .i64 (d)] ∧ W = w10,?_,?_⟩
  ·repeat (any_goals (with_reducible refine yM ?_))
   exact ⟨rfl,rfl⟩
  ·rintro _ _ _ ⟨rfl,rfl⟩
   obtain ⟨rad,rc,hrc⟩:=(hO7.next hb10).get hrow
   iterate 2 (any_goals ((with_reducible refine oG fun V Z=>?_); simp [go_sem,hrc,hig]; apply Z; clear Z V))
   refine lit_bool false (fun q w11 h11 hq11 hh11=>?_)
   have hrc11:=(h11.cell (hO7.next hb10).lt).trans hrc
   refine OutB.push ((hO7.next hb10).next h11) hrow (by have:=hb10.size; have:=h11.size; omega) hrc11 hh11 (by omega) (fun v' w12 hst=>?_)
   repeat (any_goals ((with_reducible refine oG fun V Z=>?_); simp [go_sem,hig]; apply Z; clear Z V))
   refine hst _ _ (fun w13 hO13 hf13=>?_)
   repeat (any_goals ((with_reducible refine oG fun V Z=>?_); simp [go_sem]; (try simp (disch:=omega) only [wrapI64,wrapU8,wrapU32,wrapU64]); apply Z; clear Z V))
   rw [hset] at hO13
   have hk13:=kn_fr ((hk7.next hb10).next h11) hL hWB hf13
   refine ⟨⟨hk13,by have:=hb10.size; have:=h11.size; have:=hf13.size; omega,_,_,j + 1,r ++ [false],d,rfl,by omega,by unfold I64 at hId ⊢; omega,by simp [hrl],by omega,by omega,?_,?_,hO13⟩,by show cl.claims.length - (((j + 1:Nat):Int)).toNat < cl.claims.length - ((j:Nat):Int).toNat; omega⟩
   ·rw [← hr1,hcd,hkd,List.append_assoc]
    simp [chosenC,hdp]
   ·rw [← hr2,hcd,hkd]
    simp [chosenC,hdp]
 have hdp:(0:Int) < d:=by omega
 cases hhas:kn.has with
 | false=>
  rw [hhas] at c90
  repeat (any_goals (first
  | (with_reducible first|refine pX ?_|((refine idGdH ?_); refine gdH_conv fun _=>?_)|((refine idGd ?_); first|refine zA ?_|refine zB ?_))
  | ((with_reducible refine idOH ?_); first|(with_reducible refine vA ?_)|(with_reducible refine oH_of ⟨_,rfl⟩ (fun W0 hW0=>by (refine oG (fun V Z=>?_)); simp [go_sem,(hk8.next hW0).cells,((hk8.next hW0).below.cell hlt5).trans c50,((hk8.next hW0).below.cell hlt9).trans c90,((hk8.next hW0).below.cell hlt9).trans c91,hdp,hik,hjk]; (first | exact Z _ _ ⟨rfl,rfl⟩ | exact ⟨by omega,Z _ _ ⟨rfl,rfl⟩⟩)) ?_))))
  refine ⟨Nx,fun w10 h10=>?_⟩
  have hb10:=hb8.on h10
  repeat (any_goals (with_reducible first|refine zB ?_|refine yC ?_))
  refine ⟨fun l W=>l = [.int .i64 (d)] ∧ W = w10,?_,?_⟩
  ·repeat (any_goals (with_reducible refine yM ?_))
   exact ⟨rfl,rfl⟩
  ·rintro _ _ _ ⟨rfl,rfl⟩
   obtain ⟨rad,rc,hrc⟩:=(hO7.next hb10).get hrow
   iterate 2 (any_goals ((with_reducible refine oG fun V Z=>?_); simp [go_sem,hrc,hig]; apply Z; clear Z V))
   refine lit_bool false (fun q w11 h11 hq11 hh11=>?_)
   have hrc11:=(h11.cell (hO7.next hb10).lt).trans hrc
   refine OutB.push ((hO7.next hb10).next h11) hrow (by have:=hb10.size; have:=h11.size; omega) hrc11 hh11 (by omega) (fun v' w12 hst=>?_)
   repeat (any_goals ((with_reducible refine oG fun V Z=>?_); simp [go_sem,hig]; apply Z; clear Z V))
   refine hst _ _ (fun w13 hO13 hf13=>?_)
   repeat (any_goals ((with_reducible refine oG fun V Z=>?_); simp [go_sem]; (try simp (disch:=omega) only [wrapI64,wrapU8,wrapU32,wrapU64]); apply Z; clear Z V))
   rw [hset] at hO13
   have hk13:=kn_fr ((hk7.next hb10).next h11) hL hWB hf13
   refine ⟨⟨hk13,by have:=hb10.size; have:=h11.size; have:=hf13.size; omega,_,_,j + 1,r ++ [false],d,rfl,by omega,by unfold I64 at hId ⊢; omega,by simp [hrl],by omega,by omega,?_,?_,hO13⟩,by show cl.claims.length - (((j + 1:Nat):Int)).toNat < cl.claims.length - ((j:Nat):Int).toNat; omega⟩
   ·rw [← hr1,hcd,hkd,List.append_assoc]
    simp [chosenC,hhas]
   ·rw [← hr2,hcd,hkd]
    simp [chosenC,hhas]
 | true=>
  rw [hhas] at c90
  repeat (any_goals (first
  | (with_reducible first|refine pX ?_|((refine idGdH ?_); refine gdH_conv fun _=>?_)|refine zA ?_)
  | ((with_reducible refine idOH ?_); first|(with_reducible refine vA ?_)|(with_reducible refine oH_of ⟨_,rfl⟩ (fun W0 hW0=>by (refine oG (fun V Z=>?_)); simp [go_sem,(hk8.next hW0).cells,((hk8.next hW0).below.cell hlt5).trans c50,((hk8.next hW0).below.cell hlt9).trans c90,((hk8.next hW0).below.cell hlt9).trans c91,hdp,hik,hjk]; (first | exact Z _ _ ⟨rfl,rfl⟩ | exact ⟨by omega,Z _ _ ⟨rfl,rfl⟩⟩)) ?_))))
  refine ⟨Nx,fun w9 h9=>?_⟩
  have hk9:=hk8.next h9
  iterate 1 (any_goals (with_reducible refine zA ?_))
  refine holds_ok s x kn.values (hs'.next hk9.below) (hm8.next hk9.below) (hv9.next hk9.below) (claim_fit hxm) (fun w10 h10=>?_)
  have hb10:=(hb8.on h9).on h10
  cases hho:holdsM s x kn.values with
  | false=>
   repeat (any_goals (with_reducible refine yB ?_))
   refine ⟨fun l W=>l = [.int .i64 (d)] ∧ W = w10,?_,?_⟩
   ·repeat (any_goals (with_reducible refine yM ?_))
    exact ⟨rfl,rfl⟩
   ·rintro _ _ _ ⟨rfl,rfl⟩
    obtain ⟨rad,rc,hrc⟩:=(hO7.next hb10).get hrow
    iterate 2 (any_goals ((with_reducible refine oG fun V Z=>?_); simp [go_sem,hrc,hig]; apply Z; clear Z V))
    refine lit_bool false (fun q w11 h11 hq11 hh11=>?_)
    have hrc11:=(h11.cell (hO7.next hb10).lt).trans hrc
    refine OutB.push ((hO7.next hb10).next h11) hrow (by have:=hb10.size; have:=h11.size; omega) hrc11 hh11 (by omega) (fun v' w12 hst=>?_)
    repeat (any_goals ((with_reducible refine oG fun V Z=>?_); simp [go_sem,hig]; apply Z; clear Z V))
    refine hst _ _ (fun w13 hO13 hf13=>?_)
    repeat (any_goals ((with_reducible refine oG fun V Z=>?_); simp [go_sem]; (try simp (disch:=omega) only [wrapI64,wrapU8,wrapU32,wrapU64]); apply Z; clear Z V))
    rw [hset] at hO13
    have hk13:=kn_fr ((hk7.next hb10).next h11) hL hWB hf13
    refine ⟨⟨hk13,by have:=hb10.size; have:=h11.size; have:=hf13.size; omega,_,_,j + 1,r ++ [false],d,rfl,by omega,by unfold I64 at hId ⊢; omega,by simp [hrl],by omega,by omega,?_,?_,hO13⟩,by show cl.claims.length - (((j + 1:Nat):Int)).toNat < cl.claims.length - ((j:Nat):Int).toNat; omega⟩
    ·rw [← hr1,hcd,hkd,List.append_assoc]
     simp [chosenC,hho,hhas]
    ·rw [← hr2,hcd,hkd]
     simp [chosenC,hho,hhas]
  | true=>
   repeat (any_goals (with_reducible refine yB ?_))
   refine ⟨fun l W=>l = [.int .i64 (d - 1)] ∧ W = w10,?_,?_⟩
   ·repeat (any_goals (first
    | (with_reducible refine yL ?_)
    | ((with_reducible refine oG fun V Z=>?_); simp [go_sem]; (try simp (disch:=omega) only [wrapI64,wrapU8,wrapU32,wrapU64]); apply Z; clear Z V)))
    exact ⟨rfl,rfl⟩
   ·rintro _ _ _ ⟨rfl,rfl⟩
    obtain ⟨rad,rc,hrc⟩:=(hO7.next hb10).get hrow
    iterate 2 (any_goals ((with_reducible refine oG fun V Z=>?_); simp [go_sem,hrc,hig]; apply Z; clear Z V))
    refine lit_bool true (fun q w11 h11 hq11 hh11=>?_)
    have hrc11:=(h11.cell (hO7.next hb10).lt).trans hrc
    refine OutB.push ((hO7.next hb10).next h11) hrow (by have:=hb10.size; have:=h11.size; omega) hrc11 hh11 (by omega) (fun v' w12 hst=>?_)
    repeat (any_goals ((with_reducible refine oG fun V Z=>?_); simp [go_sem,hig]; apply Z; clear Z V))
    refine hst _ _ (fun w13 hO13 hf13=>?_)
    repeat (any_goals ((with_reducible refine oG fun V Z=>?_); simp [go_sem]; (try simp (disch:=omega) only [wrapI64,wrapU8,wrapU32,wrapU64]); apply Z; clear Z V))
    rw [hset] at hO13
    have hk13:=kn_fr ((hk7.next hb10).next h11) hL hWB hf13
    refine ⟨⟨hk13,by have:=hb10.size; have:=h11.size; have:=hf13.size; omega,_,_,j + 1,r ++ [true],d - 1,rfl,by omega,by unfold I64 at hId ⊢; omega,by simp [hrl],by omega,by omega,?_,?_,hO13⟩,by show cl.claims.length - (((j + 1:Nat):Int)).toNat < cl.claims.length - ((j:Nat):Int).toNat; omega⟩
    ·rw [← hr1,hcd,hkd,List.append_assoc]
     simp [chosenC,hho,hhas,hdp]
    ·rw [← hr2,hcd,hkd]
     simp [chosenC,hho,hhas,hdp]
end
end Go.Proofs
namespace Go.Proofs
open Go Go.Sh Tryz
def held_18_43 (kn_39 kr_40:WK) (l_37:List Value) (v10 v11 v12 v9:Value) (w:World):Prop:=
 heldM w (fun C_43 w=>(((true:Bool) = true) ∧ (jL 120 v12 C_43 (fun v58=>
 jF 127 0 (l_37.getD 0 undef) C_43 (fun v59=>
 jL 3 v59 C_43 (fun v60=>
 jI 120 v58 v60 C_43 (fun v61=>
 jL 61 v61 C_43 (fun v62=>
 jF 127 1 (l_37.getD 0 undef) C_43 (fun v63=>
 jL 3 v63 C_43 (fun v64=>
 jI 61 v62 v64 C_43 (fun v65=>
 jL 4 v65 C_43 (fun v66=>
 pureH v66 C_43 (fun v67=>
 jT v67 (jF 32 1 v9) C_43 (fun v68=>
 jT v67 (jL 30 v68) C_43 (fun v69=>
 jT v67 (jF 127 0 (l_37.getD 0 undef)) C_43 (fun v70=>
 jT v67 (jL 3 v70) C_43 (fun v71=>
 jT v67 (jI 30 v69 v71) C_43 (fun v72=>
 jT v67 (jL 24 v72) C_43 (fun v73=>
 jT v67 (jF 127 1 (l_37.getD 0 undef)) C_43 (fun v74=>
 jT v67 (jL 3 v74) C_43 (fun v75=>
 jT v67 (jI 24 v73 v75) C_43 (fun v76=>
 jT v67 (jL 3 v76) C_43 (fun v77=>
 jT v67 (jC .neq 3 0 4 v77) C_43 (fun v78=>
 jP v67 v78 (.bool false) C_43 (fun v79=>
 ∃ S_66:World → WK,∀ w,C_43 w → (
 condM v79
 (oM prog (.build 34 #[]) 34 [] (fun v80 w=>
 kS 34 v10 v80 (fun _ w=>
 kS 39 v11 (.int .i64 3) (fun _ w=>
 kr_40 w) w) w) w)
 (kn_39 w)))))))))))))))))))))))))))
def held_18_119 (M_102:List Value → World → Prop) (a3:Value) (l_100 l_79:List Value) (v109 v116 v5:Value) (w:World):Prop:=
 heldM w (fun C_119 w=>(((true:Bool) = true) ∧ (pureH v109 C_119 (fun v136=>
 pureH (l_100.getD 2 undef) C_119 (fun v137=>
 jF 26 0 v5 C_119 (fun v138=>
 jF 23 1 v138 C_119 (fun v139=>
 jL 3 v139 C_119 (fun v140=>
 pureH v109 C_119 (fun v141=>
 pureH (l_100.getD 2 undef) C_119 (fun v142=>
 jI 30 v141 v142 C_119 (fun v143=>
 jL 24 v143 C_119 (fun v144=>
 pureH v116 C_119 (fun v145=>
 pureH a3 C_119 (fun v146=>
 pureH (l_79.getD 5 undef) C_119 (fun v147=>
 jI 28 v146 v147 C_119 (fun v148=>
 jL 114 v148 C_119 (fun v149=>
 pureH (l_100.getD 2 undef) C_119 (fun v150=>
 jI 114 v149 v150 C_119 (fun v151=>
 jF 113 1 v151 C_119 (fun v152=>
 jL 24 v152 C_119 (fun v153=>
 ∃ S_138:World → WK,∃ R_139:VK,(∀ v w w_1,S_138 w w_1 → R_139 v w → R_139 v w_1) ∧
 (∀ w,C_119 w → (callM prog 97 #[v140,v144,v145,v153] (fun v w_1=>C_119 w_1 ∧ S_138 w w_1 ∧ R_139 v w_1) w)) ∧
 (∀ w,C_119 w → ∀ v154,R_139 v154 w → (
 kI 30 v136 v137 (fun v155 w=>
 kS 24 v155 v154 (fun _ w=>
 M_102 [(l_100.getD 2 undef),v116] w) w) w)))))))))))))))))))))))
def pre_18_102 (a3:Value) (l_100 l_79:List Value) (v106 v109 v12 v5 v9:Value) (M_102:List Value → World → Prop) (w:World):Prop:=
 kI 24 v106 (l_100.getD 2 undef) (fun v115 w=>
 kL 3 v115 (fun v116 w=>
 kF 32 0 v9 (fun v119 w=>
 kL 29 v119 (fun v120 w=>
 kI 29 v120 (l_79.getD 5 undef) (fun v122 w=>
 kL 30 v122 (fun v123 w=>
 kI 30 v123 (l_100.getD 2 undef) (fun v125 w=>
 kL 24 v125 (fun v126 w=>
 callM prog 96 #[v126] (fun v127 w=>
 kI 30 v109 (l_100.getD 2 undef) (fun v128 w=>
 kS 24 v128 v127 (fun _ w=>
 kL 120 v12 (fun v129 w=>
 kI 120 v129 (l_79.getD 5 undef) (fun v131 w=>
 kL 61 v131 (fun v132 w=>
 kI 61 v132 (l_100.getD 2 undef) (fun v134 w=>
 kL 4 v134 (fun v135 w=>
 condM v135
 (held_18_119 M_102 a3 l_100 l_79 v109 v116 v5 w)
 (M_102 [(l_100.getD 2 undef),v116] w)) w) w) w) w) w) w) w) w) w) w) w) w) w) w) w) w
def held_18_143 (J_77:List Value → World → Prop) (l_100 l_79:List Value) (m_78:List Value → World → Nat) (v106 v109 v16:Value) (w0_l_79 w:World):Prop:=
 heldM w (fun C_143 w=>(((true:Bool) = true) ∧ (jF 34 0 v16 C_143 (fun v157=>
 jL 30 v157 C_143 (fun v158=>
 pureH v106 C_143 (fun v159=>
 jF 34 1 v16 C_143 (fun v162=>
 jL 29 v162 C_143 (fun v163=>
 pureH v109 C_143 (fun v164=>
 ∃ S_150:World → WK,∃ R_151:VK,(∀ v w w_1,S_150 w w_1 → R_151 v w → R_151 v w_1) ∧
 (∀ w,C_143 w → (oM prog (.buildSlice 30 1 #[(0,(.tmp 0))]) 30 [v159] (fun v w_1=>C_143 w_1 ∧ S_150 w w_1 ∧ R_151 v w_1) w)) ∧
 (∃ R_152:VK,(∀ v w w_1,S_150 w w_1 → R_152 v w → R_152 v w_1) ∧
 (∀ w,C_143 w → ∀ v160,R_151 v160 w → (oM prog (.call (Go.Call.mk (.builtin .append) #[(.tmp 0),(.tmp 1)] #[30,30])) 30 [v158,v160] (fun v w_1=>C_143 w_1 ∧ S_150 w w_1 ∧ R_152 v w_1) w)) ∧
 (∃ R_154:VK,(∀ v w w_1,S_150 w w_1 → R_154 v w → R_154 v w_1) ∧
 (∀ w,C_143 w → (oM prog (.buildSlice 29 1 #[(0,(.tmp 0))]) 29 [v164] (fun v w_1=>C_143 w_1 ∧ S_150 w w_1 ∧ R_154 v w_1) w)) ∧
 (∃ R_155:VK,(∀ v w w_1,S_150 w w_1 → R_155 v w → R_155 v w_1) ∧
 (∀ w,C_143 w → ∀ v165,R_154 v165 w → (oM prog (.call (Go.Call.mk (.builtin .append) #[(.tmp 0),(.tmp 1)] #[29,29])) 29 [v163,v165] (fun v w_1=>C_143 w_1 ∧ S_150 w w_1 ∧ R_155 v w_1) w)) ∧
 (∃ R_157:VK,(∀ v w w_1,S_150 w w_1 → R_157 v w → R_157 v w_1) ∧
 (∀ w,C_143 w → (kF 34 0 v16 (fun v w_1=>C_143 w_1 ∧ S_150 w w_1 ∧ R_157 v w_1) w)) ∧
 (∀ w,C_143 w → ∀ v160,R_151 v160 w → ∀ v161,R_152 v161 w → ∀ v165,R_154 v165 w → ∀ v166,R_155 v166 w → ∀ v167,R_157 v167 w → (
 kS 30 v167 v161 (fun _ w=>
 kF 34 1 v16 (fun v168 w=>
 kS 29 v168 v166 (fun _ w=>
 kB .add 3 3 (l_79.getD 5 undef) (.int .i64 1) (fun v169 w=>
 J_77 [(l_79.getD 5 undef),v106,v109,(l_100.getD 0 undef),(l_100.getD 1 undef),v169] w ∧ m_78 [(l_79.getD 5 undef),v106,v109,(l_100.getD 0 undef),(l_100.getD 1 undef),v169] w < m_78 l_79 w0_l_79) w) w) w) w)))))))))))))))
def loop_18_98 (J_77 J_98:List Value → World → Prop) (a3:Value) (l_100 l_79:List Value) (m_78 m_99:List Value → World → Nat) (v106 v109 v111 v12 v16 v5 v9:Value) (w0_l_79 w0_l_100:World):Prop:=
(fun w=>(
 kB .lss 3 0 (l_100.getD 2 undef) v111 (fun v113 w=>
 condM v113
 (joinM (fun M_102=>(pre_18_102 a3 l_100 l_79 v106 v109 v12 v5 v9 M_102 w))
 (fun l_103 u_l_103 w=>(kB .add 3 3 (l_100.getD 2 undef) (.int .i64 1) (fun v156 w=>
 J_98 [(l_103.getD 0 undef),(l_103.getD 1 undef),v156] w ∧ m_99 [(l_103.getD 0 undef),(l_103.getD 1 undef),v156] w < m_99 l_100 w0_l_100) w)))
 (held_18_143 J_77 l_100 l_79 m_78 v106 v109 v16 w0_l_79 w)) w)) w0_l_100
def held_18_81 (J_77:List Value → World → Prop) (a3:Value) (l_79:List Value) (m_78:List Value → World → Nat) (v12 v16 v5 v88 v9:Value) (w0_l_79 w:World):Prop:=
 heldM w (fun C_81 w=>(((true:Bool) = true) ∧ (jL 26 v5 C_81 (fun v95=>
 jL 120 v12 C_81 (fun v96=>
 pureH (l_79.getD 5 undef) C_81 (fun v97=>
 jI 120 v96 v97 C_81 (fun v98=>
 jL 61 v98 C_81 (fun v99=>
 jF 32 1 v9 C_81 (fun v100=>
 jL 30 v100 C_81 (fun v101=>
 pureH (l_79.getD 5 undef) C_81 (fun v102=>
 jI 30 v101 v102 C_81 (fun v103=>
 jL 24 v103 C_81 (fun v104=>
 pureH v88 C_81 (fun v105=>
 ∃ S_93:World → WK,∀ w,C_81 w → (
 callM prog 95 #[v95,v99,v104,v105] (fun v106 w=>
 kN 24 v106 (fun v108 w=>
 oM prog (.makeSlice 30 (.tmp 0) (.tmp 1)) 30 [v108,v108] (fun v109 w=>
 kN 24 v106 (fun v111 w=>
 loopM [(l_79.getD 3 undef),(l_79.getD 4 undef),(.int .i64 0)] w (fun J_98 m_99 l_100 u_l_100 w0_l_100=>loop_18_98 J_77 J_98 a3 l_100 l_79 m_78 m_99 v106 v109 v111 v12 v16 v5 v9 w0_l_79 w0_l_100)) w) w) w) w)))))))))))))))
def loop_18_77 (D_41:Nat) (J_77:List Value → World → Prop) (K:VK) (a3:Value) (l_79:List Value) (m_78:List Value → World → Nat) (v10 v11 v12 v16 v5 v88 v91 v9:Value) (w0_l_79:World):Prop:=
(fun w=>(
 kB .lss 3 0 (l_79.getD 5 undef) v91 (fun v93 w=>
 condM v93
 (held_18_81 J_77 a3 l_79 m_78 v12 v16 v5 v88 v9 w0_l_79 w)
 (kL 34 v16 (fun v170 w=>
 kS 34 v10 v170 (fun _ w=>
 kS 39 v11 (.int .i64 0) (fun _ w=>
 w.heap[D_41]? = some (.deferred (some [])) ∧ ∃ r_166,(do loadVar 34 (← asAddr v10):Sem Value).run prog (w.putObj D_41 (.deferred none)) = .ok r_166 (w.putObj D_41 (.deferred none)) ∧ ∃ r_167,(do loadVar 39 (← asAddr v11):Sem Value).run prog (w.putObj D_41 (.deferred none)) = .ok r_167 (w.putObj D_41 (.deferred none)) ∧ K (.tuple #[r_166,r_167]) (w.putObj D_41 (.deferred none))) w) w) w)) w)) w0_l_79
def sh_18c (a0 a1 a2 a3 a4:Value) (K:VK) (w:World):Prop:=
 oM prog (.box 26 (.tmp 0)) 0 [a0] (fun v5 w=>
 oM prog (.box 32 (.tmp 0)) 0 [a4] (fun v9 w=>
 kA 34 (fun v10 w=>
 kA 39 (fun v11 w=>
 kL 26 v5 (fun v22 w=>
 callM prog 23 #[v22,a1] (fun v24 w=>
 kU v24 (fun v25 w=>
 gF v25 (kL 26 v5) (fun v27 w=>
 gF v25 (pureM a1) (fun v28 w=>
 gF v25 (pureM a3) (fun v29 w=>
 gF v25 (callM prog 90 #[v27,v28,v29]) (fun v30 w=>
 gF v25 (kU v30) (fun v31 w=>
 kP v25 (.bool true) v31 (fun v32 w=>
 gF v32 (kL 26 v5) (fun v34 w=>
 gF v32 (pureM a1) (fun v35 w=>
 gF v32 (kF 32 1 v9) (fun v36 w=>
 gF v32 (kL 30 v36) (fun v37 w=>
 gF v32 (kF 32 0 v9) (fun v38 w=>
 gF v32 (kL 29 v38) (fun v39 w=>
 gF v32 (callM prog 91 #[v34,v35,v37,v39]) (fun v40 w=>
 gF v32 (kU v40) (fun v41 w=>
 kP v32 (.bool true) v41 (fun v42 w=>
 condM v42
 (oM prog (.build 34 #[]) 34 [] (fun v43 w=>
 kS 34 v10 v43 (fun _ w=>
 kS 39 v11 (.int .i64 1) (fun _ w=>
 ∃ r_24,(do loadVar 34 (← asAddr v10):Sem Value).run prog w = .ok r_24 w ∧ ∃ r_25,(do loadVar 39 (← asAddr v11):Sem Value).run prog w = .ok r_25 w ∧ K (.tuple #[r_24,r_25]) w) w) w) w)
 (kL 26 v5 (fun v45 w=>
 callM prog 92 #[v45,a1,a3] (fun v48 w=>
 kE 0 120 v48 (fun v49 w=>
 kE 1 4 v48 (fun v50 w=>
 kA 120 (fun v12 w=>
 kS 120 v12 v49 (fun _ w=>
 kU v50 (fun v52 w=>
 condM v52
 (oM prog (.build 34 #[]) 34 [] (fun v53 w=>
 kS 34 v10 v53 (fun _ w=>
 kS 39 v11 (.int .i64 13) (fun _ w=>
 ∃ r_33,(do loadVar 34 (← asAddr v10):Sem Value).run prog w = .ok r_33 w ∧ ∃ r_34,(do loadVar 39 (← asAddr v11):Sem Value).run prog w = .ok r_34 w ∧ K (.tuple #[r_33,r_34]) w) w) w) w)
 (callM prog 93 #[a1] (fun v55 w=>
 rangeM prog v55 2 w
 (fun vs_36 k_38 w=>(kA 127 (fun v14 w=>
 kS 127 v14 (vs_36.getD 0 undef) (fun _ w=>
 k_38 [v14] w) w) w))
 (fun vs_36 l_37 u_l_37 kn_39 kr_40 w=>(held_18_43 kn_39 kr_40 l_37 v10 v11 v12 v9 w))
 (fun D_41 w=>(kL 26 v5 (fun v81 w=>
 kF 32 1 v9 (fun v84 w=>
 kL 30 v84 (fun v85 w=>
 kF 32 0 v9 (fun v86 w=>
 kL 29 v86 (fun v87 w=>
 callM prog 94 #[v81,a1,a2,v85,v87] (fun v88 w=>
 oM prog (.build 34 #[]) 34 [] (fun v89 w=>
 kA 34 (fun v16 w=>
 kS 34 v16 v89 (fun _ w=>
 kN 27 a1 (fun v91 w=>
 loopM [undef,undef,undef,undef,undef,(.int .i64 0)] w (fun J_77 m_78 l_79 u_l_79 w0_l_79=>loop_18_77 D_41 J_77 K a3 l_79 m_78 v10 v11 v12 v16 v5 v88 v91 v9 w0_l_79)) w) w) w) w) w) w) w) w) w) w))
 (fun D_41 w=>(w.heap[D_41]? = some (.deferred (some [])) ∧ ∃ r_168,(do loadVar 34 (← asAddr v10):Sem Value).run prog (w.putObj D_41 (.deferred none)) = .ok r_168 (w.putObj D_41 (.deferred none)) ∧ ∃ r_169,(do loadVar 39 (← asAddr v11):Sem Value).run prog (w.putObj D_41 (.deferred none)) = .ok r_169 (w.putObj D_41 (.deferred none)) ∧ K (.tuple #[r_168,r_169]) (w.putObj D_41 (.deferred none))))) w)) w) w) w) w) w) w) w)) w) w) w) w) w) w) w) w) w) w) w) w) w) w) w) w) w) w) w) w) w) w
theorem sh_18c_ok {a0 a1 a2 a3 a4:Value} {K:VK} {w:World} (h:sh_18c a0 a1 a2 a3 a4 K w):callM prog 18 #[a0,a1,a2,a3,a4] K w:=
 callsF_of_code (fun i=>bif Nat.beq i 8 then .free [0,1,2,3,4,5,6,7,8,9,10,11,12,13,14,15,16,17,18,19,20,21] [] [] else bif Nat.beq i 15 then .free [0,1,2,3,4,5,6,7,8,9,10] [] [11,12] else bif Nat.beq i 22 then .free [0,1,2,3,4,5,6,7,8,9,10,11,12,13,14,15,16,17] [18] [19,20] else bif Nat.beq i 24 then .free [0,1,2,5,6,7] [3,4,8,9,10] [11,12,13] else 0) (fn:=Tryz.f18) (rs:=[.cell 10 34,.cell 11 39]) Tryz.func18 rfl rfl (by kernel_rfl) (nB rfl) (Eq.mp (by kernel_rfl) h)
end Go.Proofs
namespace Go.Proofs
open Go Go.Sh Go.RowKit FdSpec TkSpec CodeSpec PrSpec FdPoly
section
variable {K:VK} {w w' w0 W W':World} {L:List (Addr × Value)} {g n B:Nat} {row:Option Nat}
abbrev BoolRows (w:World) (v:Value) (l:List (List Bool)):Prop:=SRow 1 (AtOf 1 (VOne BoolsR)) w v l
theorem boolsr_vstay:VStay (VOne BoolsR):=rows_stay bools_vstay
theorem OutB.rows {rows:List (List Bool)} (h:OutB w B g rows) (hl:rows.length ≤ 9223372036854775807) (hr:∀ r ∈ rows,r.length ≤ 9223372036854775807):BoolRows w (.slice (some ⟨g,0,none⟩) rows.length rows.length) rows:=by
 obtain ⟨vs,h1,h2,h3,_,_⟩:=h.ex
 refine ⟨⟨_,_,rfl,.inr ⟨g,0,rfl,h2.lt,fun i hi=>?_⟩⟩,hl⟩
 have hiv:i < vs.length:=by omega
 have ev:vs[i]? = some vs[i]:=gE hiv
 have er:rows[i]? = some rows[i]:=gE hi
 refine ⟨[vs[i]],rfl,fun j u hj=>?_,_,rfl,GRow.srow (by decide) (h3 i _ _ ev er) (hr _ (List.getElem_mem hi))⟩
 obtain ⟨h4,rfl⟩:=gS hj
 have hj0:j = 0:=by simpa using h4
 subst hj0
 have:=h2.cell i hiv
 simpa using this
def Yng (B g:Nat) (w:World):Nat → Prop:=fun i=>B ≤ i ∧ i < w.heap.size ∧ i ≠ g
theorem Yng.mono (hs:w.heap.size ≤ w'.heap.size):∀ i,Yng B g w i → Yng B g w' i:=fun i h=>⟨h.1,Nat.lt_of_lt_of_le h.2.1 hs,h.2.2⟩
structure OutI (B g:Nat) (w:World) (rows:List (List Int)):Prop where
 ex:∃ vs:List Value,vs.length = rows.length ∧ Holds w g 24 vs ∧ FP (Yng B g w) w (fun w=>∀ (i:Nat) (v:Value) (r:List Int),vs[i]? = some v → rows[i]? = some r → Ints w v r)
 base:B ≤ g
theorem OutI.lt {rows:List (List Int)} (h:OutI B g w rows):g < w.heap.size:=by
 obtain ⟨vs,_,h2,_⟩:=h.ex
 exact h2.lt
theorem OutI.next {rows:List (List Int)} (h:OutI B g w rows) (hb:Bw w w'):OutI B g w' rows:=by
 obtain ⟨vs,h1,h2,h3⟩:=h.ex
 exact ⟨⟨vs,h1,h2.next hb,(h3.next hb (fun i hi=>hi.2.1)).mono (Yng.mono hb.size)⟩,h.base⟩
theorem OutI.get {rows:List (List Int)} {i:Nat} {r:List Int} (h:OutI B g w rows) (hi:rows[i]? = some r):∃ ad c,w.cell? ⟨g,i,none⟩ = some (.slice ad r.length c) ∧ Ints w (.slice ad r.length c) r:=by
 obtain ⟨vs,h1,h2,h3⟩:=h.ex
 have hlt:i < vs.length:=by have:=(gS hi).1; omega
 have ev:vs[i]? = some vs[i]:=gE hlt
 have hI:=h3.here i _ r ev hi
 obtain ⟨ad,c,e⟩:=hI.isSlice
 exact ⟨ad,c,by rw [h2.cell i hlt,e],by rw [← e]; exact hI⟩
theorem OutI.set {rows:List (List Int)} {i m c:Nat} {ad:Option Addr} {r:List Int} {T':TypeId} (h:OutI B g w rows) (hi:i < rows.length) (hv:FP (Yng B g w) w (fun w=>Ints w (.slice ad m c) r))
  (k:∀ w1,w.grownBy w1 (some g) → OutI B g w1 (rows.set i r) → K undef w1):oM Tryz.prog (.store 24 (.tmp 0) (.tmp 1)) T' [.pointer (some ⟨g,i,none⟩),.slice ad m c] K w:=by
 obtain ⟨vs,h1,h2,h3⟩:=h.ex
 refine arr_set sz_intsR rfl rfl h2 (by omega) (fun w1 hg hh=>k w1 hg ⟨⟨vs.set i (.slice ad m c),by simpa using h1,hh,?_⟩,h.base⟩)
 have hoff:∀ j,Yng B g w j → j < w.heap.size ∧ some g ≠ some j:=fun j hj=>⟨hj.2.1,fun e=>hj.2.2 (Option.some.inj e).symm⟩
 refine (((h3.by hg hoff).both (hv.by hg hoff)).imp ?_).mono (Yng.mono hg.size)
 rintro w2 ⟨a,b⟩ j v r' hj hr'
 rw [List.getElem?_set] at hj hr'
 by_cases hij:i = j
 ·subst hij
  rw [if_pos rfl,if_pos (by omega)] at hj
  rw [if_pos rfl,if_pos hi] at hr'
  cases hj; cases hr'
  exact b
 ·rw [if_neg hij] at hj hr'
  exact a j v r' hj hr'
theorem OutI.fp {rows:List (List Int)} (h:OutI B g w rows) (hl:rows.length ≤ 9223372036854775807):FP (fun i=>B ≤ i ∧ i < w.heap.size) w (fun w=>ListsR w (.slice (some ⟨g,0,none⟩) rows.length rows.length) rows):=by
 obtain ⟨vs,h1,h2,h3⟩:=h.ex
 have hg:=h2.lt
 refine ((h3.mono (fun i hi=>⟨hi.1,hi.2.1⟩)).both (h2.fp.mono (fun i hi=>by subst hi; exact ⟨h.base,hg⟩))).imp ?_
 rintro w2 ⟨a,b⟩
 refine ⟨⟨_,_,rfl,.inr ⟨g,0,rfl,b.lt,fun i hi=>?_⟩⟩,hl⟩
 have hiv:i < vs.length:=by omega
 refine ⟨[vs[i]],rfl,fun j u hj=>?_,_,rfl,a i _ _ (gE hiv) (gE hi)⟩
 obtain ⟨h4,rfl⟩:=gS hj
 have hj0:j = 0:=by simpa using h4
 subst hj0
 have:=b.cell i hiv
 simpa using this
theorem own_fp {B':Nat} {v:Value} {l:List Int} (h:OwnI w B' v l) (hr:∀ x ∈ l,I64 x) (hl:l.length ≤ 9223372036854775807) (hB:B ≤ B') (hg:g < B'):FP (Yng B g w) w (fun w=>Ints w v l):=
 (h.ints hr hl).fp.mono (fun i hi=>by have:=(owns_own h (own_inB h hi.1)).2.1; exact ⟨by omega,hi.2,by omega⟩)
theorem make_lists {T:TypeId} {n:Nat} (hn:n ≤ 65536) (k:∀ g W,Bw w W → w.heap.size ≤ g → OutI w.heap.size g W (List.replicate n []) → K (.slice (some ⟨g,0,none⟩) n n) W):oM Tryz.prog (.makeSlice 30 (.tmp 0) (.tmp 1)) T [.int .i64 n,.int .i64 n] K w:=by
 obtain ⟨w',hr,ho,hg⟩:=run_makeSlice_full (P:=Tryz.prog) (w:=w) w.heap.size 30 24 ((Tryz.prog.info? 24).getD default) (.slice none 0 0) 1 (by kernel_rfl) (by kernel_rfl) (by kernel_rfl) (by kernel_rfl) .i64 .i64 n (by omega) (by
  have:((Tryz.prog.info? 24).getD default).bytes = 24:=by kernel_rfl
  rw [this]; omega) (by simp only [maxLen]; omega) (Nat.le_refl _)
 rw [oM_makeSlice,hr]
 have hb:Bw w w':=⟨hg.os,hg.tape,hg.output,hg.size,fun k hk=>hg.block k hk (by simp)⟩
 have hcells:(madeCells (Value.slice none 0 0).cells (n * 1)).toList = List.replicate n (.slice none 0 0):=by
  rw [Nat.mul_one]
  apply List.ext_getElem?
  intro i
  unfold madeCells
  simp [Value.cells,List.getElem?_replicate,Array.getElem?_ofFn]
  try (split <;> simp_all [Nat.mod_one])
 refine k _ _ hb (Nat.le_refl _) ?_
 rcases ho.2 with ⟨h1,h2⟩ | ⟨g,cap,cur,h1,hb2,hg2,hc,hm,hs,ht⟩
 ·cases h1
 ·cases h1
  rw [hcells,Nat.mul_one] at ht
  have e:cur.toList = List.replicate n (.slice none 0 0):=by
   rw [← ht,List.take_of_length_le (by simp; omega)]
  refine ⟨⟨List.replicate n (.slice none 0 0),by simp,?_,?_⟩,hb2⟩
  ·unfold Holds
   rw [hg2,← e]
  ·refine FP.pure (p:=∀ (i:Nat) (v:Value) (r:List Int),(List.replicate n (Value.slice none 0 0))[i]? = some v → (List.replicate n ([]:List Int))[i]? = some r → v = .slice none 0 0 ∧ r = []) ?_ |>.imp ?_
   ·intro i v r hv hr'
    rw [List.getElem?_replicate] at hv hr'
    by_cases hi:i < n
    ·rw [if_pos hi] at hv hr'
     exact ⟨(Option.some.inj hv).symm,(Option.some.inj hr').symm⟩
    ·rw [if_neg hi] at hv; cases hv
   ·intro w2 h i v r hv hr'
    obtain ⟨rfl,rfl⟩:=h i v r hv hr'
    exact Ints.nil _
structure OutQ (B b:Nat) (T:TypeId) (f:Value → Value → List Value) (w:World) (dl:List (List Int)) (al:List (List (List Int))):Prop where
 ex:∃ (dv av:Value) (D:Nat → Prop),Holds w b T (f dv av) ∧ ListG B D w dv dl ∧ NumG B D w av al ∧ Off D w dv ∧ Off D w av ∧ apart dv av ∧ (∀ j,D j → B ≤ j)
 lt:b < B
section
variable {b:Nat} {T:TypeId} {f:Value → Value → List Value} {dl:List (List Int)} {al:List (List (List Int))}
theorem OutQ.fr {S:Nat → Prop} (h:OutQ B b T f w dl al) (hf:Fr S w w') (hS:∀ j,S j → j < B ∧ j ≠ b):OutQ B b T f w' dl al:=by
 obtain ⟨dv,av,D,h1,h2,h3,h4,h5,h6,h7⟩:=h.ex
 refine ⟨⟨dv,av,D,?_,h2.keep hf (fun i hi=>⟨(h4 i hi).1,fun e=>by have:=(hS i e).1; have:=h7 i hi; omega⟩) (fun i hi e=>by have:=(hS i e).1; have:=(h2.own hi).2; omega),
  h3.keep hf (fun i hi=>⟨(h4 i hi).1,fun e=>by have:=(hS i e).1; have:=h7 i hi; omega⟩) (fun i hi e=>by have:=(hS i e).1; have:=(h3.own hi).2; omega),h4.next hf.size,h5.next hf.size,h6,h7⟩,h.lt⟩
 unfold Holds
 rw [hf.block b h1.lt (fun e=>(hS b e).2 rfl)]
 exact h1
theorem OutQ.next (h:OutQ B b T f w dl al) (hb:Bw w w'):OutQ B b T f w' dl al:=h.fr (S:=fun _=>False) (Fr.of_below' hb) (fun _ h=>h.elim)
theorem OutQ.start (hlt:b < B) (h:Holds w b T (f (.slice none 0 0) (.slice none 0 0))):OutQ B b T f w [] []:=
 ⟨⟨_,_,fun _=>False,h,.nil,.nil,fun i h=>h.elim,fun i h=>h.elim,(fun i h=>by cases h),fun i h=>h.elim⟩,hlt⟩
end
theorem _root_.Go.Sh.Holds.fr {S:Nat → Prop} {T:TypeId} {vs:List Value} (h:Holds w g T vs) (hf:Fr S w w') (hn:¬ S g):Holds w' g T vs:=(hf.block g h.lt hn).trans h
theorem _root_.Go.Sh.Holds.mine {T:TypeId} {vs:List Value} (h:Holds w g T vs) (hl:vs.length = n):Mine w g n:=⟨_,_,h,by simpa using hl⟩
theorem own_holds {T:TypeId} {vs:List Value} (h:Holds W g T vs) (hf:Fr (OwnS B W) W W'):Holds W' g T vs:=h.fr hf (own_not h rfl)
end
end Go.Proofs
namespace Go.Proofs
open Go Go.Sh Go.RowKit FdSpec TkSpec CodeSpec PrSpec FdPoly
section
variable {K:VK} {w w' w0 W W':World} {L:List (Addr × Value)} {g n B:Nat} {row:Option Nat}
theorem un_prf:Tryz.prog.underlying 34 = some ((Tryz.prog.underlying 34).getD default):=by kernel_rfl
theorem un_nse:Tryz.prog.underlying 32 = some ((Tryz.prog.underlying 32).getD default):=by kernel_rfl
theorem ret_prf {a b:Value} (hh:Holds W g 34 [a,b]) (k:K (.agg #[a,b]) W):∃ r,(do loadVar 34 (← asAddr (ptr g 0)):Sem Value).run Tryz.prog W = .ok r W ∧ K r W:=
 arr_ret hh un_prf (by kernel_rfl) (by kernel_rfl) k
theorem ld_prf {a b:Value} {T T0:TypeId} (hh:Holds W g T0 [a,b]) (k:K (.agg #[a,b]) W):oM Tryz.prog (.load 34 (.tmp 0)) T [ptr g 0] K W:=
 arr_load hh un_prf (by kernel_rfl) (by kernel_rfl) k
theorem ld_nse {a b:Value} {T T0:TypeId} (hh:Holds W g T0 [a,b]) (k:K (.agg #[a,b]) W):oM Tryz.prog (.load 32 (.tmp 0)) T [ptr g 0] K W:=
 arr_load hh un_nse (by kernel_rfl) (by kernel_rfl) k
theorem al_eno (w:World):(Instr.alloc 39 true (.tuple #[])).run Tryz.prog w = .ok (.pointer (some ⟨w.heap.size,0,none⟩)) (w.alloc (.cells [.int .i64 0].toArray 39)):=by kernel_rfl
theorem sz_eno (w:World):(sizeOf 39).run Tryz.prog w = .ok 1 w:=by kernel_rfl
theorem eno_one (e:Int):∀ u ∈ ([.int .i64 e]:List Value),u.oneCell' = true:=by
 intro u hu
 simp only [List.mem_cons,List.not_mem_nil,or_false] at hu
 rcases hu with rfl; rfl
theorem ret_eno {e:Int} (hh:Holds W g 39 [.int .i64 e]) (k:K (.int .i64 e) W):∃ r,(do loadVar 39 (← asAddr (ptr g 0)):Sem Value).run Tryz.prog W = .ok r W ∧ K r W:=by
 refine ⟨.int .i64 e,?_,k⟩
 have hc:=hh.cell 0 (by simp)
 show (Instr.loadAt 39 (ptr g 0)).run Tryz.prog W = _
 simp [go_sem,hc]
structure Res2 (W:World) (r1 r2:Nat) (a b:Value) (e:Int):Prop where
 p:Holds W r1 34 [a,b]
 e:Holds W r2 39 [.int .i64 e]
 ne:r1 ≠ r2
theorem Res2.next {r1 r2:Nat} {a b:Value} {e:Int} (h:Res2 W r1 r2 a b e) (hb:Bw W W'):Res2 W' r1 r2 a b e:=⟨h.p.next hb,h.e.next hb,h.ne⟩
theorem Res2.own {r1 r2:Nat} {a b:Value} {e:Int} (h:Res2 W r1 r2 a b e) (hf:Fr (OwnS B W) W W'):Res2 W' r1 r2 a b e:=⟨own_holds h.p hf,own_holds h.e hf,h.ne⟩
theorem Res2.ret {r1 r2:Nat} {a b:Value} {e:Int} (h:Res2 W r1 r2 a b e) (k:K (.tuple #[.agg #[a,b],.int .i64 e]) W) :
  ∃ r,(do loadVar 34 (← asAddr (ptr r1 0)):Sem Value).run Tryz.prog W = .ok r W ∧ ∃ r',(do loadVar 39 (← asAddr (ptr r2 0)):Sem Value).run Tryz.prog W = .ok r' W ∧ K (.tuple #[r,r']) W:=
 ret_prf (K:=fun r W=>∃ r',(do loadVar 39 (← asAddr (ptr r2 0)):Sem Value).run Tryz.prog W = .ok r' W ∧ K (.tuple #[r,r']) W) h.p (ret_eno (K:=fun r' W=>K (.tuple #[.agg #[a,b],r']) W) h.e k)
theorem Res2.set {r1 r2:Nat} {a b:Value} {ad ad2:Option Addr} {n c n2 c2:Nat} {e e':Int} {T T':TypeId} {Q:WK} (h:Res2 W r1 r2 a b e)
  (k:∀ W',Fr (fun j=>j = r1 ∨ j = r2) W W' → Res2 W' r1 r2 (.slice ad n c) (.slice ad2 n2 c2) e' → Q W') :
  oM Tryz.prog (.store 34 (.tmp 0) (.tmp 1)) T [ptr r1 0,.agg #[.slice ad n c,.slice ad2 n2 c2]] (fun _ w=>oM Tryz.prog (.store 39 (.tmp 0) (.tmp 1)) T' [ptr r2 0,.int .i64 e'] (fun _ w=>Q w) w) W:=by
 refine arr_store sz_prf (xs:=prfC (.slice ad n c) (.slice ad2 n2 c2)) rfl rfl (prf_one ad ad2 n c n2 c2) h.p rfl (fun W1 hg1 hh1=>?_)
 refine arr_store sz_eno (xs:=[.int .i64 e']) rfl rfl (eno_one e') (h.e.other hg1 (fun e=>h.ne e.symm)) rfl (fun W2 hg2 hh2=>?_)
 exact k W2 (((Fr.of_by hg1).mono (fun i _ e=>.inl e)).trans (Fr.of_by hg2) (fun i e=>.inl (.inr e))) ⟨hh1.other hg2 h.ne,hh2,h.ne⟩
theorem Res2.fr {r1 r2:Nat} {a b:Value} {e:Int} {S:Nat → Prop} (h:Res2 W r1 r2 a b e) (hf:Fr S W W') (h1:¬ S r1) (h2:¬ S r2):Res2 W' r1 r2 a b e:=⟨h.p.fr hf h1,h.e.fr hf h2,h.ne⟩
end
end Go.Proofs
namespace Go.Proofs
open Go Go.Sh Go.RowKit FdSpec TkSpec CodeSpec PrSpec FdPoly
section
variable {K:VK} {w w' w0 W W' We:World} {L:List (Addr × Value)} {g n B b i:Nat} {row:Option Nat}
theorem OutQ.duo {T:TypeId} {f:Value → Value → List Value} {dl:List (List Int)} {al:List (List (List Int))} {x:List Int} {y:List (List Int)} {xad yad:Option Addr} {nx cx ny cy:Nat} (hQ:OutQ B b T f We dl al) (hb:Bw We W) (hB:B ≤ We.heap.size)
  (hx:FP (fun j=>We.heap.size ≤ j ∧ j < W.heap.size) W (fun w=>Ints w (.slice xad nx cx) x)) (hy:FP (fun j=>We.heap.size ≤ j ∧ j < W.heap.size) W (fun w=>ListsR w (.slice yad ny cy) y)) (hdl:dl.length < 1099511627776) (hal:al.length < 1099511627776) :
  ∃ (dad aad:Option Addr) (dc ac:Nat) (D:Nat → Prop),Holds W b T (f (.slice dad dl.length dc) (.slice aad al.length ac)) ∧ DuoI B D W (.slice dad dl.length dc) (.slice aad al.length ac) (.slice xad nx cx) (.slice yad ny cy) dl al x y ∧
   (∀ j,D j → B ≤ j) ∧ (∀ j,(Value.slice dad dl.length dc).ownBlock = some j → B ≤ j) ∧ (∀ j,(Value.slice aad al.length ac).ownBlock = some j → B ≤ j):=by
 obtain ⟨dv,av,D,h1,h2,h3,h4,h5,h6,h7⟩:=hQ.ex
 obtain ⟨dad,dc,rfl⟩:=h2.isSlice
 obtain ⟨aad,ac,rfl⟩:=h3.isSlice
 have hs:=hb.size
 refine ⟨dad,aad,dc,ac,fun j=>D j ∨ (We.heap.size ≤ j ∧ j < W.heap.size),h1.next hb,⟨(h2.next hb (fun i hi=>(h4 i hi).1)).mono (fun i hi=>.inl hi),(h3.next hb (fun i hi=>(h4 i hi).1)).mono (fun i hi=>.inl hi),?_,?_,h6,Nat.le_trans hB hs,hx.mono (fun i hi=>.inr hi),hy.mono (fun i hi=>.inr hi),hdl,hal⟩,?_,fun j hj=>(h2.own hj).2,fun j hj=>(h3.own hj).2⟩
 ·rintro j (hj | hj)
  ·exact ⟨Nat.lt_of_lt_of_le (h4 j hj).1 hs,(h4 j hj).2⟩
  ·exact ⟨hj.2,fun e=>by have:=(h2.own e).1; omega⟩
 ·rintro j (hj | hj)
  ·exact ⟨Nat.lt_of_lt_of_le (h5 j hj).1 hs,(h5 j hj).2⟩
  ·exact ⟨hj.2,fun e=>by have:=(h3.own e).1; omega⟩
 ·rintro j (hj | hj)
  ·exact h7 j hj
  ·omega
theorem prove_tail {J:List Value → World → Prop} {m:List Value → World → Nat} {wl:World} {l100:List Value} {u0 u1 u2 u3 u4:Value} {dl:List (List Int)} {al:List (List (List Int))} {x:List Int} {y:List (List Int)} {xad yad:Option Addr} {nx cx ny cy:Nat}
  (hQ:OutQ B b 34 prfC We dl al) (hb:Bw We W) (hB:B ≤ We.heap.size) (hi:i < 100000)
  (hx:FP (fun j=>We.heap.size ≤ j ∧ j < W.heap.size) W (fun w=>Ints w (.slice xad nx cx) x)) (hy:FP (fun j=>We.heap.size ≤ j ∧ j < W.heap.size) W (fun w=>ListsR w (.slice yad ny cy) y)) (hdl:dl.length < 1099511627776) (hal:al.length < 1099511627776)
  (k:∀ W' vs,Fr (fun j=>j = b ∨ B ≤ j) W W' → W.heap.size ≤ W'.heap.size → OutQ B b 34 prfC W' (dl ++ [x]) (al ++ [y]) → (∃ a0 a1 a2 a3 a4,vs = [a0,a1,a2,a3,a4,.int .i64 ((i + 1:Nat):Int)]) → J vs W' ∧ m vs W' < m [u0,u1,u2,u3,u4,.int .i64 (i:Int)] wl) :
  held_18_143 J l100 [u0,u1,u2,u3,u4,.int .i64 (i:Int)] m (.slice xad nx cx) (.slice yad ny cy) (ptr b 0) wl W:=by
 unfold held_18_143
 have hbl:=hQ.lt
 have hwi:IntKind.i64.wrap ((i:Int) + 1) = ((i + 1:Nat):Int):=by rw [wrapI64 _ (by omega) (by omega)]; rfl
 have hodr:Below W.heap.size W { W with drawn:=W.drawn + 1 }:=.drawn
 have hfd:Fr (fun j=>j = b ∨ B ≤ j) W { W with drawn:=W.drawn + 1 }:=Fr.of_below' hodr
 have hsz:W.heap.size = ({ W with drawn:=W.drawn + 1 }:World).heap.size:=rfl
 obtain ⟨dad,aad,dc,ac,D,hH,hduo,hDB,hdB,haB⟩:=hQ.duo (hb.on hodr) hB ((hx.next hodr (fun i hi=>hi.2))) ((hy.next hodr (fun i hi=>hi.2))) hdl hal
 generalize hW9:({ W with drawn:=W.drawn + 1 }:World) = W9 at *
 have hcell:∀ w',Fr (fun i=>(Value.slice dad dl.length dc).ownBlock = some i ∨ (Value.slice aad al.length ac).ownBlock = some i) W9 w' → Holds w' b 34 [.slice dad dl.length dc,.slice aad al.length ac]:=fun w' h=>hH.fr h (fun e=>by
  rcases e with e | e
  ·have:=hdB _ e; omega
  ·have:=haB _ e; omega)
 have hcellC:∀ w',DuoC B D W9 (.slice dad dl.length dc) (.slice aad al.length ac) dl al w' → Holds w' b 34 [.slice dad dl.length dc,.slice aad al.length ac]:=fun w' h=>hcell w' h.1
 refine ⟨DuoC B D W9 (.slice dad dl.length dc) (.slice aad al.length ac) dl al,by rw [hW9]; exact ⟨Fr.refl _ _,hduo.a,hduo.b⟩,rfl,?_⟩
 repeat (any_goals (first
 | (with_reducible refine pX ?_)
 | ((with_reducible refine idOH ?_); (with_reducible refine oH_of ⟨_,rfl⟩ (fun W0 hW0=>by (refine oG (fun V Z=>?_)); simp [go_sem,(hcellC _ hW0).are]; (first | exact Z _ _ ⟨rfl,rfl⟩ | exact ⟨by omega,Z _ _ ⟨rfl,rfl⟩⟩)) ?_))))
 refine duo_free hduo (i1:=0) (fun K' w h=>?_) (fun w v u hfr hA hB' hap'=>?_)
 ·repeat (any_goals ((with_reducible refine oG fun V Z=>?_); simp [go_sem]; apply Z; clear Z V))
  exact h
 have hh10:=hcell w hfr
 obtain ⟨vad',vc',rfl⟩:=hA.1.isSlice
 obtain ⟨uad',uc',rfl⟩:=hB'.1.isSlice
 refine arr_set (i:=0) sz_intsR rfl rfl hh10 (by simp) (fun w11 hg11 hh11=>?_)
 iterate 1 (any_goals ((with_reducible refine oG fun V Z=>?_); simp [go_sem]; apply Z; clear Z V))
 refine arr_set (i:=1) sz_intsR rfl rfl hh11 (by simp) (fun w12 hg12 hh12=>?_)
 repeat (any_goals ((with_reducible refine oG fun V Z=>?_); simp [go_sem]; (try simp (disch:=omega) only [wrapI64,wrapU8,wrapU32,wrapU64]); apply Z; clear Z V))
 have hg13:=grown_two hg11 hg12
 have hDb:∀ i,D i → i < w.heap.size ∧ ¬ i = b:=fun i hi=>⟨(hA.2.1 i hi).1,fun e=>by have:=hDB i hi; omega⟩
 refine k w12 _ ((hfd.trans hfr (fun i e=>.inl (.inr (e.elim (hdB i) (haB i))))).by hg13 (fun i e=>.inl (.inl (Option.some.inj e).symm))) (by have:=hfr.size; have:=hg13.size; omega) ⟨⟨_,_,D,hh12,hA.1.keep (Fr.of_by hg13) hDb (fun i hi e=>by have:=(hA.1.own hi).2; omega),hB'.1.keep (Fr.of_by hg13) hDb (fun i hi e=>by have:=(hB'.1.own hi).2; omega),hA.2.1.next hg13.size,hB'.2.1.next hg13.size,hap',hDB⟩,hbl⟩ ⟨_,_,_,_,_,rfl⟩
end
end Go.Proofs
namespace Go.Proofs
open Go Go.Sh Go.RowKit FdSpec TkSpec CodeSpec PrSpec FdPoly
section
variable {K:VK} {w w' w0 W W' We W2:World} {L:List (Addr × Value)} {g n B b i:Nat} {row:Option Nat}
theorem shift_I64 (q f:Int) (a b:List Int):∀ x ∈ shiftM q a f b,I64 x:=by
 intro x hx
 unfold shiftM at hx
 obtain ⟨p,_,rfl⟩:=List.mem_map.1 hx
 exact addM_I64 _ _ _
theorem shift_len (q f:Int) (a b:List Int):(shiftM q a f b).length ≤ a.length:=by
 unfold shiftM; rw [List.length_map,List.length_zip]; omega
def AnsI (ans:List (List Int)) (n k:Nat):List (List Int):=ans.take k ++ List.replicate (n - k) []
theorem ansI_len {ans:List (List Int)} {k:Nat} (h:ans.length = n) (hk:k ≤ n):(AnsI ans n k).length = n:=by
 unfold AnsI; rw [List.length_append,List.length_take,List.length_replicate]; omega
theorem ansI_set {ans:List (List Int)} {k:Nat} {x:List Int} (h:ans.length = n) (hx:ans[k]? = some x):(AnsI ans n k).set k x = AnsI ans n (k + 1):=by
 have hk:=(gS hx).1
 unfold AnsI
 rw [List.set_append,if_neg (by rw [List.length_take]; omega),List.length_take,Nat.min_eq_left (by omega),Nat.sub_self,show n - k = n - (k + 1) + 1 by omega,List.replicate_succ,List.set_cons_zero,List.take_add_one,hx,List.append_assoc]
 rfl
theorem ansI_full {ans:List (List Int)} (h:ans.length = n):AnsI ans n n = ans:=by
 unfold AnsI; rw [List.take_of_length_le (by omega),Nat.sub_self]; simp
def PiJ (ans:List (List Int)) (n g:Nat) (W2:World) (vs:List Value) (W:World):Prop:=Bw W2 W ∧ ∃ (u0 u1:Value) (k:Nat),vs = [u0,u1,.int .i64 (k:Int)] ∧ k ≤ n ∧ OutI W2.heap.size g W (AnsI ans n k)
def piMu (n:Nat) (vs:List Value) (_:World):Nat:=match vs with | [_,_,.int _ k]=>n - k.toNat | _=>0
structure AnsC (q:Int) (ans:List (List Int)) (n:Nat) (Bs:List Bool) (D:List Int) (N:List (List Int)) (Ks:List Knw):Prop where
 eq:ans = answersC q Bs D N Ks
 lb:Bs.length = n
 ld:D.length = n
 ln:N.length = n
 lk:Ks.length = n
 max:n ≤ 16
 fit:∀ (k:Nat) (u:Knw) (z:List Int),Bs[k]? = some true → Ks[k]? = some u → N[k]? = some z → u.values.length = z.length
 len:∀ (k:Nat) (z:List Int),N[k]? = some z → z.length < 1000
theorem prove_step (s:Stp) {J:List Value → World → Prop} {m:List Value → World → Nat} {wl:World} {l100:List Value} {u0 u1 u2 u3 u4:Value} {ad nad kad xad:Option Addr} {c nc kc xc b1 b2 b12 gb mb:Nat} {dv:Value} {ns:List (List (List Int))} {know:List (List Knw)} {rows:List (List Bool)}
  {ans N:List (List Int)} {D:List Int} {Bs:List Bool} {Ks:List Knw}
  (hk:Kn w (cellsOf (cellsOf (cellsOf [] b1 0 (stpC s (.slice ad s.bases.length c))) b2 0 (prfC (.slice nad ns.length nc) dv)) b12 0 [.slice (some ⟨gb,0,none⟩) mb mb]) W2)
  (hn:NumsR w (.slice nad ns.length nc) ns) (hkn:KnowR w (.slice kad know.length kc) know) (hbr:BoolRows W2 (.slice (some ⟨gb,0,none⟩) mb mb) rows) (hmb:rows.length = mb)
  (hx:Ints W2 (.slice xad n xc) D) (hA:AnsC s.g.Q ans n Bs D N Ks) (en:ns[i]? = some N) (ek:know[i]? = some Ks) (eb:rows[i]? = some Bs) (hg:W2.heap.size ≤ g) (hJ:PiJ ans n g W2 l100 W)
  (hend:∀ l W,Bw W2 W → OutI W2.heap.size g W ans → held_18_143 J l [u0,u1,u2,u3,u4,.int .i64 (i:Int)] m (.slice xad n xc) (.slice (some ⟨g,0,none⟩) n n) (ptr b 0) wl W) :
  loop_18_98 J (PiJ ans n g W2) (.slice kad know.length kc) l100 [u0,u1,u2,u3,u4,.int .i64 (i:Int)] m (piMu n) (.slice xad n xc) (.slice (some ⟨g,0,none⟩) n n) (.int .i64 n) (ptr b12 0) (ptr b 0) (ptr b1 0) (ptr b2 0) wl W:=by
 obtain ⟨hb2,v0,v1,k,rfl,hkn',hO⟩:=hJ
 have hmax:=hA.max
 have hal:ans.length = n:=by rw [hA.eq]; rw [answersC_len (by rw [hA.ld,hA.lb]) (by rw [hA.ln,hA.lb]) (by rw [hA.lk,hA.lb]),hA.lb]
 unfold loop_18_98
 by_cases hkn2:k = n
 ·subst hkn2
  repeat (any_goals (first
  | (with_reducible refine yM ?_)
  | ((with_reducible refine oG fun V Z=>?_); simp [go_sem]; apply Z; clear Z V)))
  rw [ansI_full hal] at hO
  exact hend _ _ hb2 hO
 have hkl:k < n:=by omega
 have hki:(k:Int) < n:=by omega
 have hkB0:k < Bs.length:=by have:=hA.lb; omega
 have hkD0:k < D.length:=by have:=hA.ld; omega
 have hkN0:k < N.length:=by have:=hA.ln; omega
 have hkK0:k < Ks.length:=by have:=hA.lk; omega
 have ebk:Bs[k]? = some Bs[k]:=gE hkB0
 have edk:D[k]? = some D[k]:=gE hkD0
 have enk:N[k]? = some N[k]:=gE hkN0
 have ekk:Ks[k]? = some Ks[k]:=gE hkK0
 have hans:=answersC_at (q:=s.g.Q) ebk edk enk ekk
 rw [← hA.eq] at hans
 have hin:=(gS en).1
 have hik:=(gS ek).1
 have hib:=(gS eb).1
 have hiN:(i:Int) < ns.length:=by omega
 have hiK:(i:Int) < know.length:=by omega
 have hiB:(i:Int) < mb:=by omega
 have e1:ns[i] = N:=(gS en).2
 have e2:know[i] = Ks:=(gS ek).2
 have e3:rows[i] = Bs:=(gS eb).2
 obtain ⟨bx,ox,rfl,hltx,cellx,_,_⟩:=hx.at (i:=k) (by have:=hA.ld; omega)
 obtain ⟨bn,on,rfl,hltn,csn,_,hcelln,vn,rfl,hrown⟩:=hn.at (i:=i) hin
 obtain ⟨bk,ok,rfl,hltk,csk,_,hcellk,vk,rfl,hrowk⟩:=hkn.at (i:=i) hik
 obtain ⟨bb,ob,ebb,hltb,csb,_,hcellb,vb,rfl,hrowb⟩:=hbr.at (i:=i) hib
 cases ebb
 rw [e1] at hrown
 rw [e2] at hrowk
 rw [e3] at hrowb
 obtain ⟨nad2,nc2,rfl⟩:=hrown.isSlice
 obtain ⟨kad2,kc2,rfl⟩:=hrowk.isSlice
 obtain ⟨bad2,bc2,rfl⟩:=hrowb.isSlice
 have cn:=hcelln 0 _ rfl
 have ck:=hcellk 0 _ rfl
 have cb:=hcellb 0 _ rfl
 have hNl:=hA.ln
 have hKl:=hA.lk
 have hBl:=hA.lb
 obtain ⟨bl,ol,rfl,hltl,csl,_,hcelll,vl,rfl,hrowl⟩:=hrown.at (i:=k) (by omega)
 obtain ⟨bu,ou,rfl,hltu,csu,_,hcellu,vu,rfl,hvu⟩:=hrowk.at (i:=k) (by omega)
 obtain ⟨bt,ot,rfl,hltt,cst,_,hcellt,vt,rfl,hvt⟩:=hrowb.at (i:=k) (by omega)
 have cl:=hcelll 0 _ rfl
 have cu:=hcellu 1 _ rfl
 have ct:=hcellt 0 _ rfl
 simp only [Nat.add_zero,Nat.mul_one,Nat.zero_add] at cn ck cb cl cu ct
 unfold BoolR at hvt
 subst hvt
 have hfit:Bs[k] = true → (Ks[k]).values.length = (N[k]).length:=fun e=>hA.fit k _ _ (by rw [ebk,e]) ekk enk
 have hzl:=hA.len k _ enk
 have hzr:=hrowl.rng
 have hkB:(k:Int) < Bs.length:=by omega
 have hkN:(k:Int) < N.length:=by omega
 have hkK:(k:Int) < Ks.length:=by omega
 generalize Bs[k] = bv at *
 generalize D[k] = d at *
 generalize N[k] = z at *
 generalize Ks[k] = u at *
 have hkW:=hk.next hb2
 have hal2:(AnsI ans n k).length = n:=ansI_len hal hkn'
 repeat (any_goals (first
 | (with_reducible refine yN ?_)
 | ((with_reducible refine oG fun V Z=>?_); simp [go_sem]; apply Z; clear Z V)))
 refine ⟨fun l W=>l = [.int .i64 (k:Int),.int .i64 d] ∧ Bw W2 W ∧ OutI W2.heap.size g W (AnsI ans n (k + 1)),?_,?_⟩
 ·unfold pre_18_102
  obtain ⟨lad,lc,hlv⟩:=hrowl.isSlice
  repeat (any_goals ((with_reducible refine oG fun V Z=>?_); simp [go_sem,cellx _ hb2,hkW.cells,(hkW.below.cell hltn).trans cn,(hkW.below.cell hltl).trans cl,hiN,hkN,hki]; apply Z; clear Z V))
  refine Clone_ok (hrowl.next hkW.below) (by omega) (fun v3 w3 ho3 h3 hb3=>?_)
  have ho:OwnI w3 W.heap.size v3 z:=owns_up ho3 hb3
  obtain ⟨zad,zc,rfl⟩:=owns_len ho
  have hO3:=hO.next h3
  have hb3':=hb2.on h3
  have hk3:=hkW.next h3
  repeat (any_goals ((with_reducible refine oG fun V Z=>?_); simp [go_sem,hki]; apply Z; clear Z V))
  refine hO3.set (i:=k) (by omega) (own_fp ho hzr (by omega) hb2.size hO.lt) (fun w4 hg4 hO4=>?_)
  have hb4:Bw W2 w4:=hb3'.grown hg4 hb3'.size (fun j hj=>by cases hj; exact hg)
  have hk4:=hk.next hb4
  cases bv with
  | false=>
   repeat (any_goals (first
   | (with_reducible refine yM ?_)
   | ((with_reducible refine oG fun V Z=>?_); simp [go_sem,hk4.cells,(hb4.cell hltb).trans cb,(hb4.cell hltt).trans ct,hiB,hkB]; apply Z; clear Z V)))
   have hans:ans[k]? = some z:=hans
   rw [ansI_set hal hans] at hO4
   exact ⟨rfl,hb4,hO4⟩
  | true=>
   repeat (any_goals (first
   | (with_reducible refine yL ?_)
   | ((with_reducible refine oG fun V Z=>?_); simp [go_sem,hk4.cells,(hb4.cell hltb).trans cb,(hb4.cell hltt).trans ct,hiB,hkB]; apply Z; clear Z V)))
   have hfit:=hfit rfl
   unfold held_18_119
   have hrow4:((AnsI ans n k).set k z)[k]? = some z:=by rw [List.getElem?_set_self (by omega)]
   have hb9:Below w4.heap.size w4 { w4 with drawn:=w4.drawn + 1 }:=.drawn
   have hk9:=hk4.next hb9
   have hO9:=hO4.next hb9
   have hbb9:=hb4.on hb9
   refine ⟨Nx { w4 with drawn:=w4.drawn + 1 },Below.refl _ _,rfl,?_⟩
   generalize ({ w4 with drawn:=w4.drawn + 1 }:World) = W9 at hk9 hO9 hbb9 ⊢
   obtain ⟨rad,rc,hrc,hri⟩:=hO9.get hrow4
   obtain ⟨uad,uc,rfl⟩:=hvu.isSlice
   repeat (any_goals (first
   | (with_reducible refine pX ?_)
   | ((with_reducible refine idOH ?_); (with_reducible refine oH_of ⟨_,rfl⟩ (fun W0 hW0=>by (refine oG (fun V Z=>?_)); simp [go_sem,(hk9.next hW0).cells,(hW0.cell hO9.lt).trans hrc,((hk9.next hW0).below.cell hltk).trans ck,((hk9.next hW0).below.cell hltu).trans cu,hiK,hkK,hki]; (first | exact Z _ _ ⟨rfl,rfl⟩ | exact ⟨by omega,Z _ _ ⟨rfl,rfl⟩⟩)) ?_))))
   refine ⟨Nx,?_⟩
   refine monoR (fun v w'=>OwnI w' W9.heap.size v (shiftM s.g.Q z d u.values)) (fun v w w1 hS h=>h.keep hS) ?_ ?_
   ·intro w1 h1
    exact shift_ok s.g.Q d z u.values (hri.next h1) (hvu.next (hk9.next h1).below) hfit (by omega) (fun v w2 h2 ho=>⟨h1.on h2,h2,owns_up ho (fun j hj=>by have:=(owns_own ho hj).2.1; have:=h1.size; omega)⟩)
   rintro w10 h10 v10 ho10
   obtain ⟨sad,sc,rfl⟩:=owns_len ho10
   repeat (any_goals ((with_reducible refine oG fun V Z=>?_); simp [go_sem,hki]; apply Z; clear Z V))
   refine (hO9.next h10).set (i:=k) (by rw [List.length_set]; omega) (own_fp ho10 (shift_I64 _ _ _ _) (by have:=shift_len s.g.Q d z u.values; omega) hbb9.size hO9.lt) (fun w11 hg11 hO11=>?_)
   skip
   have hans:ans[k]? = some (shiftM s.g.Q z d u.values):=hans
   rw [List.set_set,ansI_set hal hans] at hO11
   exact ⟨rfl,(hbb9.on h10).grown hg11 (hbb9.on h10).size (fun j hj=>by cases hj; exact hg),hO11⟩
 ·rintro _ _ W5 ⟨rfl,hb5,hO5⟩
  repeat (any_goals ((with_reducible refine oG fun V Z=>?_); simp [go_sem]; (try simp (disch:=omega) only [wrapI64,wrapU8,wrapU32,wrapU64]); apply Z; clear Z V))
  exact ⟨⟨hb5,_,_,k + 1,rfl,by omega,hO5⟩,by show n - (((k + 1:Nat):Int)).toNat < n - ((k:Nat):Int).toNat; omega⟩
end
end Go.Proofs
namespace Go.Proofs
open Go Go.Sh Go.RowKit FdSpec TkSpec CodeSpec PrSpec FdPoly
section
variable {K:VK} {w w' w0 W W' We W1 W2:World} {L:List (Addr × Value)} {g n B b i:Nat} {row:Option Nat}
theorem chosen_has {s:Stp}:∀ {cs:List Clm} {ks:List Knw} {need:Int} {k:Nat} {u:Knw},(chosenC s need cs ks).1[k]? = some true → ks[k]? = some u → u.has = true
 | [],_,_,_,_,h,_=>by simp [chosenC] at h
 | c :: cs,[],_,_,_,h,_=>by simp [chosenC] at h
 | c :: cs,x :: ks,need,0,u,h,hu=>by
  simp at hu
  subst hu
  unfold chosenC at h
  split at h
  ·rename_i h1
   simp only [Bool.and_eq_true] at h1
   exact h1.1.2
  ·simp at h
 | c :: cs,x :: ks,need,k + 1,u,h,hu=>by
  unfold chosenC at h
  have hu:ks[k]? = some u:=by simpa using hu
  split at h
  ·exact chosen_has (cs:=cs) (by simpa using h) hu
  ·exact chosen_has (cs:=cs) (by simpa using h) hu
theorem ansC_of {s:Stp} {goal:List Cls} {know:List (List Knw)} {ds:List (List Int)} {ns:List (List (List Int))} (hgm:goalM s goal = true) (hft:fitsM s goal know = true) (hsm:shapedM s goal ds ns = true) {c:Cls} {Ks:List Knw} {d:List Int} {N:List (List Int)}
  (eg:goal[i]? = some c) (ek:know[i]? = some Ks) (ed:ds[i]? = some d) (en:ns[i]? = some N) (D:List Int) (hD:D.length = c.claims.length) :
  AnsC s.g.Q (answersC s.g.Q (chosenC s c.need c.claims Ks).1 D N Ks) c.claims.length (chosenC s c.need c.claims Ks).1 D N Ks ∧ d.length = c.claims.length:=by
 have hgc:clsFine s c = true ∧ c.claims.all (claimM s) = true:=by
  unfold goalM at hgm
  simp only [Bool.and_eq_true] at hgm
  have hm:=List.mem_of_getElem? eg
  exact ⟨List.all_eq_true.1 hgm.1.2 _ hm,List.all_eq_true.1 hgm.2 _ hm⟩
 unfold fitsM at hft
 simp only [Bool.and_eq_true,decide_eq_true_eq] at hft
 unfold shapedM at hsm
 simp only [Bool.and_eq_true,decide_eq_true_eq] at hsm
 have hf:=fitsL_at hft.2 eg ek
 have hs:=shapedL_at hsm.2 eg ed en
 have hs1:=hs.1
 simp only [shapeOf,exponentsM,Bool.and_eq_true,decide_eq_true_eq] at hs1
 have h16:=hgc.1
 simp only [clsFine,Bool.and_eq_true,decide_eq_true_eq] at h16
 have hvars:∀ (k:Nat) (z:List Int) (x:Clm),N[k]? = some z → c.claims[k]? = some x → (z.length:Int) = x.vars ∧ x.vars ≤ 120:=fun k z x h1 h2=>by
  have h3:=shapedC_at hs.2 h2 h1
  simp only [exponentsM,Bool.and_eq_true,decide_eq_true_eq] at h3
  have h4:=List.all_eq_true.1 hgc.2 x (List.mem_of_getElem? h2)
  simp only [claimM,Bool.and_eq_true,decide_eq_true_eq] at h4
  exact ⟨h3.1,h4.1.1.1.2⟩
 refine ⟨⟨rfl,chosen_len s c.claims Ks c.need hf.1,hD,hs1.2,hf.1,by omega,fun k u z h1 h2 h3=>?_,fun k z h=>?_⟩,by omega⟩
 ·have hlt:=(gS h3).1
  have ex:c.claims[k]? = some c.claims[k]:=gE (by omega)
  have h4:=fitsC_at hf.2 ex h2
  have h5:=chosen_has h1 h2
  simp only [fitK,h5,Bool.not_true,Bool.false_or,exponentsM,Bool.and_eq_true,decide_eq_true_eq] at h4
  have h6:=(hvars k z _ h3 ex).1
  omega
 ·have hlt:=(gS h).1
  have ex:c.claims[k]? = some c.claims[k]:=gE (by omega)
  have h6:=hvars k z _ h ex
  omega
def PoJ (P:List (List Int) × List (List (List Int))) (B b:Nat) (W1:World) (n:Nat) (vs:List Value) (W:World):Prop:=Bw W1 W ∧ B ≤ W.heap.size ∧ ∃ (u0 u1 u2 u3 u4:Value) (i:Nat),vs = [u0,u1,u2,u3,u4,.int .i64 (i:Int)] ∧ i ≤ n ∧ OutQ B b 34 prfC W (P.1.take i) (P.2.take i)
def poMu (n:Nat) (vs:List Value) (_:World):Nat:=match vs with | [_,_,_,_,_,.int _ i]=>n - i.toNat | _=>0
theorem below_fr {S:Nat → Prop} (h:Bw w0 W) (hf:Fr S W W') (hS:∀ j,S j → w0.heap.size ≤ j):Bw w0 W':=
 ⟨hf.os.trans h.os,hf.tape.trans h.tape,hf.output.trans h.output,Nat.le_trans h.size hf.size,fun j hj=>(hf.block j (Nat.lt_of_lt_of_le hj h.size) (fun e=>by have:=hS j e; omega)).trans (h.block j hj)⟩
@[go_sem] theorem idx_bbr (T:TypeId) (b o n c:Nat) (x:Int):oM Tryz.prog (.indexAddr 120 (.tmp 0) (.tmp 1)) T [.slice (some ⟨b,o,none⟩) n c,.int .i64 x] = onM (0 ≤ x ∧ x < n) (.pointer (some ⟨b,o + x.toNat,none⟩)):=idx_bb T b o n c x
set_option maxHeartbeats 2000000 in
theorem prove_loop (s:Stp) {ad nad dad kad:Option Addr} {c nc dc kc b1 b2 b12 gb r1 r2 Dd:Nat} {ns:List (List (List Int))} {ds:List (List Int)} {goal:List Cls} {know:List (List Knw)} {r:Int} {l79:List Value} {pa pb:Value} {e0:Int}
  (hs:SetR w s (.slice ad s.bases.length c))
  (hk:Kn w (cellsOf (cellsOf (cellsOf [] b1 0 (stpC s (.slice ad s.bases.length c))) b2 0 (prfC (.slice nad ns.length nc) (.slice dad ds.length dc))) b12 0 [.slice (some ⟨gb,0,none⟩) goal.length goal.length]) W1)
  (hR:Res2 W1 r1 r2 pa pb e0) (hr1:w.heap.size ≤ r1) (hr2:w.heap.size ≤ r2) (hDd:W1.heap[Dd]? = some (.deferred (some []))) (hwD:w.heap.size ≤ Dd)
  (hn:NumsR w (.slice nad ns.length nc) ns) (hd:ListsR w (.slice dad ds.length dc) ds) (hkn:KnowR w (.slice kad know.length kc) know) (hbr:BoolRows W1 (.slice (some ⟨gb,0,none⟩) goal.length goal.length) (chosenL s goal know).1)
  (hgm:goalM s goal = true) (hft:fitsM s goal know = true) (hsm:shapedM s goal ds ns = true) (hrI:I64 r) (hb1:W1.heap.size ≤ b) (hbB:b < B)
  (hJ:PoJ (proveL s r (chosenL s goal know).1 ds ns know) B b W1 goal.length l79 W)
  (k:∀ w' pv av,Bw w w' → ListsR w' pv (proveL s r (chosenL s goal know).1 ds ns know).1 → NumsR w' av (proveL s r (chosenL s goal know).1 ds ns know).2 → K (.tuple #[prfV pv av,.int .i64 0]) w') :
  loop_18_77 Dd (PoJ (proveL s r (chosenL s goal know).1 ds ns know) B b W1 goal.length) K (.slice kad know.length kc) l79 (poMu goal.length) (ptr r1 0) (ptr r2 0) (ptr b12 0) (ptr b 0) (ptr b1 0) (.int .i64 r) (.int .i64 goal.length) (ptr b2 0) W:=by
 obtain ⟨hb,hBW,u0,u1,u2,u3,u4,i,rfl,hi,hQ⟩:=hJ
 have hgm':=hgm
 unfold goalM at hgm'
 simp only [Bool.and_eq_true,decide_eq_true_eq] at hgm'
 have hft':=hft
 unfold fitsM at hft'
 simp only [Bool.and_eq_true,decide_eq_true_eq] at hft'
 have hsm':=hsm
 unfold shapedM at hsm'
 simp only [Bool.and_eq_true,decide_eq_true_eq] at hsm'
 have hcl:=chosenL_len (s:=s) hft'.1
 have hpl:=proveL_len (s:=s) (r:=r) (bs:=(chosenL s goal know).1) (ds:=ds) (ns:=ns) (ks:=know) (by omega) (by omega) (by omega)
 have hkW:=hk.next hb
 unfold loop_18_77
 by_cases hin:i = goal.length
 ·subst hin
  rw [List.take_of_length_le (by omega),List.take_of_length_le (by omega)] at hQ
  generalize proveL s r (chosenL s goal know).1 ds ns know = P at *
  obtain ⟨dv,av,D,h1,h2,h3,h4,h5,h6,h7⟩:=hQ.ex
  have h2':=h2
  have h3':=h3
  obtain ⟨xad,xc,rfl⟩:=h2.isSlice
  obtain ⟨yad,yc,rfl⟩:=h3.isSlice
  iterate 2 (any_goals (first
  | (with_reducible refine yM ?_)
  | ((with_reducible refine oG fun V Z=>?_); simp [go_sem]; apply Z; clear Z V)))
  refine ld_prf h1 ?_
  refine (hR.next hb).set (e':=0) (fun W3 hf3 hR3=>?_)
  have hs1:=hR.p.lt
  have hs2:=hR.e.lt
  have hdlt:=(Array.getElem?_eq_some_iff.1 hDd).1
  have hD3:W3.heap[Dd]? = some (.deferred (some [])):=by
   rw [hf3.block Dd (Nat.lt_of_lt_of_le hdlt hb.size) ?_,hb.block Dd hdlt]
   ·exact hDd
   ·rintro (rfl | rfl)
    ·have:=hR.p; unfold Holds at this; rw [hDd] at this; cases this
    ·have:=hR.e; unfold Holds at this; rw [hDd] at this; cases this
  have hf4:=put_fr (B:=w.heap.size) (.deferred none) hwD hD3 rfl
  refine ⟨hD3,(hR3.own hf4).ret (K:=K) ?_⟩
  have hS4:∀ j,B ≤ j → ¬ (j = r1 ∨ j = r2):=by rintro j hj (rfl | rfl) <;> omega
  have hf5:Fr (fun j=>j = Dd) W3 (W3.putObj Dd (.deferred none)):=Fr.of_by (grownBy_putObj' W3 Dd _)
  have hsz:=hf3.size
  have g2:=(h2'.keep hf3 (fun j hj=>⟨(h4 j hj).1,hS4 j (h7 j hj)⟩) (fun j hj=>hS4 j (h2'.own hj).2)).keep hf5 (fun j hj=>⟨by have:=(h4 j hj).1; omega,fun e=>by have:=h7 j hj; omega⟩) (fun j hj e=>by have:=(h2'.own hj).2; omega)
  have g3:=(h3'.keep hf3 (fun j hj=>⟨(h5 j hj).1,hS4 j (h7 j hj)⟩) (fun j hj=>hS4 j (h3'.own hj).2)).keep hf5 (fun j hj=>⟨by have:=(h5 j hj).1; omega,fun e=>by have:=h7 j hj; omega⟩) (fun j hj e=>by have:=(h3'.own hj).2; omega)
  exact k _ _ _ (below_fr (below_fr hkW.below hf3 (by rintro j (rfl | rfl) <;> assumption)) hf5 (by rintro j rfl; exact hwD)) (g2.srow (by decide) (by omega)) (g3.srow (by decide) (by omega))
 have eg:goal[i]? = some goal[i]:=gE (by omega)
 have ek:know[i]? = some know[i]:=gE (by omega)
 have ed:ds[i]? = some ds[i]:=gE (by omega)
 have en:ns[i]? = some ns[i]:=gE (by omega)
 have eb:=chosenL_at (s:=s) eg ek
 have hP:=proveL_at (s:=s) (r:=r) eb ed en ek
 have hlF:(fillM s.g.Q (chosenC s goal[i].need goal[i].claims know[i]).1 ds[i] r).length = (chosenC s goal[i].need goal[i].claims know[i]).1.length:=by simp [fillM]
 have hcln:=chosen_len s goal[i].claims know[i] goal[i].need (fitsL_at hft'.2 eg ek).1
 obtain ⟨hA,hdl⟩:=ansC_of hgm hft hsm eg ek ed en (fillM s.g.Q (chosenC s goal[i].need goal[i].claims know[i]).1 ds[i] r) (by rw [hlF,hcln])
 obtain ⟨bb,ob,ebb,hltb,csb,_,hcellb,vb,rfl,hrowb⟩:=hbr.at (i:=i) (by omega)
 cases ebb
 obtain ⟨bd,od,rfl,hltd,csd,_,hcelld,vd,rfl,hrowd⟩:=hd.at (i:=i) (by omega)
 have e3:(chosenL s goal know).1[i]'(by omega) = (chosenC s goal[i].need goal[i].claims know[i]).1:=(gS eb).2
 rw [e3] at hrowb
 generalize hBs:(chosenC s goal[i].need goal[i].claims know[i]).1 = Bs at *
 generalize hFs:fillM s.g.Q Bs ds[i] r = F at *
 generalize ds[i] = d at *
 generalize ns[i] = N at *
 generalize know[i] = Ks at *
 generalize goal[i] = cl at *
 have hFI:∀ x ∈ F,I64 x:=by rw [← hFs]; exact fill_I64 _ _ _ _
 have hmax:=hA.max
 have hFl:=hA.ld
 obtain ⟨bad2,bc2,rfl⟩:=hrowb.isSlice
 obtain ⟨dad2,dc2,rfl⟩:=hrowd.isSlice
 have cb:=hcellb 0 _ rfl
 have cd:=hcelld 0 _ rfl
 simp only [Nat.add_zero,Nat.mul_one,Nat.zero_add] at cb cd
 have hiB:(i:Int) < goal.length:=by omega
 have hiD:(i:Int) < ds.length:=by omega
 repeat (any_goals (first
 | (with_reducible refine yN ?_)
 | ((with_reducible refine oG fun V Z=>?_); simp [go_sem]; apply Z; clear Z V)))
 unfold held_18_81
 have hb9:Below W.heap.size W { W with drawn:=W.drawn + 1 }:=.drawn
 have hk9:=hkW.next hb9
 have hbb9:=hb.on hb9
 refine ⟨Nx { W with drawn:=W.drawn + 1 },Below.refl _ _,rfl,?_⟩
 have hsz9:({ W with drawn:=W.drawn + 1 }:World).heap.size = W.heap.size:=rfl
 generalize ({ W with drawn:=W.drawn + 1 }:World) = W9 at hk9 hb9 hbb9 hsz9 ⊢
 repeat (any_goals (first
 | (with_reducible refine pX ?_)
 | ((with_reducible refine idOH ?_); (with_reducible refine oH_of ⟨_,rfl⟩ (fun W0 hW0=>by (refine oG (fun V Z=>?_)); simp [go_sem,(hk9.next hW0).cells,((hbb9.on hW0).cell hltb).trans cb,((hk9.next hW0).below.cell hltd).trans cd,hiB,hiD]; (first | exact Z _ _ ⟨rfl,rfl⟩ | exact ⟨by omega,Z _ _ ⟨rfl,rfl⟩⟩)) ?_))))
 refine ⟨Nx,fun w10 h10=>?_⟩
 have hk10:=hk9.next h10
 have hb10:=hbb9.on h10
 refine fill_ok s Bs d r (hs.next hk10.below) (hrowb.next (atOf_stay bools_vstay) hb10) (hrowd.next hk10.below) hrI (by have:=hA.lb; omega) (by have:=hA.lb; omega) (fun v11 W2 h11 ho11=>?_)
 rw [hFs] at ho11
 obtain ⟨xad,xc,rfl⟩:=owns_len ho11
 have hk2:=hk10.next h11
 have hb2:=hb10.on h11
 have hW2:Bw W W2:=(hb9.on h10).on h11
 have hx2:Ints W2 (.slice xad F.length xc) F:=ho11.ints hFI (by omega)
 iterate 1 (any_goals ((with_reducible refine oG fun V Z=>?_); simp [go_sem]; apply Z; clear Z V))
 rw [hFl] at hx2 ho11 ⊢
 refine make_lists (by omega) (fun gg W3 h3 hgg hO=>?_)
 repeat (any_goals ((with_reducible refine oG fun V Z=>?_); simp [go_sem]; apply Z; clear Z V))
 refine ⟨PiJ (answersC s.g.Q Bs F N Ks) cl.claims.length gg W2,piMu cl.claims.length,⟨h3,_,_,0,rfl,by omega,by unfold AnsI; simpa using hO⟩,?_⟩
 intro l100 u100 W4 hJ4
 refine prove_step s hk2 hn hkn (hbr.next (atOf_stay boolsr_vstay) hb2) hcl hx2 hA en ek eb hgg hJ4 (fun l W5 hb5 hO5=>?_)
 have hlA:(answersC s.g.Q Bs F N Ks).length = cl.claims.length:=by
  rw [answersC_len (by rw [hA.ld,hA.lb]) (by rw [hA.ln,hA.lb]) (by rw [hA.lk,hA.lb]),hA.lb]
 have hO5f:=hO5.fp (by omega)
 rw [hlA] at hO5f
 refine prove_tail (x:=F) (y:=answersC s.g.Q Bs F N Ks) hQ (hW2.on hb5) hBW (by omega) ?_ (hO5f.mono (fun j hj=>⟨by have:=hW2.size; omega,hj.2⟩)) ?_ ?_ (fun W6 vs hf6 hs6 hQ6 hvs=>?_)
 ·have ho:=ho11.keep hb5
  have:=(ho.ints hFI (by omega)).fp
  refine FP.mono (this) (fun j hj=>⟨?_,hj.2⟩)
  have:=(owns_own ho (own_inB ho hj.1)).2.1
  have:=h10.size
  omega
 ·rw [List.length_take]; omega
 ·rw [List.length_take]; omega
 ·obtain ⟨a0,a1,a2,a3,a4,rfl⟩:=hvs
  rw [take_snoc2 hP.1,take_snoc2 hP.2] at hQ6
  refine ⟨⟨below_fr ((hb.on hW2).on hb5) hf6 (by rintro j (rfl | h) <;> omega),by have:=hf6.size; have:=hb5.size; have:=hW2.size; omega,_,_,_,_,_,i + 1,rfl,by omega,hQ6⟩,by show goal.length - (((i + 1:Nat):Int)).toNat < goal.length - ((i:Nat):Int).toNat; omega⟩
end
end Go.Proofs
namespace Go.Proofs
open Go Go.Sh Go.RowKit FdSpec TkSpec CodeSpec PrSpec FdPoly
section
variable {K:VK} {w w' w0 W W' We W1 W2:World} {L:List (Addr × Value)} {g n B b i:Nat} {row:Option Nat}
def PlcM {goal:List Cls} (x:Itm goal w) (l:List Value) (W:World):Prop:=∃ p,l = [.pointer (some ⟨p,0,none⟩)] ∧ cellsAre W (cellsOf [] p 0 [.int .i64 x.i,.int .i64 x.k])
theorem al_bbs (w:World):(Instr.alloc 120 true (.tuple #[])).run Tryz.prog w = .ok (.pointer (some ⟨w.heap.size,0,none⟩)) (w.alloc (.cells [.slice none 0 0].toArray 120)):=by kernel_rfl
theorem sz_bbs (w:World):(sizeOf 120).run Tryz.prog w = .ok 1 w:=by kernel_rfl
theorem chosen_rows {s:Stp} {goal:List Cls} {know:List (List Knw)} {gb:Nat} (hgm:goalM s goal = true) (hft:fitsM s goal know = true) (hO5:OutB W B gb (chosenL s goal know).1):BoolRows W (.slice (some ⟨gb,0,none⟩) goal.length goal.length) (chosenL s goal know).1:=by
 have hft':=hft
 unfold fitsM at hft'
 simp only [Bool.and_eq_true,decide_eq_true_eq] at hft'
 have hgm':=hgm
 unfold goalM at hgm'
 simp only [Bool.and_eq_true,decide_eq_true_eq] at hgm'
 have hcl:=chosenL_len (s:=s) hft'.1
 have:=hO5.rows (by omega) (fun r hr=>by
  obtain ⟨j,hj⟩:=List.getElem?_of_mem hr
  have hjl:=(gS hj).1
  have e1:goal[j]? = some goal[j]:=gE (by omega)
  have e2:know[j]? = some know[j]:=gE (by omega)
  have e3:=chosenL_at (s:=s) e1 e2
  rw [hj] at e3
  rw [Option.some.inj e3,chosen_len s _ _ _ (fitsL_at hft'.2 e1 e2).1]
  have:=List.all_eq_true.1 hgm'.1.2 _ (List.getElem_mem (by omega:j < goal.length))
  simp only [clsFine,Bool.and_eq_true,decide_eq_true_eq] at this
  omega)
 rwa [hcl] at this
theorem keeps_two {r1 r2:Nat} {a b:Value} {e:Int} (hR:Res2 W r1 r2 a b e) (hf:Fr (fun j=>j = r1 ∨ j = r2) W W'):KeepsFrom B W W':=⟨hf.size,fun k o _ hk ho=>by
 rw [hf.block k (Array.getElem?_eq_some_iff.1 hk).1 (fun e=>by
  rcases e with rfl | rfl
  ·have:=hR.p; unfold Holds at this; rw [hk] at this; cases this; cases ho
  ·have:=hR.e; unfold Holds at this; rw [hk] at this; cases this; cases ho)]
 exact hk⟩
set_option maxHeartbeats 4000000 in
theorem Prove_ok (s:Stp) (goal:List Cls) (ctx:Bytes) (know:List (List Knw)) (ns:List (List (List Int))) (ds:List (List Int)) {sv gv kv nv dv:Value} (hs:SetR w s sv) (hg:GoalR w gv goal) (hk0:KnowR w kv know) (hn:NumsR w nv ns) (hd:ListsR w dv ds) (hl:Cd.Laid w)
  (hN:(goalL goal).length ≤ 1000000) (hctx:ctx.length ≤ 1000000)
  (k:∀ w' pv av,Bw w w' → ListsR w' pv (proveM s goal ctx know ns ds).1.1 → NumsR w' av (proveM s goal ctx know ns ds).1.2 → K (.tuple #[prfV pv av,.int .i64 (proveM s goal ctx know ns ds).2]) w'):callM Tryz.prog 18 #[stpV s sv,gv,.string ⟨ctx.toArray⟩,kv,prfV nv dv] K w:=by
 apply sh_18c_ok
 unfold sh_18c
 have hs':=hs
 have hg':=hg
 have hd':=hd
 have hn':=hn
 have hk0':=hk0
 obtain ⟨ad,c,rfl⟩:=hs.ints.isSlice
 obtain ⟨gad,gc,rfl⟩:=hg.isSlice
 obtain ⟨dad,dc,rfl⟩:=hd.isSlice
 obtain ⟨nad,nc,rfl⟩:=hn.isSlice
 obtain ⟨kad,kc,rfl⟩:=hk0.isSlice
 have hlg:=hg.len
 refine box_kn (cs:=stpC s (.slice ad s.bases.length c)) rfl (.start w) fun b1 W hk hb1 hbb=>?_
 refine box_kn (cs:=prfC (.slice nad ns.length nc) (.slice dad ds.length dc)) rfl hk fun b2 W hk hb2 hbb2=>?_
 refine arr_alloc al_prf (fun r1 W3 h3 hr1 hh1=>?_)
 have hk:=hk.next h3
 refine arr_alloc al_eno (fun r2 W4 h4 hr2 hh2=>?_)
 have hr1w:w.heap.size ≤ r1:=by have:=hb1.size; have:=hb2.size; omega
 have hr2w:w.heap.size ≤ r2:=by have:=hb1.size; have:=hb2.size; have:=h3.size; omega
 have hk:=hk.next h4
 have hR:Res2 W4 r1 r2 (.slice none 0 0) (.slice none 0 0) 0:=⟨hh1.next h4,hh2,by have:=hh1.lt; omega⟩
 clear hb1 hb2 hbb hbb2 h3 h4 hr1 hr2 hh1 hh2
 have no:∀ (e:Int) (W:World) {T1 T2:TypeId},proveM s goal ctx know ns ds = (([],[]),e) → Bw w W → Res2 W r1 r2 (.slice none 0 0) (.slice none 0 0) 0 →
   oM Tryz.prog (.store 34 (.tmp 0) (.tmp 1)) T1 [ptr r1 0,.agg #[.slice none 0 0,.slice none 0 0]] (fun _ w=>oM Tryz.prog (.store 39 (.tmp 0) (.tmp 1)) T2 [ptr r2 0,.int .i64 e] (fun _ w=>
    ∃ r,(do loadVar 34 (← asAddr (ptr r1 0)):Sem Value).run Tryz.prog w = .ok r w ∧ ∃ r',(do loadVar 39 (← asAddr (ptr r2 0)):Sem Value).run Tryz.prog w = .ok r' w ∧ K (.tuple #[r,r']) w) w) W:=by
  intro e W T1 T2 he hb hR
  refine hR.set (fun W' hf hR'=>hR'.ret (K:=K) ?_)
  have:=k W' _ _ (below_fr hb hf (by rintro j (rfl | rfl) <;> assumption)) (by rw [he]; exact SRow.nil) (by rw [he]; exact SRow.nil)
  rwa [he] at this
 repeat (any_goals ((with_reducible refine oG fun V Z=>?_); simp [go_sem,hk.cells]; apply Z; clear Z V))
 refine ValidGoal_ok s (hs'.next hk.below) (hg'.next (atOf_stay cls_vstay) hk.below) (fun w2 h2=>?_)
 have hk:=hk.next h2
 have hR:=hR.next h2
 cases hgm:goalM s goal with
 | false=>
  repeat (any_goals (first
  | (with_reducible first|refine zD ?_|refine yB ?_|refine yL ?_)
  | ((with_reducible refine oG fun V Z=>?_); simp [go_sem]; apply Z; clear Z V)))
  exact no 1 _ (by simp [proveM,hgm]) hk.below hR
 | true=>
 repeat (any_goals (first
 | (with_reducible first|refine pureM_in ?_|refine zC ?_)
 | ((with_reducible refine oG fun V Z=>?_); simp [go_sem,hk.cells]; apply Z; clear Z V)))
 refine fits_ok s (hs'.next hk.below) (hg'.next (atOf_stay cls_vstay) hk.below) (hk0'.next (atOf_stay knws_vstay) hk.below) (fun w3 h3=>?_)
 have hk:=hk.next h3
 have hR:=hR.next h3
 cases hft:fitsM s goal know with
 | false=>
  repeat (any_goals (first
  | (with_reducible first|((refine idGd ?_); first|refine zC ?_|refine zD ?_)|((refine idPick ?_); first|refine yB ?_|refine yC ?_)|refine yL ?_)
  | ((with_reducible refine oG fun V Z=>?_); simp [go_sem]; apply Z; clear Z V)))
  exact no 1 _ (by simp [proveM,hft]) hk.below hR
 | true=>
 repeat (any_goals (first
 | (with_reducible first|refine pureM_in ?_|refine zC ?_|refine yC ?_)
 | ((with_reducible refine oG fun V Z=>?_); simp [go_sem,hk.cells]; apply Z; clear Z V)))
 refine shaped_ok s (hs'.next hk.below) (hg'.next (atOf_stay cls_vstay) hk.below) (hd'.next (atOf_stay ints_stay) hk.below) (hn'.next (atOf_stay lists_vstay) hk.below) (fun w4 h4=>?_)
 have hk:=hk.next h4
 have hR:=hR.next h4
 cases hsm:shapedM s goal ds ns with
 | false=>
  repeat (any_goals (first
  | (with_reducible first|refine zC ?_|refine yC ?_|refine yL ?_)
  | ((with_reducible refine oG fun V Z=>?_); simp [go_sem]; apply Z; clear Z V)))
  exact no 1 _ (by simp [proveM,hsm]) hk.below hR
 | true=>
 repeat (any_goals (first
 | (with_reducible first|refine zC ?_|refine yC ?_|refine yM ?_)
 | ((with_reducible refine oG fun V Z=>?_); simp [go_sem,hk.cells]; apply Z; clear Z V)))
 refine chosen_ok s (hs'.next hk.below) (hg'.next (atOf_stay cls_vstay) hk.below) (hk0'.next (atOf_stay knws_vstay) hk.below) hgm hft (fun gb B w5 h5 hB5 hO5=>?_)
 have hk:=hk.next h5
 have hR:=hR.next h5
 have hft':=hft
 unfold fitsM at hft'
 simp only [Bool.and_eq_true,decide_eq_true_eq] at hft'
 have hsm':=hsm
 unfold shapedM at hsm'
 simp only [Bool.and_eq_true,decide_eq_true_eq] at hsm'
 have hgm':=hgm
 unfold goalM at hgm'
 simp only [Bool.and_eq_true,decide_eq_true_eq] at hgm'
 have hcl:=chosenL_len (s:=s) hft'.1
 have hbr:=chosen_rows hgm hft hO5
 clear hO5
 iterate 2 (any_goals ((with_reducible refine oG fun V Z=>?_); simp [go_sem]; apply Z; clear Z V))
 refine local_kn al_bbs rfl sz_bbs rfl rfl (row_one (some ⟨gb,0,none⟩) goal.length goal.length) hk (fun b12 w6 hk h6 hb12=>?_)
 have hR:=hR.next h6
 have hbr:=hbr.next (atOf_stay boolsr_vstay) h6
 cases hch:(chosenL s goal know).2 with
 | false=>
  repeat (any_goals (first
  | (with_reducible refine yL ?_)
  | ((with_reducible refine oG fun V Z=>?_); simp [go_sem]; apply Z; clear Z V)))
  exact no 13 _ (by simp [proveM,hgm,hft,hsm,hch]) hk.below hR
 | true=>
 repeat (any_goals (first
 | (with_reducible refine yM ?_)
 | ((with_reducible refine oG fun V Z=>?_); simp [go_sem]; apply Z; clear Z V)))
 refine claims_ok (hg'.next (atOf_stay cls_vstay) hk.below) (fun cb W2 hb2 hcb hlt hcell=>?_)
 have hk2:=hk.next hb2
 have hR2:=hR.next hb2
 have hw6:w.heap.size ≤ W2.heap.size:=hk2.below.size
 refine range_claims (w:=w) hg' hk2.below hlt hcell
  (fun pre W=>Kn w (cellsOf (cellsOf (cellsOf [] b1 0 (stpC s (.slice ad s.bases.length c))) b2 0 (prfC (.slice nad ns.length nc) (.slice dad ds.length dc))) b12 0 [.slice (some ⟨gb,0,none⟩) goal.length goal.length]) W ∧ Bw w6 W ∧ Res2 W r1 r2 (.slice none 0 0) (.slice none 0 0) 0 ∧
   ∀ x ∈ pre,∀ b d,(chosenL s goal know).1[x.i]? = some b → ds[x.i]? = some d → ∀ bb dd,b[x.k]? = some bb → d[x.k]? = some dd → bb = true → dd = 0)
  (fun pre W=>Bw w W ∧ Res2 W r1 r2 (.slice none 0 0) (.slice none 0 0) 3 ∧ zeroL (chosenL s goal know).1 ds = false)
  PlcM
  (fun pre W W' h hf=>⟨own_kn h.1 hw6 hf,own_below h.2.1 hb2.size hf,h.2.2.1.own hf,h.2.2.2⟩)
  (fun pre W W' h hf=>⟨own_below h.1 hw6 hf,h.2.1.own hf,h.2.2⟩)
  (fun x l W W' h hf=>by obtain ⟨p,e,h⟩:=h; exact ⟨p,e,own_cells h hf⟩)
  ⟨hk2,hb2,hR2,fun x hx=>by cases hx⟩ ?_ ?_ ?_ ?_
 ·rintro pre x W ⟨hkp,hbp,hRp,hp⟩
  dsimp only
  rw [enc0]
  refine local_plc _ _ (.start W) (fun p W1 hk1 hb1 hgp=>?_)
  exact ⟨keeps_below hb1,hb1.mono hkp.below.size,⟨hkp.next hb1,hbp.on hb1,hRp.next hb1,hp⟩,p,rfl,hk1.cells⟩
 ·rintro pre x l u W ⟨hkp,hbp,hRp,hp⟩ ⟨p,rfl,hm⟩ hlen
  have hxi:=(gS x.hi).1
  have hxk:=(gS x.hk).1
  have ek:know[x.i]? = some know[x.i]:=gE (by omega)
  have ed:ds[x.i]? = some ds[x.i]:=gE (by omega)
  have en:ns[x.i]? = some ns[x.i]:=gE (by omega)
  have eb:=chosenL_at (s:=s) x.hi ek
  have hbl:=chosen_len s _ _ (x.cl).need (fitsL_at hft'.2 x.hi ek).1
  have hsh:=(shapedL_at hsm'.2 x.hi ed en).1
  simp only [shapeOf,exponentsM,Bool.and_eq_true,decide_eq_true_eq] at hsh
  obtain ⟨bb,ob,ebb,hltb,csb,_,hcellb,vb,rfl,hrowb⟩:=hbr.at (i:=x.i) (by omega)
  cases ebb
  obtain ⟨bd,od,rfl,hltd,csd,_,hcelld,vd,rfl,hrowd⟩:=hd'.at (i:=x.i) (by omega)
  have e3:(chosenL s goal know).1[x.i]'(by omega) = (chosenC s x.cl.need x.cl.claims know[x.i]).1:=(gS eb).2
  rw [e3] at hrowb
  generalize (chosenC s x.cl.need x.cl.claims know[x.i]).1 = Bs at *
  generalize ds[x.i] = dd at *
  have hkB:x.k < Bs.length:=by omega
  have hkD:x.k < dd.length:=by omega
  obtain ⟨bad2,bc2,rfl⟩:=hrowb.isSlice
  obtain ⟨dad2,dc2,rfl⟩:=hrowd.isSlice
  have cb:=hcellb 0 _ rfl
  have cd:=hcelld 0 _ rfl
  have ebk:Bs[x.k]? = some Bs[x.k]:=gE hkB
  have edk:dd[x.k]? = some dd[x.k]:=gE hkD
  obtain ⟨bt,ot,rfl,hltt,cst,_,hcellt,vt,rfl,hvt⟩:=hrowb.at (i:=x.k) hkB
  obtain ⟨be,oe,rfl,hlte,celle,_,_⟩:=hrowd.at (i:=x.k) hkD
  have ct:=hcellt 0 _ rfl
  unfold BoolR at hvt
  subst hvt
  simp only [Nat.add_zero,Nat.mul_one,Nat.zero_add] at cb cd ct
  generalize Bs[x.k] = bv at *
  generalize dd[x.k] = dv at *
  have hiB:(x.i:Int) < goal.length:=by omega
  have hiD:(x.i:Int) < ds.length:=by omega
  have hkB:(x.k:Int) < Bs.length:=by omega
  have hkD:(x.k:Int) < dd.length:=by omega
  unfold held_18_43
  have hk9:=hkp.drew
  have hb9:Below W.heap.size W { W with drawn:=W.drawn + 1 }:=.drawn
  have hm:=cellsAre_keep hm (fun a ha=>hb9.cell ha)
  have hbp9:=hbp.on hb9
  have hRp9:=hRp.next hb9
  refine ⟨Nx { W with drawn:=W.drawn + 1 },Below.refl _ _,rfl,?_⟩
  generalize ({ W with drawn:=W.drawn + 1 }:World) = W9 at hk9 hb9 hm hbp9 hRp9 ⊢
  have fin:∀ w7,Nx W9 w7 → (bv = true → dv = 0) → KeepsFrom W2.heap.size W w7 ∧ Below w.heap.size W w7 → KeepsFrom W2.heap.size W w7 ∧ Below w.heap.size W w7 ∧ Kn w (cellsOf (cellsOf (cellsOf [] b1 0 (stpC s (.slice ad s.bases.length c))) b2 0 (prfC (.slice nad ns.length nc) (.slice (some ⟨bd,od,none⟩) ds.length dc))) b12 0 [.slice (some ⟨gb,0,none⟩) goal.length goal.length]) w7 ∧ Bw w6 w7 ∧ Res2 w7 r1 r2 (.slice none 0 0) (.slice none 0 0) 0 ∧
   ∀ y ∈ pre ++ [x],∀ b d,(chosenL s goal know).1[y.i]? = some b → ds[y.i]? = some d → ∀ bb dd,b[y.k]? = some bb → d[y.k]? = some dd → bb = true → dd = 0:=by
   intro w7 h7 hz h0
   refine ⟨h0.1,h0.2,hk9.next h7,hbp9.on h7,hRp9.next h7,fun y hy=>?_⟩
   rcases List.mem_append.1 hy with hy | hy
   ·exact hp y hy
   ·rw [List.mem_singleton.1 hy]
    intro b d h1 h2 bb' dd' h3 h4 h5
    rw [eb] at h1
    rw [ed] at h2
    cases h1; cases h2
    rw [ebk] at h3
    rw [edk] at h4
    cases h3; cases h4
    exact hz h5
  cases bv with
  | false=>
   repeat (any_goals (first
   | (with_reducible first|refine pX ?_|((refine idGdH ?_); refine gdH_conv fun _=>?_)|refine zB ?_)
   | ((with_reducible refine idOH ?_); first|(with_reducible refine vB ?_)|(with_reducible refine oH_of ⟨_,rfl⟩ (fun W0 hW0=>by (refine oG (fun V Z=>?_)); simp [go_sem,(hk9.next hW0).cells,cellsAre_keep hm (fun a ha=>hW0.cell ha),((hbp9.on hW0).cell hltb).trans cb,((hbp9.on hW0).cell hltt).trans ct,((hk9.next hW0).below.cell hltd).trans cd,celle _ (hk9.next hW0).below,hiB,hiD,hkB,hkD]; (first | exact Z _ _ ⟨rfl,rfl⟩ | exact ⟨by omega,Z _ _ ⟨rfl,rfl⟩⟩)) ?_))))
   refine ⟨Nx,fun w7 h7=>?_⟩
   repeat (any_goals (with_reducible refine yM ?_))
   exact fin w7 h7 (fun e=>by cases e) ⟨keeps_below (hb9.on h7),(hb9.on h7).mono hkp.below.size⟩
  | true=>
   by_cases hz:dv = 0
   ·repeat (any_goals (first
    | (with_reducible first|refine pX ?_|((refine idGdH ?_); refine gdH_conv fun _=>?_)|refine zA ?_)
    | ((with_reducible refine idOH ?_); first|(with_reducible refine vA ?_)|(with_reducible refine oH_of ⟨_,rfl⟩ (fun W0 hW0=>by (refine oG (fun V Z=>?_)); simp [go_sem,(hk9.next hW0).cells,cellsAre_keep hm (fun a ha=>hW0.cell ha),((hbp9.on hW0).cell hltb).trans cb,((hbp9.on hW0).cell hltt).trans ct,((hk9.next hW0).below.cell hltd).trans cd,celle _ (hk9.next hW0).below,hiB,hiD,hkB,hkD]; (first | exact Z _ _ ⟨rfl,rfl⟩ | exact ⟨by omega,Z _ _ ⟨rfl,rfl⟩⟩)) ?_))))
    refine ⟨Nx,fun w7 h7=>?_⟩
    repeat (any_goals (with_reducible refine yR ?_))
    exact fin w7 h7 (fun _=>hz) ⟨keeps_below (hb9.on h7),(hb9.on h7).mono hkp.below.size⟩
   ·repeat (any_goals (first
    | (with_reducible first|refine pX ?_|((refine idGdH ?_); refine gdH_conv fun _=>?_)|refine zA ?_)
    | ((with_reducible refine idOH ?_); first|(with_reducible refine vA ?_)|(with_reducible refine oH_of ⟨_,rfl⟩ (fun W0 hW0=>by (refine oG (fun V Z=>?_)); simp [go_sem,(hk9.next hW0).cells,cellsAre_keep hm (fun a ha=>hW0.cell ha),((hbp9.on hW0).cell hltb).trans cb,((hbp9.on hW0).cell hltt).trans ct,((hk9.next hW0).below.cell hltd).trans cd,celle _ (hk9.next hW0).below,hiB,hiD,hkB,hkD]; (first | exact Z _ _ ⟨rfl,rfl⟩ | exact ⟨by omega,Z _ _ ⟨rfl,rfl⟩⟩)) ?_))))
    refine ⟨Nx,fun w7 h7=>?_⟩
    repeat (any_goals (first
    | (with_reducible refine yQ ?_)
    | ((with_reducible refine oG fun V Z=>?_); simp [go_sem]; apply Z; clear Z V)))
    refine (hRp9.next h7).set (e':=3) (fun W8 hf8 hR8=>?_)
    refine ⟨(keeps_below (hb9.on h7)).trans (keeps_two (hRp9.next h7) hf8),below_fr (hk9.next h7).below hf8 (by rintro j (rfl | rfl) <;> assumption),hR8,?_⟩
    rw [Bool.eq_false_iff]
    intro hzl
    exact hz (zeroC_at (zeroL_at hzl eb ed) ebk edk rfl)
 ·rintro D xs W hD hxs ⟨hk3,hb3,hR3,hp⟩ hh
  have hz:zeroL (chosenL s goal know).1 ds = true:=zeroL_of (fun i b d h1 h2=>zeroC_of (fun k' bb dd h3 h4 h5=>by
   have hil:=(gS h1).1
   have e1:goal[i]? = some goal[i]:=gE (by omega)
   have e2:know[i]? = some know[i]:=gE (by omega)
   have e3:=chosenL_at (s:=s) e1 e2
   rw [h1] at e3
   cases e3
   have hkl:=(gS h3).1
   rw [chosen_len s _ _ _ (fitsL_at hft'.2 e1 e2).1] at hkl
   have e4:goal[i].claims[k']? = some goal[i].claims[k']:=gE hkl
   have hm:=places_mem e1 e4
   rw [← hxs,List.mem_map] at hm
   obtain ⟨y,hy,hye⟩:=hm
   simp only [Itm.at,Prod.mk.injEq] at hye
   obtain ⟨rfl,rfl,_⟩:=hye
   exact hp y hy _ _ h1 h2 _ _ h3 h4 h5))
  repeat (any_goals ((with_reducible refine oG fun V Z=>?_); simp [go_sem,hk3.cells]; apply Z; clear Z V))
  refine root_ok s goal ctx ds ns (hs'.next hk3.below) (hg'.next (atOf_stay cls_vstay) hk3.below) (hd'.next (atOf_stay ints_stay) hk3.below) (hn'.next (atOf_stay lists_vstay) hk3.below) (hl.below hk3.below hl.size) hgm hsm hN hctx (fun w4 h4=>?_)
  have hk4:=hk3.next h4
  have hR4:=hR3.next h4
  have hb4:=hb3.on h4
  have hh4:w4.heap[D]? = some (.deferred (some [])):=(h4.block D (Array.getElem?_eq_some_iff.1 hh).1).trans hh
  iterate 1 (any_goals ((with_reducible refine oG fun V Z=>?_); simp [go_sem]; apply Z; clear Z V))
  refine arr_alloc al_prf (fun b16 w7 h7 hb16 hh7=>?_)
  refine arr_store sz_prf (xs:=prfC (.slice none 0 0) (.slice none 0 0)) rfl rfl (prf_one none none 0 0 0 0) hh7 rfl (fun w8 hg8 hh8=>?_)
  have h48:Bw w4 w8:=grown_below h7 hg8 hb16
  have hrI:=root_I64 s goal ctx ds ns
  have hpr:proveM s goal ctx know ns ds = (proveL s (rootM s goal ctx ds ns) (chosenL s goal know).1 ds ns know,0):=by simp [proveM,hgm,hft,hsm,hch,hz]
  rw [hpr] at k
  generalize rootM s goal ctx ds ns = r at *
  iterate 1 (any_goals ((with_reducible refine oG fun V Z=>?_); simp [go_sem]; apply Z; clear Z V))
  refine ⟨PoJ (proveL s r (chosenL s goal know).1 ds ns know) w8.heap.size b16 w4 goal.length,poMu goal.length,⟨h48,Nat.le_refl _,_,_,_,_,_,0,rfl,by omega,.start hh8.lt (by simpa using hh8)⟩,?_⟩
  intro l79 u79 W9 hJ
  exact prove_loop s hs' hk4 hR4 hr1w hr2w hh4 (Nat.le_trans hw6 hD) hn' hd' hk0' (hbr.next (atOf_stay boolsr_vstay) hb4) hgm hft hsm hrI hb16 hh8.lt hJ k
 ·rintro D pre W hD hpre ⟨hb3,hR3,hz⟩ hh
  have hf:=put_fr (B:=W2.heap.size) (.deferred none) hD hh rfl
  refine ⟨hh,(hR3.own hf).ret (K:=K) ?_⟩
  have e:proveM s goal ctx know ns ds = (([],[]),3):=by simp [proveM,hgm,hft,hsm,hch,hz]
  have:=k _ (.slice none 0 0) (.slice none 0 0) (own_below hb3 hw6 hf) (by rw [e]; exact SRow.nil) (by rw [e]; exact SRow.nil)
  rwa [e] at this
end
end Go.Proofs
namespace Go.Proofs
open Go Go.Sh Go.RowKit FdSpec TkSpec CodeSpec PrSpec FdPoly
section
variable {K:VK} {w w' w0 W W' We W1 W2:World} {L:List (Addr × Value)} {g n B b i:Nat} {row:Option Nat}
structure ExI (B:Nat) (dv nv:Value) (D:Nat → Prop) (W:World) (dr:List Int) (nl:List (List Int)):Prop where
 d:OwnI W B dv dr
 n:ListG B D W nv nl
 od:Off D W dv
 on:Off D W nv
 ap:apart dv nv
 low:∀ j,D j → B ≤ j
section
variable {dv nv:Value} {D E:Nat → Prop} {dr:List Int} {nl:List (List Int)}
theorem ExI.next (h:ExI B dv nv D W dr nl) (hb:Bw W W'):ExI B dv nv D W' dr nl:=
 ⟨h.d.keep hb,h.n.next hb (fun j hj=>(h.on j hj).1),h.od.next hb.size,h.on.next hb.size,h.ap,h.low⟩
theorem ExI.push {T:TypeId} {gb gc m c:Nat} {ad:Option Addr} {x:List Int} (h:ExI B dv nv D W dr nl) (hB:B ≤ W.heap.size) (hh:Holds W gb 24 [.slice ad m c]) (hx:FP E W (fun w=>Ints w (.slice ad m c) x)) (hE:∀ i,E i → B ≤ i ∧ i < W.heap.size ∧ dv.ownBlock ≠ some i ∧ nv.ownBlock ≠ some i) (hl:nl.length < 1099511627776)
  (k:∀ v W',W.grownBy W' nv.ownBlock → (∀ j,nv.ownBlock = some j → B ≤ j) → ExI B dv v (fun i=>D i ∨ E i) W' dr (nl ++ [x]) → K v W'):oM Tryz.prog (.call { callee:=.builtin .append,args:=#[.tmp 0,.tmp 1],argTypes:=#[30,30] }) T [nv,.slice (some ⟨gb,0,none⟩) 1 gc] K W:=by
 have hD':Off (fun i=>D i ∨ E i) W nv:=fun i hi=>hi.elim (h.on i) (fun hi=>⟨(hE i hi).2.1,(hE i hi).2.2.2⟩)
 have hD2:Off (fun i=>D i ∨ E i) W dv:=fun i hi=>hi.elim (h.od i) (fun hi=>⟨(hE i hi).2.1,(hE i hi).2.2.1⟩)
 refine ints_append (h.n.mono fun i hi=>.inl hi) hB hh (hx.mono fun i hi=>.inr hi) hD' hl (fun v w' hg hb hv ho=>k v w' hb (fun j hj=>(h.n.own hj).2) ⟨owns_keep h.d (fun i hi=>hb.block i (owns_own h.d hi).1 (fun e=>h.ap i hi (by first | exact e | exact e.symm))),hg,hD2.next hb.size,ho,?_,?_⟩)
 ·intro i e1 e2
  rcases hv i e2 with h1 | h1
  ·exact h.ap i e1 h1
  ·have:=(owns_own h.d e1).1; omega
 ·rintro i (hi | hi)
  ·exact h.low i hi
  ·exact (hE i hi).1
end
end
end Go.Proofs
namespace Go.Proofs
open Go Go.Sh Go.RowKit FdSpec TkSpec CodeSpec PrSpec FdPoly
section
variable {K:VK} {w w' w0 W W' We W1 W2:World} {L:List (Addr × Value)} {g n B b i:Nat} {row:Option Nat}
end
end Go.Proofs
namespace Go.Proofs
open Go Go.Sh Go.RowKit FdSpec TkSpec CodeSpec PrSpec FdPoly
section
variable {K:VK} {w w' w0 W W' We W1 W2:World} {L:List (Addr × Value)} {g n B b i:Nat} {row:Option Nat}
end
end Go.Proofs
namespace Go.Proofs
open Go Go.Sh Go.RowKit FdSpec TkSpec CodeSpec PrSpec FdPoly
section
variable {K:VK} {w w' w0 W W' We W1 W2:World} {L:List (Addr × Value)} {g n B b i:Nat} {row:Option Nat}
theorem Exponent_ok (s:Stp) (x:Int) {v:Value} (hs:SetR w s v) (k:∀ w',Bw w w' → K (.bool (exponentM s x)) w'):callM Tryz.prog 85 #[stpV s v,.int .i64 x] K w:=by
 apply sh_85_ok
 unfold sh_85
 obtain ⟨ad,c,rfl⟩:=hs.ints.isSlice
 refine box_kn (cs:=stpC s (.slice ad s.bases.length c)) rfl (.start w) fun b1 W hk hb1 hbb=>?_
 have k:=k _ hk.below
 unfold exponentM at k
 by_cases h0:0 ≤ x
 ·by_cases h1:x < s.g.Q
  ·rw [decide_eq_true h0,decide_eq_true h1] at k
   repeat (any_goals (first
   | (with_reducible first|refine pureM_in ?_|refine zA ?_|refine yB ?_)
   | ((with_reducible refine oG fun V Z=>?_); simp [go_sem,hk.cells,h0,h1]; apply Z; clear Z V)))
   exact k
  ·rw [decide_eq_true h0,decide_eq_false h1] at k
   repeat (any_goals (first
   | (with_reducible first|refine pureM_in ?_|refine zA ?_|refine yB ?_)
   | ((with_reducible refine oG fun V Z=>?_); simp [go_sem,hk.cells,h0,h1]; apply Z; clear Z V)))
   exact k
 ·rw [decide_eq_false h0] at k
  repeat (any_goals (first
  | (with_reducible first|refine zB ?_|refine yC ?_)
  | ((with_reducible refine oG fun V Z=>?_); simp [go_sem,hk.cells,h0]; apply Z; clear Z V)))
  exact k
theorem lit_knw1 {T:TypeId} (ad:Option Addr) (n c:Nat) (k:∀ g W,Bw w W → w.heap.size ≤ g → Holds W g 113 [.bool true,.slice ad n c] → K (.slice (some ⟨g,0,none⟩) 1 1) W):oM Tryz.prog (.buildSlice 114 1 #[(0,.tmp 0)]) T [.agg #[.bool true,.slice ad n c]] K w:=by
 rw [oM_buildSlice1]; exact lit_run (by kernel_rfl) k
theorem OutQ.addN {R:WK} {T1 T2 T3 T4 T5 T6:TypeId} {dl:List (List Int)} {al:List (List (List Int))} {y:List (List Int)} {nad:Option Addr} {m nc:Nat} (hQ:OutQ B b 32 (fun d a=>prfC a d) We dl al) (hb:Bw We W) (hB:B ≤ We.heap.size)
  (hy:FP (fun j=>We.heap.size ≤ j ∧ j < W.heap.size) W (fun w=>ListsR w (.slice nad m nc) y)) (hal:al.length < 1099511627776)
  (k:∀ W',Fr (fun j=>j = b ∨ B ≤ j) W W' → OutQ B b 32 (fun d a=>prfC a d) W' dl (al ++ [y]) → R W') :
  oM Tryz.prog (.fieldAddr 32 (.tmp 0) 0) T1 [ptr b 0] (fun v1 w=>oM Tryz.prog (.load 29 (.tmp 0)) T2 [v1] (fun v2 w=>oM Tryz.prog (.buildSlice 29 1 #[(0,.tmp 0)]) T3 [.slice nad m nc] (fun v3 w=>
   oM Tryz.prog (.call { callee:=.builtin .append,args:=#[.tmp 0,.tmp 1],argTypes:=#[29,29] }) T4 [v2,v3] (fun v4 w=>oM Tryz.prog (.fieldAddr 32 (.tmp 0) 0) T5 [ptr b 0] (fun v5 w=>oM Tryz.prog (.store 29 (.tmp 0) (.tmp 1)) T6 [v5,v4] (fun _ w=>R w) w) w) w) w) w) W:=by
 obtain ⟨dv,av,D,h1,h2,h3,h4,h5,h6,h7⟩:=hQ.ex
 obtain ⟨dad,dc,rfl⟩:=h2.isSlice
 obtain ⟨aad,ac,rfl⟩:=h3.isSlice
 have hbl:=hQ.lt
 have hsz:=hb.size
 have hh:Holds W b 32 [.slice aad al.length ac,.slice dad dl.length dc]:=h1.next hb
 have hl4:∀ i,D i → i < We.heap.size:=fun i hi=>(h4 i hi).1
 iterate 2 (any_goals ((with_reducible refine oG fun V Z=>?_); simp [go_sem,hh.are]; apply Z; clear Z V))
 refine lit_lists _ _ _ (fun g5 w5 hb5 hg5 hh5=>?_)
 have hs5:=hb5.size
 refine lists_append (D:=fun j=>D j ∨ (We.heap.size ≤ j ∧ j < W.heap.size)) ((h3.next (hb.on hb5) hl4).mono (fun i hi=>.inl hi)) (by omega) hh5 ((hy.next hb5 (fun i hi=>hi.2)).mono (fun i hi=>.inr hi)) ?_ hal (fun v6 w6 hg6 hb6 hv6 ho6=>?_)
 ·rintro j (hj | hj)
  ·exact ⟨by have:=hl4 j hj; omega,(h5 j hj).2⟩
  ·exact ⟨by omega,fun e=>by have:=(h3.own e).1; omega⟩
 have hf6:Fr (fun j=>(Value.slice aad al.length ac).ownBlock = some j) w5 w6:=Fr.of_by' hb6
 have hB6:∀ j,(Value.slice aad al.length ac).ownBlock = some j → B ≤ j:=fun j hj=>(h3.own hj).2
 have hh6:Holds w6 b 32 [.slice aad al.length ac,.slice dad dl.length dc]:=(hh.next hb5).fr hf6 (fun e=>by have:=hB6 b e; omega)
 obtain ⟨ad6,c6,rfl⟩:=hg6.isSlice
 iterate 1 (any_goals ((with_reducible refine oG fun V Z=>?_); simp [go_sem]; apply Z; clear Z V))
 refine arr_set (i:=0) (fun w=>by kernel_rfl) rfl rfl hh6 (by simp) (fun w7 hg7 hh7=>?_)
 have hf7:=Fr.of_by hg7
 have hs6:=hb6.size
 have hs7:=hg7.size
 refine k w7 (((Fr.of_below' hb5:Fr (fun j=>j = b ∨ B ≤ j) W w5).trans hf6 (fun i e=>.inl (.inr (hB6 i e)))).by hg7 (fun i e=>.inl (.inl (Option.some.inj e).symm))) ⟨⟨_,_,fun j=>D j ∨ (We.heap.size ≤ j ∧ j < W.heap.size),hh7,?_,hg6.keep hf7 ?_ ?_,?_,ho6.next hg7.size,?_,?_⟩,hbl⟩
 ·refine GRow.mono (D:=D) ?_ (fun i hi=>.inl hi)
  refine ((h2.next (hb.on hb5) hl4).keep hf6 (fun i hi=>⟨by have:=hl4 i hi; omega,(h5 i hi).2⟩) (fun i hi e=>h6 i hi e)).keep hf7 (fun i hi=>⟨by have:=hl4 i hi; omega,fun e=>by have:=h7 i hi; omega⟩) (fun i hi e=>by have:=(h2.own hi).2; omega)
 ·rintro j hj
  refine ⟨(ho6 j hj).1,fun e=>?_⟩
  rcases hj with hj | hj
  ·have:=h7 j hj; omega
  ·omega
 ·intro j hj e
  have:=(hg6.own hj).2
  omega
 ·rintro j (hj | hj)
  ·exact ⟨by have:=hl4 j hj; omega,(h4 j hj).2⟩
  ·exact ⟨by omega,fun e=>by have:=(h2.own e).1; omega⟩
 ·intro i e1 e2
  rcases hv6 i e2 with h | h
  ·exact h6 i e1 h
  ·have:=(h2.own e1).1; omega
 ·rintro j (hj | hj)
  ·exact h7 j hj
  ·omega
def RnI (ks:List Knw) (W:World) (vs:List Value) (w':World):Prop:=Bw W w' ∧ ∃ (u1 nv:Value) (k:Nat) (D:Nat → Prop),vs = [.int .i64 (cntH (ks.take k)),u1,nv,.int .i64 (k:Int)] ∧ k ≤ ks.length ∧ ListG W.heap.size D w' nv (List.replicate k [0]) ∧ Off D w' nv ∧ ∀ j,D j → W.heap.size ≤ j
def rnMu (n:Nat):List Value → World → Nat:=fun vs _=>match vs with | [_,_,_,.int _ i]=>n - i.toNat | _=>0
theorem rn_post {ks:List Knw} {k:Nat} {u1 u2 nv:Value} {D:Nat → Prop} {a:Int} {w0':World} (hb:Bw W w) (hk:k < ks.length) (hkl:ks.length < 1000000) (hn:ListG W.heap.size D w nv (List.replicate k [0])) (hD:Off D w nv) (hL:∀ j,D j → W.heap.size ≤ j) :
  post_13_84 (RnI ks W) [.int .i64 a,u1,nv,.int .i64 (k:Int)] (rnMu ks.length) w0' [.int .i64 (cntH (ks.take (k + 1))),u2] w:=by
 unfold post_13_84
 simp only [List.getD_cons_succ,List.getD_cons_zero]
 have hwi:IntKind.i64.wrap ((k:Int) + 1) = ((k + 1:Nat):Int):=by rw [wrapI64 _ (by omega) (by omega)]; rfl
 refine mk1g 0 I64_0 (fun v5 w5 h5 hi5 hb5=>?_)
 obtain ⟨ad5,c5,rfl⟩:=hi5.isSlice
 rw [show ([0]:List Int).length = 1 from rfl] at *
 refine lit_ints _ _ _ (fun g6 w6 h6 hg6 hh6=>?_)
 have hs:=hb.size
 have hs5:=h5.size
 have hs6:=h6.size
 refine ints_append (D:=fun j=>D j ∨ (w.heap.size ≤ j ∧ j < w5.heap.size)) ((hn.next (h5.on h6) (fun i hi=>(hD i hi).1)).mono (fun i hi=>.inl hi)) (by omega) hh6 ((hi5.fp.next h6 (fun i hi=>hi.2)).mono (fun i hi=>.inr ?_)) ?_ (by rw [List.length_replicate]; omega) (fun v7 w7 hg7 hb7 hv7 ho7=>?_)
 ·have h1:=hi.1
  rw [hb5] at h1
  have:=Option.some.inj h1
  exact ⟨by omega,hi.2⟩
 ·rintro j (hj | hj)
  ·exact ⟨by have:=(hD j hj).1; omega,(hD j hj).2⟩
  ·exact ⟨by omega,fun e=>by have:=(hn.own e).1; omega⟩
 repeat (any_goals ((with_reducible refine oG fun V Z=>?_); simp [go_sem]; (try simp (disch:=omega) only [wrapI64,wrapU8,wrapU32,wrapU64]); apply Z; clear Z V))
 refine ⟨⟨(hb.on (h5.on h6)).grown hb7 (hb.on (h5.on h6)).size (fun j hj=>(hn.own hj).2),_,_,k + 1,_,rfl,by omega,?_,ho7,?_⟩,by show ks.length - (((k + 1:Nat):Int)).toNat < ks.length - ((k:Nat):Int).toNat; omega⟩
 ·rw [List.replicate_succ']; exact hg7
 ·rintro j (hj | hj)
  ·exact hL j hj
  ·omega
end
end Go.Proofs
namespace Go.Proofs
open Go Go.Sh Go.RowKit FdSpec TkSpec CodeSpec PrSpec FdPoly
section
variable {K:VK} {w w' w0 W W' We W1 W2:World} {L:List (Addr × Value)} {g n B b i:Nat} {row:Option Nat}
set_option maxHeartbeats 2000000 in
theorem rn_dare {J58:List Value → World → Prop} {m59:List Value → World → Nat} {w0':World} {u0 u1 u2 u3 a0 a1 a3:Value} {dl:List (List Int)} {al:List (List (List Int))} {nad:Option Addr} {m nc:Nat}
  (hQ:OutQ B b 32 (fun d a=>prfC a d) W dl al) (hB:B ≤ W.heap.size) (hi:i < 100000) (hm:m ≤ 65536) (hdl:dl.length < 1099511627776)
  (k:∀ W' vs,Fr (fun j=>j = b ∨ B ≤ j) W W' → OutQ B b 32 (fun d a=>prfC a d) W' (dl ++ [List.replicate m 0]) al → (∃ a0 a1 a2 a3,vs = [a0,a1,a2,a3,.int .i64 ((i + 1:Nat):Int)]) → J58 vs W' ∧ m59 vs W' < m59 [u0,u1,u2,u3,.int .i64 (i:Int)] w0') :
  held_13_132 J58 [u0,u1,u2,u3,.int .i64 (i:Int)] [a0,a1,.slice nad m nc,a3] m59 (ptr b 0) w0' W:=by
 unfold held_13_132
 simp only [List.getD_cons_succ,List.getD_cons_zero]
 have hbl:=hQ.lt
 have hwi:IntKind.i64.wrap ((i:Int) + 1) = ((i + 1:Nat):Int):=by rw [wrapI64 _ (by omega) (by omega)]; rfl
 have hodr:Below W.heap.size W { W with drawn:=W.drawn + 1 }:=.drawn
 have hfd:Fr (fun j=>j = b ∨ B ≤ j) W { W with drawn:=W.drawn + 1 }:=Fr.of_below' hodr
 have hQ:=hQ.next hodr
 refine ⟨Nx { W with drawn:=W.drawn + 1 },Below.refl _ _,by trivial,?_⟩
 have hB:B ≤ ({ W with drawn:=W.drawn + 1 }:World).heap.size:=hB
 generalize ({ W with drawn:=W.drawn + 1 }:World) = W8 at *
 obtain ⟨dv,av,D,h1,h2,h3,h4,h5,h6,h7⟩:=hQ.ex
 obtain ⟨dad,dc,rfl⟩:=h2.isSlice
 obtain ⟨aad,ac,rfl⟩:=h3.isSlice
 have h1:Holds W8 b 32 [.slice aad al.length ac,.slice dad dl.length dc]:=h1
 have hl4:∀ i,D i → i < W8.heap.size:=fun i hi=>(h4 i hi).1
 repeat (any_goals (first
 | (with_reducible refine pX ?_)
 | ((with_reducible refine idOH ?_); (with_reducible refine oH_of ⟨_,rfl⟩ (fun W0 hW0=>by (refine oG (fun V Z=>?_)); simp [go_sem,(h1.next hW0).are]; (first | exact Z _ _ ⟨rfl,rfl⟩ | exact ⟨by omega,Z _ _ ⟨rfl,rfl⟩⟩)) ?_))))
 refine ⟨Nx,?_⟩
 refine monoR (fun v w'=>∃ g,v = .slice (some ⟨g,0,none⟩) m m ∧ FP (fun j=>W8.heap.size ≤ j ∧ j < w'.heap.size) w' (fun w=>Ints w (.slice (some ⟨g,0,none⟩) m m) (List.replicate m 0))) (fun v w w1 hS h=>h.imp fun g h=>⟨h.1,(h.2.next hS (fun i hi=>hi.2)).mono (fun i hi=>⟨hi.1,Nat.lt_of_lt_of_le hi.2 hS.size⟩)⟩) ?_ ?_
 ·intro w1 h1
  refine make_ints hm (fun g W hb hg hr=>⟨h1.on hb,hb,g,rfl,?_⟩)
  have ho:=hr.owns
  rw [List.length_replicate] at ho
  refine ((ho.ints (fun x hx=>?_) (by rw [List.length_replicate]; omega)).fp).mono (fun j hj=>⟨?_,hj.2⟩)
  ·rw [(List.mem_replicate.1 hx).2]; exact I64_0
  ·have:g = j:=Option.some.inj hj.1
   have:=h1.size
   omega
 refine monoR (fun v w'=>∃ h g,v = .slice (some ⟨h,0,none⟩) 1 1 ∧ Holds w' h 24 [.slice (some ⟨g,0,none⟩) m m] ∧ FP (fun j=>W8.heap.size ≤ j ∧ j < w'.heap.size) w' (fun w=>Ints w (.slice (some ⟨g,0,none⟩) m m) (List.replicate m 0))) (fun v w w1 hS h=>h.imp fun h x=>x.imp fun g h=>⟨h.1,h.2.1.next hS,(h.2.2.next hS (fun i hi=>hi.2)).mono (fun i hi=>⟨hi.1,Nat.lt_of_lt_of_le hi.2 hS.size⟩)⟩) ?_ ?_
 ·rintro w1 h1 v1 ⟨g,rfl,hf⟩
  exact lit_ints _ _ _ (fun h W hb hg hh=>⟨h1.on hb,hb,h,g,rfl,hh,(hf.next hb (fun i hi=>hi.2)).mono (fun i hi=>⟨hi.1,Nat.lt_of_lt_of_le hi.2 hb.size⟩)⟩)
 rintro w9 h9 v1 _ v2 ⟨h,g,rfl,hh,hf⟩
 have hs9:=h9.size
 refine ints_append (D:=fun j=>D j ∨ (W8.heap.size ≤ j ∧ j < w9.heap.size)) ((h2.next h9 hl4).mono (fun i hi=>.inl hi)) (by omega) hh (hf.mono fun i hi=>.inr hi) ?_ hdl (fun v6 w6 hg6 hb6 hv6 ho6=>?_)
 ·rintro j (hj | hj)
  ·exact ⟨by have:=hl4 j hj; omega,(h4 j hj).2⟩
  ·exact ⟨hj.2,fun e=>by have:=(h2.own e).1; omega⟩
 have hf6:Fr (fun j=>(Value.slice dad dl.length dc).ownBlock = some j) w9 w6:=Fr.of_by' hb6
 have hB6:∀ j,(Value.slice dad dl.length dc).ownBlock = some j → B ≤ j:=fun j hj=>(h2.own hj).2
 have hh6:Holds w6 b 32 [.slice aad al.length ac,.slice dad dl.length dc]:=(h1.next h9).fr hf6 (fun e=>by have:=hB6 b e; omega)
 obtain ⟨ad6,c6,rfl⟩:=hg6.isSlice
 iterate 1 (any_goals ((with_reducible refine oG fun V Z=>?_); simp [go_sem]; apply Z; clear Z V))
 refine arr_set (i:=1) (fun w=>by kernel_rfl) rfl rfl hh6 (by simp) (fun w7 hg7 hh7=>?_)
 have hf7:=Fr.of_by hg7
 have hs6:=hb6.size
 have hs7:=hg7.size
 repeat (any_goals ((with_reducible refine oG fun V Z=>?_); simp [go_sem]; (try simp (disch:=omega) only [wrapI64,wrapU8,wrapU32,wrapU64]); apply Z; clear Z V))
 refine k w7 _ (((hfd.trans (Fr.of_below' h9:Fr (fun j=>j = b ∨ B ≤ j) W8 w9) (fun i e=>.inl e)).trans hf6 (fun i e=>.inl (.inr (hB6 i e)))).by hg7 (fun i e=>.inl (.inl (Option.some.inj e).symm))) ⟨⟨_,_,fun j=>D j ∨ (W8.heap.size ≤ j ∧ j < w9.heap.size),hh7,hg6.keep hf7 ?_ ?_,?_,ho6.next hg7.size,?_,?_,?_⟩,hbl⟩ ⟨_,_,_,_,rfl⟩
 ·rintro j hj
  refine ⟨(ho6 j hj).1,fun e=>?_⟩
  rcases hj with hj | hj
  ·have:=h7 j hj; omega
  ·omega
 ·intro j hj e
  have:=(hg6.own hj).2
  omega
 ·refine GRow.mono (D:=D) ?_ (fun i hi=>.inl hi)
  refine ((h3.next h9 hl4).keep hf6 (fun i hi=>⟨by have:=hl4 i hi; omega,(h4 i hi).2⟩) (fun i hi e=>h6 i e hi)).keep hf7 (fun i hi=>⟨by have:=hl4 i hi; omega,fun e=>by have:=h7 i hi; omega⟩) (fun i hi e=>by have:=(h3.own hi).2; omega)
 ·rintro j (hj | hj)
  ·exact ⟨by have:=hl4 j hj; omega,(h5 j hj).2⟩
  ·exact ⟨by omega,fun e=>by have:=(h3.own e).1; omega⟩
 ·intro i e1 e2
  rcases hv6 i e1 with h | h
  ·exact h6 i h e2
  ·have:=(h3.own e2).1; omega
 ·rintro j (hj | hj)
  ·exact h7 j hj
  ·omega
set_option maxHeartbeats 4000000 in
theorem rn_step (s:Stp) {J58:List Value → World → Prop} {m59:List Value → World → Nat} {w0' w5:World} {ad gad kad:Option Addr} {c gc kc b1:Nat} {goal:List Cls} {know:List (List Knw)} {cl:Cls} {ks:List Knw} {u0 u1 u2 u3:Value} {l79:List Value} {dl:List (List Int)} {al:List (List (List Int))}
  (hs:SetR W s (.slice ad s.bases.length c)) (hk:Kn w (cellsOf [] b1 0 (stpC s (.slice ad s.bases.length c))) W) (hg:GoalR W (.slice gad goal.length gc) goal) (hkn:KnowR W (.slice kad know.length kc) know)
  (eg:goal[i]? = some cl) (ek:know[i]? = some ks) (ho:OneC s cl ks) (hi:i < 100000)
  (hQ:OutQ B b 32 (fun d a=>prfC a d) W dl al) (hB:B ≤ W.heap.size) (hdl:dl.length < 1099511627776) (hal:al.length < 1099511627776) (hJ:RnI ks W l79 w5)
  (k:∀ W' vs,Fr (fun j=>j = b ∨ B ≤ j) W W' → OutQ B b 32 (fun d a=>prfC a d) W' (dl ++ [List.replicate cl.claims.length 0]) (al ++ [List.replicate cl.claims.length [0]]) → (∃ a0 a1 a2 a3,vs = [a0,a1,a2,a3,.int .i64 ((i + 1:Nat):Int)]) → J58 vs W' ∧ m59 vs W' < m59 [u0,u1,u2,u3,.int .i64 (i:Int)] w0') :
  loop_13_77 J58 (RnI ks W) K [u0,u1,u2,u3,.int .i64 (i:Int)] l79 m59 (rnMu ks.length) (ptr b 0) (ptr b1 0) (.slice gad goal.length gc) (.slice kad know.length kc) w0' w5:=by
 obtain ⟨hb,u1',nv,q,D,rfl,hq,hn,hD,hL⟩:=hJ
 have hlk:=ho.len
 have htw:=ho.two
 obtain ⟨hil,egi⟩:=gS eg
 obtain ⟨hikl,eki⟩:=gS ek
 obtain ⟨bk,ok,rfl,hltk,csk,_,hcellk,vk,rfl,hrowk⟩:=hkn.at (i:=i) hikl
 rw [eki] at hrowk
 obtain ⟨kad2,kc2,rfl⟩:=hrowk.isSlice
 have ck:=hcellk 0 _ rfl
 simp only [Nat.add_zero,Nat.mul_one,Nat.zero_add] at ck
 have hiK:(i:Int) < know.length:=by omega
 have hiG:(i:Int) < goal.length:=by omega
 by_cases hin:q = ks.length
 ·subst hin
  rw [List.take_of_length_le (Nat.le_refl _),ho.cnt]
  unfold loop_13_77
  obtain ⟨nad,nc,hnv⟩:=hn.isSlice
  rw [List.length_replicate] at hnv
  subst hnv
  repeat (any_goals (first
  | (with_reducible refine yM ?_)
  | ((with_reducible refine oG fun V Z=>?_); simp [go_sem,(hb.cell hltk).trans ck,hiK]; apply Z; clear Z V)))
  refine OutQ.addN (T1:=0) hQ hb hB (y:=List.replicate ks.length [0]) ?_ hal (fun W7 hf7 hQ7=>?_)
  ·exact (hn.fp (by decide) (by rw [List.length_replicate]; omega)).mono (fun j hj=>hj.elim (fun h=>⟨hL j h,(hD j h).1⟩) (fun h=>⟨(hn.own h).2,(hn.own h).1⟩))
  have hs7:=hf7.size
  have hsb:=hb.size
  refine rn_dare hQ7 (by omega) hi (by omega) hdl (fun W8 vs hf8 hQ8 hvs=>?_)
  rw [hlk] at hQ8
  exact k W8 vs (((Fr.of_below' hb:Fr (fun j=>j = b ∨ B ≤ j) W w5).trans hf7 (fun i e=>.inl e)).trans hf8 (fun i e=>.inl e)) hQ8 hvs
 have hql:q < ks.length:=by omega
 have equ:ks[q]? = some ks[q]:=gE hql
 have ecm:cl.claims[q]? = some (cl.claims[q]'(by omega)):=gE (by omega)
 have hcnt:=cntH_take equ
 have hhold:=ho.holds q _ _ ecm equ
 have hc0:=cntH_nonneg (ks.take q)
 have hc1:=cntH_le (ks.take q)
 rw [List.length_take] at hc1
 obtain ⟨bu,ou,rfl,hltu,_,_,hcellu,vu,rfl,hvu⟩:=hrowk.at (i:=q) hql
 obtain ⟨bg,og,rfl,hbg,_,_,hgcell,gcv,rfl,_,hgc⟩:=hg.at (i:=i) hil
 rw [egi] at hgcell hgc
 have g1:=hgcell 1 _ rfl
 obtain ⟨cad,cc,rfl⟩:=id hgc.isSlice
 obtain ⟨bcl,ocl,rfl,hbcl,_,_,hccell,ccv,rfl,hclm⟩:=hgc.at (i:=q) (by omega)
 have p0:=hccell 0 _ rfl
 have p1:=hccell 1 _ rfl
 have q0:=hcellu 0 _ rfl
 have q1:=hcellu 1 _ rfl
 generalize ks[q] = u at *
 generalize cl.claims[q] = cm at *
 simp only [Nat.add_zero] at p0 q0
 have hclm':=hclm
 obtain ⟨ead,ec,rfl⟩:=hclm.eqs.isSlice
 have hvu':=hvu
 obtain ⟨uad,uc,rfl⟩:=hvu.isSlice
 have hqk:(q:Int) < ks.length:=by omega
 have hqc:(q:Int) < cl.claims.length:=by omega
 unfold loop_13_77
 repeat (any_goals (first
 | (with_reducible refine yL ?_)
 | ((with_reducible refine oG fun V Z=>?_); simp [go_sem,(hb.cell hltk).trans ck,hiK,hqk]; apply Z; clear Z V)))
 refine ⟨fun vs w6=>vs = [.int .i64 (cntH (ks.take (q + 1))),u1'] ∧ Bw w5 w6,?_,?_⟩
 rotate_left
 ·rintro _ _ w6 ⟨rfl,hb6⟩
  exact rn_post (hb.on hb6) hql (by omega) (hn.next hb6 (fun i hi=>(hD i hi).1)) (hD.next hb6.size) hL
 unfold held_13_86
 simp only [List.getD_cons_succ,List.getD_cons_zero]
 have hodr:Below w5.heap.size w5 { w5 with drawn:=w5.drawn + 1 }:=.drawn
 refine ⟨Nx { w5 with drawn:=w5.drawn + 1 },Below.refl _ _,by trivial,?_⟩
 have hbW:=hb.on hodr
 have hk8:=hk.next hbW
 generalize ({ w5 with drawn:=w5.drawn + 1 }:World) = W8 at *
 have hwa:IntKind.i64.wrap (cntH (ks.take q) + 1) = cntH (ks.take q) + 1:=wrapI64 _ (by omega) (by omega)
 cases hhas:u.has with
 | false=>
  rw [hhas] at q0 hcnt
  repeat (any_goals (first
  | (with_reducible first|refine pX ?_|((refine idGdH ?_); refine gdH_conv fun _=>?_)|refine zB ?_)
  | ((with_reducible refine idOH ?_); (with_reducible refine oH_of ⟨_,rfl⟩ (fun W0 hW0=>by (refine oG (fun V Z=>?_)); simp [go_sem,(hk8.next hW0).cells,((hbW.on hW0).cell hltk).trans ck,((hbW.on hW0).cell hltu).trans q0,((hbW.on hW0).cell hltu).trans q1,((hbW.on hW0).cell hbg).trans g1,((hbW.on hW0).cell hbcl).trans p0,((hbW.on hW0).cell hbcl).trans p1,hiK,hiG,hqk,hqc]; (first | exact Z _ _ ⟨rfl,rfl⟩ | exact ⟨by omega,Z _ _ ⟨rfl,rfl⟩⟩)) ?_))))
  refine ⟨Nx,fun w9 h9=>?_⟩
  repeat (any_goals (first
  | (with_reducible first|refine zB ?_|refine yC ?_|refine yM ?_)
  | ((with_reducible refine oG fun V Z=>?_); simp [go_sem,((hbW.on h9).cell hltk).trans ck,((hbW.on h9).cell hltu).trans q0,hiK,hqk]; apply Z; clear Z V)))
  exact ⟨by rw [hcnt]; simp,hodr.on h9⟩
 | true=>
  have hH:=hhold hhas
  rw [hhas] at q0 hcnt
  repeat (any_goals (first
  | (with_reducible first|refine pX ?_|((refine idGdH ?_); refine gdH_conv fun _=>?_)|refine zA ?_)
  | ((with_reducible refine idOH ?_); (with_reducible refine oH_of ⟨_,rfl⟩ (fun W0 hW0=>by (refine oG (fun V Z=>?_)); simp [go_sem,(hk8.next hW0).cells,((hbW.on hW0).cell hltk).trans ck,((hbW.on hW0).cell hltu).trans q0,((hbW.on hW0).cell hltu).trans q1,((hbW.on hW0).cell hbg).trans g1,((hbW.on hW0).cell hbcl).trans p0,((hbW.on hW0).cell hbcl).trans p1,hiK,hiG,hqk,hqc]; (first | exact Z _ _ ⟨rfl,rfl⟩ | exact ⟨by omega,Z _ _ ⟨rfl,rfl⟩⟩)) ?_))))
  refine ⟨Nx,fun w9 h9=>?_⟩
  repeat (any_goals (with_reducible refine zA ?_))
  refine Holds_ok s cm u.values (hs.next (hbW.on h9)) (hclm'.next (hbW.on h9)) (hvu'.next (hbW.on h9)) (fun w10 h10=>?_)
  rw [hH]
  repeat (any_goals (first
  | (with_reducible first|refine yB ?_|refine yL ?_)
  | ((with_reducible refine oG fun V Z=>?_); simp [go_sem]; (try simp (disch:=omega) only [wrapI64,wrapU8,wrapU32,wrapU64]); apply Z; clear Z V)))
  exact ⟨by rw [hcnt]; simp,hodr.on (h9.on h10)⟩
end
end Go.Proofs
namespace Go.Proofs
open Go Go.Sh Go.RowKit FdSpec TkSpec CodeSpec PrSpec FdPoly
section
variable {K:VK} {w w' w0 W W' We W1 W2:World} {L:List (Addr × Value)} {g n B b i:Nat} {row:Option Nat}
def RnJ (goal:List Cls) (B b:Nat) (W1:World) (vs:List Value) (W:World):Prop:=Bw W1 W ∧ B ≤ W.heap.size ∧ ∃ (u0 u1 u2 u3:Value) (i:Nat),vs = [u0,u1,u2,u3,.int .i64 (i:Int)] ∧ i ≤ goal.length ∧ OutQ B b 32 (fun d a=>prfC a d) W ((zDares goal).take i) ((zNums goal).take i)
def rnMuO (n:Nat):List Value → World → Nat:=fun vs _=>match vs with | [_,_,_,_,.int _ i]=>n - i.toNat | _=>0
set_option maxHeartbeats 4000000 in
theorem rn_loop (s:Stp) {ad gad kad:Option Addr} {c gc kc b1:Nat} {goal:List Cls} {know:List (List Knw)} {ctx:Bytes} {l60:List Value}
  (hs:SetR W1 s (.slice ad s.bases.length c)) (hk:Kn w (cellsOf [] b1 0 (stpC s (.slice ad s.bases.length c))) W1) (hg:GoalR W1 (.slice gad goal.length gc) goal) (hkn:KnowR W1 (.slice kad know.length kc) know)
  (hv:validS s = true) (hlk:know.length = goal.length) (h1:1 ≤ goal.length) (h2:goal.length ≤ 300) (hone:∀ (i:Nat) (c:Cls) (ks:List Knw),goal[i]? = some c → know[i]? = some ks → OneC s c ks)
  (hl:Cd.Laid W1) (hN:(goalL goal).length ≤ 1000000) (hctx:ctx.length ≤ 1000000) (hb1:W1.heap.size ≤ b) (hbB:b < B)
  (hJ:RnJ goal B b W1 l60 W) (k:∀ w',Bw w w' → K (.bool true) w') :
  loop_13_58 (RnJ goal B b W1) K (.string ⟨ctx.toArray⟩) l60 (rnMuO goal.length) (ptr b 0) (.bool true) (ptr b1 0) (.slice gad goal.length gc) (.slice kad know.length kc) W:=by
 obtain ⟨hb,hBW,u0,u1,u2,u3,i,rfl,hi,hQ⟩:=hJ
 have hkW:=hk.next hb
 have hzl:=zNums_len goal
 have hzd:=zDares_len goal
 unfold loop_13_58
 by_cases hin:i = goal.length
 ·subst hin
  rw [List.take_of_length_le (by omega),List.take_of_length_le (by omega)] at hQ
  have hp:=one_prove ctx hv hlk h1 h2 hone
  have hvf:=complete hp
  obtain ⟨dv,av,D,h1,h2,h3,h4,h5,h6,h7⟩:=hQ.ex
  have h2':=h2.srow (by decide) (by omega)
  have h3':=h3.srow (by decide) (by omega)
  obtain ⟨xad,xc,rfl⟩:=h2.isSlice
  obtain ⟨yad,yc,rfl⟩:=h3.isSlice
  repeat (any_goals (first
  | (with_reducible refine yM ?_)
  | ((with_reducible refine oG fun V Z=>?_); simp [go_sem,hkW.cells]; apply Z; clear Z V)))
  refine ld_nse h1 ?_
  refine Prove_ok s goal ctx know (zNums goal) (zDares goal) (hs.next hb) (hg.next (atOf_stay cls_vstay) hb) (hkn.next (atOf_stay knws_vstay) hb) h3' h2' (hl.below hb hl.size) hN hctx (fun w3 pv av h3 hpv hav=>?_)
  have hk:=hkW.next h3
  obtain ⟨pad,pc,rfl⟩:=id hpv.isSlice
  obtain ⟨aad,ac,rfl⟩:=id hav.isSlice
  iterate 2 (any_goals ((with_reducible refine oG fun V Z=>?_); simp [go_sem]; apply Z; clear Z V))
  refine local_prf _ _ _ _ _ _ hk (fun b4 w4 hk h4 hg4=>?_)
  have hpv:=hpv.next (atOf_stay ints_stay) h4
  have hav:=hav.next (atOf_stay lists_vstay) h4
  have hb34:=hb.on (h3.on h4)
  rw [hp]
  repeat (any_goals (first
  | (with_reducible first|refine pureM_in ?_|refine zA ?_|refine yB ?_)
  | ((with_reducible refine oG fun V Z=>?_); simp [go_sem,hk.cells]; apply Z; clear Z V)))
  refine Verify_ok s goal ctx _ _ (hs.next hb34) (hg.next (atOf_stay cls_vstay) hb34) hpv hav (hl.below hb34 hl.size) hN hctx (fun w5 h5=>?_)
  rw [hvf]
  repeat (any_goals (with_reducible refine yB ?_))
  exact k _ (hk.next h5).below
 have eg:goal[i]? = some goal[i]:=gE (by omega)
 have ek:know[i]? = some know[i]:=gE (by omega)
 have ho:=hone i _ _ eg ek
 have hlc:=ho.len
 have hZ:=zNums_at eg
 have hZd:=zDares_at eg
 have hgW:=hg.next (atOf_stay cls_vstay) hb
 have hknW:=hkn.next (atOf_stay knws_vstay) hb
 have hgW':=hgW
 have hknW':=hknW
 obtain ⟨bk,ok,rfl,hltk,csk,_,hcellk,vk,rfl,hrowk⟩:=hknW.at (i:=i) (by omega)
 obtain ⟨bg,og,rfl,hbg,_,_,hgcell,gcv,rfl,_,hgc⟩:=hgW.at (i:=i) (by omega)
 have ck:=hcellk 0 _ rfl
 simp only [Nat.add_zero,Nat.mul_one,Nat.zero_add] at ck
 have g1:=hgcell 1 _ rfl
 generalize hcl:goal[i] = cl at *
 generalize hks:know[i] = ks at *
 obtain ⟨kad2,kc2,rfl⟩:=hrowk.isSlice
 obtain ⟨cad,cc,rfl⟩:=id hgc.isSlice
 have hiK:(i:Int) < know.length:=by omega
 have hiG:(i:Int) < goal.length:=by omega
 repeat (any_goals (first
 | (with_reducible refine yL ?_)
 | ((with_reducible refine oG fun V Z=>?_); simp [go_sem,hiG]; apply Z; clear Z V)))
 unfold held_13_63
 simp only [List.getD_cons_succ,List.getD_cons_zero]
 have hodr:Below W.heap.size W { W with drawn:=W.drawn + 1 }:=.drawn
 refine ⟨Nx { W with drawn:=W.drawn + 1 },Below.refl _ _,by trivial,?_⟩
 have hk8:=hkW.next hodr
 have hb8:=hb.on hodr
 have hBW8:B ≤ ({ W with drawn:=W.drawn + 1 }:World).heap.size:=hBW
 generalize ({ W with drawn:=W.drawn + 1 }:World) = W8 at *
 repeat (any_goals (first
 | (with_reducible refine pX ?_)
 | ((with_reducible refine idOH ?_); (with_reducible refine oH_of ⟨_,rfl⟩ (fun W0 hW0=>by (refine oG (fun V Z=>?_)); simp [go_sem,(hk8.next hW0).cells,((hodr.on hW0).cell hltk).trans ck,((hodr.on hW0).cell hbg).trans g1,hiK,hiG]; (first | exact Z _ _ ⟨rfl,rfl⟩ | exact ⟨by omega,Z _ _ ⟨rfl,rfl⟩⟩)) ?_))))
 refine ⟨Nx,fun w9 h9=>?_⟩
 have hs9:=h9.size
 have h09:=hodr.on h9
 repeat (any_goals (with_reducible refine yR ?_))
 refine ⟨RnI ks w9,rnMu ks.length,⟨Below.refl _ _,_,_,0,fun _=>False,rfl,by omega,.nil,(fun i h=>h.elim),fun i h=>h.elim⟩,?_⟩
 intro l79 u79 w5 hJ5
 refine rn_step s (hs.next (hb.on h09)) (hkW.next h09) (hgW'.next (atOf_stay cls_vstay) h09) (hknW'.next (atOf_stay knws_vstay) h09) eg ek ho (by omega) (hQ.next h09) (by omega) (by rw [List.length_take]; omega) (by rw [List.length_take]; omega) hJ5 (fun W7 vs hf7 hQ7 hvs=>?_)
 obtain ⟨a0,a1,a2,a3,rfl⟩:=hvs
 rw [take_snoc2 hZd,take_snoc2 hZ] at hQ7
 exact ⟨⟨below_fr (hb.on h09) hf7 (by rintro j (rfl | h) <;> omega),by have:=hf7.size; omega,_,_,_,_,i + 1,rfl,by omega,hQ7⟩,by show goal.length - (((i + 1:Nat):Int)).toNat < goal.length - ((i:Nat):Int).toNat; omega⟩
end
end Go.Proofs
namespace Go.Proofs
open Go Go.Sh Go.RowKit FdSpec TkSpec CodeSpec PrSpec FdPoly
section
variable {K:VK} {w w' w0 W W' We W1 W2:World} {L:List (Addr × Value)} {g n B b i:Nat} {row:Option Nat}
theorem restL_I64 (q:Int):∀ (l:List Int) (k:Nat) (o:Int),I64 o → I64 (restL q k o l)
 | [],k,o,h=>h
 | x :: l,k,o,h=>restL_I64 q l _ _ (subM_I64 _ _ _)
theorem restM_I64 (s:Stp) (r:Int) (l:List Int):I64 (restM s r l):=by
 unfold restM
 split
 ·exact restL_I64 _ _ _ _ (addM_I64 _ _ _)
 ·exact I64_0
set_option maxHeartbeats 4000000 in
theorem ranges_ok (s:Stp) (v r:Int) (bl:List Int) (ctx:Bytes) {sv lv:Value} (hs:SetR w s sv) (hv:I64 v) (hr:I64 r) (hl:Ints w lv bl) (hE:Cd.LaidE w) (hc:ctx.length < 1000000000000000) (k:∀ w',Bw w w' → K (.bool true) w') :
  callM Tryz.prog 13 #[stpV s sv,.int .i64 v,.int .i64 r,lv,.string ⟨ctx.toArray⟩] K w:=by
 apply sh_13_ok
 unfold sh_13
 have hs':=hs
 obtain ⟨ad,ca,rfl⟩:=hs.ints.isSlice
 have hl':=hl
 obtain ⟨lad,lc,rfl⟩:=hl.isSlice
 refine box_kn (cs:=stpC s (.slice ad s.bases.length ca)) rfl (.start w) fun b1 W hk hb1 hbb=>?_
 clear hb1 hbb
 refine less_ok (hs'.db.next hk.below) (hE.below hk.below hE.size) (fun w1 h1=>?_)
 have hk:=hk.next h1
 repeat (any_goals ((with_reducible refine oG fun V Z=>?_); simp [go_sem,hk.cells]; apply Z; clear Z V))
 refine FewSetup_ok s (hs'.next hk.below) (fun w2 h2=>?_)
 have hk:=hk.next h2
 by_cases hb9:¬ (s.bases.length:Int) ≤ 9
 ·rw [decide_eq_false hb9]
  repeat (any_goals (first
  | (with_reducible first|refine zD ?_|refine yB ?_|refine yL ?_)
  | ((with_reducible refine oG fun V Z=>?_); simp [go_sem,hk.cells]; apply Z; clear Z V)))
  exact k _ hk.below
 have hb9:(s.bases.length:Int) ≤ 9:=by omega
 rw [decide_eq_true hb9]
 by_cases h12:(12:Int) < bl.length
 ·repeat (any_goals (first
  | (with_reducible first|refine pureM_in ?_|((refine idGd ?_); first|refine zC ?_|refine zD ?_)|((refine idPick ?_); first|refine yB ?_|refine yC ?_)|refine yL ?_)
  | ((with_reducible refine oG fun V Z=>?_); simp [go_sem,hk.cells,h12]; apply Z; clear Z V)))
  exact k _ hk.below
 by_cases h100:(100:Int) < ctx.length
 ·repeat (any_goals (first
  | (with_reducible first|refine pureM_in ?_|((refine idGd ?_); first|refine zC ?_|refine zD ?_)|((refine idPick ?_); first|refine yB ?_|refine yC ?_)|refine yL ?_)
  | ((with_reducible refine oG fun V Z=>?_); simp [go_sem,hk.cells,h12,h100]; apply Z; clear Z V)))
  exact k _ hk.below
 repeat (any_goals (first
 | (with_reducible first|refine pureM_in ?_|refine zC ?_|refine yC ?_)
 | ((with_reducible refine oG fun V Z=>?_); simp [go_sem,hk.cells,h12,h100]; apply Z; clear Z V)))
 refine Exponent_ok s r (hs'.next hk.below) (fun w3 h3=>?_)
 have hk:=hk.next h3
 cases hex:exponentM s r with
 | false=>
  repeat (any_goals (first
  | (with_reducible first|refine zC ?_|refine yC ?_|refine yL ?_)
  | ((with_reducible refine oG fun V Z=>?_); simp [go_sem]; apply Z; clear Z V)))
  exact k _ hk.below
 | true=>
 repeat (any_goals (first
 | (with_reducible first|refine zC ?_|refine yC ?_|refine yM ?_)
 | ((with_reducible refine oG fun V Z=>?_); simp [go_sem,hk.cells]; apply Z; clear Z V)))
 refine Split_ok s v bl (hs'.next hk.below) hv (hl'.next hk.below) (fun w4 bv kv D h4 hbv hkv hD hne=>?_)
 have hk4:=hk.next h4
 cases hsp:splitFine s v bl with
 | false=>
  have e:splitM s v bl = (([],[]),false):=by unfold splitM; rw [hsp]; rfl
  rw [e] at hbv hkv ⊢
  obtain ⟨bad,bc,rfl⟩:=id hbv.isSlice
  repeat (any_goals (first
  | (with_reducible first|refine pureM_in ?_|refine zA ?_|refine yB ?_|refine yL ?_)
  | ((with_reducible refine oG fun V Z=>?_); simp [go_sem]; apply Z; clear Z V)))
  exact k _ hk4.below
 | true=>
 have e:splitM s v bl = (splitL s v 0 bl,true):=by unfold splitM; rw [if_pos hsp]
 rw [e] at hbv hkv ⊢
 have hrr:0 ≤ r ∧ r < s.g.Q:=by
  unfold exponentM at hex
  simpa using hex
 obtain ⟨hw2,hce,hone⟩:=ranges_one hsp hrr
 obtain ⟨hln1,hln2⟩:=split_lens s v bl 0
 have hvs:validS s = true:=by
  unfold splitFine at hsp
  simp only [Bool.and_eq_true] at hsp
  exact hsp.1.1.1.1.1
 have hgl:=range_len hw2 hce
 have hgN:=range_goal hw2 hce (by omega)
 have hbv:Ints w4 bv (splitL s v 0 bl).1:=hbv
 have hkv:KnwG w3.heap.size D w4 kv (splitL s v 0 bl).2:=hkv
 have hrI:=restM_I64 s r bl
 generalize (splitL s v 0 bl).1 = bits at *
 generalize (splitL s v 0 bl).2 = kn at *
 obtain ⟨bad,bc,hbe⟩:=id hbv.isSlice
 subst hbe
 obtain ⟨kad,kc,hke⟩:=hkv.isSlice
 subst hke
 have hcI:=commitM_I64 s v r
 generalize hcm:commitM s v r = cm at *
 repeat (any_goals (first
 | (with_reducible refine yM ?_)
 | ((with_reducible refine oG fun V Z=>?_); simp [go_sem]; apply Z; clear Z V)))
 unfold held_13_29
 have hodr:Below w4.heap.size w4 { w4 with drawn:=w4.drawn + 1 }:=.drawn
 refine ⟨Nx { w4 with drawn:=w4.drawn + 1 },Below.refl _ _,by trivial,?_⟩
 have hk5:=hk4.next hodr
 have hkv:=hkv.next hodr (fun i hi=>(hD i hi).1)
 have hD:=hD.next hodr.size
 have hbv:=hbv.next hodr
 have h45:=h4.on hodr
 generalize ({ w4 with drawn:=w4.drawn + 1 }:World) = W5 at *
 repeat (any_goals (first
 | (with_reducible refine pX ?_)
 | ((with_reducible refine idOH ?_); (with_reducible refine oH_of ⟨_,rfl⟩ (fun W0 hW0=>by (refine oG (fun V Z=>?_)); simp [go_sem,(hk5.next hW0).cells]; (first | exact Z _ _ ⟨rfl,rfl⟩ | exact ⟨by omega,Z _ _ ⟨rfl,rfl⟩⟩)) ?_))))
 refine ⟨Nx,?_⟩
 apply monoE
 ·(intro w9 h9; repeat (intro v9 e9; try (obtain rfl:=e9)))
  skip
  refine Commit_ok s v r (hs'.next (hk5.next h9).below) hv hr (fun w2 h2=>?_)
  rw [hcm]
  exact ⟨h9.on h2,h2,rfl⟩
 (intro w9 h9; repeat (intro v9 e9; try (obtain rfl:=e9)))
 skip
 refine RangeL_ok s cm bits (hs'.next (hk5.next h9).below) hcI (hbv.next h9) (fun w6 gv E h6 hgF hEl=>?_)
 have h56:=h9.on h6
 have hk6:=hk5.next h56
 obtain ⟨gad,gc,rfl⟩:=id hgF.here.isSlice
 repeat (any_goals ((with_reducible refine oG fun V Z=>?_); simp [go_sem,hk6.cells]; apply Z; clear Z V))
 refine Rest_ok s r bl (hs'.next hk6.below) (hl'.next hk6.below) (fun w7 h7=>?_)
 refine mk1g _ hrI (fun v8 w8 h8 hi8 hb8=>?_)
 obtain ⟨ad8,c8,rfl⟩:=hi8.isSlice
 rw [show ([restM s r bl]:List Int).length = 1 from rfl] at *
 rw [build_knw]
 refine lit_knw1 _ _ _ (fun g9 w9 h9' hg9 hh9=>?_)
 refine lit_knws _ _ _ (fun g10 w10 h10 hg10 hh10=>?_)
 have h610:=((h7.on h8).on h9').on h10
 have h510:=h56.on h610
 have hs7:=h7.size
 have hs8:=h8.size
 have hs9:=h9'.size
 have hs10:=h10.size
 have hs56:=h56.size
 have hfk:FP (fun j=>w6.heap.size ≤ j ∧ j < w9.heap.size) w9 (fun w=>KnwsR w (.slice (some ⟨g9,0,none⟩) 1 1) [⟨true,[restM s r bl]⟩]):=by
  have a1:FP (fun j=>w6.heap.size ≤ j ∧ j < w9.heap.size) w9 (fun w=>Ints w (.slice ad8 1 c8) [restM s r bl]):=((hi8.fp.next h9' (fun i hi=>hi.2)).mono (fun i hi=>by
   have h1:=hi.1
   rw [hb8] at h1
   have:=Option.some.inj h1
   exact ⟨by omega,by have:=hi.2; omega⟩))
  have a2:FP (fun j=>w6.heap.size ≤ j ∧ j < w9.heap.size) w9 (fun w=>Holds w g9 113 [.bool true,.slice ad8 1 c8]):=hh9.fp.mono (fun i hi=>by subst hi; exact ⟨by omega,hh9.lt⟩)
  refine (a2.both a1).imp ?_
  rintro w2 ⟨e1,e2⟩
  exact srow_lit1 e1 rfl ⟨_,rfl,e2⟩
 have hown:=fun j hj=>hkv.own (i:=j) hj
 refine knws_append (hkv.next h510 (fun i hi=>(hD i hi).1)) (by have:=h45.size; omega) hh10 (hfk.next h10 (fun i hi=>hi.2)) (hD.next h510.size) ?_ (by omega) (fun v11 w11 hg11 hb11 hv11 hD11=>?_)
 ·intro j hj
  exact ⟨by have:=hj.2; omega,fun e=>by have:=(hown j e).1; have:=hj.1; omega⟩
 have hs11:=hb11.size
 have hgF11:=((hgF.next h610 (fun i hi=>(hEl i hi).2)).by hb11 (fun i hi=>⟨by have:=(hEl i hi).2; omega,fun e=>by have:=(hown i e).1; have:=(hEl i hi).1; have:=h9.size; omega⟩)).here
 have hkn11:=hg11.srow (by decide) (by rw [List.length_append,List.length_singleton]; omega)
 have hk11:Kn w (cellsOf [] b1 0 (stpC s (.slice ad s.bases.length ca))) w11:=hk.next ((h45.on h510).grown hb11 (h45.on h510).size (fun j hj=>(hown j hj).2))
 have hlk:(kn ++ [([⟨true,[restM s r bl]⟩]:List Knw)]).length = (PrSpec.rangeM s cm bits).length:=by rw [List.length_append,List.length_singleton,hgl]; omega
 obtain ⟨kad2,kc2,rfl⟩:=hg11.isSlice
 rw [hlk] at hkn11 ⊢
 generalize hgo:PrSpec.rangeM s cm bits = goal at *
 generalize hkk:kn ++ [([⟨true,[restM s r bl]⟩]:List Knw)] = know at *
 have hgI:(goal.length:Int) = (bl.length:Int) + 1:=by omega
 have hwa:IntKind.i64.wrap ((bl.length:Int) + 1) = (bl.length:Int) + 1:=wrapI64 _ (by omega) (by omega)
 repeat (any_goals (first
 | (with_reducible first|refine pureM_in ?_|refine zC ?_|refine yC ?_|refine yM ?_)
 | ((with_reducible refine oG fun V Z=>?_); simp [go_sem,hgI]; (try simp (disch:=omega) only [wrapI64,wrapU8,wrapU32,wrapU64]); apply Z; clear Z V)))
 have h1113:Below w11.heap.size w11 (w11.alloc (.cells #[.slice none 0 0,.slice none 0 0] 32)):=(Below.refl _ w11).alloc (Nat.le_refl _) _
 have hh13:Holds (w11.alloc (.cells #[.slice none 0 0,.slice none 0 0] 32)) w11.heap.size 32 [.slice none 0 0,.slice none 0 0]:=heap_alloc_new w11 _
 generalize (w11.alloc (.cells #[.slice none 0 0,.slice none 0 0] 32)) = w13 at *
 have hkn12:KnowR w11 (.slice kad2 know.length kc2) know:=by rw [hlk]; exact hkn11
 refine ⟨RnJ goal w13.heap.size w11.heap.size w11,rnMuO goal.length,⟨h1113,Nat.le_refl _,_,_,_,_,0,rfl,by omega,OutQ.start hh13.lt (f:=fun d a=>prfC a d) hh13⟩,?_⟩
 intro l60 u60 w14 hJ
 have:=rn_loop s (ctx:=ctx) (hs'.next hk11.below) hk11 hgF11 hkn12 hvs hlk (by omega) (by omega) hone (hE.below hk11.below hE.size).toLaid hgN (by omega) (Nat.le_refl _) hh13.lt hJ k
 rw [hlk] at this
 exact this
end
end Go.Proofs
