/- Parts of the proof of the seat's statements (LawKit, OpenKit, OpenKit2, PK, PK2, HPw, UrA, UrB, UrC, PuLaw11, PuLaw12, PuLaw13, PuOpen, UrD, UrE, ShMap7, UrX, HPs, UrG, PuLend, UrH, HPt, HPo, HRo, PuRem, UrY, UrZ, HRx, UsA, UsB, ShelfS, UsC, UsD, UsE, UsF, UsG, PK4): lemmas about the given translation and plain laws. No condition of their own. -/
import Derived.Test.YtnbokkoppdnllaaGreatDoorQre
import Derived.ProofKit
import Derived.LaidMore
import Derived.OpenShut
import Derived.Carry
import Derived.SizedLaws
import Derived.Stop.Joined
import Derived.Deep.Slices
import Derived.Deep.Fields
import Derived.LaidSub
import Derived.Test.YtnbokkoppdnllaaGreatDoorRows
import Derived.Test.YtnbokkoppdnllaaGreatDoorCards
import Derived.Test.YtnbokkoppdnllaaGreatDoorTie
import Derived.SevenTiedAt
import Derived.Test.YtnbokkoppdnllaaGreatDoorProg
import Derived.Sort.Grow
import Derived.Shelf.SlSortCmp.SmallK
import Derived.Shelf.SlSortCmp.NoneTotal
set_option linter.all false
set_option maxRecDepth 100000
namespace Go.Sh
open Go Go.ChangeShapes Go.WideShapes Go.ChangeAt Go.RowKit
section
variable {H:Type} {enc:TypeId × Value → H} {P:Program}
theorem b1d (hl:laidOutB P = true) {W W':World} (hb:Below W.heap.size W W') :
  ∀ (ts:List TypeId) (vs:List Value) (ds:List (DataW H)) (ps:List MemPlace),(ts.all fun t=>P.readableRec t && decide (t < P.types.size)) = true →
  DataW.TrodAll enc P W 0 (fun _=>true) true ts vs ds ps → (∀ x ∈ ps,x.block < W.heap.size) → DataW.TrodAll enc P W' 0 (fun b=>decide (b < W.heap.size)) true ts vs ds ps
 | [],[],[],_,_,h,_=>h
 | t :: ts,v :: vs,d :: ds,ps,ht,h,hlt=>by
  obtain ⟨p,q,h1,h2,rfl⟩:=h
  simp only [List.all_cons,bA,dE] at ht
  exact ⟨p,q,Below.trod hl ht.1.1 ht.1.2 h1 hb (fun x hx=>hlt x (by simp [hx])),b1d hl hb ts vs ds q ht.2 h2 (fun x hx=>hlt x (by simp [hx])),rfl⟩
 | [],_ :: _,_,_,_,h,_=>h.elim
 | [],[],_ :: _,_,_,h,_=>h.elim
 | _ :: _,[],_,_,_,h,_=>h.elim
 | _ :: _,_ :: _,[],_,_,h,_=>h.elim
theorem b0a {W:World} {b:Nat} {sp:Nat → Bool} {hd:Bool}:∀ (ts:List TypeId) (vs:List Value) (ds:List (DataW H)) (ps:List MemPlace),DataW.TrodAll enc P W b sp hd ts vs ds ps → ds.length = ts.length ∧ vs.length = ts.length
 | [],[],[],_,_=>⟨rfl,rfl⟩
 | t :: ts,v :: vs,d :: ds,ps,h=>by
  obtain ⟨p,q,h1,h2,rfl⟩:=h
  have:=b0a ts vs ds q h2
  simp [this]
 | [],_ :: _,_,_,h=>h.elim
 | [],[],_ :: _,_,h=>h.elim
 | _ :: _,[],_,_,h=>h.elim
 | _ :: _,_ :: _,[],_,h=>h.elim
theorem b2n {W:World} {b:Nat} {sp:Nat → Bool} {hd:Bool} {t:TypeId} {ts:List TypeId} {vs:List Value} {ds:List (DataW H)} {ps:List MemPlace} (h:DataW.TrodAll enc P W b sp hd (t :: ts) vs ds ps) :
  ∃ v d vs' ds' p q,vs = v :: vs' ∧ ds = d :: ds' ∧ DataW.Trod enc P W b sp hd t v d p ∧ DataW.TrodAll enc P W b sp hd ts vs' ds' q ∧ ps = p ++ q:=by
 match vs,ds,h with
 | v :: vs,d :: ds,h=>
  obtain ⟨p,q,h1,h2,rfl⟩:=h
  exact ⟨v,d,vs,ds,p,q,rfl,rfl,h1,h2,rfl⟩
 | [],_,h=>exact h.elim
 | _ :: _,[],h=>exact h.elim
theorem f9e {W:World} {b:Nat} {sp:Nat → Bool} {hd:Bool} {vs:List Value} {ds:List (DataW H)} {ps:List MemPlace} (h:DataW.TrodAll enc P W b sp hd [] vs ds ps):vs = [] ∧ ds = [] ∧ ps = []:=by
 match vs,ds,h with
 | [],[],h=>exact ⟨rfl,rfl,h⟩
theorem c7h {fn:Func} {s:ChangeSpec} {tb:TypeId} {apart:Bool} {W W':World} {args:Array Value} {ds gs:List (DataW H)} {before:List MemPlace} (hl:laidOutB P = true)
  (hrt:fn.resultTypes = #[tb]) (hub:P.underlying tb = some .bool) (hpar:(fn.params.toList.all fun t=>P.readableRec t && decide (t < P.types.size)) = true) (hvars:s.vars = [])
  (hspec:∀ ds:List (DataW H),ds.length = fn.params.toList.length → s.fn H ds = { results:=[.lit (.bool true)],args:=ds })
  (hW:DataW.Whole enc P fn.params.toList s.vars apart W args.toList ds gs before) (hb:Below W.heap.size W W'):s.post enc P fn apart true false false W args (.bool true) W':=by
 have hW0:=hW
 have hlt:=hW.lt
 obtain ⟨p,q,hA,hV,rfl,_,_⟩:=hW
 rw [hvars] at hV
 obtain ⟨rfl,rfl⟩:=trodVars_none hV
 have hlen:=(b0a _ _ _ _ hA).1
 have hs:=hspec ds hlen
 rw [List.append_nil] at hlt hW0
 refine ⟨ds,[],p,[],p,[],hW0,?_,?_,?_,hb.frame _,fun h=>by cases h⟩
 ·rw [List.append_nil,hs,hrt]
  exact trodAll_mk1 (shut_bool hub true)
 ·rw [List.append_nil,hs]
  exact b1d hl hb _ _ _ _ hpar hA hlt
 ·rw [hvars,List.append_nil,hs]
  rfl
theorem law_lifted {C:Checked} {os:Os} {f:FuncId} {fn:Func} {s:ChangeSpec} {tb:TypeId} (own:ownKnob C.prog.godebug = none) (started:os.Started) (noInit:C.prog.inits.idxOf? f = none) (hfn:C.prog.funcs[f]? = some fn)
  (hl:laidOutB C.prog = true) (hrt:fn.resultTypes = #[tb]) (hub:C.prog.underlying tb = some .bool) (hpar:(fn.params.toList.all fun t=>C.prog.readableRec t && decide (t < C.prog.types.size)) = true) (hvars:s.vars = [])
  (hspec:∀ ds:List (DataW H),ds.length = fn.params.toList.length → s.fn H ds = { results:=[.lit (.bool true)],args:=ds })
  (witness:∃ (w:World) (tape:Tape) (i:Input),w.os = os ∧ (w.forCall tape i).Shaped C.prog ∧ i.vars = [] ∧ Input.okWide C.prog (w.forCall tape i) .any w.heap.size f i ∧
   s.pre6 enc C.prog fn [] false (w.forCall tape i).memory i.args ∧ ({}:Assume).holds C.prog (lone (Frame.enter C.prog f i.args .normal) [] (w.forCall tape i)))
  (contract:∀ (W:World) (base:Nat) (args:List Value) (ds:List (DataW H)) (p:List MemPlace),(∀ (j:Nat) t v,fn.params.toList[j]? = some t → args[j]? = some v → Value.okWide C.prog W .any base t v) →
   DataW.TrodAll enc C.prog W 0 (fun _=>true) true fn.params.toList args ds p → (DataW.weightsEach C.prog fn.params.toList ds).all (· ≤ reachBytes) = true → (∀ x ∈ p,x.block < W.heap.size) →
   a0a C.prog f args.toArray (fun v W'=>v = .bool true ∧ Below W.heap.size W W') W) :
  ReturnsInHanded {} C os f .any (s.pre6 enc C.prog fn [] false) (s.post enc C.prog fn false true false false):=by
 refine returnsInHanded_of_change_sized own started noInit hfn witness ?_
 intro W base args ds gs before hval hW _ hsz _
 have hW0:=hW
 have hlt:=hW.lt
 obtain ⟨p,q,hA,hV,rfl,_,_⟩:=hW
 rw [hvars] at hV
 obtain ⟨rfl,rfl⟩:=trodVars_none hV
 have hsz':(DataW.weightsEach C.prog fn.params.toList ds).all (· ≤ reachBytes) = true:=by
  simpa [hvars,ChangeSpec.plain,DataSpec.varTypes] using hsz
 have hc:=contract W base args.toList ds p (fun j t v h1 h2=>hval j t v (by simpa using h1) (by simpa using h2)) hA hsz' (fun x hx=>hlt x (by simp [hx]))
 refine hc.mono fun e W' h=>?_
 obtain ⟨v,rfl,rfl,hb⟩:=h
 exact ⟨_,rfl,c7h hl hrt hub hpar hvars hspec hW0 hb⟩
theorem b4q {C:Checked} {os:Os} {f:FuncId} {fn:Func} {s:ChangeSpec} {tb:TypeId} {L:List (String × DataW Unit)} (own:ownKnob C.prog.godebug = none) (started:os.Started) (noInit:C.prog.inits.idxOf? f = none) (hfn:C.prog.funcs[f]? = some fn)
  (hl:laidOutB C.prog = true) (hrt:fn.resultTypes = #[tb]) (hub:C.prog.underlying tb = some .bool) (hpar:(fn.params.toList.all fun t=>C.prog.readableRec t && decide (t < C.prog.types.size)) = true) (hvars:s.vars = [])
  (hspec:∀ ds:List (DataW H),ds.length = fn.params.toList.length → s.fn H ds = { results:=[.lit (.bool true)],args:=ds })
  (witness:∃ (w:World) (tape:Tape) (i:Input),w.os = os ∧ (w.forCall tape i).Shaped C.prog ∧ i.vars = [] ∧ Input.okWide C.prog (w.forCall tape i) .any w.heap.size f i ∧
   ((s.pre enc C.prog fn [] false (w.forCall tape i).memory i.args ∧ laidMetH C.prog L (w.forCall tape i).memory) ∧ sizedMet enc C.prog fn (OpenSpec.ofChange s) false (w.forCall tape i).memory i.args) ∧ ({}:Assume).holds C.prog (lone (Frame.enter C.prog f i.args .normal) [] (w.forCall tape i)))
  (contract:∀ (W:World) (base:Nat) (args:List Value) (ds:List (DataW H)) (p:List MemPlace),(∀ (j:Nat) t v,fn.params.toList[j]? = some t → args[j]? = some v → Value.okWide C.prog W .any base t v) →
   DataW.TrodAll enc C.prog W 0 (fun _=>true) true fn.params.toList args ds p → (DataW.weightsEach C.prog fn.params.toList ds).all (· ≤ reachBytes) = true → (∀ x ∈ p,x.block < W.heap.size) →
   laidMetH C.prog L W →
   a0a C.prog f args.toArray (fun v W'=>v = .bool true ∧ Below W.heap.size W W') W) :
  ReturnsInHanded {} C os f .any (fun w args=>(s.pre enc C.prog fn [] false w args ∧ laidMetH C.prog L w) ∧ sizedMet enc C.prog fn (OpenSpec.ofChange s) false w args)
   (s.post enc C.prog fn false true false false):=by
 refine returnsInHanded_of_change_and (X:=fun w _=>laidMetH C.prog L w) (fun _ _ _ hh h=>h.of_heap hh) own started noInit hfn witness ?_
 intro W base args ds gs before hval hW _ hsz hX _
 have hW0:=hW
 have hlt:=hW.lt
 obtain ⟨p,q,hA,hV,rfl,_,_⟩:=hW
 rw [hvars] at hV
 obtain ⟨rfl,rfl⟩:=trodVars_none hV
 have hsz':(DataW.weightsEach C.prog fn.params.toList ds).all (· ≤ reachBytes) = true:=by
  simpa [hvars,ChangeSpec.plain,DataSpec.varTypes] using hsz
 have hc:=contract W base args.toList ds p (fun j t v h1 h2=>hval j t v (by simpa using h1) (by simpa using h2)) hA hsz' (fun x hx=>hlt x (by simp [hx])) hX
 refine hc.mono fun e W' h=>?_
 obtain ⟨v,rfl,rfl,hb⟩:=h
 exact ⟨_,rfl,c7h hl hrt hub hpar hvars hspec hW0 hb⟩
end
end Go.Sh
namespace Go.Sh
open Go Go.ChangeShapes Go.WideShapes Go.ChangeAt Go.RowKit Go.Deep
section
variable {H:Type} {enc:TypeId × Value → H} {P:Program} {w:World} {sp:Nat → Bool} {hd:Bool}
theorem b4r (b o k:Nat):(⟨b,o,none⟩:Addr).add k = ⟨b,o + k,none⟩:=by
 unfold Addr.add
 split
 ·rename_i h; rw [h]; rfl
 ·rfl
theorem cell_lt {a:Addr} {v:Value} (h:w.cell? a = some v):a.block < w.heap.size ∧ a.spot = none:=by
 unfold World.cell? at h
 split at h
 ·rename_i c t f hh
  refine ⟨(Array.getElem?_eq_some_iff.1 hh).1,?_⟩
  split at h
  ·cases h
  ·rename_i hs
   cases hsp:a.spot with
   | none=>rfl
   | some x=>rw [hsp] at hs; exact absurd rfl hs
 ·cases h
theorem a7f {e:TypeId} {fs:Array Field} {n:Nat} {cs:List Value} {D:DataW H × List MemPlace} (he:P.underlying e = some (.struct fs)) (hone:oneCellFields P fs = true) (hC:P.cellsOf e = fs.size)
  (h:DataW.trod enc P w 0 sp hd n e cs = some D) :
  cs.length = fs.size ∧ ∀ (j:Nat) (f:Field),fs[j]? = some f → ∃ (v:Value) (y:DataW H × List MemPlace) (m:Nat),cs[j]? = some v ∧ DataW.trod enc P w 0 sp hd m f.type [v] = some y:=by
 obtain ⟨xs,m,_,_,hcl,hxl,hf⟩:=DataW.trod_struct he h
 rw [hC] at hcl
 refine ⟨hcl,fun j f hj=>?_⟩
 obtain ⟨ho,hk⟩:=hone_of hone j f hj
 have hjl:j < fs.size:=(Array.getElem?_eq_some_iff.1 hj).1
 have h1:=hf j f hj
 rw [ho,hk,List.drop_eq_getElem_cons (by omega),gE (by omega:j < xs.length)] at h1
 exact ⟨_,_,m,gE (by omega),h1⟩
end
end Go.Sh
namespace Go.Sh
open Go Go.ChangeShapes Go.WideShapes Go.ChangeAt Go.RowKit Go.Deep
section
variable {H:Type} {enc:TypeId × Value → H} {P:Program} {w:World} {sp:Nat → Bool} {hd:Bool}
theorem f3r {α:Type} (mk:α → Value) (Q:α → Prop) {t e:TypeId} {v:Value} {n:Nat} {D:DataW H × List MemPlace} (ht:P.underlying t = some (.slice e)) (hC:P.cellsOf e = 1)
  (hrd:∀ (V:Value) (n:Nat) (D:DataW H × List MemPlace),DataW.trod enc P w 0 sp hd n e [V] = some D → ∃ x,V = mk x ∧ Q x) (h:DataW.trod enc P w 0 sp hd n t [v] = some D) :
  ∃ l:List α,(∃ ad c,v = .slice ad l.length c ∧ (l = [] ∨ ∃ b o,ad = some ⟨b,o,none⟩ ∧ b < w.heap.size ∧ ∀ (i:Nat) (h:i < l.length),w.cell? ⟨b,o + i,none⟩ = some (mk l[i]))) ∧ l.length ≤ maxLen ∧ ∀ x ∈ l,Q x:=by
 rcases open_slice1 ht hC h with ⟨hcs,_⟩ | ⟨a',len,cap,m,n',V,D',Pl,hcs,_,hl,hm,hmm,_,hi⟩
 ·simp only [List.cons.injEq,and_true] at hcs
  subst hcs
  exact ⟨[],⟨none,0,rfl,.inl rfl⟩,by simp,by simp⟩
 ·simp only [List.cons.injEq,and_true] at hcs
  subst hcs
  have hml:len ≤ m:=by rw [hmm]; split <;> omega
  have key:∀ i:Fin len,∃ x,V i = mk x ∧ Q x:=fun i=>hrd _ _ _ (hi i (by have:=i.2; omega)).2
  refine ⟨List.ofFn (fun i=>(key i).choose),⟨some a',cap,by rw [List.length_ofFn],?_⟩,by rw [List.length_ofFn]; omega,?_⟩
  ·by_cases h0:len = 0
   ·left; subst h0; rfl
   ·right
    have h00:=(hi 0 (by omega)).1
    have e0:a'.add 0 = a':=by simp [Addr.add]
    rw [e0] at h00
    obtain ⟨hb,hs⟩:=cell_lt h00
    obtain ⟨b,o,s⟩:=a'
    simp only at hs hb
    subst hs
    refine ⟨b,o,rfl,hb,fun i hil=>?_⟩
    rw [List.length_ofFn] at hil
    have h1:=(hi i (by omega)).1
    rw [b4r] at h1
    rw [h1,List.getElem_ofFn]
    have:=(key ⟨i,hil⟩).choose_spec.1
    exact congrArg some this
  ·intro x hx
   rw [List.mem_ofFn] at hx
   obtain ⟨i,rfl⟩:=hx
   exact (key i).choose_spec.2
theorem d6b {t:TypeId} {ms:Array (String × TypeId)} {cs:List Value} {n:Nat} {nm:String} {d:DataW H} {ps:List MemPlace} (ht:P.underlying t = some (.interface ms)) (h:DataW.trod enc P w 0 sp false n t cs = some (.iface nm d,ps)):∃ u v,cs = [.iface u v]:=by
 cases n with
 | zero=>simp [DataW.trod] at h
 | succ n=>
  unfold DataW.trod at h
  rw [ht] at h
  match cs,h with
  | [.iface u v],_=>exact ⟨u,v,rfl⟩
  | [.nilIface],h=>simp at h
  | [],h=>simp at h
  | [.int _ _],h=>simp at h
  | [.bool _],h=>simp at h
  | [.string _],h=>simp at h
  | [.pointer _],h=>simp at h
  | [.slice _ _ _],h=>simp at h
  | [.map _],h=>simp at h
  | [.float _ _],h=>simp at h
  | [.complex _ _ _],h=>simp at h
  | [.agg _],h=>simp at h
  | [.tuple _],h=>simp at h
  | [.func _ _ _],h=>simp at h
  | [.nilFunc],h=>simp at h
  | [.chan _],h=>simp at h
  | _ :: _ :: _,h=>simp at h
end
end Go.Sh
namespace Go.Proofs
open Go Go.Sh Go.RowKit Go.Lib CodeSpec TkSpec FdSpec Go.ChangeShapes Go.WideShapes Go.ChangeAt
abbrev laidList:List (String × DataW Unit):=YtnbokkoppdnllaaGreatDoor.Rows.purseBackRow.laid
abbrev c9i (i:Nat):String:=(laidList.map (·.1)).getD i default
theorem a7g {W:World} {nm:String} {d:DataW Unit} (hf:(laidList.filter fun x=>x.1 == nm) = [(nm,d)]) (h:laidMetH Tryz.prog laidList W):laidMet Tryz.prog [(nm,d)] W:=by
 rw [MakeChecks.laidMetH_plain _ _ _ (by kernel_rfl)] at h
 have:=h.filter (fun x=>x.1 == nm)
 rwa [hf] at this
theorem e5e {W:World} (h:laidMetH Tryz.prog laidList W):TabIs Tryz.prog W b9u .u64 pow10Tab:=
 tabIs_of_head (rest:=[]) (t:=311) (e:=249) (n:=20) Cd.gTab (by kernel_rfl) Tryz.underlying311 Tryz.underlying249 (by kernel_rfl) (by kernel_rfl)
  (a7g (d:=tabData .u64 pow10Tab) (by kernel_rfl) h)
theorem gDb:Tryz.prog.globalNamed (c9i 1) = some 4:=by kernel_rfl
theorem f3s {W:World} (h:laidMetH Tryz.prog laidList W):TabIs Tryz.prog W (c9i 1) .u8 (Lib.deBruijn64tab.map (fun n:Nat=>(n:Int))):=
 tabIs_of_head (rest:=[]) (t:=318) (e:=5) (n:=64) gDb (by kernel_rfl) Tryz.underlying318 Tryz.underlying5 (by kernel_rfl) (by kernel_rfl)
  (a7g (d:=tabData .u8 (Lib.deBruijn64tab.map (fun n:Nat=>(n:Int)))) (by kernel_rfl) h)
theorem g2c {W:World} (h:laidMetH Tryz.prog laidList W):DbT W:=by
 have ht:=f3s h
 have hl:(Lib.deBruijn64tab.map (fun n:Nat=>(n:Int))).length = 64:=by decide +kernel
 have hc:∀ j,j < 64 → W.cell? ⟨4,j,none⟩ = some (.int .u8 (Lib.deBruijn64tab.getD j 0:Nat)):=fun j hj=>by
  rw [ht.cell gDb j (by omega)]
  have:(Lib.deBruijn64tab.map (fun n:Nat=>(n:Int))).getD j 0 = ((Lib.deBruijn64tab.getD j 0:Nat):Int):=by
   rw [List.getD_eq_getElem?_getD,List.getD_eq_getElem?_getD,List.getElem?_map]
   cases Lib.deBruijn64tab[j]? <;> rfl
  rw [this]
 refine ⟨?_,hc⟩
 have h0:=hc 0 (by omega)
 by_cases hlt:4 < W.heap.size
 ·exact hlt
 ·unfold World.cell? at h0
  rw [Array.getElem?_eq_none (by show W.heap.size ≤ 4; omega)] at h0
  simp at h0
theorem c7i {W:World} {nm:String} {x:DataW Unit} {g:Nat} (hg:Tryz.prog.globalNamed nm = some g) (hty:(Tryz.prog.globals[g]?).map (·.type) = some 239) (hf:(laidList.filter fun x=>x.1 == nm) = [(nm,x)]) (hx:∃ nt d,x = .iface nt d) (h:laidMetH Tryz.prog laidList W) :
  ∃ te pe,W.cell? ⟨g,0,none⟩ = some (.iface te pe):=by
 obtain ⟨nt,d,rfl⟩:=hx
 obtain ⟨ps,⟨g0,t0,cs0,f0,p0,q0,hg0,ht0,hv0,hd0,_,_⟩,_,_⟩:=a7g hf h
 obtain rfl:=oI (hg.symm.trans hg0)
 obtain rfl:=oI (hty.symm.trans ht0)
 obtain ⟨u,y,hcs⟩:=d6b Tryz.underlying239 hd0
 have:=World.var?_cell hg hv0 0
 refine ⟨u,y,?_⟩
 rw [this]
 have e:cs0[0]? = cs0.toList[0]?:=by simp
 rw [e,hcs]; rfl
theorem g2d {W:World} (h:laidMetH Tryz.prog laidList W):8 ≤ W.heap.size:=by
 obtain ⟨ps,⟨g0,t0,cs0,f0,p0,q0,hg0,ht0,hv0,hd0,_,_⟩,_,_⟩:=a7g (nm:=c9i 0) (d:=YtnbokkoppdnllaaGreatDoor.Rows.laid_math_bits_deBruijn32tab) (by kernel_rfl) h
 have hg:Tryz.prog.globalNamed (c9i 0) = some 7:=by kernel_rfl
 unfold World.var? at hv0
 rw [hg] at hv0
 simp only [Option.bind_some] at hv0
 split at hv0
 ·rename_i cs t f hh
  have:=(Array.getElem?_eq_some_iff.1 hh).1
  omega
 ·cases hv0
theorem f3t {W:World} (h:laidMetH Tryz.prog laidList W):Cd.LaidE W:=
 ⟨⟨e5e h,g2d h⟩,c7i (nm:=c9i 4) (x:=YtnbokkoppdnllaaGreatDoor.Rows.laid_strconv_ErrSyntax) (by kernel_rfl) (by kernel_rfl) (by kernel_rfl) ⟨_,_,rfl⟩ h,c7i (nm:=c9i 3) (x:=YtnbokkoppdnllaaGreatDoor.Rows.laid_strconv_ErrRange) (by kernel_rfl) (by kernel_rfl) (by kernel_rfl) ⟨_,_,rfl⟩ h⟩
theorem own:ownKnob Tryz.prog.godebug = none:=by kernel_rfl
theorem f3u:laidOutB Tryz.prog = true:=by kernel_rfl
theorem e5f (os:Os) (args:Array Value):laidMetH Tryz.prog laidList ((World.doorLaid Tryz.prog 400 os).forCall (fun _ _=>0) ⟨#[],args,[]⟩).memory:=
 laidMetH_of_parts3 (fuel:=8) (laidMet_of_run' 8 (by kernel_rfl) (by kernel_rfl)) (by kernel_rfl) (by kernel_rfl)
theorem f1y {n:Int} (h:(Lit.int .i64 n).wf = true):I64 n:=by
 simp only [Lit.wf,bA,dE] at h
 have h1:-9223372036854775808 ≤ n:=h.1
 have h2:n ≤ 9223372036854775807:=h.2
 exact ⟨h1,by omega⟩
section
variable {H:Type} {enc:TypeId × Value → H} {w:World} {sp:Nat → Bool} {hd:Bool}
theorem e5g {b0:Nat} {v:Value} {d:DataW H} {ps:List MemPlace} (hval:Value.okWide Tryz.prog w .any b0 26 v) (h:DataW.Trod enc Tryz.prog w 0 sp hd 26 v d ps):∃ t,v = b3b t ∧ TktR t:=by
 obtain ⟨cs,rfl,hs⟩:=okWide_struct Tryz.underlying26 hval
 obtain ⟨fuel,hf⟩:=h
 obtain ⟨hcl,hf⟩:=a7f Tryz.underlying26 (by kernel_rfl) (by kernel_rfl) hf
 obtain ⟨v0,y0,m0,c0,f0⟩:=hf 0 _ rfl
 obtain ⟨v1,y1,m1,c1,f1⟩:=hf 1 _ rfl
 obtain ⟨v2,y2,m2,c2,f2⟩:=hf 2 _ rfl
 obtain ⟨v3,y3,m3,c3,f3⟩:=hf 3 _ rfl
 obtain ⟨v4,y4,m4,c4,f4⟩:=hf 4 _ rfl
 obtain ⟨v5,y5,m5,c5,f5⟩:=hf 5 _ rfl
 obtain ⟨k0,e0,_,w0⟩:=DataW.trod_int Tryz.underlying3 f0
 obtain ⟨k1,e1,_,w1⟩:=DataW.trod_int Tryz.underlying3 f1
 obtain ⟨k2,e2,_,w2⟩:=DataW.trod_int Tryz.underlying3 f2
 obtain ⟨k3,e3,_,w3⟩:=DataW.trod_int Tryz.underlying3 f3
 obtain ⟨k4,e4,_,w4⟩:=DataW.trod_int Tryz.underlying3 f4
 obtain ⟨k5,e5,_,w5⟩:=DataW.trod_int Tryz.underlying3 f5
 simp only [List.cons.injEq,and_true] at e0 e1 e2 e3 e4 e5
 refine ⟨⟨k0,k1,k2,k3,k4,k5⟩,?_,⟨f1y w0,f1y w1,f1y w2,f1y w3,f1y w4,f1y w5⟩⟩
 have h6:cs.toList.length = 6:=hcl
 have c0:cs.toList[0]? = some v0:=c0
 have c1:cs.toList[1]? = some v1:=c1
 have c2:cs.toList[2]? = some v2:=c2
 have c3:cs.toList[3]? = some v3:=c3
 have c4:cs.toList[4]? = some v4:=c4
 have c5:cs.toList[5]? = some v5:=c5
 have hcs:cs = cs.toList.toArray:=by simp
 rw [hcs]
 clear hs hcs
 generalize cs.toList = l at *
 match l,h6 with
 | [x0,x1,x2,x3,x4,x5],_=>
  simp only [List.getElem?_cons_zero,List.getElem?_cons_succ,Option.some.injEq] at c0 c1 c2 c3 c4 c5
  rw [c0,c1,c2,c3,c4,c5,e0,e1,e2,e3,e4,e5]
end
end Go.Proofs
namespace Go.Proofs
open Go Go.Sh Go.RowKit Go.Lib CodeSpec TkSpec FdSpec PuSpec Go.ChangeShapes Go.WideShapes Go.ChangeAt Go.Deep
section
variable {H:Type} {enc:TypeId × Value → H} {w:World} {sp:Nat → Bool} {hd:Bool}
theorem b8s {P:Program} {α:Type} {n:Nat} {At:World → Nat → Nat → α → Prop} {t e:TypeId} {v:Value} {m0:Nat} {D:DataW H × List MemPlace} (ht:P.underlying t = some (.slice e)) (hC:P.cellsOf e = n) (hn:0 < n)
  (hrd:∀ (cs:List Value) (b p m:Nat) (D:DataW H × List MemPlace),cs.length = n → (∀ (j:Nat) (u:Value),cs[j]? = some u → w.cell? ⟨b,p + j,none⟩ = some u) → DataW.trod enc P w 0 sp hd m e cs = some D → ∃ x,At w b p x)
  (h:DataW.trod enc P w 0 sp hd m0 t [v] = some D):∃ l:List α,SRow n At w v l:=by
 rcases open_slice ht h with ⟨hcs,_⟩ | ⟨a',len,cap,m,n',D',Pl,hcs,_,hl,hm,hmm,_,hi⟩
 ·simp only [List.cons.injEq,and_true] at hcs
  subst hcs
  exact ⟨[],⟨none,0,rfl,.inl rfl⟩,by simp⟩
 ·simp only [List.cons.injEq,and_true] at hcs
  subst hcs
  subst hC
  have hml:len ≤ m:=by rw [hmm]; split <;> omega
  by_cases h0:len = 0
  ·subst h0
   exact ⟨[],⟨some a',cap,rfl,.inl rfl⟩,by simp⟩
  obtain ⟨cs0,hc0,_⟩:=hi 0 (by omega)
  obtain ⟨_,hl0,h00⟩:=World.cells?_some hc0
  have h00:=h00 0 hn
  rw [Nat.zero_mul] at h00
  have e0:(a'.add 0).add 0 = a':=by simp [Addr.add]
  rw [e0,gE (by omega)] at h00
  obtain ⟨hb,hs⟩:=Go.Sh.cell_lt h00
  obtain ⟨b,o,s⟩:=a'
  simp only at hs hb
  subst hs
  have key:∀ i:Fin len,∃ x,At w b (o + i * P.cellsOf e) x:=fun i=>by
   obtain ⟨cs,hc,ht2⟩:=hi i (by have:=i.2; omega)
   obtain ⟨_,hcl,hat⟩:=World.cells?_some hc
   refine hrd cs b (o + i * P.cellsOf e) _ _ hcl (fun j u hj=>?_) ht2
   have hjl:=(gS hj).1
   have:=hat j (by omega)
   rw [b4r,b4r] at this
   rw [this,hj]
  refine ⟨List.ofFn (fun i=>(key i).choose),⟨some ⟨b,o,none⟩,cap,by rw [List.length_ofFn],.inr ⟨b,o,rfl,hb,fun i hil=>?_⟩⟩,by rw [List.length_ofFn]; simp only [maxLen] at hm; omega⟩
  rw [List.length_ofFn] at hil
  rw [List.getElem_ofFn]
  exact (key ⟨i,hil⟩).choose_spec
theorem c4r {v:Value} {l:List Int} (h:∃ ad c,v = .slice ad l.length c ∧ (l = [] ∨ ∃ b o,ad = some ⟨b,o,none⟩ ∧ b < w.heap.size ∧ ∀ (i:Nat) (h:i < l.length),w.cell? ⟨b,o + i,none⟩ = some (Value.int .i64 l[i]))) (h0:∀ c,v = .slice none l.length c → l.length = 0 ∧ c = 0) (hl:l.length ≤ maxLen) (hr:∀ x ∈ l,I64 x):Ints w v l:=by
 obtain ⟨ad,c,rfl,h⟩:=h
 refine ⟨⟨ad,c,rfl,fun e=>?_,?_⟩,hr,hl⟩
 ·subst e
  exact h0 c rfl
 ·rcases h with h | ⟨b,o,rfl,hlt,hc⟩
  ·exact .inl h
  ·refine .inr ⟨b,o,rfl,hlt,fun k x hk=>?_⟩
   rw [flat_int] at hk
   obtain ⟨hk1,hk2⟩:=gS hk
   have hk1:k < l.length:=by rw [List.length_map] at hk1; exact hk1
   rw [hc k hk1,← hk2,List.getElem_map]
theorem f3v {t:TypeId} {n m:Nat} {c:Nat} {D:DataW H × List MemPlace} (ht:Tryz.prog.underlying t = some (.slice 3)) (h:DataW.trod enc Tryz.prog w 0 sp hd n t [.slice none m c] = some D):m = 0 ∧ c = 0:=by
 rcases open_slice1 ht (by kernel_rfl) h with ⟨hcs,_⟩ | ⟨a',len,cap,m,n',V,D',Pl,hcs,_⟩
 ·simp only [List.cons.injEq,and_true,Value.slice.injEq] at hcs
  exact hcs.2
 ·simp only [List.cons.injEq,and_true,Value.slice.injEq] at hcs
  exact absurd hcs.1 (by simp)
theorem b4t {v:Value} {n:Nat} {D:DataW H × List MemPlace} (h:DataW.trod enc Tryz.prog w 0 sp hd n 22 [v] = some D):∃ l,Ints w v l:=by
 have h':=h
 obtain ⟨l,h1,h2,h3⟩:=f3r (Value.int .i64) I64 Tryz.underlying22 (by kernel_rfl) (fun V n D h=>by
  obtain ⟨k,e,_,hw⟩:=DataW.trod_int Tryz.underlying3 h
  simp only [List.cons.injEq,and_true] at e
  exact ⟨k,e,f1y hw⟩) h
 exact ⟨l,c4r h1 (fun c e=>by subst e; exact f3v Tryz.underlying22 h') h2 h3⟩
theorem f9f:Tryz.prog.cellsOf 50 = 5:=by kernel_rfl
theorem f9g:Tryz.prog.cellsOf 48 = 3:=by kernel_rfl
theorem c9j:Tryz.prog.cellsOf 22 = 1:=by kernel_rfl
theorem d6c:Tryz.prog.cellsOf 3 = 1:=by kernel_rfl
theorem a8a {n:Int} (h:(Lit.int .i64 n).wf = true):InR n:=by
 have:=f1y h
 exact ⟨this.1,by have:=this.2; omega⟩
theorem b4u {cs:List Value} {n:Nat} {D:DataW H × List MemPlace} (h:DataW.trod enc Tryz.prog w 0 sp hd n 26 cs = some D):∃ t:Tkt,cs = a6v t ∧ WTkt t:=by
 obtain ⟨hcl,hf⟩:=a7f Tryz.underlying26 (by kernel_rfl) (by kernel_rfl) h
 obtain ⟨v0,y0,m0,c0,f0⟩:=hf 0 _ rfl
 obtain ⟨v1,y1,m1,c1,f1⟩:=hf 1 _ rfl
 obtain ⟨v2,y2,m2,c2,f2⟩:=hf 2 _ rfl
 obtain ⟨v3,y3,m3,c3,f3⟩:=hf 3 _ rfl
 obtain ⟨v4,y4,m4,c4,f4⟩:=hf 4 _ rfl
 obtain ⟨v5,y5,m5,c5,f5⟩:=hf 5 _ rfl
 obtain ⟨k0,e0,_,w0⟩:=DataW.trod_int Tryz.underlying3 f0
 obtain ⟨k1,e1,_,w1⟩:=DataW.trod_int Tryz.underlying3 f1
 obtain ⟨k2,e2,_,w2⟩:=DataW.trod_int Tryz.underlying3 f2
 obtain ⟨k3,e3,_,w3⟩:=DataW.trod_int Tryz.underlying3 f3
 obtain ⟨k4,e4,_,w4⟩:=DataW.trod_int Tryz.underlying3 f4
 obtain ⟨k5,e5,_,w5⟩:=DataW.trod_int Tryz.underlying3 f5
 simp only [List.cons.injEq,and_true] at e0 e1 e2 e3 e4 e5
 have h6:cs.length = 6:=hcl
 refine ⟨⟨k0,k1,k2,k3,k4,k5⟩,?_,⟨?_⟩⟩
 ·match cs,h6 with
  | [x0,x1,x2,x3,x4,x5],_=>
   simp only [List.getElem?_cons_zero,List.getElem?_cons_succ,Option.some.injEq] at c0 c1 c2 c3 c4 c5
   rw [c0,c1,c2,c3,c4,c5,e0,e1,e2,e3,e4,e5]
 ·intro v hv
  simp only [b3s,List.mem_cons,List.not_mem_nil,or_false] at hv
  rcases hv with rfl | rfl | rfl | rfl | rfl | rfl
  ·exact a8a w0
  ·exact a8a w1
  ·exact a8a w2
  ·exact a8a w3
  ·exact a8a w4
  ·exact a8a w5
theorem c1k:Tryz.prog.cellsOf 26 = 6:=by kernel_rfl
theorem d6d:Tryz.prog.cellsOf 84 = 2:=by kernel_rfl
theorem d6e:Tryz.prog.cellsOf 9 = 1:=by kernel_rfl
theorem d6f:Tryz.prog.cellsOf 24 = 4:=by kernel_rfl
theorem c9k:Tryz.prog.cellsOf 27 = 1:=by kernel_rfl
theorem c1l:Tryz.prog.cellsOf 29 = 14:=by kernel_rfl
theorem d6g:Tryz.prog.cellsOf 86 = 9:=by kernel_rfl
theorem d6h {cs:List Value} {n:Nat} {D:DataW H × List MemPlace} (h:DataW.trod enc Tryz.prog w 0 sp hd n 84 cs = some D):∃ (d:Int) (av:Value) (l:List Int),cs = [.int .i64 d,av] ∧ InR d ∧ Ints w av l:=by
 obtain ⟨hcl,hf⟩:=a7f Tryz.underlying84 (by kernel_rfl) (by kernel_rfl) h
 obtain ⟨v0,y0,m0,c0,f0⟩:=hf 0 _ rfl
 obtain ⟨v1,y1,m1,c1,f1⟩:=hf 1 _ rfl
 obtain ⟨k0,e0,_,w0⟩:=DataW.trod_int Tryz.underlying3 f0
 obtain ⟨l1,h1⟩:=b4t f1
 simp only [List.cons.injEq,and_true] at e0
 have h6:cs.length = 2:=hcl
 refine ⟨k0,v1,l1,?_,a8a w0,h1⟩
 match cs,h6 with
 | [x0,x1],_=>
  simp only [List.getElem?_cons_zero,List.getElem?_cons_succ,Option.some.injEq] at c0 c1
  rw [c0,c1,e0]
theorem d6i {cs:List Value} {n:Nat} {D:DataW H × List MemPlace} (h:DataW.trod enc Tryz.prog w 0 sp hd n 24 cs = some D):∃ (b:Bld) (v:Value),cs = e7m b v ∧ InR b.s ∧ InR b.u ∧ InR b.v ∧ Ints w v b.ys:=by
 obtain ⟨hcl,hf⟩:=a7f Tryz.underlying24 (by kernel_rfl) (by kernel_rfl) h
 obtain ⟨v0,y0,m0,c0,f0⟩:=hf 0 _ rfl
 obtain ⟨v1,y1,m1,c1,f1⟩:=hf 1 _ rfl
 obtain ⟨v2,y2,m2,c2,f2⟩:=hf 2 _ rfl
 obtain ⟨v3,y3,m3,c3,f3⟩:=hf 3 _ rfl
 obtain ⟨k0,e0,_,w0⟩:=DataW.trod_int Tryz.underlying3 f0
 obtain ⟨k1,e1,_,w1⟩:=DataW.trod_int Tryz.underlying3 f1
 obtain ⟨k2,e2,_,w2⟩:=DataW.trod_int Tryz.underlying3 f2
 obtain ⟨l3,h3⟩:=b4t f3
 simp only [List.cons.injEq,and_true] at e0 e1 e2
 have h6:cs.length = 4:=hcl
 refine ⟨⟨k0,k1,k2,l3⟩,v3,?_,a8a w0,a8a w1,a8a w2,h3⟩
 match cs,h6 with
 | [x0,x1,x2,x3],_=>
  simp only [List.getElem?_cons_zero,List.getElem?_cons_succ,Option.some.injEq] at c0 c1 c2 c3
  rw [c0,c1,c2,c3,e0,e1,e2]
theorem b8t {v:Value} {l:List Int} (h:Ints w v l):∀ x ∈ l,InR x:=fun x hx=>⟨(h.rng x hx).1,by have:=(h.rng x hx).2; omega⟩
theorem g2e (s:ByteArray):s = ⟨s.data.toList.toArray⟩:=by cases s; rfl
theorem d6j {v:Value} {n:Nat} {D:DataW H × List MemPlace} (h:DataW.trod enc Tryz.prog w 0 sp hd n 27 [v] = some D):∃ l,d0q w v l:=
 b8s Tryz.underlying27 d6g (by decide) (fun cs b p m D hl hc ht=>by
  obtain ⟨xs,m,_,_,hcl,hxl,hf⟩:=DataW.trod_struct Tryz.underlying86 ht
  have hxl:xs.length = 3:=hxl
  match cs,hl,xs,hxl with
  | [x0,x1,x2,x3,x4,x5,x6,x7,x8],_,[y0,y1,y2],_=>
   have f0:DataW.trod enc Tryz.prog w 0 sp hd m 26 (([x0,x1,x2,x3,x4,x5,x6,x7,x8].drop 0).take (Tryz.prog.cellsOf 26)) = some y0:=hf 0 _ rfl
   have f1:DataW.trod enc Tryz.prog w 0 sp hd m 84 (([x0,x1,x2,x3,x4,x5,x6,x7,x8].drop 6).take (Tryz.prog.cellsOf 84)) = some y1:=hf 1 _ rfl
   have f2:DataW.trod enc Tryz.prog w 0 sp hd m 9 (([x0,x1,x2,x3,x4,x5,x6,x7,x8].drop 8).take (Tryz.prog.cellsOf 9)) = some y2:=hf 2 _ rfl
   rw [c1k] at f0
   rw [d6d] at f1
   rw [d6e] at f2
   obtain ⟨t,et,ht⟩:=b4u f0
   obtain ⟨d,av,al,es,hd,ha⟩:=d6h f1
   obtain ⟨s,ess,_,hs⟩:=DataW.trod_string Tryz.underlying9 f2
   simp only [List.drop_zero,List.take_succ_cons,List.take_zero,List.drop_succ_cons,List.cons.injEq,and_true,a6v] at et es ess
   obtain ⟨e0,e1,e2,e3,e4,e5⟩:=et
   obtain ⟨e6,e7⟩:=es
   refine ⟨⟨t,⟨d,al⟩,s.data.toList⟩,_,rfl,hc,av,?_,ha,ht,hd,b8t ha,?_,?_⟩
   ·rw [e0,e1,e2,e3,e4,e5,e6,e7,ess,g2e s]
   ·have:=ha.len; show (al.length:Int) ≤ _; omega
   ·show ((s.data.toList.length:Nat):Int) ≤ _
    have:s.data.toList.length = s.size:=by simp
    rw [this]
    have:maxLen = 9223372036854775807:=rfl
    omega) h
theorem d6k {cs:List Value} {n:Nat} {D:DataW H × List MemPlace} (ht:DataW.trod enc Tryz.prog w 0 sp hd n 29 cs = some D):∃ (x:Hld) (av yv kv:Value),cs = b7c x av yv kv ∧ HldR w x av yv kv:=by
 obtain ⟨xs,m,_,_,hcl,hxl,hf⟩:=DataW.trod_struct Tryz.underlying29 ht
 have hxl:xs.length = 6:=hxl
 rw [c1l] at hcl
 match cs,hcl,xs,hxl with
 | [x0,x1,x2,x3,x4,x5,x6,x7,x8,x9,x10,x11,x12,x13],_,[y0,y1,y2,y3,y4,y5],_=>
  have f0:DataW.trod enc Tryz.prog w 0 sp hd m 3 (([x0,x1,x2,x3,x4,x5,x6,x7,x8,x9,x10,x11,x12,x13].drop 0).take (Tryz.prog.cellsOf 3)) = some y0:=hf 0 _ rfl
  have f1:DataW.trod enc Tryz.prog w 0 sp hd m 3 (([x0,x1,x2,x3,x4,x5,x6,x7,x8,x9,x10,x11,x12,x13].drop 1).take (Tryz.prog.cellsOf 3)) = some y1:=hf 1 _ rfl
  have f2:DataW.trod enc Tryz.prog w 0 sp hd m 22 (([x0,x1,x2,x3,x4,x5,x6,x7,x8,x9,x10,x11,x12,x13].drop 2).take (Tryz.prog.cellsOf 22)) = some y2:=hf 2 _ rfl
  have f3:DataW.trod enc Tryz.prog w 0 sp hd m 24 (([x0,x1,x2,x3,x4,x5,x6,x7,x8,x9,x10,x11,x12,x13].drop 3).take (Tryz.prog.cellsOf 24)) = some y3:=hf 3 _ rfl
  have f4:DataW.trod enc Tryz.prog w 0 sp hd m 26 (([x0,x1,x2,x3,x4,x5,x6,x7,x8,x9,x10,x11,x12,x13].drop 7).take (Tryz.prog.cellsOf 26)) = some y4:=hf 4 _ rfl
  have f5:DataW.trod enc Tryz.prog w 0 sp hd m 27 (([x0,x1,x2,x3,x4,x5,x6,x7,x8,x9,x10,x11,x12,x13].drop 13).take (Tryz.prog.cellsOf 27)) = some y5:=hf 5 _ rfl
  rw [d6c] at f0 f1
  rw [c9j] at f2
  rw [d6f] at f3
  rw [c1k] at f4
  rw [c9k] at f5
  obtain ⟨k0,e0,_,w0⟩:=DataW.trod_int Tryz.underlying3 f0
  obtain ⟨k1,e1,_,w1⟩:=DataW.trod_int Tryz.underlying3 f1
  obtain ⟨al,ha⟩:=b4t f2
  obtain ⟨b,bv,eb,hb1,hb2,hb3,hby⟩:=d6i f3
  obtain ⟨t,et,ht⟩:=b4u f4
  obtain ⟨ll,hll⟩:=d6j f5
  simp only [List.drop_zero,List.take_succ_cons,List.take_zero,List.drop_succ_cons,List.cons.injEq,and_true,a6v,e7m] at e0 e1 eb et
  obtain ⟨q0,q1,q2,q3⟩:=eb
  obtain ⟨t0,t1,t2,t3,t4,t5⟩:=et
  refine ⟨⟨k0,k1,al,b,t,ll⟩,x2,bv,x13,?_,⟨ha,hby,hll,⟨a8a w0,a8a w1,b8t ha,?_,hb1,hb2,hb3,b8t hby,?_,ht,?_⟩⟩⟩
  ·rw [e0,e1,q0,q1,q2,q3,t0,t1,t2,t3,t4,t5]
  ·have:=ha.len; show (al.length:Int) ≤ _; omega
  ·have:=hby.len; show (b.ys.length:Int) ≤ _; omega
  ·intro x hx
   obtain ⟨i,hi,rfl⟩:=List.mem_iff_getElem.1 hx
   obtain ⟨ad,c,hv⟩:=hll.isSlice
   have hll':d0q w (.slice ad ll.length c) ll:=by rw [← hv]; exact hll
   obtain ⟨_,_,_,_,_,_,_,_,_,_,hw⟩:=hll'.at hi
   exact hw
theorem d6l {v:Value} {n:Nat} {D:DataW H × List MemPlace} (h:DataW.trod enc Tryz.prog w 0 sp hd n 52 [v] = some D):∃ l,SRow 14 (a5p 14 d1g) w v l:=
 b8s Tryz.underlying52 c1l (by decide) (fun cs b p m D hl hc ht=>by
  obtain ⟨x,av,yv,kv,e,hH⟩:=d6k ht
  exact ⟨x,cs,hl,hc,av,yv,kv,e,hH⟩) h
theorem c9l {b0:Nat} {v:Value} {d:DataW H} {ps:List MemPlace} (hval:Value.okWide Tryz.prog w .any b0 52 v) (h:DataW.Trod enc Tryz.prog w 0 sp hd 52 v d ps):∃ l,SRow 14 (a5p 14 d1g) w v l:=by
 obtain ⟨a,n,c,rfl⟩:=okWide_slice Tryz.underlying52 hval
 obtain ⟨fu,hf⟩:=h
 exact d6l hf
end
end Go.Proofs
namespace Go.Proofs
open Go.Sh Tryz
variable {a0:Value} {K:VK} {w:World}
def f7i (a0:Value) (K:VK) (w:World):Prop:=
 oM prog (.box 29 (.tmp 0)) 0 [a0] (fun v1=>
 kQ [(.bool false),(.int .i64 0)] fun J_2 m_3 l_4 u_l_4 w0_l_4=>(fun w=>(
 kF 29 5 v1 (fun v5=>
 kL 27 v5 fun v6=>
 kN 27 v6 fun v7=>
 kB .lss 3 4 (l_4.getD 1 undef) v7 fun v8 w=>
 gT v8 (a0c (l_4.getD 1 undef)) (fun v10 w=>
 gT v8 (kB .leq 3 4 v10 (.int .i64 5)) (fun v11=>
 kP v8 v11 (.bool false) fun v12=>
 kO v12 (kF 29 5 v1 fun v15=>
 kL 27 v15 fun v16=>
 kI 27 v16 (l_4.getD 1 undef) fun v18=>
 kF 86 1 v18 fun v19=>
 kF 84 1 v19 fun v20=>
 kL 22 v20 fun v21=>
 kN 22 v21 fun v22=>
 kB .gtr 3 4 v22 (.int .i64 8) fun v23 w=>
 gF v23 (kF 29 5 v1) (fun v25 w=>
 gF v23 (kL 27 v25) (fun v26 w=>
 gF v23 (a0c (l_4.getD 1 undef)) (fun v27 w=>
 gF v23 (kI 27 v26 v27) (fun v28 w=>
 gF v23 (kF 86 2 v28) (fun v29 w=>
 gF v23 (kL 9 v29) (fun v30 w=>
 gF v23 (kN 9 v30) (fun v31 w=>
 gF v23 (kB .gtr 3 4 v31 (.int .i64 210)) (fun v32=>
 kP v23 (.bool true) v32 fun v33=>
 kO v33 (K (.bool false))
 (kB .add 3 3 (l_4.getD 1 undef) (.int .i64 1) fun v14=>
 kJ J_2 m_3 l_4 w0_l_4 [(l_4.getD 0 undef),v14])) w) w) w) w) w) w) w) w)
 (kF 29 2 v1 fun v34=>
 kL 22 v34 fun v35=>
 kN 22 v35 fun v36=>
 kB .leq 3 4 v36 (.int .i64 8) fun v37 w=>
 gT v37 (kF 29 3 v1) (fun v39 w=>
 gT v37 (kF 24 3 v39) (fun v40 w=>
 gT v37 (kL 22 v40) (fun v41 w=>
 gT v37 (kN 22 v41) (fun v42 w=>
 gT v37 (kB .leq 3 4 v42 (.int .i64 8)) (fun v43=>
 kP v37 v43 (.bool false) fun v44 w=>
 gT v44 (kF 29 5 v1) (fun v46 w=>
 gT v44 (kL 27 v46) (fun v47 w=>
 gT v44 (kN 27 v47) (fun v48 w=>
 gT v44 (kB .leq 3 4 v48 (.int .i64 5)) (fun v49=>
 kP v44 v49 (.bool false) fun v50=>
 K v50) w) w) w) w) w) w) w) w) w)) w) w) w)) w0_l_4) w
theorem e2w (h:f7i a0 K w):a0a prog 13 #[a0] K w:=
 cZ (fun _=>0) func13 h
def f7j (a0:Value) (K:VK) (w:World):Prop:=
 kQ [(.bool false),(.int .i64 0)] (fun J_1 m_2 l_3 u_l_3 w0_l_3=>(fun w=>(
 kN 52 a0 (fun v6=>
 kB .lss 3 4 (l_3.getD 1 undef) v6 fun v7 w=>
 gT v7 (a0c (l_3.getD 1 undef)) (fun v9 w=>
 gT v7 (kB .leq 3 4 v9 (.int .i64 6)) (fun v10=>
 kP v7 v10 (.bool false) fun v11=>
 kO v11 (kI 52 a0 (l_3.getD 1 undef) fun v16=>
 kL 29 v16 fun v17=>
 a0a prog 13 #[v17] fun v18=>
 kU v18 fun v19=>
 kO v19 (K (.bool false))
 (kB .add 3 3 (l_3.getD 1 undef) (.int .i64 1) fun v13=>
 kJ J_1 m_2 l_3 w0_l_3 [(l_3.getD 0 undef),v13]))
 (kN 52 a0 fun v21=>
 kB .leq 3 4 v21 (.int .i64 6) fun v22=>
 K v22)) w) w) w)) w0_l_3) w
theorem e2x (h:f7j a0 K w):a0a prog 24 #[a0] K w:=
 cZ (fun _=>0) func24 h
end Go.Proofs
namespace Go.Proofs
open Go Go.Sh Go.RowKit FdSpec TkSpec CodeSpec PuSpec DkSpec JnSpec
section
variable {K:VK} {w w' w0 W W':World} {L:List (Addr × Value)} {rb b:Nat}
theorem e0e {b p:Nat} {x:Lnk} {av:Value} (h:∀ j u,(lkC x av)[j]? = some u → w.cell? ⟨b,p + j,none⟩ = some u) :
  w.cell? ⟨b,p,none⟩ = some (.int .i64 x.ticket.mark) ∧ w.cell? ⟨b,p + 1,none⟩ = some (.int .i64 x.ticket.first) ∧ w.cell? ⟨b,p + 2,none⟩ = some (.int .i64 x.ticket.z) ∧ w.cell? ⟨b,p + 3,none⟩ = some (.int .i64 x.ticket.a) ∧ w.cell? ⟨b,p + 4,none⟩ = some (.int .i64 x.ticket.b) ∧ w.cell? ⟨b,p + 5,none⟩ = some (.int .i64 x.ticket.r) ∧
  w.cell? ⟨b,p + 6,none⟩ = some (.int .i64 x.spend.dare) ∧ w.cell? ⟨b,p + 6 + 1,none⟩ = some av ∧ w.cell? ⟨b,p + 8,none⟩ = some (.string ⟨x.terms.toArray⟩):=
 ⟨h 0 _ rfl,h 1 _ rfl,h 2 _ rfl,h 3 _ rfl,h 4 _ rfl,h 5 _ rfl,h 6 _ rfl,h 7 _ rfl,h 8 _ rfl⟩
theorem g3q:Tryz.prog.underlying 24 = some ((Tryz.prog.underlying 24).getD default):=by kernel_rfl
theorem a3z {g:Nat} {T:TypeId} {xs:List Value} (h:Holds w g T xs) {j:Nat} {u:Value} (hj:xs[j]? = some u):w.cell? ⟨g,j,none⟩ = some u:=by
 obtain ⟨hl,rfl⟩:=gS hj
 exact h.cell j hl
end
def c0e (y:Lnk):Bool:=decide (y.spend.answers.length ≤ 8) && decide (y.terms.length ≤ 210)
def b7g (h:Hld):Bool:=(h.links.take 6).all c0e && (decide (h.attrs.length ≤ 8) && decide (h.bl.ys.length ≤ 8) && decide (h.links.length ≤ 5))
def b8j (l:List Hld):Bool:=(l.take 7).all b7g && decide (l.length ≤ 6)
section
variable {K:VK} {w w' w0 W W':World} {L:List (Addr × Value)} {rb b:Nat}
theorem d1d (x:Hld) {av yv kv:Value} (hx:HldR w x av yv kv) (k:∀ w',Bw w w' → K (.bool (b7g x)) w'):a0a Tryz.prog 13 #[d0r x av yv kv] K w:=by
 apply e2w
 unfold f7i
 obtain ⟨a1,d1,rfl⟩:=hx.attrs.isSlice
 obtain ⟨a2,d2,rfl⟩:=hx.ys.isSlice
 obtain ⟨a3,d3,rfl⟩:=hx.links.isSlice
 have hll:=hx.links.len
 refine a5l (cs:=b7c x (.slice a1 x.attrs.length d1) (.slice a2 x.bl.ys.length d2) (.slice a3 x.links.length d3)) rfl (fun b1 w1 h1 hb1 hB1=>?_)
 have p2:=hB1.cell 2 (by simp)
 have p6:=hB1.cell 6 (by simp)
 have p13:=hB1.cell 13 (by simp)
 simp only [List.getElem_cons_zero,List.getElem_cons_succ] at p2 p6 p13
 refine ⟨fun vs W=>∃ (i:Nat),vs = [.bool false,.int .i64 (i:Int)] ∧ i ≤ x.links.length ∧ i ≤ 6 ∧ (x.links.take i).all c0e = true ∧ Nx w1 W,
  (fun vs _=>match vs with | [_,.int _ i]=>x.links.length - i.toNat | _=>0),⟨0,rfl,by omega,by omega,rfl,bR⟩,?_⟩
 rintro _ _ w2 ⟨i,rfl,hi,hi6,ha,h2⟩
 have p2:=(h2.cell hB1.lt).trans p2
 have p6:=(h2.cell hB1.lt).trans p6
 have p13:=(h2.cell hB1.lt).trans p13
 by_cases hil:i < x.links.length ∧ i < 6
 ·have hi1:(i:Int) < x.links.length:=by omega
  have hi2:(i:Int) ≤ 5:=by omega
  have hL:=hx.links.next (a1e a9a) (h1.on h2)
  obtain ⟨lb,lo,rfl,hlb,cs,hcl,hcc,yv,rfl,hA,hw⟩:=hL.at hil.1
  obtain ⟨e1,n1,rfl⟩:=hA.isSlice
  have hc:=e0e hcc
  have hnext:(x.links.take (i + 1)).all c0e = c0e x.links[i]:=by
   rw [List.take_succ_eq_append_getElem hil.1,List.all_append,ha]; simp
  have bad:c0e x.links[i] = false → K (.bool false) w2:=fun e=>by
   have k:=k _ (h1.on h2)
   have:b7g x = false:=by
    unfold b7g
    rw [Bool.and_eq_false_iff]
    left
    rw [List.all_eq_false]
    refine ⟨x.links[i],?_,by rw [e]; simp⟩
    rw [List.mem_take_iff_getElem]
    exact ⟨i,by omega,rfl⟩
   rwa [this] at k
  by_cases q1:x.links[i].spend.answers.length ≤ 8
  ·have q1Z:¬ (8:Int) < x.links[i].spend.answers.length:=by omega
   by_cases q2:x.links[i].terms.length ≤ 210
   ·have q2Z:¬ (210:Int) < x.links[i].terms.length:=by omega
    refine Xa (An7 @p13 @hi1 @hi2 hc.2.2.2.2.2.2.2.1 hc.2.2.2.2.2.2.2.2 @q1Z @q2Z) ?_
    exact ⟨⟨i + 1,rfl,by omega,by omega,by rw [hnext]; unfold c0e; rw [decide_eq_true q1,decide_eq_true q2]; rfl,h2⟩,by show x.links.length - (((i + 1:Nat):Int)).toNat < x.links.length - ((i:Nat):Int).toNat; omega⟩
   ·have q2Z:(210:Int) < x.links[i].terms.length:=by omega
    have bad:=bad (by unfold c0e; rw [decide_eq_false q2]; simp)
    refine Xa (An7 @p13 @hi1 @hi2 hc.2.2.2.2.2.2.2.1 hc.2.2.2.2.2.2.2.2 @q1Z @q2Z) ?_
    exact bad
  ·have q1Z:(8:Int) < x.links[i].spend.answers.length:=by omega
   have bad:=bad (by unfold c0e; rw [decide_eq_false q1]; rfl)
   refine Xa (An6 @p13 @hi1 @hi2 hc.2.2.2.2.2.2.2.1 hc.2.2.2.2.2.2.2.2 @q1Z) ?_
   exact bad
 ·have e6:(x.links.take 6).all c0e = true:=by
   by_cases h6:i = 6
   ·rw [← h6]; exact ha
   ·have:i = x.links.length:=by omega
    rw [this,List.take_length] at ha
    rw [List.take_of_length_le (by omega)]
    exact ha
  have k2:∀ r,(decide (x.attrs.length ≤ 8) && decide (x.bl.ys.length ≤ 8) && decide (x.links.length ≤ 5)) = r → K (.bool r) w2:=fun r e=>by
   have k:=k _ (h1.on h2)
   unfold b7g at k
   rw [e6,e] at k
   exact k
  have hend:∀ (P:Prop) (t:P) ,P:=fun _ t=>t
  by_cases q1:x.attrs.length ≤ 8
  ·have q1Z:(x.attrs.length:Int) ≤ 8:=by omega
   by_cases q2:x.bl.ys.length ≤ 8
   ·have q2Z:(x.bl.ys.length:Int) ≤ 8:=by omega
    by_cases q3:x.links.length ≤ 5
    ·have q3Z:(x.links.length:Int) ≤ 5:=by omega
     have hi1:¬ (i:Int) < x.links.length:=by omega
     have k2:=k2 _ (by rw [decide_eq_true q1,decide_eq_true q2,decide_eq_true q3])
     refine Xa (An7 @p13 @p2 @p6 @hi1 @q1Z @q2Z @q3Z) ?_
     exact k2
    ·have q3Z:¬ (x.links.length:Int) ≤ 5:=by omega
     have k2:=k2 _ (by rw [decide_eq_true q1,decide_eq_true q2,decide_eq_false q3])
     by_cases hi1:(i:Int) < x.links.length
     ·have hi2:¬ (i:Int) ≤ 5:=by omega
      refine Xa (An8 @p13 @p2 @p6 @hi1 @hi2 @q1Z @q2Z @q3Z) ?_
      exact k2
     ·refine Xa (An7 @p13 @p2 @p6 @hi1 @q1Z @q2Z @q3Z) ?_
      exact k2
   ·have q2Z:¬ (x.bl.ys.length:Int) ≤ 8:=by omega
    have k2:=k2 _ (by rw [decide_eq_true q1,decide_eq_false q2])
    by_cases hi1:(i:Int) < x.links.length
    ·have hi2:¬ (i:Int) ≤ 5:=by omega
     refine Xa (An7 @p13 @p2 @p6 @hi1 @hi2 @q1Z @q2Z) ?_
     exact k2
    ·refine Xa (An6 @p13 @p2 @p6 @hi1 @q1Z @q2Z) ?_
     exact k2
  ·have q1Z:¬ (x.attrs.length:Int) ≤ 8:=by omega
   have k2:=k2 _ (by rw [decide_eq_false q1])
   by_cases hi1:(i:Int) < x.links.length
   ·have hi2:¬ (i:Int) ≤ 5:=by omega
    refine Xa (An6 @p13 @p2 @p6 @hi1 @hi2 @q1Z) ?_
    exact k2
   ·refine Xa (An5 @p13 @p2 @p6 @hi1 @q1Z) ?_
    exact k2
theorem c6j (l:List Hld) {v:Value} (hr:SRow 14 (a5p 14 d1g) w v l) (k:∀ w',Bw w w' → K (.bool (b8j l)) w'):a0a Tryz.prog 24 #[v] K w:=by
 apply e2x
 unfold f7j
 obtain ⟨ad,d,rfl⟩:=hr.isSlice
 have hll:=hr.len
 refine ⟨fun vs W=>∃ (i:Nat),vs = [.bool false,.int .i64 (i:Int)] ∧ i ≤ l.length ∧ i ≤ 7 ∧ (l.take i).all b7g = true ∧ Nx w W,
  (fun vs _=>match vs with | [_,.int _ i]=>l.length - i.toNat | _=>0),⟨0,rfl,by omega,by omega,rfl,bR⟩,?_⟩
 rintro _ _ w2 ⟨i,rfl,hi,hi7,ha,h2⟩
 by_cases hil:i < l.length ∧ i < 7
 ·have hi1:(i:Int) < l.length:=by omega
  have hi2:(i:Int) ≤ 6:=by omega
  have hL:=hr.next (a1e a9b) h2
  obtain ⟨lb,lo,rfl,hlb,cs,hcl,hcc,av,yv,kv,rfl,hH⟩:=hL.at hil.1
  obtain ⟨a1,n1,d1,a2,n2,d2,a3,n3,d3,rfl,rfl,rfl⟩:=a1m hH
  have hnext:(l.take (i + 1)).all b7g = b7g l[i]:=by
   rw [List.take_succ_eq_append_getElem hil.1,List.all_append,ha]; simp
  refine Xa (An2 @hi1 @hi2) ?_
  refine a2j (cs:=b7c l[i] (.slice a1 n1 d1) (.slice a2 n2 d2) (.slice a3 n3 d3)) hcc a8c (by kernel_rfl) (by kernel_rfl) ?_
  refine d1d l[i] hH (fun w3 h3=>?_)
  cases hf:b7g l[i] with
  | true=>
   refine Xa0 ?_
   exact ⟨⟨i + 1,rfl,by omega,by omega,by rw [hnext,hf],h2.on h3⟩,by show l.length - (((i + 1:Nat):Int)).toNat < l.length - ((i:Nat):Int).toNat; omega⟩
  | false=>
   have k:=k _ (h2.on h3)
   have:b8j l = false:=by
    unfold b8j
    rw [Bool.and_eq_false_iff]
    left
    rw [List.all_eq_false]
    refine ⟨l[i],?_,by rw [hf]; simp⟩
    rw [List.mem_take_iff_getElem]
    exact ⟨i,by omega,rfl⟩
   rw [this] at k
   refine Xa0 ?_
   exact k
 ·have e6:(l.take 7).all b7g = true:=by
   by_cases h6:i = 7
   ·rw [← h6]; exact ha
   ·have:i = l.length:=by omega
    rw [this,List.take_length] at ha
    rw [List.take_of_length_le (by omega)]
    exact ha
  have k2:K (.bool (decide (l.length ≤ 6))) w2:=by
   have k:=k _ h2
   unfold b8j at k
   rw [e6] at k
   exact k
  by_cases q3:l.length ≤ 6
  ·have q3Z:(l.length:Int) ≤ 6:=by omega
   have hi1:¬ (i:Int) < l.length:=by omega
   rw [decide_eq_true q3] at k2
   refine Xa (An2 @hi1 @q3Z) ?_
   exact k2
  ·have q3Z:¬ (l.length:Int) ≤ 6:=by omega
   rw [decide_eq_false q3] at k2
   by_cases hi1:(i:Int) < l.length
   ·have hi2:¬ (i:Int) ≤ 6:=by omega
    refine Xa (An3 @hi1 @hi2 @q3Z) ?_
    exact k2
   ·refine Xa (An2 @hi1 @q3Z) ?_
    exact k2
theorem a9d {P:Program} {T T':TypeId} {b p:Nat} {cs:List Value} {d:TypeDesc} {C:WK} {KQ:Value → Prop} (hc:∀ W,C W → ∀ (j:Nat) (v:Value),cs[j]? = some v → W.cell? ⟨b,p + j,none⟩ = some v)
  (hu:P.underlying T = some d) (hd:(match d with | .struct _ | .array _ _=>true | _=>false) = true) (hi:(P.info? T).map (·.size) = some cs.length) (k:KQ (.agg cs.toArray)) :
  oH P (.load T (.tmp 0)) T' [.pointer (some ⟨b,p,none⟩)] C KQ:=
 a2b ⟨_,rfl⟩ (fun W h=>a2j (hc W h) hu hd hi ⟨rfl,rfl⟩) k
end
end Go.Proofs
namespace PuSpec
open FdSpec TkSpec CodeSpec DkSpec JnSpec
variable {s:Stp} {lims:List Lim} {A:Ab} {p:Pst} {all sure:List a0f} {n:Nat}
end PuSpec
namespace PuSpec
open FdSpec TkSpec CodeSpec DkSpec JnSpec
variable {s:Stp} {lims:List Lim} {A:Ab} {p:Pst} {all sure:List a0f} {n:Nat}
end PuSpec
namespace PuSpec
open FdSpec TkSpec CodeSpec DkSpec JnSpec
variable {s:Stp} {lims:List Lim} {A:Ab} {p:Pst} {all sure:List a0f}
end PuSpec
namespace PuSpec
open FdSpec TkSpec CodeSpec DkSpec JnSpec
variable {s:Stp} {lims:List Lim} {A:Ab} {p:Pst} {all sure:List a0f} {n:Nat}
end PuSpec
namespace Go.Proofs
open Go Go.Sh Go.RowKit FdSpec TkSpec CodeSpec PuSpec DkSpec JnSpec
end Go.Proofs
namespace Go.Sh
open Go Go.RowKit
section
variable {P:Program} {w:World} {κ:Type} [DecidableEq κ] {mk:κ → Value}
theorem b5r {kt:TypeId} (mk:κ → Value) (heq:∀ (w:World) (a b:κ),(Op.equal kt (mk a) (mk b)).run P w = .ok (decide (a = b)) w) (w:World) (k:κ) (es:List MapEntry) (ks:List κ) (i:Nat) (h:es.map (·.key) = ks.map mk) :
  (Instr.findAsking kt (mk k) es i).run P w = .ok ((ks.findIdx? (fun x=>decide (x = k))).bind fun j=>(es[j]?).map fun e=>(i + j,e.val)) w:=by
 induction es generalizing ks i with
 | nil=>
  cases ks with
  | nil=>rfl
  | cons _ _=>simp at h
 | cons e es ih=>
  cases ks with
  | nil=>simp at h
  | cons n ks=>
   simp only [List.map_cons,List.cons.injEq] at h
   obtain ⟨h1,h2⟩:=h
   unfold Instr.findAsking
   rw [Sem.run_bind,h1,heq,Result.andThen_ok]
   by_cases hn:n = k
   ·subst hn
    rw [List.findIdx?_cons]
    simp [Sem.run_pure]
   ·have hn':¬ k = n:=fun e=>hn e.symm
    simp only [hn',decide_false,Bool.false_eq_true,if_false]
    rw [ih ks (i + 1) h2,List.findIdx?_cons]
    simp only [hn,decide_false,Bool.false_eq_true,if_false]
    cases ks.findIdx? (fun x=>decide (x = k)) with
    | none=>rfl
    | some j=>
     simp only [Option.bind_some,Option.map_some,List.getElem?_cons_succ]
     congr 1
     cases es[j]? with
     | none=>rfl
     | some e=>simp; omega
theorem b5s (w:World) {t kt et:TypeId} {b clock:Nat} {es:Array MapEntry} {l:List (κ × Value)} (K:KeyOK P kt mk) (ht:P.underlying t = some (.map kt et)) (hl:es.toList.map (fun e=>(e.key,e.val)) = l.map (fun x=>(mk x.1,x.2))) (hn:(l.map (·.1)).Nodup) (hbn:(es.toList.map (·.born)).Nodup)
  (k:κ) {z:Value} (hk:a2e l k = some z):∃ (i:Nat) (x:κ × Value) (e:MapEntry),l[i]? = some x ∧ x.1 = k ∧ es[i]? = some e ∧ e.key = mk k ∧ e.val = z ∧
   (∀ W:World,W.heap[b]? = some (.map es clock) → (Instr.mapEntry t (.map (some b)) (mk k)).run P W = .ok (.tuple #[z,.int .i64 (e.born:Int)]) { W with heap:=W.heap.setIfInBounds b (.map es clock) }) ∧
   es.findIdx? (fun e'=>(e'.born:Int) == (e.born:Int)) = some i:=by
 have hE:=fun W=>K.find W k es.toList (l.map (·.1)) (d7g hl)
 rcases a7q (w:=w) K hl k with ⟨i,x,e,h1,h2,h3,h4,h5,h6,h7⟩ | ⟨h1,h2⟩
 ·rw [h4] at hk
  cases hk
  rw [hE w] at h1
  have h1:=congrArg (fun r:Result (Option (Nat × Value))=>match r with | .ok a _=>a | _=>none) h1
  simp only at h1
  rw [h1] at hE
  obtain ⟨hi,hie⟩:=Array.getElem?_eq_some_iff.1 h5
  refine ⟨i,x,e,h2,h3,h5,h6,h7,fun W hb=>?_,?_⟩
  ·have hks:(Instr.keyThatStays e.key (mk k)).run P W = .ok (mk k) W:=by
    unfold Instr.keyThatStays
    rw [h6]
    simp only [K.same,if_true,Sem.run_pure]
   have hmod:(es.modify i fun e=>{ e with key:=mk k }) = es:=by
    apply Array.ext_getElem?
    intro j
    rw [Array.getElem?_modify]
    by_cases hij:i = j
    ·subst hij
     rw [if_pos rfl,h5,Option.map_some,← h6]
    ·rw [if_neg hij]
   unfold Instr.mapEntry
   simp only [Sem.run_bind,run_underlying ht,Result.andThen_ok,MapKept.run_getObj_map hb,K.check,hE]
   simp only [Result.andThen_ok,Sem.run_bind,Sem.run_pure,h5,Option.map_some,Option.getD_some,hks]
   rw [hmod]
   simp only [MapKept.run_setObj_map _ hb,Result.andThen_ok]
   rfl
  ·rw [Array.findIdx?_eq_some_iff_getElem]
   refine ⟨hi,by simp [hie],fun j hj=>?_⟩
   have hne:es[j].born ≠ e.born:=fun heq=>by
    have q1:(es.toList.map (·.born))[j]? = some e.born:=by
     rw [List.getElem?_map,Array.getElem?_toList,Array.getElem?_eq_getElem (by omega),Option.map_some,heq]
    have q2:(es.toList.map (·.born))[i]? = some e.born:=by
     rw [List.getElem?_map,Array.getElem?_toList,h5]; rfl
    have:=(List.getElem?_inj (gS q1).1 hbn).1 (q1.trans q2.symm)
    omega
   simp only [beq_iff_eq,Int.natCast_inj]
   exact hne
 ·rw [h2] at hk; cases hk
theorem b5t {t:TypeId} {b clock i:Nat} {es:Array MapEntry} {l:List (κ × Value)} (hl:es.toList.map (fun e=>(e.key,e.val)) = l.map (fun x=>(mk x.1,x.2))) (hn:(l.map (·.1)).Nodup) (hbn:(es.toList.map (·.born)).Nodup) (hlt:∀ e ∈ es.toList,e.born < clock)
  {x:κ × Value} {e:MapEntry} (h2:l[i]? = some x) (h5:es[i]? = some e) (h6:e.key = mk x.1) (hix:es.findIdx? (fun e'=>(e'.born:Int) == (e.born:Int)) = some i) (W:World) (hb:W.heap[b]? = some (.map es clock)) (v:Value) :
  ∃ w2,(Instr.entryStore t (.map (some b)) (.int .i64 (e.born:Int)) v).run P W = .ok () w2 ∧ MapIs mk w2 b (l.map fun y=>if y.1 = x.1 then (x.1,v) else y) ∧ W.grownBy w2 (some b) ∧ w2.heap.size = W.heap.size:=by
 unfold Instr.entryStore
 simp only [Sem.run_bind,MapKept.run_getObj_map hb,Result.andThen_ok,asInt,asIntOf,pure_bind,hix,MapKept.run_setObj_map _ hb]
 have hm:(es.modify i fun e=>{ e with val:=v }) = es.modify i fun e=>{ e with key:=mk x.1,val:=v }:=by
  apply Array.ext_getElem?
  intro j
  rw [Array.getElem?_modify,Array.getElem?_modify]
  by_cases hij:i = j
  ·subst hij
   rw [if_pos rfl,if_pos rfl,h5,Option.map_some,Option.map_some,← h6]
  ·rw [if_neg hij,if_neg hij]
 obtain ⟨m1,m2⟩:=b2v hl hn h2 v
 refine ⟨_,rfl,⟨_,clock,(MapKept.heap_set hb).1,?_,?_,?_,?_⟩,a4x _ _ _,by simp⟩
 ·rw [hm,m1]
 ·have e1:((l.map fun y=>if y.1 = x.1 then (x.1,v) else y).map (·.1)) = l.map (·.1):=by
   rw [List.map_map]
   apply List.map_congr_left
   intro y _
   simp only [Function.comp_apply]
   split
   ·rename_i h; exact h.symm
   ·rfl
  rw [e1]; exact hn
 ·rw [hm,m2]; exact hbn
 ·intro e' he'
  rw [hm] at he'
  have:e'.born ∈ (es.toList.map (·.born)):=by rw [← m2]; exact List.mem_map_of_mem he'
  obtain ⟨e'',he'',heq⟩:=List.mem_map.1 this
  rw [← heq]; exact hlt e'' he''
theorem d7n {t kt et:TypeId} {z:Value} {b:Nat} {l:List (κ × Value)} (K:KeyOK P kt mk) (ht:P.underlying t = some (.map kt et)) (hz:∀ w,(zeroValue et).run P w = .ok z w) (h:MapIs mk w b l) (k:κ) :
  ∃ (o0 o1:Obj) (s:Int),w.heap[b]? = some o0 ∧
   (∀ W:World,W.heap[b]? = some o0 ∨ W.heap[b]? = some o1 → (Instr.lookup t (.map (some b)) (mk k) false).run P W = .ok ((a2e l k).getD z) W) ∧
   (∀ W:World,W.heap[b]? = some o0 ∨ W.heap[b]? = some o1 → (Instr.mapEntry t (.map (some b)) (mk k)).run P W = .ok (.tuple #[(a2e l k).getD z,.int .i64 s]) { W with heap:=W.heap.setIfInBounds b o1 }) ∧
   (∀ (W:World) (v:Value),W.heap[b]? = some o1 → ∃ w2,(Instr.entryStore t (.map (some b)) (.int .i64 s) v).run P W = .ok () w2 ∧ MapIs mk w2 b (b6p l k v) ∧ W.grownBy w2 (some b) ∧ w2.heap.size = W.heap.size):=by
 obtain ⟨es,clock,hb,hl,hn,hbn,hlt⟩:=h
 cases hk:a2e l k with
 | some z'=>
  obtain ⟨i,x,e,h2,rfl,h5,h6,h7,hrun,hix⟩:=b5s w (b:=b) (clock:=clock) K ht hl hn hbn k hk
  refine ⟨.map es clock,.map es clock,(e.born:Int),hb,fun W hW=>?_,fun W hW=>hrun W (hW.elim id id),fun W v hW=>?_⟩
  ·have:=a6a (w:=W) K ht hz ⟨es,clock,hW.elim id id,hl,hn,hbn,hlt⟩ x.1
   rw [hk] at this
   exact this
  ·obtain ⟨w2,r1,r2,r3⟩:=b5t (t:=t) (b:=b) hl hn hbn hlt h2 h5 h6 hix W hW v
   refine ⟨w2,r1,?_,r3⟩
   unfold b6p
   rw [hk]
   exact r2
 | none=>
  have hput:b6p l k z = l ++ [(k,z)]:=by unfold b6p; rw [hk]; rfl
  have hl1:(es.push { key:=mk k,val:=z,born:=clock }).toList.map (fun e=>(e.key,e.val)) = (l ++ [(k,z)]).map (fun x=>(mk x.1,x.2)):=by simp [hl]
  have hn1:((l ++ [(k,z)]).map (·.1)).Nodup:=by rw [← hput]; exact b1q l k z hn
  have hbn1:((es.push { key:=mk k,val:=z,born:=clock }).toList.map (·.born)).Nodup:=by
   simp only [Array.toList_push,List.map_append,List.map_cons,List.map_nil]
   rw [List.nodup_append]
   refine ⟨hbn,by simp,?_⟩
   intro a ha c hc
   obtain ⟨e',he',rfl⟩:=List.mem_map.1 ha
   have:=hlt e' he'
   simp at hc
   omega
  have hlt1:∀ e ∈ (es.push { key:=mk k,val:=z,born:=clock }).toList,e.born < clock + 1:=by
   intro e' he'
   simp only [Array.toList_push,List.mem_append,List.mem_singleton] at he'
   rcases he' with he' | rfl
   ·have:=hlt e' he'; omega
   ·simp
  have hk1:a2e (l ++ [(k,z)]) k = some z:=by rw [← hput,a8p]; simp
  obtain ⟨i,x,e,h2,hx,h5,h6,h7,hrun,hix⟩:=b5s w (b:=b) (clock:=clock + 1) K ht hl1 hn1 hbn1 k hk1
  have hsize:es.size = l.length:=by have:=congrArg List.length hl; simpa using this
  have hxi:i = l.length:=by
   have hil:=(gS h2).1
   simp only [List.length_append,List.length_cons,List.length_nil] at hil
   refine Classical.byContradiction fun hne=>?_
   have hlt:i < l.length:=by omega
   rw [List.getElem?_append_left hlt] at h2
   have:=(a2f l k).2 (by rw [← hx]; exact List.mem_map_of_mem (List.mem_of_getElem? h2))
   rw [hk] at this
   cases this
  have heb:e.born = clock:=by
   rw [hxi,← hsize,Array.getElem?_push_size] at h5
   simp only [Option.some.injEq] at h5
   rw [← h5]
  have hxx:x = (k,z):=by
   rw [hxi,List.getElem?_append_right (rL),Nat.sub_self] at h2
   simpa using h2.symm
  subst hxx
  refine ⟨.map es clock,.map (es.push { key:=mk k,val:=z,born:=clock }) (clock + 1),(clock:Int),hb,fun W hW=>?_,fun W hW=>?_,fun W v hW=>?_⟩
  ·rcases hW with hW | hW
   ·have:=a6a (w:=W) K ht hz ⟨es,clock,hW,hl,hn,hbn,hlt⟩ k
    rw [hk] at this
    exact this
   ·have:=a6a (w:=W) K ht hz ⟨_,clock + 1,hW,hl1,hn1,hbn1,hlt1⟩ k
    rw [hk1] at this
    exact this
  ·rcases hW with hW | hW
   ·unfold Instr.mapEntry
    simp only [Sem.run_bind,run_underlying ht,Result.andThen_ok,MapKept.run_getObj_map hW,K.check]
    rcases a7q (w:=W) K hl k with ⟨i,x,e,h1,h2,h3,h4,h5,h6,h7⟩ | ⟨h1,h2⟩
    ·rw [hk] at h4; cases h4
    ·rw [h1]
     simp only [Result.andThen_ok,Sem.run_bind,hz,MapKept.run_setObj_map _ hW,Sem.run_pure]
     rfl
   ·have:=hrun W hW
    rw [heb] at this
    exact this
  ·obtain ⟨w2,r1,r2,r3⟩:=b5t (t:=t) (b:=b) hl1 hn1 hbn1 hlt1 h2 h5 h6 hix W hW v
   rw [heb] at r1
   refine ⟨w2,r1,?_,r3⟩
   have e1:((l ++ [(k,z)]).map fun y=>if y.1 = k then (k,v) else y) = b6p l k v:=by
    unfold b6p
    rw [hk,List.map_append]
    have:(l.map fun y=>if y.1 = k then (k,v) else y) = l:=by
     conv=>rhs; rw [← List.map_id l]
     apply List.map_congr_left
     intro y hy
     rw [if_neg]
     ·rfl
     ·intro e
      have:=(a2f l k).2 (by rw [← e]; exact List.mem_map_of_mem hy)
      rw [hk] at this
      cases this
    rw [this]
    simp
   rw [← e1]
   exact r2
end
end Go.Sh
namespace Go.Proofs
open Go Go.Sh Go.RowKit FdSpec TkSpec CodeSpec PuSpec DkSpec JnSpec
@[reducible] def b2d (l:Int × Int × Int):List Value:=[.int .i64 l.1,.int .i64 l.2.1,.int .i64 l.2.2]
@[reducible] def g3r (l:Int × Int × Int):Value:=.agg #[.int .i64 l.1,.int .i64 l.2.1,.int .i64 l.2.2]
@[reducible] def lwV (p:Int × Int):Value:=.agg #[.int .i64 p.1,.int .i64 p.2,.int .i64 0]
theorem g4m:KeyOK Tryz.prog 26 b3b where
 find:=fun w k es ks h=>by
  refine (run_findKey_eq w (by kernel_rfl) _ _).trans ?_
  have:=b5r (P:=Tryz.prog) (kt:=26) b3b (fun w a b=>by
   have u3:=Tryz.underlying3
   have e:decide (a = b) = ((a.mark == b.mark) && (a.first == b.first) && (a.z == b.z) && (a.a == b.a) && (a.b == b.b) && (a.r == b.r)):=by
    obtain ⟨a1,a2,a3,a4,a5,a6⟩:=a
    obtain ⟨b1,b2,b3,b4,b5,b6⟩:=b
    simp [Tkt.mk.injEq,and_assoc,Bool.and_assoc]
    rfl
   rw [e]
   show (Op.equalIn (9999 + 1) 26 (b3b a) (b3b b)).run Tryz.prog w = _
   rw [run_equalIn_agg w 9999 26 _ _ (by kernel_rfl) (by kernel_rfl)]
   simp [go_sem,Program.fieldsOf,Tryz.underlying26,Op.eqFields,part,u3]
   repeat' split
   all_goals simp_all) w k es ks 0 h
  simpa using this
 check:=fun b w k=>by
  have h:∀ n,(Instr.checkKey b (n + 2) 26 (b3b k)).run Tryz.prog w = .ok () w:=by
   intro n
   simp [Instr.checkKey,b3b,go_sem]
  exact h 9998
 same:=fun k=>by simp [b3b,Instr.sameBits]
theorem g5d:KeyOK Tryz.prog 107 lwV where
 find:=fun w k es ks h=>by
  refine (run_findKey_eq w (by kernel_rfl) _ _).trans ?_
  have:=b5r (P:=Tryz.prog) (kt:=107) lwV (fun w a b=>by
   have u3:=Tryz.underlying3
   have e:decide (a = b) = ((a.1 == b.1) && (a.2 == b.2)):=by
    obtain ⟨a1,a2⟩:=a
    obtain ⟨b1,b2⟩:=b
    simp [Prod.mk.injEq]
    rfl
   rw [e]
   show (Op.equalIn (9999 + 1) 107 (lwV a) (lwV b)).run Tryz.prog w = _
   rw [run_equalIn_agg w 9999 107 _ _ (by kernel_rfl) (by kernel_rfl)]
   simp [go_sem,Program.fieldsOf,Tryz.underlying107,Op.eqFields,part,u3]
   repeat' split
   all_goals simp_all) w k es ks 0 h
  simpa using this
 check:=fun b w k=>by
  have h:∀ n,(Instr.checkKey b (n + 2) 107 (lwV k)).run Tryz.prog w = .ok () w:=by
   intro n
   simp [Instr.checkKey,lwV,go_sem]
  exact h 9998
 same:=fun k=>by simp [lwV,Instr.sameBits]
end Go.Proofs
namespace Go.Proofs
open Go.Sh Tryz
end Go.Proofs
namespace Go.Proofs
open Go Go.Sh Go.RowKit FdSpec TkSpec CodeSpec PuSpec DkSpec JnSpec
end Go.Proofs
namespace PuSpec
open FdSpec TkSpec CodeSpec DkSpec JnSpec
variable {s:Stp} {lims:List Lim} {A:Ab} {p:Pst} {all sure:List a0f} {n:Nat}
end PuSpec
namespace Go.Proofs
open Go Go.Sh Go.RowKit FdSpec TkSpec CodeSpec PuSpec DkSpec JnSpec
end Go.Proofs
namespace Go.Proofs
open Go.Sh Tryz
variable {a0 a1:Value} {K:VK} {w:World}
def f0u (a0:Value) (K:VK) (w:World):Prop:=
 kB .neq 3 4 a0 a0 (fun v5=>
 K v5) w
theorem d4e (h:f0u a0 K w):a0a prog 153 #[a0] K w:=
 cZ (fun _=>0) func153 h
def f0v (a0:Value) (K:VK) (w:World):Prop:=
 kN 22 a0 (fun v7=>
 kQ [undef,(.int .i64 0),(.int .i64 0)] fun J_2 m_3 l_4 u_l_4 w0_l_4=>(fun w=>(
 kB .lss 3 0 (l_4.getD 2 undef) v7 (fun v9=>
 kO v9 (kI 22 a0 (l_4.getD 2 undef) fun v10=>
 kL 3 v10 fun v11=>
 kB .neq 3 4 v11 (.int .i64 0) fun v14=>
 kO v14 (K v11)
 (kB .add 3 3 (l_4.getD 2 undef) (.int .i64 1) fun v16=>
 kJ J_2 m_3 l_4 w0_l_4 [v11,(l_4.getD 1 undef),v16]))
 (K (.int .i64 0))) w)) w0_l_4) w
theorem d4f (h:f0v a0 K w):a0a prog 103 #[a0] K w:=
 cZ (fun _=>0) func103 h
def f0w (a0 a1:Value) (K:VK) (w:World):Prop:=
 a0a prog 153 #[a0] (fun v8=>
 a0a prog 153 #[a1] fun v10=>
 kO v8 (kO v10 (K (.int .i64 0))
 (K (.int .i64 (-1))))
 (kO v10 (K (.int .i64 1))
 (kB .lss 3 4 a0 a1 fun v16=>
 kO v16 (K (.int .i64 (-1)))
 (kB .gtr 3 4 a0 a1 fun v19=>
 kO v19 (K (.int .i64 1))
 (K (.int .i64 0)))))) w
theorem d4g (h:f0w a0 a1 K w):a0a prog 104 #[a0,a1] K w:=
 cZ (fun _=>0) func104 h
def f8f (a0:Value) (K:VK) (w:World):Prop:=
 kQ [(.int .i64 0),(.int .i64 0),(.int .i64 0)] (fun J_1 m_2 l_3 u_l_3 w0_l_3=>(fun w=>(
 kN 104 a0 (fun v7=>
 kB .lss 3 4 (l_3.getD 2 undef) v7 fun v8=>
 kO v8 (kI 104 a0 (l_3.getD 2 undef) fun v13=>
 kF 107 2 v13 fun v14=>
 kL 3 v14 fun v15=>
 kB .lss 3 4 v15 (.int .i64 1) fun v16=>
 kO v16 (K (.int .i64 (-1)))
 (kI 104 a0 (l_3.getD 2 undef) fun v20=>
 kF 107 2 v20 fun v21=>
 kL 3 v21 fun v22=>
 kB .add 3 3 (l_3.getD 1 undef) v22 fun v23=>
 kB .add 3 3 (l_3.getD 2 undef) (.int .i64 1) fun v10=>
 kJ J_1 m_2 l_3 w0_l_3 [(l_3.getD 0 undef),v23,v10]))
 (K (l_3.getD 1 undef))) w)) w0_l_3) w
theorem e3t (h:f8f a0 K w):a0a prog 50 #[a0] K w:=
 cZ (fun _=>0) func50 h
def f0x (a0 a1:Value) (K:VK) (w:World):Prop:=
 oM prog (.box 107 (.tmp 0)) 0 [a0] (fun v2=>
 oM prog (.box 107 (.tmp 0)) 0 [a1] fun v3=>
 kH fun C_3 w=>(((true:Bool) = true) ∧ (jF 107 0 v2 C_3 fun v5=>
 jL 3 v5 C_3 fun v6=>
 jF 107 0 v3 C_3 fun v7=>
 jL 3 v7 C_3 fun v8=>
 jF 107 1 v2 C_3 fun v10=>
 jL 3 v10 C_3 fun v11=>
 jF 107 1 v3 C_3 fun v12=>
 jL 3 v12 C_3 fun v13=>
 ∃ S_12:World → WK,xR S_12 fun R_13=>
 (∀ w,C_3 w → (a0a prog 104 #[v6,v8] (xK C_3 S_12 R_13 w) w)) ∧
 (∀ w,C_3 w → ∀ v9,R_13 v9 w → (
 a0a prog 104 #[v11,v13] (fun v14=>
 oM prog (.buildSlice 22 2 #[(0,(.tmp 0)),(1,(.tmp 1))]) 22 [v9,v14] fun v15=>
 a0a prog 103 #[v15] fun v16=>
 K v16) w))))) w
theorem d4h (h:f0x a0 a1 K w):a0a prog 102 #[a0,a1] K w:=
 cZ (fun _=>.free [0,1,2,3,5,6,7,8] [4] [9,10,11,12]) func102 h
end Go.Proofs
namespace PuSpec
open FdSpec TkSpec CodeSpec
def a1b:List Tkt → List Hld → List (Int × Int)
 | _,[]=>[]
 | known,h :: hs=>if h.t ∈ known then a1b known hs else (h.limit,h.window) :: a1b (h.t :: known) hs
def b3i (l:List Hld):Prop:=l.Pairwise fun a b=>a.t ≠ b.t
theorem a7i:∀ (hs:List Hld) (known seen:List Tkt),b3i hs → (∀ h ∈ hs,(h.t ∈ known ↔ h.t ∈ seen)) → a1b known hs = (hs.filter fun h=>!decide (h.t ∈ seen)).map fun h=>(h.limit,h.window)
 | [],_,_,_,_=>rfl
 | h :: hs,known,seen,ha,hk=>by
  obtain ⟨h1,h2⟩:=List.pairwise_cons.1 ha
  rw [a1b]
  by_cases hm:h.t ∈ known
  ·rw [if_pos hm,List.filter_cons_of_neg (by simp [(hk h (by simp)).1 hm])]
   exact a7i hs known seen h2 fun x hx=>hk x (by simp [hx])
  ·have hs':h.t ∉ seen:=fun e=>hm ((hk h (by simp)).2 e)
   rw [if_neg hm,List.filter_cons_of_pos (by simp [hs']),List.map_cons]
   congr 1
   refine a7i hs (h.t :: known) seen h2 fun x hx=>?_
   have hne:=h1 x hx
   rw [List.mem_cons]
   constructor
   ·rintro (e | e)
    ·exact absurd e.symm hne
    ·exact (hk x (by simp [hx])).1 e
   ·intro e; exact .inr ((hk x (by simp [hx])).2 e)
theorem a7j {hs:List Hld} {seen:List Tkt} (ha:b3i hs):(a1b seen hs).length = (hs.filter fun h=>!decide (h.t ∈ seen)).length:=by
 rw [a7i hs seen seen ha fun _ _=>Iff.rfl,List.length_map]
theorem c1v {hs:List Hld} (ha:b3i hs):(a1b [] hs).length = hs.length:=by
 rw [a7j ha]
 congr 1
 rw [List.filter_eq_self]
 simp
theorem c1w (more:Tkt) (seen:List Tkt):∀ {hs:List Hld},b3i hs → (a1b (seen ++ [more]) hs).length ≤ (a1b seen hs).length ∧ (a1b seen hs).length ≤ (a1b (seen ++ [more]) hs).length + 1:=by
 intro hs ha
 rw [a7j ha,a7j ha]
 induction hs with
 | nil=>simp
 | cons h hs ih=>
  obtain ⟨h1,h2⟩:=List.pairwise_cons.1 ha
  have ih:=ih h2
  by_cases hm:h.t ∈ seen
  ·rw [List.filter_cons_of_neg (by simp [hm]),List.filter_cons_of_neg (by simp [hm])]
   exact ih
  ·by_cases he:h.t = more
   ·rw [List.filter_cons_of_neg (by simp [he]),List.filter_cons_of_pos (by simp [hm]),List.length_cons]
    have e:(hs.filter fun x=>!decide (x.t ∈ seen ++ [more])) = hs.filter fun x=>!decide (x.t ∈ seen):=by
     apply List.filter_congr
     intro x hx
     have:=h1 x hx
     rw [he] at this
     have hn:x.t ≠ more:=fun e=>this e.symm
     simp [hn]
    rw [e]
    omega
   ·rw [List.filter_cons_of_pos (by simp [hm,he]),List.filter_cons_of_pos (by simp [hm]),List.length_cons,List.length_cons]
    omega
structure Sums (l:List (Int × Int × Int)) (ps:List (Int × Int)):Prop where
 asc:l.Pairwise fun a b=>a.1 < b.1 ∨ a.1 = b.1 ∧ a.2.1 < b.2.1
 cnt:∀ e ∈ l,e.2.2 = (ps.count (e.1,e.2.1):Nat) ∧ (e.1,e.2.1) ∈ ps
 all:∀ p ∈ ps,∃ n,(p.1,p.2,n) ∈ l
def a3l:List (Int × Int × Int) → Int
 | []=>0
 | e :: l=>e.2.2 + a3l l
theorem Sums.pos {l:List (Int × Int × Int)} {ps:List (Int × Int)} (h:Sums l ps):∀ e ∈ l,1 ≤ e.2.2:=by
 intro e he
 obtain ⟨h1,h2⟩:=h.cnt e he
 have:=List.count_pos_iff.2 h2
 omega
theorem b3j:∀ (l:List (Int × Int × Int)) (ps:List (Int × Int)),l.Pairwise (fun a b=>a.1 < b.1 ∨ a.1 = b.1 ∧ a.2.1 < b.2.1) → (∀ e ∈ l,e.2.2 = (ps.count (e.1,e.2.1):Nat)) → (∀ p ∈ ps,∃ n,(p.1,p.2,n) ∈ l) → a3l l = ps.length
 | [],ps,_,_,ha=>by
  rcases ps with _ | ⟨p,ps⟩
  ·rfl
  ·obtain ⟨n,hn⟩:=ha p (by simp)
   cases hn
 | e :: l,ps,hp,hc,ha=>by
  obtain ⟨h1,h2⟩:=List.pairwise_cons.1 hp
  have hne:∀ f ∈ l,(f.1,f.2.1) ≠ (e.1,e.2.1):=by
   intro f hf heq
   rw [Prod.mk.injEq] at heq
   have:=h1 f hf
   omega
  have ih:=b3j l (ps.filter fun p=>!decide (p = (e.1,e.2.1))) h2 (fun f hf=>by
   rw [hc f (by simp [hf]),List.count_filter]
   have:=hne f hf
   simp only [ne_eq,Prod.mk.injEq,not_and] at this
   simp only [Bool.not_eq_true',decide_eq_false_iff_not,Prod.mk.injEq,not_and]
   exact this) (fun p hpm=>by
   obtain ⟨hm,hq⟩:=List.mem_filter.1 hpm
   obtain ⟨n,hn⟩:=ha p hm
   rcases List.mem_cons.1 hn with hn | hn
   ·exfalso
    have:p = (e.1,e.2.1):=by rw [← hn]
    simp [this] at hq
   ·exact ⟨n,hn⟩)
  rw [a3l,ih,hc e (by simp)]
  have:=List.length_eq_countP_add_countP (fun p=>decide (p = (e.1,e.2.1))) (l:=ps)
  have e1:ps.countP (fun p=>decide (p = (e.1,e.2.1))) = ps.count (e.1,e.2.1):=by
   rw [List.count]
   congr 1
   funext x
   by_cases hx:x = (e.1,e.2.1)
   ·simp [hx]
   ·rw [decide_eq_false hx,beq_false_of_ne hx]
  rw [List.countP_eq_length_filter (p:=fun a=>decide ¬ (fun p=>decide (p = (e.1,e.2.1))) a = true)] at this
  have e2:(ps.filter fun a=>decide ¬ (fun p=>decide (p = (e.1,e.2.1))) a = true) = ps.filter fun p=>!decide (p = (e.1,e.2.1)):=by
   apply List.filter_congr
   intro x _
   simp
  rw [e2] at this
  omega
theorem Sums.total {l:List (Int × Int × Int)} {ps:List (Int × Int)} (h:Sums l ps):a3l l = ps.length:=b3j l ps h.asc (fun e he=>(h.cnt e he).1) h.all
end PuSpec
namespace Go.Proofs
open Go Go.Sh Go.RowKit Go.Sort FdSpec TkSpec CodeSpec PuSpec DkSpec JnSpec
def f2u (a b:Int):Int:=if a < b then -1 else if b < a then 1 else 0
def e8c (x y:Int × Int × Int):Int:=if f2u x.1 y.1 ≠ 0 then f2u x.1 y.1 else f2u x.2.1 y.2.1
def d1h (_:World) (c:List Value) (e:Int × Int × Int):Prop:=c = b2d e
section
variable {K:VK} {w w' w0 W W':World} {L:List (Addr × Value)} {rb b:Nat}
theorem c8o (n:Int) (k:K (.bool false) w):a0a Tryz.prog 153 #[.int .i64 n] K w:=by
 apply d4e
 unfold f0u
 repeat (any_goals ((with_reducible refine oG fun X Y=>?_); simp [go_sem]; apply Y; clear Y X))
 exact k
theorem b8k (a b:Int) (k:K (.int .i64 (f2u a b)) w):a0a Tryz.prog 104 #[.int .i64 a,.int .i64 b] K w:=by
 apply d4g
 unfold f0w
 refine c8o a ?_
 refine c8o b ?_
 unfold f2u at k
 by_cases h1:a < b
 ·rw [if_pos h1] at k
  repeat (any_goals (first
  | (with_reducible ((refine a1d ?_); first|refine yL ?_|refine yM ?_))
  | ((with_reducible refine oG fun X Y=>?_); simp [go_sem,h1]; apply Y; clear Y X)))
  exact k
 ·rw [if_neg h1] at k
  by_cases h2:b < a
  ·rw [if_pos h2] at k
   repeat (any_goals (first
   | (with_reducible ((refine a1d ?_); first|refine yL ?_|refine yM ?_))
   | ((with_reducible refine oG fun X Y=>?_); simp [go_sem,h1,h2]; apply Y; clear Y X)))
   exact k
  ·rw [if_neg h2] at k
   repeat (any_goals (first
   | (with_reducible refine yM ?_)
   | ((with_reducible refine oG fun X Y=>?_); simp [go_sem,h1,h2]; apply Y; clear Y X)))
   exact k
theorem g3s {v:Value} (a b:Int) (hv:Ints w v [a,b]) (k:K (.int .i64 (if a ≠ 0 then a else b)) w):a0a Tryz.prog 103 #[v] K w:=by
 apply d4f
 unfold f0v
 obtain ⟨ad,c,rfl⟩:=hv.isSlice
 obtain ⟨lb,lo,rfl,hlb,h0,i0,-⟩:=hv.at (i:=0) (by simp)
 obtain ⟨lb',lo',e,hlb',h1,i1,-⟩:=hv.at (i:=1) (by simp)
 cases e
 have h0:=h0 w (bR)
 have h1:=h1 w (bR)
 simp only [List.getElem_cons_zero,List.getElem_cons_succ,Nat.add_zero] at h0 h1
 have e2:(([a,b]:List Int).length:Int) = 2:=rfl
 repeat (any_goals ((with_reducible refine oG fun X Y=>?_); simp [go_sem,e2]; apply Y; clear Y X))
 refine ⟨fun vs W=>∃ (u:Value) (i:Nat),vs = [u,.int .i64 0,.int .i64 (i:Int)] ∧ i ≤ 2 ∧ (0 < i → a = 0) ∧ (1 < i → b = 0) ∧ W = w,
  (fun vs _=>match vs with | [_,_,.int _ i]=>2 - i.toNat | _=>0),⟨_,0,rfl,by omega,by omega,by omega,rfl⟩,?_⟩
 rintro _ _ _ ⟨u,i,rfl,hi,ha,hb,rfl⟩
 have hi3:i = 0 ∨ i = 1 ∨ i = 2:=by omega
 rcases hi3 with rfl | rfl | rfl
 ·by_cases a0:a = 0
  ·repeat (any_goals (first
   | (with_reducible ((refine a1d ?_); first|refine yL ?_|refine yM ?_))
   | ((with_reducible refine oG fun X Y=>?_); simp [go_sem,h0,a0]; (try simp (disch:=omega) only [a0j,a1k,a0p]); apply Y; clear Y X)))
   exact ⟨⟨_,1,rfl,by omega,fun _=>a0,by omega,rfl⟩,by show 2 - ((1:Nat):Int).toNat < 2 - ((0:Nat):Int).toNat; omega⟩
  ·rw [if_pos a0] at k
   repeat (any_goals (first
   | (with_reducible refine yL ?_)
   | ((with_reducible refine oG fun X Y=>?_); simp [go_sem,h0,a0]; apply Y; clear Y X)))
   exact k
 ·have a0:=ha (by omega)
  rw [if_neg (by simp [a0])] at k
  by_cases hbz:b = 0
  ·repeat (any_goals (first
   | (with_reducible ((refine a1d ?_); first|refine yL ?_|refine yM ?_))
   | ((with_reducible refine oG fun X Y=>?_); simp [go_sem,h1,hbz]; (try simp (disch:=omega) only [a0j,a1k,a0p]); apply Y; clear Y X)))
   exact ⟨⟨_,2,rfl,by omega,fun _=>a0,fun _=>hbz,rfl⟩,by show 2 - ((2:Nat):Int).toNat < 2 - ((1:Nat):Int).toNat; omega⟩
  ·repeat (any_goals (first
   | (with_reducible refine yL ?_)
   | ((with_reducible refine oG fun X Y=>?_); simp [go_sem,h1,hbz]; apply Y; clear Y X)))
   exact k
 ·have a0:=ha (by omega)
  have hbz:=hb (by omega)
  rw [if_neg (by simp [a0]),hbz] at k
  repeat (any_goals (first
  | (with_reducible refine yM ?_)
  | ((with_reducible refine oG fun X Y=>?_); simp [go_sem]; apply Y; clear Y X)))
  exact k
def Gr (w w':World):Prop:=∃ (q:Nat) (os:Array Obj),w' = grow (w.drewN q) os
theorem Gr.refl (w:World):Gr w w:=⟨0,#[],by simp [grow,World.drewN]⟩
theorem Gr.trans {w1 w2:World} (a:Gr w w1) (b:Gr w1 w2):Gr w w2:=by
 obtain ⟨q,os,rfl⟩:=a
 obtain ⟨r,os',rfl⟩:=b
 exact ⟨q + r,os ++ os',by simp [grow,World.drewN,Array.append_assoc,Nat.add_assoc]⟩
theorem Gr.alloc (w:World) (o:Obj):Gr w (w.alloc o):=⟨0,#[o],by rw [alloc_eq_grow]; rfl⟩
theorem Gr.drawn (w:World):Gr w { w with drawn:=w.drawn + 1 }:=⟨1,#[],by rw [grow_empty]; rfl⟩
theorem Gr.below (h:Gr w w'):Bw w w':=by
 obtain ⟨q,os,rfl⟩:=h
 refine ⟨rfl,rfl,rfl,by simp [grow,World.drewN],fun i hi=>?_⟩
 simp only [grow,World.drewN]
 rw [Array.getElem?_append_left hi]
theorem g5e {T:TypeId} (a b:Int) (ha:I64 a) (hb:I64 b) (k:∀ v W,Gr w W → Ints W v [a,b] → K v W):oM Tryz.prog (.buildSlice 22 2 #[(0,.tmp 0),(1,.tmp 1)]) T [.int .i64 a,.int .i64 b] K w:=by
 rw [a5n (S:=Instr.buildSlice 22 2 #[(0,.int .i64 a),(1,.int .i64 b)]) (by simp [xop,execOp,a0v,evE])]
 have e:(Instr.buildSlice 22 2 #[(0,.int .i64 a),(1,.int .i64 b)]).run Tryz.prog w = .ok (.slice (some ⟨w.heap.size,0,none⟩) 2 2) (w.alloc (.cells #[.int .i64 a,.int .i64 b] 3)):=by kernel_rfl
 rw [e]
 exact k _ _ (Gr.alloc _ _) (a4d w [a,_] _ 2 (by simp; exact ⟨ha,hb⟩) (by simp))
theorem c8p (a b:Int):I64 (f2u a b):=by
 unfold f2u
 split
 ·exact ⟨by decide,by decide⟩
 ·split <;> exact ⟨by decide,by decide⟩
theorem g4n {T T':TypeId} {x:Value} {cs:List Value} (hx:x.cells = cs.toArray) (k:∀ g W,Gr w W → w.heap.size ≤ g → Holds W g T cs → K (ptr g 0) W):oM Tryz.prog (.box T (.tmp 0)) T' [x] K w:=by
 rw [d7t]
 have e:(Instr.box T x).run Tryz.prog w = .ok (.pointer (some ⟨w.heap.size,0,none⟩)) (w.alloc (.cells cs.toArray T)):=by
  rw [← hx]; rfl
 rw [e]
 refine k _ _ (Gr.alloc _ _) (rL) ?_
 exact heap_alloc_new w _
theorem g1j (x y:Int × Int × Int) (k:∀ w',Gr w w' → K (.int .i64 (e8c x y)) w'):a0a Tryz.prog 102 #[g3r x,g3r y] K w:=by
 apply d4h
 unfold f0x
 refine g4n (cs:=b2d x) rfl (fun g1 w1 h1 hg1 hH1=>?_)
 refine g4n (cs:=b2d y) rfl (fun g2 w2 h2 hg2 hH2=>?_)
 have hH1:=hH1.next h2.below
 have h02:=h1.trans h2
 have hd:=Gr.drawn w2
 refine ⟨Gr { w2 with drawn:=w2.drawn + 1 },Gr.refl _,rfl,?_⟩
 have h03:=h02.trans hd
 have hH1:=hH1.next hd.below
 have hH2:=hH2.next hd.below
 generalize ({ w2 with drawn:=w2.drawn + 1 }:World) = w3 at h03 hH1 hH2 ⊢
 have p0:∀ W0,Gr w3 W0 → W0.cell? ⟨g1,0,none⟩ = some (.int .i64 x.1):=fun W0 h=>a3z (hH1.next h.below) (j:=0) rfl
 have p1:∀ W0,Gr w3 W0 → W0.cell? ⟨g1,1,none⟩ = some (.int .i64 x.2.1):=fun W0 h=>a3z (hH1.next h.below) (j:=1) rfl
 have q0:∀ W0,Gr w3 W0 → W0.cell? ⟨g2,0,none⟩ = some (.int .i64 y.1):=fun W0 h=>a3z (hH2.next h.below) (j:=0) rfl
 have q1:∀ W0,Gr w3 W0 → W0.cell? ⟨g2,1,none⟩ = some (.int .i64 y.2.1):=fun W0 h=>a3z (hH2.next h.below) (j:=1) rfl
 repeat (any_goals ((with_reducible refine b0d ?_); (with_reducible refine a2b ⟨_,rfl⟩ (fun W0 hW0=>by (refine oG (fun X Y=>?_)); simp [go_sem,p0 _ hW0,p1 _ hW0,q0 _ hW0,q1 _ hW0]; (first | exact Y _ _ ⟨rfl,rfl⟩ | exact ⟨by omega,Y _ _ ⟨rfl,rfl⟩⟩)) ?_)))
 refine ⟨Gr,?_⟩
 apply a6k
 ·intro w4 h4
  exact b8k x.1 y.1 ⟨h4,Gr.refl _,rfl⟩
 rintro w4 h4 _ rfl
 refine b8k x.2.1 y.2.1 ?_
 refine g5e _ _ (c8p _ _) (c8p _ _) (fun v w5 h5 hI=>?_)
 refine g3s _ _ hI ?_
 exact k w5 ((h03.trans h4).trans h5)
@[go_sem] theorem g1w (T:TypeId) (b o n c:Nat) (x:Int):oM Tryz.prog (.indexAddr 104 (.tmp 0) (.tmp 1)) T [.slice (some ⟨b,o,none⟩) n c,.int .i64 x] = onM (0 ≤ x ∧ x < n) (.pointer (some ⟨b,o + x.toNat * 3,none⟩)):=
 a9c (K:=fun _ _=>True) (P:=Tryz.prog) (n:=3) 104 T (by kernel_rfl) (fun w=>by kernel_rfl) b o n c x
theorem c3o {P:Program} {t T:TypeId} {x i v:Value} (h:(Instr.lookup t x i false).run P w = .ok v w') (k:K v w'):oM P (.lookup t (.tmp 0) (.tmp 1) false) T [x,i] K w:=by rw [d7m,h,b5x]; exact k
theorem c3p {P:Program} {t T:TypeId} {m i x:Value} (h:(Instr.mapUpdate t m i x).run P w = .ok () w') (k:K undef w'):oM P (.mapUpdate t (.tmp 0) (.tmp 1) (.tmp 2)) T [m,i,x] K w:=by rw [c2n,h,g0i]; exact k
theorem e0f {P:Program} {t T:TypeId} {m i v:Value} (h:(Instr.mapEntry t m i).run P w = .ok v w') (k:K v w'):oM P (.mapEntry t (.tmp 0) (.tmp 1)) T [m,i] K w:=by rw [c5i,h,b5x]; exact k
theorem e0g {P:Program} {t T:TypeId} {m i x:Value} (h:(Instr.entryStore t m i x).run P w = .ok () w') (k:K undef w'):oM P (.entryStore t (.tmp 0) (.tmp 1) (.tmp 2)) T [m,i,x] K w:=by rw [b9i,h,g0i]; exact k
theorem e8d {P:Program} {t T:TypeId} {x v:Value} (h:(Instr.range t x).run P w = .ok v w') (k:K v w'):oM P (.range t (.tmp 0)) T [x] K w:=by rw [e6d,h,b5x]; exact k
theorem e0h {P:Program} {T:TypeId} {x v:Value} (h:(Instr.next x false T).run P w = .ok v w') (k:K v w'):oM P (.next (.tmp 0) false) T [x] K w:=by rw [f4g,h,b5x]; exact k
theorem e8e {P:Program} {T:TypeId} {x v:Value} (h:(Instr.entry x).run P w = .ok v w') (k:K v w'):oM P (.entry (.tmp 0)) T [x] K w:=by rw [e6e,h,b5x]; exact k
theorem e8f (T:TypeId) (a b:Int):oM Tryz.prog (Go.Op.build 107 #[(0,(.tmp 0)),(1,(.tmp 1))]) T [.int .i64 a,.int .i64 b] = a0c (lwV (a,b)):=by
 funext K w
 kernel_rfl
theorem c0f (a b:List (Int × Int × Int)):a3l (a ++ b) = a3l a + a3l b:=by
 induction a with
 | nil=>simp [a3l]
 | cons x a ih=>rw [List.cons_append,a3l,a3l,ih]; omega
theorem c3q (l:List (Int × Int × Int)) (h:∀ e ∈ l,1 ≤ e.2.2 ∧ e.2.2 ≤ 1000):0 ≤ a3l l ∧ a3l l ≤ 1000 * l.length:=by
 induction l with
 | nil=>simp [a3l]
 | cons x l ih=>
  have:=h x (by simp)
  have:=ih (fun e he=>h e (by simp [he]))
  rw [a3l,List.length_cons]
  omega
theorem c0g (l:List (Int × Int × Int)) {v:Value} (hr:SRow 3 (a5p 3 d1h) w v l) (hpos:∀ e ∈ l,1 ≤ e.2.2 ∧ e.2.2 ≤ 1000) (hn:l.length ≤ 1000) (k:K (.int .i64 (a3l l)) w):a0a Tryz.prog 50 #[v] K w:=by
 apply e3t
 unfold f8f
 obtain ⟨ad,d,rfl⟩:=hr.isSlice
 refine ⟨fun vs W=>∃ (i:Nat),vs = [.int .i64 0,.int .i64 (a3l (l.take i)),.int .i64 (i:Int)] ∧ i ≤ l.length ∧ w = W,
  (fun vs _=>match vs with | [_,_,.int _ i]=>l.length - i.toNat | _=>0),⟨0,rfl,by omega,rfl⟩,?_⟩
 rintro _ _ _ ⟨i,rfl,hi,rfl⟩
 by_cases hin:i = l.length
 ·subst hin
  rw [List.take_length]
  repeat (any_goals (first
  | (with_reducible refine yM ?_)
  | ((with_reducible refine oG fun X Y=>?_); simp [go_sem]; apply Y; clear Y X)))
  exact k
 ·have hil:i < l.length:=by omega
  have hiZ:(i:Int) < l.length:=by omega
  obtain ⟨lb,lo,rfl,hlb,cs,hcl,hcc,rfl⟩:=hr.at hil
  have hx:=hpos _ (List.getElem_mem hil)
  have hnext:a3l (l.take (i + 1)) = a3l (l.take i) + l[i].2.2:=by
   rw [List.take_succ_eq_append_getElem hil,c0f]
   simp [a3l]
  have hb:=c3q (l.take i) (fun e he=>hpos e (List.mem_of_mem_take he))
  rw [List.length_take] at hb
  have c2:w.cell? ⟨lb,lo + i * 3 + 2,none⟩ = some (.int .i64 l[i].2.2):=hcc 2 _ rfl
  generalize l[i] = x at *
  have hx1:¬ x.2.2 < 1:=by omega
  repeat (any_goals (first
  | (with_reducible ((refine a1d ?_); first|refine yL ?_|refine yM ?_))
  | ((with_reducible refine oG fun X Y=>?_); simp [go_sem,hiZ,c2,hx1]; (try simp (disch:=omega) only [a0j,a1k,a0p]); apply Y; clear Y X)))
  exact ⟨⟨i + 1,by rw [hnext]; rfl,by omega,rfl⟩,by show l.length - (((i + 1:Nat):Int)).toNat < l.length - ((i:Nat):Int).toNat; omega⟩
end
end Go.Proofs
namespace Go.Proofs
open Go Go.Sh Tryz
variable {a0 a1 a2:Value} {K:VK} {w:World}
def b7q (M_18:List Value → World → Prop) (v10 v24:Value) (w:World):Prop:=
 kH (fun C_29 w=>(((true:Bool) = true) ∧ (a0e v24 C_29 fun v39=>
 jF 29 0 v10 C_29 fun v40=>
 jL 3 v40 C_29 fun v41=>
 jF 29 1 v10 C_29 fun v42=>
 jL 3 v42 C_29 fun v43=>
 ∃ S_35:World → WK,xR S_35 fun R_36=>
 (∀ w,C_29 w → (oM prog (.build 107 #[(0,(.tmp 0)),(1,(.tmp 1))]) 107 [v41,v43] (xK C_29 S_35 R_36 w) w)) ∧
 (xR S_35 fun R_37=>
 (∀ w,C_29 w → ∀ v44,R_36 v44 w → (oM prog (.lookup 181 (.tmp 0) (.tmp 1) false) 3 [v39,v44] (xK C_29 S_35 R_37 w) w)) ∧
 (xR S_35 fun R_39=>
 (∀ w,C_29 w → ∀ v45,R_37 v45 w → (kB .add 3 3 v45 (.int .i64 1) (xK C_29 S_35 R_39 w) w)) ∧
 (xR S_35 fun R_41=>
 (∀ w,C_29 w → ∀ v44,R_36 v44 w → (oM prog (.mapEntry 181 (.tmp 0) (.tmp 1)) 0 [v39,v44] (xK C_29 S_35 R_41 w) w)) ∧
 (xR S_35 fun R_43=>
 (∀ w,C_29 w → ∀ v47,R_41 v47 w → (kE 1 3 v47 (xK C_29 S_35 R_43 w) w)) ∧
 (∀ w,C_29 w → ∀ v44,R_36 v44 w → ∀ v45,R_37 v45 w → ∀ v46,R_39 v46 w → ∀ v47,R_41 v47 w → ∀ v48,R_43 v48 w → (
 oM prog (.entryStore 181 (.tmp 0) (.tmp 1) (.tmp 2)) 0 [v39,v48,v46] (fun _=>
 M_18 []) w))))))))) w
def b4l (a0:Value) (l_16:List Value) (v14 v24:Value) (M_18:List Value → World → Prop) (w:World):Prop:=
 kI 52 a0 (l_16.getD 0 undef) (fun v29=>
 kL 29 v29 fun v30=>
 kA 29 fun v10=>
 kS 29 v10 v30 fun _=>
 kF 29 4 v10 fun v32=>
 kL 26 v32 fun v33=>
 oM prog (.lookup 180 (.tmp 0) (.tmp 1) false) 4 [v14,v33] fun v34=>
 kU v34 fun v35=>
 kO v35 (kF 29 4 v10 fun v37=>
 kL 26 v37 fun v38=>
 oM prog (.mapUpdate 180 (.tmp 0) (.tmp 1) (.tmp 2)) 0 [v14,v38,(.bool true)] fun _ w=>
 b7q M_18 v10 v24 w)
 (M_18 [])) w
def a9j (J_52:List Value → World → Prop) (K:VK) (l_54:List Value) (m_53:List Value → World → Nat) (v51:Value) (w0_l_54:World):Prop:=
 (fun w=>(
 oM prog (.next (.tmp 0) false) 0 [v51] (fun v52=>
 kE 0 4 v52 fun v53=>
 kO v53 (oM prog (.entry (.tmp 0)) 0 [v51] fun v54=>
 kE 0 107 v54 fun v55=>
 kE 1 3 v54 fun v56=>
 kA 107 fun v12=>
 kS 107 v12 v55 fun _=>
 kF 107 2 v12 fun v58=>
 kS 3 v58 v56 fun _=>
 kL 107 v12 fun v60=>
 oM prog (.buildSlice 104 1 #[(0,(.tmp 0))]) 104 [v60] fun v61=>
 oM prog (.call (Go.Call.mk (.builtin .append) #[(.tmp 0),(.tmp 1)] #[104,104])) 104 [(l_54.getD 1 undef),v61] fun v62=>
 kJ J_52 m_53 l_54 w0_l_54 [v56,v62])
 (a0a prog 101 #[(l_54.getD 1 undef),(.func (.func 102) #[] #[])] fun v64=>
 K (l_54.getD 1 undef))) w)) w0_l_54
def a9k (J_14:List Value → World → Prop) (K:VK) (a0:Value) (l_16:List Value) (m_15:List Value → World → Nat) (v14 v24 v26:Value) (w0_l_16:World):Prop:=
 (fun w=>(
 kB .lss 3 0 (l_16.getD 0 undef) v26 (fun v28 w=>
 a1o v28
 (a5f (fun M_18=>(b4l a0 l_16 v14 v24 M_18 w))
 fun l_19 u_l_19 w=>(kB .add 3 3 (l_16.getD 0 undef) (.int .i64 1) (fun v49=>
 kJ J_14 m_15 l_16 w0_l_16 [v49]) w))
 (oM prog (.range 181 (.tmp 0)) 0 [v24] (fun v51=>
 kQ [undef,(.slice none 0 0)] fun J_52 m_53 l_54 u_l_54 w0_l_54=>a9j J_52 K l_54 m_53 v51 w0_l_54) w)) w)) w0_l_16
def b4m (J_3:List Value → World → Prop) (K:VK) (a0 a1:Value) (l_5:List Value) (m_4:List Value → World → Nat) (v14 v16:Value) (w0_l_5:World):Prop:=
 (fun w=>(
 kB .lss 3 0 (l_5.getD 0 undef) v16 (fun v18=>
 kO v18 (kI 97 a1 (l_5.getD 0 undef) fun v19=>
 kL 26 v19 fun v20=>
 kA 26 fun v7=>
 kS 26 v7 v20 fun _=>
 kL 26 v7 fun v22=>
 oM prog (.mapUpdate 180 (.tmp 0) (.tmp 1) (.tmp 2)) 0 [v14,v22,(.bool true)] fun _=>
 kB .add 3 3 (l_5.getD 0 undef) (.int .i64 1) fun v23=>
 kJ J_3 m_4 l_5 w0_l_5 [v23])
 (oM prog (.makeMap 181 none) 181 [] fun v24=>
 kN 52 a0 fun v26=>
 kQ [(.int .i64 0)] fun J_14 m_15 l_16 u_l_16 w0_l_16=>a9k J_14 K a0 l_16 m_15 v14 v24 v26 w0_l_16)) w)) w0_l_5
def f8g (a0 a1:Value) (K:VK) (w:World):Prop:=
 oM prog (.makeMap 180 none) 180 [] (fun v14=>
 kN 97 a1 fun v16=>
 kQ [(.int .i64 0)] fun J_3 m_4 l_5 u_l_5 w0_l_5=>b4m J_3 K a0 a1 l_5 m_4 v14 v16 w0_l_5) w
theorem e3u (h:f8g a0 a1 K w):a0a prog 49 #[a0,a1] K w:=
 cZ (fun _=>(fz 5 5 1)) func49 h
def b2g (J_16:List Value → World → Prop) (K:VK) (a0:Value) (l_11 l_18:List Value) (m_17:List Value → World → Nat) (v18:Value) (w0_l_18 w:World):Prop:=
 kH (fun C_20 w=>(((true:Bool) = true) ∧ (a0e a0 C_20 fun v39=>
 a0e (l_11.getD 5 undef) C_20 fun v40=>
 jI 52 v39 v40 C_20 fun v41=>
 jF 29 4 v41 C_20 fun v42=>
 jL 26 v42 C_20 fun v43=>
 a0e a0 C_20 fun v44=>
 a0e (l_18.getD 1 undef) C_20 fun v45=>
 jI 52 v44 v45 C_20 fun v46=>
 jF 29 4 v46 C_20 fun v47=>
 jL 26 v47 C_20 fun v48=>
 ∃ S_31:World → WK,∀ w,C_20 w → (
 a0a prog 42 #[v43,v48] (fun v49=>
 kO v49 (K v18)
 (kB .add 3 3 (l_18.getD 1 undef) (.int .i64 1) fun v38=>
 kJ J_16 m_17 l_18 w0_l_18 [(l_18.getD 0 undef),v38])) w)))) w
def b2h (J_34:List Value → World → Prop) (a0 a1:Value) (l_11 l_36:List Value) (m_35:List Value → World → Nat) (w0_l_36 w:World):Prop:=
 kH (fun C_39 w=>(((true:Bool) = true) ∧ (a0e (l_36.getD 0 undef) C_39 fun v57=>
 a0e v57 C_39 fun v58=>
 jG v58 (a0e a0) C_39 fun v59=>
 jG v58 (a0e (l_11.getD 5 undef)) C_39 fun v60=>
 jG v58 (jI 52 v59 v60) C_39 fun v61=>
 jG v58 (jF 29 4 v61) C_39 fun v62=>
 jG v58 (jL 26 v62) C_39 fun v63=>
 jG v58 (a0e a1) C_39 fun v64=>
 jG v58 (a0e (l_36.getD 1 undef)) C_39 fun v65=>
 jG v58 (jI 97 v64 v65) C_39 fun v66=>
 jG v58 (jL 26 v66) C_39 fun v67=>
 ∃ S_51:World → WK,∀ w,C_39 w → (
 gF v58 (a0a prog 42 #[v63,v67]) (fun v68=>
 kP v58 (.bool true) v68 fun v69=>
 kB .add 3 3 (l_36.getD 1 undef) (.int .i64 1) fun v56=>
 kJ J_34 m_35 l_36 w0_l_36 [v69,v56]) w)))) w
def b2i (J_34 M_14:List Value → World → Prop) (a0 a1:Value) (l_11 l_18 l_36:List Value) (m_35:List Value → World → Nat) (w0_l_36:World):Prop:=
 (fun w=>(
 kN 97 a1 (fun v53=>
 kB .lss 3 4 (l_36.getD 1 undef) v53 fun v54 w=>
 a1o v54
 (b2h J_34 a0 a1 l_11 l_36 m_35 w0_l_36 w)
 (kU (l_36.getD 0 undef) (fun v71=>
 kO v71 (kB .add 3 3 (l_11.getD 4 undef) (.int .i64 1) fun v73=>
 M_14 [(l_18.getD 1 undef),(l_18.getD 0 undef),(l_36.getD 0 undef),(l_36.getD 1 undef),v73])
 (M_14 [(l_18.getD 1 undef),(l_18.getD 0 undef),(l_36.getD 0 undef),(l_36.getD 1 undef),(l_11.getD 4 undef)])) w)) w)) w0_l_36
def b2j (J_59:List Value → World → Prop) (K:VK) (l_61:List Value) (m_60:List Value → World → Nat) (v15 v76:Value) (w0_l_61 w:World):Prop:=
 kH (fun C_68 w=>(((true:Bool) = true) ∧ (jF 107 0 v15 C_68 fun v88=>
 jL 3 v88 C_68 fun v89=>
 a0e v76 C_68 fun v90=>
 a0e (l_61.getD 1 undef) C_68 fun v91=>
 jI 104 v90 v91 C_68 fun v92=>
 jF 107 0 v92 C_68 fun v93=>
 jL 3 v93 C_68 fun v94=>
 jB .gtr 3 4 v89 v94 C_68 fun v95=>
 a0e v95 C_68 fun v96=>
 jG v96 (jF 107 0 v15) C_68 fun v97=>
 jG v96 (jL 3 v97) C_68 fun v98=>
 jG v96 (a0e v76) C_68 fun v99=>
 jG v96 (a0e (l_61.getD 1 undef)) C_68 fun v100=>
 jG v96 (jI 104 v99 v100) C_68 fun v101=>
 jG v96 (jF 107 0 v101) C_68 fun v102=>
 jG v96 (jL 3 v102) C_68 fun v103=>
 jG v96 (jB .eql 3 4 v98 v103) C_68 fun v104=>
 jG v96 (a0e v104) C_68 fun v105=>
 jT v105 (jF 107 1 v15) C_68 fun v106=>
 jT v105 (jL 3 v106) C_68 fun v107=>
 jT v105 (a0e v76) C_68 fun v108=>
 jT v105 (a0e (l_61.getD 1 undef)) C_68 fun v109=>
 jT v105 (jI 104 v108 v109) C_68 fun v110=>
 jT v105 (jF 107 1 v110) C_68 fun v111=>
 jT v105 (jL 3 v111) C_68 fun v112=>
 jT v105 (jB .geq 3 4 v107 v112) C_68 fun v113=>
 jG v96 (jP v105 v113 (.bool false)) C_68 fun v114=>
 jP v96 (.bool true) v114 C_68 fun v115=>
 ∃ S_97:World → WK,∀ w,C_68 w → (kO v115 (K (.bool false))
 (kB .add 3 3 (l_61.getD 1 undef) (.int .i64 1) fun v82=>
 kJ J_59 m_60 l_61 w0_l_61 [(l_61.getD 0 undef),v82]) w)))) w
def b0j (K:VK) (a0 a1:Value) (l_11:List Value) (v117 v18 v5:Value) (w:World):Prop:=
 kH (fun C_100 w=>(a0e a0 C_100 fun v118=>
 a0e a1 C_100 fun v120=>
 jL 26 v5 C_100 fun v122=>
 (oM prog (.buildSlice 97 0 #[]) 97 [] (fun v119 w=>C_100 w ∧ (
 (oM prog (.call (Go.Call.mk (.builtin .append) #[(.tmp 0),(.tmp 1)] #[97,97])) 97 [v119,v120] (fun v121 w=>C_100 w ∧ (
 oM prog (.buildSlice 97 1 #[(0,(.tmp 0))]) 97 [v122] (fun v123 w=>C_100 w ∧ (
 oM prog (.call (Go.Call.mk (.builtin .append) #[(.tmp 0),(.tmp 1)] #[97,97])) 97 [v121,v123] (fun v124 w=>C_100 w ∧ (
 a0a prog 49 #[v118,v124] (fun v125 w=>C_100 w ∧ (
 a0a prog 50 #[v125] (fun v126 w=>C_100 w ∧ (
 C_100 w ∧ (gT v18 (a0c v117) (fun v129 w=>
 gT v18 (a0c (l_11.getD 4 undef)) (fun v130 w=>
 gT v18 (kB .eql 3 4 v129 v130) (fun v131=>
 kP v18 v131 (.bool false) fun v132 w=>
 gT v132 (a0c v126) (fun v134 w=>
 gT v132 (a0c v117) (fun v135 w=>
 gT v132 (kB .leq 3 4 v134 v135) (fun v136=>
 kP v132 v136 (.bool false) fun v137 w=>
 gT v137 (a0c v126) (fun v139 w=>
 gT v137 (a0c v117) (fun v140 w=>
 gT v137 (kB .sub 3 3 v140 (.int .i64 1)) (fun v141 w=>
 gT v137 (kB .geq 3 4 v139 v141) (fun v142=>
 kP v137 v142 (.bool false) fun v143 w=>
 gT v143 (a0c a0) (fun v145 w=>
 gT v143 (a0a prog 49 #[v145,(.slice none 0 0)]) (fun v146 w=>
 gT v143 (a0a prog 50 #[v146]) (fun v147 w=>
 gT v143 (a0c a0) (fun v148 w=>
 gT v143 (kN 52 v148) (fun v149 w=>
 gT v143 (kB .eql 3 4 v147 v149) (fun v150=>
 kP v143 v150 (.bool false) fun v151=>
 K v151) w) w) w) w) w) w) w) w) w) w) w) w) w) w) w) w))) w)) w)) w)) w)) w) ∧
 (oM prog (.buildSlice 97 1 #[(0,(.tmp 0))]) 97 [v122] (fun v123 w=>C_100 w ∧ (
 oM prog (.call (Go.Call.mk (.builtin .append) #[(.tmp 0),(.tmp 1)] #[97,97])) 97 [v119,v120] (fun v121 w=>C_100 w ∧ (
 oM prog (.call (Go.Call.mk (.builtin .append) #[(.tmp 0),(.tmp 1)] #[97,97])) 97 [v121,v123] (fun v124 w=>C_100 w ∧ (
 a0a prog 49 #[v118,v124] (fun v125 w=>C_100 w ∧ (
 a0a prog 50 #[v125] (fun v126 w=>C_100 w ∧ (
 C_100 w ∧ (gT v18 (a0c v117) (fun v129 w=>
 gT v18 (a0c (l_11.getD 4 undef)) (fun v130 w=>
 gT v18 (kB .eql 3 4 v129 v130) (fun v131=>
 kP v18 v131 (.bool false) fun v132 w=>
 gT v132 (a0c v126) (fun v134 w=>
 gT v132 (a0c v117) (fun v135 w=>
 gT v132 (kB .leq 3 4 v134 v135) (fun v136=>
 kP v132 v136 (.bool false) fun v137 w=>
 gT v137 (a0c v126) (fun v139 w=>
 gT v137 (a0c v117) (fun v140 w=>
 gT v137 (kB .sub 3 3 v140 (.int .i64 1)) (fun v141 w=>
 gT v137 (kB .geq 3 4 v139 v141) (fun v142=>
 kP v137 v142 (.bool false) fun v143 w=>
 gT v143 (a0c a0) (fun v145 w=>
 gT v143 (a0a prog 49 #[v145,(.slice none 0 0)]) (fun v146 w=>
 gT v143 (a0a prog 50 #[v146]) (fun v147 w=>
 gT v143 (a0c a0) (fun v148 w=>
 gT v143 (kN 52 v148) (fun v149 w=>
 gT v143 (kB .eql 3 4 v147 v149) (fun v150=>
 kP v143 v150 (.bool false) fun v151=>
 K v151) w) w) w) w) w) w) w) w) w) w) w) w) w) w) w) w))) w)) w)) w)) w)) w))) w) ∧
 (oM prog (.buildSlice 97 1 #[(0,(.tmp 0))]) 97 [v122] (fun v123 w=>C_100 w ∧ (
 oM prog (.buildSlice 97 0 #[]) 97 [] (fun v119 w=>C_100 w ∧ (
 oM prog (.call (Go.Call.mk (.builtin .append) #[(.tmp 0),(.tmp 1)] #[97,97])) 97 [v119,v120] (fun v121 w=>C_100 w ∧ (
 oM prog (.call (Go.Call.mk (.builtin .append) #[(.tmp 0),(.tmp 1)] #[97,97])) 97 [v121,v123] (fun v124 w=>C_100 w ∧ (
 a0a prog 49 #[v118,v124] (fun v125 w=>C_100 w ∧ (
 a0a prog 50 #[v125] (fun v126 w=>C_100 w ∧ (
 C_100 w ∧ (gT v18 (a0c v117) (fun v129 w=>
 gT v18 (a0c (l_11.getD 4 undef)) (fun v130 w=>
 gT v18 (kB .eql 3 4 v129 v130) (fun v131=>
 kP v18 v131 (.bool false) fun v132 w=>
 gT v132 (a0c v126) (fun v134 w=>
 gT v132 (a0c v117) (fun v135 w=>
 gT v132 (kB .leq 3 4 v134 v135) (fun v136=>
 kP v132 v136 (.bool false) fun v137 w=>
 gT v137 (a0c v126) (fun v139 w=>
 gT v137 (a0c v117) (fun v140 w=>
 gT v137 (kB .sub 3 3 v140 (.int .i64 1)) (fun v141 w=>
 gT v137 (kB .geq 3 4 v139 v141) (fun v142=>
 kP v137 v142 (.bool false) fun v143 w=>
 gT v143 (a0c a0) (fun v145 w=>
 gT v143 (a0a prog 49 #[v145,(.slice none 0 0)]) (fun v146 w=>
 gT v143 (a0a prog 50 #[v146]) (fun v147 w=>
 gT v143 (a0c a0) (fun v148 w=>
 gT v143 (kN 52 v148) (fun v149 w=>
 gT v143 (kB .eql 3 4 v147 v149) (fun v150=>
 kP v143 v150 (.bool false) fun v151=>
 K v151) w) w) w) w) w) w) w) w) w) w) w) w) w) w) w) w))) w)) w)) w)) w)) w)) w))) w
def b2k (J_59:List Value → World → Prop) (K:VK) (a0 a1:Value) (l_11 l_61:List Value) (m_60:List Value → World → Nat) (v18 v5 v76:Value) (w0_l_61:World):Prop:=
 (fun w=>(
 kN 104 v76 (fun v79=>
 kB .lss 3 4 (l_61.getD 1 undef) v79 fun v80=>
 kO v80 (kB .sub 3 3 (l_61.getD 1 undef) (.int .i64 1) fun v85=>
 kI 104 v76 v85 fun v86=>
 kL 107 v86 fun v87=>
 kA 107 fun v15=>
 kS 107 v15 v87 fun _ w=>
 b2j J_59 K l_61 m_60 v15 v76 w0_l_61 w)
 (a0a prog 50 #[v76] fun v117 w=>
 b0j K a0 a1 l_11 v117 v18 v5 w)) w)) w0_l_61
def c1a (J_9:List Value → World → Prop) (K:VK) (a0 a1:Value) (l_11:List Value) (m_10:List Value → World → Nat) (v18 v5:Value) (w0_l_11:World):Prop:=
 (fun w=>(
 kN 52 a0 (fun v30=>
 kB .lss 3 4 (l_11.getD 5 undef) v30 fun v31 w=>
 a1o v31
 (a5f (fun M_14=>(kQ [(l_11.getD 1 undef),(.int .i64 0)] (fun J_16 m_17 l_18 u_l_18 w0_l_18=>(fun w=>(
 kB .lss 3 4 (l_18.getD 1 undef) (l_11.getD 5 undef) (fun v36 w=>
 a1o v36
 (b2g J_16 K a0 l_11 l_18 m_17 v18 w0_l_18 w)
 (kQ [(.bool false),(.int .i64 0)] (fun J_34 m_35 l_36 u_l_36 w0_l_36=>b2i J_34 M_14 a0 a1 l_11 l_18 l_36 m_35 w0_l_36) w)) w)) w0_l_18) w))
 fun l_15 u_l_15 w=>(kB .add 3 3 (l_11.getD 5 undef) (.int .i64 1) (fun v33=>
 kJ J_9 m_10 l_11 w0_l_11 [(l_15.getD 0 undef),(l_15.getD 1 undef),(l_15.getD 2 undef),(l_15.getD 3 undef),(l_15.getD 4 undef),v33]) w))
 (a0a prog 49 #[a0,a1] (fun v76=>
 kQ [(l_11.getD 1 undef),(.int .i64 1)] fun J_59 m_60 l_61 u_l_61 w0_l_61=>b2k J_59 K a0 a1 l_11 l_61 m_60 v18 v5 v76 w0_l_61) w)) w)) w0_l_11
def f8h (a0 a1 a2:Value) (K:VK) (w:World):Prop:=
 oM prog (.box 26 (.tmp 0)) 0 [a2] (fun v5=>
 a0a prog 12 #[] fun v18=>
 a0a prog 24 #[a0] fun v20=>
 kU v20 fun v21 w=>
 gF v21 (a0c a1) (fun v23 w=>
 gF v21 (kN 97 v23) (fun v24 w=>
 gF v21 (kB .gtr 3 4 v24 (.int .i64 12)) (fun v25=>
 kP v21 (.bool true) v25 fun v26=>
 kO v26 (K v18)
 (kQ [undef,(.bool false),undef,undef,(.int .i64 0),(.int .i64 0)] fun J_9 m_10 l_11 u_l_11 w0_l_11=>c1a J_9 K a0 a1 l_11 m_10 v18 v5 w0_l_11)) w) w) w) w
theorem e3v (h:f8h a0 a1 a2 K w):a0a prog 11 #[a0,a1,a2] K w:=
 cZ (mz [(11,fz 10 0 1),(17,fz 11 0 3),(25,fz 28 0 0),(28,.tree (.look 0 (.look 2 (.look 4 (.alt 1 (.alt 3 (.only 5 (.only 6 (.only 7 (.only 8 (.only 9 (.done)))))) (.only 5 (.only 3 (.only 6 (.only 7 (.only 8 (.only 9 (.done)))))))) (.only 5 (.only 1 (.only 3 (.only 6 (.only 7 (.only 8 (.only 9 (.done)))))))))))))]) func11 h
end Go.Proofs
namespace Go.Proofs
open Go Go.Sh Go.RowKit Go.Sort FdSpec TkSpec CodeSpec PuSpec DkSpec JnSpec
def KnownIs (W:World) (b:Nat) (known:List Tkt):Prop:=∃ l,MapIs b3b W b l ∧ ∀ t,a2e l t = if t ∈ known then some (.bool true) else none
def CntIs (W:World) (b:Nat) (ps:List (Int × Int)):Prop:=∃ l,MapIs lwV W b l ∧ ∀ p,a2e l p = if p ∈ ps then some (.int .i64 (ps.count p:Nat)) else none
def c3r (_:World) (c:List Value) (t:Tkt):Prop:=c = a6v t ∧ WTkt t
section
variable {K:VK} {w w' w0 W W':World} {L:List (Addr × Value)} {rb b:Nat} {known:List Tkt} {ps:List (Int × Int)}
theorem KnownIs.lt (h:KnownIs W b known):b < W.heap.size:=by obtain ⟨l,h,_⟩:=h; exact h.lt
theorem CntIs.lt (h:CntIs W b ps):b < W.heap.size:=by obtain ⟨l,h,_⟩:=h; exact h.lt
theorem KnownIs.keep (h:KnownIs W b known) (e:W'.heap[b]? = W.heap[b]?):KnownIs W' b known:=by obtain ⟨l,h1,h2⟩:=h; exact ⟨l,h1.of_block e,h2⟩
theorem CntIs.keep (h:CntIs W b ps) (e:W'.heap[b]? = W.heap[b]?):CntIs W' b ps:=by obtain ⟨l,h1,h2⟩:=h; exact ⟨l,h1.of_block e,h2⟩
theorem e0i (w:World):KnownIs (w.alloc (.map #[] 0)) w.heap.size []:=⟨[],a8r w,fun t=>by simp [a4m]⟩
theorem f5i (w:World):CntIs (w.alloc (.map #[] 0)) w.heap.size []:=⟨[],a8r w,fun t=>by simp [a4m]⟩
theorem b3q (h:KnownIs W b known) (t:Tkt):∃ w',(Instr.mapUpdate 180 (.map (some b)) (b3b t) (.bool true)).run Tryz.prog W = .ok () w' ∧ KnownIs w' b (t :: known) ∧ W.grownBy w' (some b) ∧ w'.heap.size = W.heap.size:=by
 obtain ⟨l,h1,h2⟩:=h
 obtain ⟨w',r,m,g,z⟩:=b8b (t:=180) (kt:=26) (et:=4) g4m (by kernel_rfl) h1 t (.bool true)
 refine ⟨w',r,⟨_,m,fun t'=>?_⟩,g,z⟩
 rw [a8p,h2]
 by_cases e:t' = t
 ·simp [e]
 ·simp [e]
theorem c3s (h:KnownIs W b known) (t:Tkt):(Instr.lookup 180 (.map (some b)) (b3b t) false).run Tryz.prog W = .ok (.bool (decide (t ∈ known))) W:=by
 obtain ⟨l,h1,h2⟩:=h
 have:=a6a (t:=180) (kt:=26) (et:=4) (z:=.bool false) g4m (by kernel_rfl) (fun w=>by kernel_rfl) h1 t
 rw [this,h2]
 by_cases e:t ∈ known
 ·simp [e]
 ·simp [e]
theorem e0j (h:CntIs W b ps) (p:Int × Int):∃ (o0 o1:Obj) (s:Int),W.heap[b]? = some o0 ∧
   (∀ V:World,V.heap[b]? = some o0 ∨ V.heap[b]? = some o1 → (Instr.lookup 181 (.map (some b)) (lwV p) false).run Tryz.prog V = .ok (.int .i64 (ps.count p:Nat)) V) ∧
   (∀ V:World,V.heap[b]? = some o0 ∨ V.heap[b]? = some o1 → (Instr.mapEntry 181 (.map (some b)) (lwV p)).run Tryz.prog V = .ok (.tuple #[.int .i64 (ps.count p:Nat),.int .i64 s]) { V with heap:=V.heap.setIfInBounds b o1 }) ∧
   (∀ V:World,V.heap[b]? = some o1 → ∃ w2,(Instr.entryStore 181 (.map (some b)) (.int .i64 s) (.int .i64 ((ps.count p:Nat) + 1))).run Tryz.prog V = .ok () w2 ∧ CntIs w2 b (ps ++ [p]) ∧ V.grownBy w2 (some b) ∧ w2.heap.size = V.heap.size):=by
 obtain ⟨l,h1,h2⟩:=h
 have hv:(a2e l p).getD (.int .i64 0) = .int .i64 (ps.count p:Nat):=by
  rw [h2]
  by_cases e:p ∈ ps
  ·simp [e]
  ·simp [e,List.count_eq_zero_of_not_mem e]
 obtain ⟨o0,o1,s,q0,q1,q2,q3⟩:=d7n (t:=181) (kt:=107) (et:=3) (z:=.int .i64 0) g5d (by kernel_rfl) (fun w=>by kernel_rfl) h1 p
 rw [hv] at q1 q2
 refine ⟨o0,o1,s,q0,q1,q2,fun V hV=>?_⟩
 obtain ⟨w2,r,m,g,z⟩:=q3 V (.int .i64 ((ps.count p:Nat) + 1)) hV
 refine ⟨w2,r,⟨_,m,fun p'=>?_⟩,g,z⟩
 rw [a8p,h2]
 by_cases e:p' = p
 ·subst e; simp [List.count_append]
 ·have e':¬ p = p':=fun x=>e x.symm
  simp [e,List.count_append,e']
@[go_sem] theorem g1x (T:TypeId) (b o n c:Nat) (x:Int):oM Tryz.prog (.indexAddr 97 (.tmp 0) (.tmp 1)) T [.slice (some ⟨b,o,none⟩) n c,.int .i64 x] = onM (0 ≤ x ∧ x < n) (.pointer (some ⟨b,o + x.toNat * 6,none⟩)):=
 a9c (K:=fun _ _=>True) (P:=Tryz.prog) (n:=6) 97 T (by kernel_rfl) (fun w=>by kernel_rfl) b o n c x
theorem e0k:c2f c3r:=fun _ _ _ _ h _=>h
theorem c3t:c2f d1h:=fun _ _ _ _ h _=>h
theorem a7y:∀ (hs:List Hld) (k1 k2:List Tkt),(∀ t,t ∈ k1 ↔ t ∈ k2) → a1b k1 hs = a1b k2 hs
 | [],_,_,_=>rfl
 | h :: hs,k1,k2,e=>by
  rw [a1b,a1b]
  by_cases hm:h.t ∈ k1
  ·rw [if_pos hm,if_pos ((e _).1 hm)]; exact a7y hs k1 k2 e
  ·rw [if_neg hm,if_neg (fun x=>hm ((e _).2 x))]
   congr 1
   exact a7y hs _ _ (fun t=>by simp [e])
theorem a1y:∀ (hs:List Hld) (known:List Tkt),(a1b known hs).length ≤ hs.length
 | [],_=>rL
 | h :: hs,known=>by
  rw [a1b]
  split
  ·have:=a1y hs known; simp only [List.length_cons]; omega
  ·have:=a1y hs (h.t :: known); simp only [List.length_cons]; omega
theorem g5f {a0:Value} (seen:List Tkt) {vs:Value} (h0:Bw w W) (hb:w.heap.size ≤ b) (hr:SRow 6 (a5p 6 c3r) w vs seen) (hk:KnownIs W b [])
  (k:∀ W2,Bw w W2 → KnownIs W2 b seen.reverse → (oM Tryz.prog (Go.Op.makeMap 181 none) 181 [] (fun v24_12 w=>
 oM Tryz.prog (Go.Op.call (Go.Call.mk (Go.Callee.builtin Go.Builtin.len) #[(.tmp 0)] #[52])) 3 [a0] (fun v26_13 w=>
 b5j [(.int .i64 0)] w (fun J_14 m_15 l_16 u_l_16 w0_l_16=>a9k J_14 K a0 l_16 m_15 (.map (some b)) v24_12 v26_13 w0_l_16)) w) W2)) :
  b5j [(.int .i64 0)] W (fun J_3 m_4 l_5 u_l_5 w0_l_5=>b4m J_3 K a0 vs l_5 m_4 (.map (some b)) (.int .i64 seen.length) w0_l_5):=by
 obtain ⟨ad,d,rfl⟩:=hr.isSlice
 have hll:=hr.len
 refine ⟨fun vs W2=>∃ i:Nat,vs = [.int .i64 (i:Int)] ∧ i ≤ seen.length ∧ Bw w W2 ∧ KnownIs W2 b (seen.take i).reverse,fun vs _=>match vs with | [.int _ i]=>seen.length - i.toNat | _=>0,⟨0,rfl,by omega,h0,by simpa using hk⟩,?_⟩
 rintro _ u W2 ⟨i,rfl,hi,h2,hk2⟩
 unfold b4m
 by_cases hin:i = seen.length
 ·subst hin
  rw [List.take_length] at hk2
  have k:=k W2 h2 hk2
  repeat (any_goals (first
  | (with_reducible refine yM ?_)
  | ((with_reducible refine oG fun X Y=>?_); simp [go_sem]; apply Y; clear Y X)))
  exact k
 ·have hil:i < seen.length:=by omega
  have hiZ:(i:Int) < seen.length:=by omega
  have hkl:=hk2.lt
  obtain ⟨lb,lo,rfl,hlb,cs,hcl,hcc,rfl,ht⟩:=hr.at hil
  have hcell:=fun j u (hj:(a6v seen[i])[j]? = some u)=>(h2.cell hlb).trans (hcc j u hj)
  have hnext:(seen.take (i + 1)).reverse = seen[i] :: (seen.take i).reverse:=by rw [List.take_succ_eq_append_getElem hil]; simp
  generalize seen[i] = x at *
  repeat (any_goals (first
  | (with_reducible refine yL ?_)
  | ((with_reducible refine oG fun X Y=>?_); simp [go_sem,hiZ]; apply Y; clear Y X)))
  refine a2j (cs:=a6v x) hcell b0f (by kernel_rfl) (by kernel_rfl) ?_
  refine a0o f2m (fun g3 w3 h3 hg3 hH3=>?_)
  refine a0l (xs:=a6v x) c8f rfl rfl (b3d x) hH3 rfl (fun w4 hg4 hH4=>?_)
  refine a5a hH4 b0f (by kernel_rfl) (by kernel_rfl) ?_
  have h24:Bw W2 w4:=a1j h3 hg4 hg3
  obtain ⟨w5,r5,k5,g5,z5⟩:=b3q (hk2.keep (h24.block b hkl)) x
  refine c3p r5 ?_
  have h5:Bw w w5:=(h2.trans (h24.mono h2.size)).grown g5 (by have:=h2.size; have:=h24.size; omega) (fun j hj=>by cases hj; exact hb)
  repeat (any_goals ((with_reducible refine oG fun X Y=>?_); simp [go_sem]; (try simp (disch:=omega) only [a0j,a1k,a0p]); apply Y; clear Y X))
  exact ⟨⟨i + 1,rfl,by omega,h5,by rw [hnext]; exact k5⟩,by show seen.length - (((i + 1:Nat):Int)).toNat < seen.length - ((i:Nat):Int).toNat; omega⟩
theorem e8g (V:World) (b:Nat) (o:Obj):Fr (fun i=>i = b) V { V with heap:=V.heap.setIfInBounds b o }:=
 ⟨rfl,rfl,rfl,by simp,fun j hj hn=>by
  show (V.heap.setIfInBounds b o)[j]? = V.heap[j]?
  rw [Array.getElem?_setIfInBounds_ne (fun e=>hn e.symm)]⟩
theorem f5j (x:Hld) {av yv kv:Value} {b1 b2 lb lo:Nat} {n c:Nat} {i:Nat} {M:List Value → World → Prop} {C:List (Int × Int)}
  (hcell:∀ j u,(b7c x av yv kv)[j]? = some u → W.cell? ⟨lb,lo + i * 14 + j,none⟩ = some u) (hH:HldR w0 x av yv kv) (hi:(i:Int) < n)
  (h2:Bw w W) (hb1:w.heap.size ≤ b1) (hb2:w.heap.size ≤ b2) (hne:b1 ≠ b2) (hk:KnownIs W b1 known) (hc:CntIs W b2 ps) (hps:ps.length ≤ 1000) (hs:List Hld) (hC:ps ++ a1b known (x :: hs) = C)
  (hM:∀ W2 known ps',Bw w W2 → KnownIs W2 b1 known → CntIs W2 b2 ps' → ps' ++ a1b known hs = C → M [] W2) :
  b4l (.slice (some ⟨lb,lo,none⟩) n c) [.int .i64 (i:Int)] (.map (some b1)) (.map (some b2)) M W:=by
 unfold b4l
 obtain ⟨a1,n1,d1,a2,n2,d2,a3,n3,d3,rfl,rfl,rfl⟩:=a1m hH
 have hk1:=hk.lt
 have hk2:=hc.lt
 have hsz:=h2.size
 repeat (any_goals ((with_reducible refine oG fun X Y=>?_); simp [go_sem,hi]; apply Y; clear Y X))
 refine a2j (cs:=b7c x (.slice a1 n1 d1) (.slice a2 n2 d2) (.slice a3 n3 d3)) hcell a8c (by kernel_rfl) (by kernel_rfl) ?_
 refine a0o b1z (fun g3 w3 h3 hg3 hH3=>?_)
 refine a0l (xs:=b7c x (.slice a1 n1 d1) (.slice a2 n2 d2) (.slice a3 n3 d3)) b0g rfl rfl (a6w _ _ _ _ _ _ _ _ _ _ _ _ _ _ _ _ _ _ _ _) hH3 rfl (fun w4 hg4 hH4=>?_)
 have h24:Bw W w4:=a1j h3 hg4 hg3
 have hz4:=h24.size
 have hk4:=hk.keep (h24.block b1 hk1)
 have hc4:=hc.keep (h24.block b2 hk2)
 have hload:∀ V,Holds V g3 29 (b7c x (.slice a1 n1 d1) (.slice a2 n2 d2) (.slice a3 n3 d3)) → ∀ (j:Nat) (u:Value),(a6v x.t)[j]? = some u → V.cell? ⟨g3,7 + j,none⟩ = some u:=by
  intro V hV j u hj
  refine a3z hV ?_
  have:b7c x (.slice a1 n1 d1) (.slice a2 n2 d2) (.slice a3 n3 d3) = [.int .i64 x.limit,.int .i64 x.window,.slice a1 n1 d1,.int .i64 x.bl.s,.int .i64 x.bl.u,.int .i64 x.bl.v,.slice a2 n2 d2] ++ (a6v x.t ++ [.slice a3 n3 d3]):=rfl
  rw [this,List.getElem?_append_right (by simp)]
  simp only [List.length_cons,List.length_nil,Nat.zero_add,Nat.add_sub_cancel_left]
  rw [List.getElem?_append_left (gS hj).1]
  exact hj
 repeat (any_goals ((with_reducible refine oG fun X Y=>?_); simp [go_sem]; apply Y; clear Y X))
 refine a2j (p:=7) (hload _ hH4) b0f (by kernel_rfl) (by kernel_rfl) ?_
 refine c3o (c3s hk4 x.t) ?_
 have h4:Bw w w4:=h2.trans (h24.mono h2.size)
 rw [a1b] at hC
 by_cases hm:x.t ∈ known
 ·rw [if_pos hm] at hC
  have hM:=hM w4 known ps h4 hk4 hc4 hC
  repeat (any_goals (first
  | (with_reducible refine yM ?_)
  | ((with_reducible refine oG fun X Y=>?_); simp [go_sem,hm]; apply Y; clear Y X)))
  exact hM
 ·rw [if_neg hm] at hC
  repeat (any_goals (first
  | (with_reducible refine yL ?_)
  | ((with_reducible refine oG fun X Y=>?_); simp [go_sem,hm]; apply Y; clear Y X)))
  refine a2j (p:=7) (hload _ hH4) b0f (by kernel_rfl) (by kernel_rfl) ?_
  obtain ⟨w5,r5,k5,g5,z5⟩:=b3q hk4 x.t
  refine c3p r5 ?_
  have hb2':w5.heap[b2]? = w4.heap[b2]?:=g5.block b2 (by omega) (fun e=>hne (by cases e; rfl))
  have hc5:=hc4.keep hb2'
  have hg3b:g3 ≠ b1:=by omega
  have hH5:=hH4.other g5 hg3b
  have h5:Bw w w5:=h4.grown g5 (by omega) (fun j hj=>by cases hj; exact hb1)
  unfold b7q
  have hk5:=k5.lt
  have hd:=Below.drawn (B:=w.heap.size) (w:=w5)
  have hk6:KnownIs { w5 with drawn:=w5.drawn + 1 } b1 (x.t :: known):=k5.keep rfl
  have hc6:CntIs { w5 with drawn:=w5.drawn + 1 } b2 ps:=hc5.keep rfl
  have hH6:Holds { w5 with drawn:=w5.drawn + 1 } g3 29 (b7c x (.slice a1 n1 d1) (.slice a2 n2 d2) (.slice a3 n3 d3)):=hH5
  have h6:Below w.heap.size w { w5 with drawn:=w5.drawn + 1 }:=h5.trans hd
  obtain ⟨o0,o1,s,q0,q1,q2,q3⟩:=e0j hc6 (x.limit,x.window)
  refine ⟨fun V=>(V.heap[b2]? = some o0 ∨ V.heap[b2]? = some o1) ∧ Fr (fun i=>i = b2) { w5 with drawn:=w5.drawn + 1 } V,⟨.inl q0,Fr.refl _ _⟩,rfl,?_⟩
  generalize ({ w5 with drawn:=w5.drawn + 1 }:World) = w6 at hk6 hc6 hH6 h6 q0 ⊢
  have hg36:=hH6.lt
  have hg3c:g3 ≠ b2:=by omega
  have hHV:∀ V,Fr (fun i=>i = b2) w6 V → Holds V g3 29 (b7c x (.slice a1 n1 d1) (.slice a2 n2 d2) (.slice a3 n3 d3)):=fun V hf=>(hf.block g3 hg36 hg3c).trans hH6
  have p0:∀ V,((V.heap[b2]? = some o0 ∨ V.heap[b2]? = some o1) ∧ Fr (fun i=>i = b2) w6 V) → V.cell? ⟨g3,0,none⟩ = some (.int .i64 x.limit):=fun V h=>a3z (hHV V h.2) (j:=0) rfl
  have p1:∀ V,((V.heap[b2]? = some o0 ∨ V.heap[b2]? = some o1) ∧ Fr (fun i=>i = b2) w6 V) → V.cell? ⟨g3,1,none⟩ = some (.int .i64 x.window):=fun V h=>a3z (hHV V h.2) (j:=1) rfl
  repeat (any_goals (first
  | (with_reducible refine pX ?_)
  | ((with_reducible refine b0d ?_); (with_reducible refine a2b ⟨_,rfl⟩ (fun W0 hW0=>by (refine oG (fun X Y=>?_)); simp [go_sem,p0 _ hW0,p1 _ hW0]; (first | exact Y _ _ ⟨rfl,rfl⟩ | exact ⟨by omega,Y _ _ ⟨rfl,rfl⟩⟩)) ?_))))
  have hcb:ps.count (x.limit,x.window) ≤ 1000:=Nat.le_trans List.count_le_length hps
  refine ⟨fun V V'=>V.heap[b2]? = some o1 → V'.heap[b2]? = some o1,?_⟩
  apply a6k (x:=lwV (x.limit,x.window))
  ·intro V hV
   rw [e8f]
   exact ⟨hV,fun h=>h,rfl⟩
  apply a6k (x:=.int .i64 (ps.count (x.limit,x.window):Nat))
  ·rintro V hV _ rfl
   refine c3o (q1 V hV.1) ?_
   exact ⟨hV,fun h=>h,rfl⟩
  apply a6k (x:=.int .i64 ((ps.count (x.limit,x.window):Nat) + 1))
  ·rintro V hV _ rfl
   generalize ps.count (x.limit,x.window) = cn at *
   repeat (any_goals ((with_reducible refine oG fun X Y=>?_); simp [go_sem]; (try simp (disch:=omega) only [a0j,a1k,a0p]); apply Y; clear Y X))
   exact ⟨hV,fun h=>h,rfl⟩
  apply b1s (fun v V=>v = .tuple #[.int .i64 (ps.count (x.limit,x.window):Nat),.int .i64 s] ∧ V.heap[b2]? = some o1) (fun v V V' hS h=>⟨h.1,hS h.2⟩)
  ·rintro V hV _ rfl
   refine e0f (q2 V hV.1) ?_
   have hlt:b2 < V.heap.size:=by have:=hV.2.size; have:=hc6.lt; omega
   have hset:(V.heap.setIfInBounds b2 o1)[b2]? = some o1:=by simp [hlt]
   refine ⟨⟨.inr hset,hV.2.trans (e8g V b2 o1) (fun _ h=>.inl h)⟩,fun _=>hset,rfl,hset⟩
  apply a6k (x:=.int .i64 s)
  ·rintro V hV _ ⟨rfl,hv⟩
   repeat (any_goals ((with_reducible refine oG fun X Y=>?_); simp [go_sem]; apply Y; clear Y X))
   exact ⟨hV,fun h=>h,rfl⟩
  rintro V hV _ rfl _ rfl _ rfl _ ⟨rfl,ho1⟩ _ rfl
  obtain ⟨w7,r7,c7,g7,z7⟩:=q3 V ho1
  refine e0g r7 ?_
  have hVz:=hV.2.size
  have hbV:Bw w V:=⟨hV.2.os.trans h6.os,hV.2.tape.trans h6.tape,hV.2.output.trans h6.output,by have:=h6.size; omega,fun j hj=>(hV.2.block j (by have:=h6.size; omega) (by omega)).trans (h6.block j hj)⟩
  refine hM w7 (x.t :: known) (ps ++ [(x.limit,x.window)]) (hbV.grown g7 (by have:=hbV.size; omega) (fun j hj=>by cases hj; exact hb2)) ?_ c7 (by rw [List.append_assoc]; exact hC)
  refine (hk6.keep (W':=V) (hV.2.block b1 hk6.lt hne)).keep (g7.block b1 (by have:=hk6.lt; omega) (fun e=>hne (by cases e; rfl)))
theorem g5g {vh:Value} (hs:List Hld) {b1 b2:Nat} (h0:Bw w W) (hb1:w.heap.size ≤ b1) (hb2:w.heap.size ≤ b2) (hne:b1 ≠ b2) (hr:SRow 14 (a5p 14 d1g) w vh hs) (hn:hs.length ≤ 1000) (hk:KnownIs W b1 known) (hc:CntIs W b2 [])
  (k:∀ W2,Bw w W2 → CntIs W2 b2 (a1b known hs) → (oM Tryz.prog (Go.Op.range 181 (.tmp 0)) 0 [.map (some b2)] (fun v51_51 w=>
 b5j [undef,(.slice none 0 0)] w (fun J_52 m_53 l_54 u_l_54 w0_l_54=>a9j J_52 K l_54 m_53 v51_51 w0_l_54)) W2)) :
  b5j [(.int .i64 0)] W (fun J_14 m_15 l_16 u_l_16 w0_l_16=>a9k J_14 K vh l_16 m_15 (.map (some b1)) (.map (some b2)) (.int .i64 hs.length) w0_l_16):=by
 obtain ⟨ad,d,rfl⟩:=hr.isSlice
 refine ⟨fun vs W2=>∃ (i:Nat) (kn:List Tkt) (ps:List (Int × Int)),vs = [.int .i64 (i:Int)] ∧ i ≤ hs.length ∧ Bw w W2 ∧ KnownIs W2 b1 kn ∧ CntIs W2 b2 ps ∧ ps ++ a1b kn (hs.drop i) = a1b known hs,fun vs _=>match vs with | [.int _ i]=>hs.length - i.toNat | _=>0,⟨0,known,[],rfl,by omega,h0,hk,hc,rfl⟩,?_⟩
 rintro _ u W2 ⟨i,kn,ps,rfl,hi,h2,hk2,hc2,he⟩
 unfold a9k
 have hpl:ps.length ≤ 1000:=by
  have e:=congrArg List.length he
  rw [List.length_append] at e
  have:=a1y hs known
  omega
 by_cases hin:i = hs.length
 ·subst hin
  rw [List.drop_length,a1b,List.append_nil] at he
  subst he
  have k:=k W2 h2 hc2
  repeat (any_goals (first
  | (with_reducible refine yM ?_)
  | ((with_reducible refine oG fun X Y=>?_); simp [go_sem]; apply Y; clear Y X)))
  exact k
 ·have hil:i < hs.length:=by omega
  have hiZ:(i:Int) < hs.length:=by omega
  obtain ⟨lb,lo,rfl,hlb,cs,hcl,hcc,av,yv,kv,rfl,hH⟩:=hr.at hil
  have hcell:=fun j u (hj:(b7c hs[i] av yv kv)[j]? = some u)=>(h2.cell hlb).trans (hcc j u hj)
  rw [List.drop_eq_getElem_cons hil] at he
  repeat (any_goals (first
  | (with_reducible refine yL ?_)
  | ((with_reducible refine oG fun X Y=>?_); simp [go_sem,hiZ]; apply Y; clear Y X)))
  refine ⟨fun l W3=>l = [] ∧ ∃ kn' ps',Bw w W3 ∧ KnownIs W3 b1 kn' ∧ CntIs W3 b2 ps' ∧ ps' ++ a1b kn' (hs.drop (i + 1)) = a1b known hs,?_,?_⟩
  ·exact f5j hs[i] hcell hH hiZ h2 hb1 hb2 hne hk2 hc2 hpl _ he (fun W3 kn' ps' a1 a2 a3 a4=>⟨rfl,kn',ps',a1,a2,a3,a4⟩)
  ·rintro _ u3 W3 ⟨rfl,kn',ps',a1,a2,a3,a4⟩
   repeat (any_goals ((with_reducible refine oG fun X Y=>?_); simp [go_sem]; (try simp (disch:=omega) only [a0j,a1k,a0p]); apply Y; clear Y X))
   exact ⟨⟨i + 1,kn',ps',rfl,by omega,a1,a2,a3,a4⟩,by show hs.length - (((i + 1:Nat):Int)).toNat < hs.length - ((i:Nat):Int).toNat; omega⟩
end
end Go.Proofs
namespace Go.Proofs
open Go.Shelf
def Tryz.sortLeft_ren:Go.Shelf.Ren:=⟨fun | 6=>101 | 15=>152 | 14=>151 | 28=>196 | 29=>197 | 20=>188 | 21=>189 | 22=>190 | 23=>191 | 24=>192 | 25=>193 | 26=>194 | 27=>195 | 46=>215 | 47=>216 | 48=>217 | 49=>218 | 50=>219 | 57=>236 | n=>n,fun | 22=>104 | 24=>107 | 25=>184 | 3=>3 | 39=>231 | 0=>0 | 53=>255 | 55=>249 | 4=>4 | 46=>264 | 45=>263 | 50=>219 | 5=>5 | 9=>9 | 66=>287 | 70=>291 | 76=>307 | 77=>308 | n=>n,fun | n=>n⟩
theorem Tryz.sortLeft:Go.Proofs.SlLaysF0.n6 Tryz.prog Tryz.sortLeft_ren:={
 mixed:=by kernel_rfl
 f6:=⟨Tryz.f101.name,by decide,Tryz.func101.trans (congrArg some (by kernel_rfl))⟩
 f14:=⟨Tryz.f151.name,by decide,Tryz.func151.trans (congrArg some (by kernel_rfl))⟩
 f15:=Tryz.func152.trans (congrArg some (by kernel_rfl))
 f20:=⟨Tryz.f188.name,by decide,Tryz.func188.trans (congrArg some (by kernel_rfl))⟩
 f21:=⟨Tryz.f189.name,by decide,Tryz.func189.trans (congrArg some (by kernel_rfl))⟩
 f22:=⟨Tryz.f190.name,by decide,Tryz.func190.trans (congrArg some (by kernel_rfl))⟩
 f23:=⟨Tryz.f191.name,by decide,Tryz.func191.trans (congrArg some (by kernel_rfl))⟩
 f24:=⟨Tryz.f192.name,by decide,Tryz.func192.trans (congrArg some (by kernel_rfl))⟩
 f25:=⟨Tryz.f193.name,by decide,Tryz.func193.trans (congrArg some (by kernel_rfl))⟩
 f26:=⟨Tryz.f194.name,by decide,Tryz.func194.trans (congrArg some (by kernel_rfl))⟩
 f27:=⟨Tryz.f195.name,by decide,Tryz.func195.trans (congrArg some (by kernel_rfl))⟩
 f28:=Tryz.func196.trans (congrArg some (by kernel_rfl))
 f29:=Tryz.func197.trans (congrArg some (by kernel_rfl))
 f46:=⟨Tryz.f215.name,by decide,Tryz.func215.trans (congrArg some (by kernel_rfl))⟩
 f47:=Tryz.func216.trans (congrArg some (by kernel_rfl))
 f48:=Tryz.func217.trans (congrArg some (by kernel_rfl))
 f49:=⟨Tryz.f218.name,by decide,Tryz.func218.trans (congrArg some (by kernel_rfl))⟩
 f50:=⟨Tryz.f219.name,by decide,Tryz.func219.trans (congrArg some (by kernel_rfl))⟩
 f57:=⟨Tryz.f236.name,by decide,Tryz.func236.trans (congrArg some (by kernel_rfl))⟩
 t0:=Tryz.underlying0
 a0:=Tryz.isAgg0
 z0:=Tryz.sizeOf0
 v0:=Tryz.zeroValue0
 t3:=Tryz.underlying3
 a3:=Tryz.isAgg3
 z3:=Tryz.sizeOf3
 v3:=Tryz.zeroValue3
 t4:=Tryz.underlying4
 a4:=Tryz.isAgg4
 z4:=Tryz.sizeOf4
 v4:=Tryz.zeroValue4
 t5:=Tryz.underlying5
 a5:=Tryz.isAgg5
 z5:=Tryz.sizeOf5
 v5:=Tryz.zeroValue5
 t9:=Tryz.underlying9
 a9:=Tryz.isAgg9
 z9:=Tryz.sizeOf9
 v9:=Tryz.zeroValue9
 t22:=Tryz.underlying104
 a22:=Tryz.isAgg104
 z22:=Tryz.sizeOf104
 v22:=Tryz.zeroValue104
 t25:=Tryz.underlying184
 a25:=Tryz.isAgg184
 z25:=Tryz.sizeOf184
 v25:=Tryz.zeroValue184
 t39:=Tryz.underlying231
 a39:=Tryz.isAgg231
 z39:=Tryz.sizeOf231
 v39:=Tryz.zeroValue231
 t45:=Tryz.underlying263
 a45:=Tryz.isAgg263
 z45:=Tryz.sizeOf263
 v45:=Tryz.zeroValue263
 t46:=Tryz.underlying264
 a46:=Tryz.isAgg264
 z46:=Tryz.sizeOf264
 v46:=Tryz.zeroValue264
 t50:=Tryz.underlying219
 a50:=Tryz.isAgg219
 z50:=Tryz.sizeOf219
 v50:=Tryz.zeroValue219
 t53:=Tryz.underlying255
 a53:=Tryz.isAgg255
 z53:=Tryz.sizeOf255
 v53:=Tryz.zeroValue255
 t55:=Tryz.underlying249
 a55:=Tryz.isAgg249
 z55:=Tryz.sizeOf249
 v55:=Tryz.zeroValue249
 t66:=Tryz.underlying287
 a66:=Tryz.isAgg287
 z66:=Tryz.sizeOf287
 v66:=Tryz.zeroValue287
 t70:=Tryz.underlying291
 a70:=Tryz.isAgg291
 z70:=Tryz.sizeOf291
 v70:=Tryz.zeroValue291
 t76:=Tryz.underlying307
 a76:=Tryz.isAgg307
 z76:=Tryz.sizeOf307
 v76:=Tryz.zeroValue307
 t77:=Tryz.underlying308
 a77:=Tryz.isAgg308
 z77:=Tryz.sizeOf308
 v77:=Tryz.zeroValue308 }
end Go.Proofs
namespace Go.Proofs
open Go Go.Sh Go.RowKit Go.Sort FdSpec TkSpec CodeSpec PuSpec DkSpec JnSpec
theorem c0h (x y:Int × Int × Int):e8c x y < 0 ↔ (x.1 < y.1 ∨ x.1 = y.1 ∧ x.2.1 < y.2.1):=by
 unfold e8c f2u
 (repeat' split) <;> omega
theorem e8h:SWO (ltOf e8c):=by
 constructor
 ·intro x
  simp only [ltOf,decide_eq_false_iff_not,c0h]; omega
 ·intro x y z
  simp only [ltOf,dE,c0h]; omega
 ·intro x y z
  simp only [ltOf,decide_eq_false_iff_not,c0h]; omega
section
variable {K:VK} {w w' w0 W W':World} {L:List (Addr × Value)} {rb b:Nat}
theorem e8i (blk off size:Nat) (w:World):CmpLays Tryz.prog 102 #[] b2d 3 e8c blk off size w:=by
 intro m os dk _ x y
 have h:=g1j (w:=sortWorldK b2d 3 w blk off m dk os) x y (K:=fun v w'=>v = .int .i64 (e8c x y) ∧ Gr (sortWorldK b2d 3 w blk off m dk os) w') (fun w' h=>⟨rfl,h⟩)
 refine Calls.mono h ?_
 rintro e w' ⟨v,rfl,rfl,h⟩
 exact ⟨rfl,h⟩
theorem c3u (blk n:Nat) (d:Array (Int × Int × Int)) (os:Array Obj):Fr (fun i=>i = blk) w (sortWorldK b2d 3 w blk 0 n d os):=by
 refine ⟨rfl,rfl,rfl,?_,fun i hi hn=>?_⟩
 ·simp only [sortWorldK,size_grow]
  show w.heap.size ≤ (w.heap.modify blk _).size + os.size
  rw [Array.size_modify]; omega
 ·simp only [sortWorldK]
  have hm:(w.heap.modify blk (onCells (putCells id 0 (flatK b2d 3 d)))).size = w.heap.size:=Array.size_modify
  show ((w.heap.modify blk (onCells (putCells id 0 (flatK b2d 3 d)))) ++ os)[i]? = w.heap[i]?
  rw [Array.getElem?_append_left (by omega),Array.getElem?_modify,if_neg (fun e=>hn e.symm)]
theorem c6l (x:Int × Int × Int):∀ v ∈ b2d x,v.oneCell' = true:=by
 intro v hv
 simp only [b2d,List.mem_cons,List.not_mem_nil,or_false] at hv
 rcases hv with rfl | rfl | rfl <;> rfl
theorem f5k {B:Nat} {v:Value} {l:List (Int × Int × Int)} (hG:GRow 3 107 d1h B (fun _=>False) w v l) (hl:l.length ≤ 12)
  (k:∀ w' l',Fr (fun i=>v.ownBlock = some i) w w' → SRow 3 (a5p 3 d1h) w' v l' → l'.Perm l → l'.Pairwise (fun a b=>¬ e8c b a < 0) → K (.tuple #[]) w') :
  a0a Tryz.prog 101 #[v,.func (.func 102) #[] #[]] K w:=by
 by_cases h0:l = []
 ·subst h0
  obtain ⟨ad,c,rfl⟩:=hG.isSlice
  have h:=AnyF.slices_SortFunc_none Tryz.sortLeft ad c (.func (.func 102) #[] #[]) w
  refine Calls.mono h ?_
  rintro e w' ⟨rfl,rfl⟩
  exact ⟨_,rfl,k _ [] (Fr.refl _ _) ⟨⟨ad,c,rfl,.inl rfl⟩,by simp⟩ (List.Perm.refl _) List.Pairwise.nil⟩
 ·obtain ⟨cs,ho,hf⟩:=hG.ex
  obtain ⟨hc1,hc2⟩:=hf.here
  obtain ⟨g,cap,cur,rfl,hg,hB,hblk,hcur,hcap,hcell⟩:=a2r ho (List.length_pos_iff.2 h0)
  have hH:HoldsK b2d 3 w g 0 l.toArray:=by
   intro j hj
   refine ⟨?_,a0q hblk _⟩
   rw [size_flatK] at hj
   simp only [List.size_toArray] at hj
   rw [get_flatK _ _ _ _ (by simpa using hj)]
   have hi:j / 3 < l.length:=by omega
   have hci:cs[j / 3]? = some cs[j / 3]:=gE (by omega)
   have hV:cs[j / 3].1 = b2d l[j / 3]:=hc2 _ _ _ hci (gE hi)
   rw [Nat.zero_add]
   refine hcell j _ ?_
   have hj':j % 3 < 3:=Nat.mod_lt _ (by omega)
   have:=a7s (mk:=Cl.cs) (sz:=3) (fun c=>c.2) cs (j / 3) (j % 3) hci hj'
   rw [show j / 3 * 3 + j % 3 = j by omega] at this
   rw [this]
   show cs[j / 3].1[j % 3]? = _
   rw [hV]
   have e1:l.toArray[j / 3]! = l[j / 3]:=by
    rw [getElem!_pos _ _ (by simpa using hi)]; simp
   rw [e1]
   have hlen:(b2d l[j / 3]).length = 3:=rfl
   rw [getElem!_pos _ _ (by omega)]
   exact gE (by omega)
  have h:=AnyQ.slices_SortFunc_small_sorted Tryz.sortLeft 3 (fun w=>by kernel_rfl) (fun w=>by kernel_rfl) b2d (fun _=>rfl) c6l e8c 102 #[] e8h g 0 cap l.toArray w (enters_of Tryz.func102 (by kernel_rfl) rfl) (e8i g 0 _ w) hH hg (by simpa using hl)
   (fun n W hn=>(Any.bits_Len (SlLaysF0.n15.bits (P:=Tryz.prog) { Tryz.sortLeft with }) n W (by omega) (by omega)).mono fun _ _ ⟨he,hw⟩=>⟨⟨_,he⟩,hw⟩)
  refine Calls.mono h ?_
  rintro e w' ⟨rfl,d',n,os,⟨hs,_,hp⟩,hsd,hw⟩
  have hs':d'.size = l.length:=by simpa using hs
  have hH':HoldsK b2d 3 w' g 0 d':=SWK.holds ⟨n,os,hw⟩ hg hH hs
  have hp':d'.toList.Perm l:=by
   have e1:d'.extract 0 l.toArray.size = d':=by rw [← hs]; simp
   have e2:l.toArray.extract 0 l.toArray.size = l.toArray:=by simp
   rw [e1,e2] at hp
   simpa using hp
  have hfr:Fr (fun i=>i = g) w w':=by rw [hw]; exact c3u g n d' os
  refine ⟨_,rfl,k w' d'.toList ⟨hfr.os,hfr.tape,hfr.output,hfr.size,fun i hi hn=>hfr.block i hi (fun e=>hn (by rw [e]; rfl))⟩ ?_ hp' ?_⟩
  ·refine ⟨⟨_,cap,by rw [show d'.toList.length = l.length from Array.length_toList.trans hs'],.inr ⟨g,0,rfl,lL hg hfr.size,fun i hi=>?_⟩⟩,by rw [Array.length_toList]; omega⟩
   have hi':i < d'.size:=by simpa using hi
   refine ⟨b2d d'.toList[i],rfl,fun j u hj=>?_,rfl⟩
   have hj3:j < 3:=(gS hj).1
   have:=(hH'.cell (c:=j) hi' hj3).1
   rw [this,getElem!_pos d' i hi',getElem!_pos (b2d d'[i]) j hj3]
   rw [← hj]
   simp only [Array.getElem_toList]
   exact (gE (l:=b2d d'[i]) hj3).symm
  ·rw [List.pairwise_iff_getElem]
   intro i j hi hj hij
   have:=hsd i j (Nat.zero_le _) hij (by simpa [hs'] using hj)
   rw [getElem!_pos d' j (by simpa using hj),getElem!_pos d' i (by simpa using hi)] at this
   simpa [ltOf] using this
end
def c3v (ps:List (Int × Int)) (p:Int × Int):Int × Int × Int:=(p.1,p.2,(ps.count p:Nat))
theorem f5l {ps done:List (Int × Int)} {l:List (Int × Int × Int)} (hnd:done.Nodup) (hsub:∀ p ∈ done,p ∈ ps) (hall:∀ p ∈ ps,p ∈ done) (hp:l.Perm (done.reverse.map (c3v ps))) (hs:l.Pairwise (fun a b=>¬ e8c b a < 0)):Sums l ps:=by
 have hmem:∀ e,e ∈ l ↔ ∃ p ∈ done,c3v ps p = e:=by
  intro e
  rw [hp.mem_iff,List.mem_map]
  simp
 have hkeys:(l.map fun e=>(e.1,e.2.1)).Nodup:=by
  have h2:=hp.map (fun e:Int × Int × Int=>(e.1,e.2.1))
  rw [h2.nodup_iff,List.map_map]
  have:((fun e:Int × Int × Int=>(e.1,e.2.1)) ∘ c3v ps) = id:=by
   funext p
   rfl
  rw [this,List.map_id]
  exact List.pairwise_reverse.2 (hnd.imp (fun h=>h.symm))
 refine ⟨?_,?_,?_⟩
 ·have h3:=List.pairwise_map.1 hkeys
  have:=hs.and h3
  refine this.imp ?_
  rintro a b ⟨h1,h2⟩
  rw [c0h] at h1
  simp only [ne_eq,Prod.mk.injEq] at h2
  omega
 ·intro e he
  obtain ⟨p,hpd,rfl⟩:=(hmem e).1 he
  exact ⟨rfl,hsub p hpd⟩
 ·intro p hpp
  exact ⟨_,(hmem _).2 ⟨p,hall p hpp,rfl⟩⟩
section
variable {K:VK} {w w' w0 W W':World} {L:List (Addr × Value)} {rb b:Nat} {ps:List (Int × Int)}
theorem f2v (w:World):(Instr.alloc 107 true (.tuple #[])).run Tryz.prog w = .ok (.pointer (some ⟨w.heap.size,0,none⟩)) (w.alloc (.cells ([.int .i64 0,.int .i64 0,.int .i64 0]:List Value).toArray 107)):=by kernel_rfl
theorem f2w (w:World):(sizeOf 107).run Tryz.prog w = .ok 3 w:=by kernel_rfl
theorem f2x:Tryz.prog.underlying 107 = some ((Tryz.prog.underlying 107).getD default):=by kernel_rfl
theorem f5m {T:TypeId} (x:Int × Int × Int) (k:∀ g W,Bw w W → w.heap.size ≤ g → Go.Sh.Holds W g 107 (b2d x) → K (.slice (some ⟨g,0,none⟩) 1 1) W):oM Tryz.prog (.buildSlice 104 1 #[(0,.tmp 0)]) T [g3r x] K w:=by
 rw [a2i]; exact b2r (by kernel_rfl) k
theorem e8j {B:Nat} {v:Value} {l:List (Int × Int × Int)} {x:Int × Int × Int} {T:TypeId} {q:Nat} (h:GRow 3 107 d1h B (fun _=>False) w v l) (hB:B ≤ w.heap.size) (hq:Go.Sh.Holds w q 107 (b2d x)) (hl:l.length < 1000)
  (k:∀ v' w',GRow 3 107 d1h B (fun _=>False) w' v' (l ++ [x]) → w.grownBy w' v.ownBlock → (∀ i,v'.ownBlock = some i → v.ownBlock = some i ∨ w.heap.size ≤ i) → K v' w') :
  oM Tryz.prog (.call { callee:=.builtin .append,args:=#[.tmp 0,.tmp 1],argTypes:=#[104,104] }) T [v,.slice (some ⟨q,0,none⟩) 1 1] K w:=
 b5m 104 T ((Tryz.prog.info? 107).getD default) (.agg (b2d (0,0,0)).toArray) 24 (by kernel_rfl) (by kernel_rfl) (by kernel_rfl) (by kernel_rfl) (by kernel_rfl) (by kernel_rfl) (by omega) (by omega) h hB (x:=x) (xs:=b2d x) rfl
  (fun j u hj=>by rw [Nat.zero_add]; exact a3z hq hj) (c6l x) (fun _ _ _ _ _ _=>rfl) (fun _ h=>h.elim) (by omega) (fun v' w' a b c _=>k v' w' a b c)
theorem g5h {b2:Nat} (h0:Bw w W) (hb2:w.heap.size ≤ b2) (hc:CntIs W b2 ps) (hps:ps.length ≤ 12)
  (k:∀ v w' l,Bw w w' → SRow 3 (a5p 3 d1h) w' v l → Sums l ps → K v w') :
  oM Tryz.prog (Go.Op.range 181 (.tmp 0)) 0 [.map (some b2)] (fun v51_51 w=>
 b5j [undef,(.slice none 0 0)] w (fun J_52 m_53 l_54 u_l_54 w0_l_54=>a9j J_52 K l_54 m_53 v51_51 w0_l_54)) W:=by
 obtain ⟨cl,m,hl⟩:=hc
 obtain ⟨o,hrun,R⟩:=b5p (P:=Tryz.prog) (t:=181) (kt:=107) (et:=3) (by kernel_rfl) m
 refine e8d hrun ?_
 have hit:w.heap.size ≤ W.heap.size:=h0.size
 have h1:Below w.heap.size w (W.alloc o):=h0.trans ((bR).alloc h0.size _)
 have hbW:=m.lt
 have hz1:W.heap.size < (W.alloc o).heap.size:=by rw [a0m]; omega
 generalize W.heap.size = it at *
 generalize W.alloc o = W1 at *
 refine ⟨fun vs W2=>∃ u v done,vs = [u,v] ∧ done.Nodup ∧ Ranged lwV W2 it b2 cl (cl.map (·.1)) done ∧ GRow 3 107 d1h W1.heap.size (fun _=>False) W2 v (done.reverse.map (c3v ps)) ∧ W1.heap.size ≤ W2.heap.size ∧ Bw w W2,
  fun _ W2=>(cl.map (·.1)).length + 1 - (W2.iterSeen it).size,⟨_,_,[],rfl,List.nodup_nil,R,.nil,rL,h1⟩,?_⟩
 rintro _ u W2 ⟨u1,v,done,rfl,hnd,R1,hG,hz2,h2⟩
 unfold a9j
 have hlen:=a2w done _ hnd R1.sub
 have hseen:=R1.seen
 have hnk:(cl.map (·.1)).Nodup:=by obtain ⟨es,c,q1,q2,q3,_⟩:=R1.map; exact q3
 have hkin:∀ p,p ∈ cl.map (·.1) ↔ p ∈ ps:=by
  intro p
  rw [← a2f,hl p]
  by_cases e:p ∈ ps <;> simp [e]
 have hsub:∀ p ∈ done,p ∈ ps:=fun p hp=>(hkin p).1 (R1.sub p hp)
 have hdl:done.length ≤ 12:=Nat.le_trans (a2w done ps hnd hsub) hps
 rcases b9h (P:=Tryz.prog) (ty:=0) R1 with ⟨hall,hn⟩ | ⟨y,hy,hyd,W3,hn,R2,g2,z2⟩
 ·refine e0h hn ?_
  repeat (any_goals (first
  | (with_reducible refine yM ?_)
  | ((with_reducible refine oG fun X Y=>?_); simp [go_sem]; apply Y; clear Y X)))
  refine f5k hG (by simpa using hdl) (fun w' l' hf hr hp hs=>?_)
  refine k v w' l' ⟨hf.os.trans h2.os,hf.tape.trans h2.tape,hf.output.trans h2.output,Nat.le_trans h2.size hf.size,fun i hi=>(hf.block i (by have:=h2.size; omega) (fun e=>by have:=(hG.own e).2; omega)).trans (h2.block i hi)⟩ hr ?_
  refine f5l hnd hsub (fun p hp=>?_) hp hs
  obtain ⟨x,hx,rfl⟩:=List.mem_map.1 ((hkin p).2 hp)
  exact hall x hx
 ·have hye:=b5q (P:=Tryz.prog) R2 hy
  have hlk:=c2j cl hnk y hy
  have hyp:y.1 ∈ ps:=(hkin _).1 (List.mem_map_of_mem hy)
  rw [hl,if_pos hyp] at hlk
  have hyv:y.2 = .int .i64 (ps.count y.1:Nat):=(oI hlk).symm
  obtain ⟨hb2z,hitz,hbi⟩:=R2.lt
  have h3:Bw w W3:=h2.grown g2 h2.size (fun j hj=>by cases hj; exact hit)
  obtain ⟨⟨p1,p2⟩,yv⟩:=y
  simp only at hyv
  subst hyv
  have hG3:GRow 3 107 d1h W1.heap.size (fun _=>False) W3 v (done.reverse.map (c3v ps)):=hG.keep (Fr.of_by g2) (fun _ h=>h.elim) (fun i hi e=>by have:=(hG.own hi).2; omega)
  refine e0h hn ?_
  repeat (any_goals (first
  | (with_reducible refine yL ?_)
  | ((with_reducible refine oG fun X Y=>?_); simp [go_sem]; apply Y; clear Y X)))
  refine e8e hye ?_
  iterate 2 (any_goals ((with_reducible refine oG fun X Y=>?_); simp [go_sem]; apply Y; clear Y X))
  refine a0o f2v (fun g5 w5 h5 hg5 hH5=>?_)
  refine a0l (xs:=[.int .i64 p1,.int .i64 p2,.int .i64 0]) f2w rfl rfl (by intro q hq; simp only [List.mem_cons,List.not_mem_nil,or_false] at hq; rcases hq with rfl | rfl | rfl <;> rfl) hH5 rfl (fun w6 hg6 hH6=>?_)
  have h36:Bw W3 w6:=a1j h5 hg6 hg5
  iterate 1 (any_goals ((with_reducible refine oG fun X Y=>?_); simp [go_sem]; apply Y; clear Y X))
  refine a4l (i:=2) (fun w=>by kernel_rfl) rfl rfl hH6 (by simp) (fun w7 hg7 hH7=>?_)
  have h37:Bw W3 w7:=a1j h36 hg7 hg5
  refine a5a (cs:=b2d (p1,p2,(ps.count (p1,p2):Nat))) hH7 f2x (by kernel_rfl) (by kernel_rfl) ?_
  refine f5m (p1,p2,(ps.count (p1,p2):Nat)) (fun g8 w8 h8 hg8 hH8=>?_)
  have h38:=h37.on h8
  have z38:=h38.size
  refine e8j (hG3.next h38 (fun _ h=>h.elim)) (by omega) hH8 (by simp; omega) (fun v9 w9 hG9 hg9 hv9=>?_)
  skip
  have e9:((p1,p2) :: done).reverse.map (c3v ps) = done.reverse.map (c3v ps) ++ [(p1,p2,((ps.count (p1,p2):Nat):Int))]:=by simp [c3v]
  have hnb:∀ j,j < W3.heap.size → v.ownBlock ≠ some j → w9.heap[j]? = W3.heap[j]?:=fun j hj hne=>(hg9.block j (by omega) (fun e=>hne (by first | exact e | exact e.symm))).trans (h38.block j hj)
  have hvo:∀ j,j < W1.heap.size → v.ownBlock ≠ some j:=fun j hj e=>by have:=(hG.own e).2; omega
  have hR9:Ranged lwV w9 it b2 cl (cl.map (·.1)) ((p1,p2) :: done):=R2.of_blocks (hnb b2 hb2z (hvo b2 (by omega))) (hnb it hitz (hvo it hz1))
  have z9:=hg9.size
  have hs9:=hR9.seen
  refine ⟨⟨_,v9,(p1,p2) :: done,rfl,List.nodup_cons.2 ⟨hyd,hnd⟩,hR9,by rw [e9]; exact hG9,by omega,?_⟩,?_⟩
  ·refine ((h3.trans (h38.mono h3.size))).grown hg9 (by have:=h3.size; omega) (fun j hj=>?_)
   have:=(hG.own hj).2; omega
  ·have hl2:=a2w _ _ (List.nodup_cons.2 ⟨hyd,hnd⟩) hR9.sub
   simp only [List.length_cons] at hl2 hs9
   show (cl.map (·.1)).length + 1 - (w9.iterSeen it).size < (cl.map (·.1)).length + 1 - (W2.iterSeen it).size
   omega
theorem a9e (hs:List Hld) (seen:List Tkt) {vh vs:Value} (hr:SRow 14 (a5p 14 d1g) w vh hs) (hseen:SRow 6 (a5p 6 c3r) w vs seen) (hn:hs.length ≤ 12)
  (k:∀ v w' l,Bw w w' → SRow 3 (a5p 3 d1h) w' v l → Sums l (a1b seen hs) → K v w'):a0a Tryz.prog 49 #[vh,vs] K w:=by
 apply e3u
 unfold f8g
 obtain ⟨ad,d,rfl⟩:=hseen.isSlice
 obtain ⟨ad',d',rfl⟩:=hr.isSlice
 rw [b8c]
 have h1:Below w.heap.size w (w.alloc (.map #[] 0)):=(bR).alloc (rL) _
 have hk1:=e0i w
 generalize w.alloc (.map #[] 0) = w1 at *
 repeat (any_goals ((with_reducible refine oG fun X Y=>?_); simp [go_sem]; apply Y; clear Y X))
 refine g5f seen h1 (rL) hseen hk1 (fun w2 h2 hk2=>?_)
 rw [b8c]
 have hz2:=h2.size
 have h3:Below w.heap.size w (w2.alloc (.map #[] 0)):=h2.trans ((bR).alloc h2.size _)
 have hc3:=f5i w2
 have hk3:KnownIs (w2.alloc (.map #[] 0)) w.heap.size seen.reverse:=hk2.keep (heap_alloc_old w2 _ hk2.lt)
 have hne:w.heap.size ≠ w2.heap.size:=by have:=hk2.lt; omega
 generalize w2.alloc (.map #[] 0) = w3 at *
 repeat (any_goals ((with_reducible refine oG fun X Y=>?_); simp [go_sem]; apply Y; clear Y X))
 refine g5g hs h3 (rL) hz2 hne hr (by omega) hk3 hc3 (fun w4 h4 hc4=>?_)
 rw [a7y hs seen.reverse seen (fun t=>by simp)] at hc4
 exact g5h h4 hz2 hc4 (Nat.le_trans (a1y _ _) hn) k
end
end Go.Proofs
namespace Go.Proofs
open Go Go.Sh Go.RowKit FdSpec TkSpec CodeSpec PuSpec DkSpec JnSpec
section
variable {K:VK} {w w' w0 W W':World} {L:List (Addr × Value)} {rb b:Nat} {J M:List Value → World → Prop} {m:List Value → World → Nat}
theorem c6m {x:Hld} {av yv kv:Value} {lb p:Nat} (hc:∀ j u,(b7c x av yv kv)[j]? = some u → w.cell? ⟨lb,p + j,none⟩ = some u):∀ (j:Nat) (u:Value),(a6v x.t)[j]? = some u → w.cell? ⟨lb,p + 7 + j,none⟩ = some u:=by
 intro j u hj
 rw [Nat.add_assoc]
 refine hc (7 + j) u ?_
 have:b7c x av yv kv = [.int .i64 x.limit,.int .i64 x.window,av,.int .i64 x.bl.s,.int .i64 x.bl.u,.int .i64 x.bl.v,yv] ++ (a6v x.t ++ [kv]):=rfl
 rw [this,List.getElem?_append_right (by simp)]
 simp only [List.length_cons,List.length_nil,Nat.zero_add,Nat.add_sub_cancel_left]
 rw [List.getElem?_append_left (gS hj).1]
 exact hj
theorem f5n {l11 l18:List Value} {v18:Value} {w0l:World} {vh:Value} {hs:List Hld} {i kk:Nat} (hr:SRow 14 (a5p 14 d1g) w vh hs) (h2:Bw w W) (hi:i < hs.length) (hk:kk < hs.length) (e1:l11.getD 5 undef = .int .i64 i) (e2:l18.getD 1 undef = .int .i64 kk)
  (k1:∀ W',Nx W W' → hs[i].t = hs[kk].t → K v18 W') (k2:∀ W',Nx W W' → hs[i].t ≠ hs[kk].t → J [l18.getD 0 undef,.int .i64 ((kk + 1:Nat):Int)] W' ∧ m [l18.getD 0 undef,.int .i64 ((kk + 1:Nat):Int)] W' < m l18 w0l) :
  b2g J K vh l11 l18 m v18 w0l W:=by
 unfold b2g
 have hll:=hr.len
 have hiZ:(i:Int) < hs.length:=by omega
 have hkZ:(kk:Int) < hs.length:=by omega
 obtain ⟨ad,d,rfl⟩:=hr.isSlice
 obtain ⟨lb,lo,rfl,hlb,cs,hcl,hcc,av,yv,kv,rfl,hH⟩:=hr.at hi
 obtain ⟨lb',lo',he',hlb',cs',hcl',hcc',av',yv',kv',rfl,hH'⟩:=hr.at hk
 cases he'
 rw [e1,e2]
 generalize hs[i] = x at *
 generalize hs[kk] = y at *
 generalize l18.getD 0 undef = q0 at *
 have hd:Below w.heap.size w { W with drawn:=W.drawn + 1 }:=h2.trans Below.drawn
 have hn:Nx W { W with drawn:=W.drawn + 1 }:=Below.drawn
 refine ⟨Nx { W with drawn:=W.drawn + 1 },bR,rfl,?_⟩
 generalize ({ W with drawn:=W.drawn + 1 }:World) = W4 at hd hn ⊢
 have q1:=fun (W0:World) (h:Nx W4 W0)=>c6m (w:=W0) (fun j u hj=>((hd.trans (h.mono hd.size)).cell hlb).trans (hcc j u hj))
 have q2:=fun (W0:World) (h:Nx W4 W0)=>c6m (w:=W0) (fun j u hj=>((hd.trans (h.mono hd.size)).cell hlb).trans (hcc' j u hj))
 iterate 4 (any_goals (first
 | (with_reducible refine pX ?_)
 | ((with_reducible refine b0d ?_); (with_reducible refine a2b ⟨_,rfl⟩ (fun W0 hW0=>by (refine oG (fun X Y=>?_)); simp [go_sem,hiZ]; (first | exact Y _ _ ⟨rfl,rfl⟩ | exact ⟨by omega,Y _ _ ⟨rfl,rfl⟩⟩)) ?_))))
 refine a9d (cs:=a6v x.t) (p:=lo + i * 14 + 7) q1 b0f (by kernel_rfl) (by kernel_rfl) ?_
 iterate 4 (any_goals (first
 | (with_reducible refine pX ?_)
 | ((with_reducible refine b0d ?_); (with_reducible refine a2b ⟨_,rfl⟩ (fun W0 hW0=>by (refine oG (fun X Y=>?_)); simp [go_sem,hkZ]; (first | exact Y _ _ ⟨rfl,rfl⟩ | exact ⟨by omega,Y _ _ ⟨rfl,rfl⟩⟩)) ?_))))
 refine a9d (cs:=a6v y.t) (p:=lo + kk * 14 + 7) q2 b0f (by kernel_rfl) (by kernel_rfl) ?_
 refine ⟨Nx,fun w5 h5=>?_⟩
 have h05:=hn.on h5
 refine c5r x.t y.t (fun w6 h6=>?_)
 have h06:=h05.on h6
 by_cases e:x.t = y.t
 ·have k1:=k1 w6 h06 e
  repeat (any_goals (with_reducible refine yN ?_))
  exact k1
 ·have k2:=k2 w6 h06 e
  repeat (any_goals (first
  | (with_reducible refine yO ?_)
  | ((with_reducible refine oG fun X Y=>?_); simp [go_sem,e]; (try simp (disch:=omega) only [a0j,a1k,a0p]); apply Y; clear Y X)))
  exact k2
theorem f5o {l11 l36:List Value} {w0l:World} {vh vs:Value} {hs:List Hld} {seen:List Tkt} {i kk:Nat} {f:Bool} (hr:SRow 14 (a5p 14 d1g) w vh hs) (hseen:SRow 6 (a5p 6 c3r) w vs seen) (h2:Bw w W) (hi:i < hs.length) (hk:kk < seen.length) (e1:l11.getD 5 undef = .int .i64 i) (e0:l36.getD 0 undef = .bool f) (e2:l36.getD 1 undef = .int .i64 kk)
  (k2:∀ W',Nx W W' → J [.bool (f || decide (hs[i].t = seen[kk])),.int .i64 ((kk + 1:Nat):Int)] W' ∧ m [.bool (f || decide (hs[i].t = seen[kk])),.int .i64 ((kk + 1:Nat):Int)] W' < m l36 w0l) :
  b2h J vh vs l11 l36 m w0l W:=by
 unfold b2h
 have hll:=hr.len
 have hsl:=hseen.len
 have hiZ:(i:Int) < hs.length:=by omega
 have hkZ:(kk:Int) < seen.length:=by omega
 obtain ⟨ad,d,rfl⟩:=hr.isSlice
 obtain ⟨ad',d',rfl⟩:=hseen.isSlice
 obtain ⟨lb,lo,rfl,hlb,cs,hcl,hcc,av,yv,kv,rfl,hH⟩:=hr.at hi
 obtain ⟨sb,so,rfl,hsb,cs',hcl',hcc',rfl,ht⟩:=hseen.at hk
 rw [e1,e0,e2]
 generalize hs[i] = x at *
 generalize seen[kk] = y at *
 have hd:Below w.heap.size w { W with drawn:=W.drawn + 1 }:=h2.trans Below.drawn
 have hn:Nx W { W with drawn:=W.drawn + 1 }:=Below.drawn
 refine ⟨Nx { W with drawn:=W.drawn + 1 },bR,rfl,?_⟩
 generalize ({ W with drawn:=W.drawn + 1 }:World) = W4 at hd hn ⊢
 cases f with
 | true=>
  repeat (any_goals (with_reducible first|refine pX ?_|((refine b1p ?_); refine a3d fun _=>?_)|refine zD ?_))
  refine ⟨Nx,fun w5 h5=>?_⟩
  have k2:=k2 w5 (hn.on h5)
  repeat (any_goals (first
  | (with_reducible first|refine zD ?_|refine yB ?_)
  | ((with_reducible refine oG fun X Y=>?_); simp [go_sem]; (try simp (disch:=omega) only [a0j,a1k,a0p]); apply Y; clear Y X)))
  exact k2
 | false=>
  have q1:=fun (W0:World) (h:Nx W4 W0)=>c6m (w:=W0) (fun j u hj=>((hd.trans (h.mono hd.size)).cell hlb).trans (hcc j u hj))
  have q2:=fun (W0:World) (h:Nx W4 W0) (j:Nat) (u:Value) (hj:(a6v y)[j]? = some u)=>((hd.trans (h.mono hd.size)).cell hsb).trans (hcc' j u hj)
  iterate 16 (any_goals (first
  | (with_reducible first|refine pX ?_|((refine b1p ?_); refine a3d fun _=>?_)|refine zC ?_)
  | ((with_reducible refine b0d ?_); (with_reducible refine a2b ⟨_,rfl⟩ (fun W0 hW0=>by (refine oG (fun X Y=>?_)); simp [go_sem,hiZ]; (first | exact Y _ _ ⟨rfl,rfl⟩ | exact ⟨by omega,Y _ _ ⟨rfl,rfl⟩⟩)) ?_))))
  refine a9d (cs:=a6v x.t) (p:=lo + i * 14 + 7) q1 b0f (by kernel_rfl) (by kernel_rfl) ?_
  iterate 11 (any_goals (first
  | (with_reducible first|refine pX ?_|((refine b1p ?_); refine a3d fun _=>?_)|refine zC ?_)
  | ((with_reducible refine b0d ?_); (with_reducible refine a2b ⟨_,rfl⟩ (fun W0 hW0=>by (refine oG (fun X Y=>?_)); simp [go_sem,hkZ]; (first | exact Y _ _ ⟨rfl,rfl⟩ | exact ⟨by omega,Y _ _ ⟨rfl,rfl⟩⟩)) ?_))))
  refine a9d (cs:=a6v y) (p:=so + kk * 6) q2 b0f (by kernel_rfl) (by kernel_rfl) ?_
  refine ⟨Nx,fun w5 h5=>?_⟩
  have h05:=hn.on h5
  iterate 1 (any_goals (with_reducible refine zC ?_))
  refine c5r x.t y (fun w6 h6=>?_)
  have k2:=k2 w6 (h05.on h6)
  rw [Bool.false_or] at k2
  repeat (any_goals (first
  | (with_reducible refine yC ?_)
  | ((with_reducible refine oG fun X Y=>?_); simp [go_sem]; (try simp (disch:=omega) only [a0j,a1k,a0p]); apply Y; clear Y X)))
  exact k2
theorem g1k {l61:List Value} {w0l:World} {v q:Value} {l:List (Int × Int × Int)} {i g:Nat} {a:Int × Int × Int} (hr:SRow 3 (a5p 3 d1h) w v l) (h2:Bw w W) (hi:i < l.length) (hB:Go.Sh.Holds W g 107 (b2d a)) (hlt:a.1 < (l[i]).1 ∨ a.1 = (l[i]).1 ∧ a.2.1 < (l[i]).2.1) (e0:l61.getD 0 undef = q) (e1:l61.getD 1 undef = .int .i64 i)
  (k2:∀ W',Bw w W' → J [q,.int .i64 ((i + 1:Nat):Int)] W' ∧ m [q,.int .i64 ((i + 1:Nat):Int)] W' < m l61 w0l) :
  b2j J K l61 m (ptr g 0) v w0l W:=by
 unfold b2j
 have hll:=hr.len
 have hiZ:(i:Int) < l.length:=by omega
 obtain ⟨ad,d,rfl⟩:=hr.isSlice
 obtain ⟨lb,lo,rfl,hlb,cs,hcl,hcc,rfl⟩:=hr.at hi
 rw [e0,e1]
 generalize l[i] = x at *
 have hd:Below w.heap.size w { W with drawn:=W.drawn + 1 }:=h2.trans Below.drawn
 have hB4:Go.Sh.Holds { W with drawn:=W.drawn + 1 } g 107 (b2d a):=hB
 refine ⟨Nx { W with drawn:=W.drawn + 1 },bR,rfl,?_⟩
 generalize ({ W with drawn:=W.drawn + 1 }:World) = W4 at hd hB4 ⊢
 have p0:∀ W0,Nx W4 W0 → W0.cell? ⟨g,0,none⟩ = some (.int .i64 a.1):=fun W0 h=>a3z (hB4.next h) (j:=0) rfl
 have p1:∀ W0,Nx W4 W0 → W0.cell? ⟨g,1,none⟩ = some (.int .i64 a.2.1):=fun W0 h=>a3z (hB4.next h) (j:=1) rfl
 have q0:∀ W0,Nx W4 W0 → W0.cell? ⟨lb,lo + i * 3,none⟩ = some (.int .i64 x.1):=fun W0 h=>((hd.trans (h.mono hd.size)).cell hlb).trans (hcc 0 _ rfl)
 have q1:∀ W0,Nx W4 W0 → W0.cell? ⟨lb,lo + i * 3 + 1,none⟩ = some (.int .i64 x.2.1):=fun W0 h=>((hd.trans (h.mono hd.size)).cell hlb).trans (hcc 1 _ rfl)
 rcases hlt with h | ⟨h,h'⟩
 ·have n1:¬ x.1 < a.1:=by omega
  have n2:¬ a.1 = x.1:=by omega
  repeat (any_goals (first
  | (with_reducible first|refine pX ?_|((refine b1p ?_); refine a3d fun _=>?_)|((refine b0c ?_); first|refine zB ?_|refine zC ?_))
  | ((with_reducible refine b0d ?_); first|(with_reducible refine vB ?_)|(with_reducible refine a2b ⟨_,rfl⟩ (fun W0 hW0=>by (refine oG (fun X Y=>?_)); simp [go_sem,p0 _ hW0,p1 _ hW0,q0 _ hW0,q1 _ hW0,hiZ,n1,n2]; (first | exact Y _ _ ⟨rfl,rfl⟩ | exact ⟨by omega,Y _ _ ⟨rfl,rfl⟩⟩)) ?_))))
  refine ⟨Nx,fun w5 h5=>?_⟩
  have k2:=k2 w5 (hd.trans (h5.mono hd.size))
  repeat (any_goals (first
  | (with_reducible refine yM ?_)
  | ((with_reducible refine oG fun X Y=>?_); simp [go_sem]; (try simp (disch:=omega) only [a0j,a1k,a0p]); apply Y; clear Y X)))
  exact k2
 ·have n1:¬ x.1 < a.1:=by omega
  have n3:¬ x.2.1 ≤ a.2.1:=by omega
  repeat (any_goals (first
  | (with_reducible first|refine pX ?_|((refine b1p ?_); refine a3d fun _=>?_)|((refine b0c ?_); first|refine zA ?_|refine zC ?_))
  | ((with_reducible refine b0d ?_); first|(with_reducible first|refine vA ?_|refine vB ?_)|(with_reducible refine a2b ⟨_,rfl⟩ (fun W0 hW0=>by (refine oG (fun X Y=>?_)); simp [go_sem,p0 _ hW0,p1 _ hW0,q0 _ hW0,q1 _ hW0,hiZ,n1,h,n3]; (first | exact Y _ _ ⟨rfl,rfl⟩ | exact ⟨by omega,Y _ _ ⟨rfl,rfl⟩⟩)) ?_))))
  refine ⟨Nx,fun w5 h5=>?_⟩
  have k2:=k2 w5 (hd.trans (h5.mono hd.size))
  repeat (any_goals (first
  | (with_reducible refine yM ?_)
  | ((with_reducible refine oG fun X Y=>?_); simp [go_sem]; (try simp (disch:=omega) only [a0j,a1k,a0p]); apply Y; clear Y X)))
  exact k2
theorem e0l {T:TypeId} (k:∀ W,Bw w W → W.ownsRow w.heap.size 26 6 (.slice (some ⟨w.heap.size,0,none⟩) 0 0) 0 [] → K (.slice (some ⟨w.heap.size,0,none⟩) 0 0) W):oM Tryz.prog (.buildSlice 97 0 #[]) T [] K w:=by
 repeat (any_goals ((with_reducible refine oG fun X Y=>?_); simp [go_sem]; apply Y; clear Y X))
 exact k _ ((Below.refl _ w).alloc (rL) _) (World.ownsRow_lit w #[] 0 (rL) (Nat.zero_le _) rfl)
theorem c6n {T:TypeId} (t:Tkt) (k:∀ g W,Bw w W → w.heap.size ≤ g → Go.Sh.Holds W g 26 (a6v t) → K (.slice (some ⟨g,0,none⟩) 1 1) W):oM Tryz.prog (.buildSlice 97 1 #[(0,.tmp 0)]) T [b3b t] K w:=by
 rw [a2i]; exact b2r (by kernel_rfl) k
theorem c0i {T:TypeId} {B g:Nat} {vs:Value} {seen:List Tkt} (hseen:SRow 6 (a5p 6 c3r) w vs seen) (hnil:∀ ad c,vs = .slice ad seen.length c → ad = none → seen.length = 0 ∧ c = 0) (hsl:seen.length ≤ 12) (hW:Bw w W) (hB:B ≤ W.heap.size)
  (ho:W.ownsRow B 26 6 (.slice (some ⟨g,0,none⟩) 0 0) 0 [])
  (k:∀ v' W',GRow 6 26 c3r B (fun _=>False) W' v' seen → Bw W W' → K v' W') :
  oM Tryz.prog (.call { callee:=.builtin .append,args:=#[.tmp 0,.tmp 1],argTypes:=#[97,97] }) T [.slice (some ⟨g,0,none⟩) 0 0,vs] K W:=by
 obtain ⟨ad,d,rfl⟩:=hseen.isSlice
 refine c5c 97 T 26 ((Tryz.prog.info? 26).getD default) (.agg (a6v ⟨0,0,0,0,0,0⟩).toArray) 6 48 (by kernel_rfl) (by kernel_rfl) (by kernel_rfl) (by kernel_rfl) (by kernel_rfl) (by kernel_rfl) (by omega) hB ho (a2g a6v seen) (a4y (sz:=6) (fun _=>rfl) seen) (hnil ad d rfl) ?_ ?_ (by simp only [maxLen]; omega) (by omega) (fun v' w6 ho6 h6 _=>?_)
 ·rintro a rfl j u hj
  have hj6:j < seen.length * 6:=by have:=(gS hj).1; rwa [a4y (sz:=6) (fun _=>rfl)] at this
  have hi:j / 6 < seen.length:=by omega
  have hm:j % 6 < 6:=Nat.mod_lt _ (by omega)
  have hf:=a7s (mk:=a6v) (sz:=6) (fun _=>rfl) seen (j / 6) (j % 6) (gE hi) hm
  rw [show j / 6 * 6 + j % 6 = j by omega] at hf
  rw [hf] at hj
  obtain ⟨lb,lo,hbo,hlb,cs,hcl,hcc,rfl,_⟩:=hseen.at hi
  cases hbo
  rw [a3e]
  have:=(hW.cell hlb).trans (hcc (j % 6) u hj)
  rwa [show lo + j / 6 * 6 + j % 6 = lo + j by omega] at this
 ·intro u hu
  unfold a2g at hu
  obtain ⟨y,_,hy⟩:=List.mem_flatMap.1 hu
  exact b3d y u hy
 ·refine k v' w6 ⟨seen.map (fun t=>(⟨a6v t,rfl⟩:Cl 6)),?_,fun W2 _ _ _ _ _=>⟨by simp,fun i c x hc hx=>?_⟩⟩ h6
  ·have e:a2g Cl.cs (seen.map (fun t=>(⟨a6v t,rfl⟩:Cl 6))) = a2g a6v seen:=by
    unfold a2g
    rw [List.flatMap_map]
    rfl
   rw [e]; exact ho6
  ·rw [List.getElem?_map,hx] at hc
   simp only [Option.map_some,Option.some.injEq] at hc
   subst hc
   obtain ⟨hi,rfl⟩:=gS hx
   obtain ⟨lb,lo,hbo,hlb,cs,hcl,hcc,rfl,ht⟩:=hseen.at hi
   exact ⟨rfl,ht⟩
theorem e0m {B:Nat} {v:Value} {l:List Tkt} {t:Tkt} {T:TypeId} {q:Nat} (h:GRow 6 26 c3r B (fun _=>False) w v l) (hB:B ≤ w.heap.size) (hq:Go.Sh.Holds w q 26 (a6v t)) (ht:WTkt t) (hl:l.length < 1000)
  (k:∀ v' w',GRow 6 26 c3r B (fun _=>False) w' v' (l ++ [t]) → w.grownBy w' v.ownBlock → K v' w') :
  oM Tryz.prog (.call { callee:=.builtin .append,args:=#[.tmp 0,.tmp 1],argTypes:=#[97,97] }) T [v,.slice (some ⟨q,0,none⟩) 1 1] K w:=
 b5m 97 T ((Tryz.prog.info? 26).getD default) (.agg (a6v ⟨0,0,0,0,0,0⟩).toArray) 48 (by kernel_rfl) (by kernel_rfl) (by kernel_rfl) (by kernel_rfl) (by kernel_rfl) (by kernel_rfl) (by omega) (by omega) h hB (x:=t) (xs:=a6v t) rfl
  (fun j u hj=>by rw [Nat.zero_add]; exact a3z hq hj) (b3d t) (fun _ _ _ _ _ _=>⟨rfl,ht⟩) (fun _ h=>h.elim) (by omega) (fun v' w' a b c _=>k v' w' a b)
theorem b0v {l:List (Int × Int × Int)} {ps:List (Int × Int)} (h:Sums l ps) (hn:ps.length ≤ 12):(∀ e ∈ l,1 ≤ e.2.2 ∧ e.2.2 ≤ 1000) ∧ l.length ≤ 1000 ∧ a3l l = ps.length:=by
 have hb:∀ e ∈ l,1 ≤ e.2.2 ∧ e.2.2 ≤ 1000:=fun e he=>by
  have h1:=h.pos e he
  have h2:=(h.cnt e he).1
  have h3:=List.count_le_length (a:=(e.1,e.2.1)) (l:=ps)
  omega
 refine ⟨hb,?_,h.total⟩
 have ht:=h.total
 have:∀ l:List (Int × Int × Int),(∀ e ∈ l,1 ≤ e.2.2 ∧ e.2.2 ≤ 1000) → (l.length:Int) ≤ a3l l:=by
  intro l hl
  induction l with
  | nil=>simp [a3l]
  | cons x l ih=>
   have:=hl x (by simp)
   have:=ih (fun e he=>hl e (by simp [he]))
   rw [a3l,List.length_cons]; omega
 have:=this l hb
 omega
set_option maxHeartbeats 4000000 in
theorem g1l {l11:List Value} {vh vs:Value} {hs:List Hld} {seen:List Tkt} {more:Tkt} {b5:Nat} (hr:SRow 14 (a5p 14 d1g) w vh hs) (hseen:SRow 6 (a5p 6 c3r) w vs seen) (hnil:∀ ad c,vs = .slice ad seen.length c → ad = none → seen.length = 0 ∧ c = 0)
  (hn:hs.length ≤ 12) (hsl:seen.length ≤ 12) (hap:b3i hs) (ht:WTkt more) (h2:Bw w W) (hB:Go.Sh.Holds W b5 26 (a6v more)) (e4:l11.getD 4 undef = .int .i64 ((a1b seen hs).length:Nat))
  (k:∀ w',Bw w w' → K (.bool true) w') :
  b0j K vh vs l11 (.int .i64 ((a1b seen hs).length:Nat)) (.bool true) (ptr b5 0) W:=by
 unfold b0j
 rw [e4]
 obtain ⟨hm1,hm2⟩:=c1w more seen hap
 have hm0:=c1v hap
 have hc1:=a1y hs seen
 have hc2:=a1y hs (seen ++ [more])
 have hc3:=a1y hs []
 have hhl:=hr.len
 obtain ⟨vad,vd,rfl⟩:=hr.isSlice
 have hd:Below w.heap.size w { W with drawn:=W.drawn + 1 }:=h2.trans Below.drawn
 have hB4:Go.Sh.Holds { W with drawn:=W.drawn + 1 } b5 26 (a6v more):=hB
 refine ⟨Nx { W with drawn:=W.drawn + 1 },bR,?_⟩
 generalize ({ W with drawn:=W.drawn + 1 }:World) = W4 at hd hB4 ⊢
 have z4:=hd.size
 iterate 2 (any_goals (with_reducible refine pX ?_))
 refine a9d (cs:=a6v more) (p:=0) (fun W0 h j u hj=>by rw [Nat.zero_add]; exact a3z (hB4.next h) hj) b0f (by kernel_rfl) (by kernel_rfl) ?_
 have hgr:∀ {v:Value} {V V':World} {l:List Tkt},Nx W4 V → GRow 6 26 c3r W4.heap.size (fun _=>False) V v l → V.grownBy V' v.ownBlock → Nx W4 V':=fun h hG hg=>
  h.grown hg h.size (fun j hj=>(hG.own hj).2)
 have hfin:∀ {V:World} {v:Value},Nx W4 V → GRow 6 26 c3r W4.heap.size (fun _=>False) V v (seen ++ [more]) → SRow 6 (a5p 6 c3r) V v (seen ++ [more]):=fun h hG=>hG.srow (by omega) (by simp; omega)
 refine ⟨e0l (fun V1 a1 o1=>⟨a1,?oa,?ob⟩),?oc⟩
 case' oa=>
  refine c0i hseen hnil hsl (hd.on a1) a1.size (a3x o1 (rL)) (fun v2 V2 g2 a2=>?_)
  have a02:=a1.on a2
  refine ⟨a02,?_⟩
  refine c6n more (fun g3 V3 a3 hg3 hH3=>?_)
  have a03:=a02.on a3
  refine ⟨a03,?_⟩
  have g23:=g2.next a3 (fun _ h=>h.elim)
  refine e0m g23 a03.size hH3 ht (by omega) (fun v4 V4 g4 q4=>?_)
  have a04:=hgr a03 g23 q4
 case' ob=>
  refine c6n more (fun g3 V3 a3 hg3 hH3=>?_)
  have a13:=a1.on a3
  refine ⟨a13,?_⟩
  refine c0i hseen hnil hsl (hd.on a13) a13.size (a0u (a3x o1 (rL)) (fun i hi=>a3.block i (a0n o1 hi).1)) (fun v2 V2 g2 a2=>?_)
  have a03:=a13.on a2
  refine ⟨a03,?_⟩
  refine e0m g2 a03.size (hH3.next a2) ht (by omega) (fun v4 V4 g4 q4=>?_)
  have a04:=hgr a03 g2 q4
 case' oc=>
  refine c6n more (fun g3 V3 a3 hg3 hH3=>?_)
  refine ⟨a3,?_⟩
  refine e0l (fun V1 a1 o1=>?_)
  have a13:=a3.on a1
  refine ⟨a13,?_⟩
  refine c0i hseen hnil hsl (hd.on a13) a13.size (a3x o1 a3.size) (fun v2 V2 g2 a2=>?_)
  have a03:=a13.on a2
  refine ⟨a03,?_⟩
  refine e0m g2 a03.size ((hH3.next a1).next a2) ht (by omega) (fun v4 V4 g4 q4=>?_)
  have a04:=hgr a03 g2 q4
 all_goals
  refine ⟨a04,?_⟩
  have r4:=hfin a04 g4
  refine a9e hs (seen ++ [more]) ((hr.next (a1e a9b) (hd.on a04))) r4 hn (fun v5 V5 l5 a5 r5 s5=>?_)
  have a05:=a04.on a5
  refine ⟨a05,?_⟩
  obtain ⟨b1,b2,b3⟩:=b0v s5 (by omega)
  refine c0g l5 r5 b1 b2 ?_
  rw [b3]
  refine ⟨a05,a05,?_⟩
  generalize (a1b (seen ++ [more]) hs).length = n2 at *
  generalize (a1b seen hs).length = n1 at *
  have c1:(n2:Int) ≤ n1:=by omega
  have c2:(n1:Int) - 1 ≤ n2:=by omega
  repeat (any_goals (first
  | (with_reducible first|refine a0t ?_|refine zA ?_|refine yB ?_)
  | ((with_reducible refine oG fun X Y=>?_); simp [go_sem,c1,c2]; (try simp (disch:=omega) only [a0j,a1k,a0p]); apply Y; clear Y X)))
  refine a9e hs [] ((hr.next (a1e a9b) (hd.on a05))) SRow.nil hn (fun v6 V6 l6 a6 r6 s6=>?_)
  have a06:=a05.on a6
  obtain ⟨b4,b5,b6⟩:=b0v s6 (by omega)
  repeat (any_goals (with_reducible refine zA ?_))
  refine c0g l6 r6 b4 b5 ?_
  rw [b6,hm0]
  have k:=k V6 (hd.on a06)
  repeat (any_goals (first
  | (with_reducible first|refine a0t ?_|refine zA ?_|refine yB ?_)
  | ((with_reducible refine oG fun X Y=>?_); simp [go_sem]; apply Y; clear Y X)))
  exact k
theorem f5p {l11:List Value} {vh vs v q0:Value} {hs:List Hld} {seen:List Tkt} {more:Tkt} {b5:Nat} {l:List (Int × Int × Int)} (hr:SRow 14 (a5p 14 d1g) w vh hs) (hseen:SRow 6 (a5p 6 c3r) w vs seen) (hnil:∀ ad c,vs = .slice ad seen.length c → ad = none → seen.length = 0 ∧ c = 0)
  (hn:hs.length ≤ 12) (hsl:seen.length ≤ 12) (hap:b3i hs) (ht:WTkt more) (h2:Bw w W) (hB:Go.Sh.Holds W b5 26 (a6v more)) (e4:l11.getD 4 undef = .int .i64 ((a1b seen hs).length:Nat)) (e1:l11.getD 1 undef = q0)
  (hl:SRow 3 (a5p 3 d1h) W v l) (hS:Sums l (a1b seen hs)) (k:∀ w',Bw w w' → K (.bool true) w') :
  b5j [(l11.getD 1 undef),(.int .i64 1)] W (fun J_59 m_60 l_61 u_l_61 w0_l_61=>b2k J_59 K vh vs l11 l_61 m_60 (.bool true) (ptr b5 0) v w0_l_61):=by
 rw [e1]
 have hc1:=a1y hs seen
 obtain ⟨b1,b2,b3⟩:=b0v hS (by omega)
 have hll:=hl.len
 refine ⟨fun vs W2=>∃ i:Nat,vs = [q0,.int .i64 (i:Int)] ∧ 1 ≤ i ∧ (i ≤ l.length ∨ i = 1) ∧ Nx W W2,fun vs _=>match vs with | [_,.int _ i]=>l.length - i.toNat | _=>0,⟨1,rfl,by omega,by omega,bR⟩,?_⟩
 rintro _ u W2 ⟨i,rfl,hi,hi2,n2⟩
 unfold b2k
 obtain ⟨ad,d,rfl⟩:=hl.isSlice
 have h02:=h2.on n2
 by_cases hil:i < l.length
 ·have hiZ:(i:Int) < l.length:=by omega
  have hi1:i - 1 < l.length:=by omega
  have hl2:=hl.next (a1e c3t) n2
  obtain ⟨lb,lo,rfl,hlb,cs,hcl,hcc,rfl⟩:=hl2.at hi1
  have hlt:=List.pairwise_iff_getElem.1 hS.asc (i - 1) i hi1 hil (by omega)
  have e3:(i:Int) - 1 = ((i - 1:Nat):Int):=by omega
  have hi1Z:((i - 1:Nat):Int) < l.length:=by omega
  have hi0Z:(0:Int) ≤ ((i - 1:Nat):Int):=by omega
  iterate 4 (any_goals (first
  | (with_reducible refine yL ?_)
  | ((with_reducible refine oG fun X Y=>?_); simp [go_sem,hiZ]; (try simp (disch:=omega) only [a0j,a1k,a0p]); apply Y; clear Y X)))
  rw [e3]
  iterate 1 (any_goals ((with_reducible refine oG fun X Y=>?_); simp [go_sem,hi1Z,hi0Z]; apply Y; clear Y X))
  refine a2j (cs:=b2d l[i - 1]) (p:=lo + (i - 1) * 3) hcc f2x (by kernel_rfl) (by kernel_rfl) ?_
  refine a0o f2v (fun g5 w5 h5 hg5 hH5=>?_)
  refine a0l (xs:=b2d l[i - 1]) f2w rfl rfl (c6l _) hH5 rfl (fun w6 hg6 hH6=>?_)
  have h26:Bw W2 w6:=a1j h5 hg6 hg5
  refine g1k hl (n2.on h26) hil hH6 hlt rfl rfl (fun w7 h7=>?_)
  exact ⟨⟨i + 1,rfl,by omega,by omega,h7⟩,by show l.length - (((i + 1:Nat):Int)).toNat < l.length - ((i:Nat):Int).toNat; omega⟩
 ·have hiZ:¬ (i:Int) < l.length:=by omega
  repeat (any_goals (first
  | (with_reducible refine yM ?_)
  | ((with_reducible refine oG fun X Y=>?_); simp [go_sem,hiZ]; apply Y; clear Y X)))
  refine c0g l (hl.next (a1e c3t) n2) b1 b2 ?_
  rw [b3]
  exact g1l hr hseen hnil hn hsl hap ht h02 (hB.next n2) e4 k
end
def f5q (seen:List Tkt) (l:List Hld):Nat:=(l.filter fun h=>!decide (h.t ∈ seen)).length
theorem e0n (seen:List Tkt) (l:List Hld) (x:Hld):f5q seen (l ++ [x]) = f5q seen l + if x.t ∈ seen then 0 else 1:=by
 unfold f5q
 rw [List.filter_append,List.length_append]
 by_cases h:x.t ∈ seen <;> simp [h]
theorem f5r (seen:List Tkt) (l:List Hld):f5q seen l ≤ l.length:=List.length_filter_le _ _
section
variable {K:VK} {w w' w0 W W':World} {L:List (Addr × Value)} {rb b:Nat} {J M:List Value → World → Prop} {m:List Value → World → Nat}
theorem e8k {l11 l18:List Value} {vh vs:Value} {hs:List Hld} {seen:List Tkt} {i n:Nat} (hr:SRow 14 (a5p 14 d1g) w vh hs) (hseen:SRow 6 (a5p 6 c3r) w vs seen) (h2:Bw w W) (hi:i < hs.length) (e1:l11.getD 5 undef = .int .i64 i) (e4:l11.getD 4 undef = .int .i64 (n:Nat)) (hn:n ≤ 1000)
  (k:∀ q0 q1 q2 q3 W',Nx W W' → M [q0,q1,q2,q3,.int .i64 ((n + if hs[i].t ∈ seen then 0 else 1:Nat):Int)] W') :
  b5j [(.bool false),(.int .i64 0)] W (fun J_34 m_35 l_36 u_l_36 w0_l_36=>b2i J_34 M vh vs l11 l18 l_36 m_35 w0_l_36):=by
 have hsl:=hseen.len
 refine ⟨fun vs W2=>∃ kk:Nat,vs = [.bool (decide (hs[i].t ∈ seen.take kk)),.int .i64 (kk:Int)] ∧ kk ≤ seen.length ∧ Nx W W2,fun vs _=>match vs with | [_,.int _ i]=>seen.length - i.toNat | _=>0,⟨0,by simp,by omega,bR⟩,?_⟩
 rintro _ u W2 ⟨kk,rfl,hk,n2⟩
 unfold b2i
 rw [e4]
 have hvs:=hseen
 obtain ⟨ad,d,rfl⟩:=hvs.isSlice
 by_cases hkl:kk < seen.length
 ·have hkZ:(kk:Int) < seen.length:=by omega
  have hnext:decide (hs[i].t ∈ seen.take (kk + 1)) = (decide (hs[i].t ∈ seen.take kk) || decide (hs[i].t = seen[kk])):=by
   rw [List.take_succ_eq_append_getElem hkl,← Bool.decide_or]
   simp only [List.mem_append,List.mem_singleton]
  repeat (any_goals (first
  | (with_reducible refine yL ?_)
  | ((with_reducible refine oG fun X Y=>?_); simp [go_sem,hkZ]; apply Y; clear Y X)))
  refine f5o hr hseen (h2.on n2) hi hkl e1 rfl rfl (fun W' h'=>?_)
  rw [← hnext]
  exact ⟨⟨kk + 1,rfl,by omega,n2.on h'⟩,by show seen.length - (((kk + 1:Nat):Int)).toNat < seen.length - ((kk:Nat):Int).toNat; omega⟩
 ·have hkZ:¬ (kk:Int) < seen.length:=by omega
  have hke:kk = seen.length:=by omega
  subst hke
  rw [List.take_length]
  have k:=fun q0 q1 q2 q3=>k q0 q1 q2 q3 W2 n2
  by_cases hm:hs[i].t ∈ seen
  ·rw [if_pos hm] at k
   rw [decide_eq_true hm]
   generalize l18.getD 0 undef = x0
   generalize l18.getD 1 undef = x1
   repeat (any_goals (first
   | (with_reducible refine yM ?_)
   | ((with_reducible refine oG fun X Y=>?_); simp [go_sem]; apply Y; clear Y X)))
   exact k _ _ _ _
  ·rw [if_neg hm] at k
   rw [decide_eq_false hm]
   generalize l18.getD 0 undef = x0
   generalize l18.getD 1 undef = x1
   repeat (any_goals (first
   | (with_reducible ((refine a1d ?_); first|refine yL ?_|refine yM ?_))
   | ((with_reducible refine oG fun X Y=>?_); simp [go_sem]; (try simp (disch:=omega) only [a0j,a1k,a0p]); apply Y; clear Y X)))
   exact k _ _ _ _
theorem c3w (hs:List Hld) (seen:List Tkt) (more:Tkt) {vh vs:Value} (hr:SRow 14 (a5p 14 d1g) w vh hs) (hseen:SRow 6 (a5p 6 c3r) w vs seen) (hnil:∀ ad c,vs = .slice ad seen.length c → ad = none → seen.length = 0 ∧ c = 0) (ht:WTkt more) (hl:Cd.LaidE w) (hdb:DbT w)
  (k:∀ w',Bw w w' → K (.bool true) w'):a0a Tryz.prog 11 #[vh,vs,b3b more] K w:=by
 apply e3v
 unfold f8h
 have hvs:=hseen
 have hvh:=hr
 obtain ⟨vad,vc,rfl⟩:=hvs.isSlice
 obtain ⟨had,hc,rfl⟩:=hvh.isSlice
 refine a5l (cs:=a6v more) rfl (fun b5 w1 h1 hb1 hB1=>?_)
 refine f5h (hl.below h1 hl.size) (DbT.next hdb h1) (fun w2 h2=>?_)
 have h02:=h1.on h2
 have hB2:=hB1.next h2
 refine c6j hs (hr.next (a1e a9b) h02) (fun w3 h3=>?_)
 have h03:=h02.on h3
 have hB3:=hB2.next h3
 cases hf:b8j hs with
 | false=>
  have k:=k _ h03
  repeat (any_goals (first
  | (with_reducible first|refine zD ?_|refine yB ?_|refine yL ?_)
  | ((with_reducible refine oG fun X Y=>?_); simp [go_sem]; apply Y; clear Y X)))
  exact k
 | true=>
 have hn:hs.length ≤ 6:=by
  unfold b8j at hf
  simp only [bA,dE] at hf
  exact hf.2
 by_cases hs12:12 < seen.length
 ·have hsZ:(12:Int) < seen.length:=by omega
  have k:=k _ h03
  repeat (any_goals (first
  | (with_reducible first|refine a0t ?_|refine zC ?_|refine yC ?_|refine yL ?_)
  | ((with_reducible refine oG fun X Y=>?_); simp [go_sem,hsZ]; apply Y; clear Y X)))
  exact k
 have hsZ:¬ (12:Int) < seen.length:=by omega
 repeat (any_goals (first
 | (with_reducible first|refine a0t ?_|refine zC ?_|refine yC ?_|refine yM ?_)
 | ((with_reducible refine oG fun X Y=>?_); simp [go_sem,hsZ]; apply Y; clear Y X)))
 refine ⟨fun vs W=>∃ (q0 q1 q2 q3:Value) (i:Nat),vs = [q0,q1,q2,q3,.int .i64 ((f5q seen (hs.take i):Nat):Int),.int .i64 (i:Int)] ∧ i ≤ hs.length ∧ b3i (hs.take i) ∧ Nx w3 W,
  fun vs _=>match vs with | [_,_,_,_,_,.int _ i]=>hs.length - i.toNat | _=>0,⟨_,_,_,_,0,rfl,by omega,List.Pairwise.nil,bR⟩,?_⟩
 rintro _ u W2 ⟨q0,q1,q2,q3,i,rfl,hi,hap,n2⟩
 unfold c1a
 have hW2:=h03.on n2
 by_cases hil:i < hs.length
 ·have hiZ:(i:Int) < hs.length:=by omega
  have hcl:=f5r seen (hs.take i)
  rw [List.length_take] at hcl
  have htk:hs.take (i + 1) = hs.take i ++ [hs[i]]:=List.take_succ_eq_append_getElem hil
  repeat (any_goals (first
  | (with_reducible refine yL ?_)
  | ((with_reducible refine oG fun X Y=>?_); simp [go_sem,hiZ]; apply Y; clear Y X)))
  refine ⟨fun l W=>∃ q0 q1 q2 q3,l = [q0,q1,q2,q3,.int .i64 ((f5q seen (hs.take (i + 1)):Nat):Int)] ∧ b3i (hs.take (i + 1)) ∧ Nx w3 W,?_,?_⟩
  ·refine ⟨fun vs W=>∃ kk:Nat,vs = [q1,.int .i64 (kk:Int)] ∧ kk ≤ i ∧ (∀ j (hj:j < hs.length),j < kk → hs[j].t ≠ hs[i].t) ∧ Nx W2 W,fun vs _=>match vs with | [_,.int _ k]=>i - k.toNat | _=>0,⟨0,rfl,by omega,fun j _ h=>by omega,bR⟩,?_⟩
   rintro _ u4 W4 ⟨kk,rfl,hk,hne,n4⟩
   have hW4:=hW2.on n4
   by_cases hki:kk < i
   ·have hkiZ:(kk:Int) < i:=by omega
    repeat (any_goals (first
    | (with_reducible refine yL ?_)
    | ((with_reducible refine oG fun X Y=>?_); simp [go_sem,hkiZ]; apply Y; clear Y X)))
    refine f5n hr hW4 hil (by omega) rfl rfl (fun W' h' e=>k W' (hW4.on h')) (fun W' h' e=>?_)
    refine ⟨⟨kk + 1,rfl,by omega,fun j hj hjk=>?_,n4.on h'⟩,by show i - (((kk + 1:Nat):Int)).toNat < i - ((kk:Nat):Int).toNat; omega⟩
    by_cases hjk':j = kk
    ·subst hjk'; exact fun e'=>e e'.symm
    ·exact hne j hj (by omega)
   ·have hkiZ:¬ (kk:Int) < i:=by omega
    have hke:kk = i:=by omega
    subst hke
    repeat (any_goals (first
    | (with_reducible refine yM ?_)
    | ((with_reducible refine oG fun X Y=>?_); simp [go_sem,hkiZ]; apply Y; clear Y X)))
    refine e8k hr hseen hW4 hil rfl rfl (by omega) (fun p0 p1 p2 p3 W' h'=>⟨p0,p1,p2,p3,by rw [htk,e0n],?_,n2.on (n4.on h')⟩)
    rw [htk]
    refine List.pairwise_append.2 ⟨hap,List.pairwise_singleton _ _,fun a ha b hb=>?_⟩
    simp only [List.mem_singleton] at hb
    subst hb
    obtain ⟨j,hj,rfl⟩:=List.mem_take_iff_getElem.1 ha
    exact hne j (by omega) (by omega)
  ·rintro _ u4 W4 ⟨p0,p1,p2,p3,rfl,hap4,n4⟩
   repeat (any_goals ((with_reducible refine oG fun X Y=>?_); simp [go_sem]; (try simp (disch:=omega) only [a0j,a1k,a0p]); apply Y; clear Y X))
   exact ⟨⟨_,_,_,_,i + 1,rfl,by omega,hap4,n4⟩,by show hs.length - (((i + 1:Nat):Int)).toNat < hs.length - ((i:Nat):Int).toNat; omega⟩
 ·have hiZ:¬ (i:Int) < hs.length:=by omega
  have hie:i = hs.length:=by omega
  subst hie
  rw [List.take_length] at hap ⊢
  have hcs:f5q seen hs = (a1b seen hs).length:=(a7j hap).symm
  rw [hcs]
  repeat (any_goals (first
  | (with_reducible refine yM ?_)
  | ((with_reducible refine oG fun X Y=>?_); simp [go_sem,hiZ]; apply Y; clear Y X)))
  refine a9e hs seen (hr.next (a1e a9b) hW2) (hseen.next (a1e e0k) hW2) (by omega) (fun v5 W5 l5 h5 r5 s5=>?_)
  exact f5p hr hseen hnil (by omega) (by omega) hap ht (hW2.on h5) ((hB3.next n2).next h5) rfl rfl r5 s5 k
end
end Go.Proofs
namespace Go.Proofs
open Go Go.Sh Go.RowKit Go.Lib CodeSpec TkSpec FdSpec PuSpec Go.ChangeShapes Go.WideShapes Go.ChangeAt Go.Deep
section
variable {H:Type} {enc:TypeId × Value → H} {w:World} {sp:Nat → Bool} {hd:Bool}
theorem f3w {t:Tkt} (h:TktR t):WTkt t:=⟨fun v hv=>by
 have h1:=h.mark; have h2:=h.first; have h3:=h.z; have h4:=h.a; have h5:=h.b; have h6:=h.r
 simp only [b3s,List.mem_cons,List.not_mem_nil,or_false] at hv
 rcases hv with rfl | rfl | rfl | rfl | rfl | rfl <;> (constructor <;> (first | exact h1.1 | exact h2.1 | exact h3.1 | exact h4.1 | exact h5.1 | exact h6.1 | (have:=h1.2; have:=h2.2; have:=h3.2; have:=h4.2; have:=h5.2; have:=h6.2; omega)))⟩
theorem d6m {b0:Nat} {v:Value} {d:DataW H} {ps:List MemPlace} (hval:Value.okWide Tryz.prog w .any b0 97 v) (h:DataW.Trod enc Tryz.prog w 0 sp hd 97 v d ps):∃ l:List Tkt,SRow 6 (a5p 6 c3r) w v l ∧ ∀ ad c,v = .slice ad l.length c → ad = none → l.length = 0 ∧ c = 0:=by
 obtain ⟨a,n,c,rfl⟩:=okWide_slice Tryz.underlying97 hval
 obtain ⟨fu,hf⟩:=h
 obtain ⟨l,hl⟩:=b8s (n:=6) (At:=a5p 6 c3r) Tryz.underlying97 (by kernel_rfl) (by decide) (fun cs b p m D hl hc ht=>by
  obtain ⟨t,rfl,hw⟩:=b4u ht
  exact ⟨t,_,hl,hc,rfl,hw⟩) hf
 refine ⟨l,hl,fun ad c' e e2=>?_⟩
 subst e2
 cases e
 rcases open_slice Tryz.underlying97 hf with ⟨hcs,_⟩ | ⟨a',len,cap,m,n',D',Pl,hcs,_⟩
 ·injection hcs with h1 _
  injection h1 with _ h2 h3
  exact ⟨h2,h3⟩
 ·injection hcs with h1 _
  injection h1 with h2 _ _
  cases h2
end
end Go.Proofs
