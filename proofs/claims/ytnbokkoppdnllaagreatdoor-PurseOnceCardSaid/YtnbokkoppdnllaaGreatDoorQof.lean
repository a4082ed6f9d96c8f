/- Parts of the proof of the seat's statements (LawKit, OpenKit, OpenKit2, PK, PK2, HPw, UrA, UrB, UrC, PuLaw11, PuLaw12, PuLaw13, PuOpen, UrD, UrE, HPs, UrG, PuLend, UrH, HSha, ShW, SaA, SaB, SaC, SaD, SaE, HLd, LdA, UrI, UrJ, HPt, UrK, PK3, UrL, HPo, UrR, PuOnce, UrS, UrT, UrU, UrV): lemmas about the given translation and plain laws. No condition of their own. -/
import Derived.Test.YtnbokkoppdnllaaGreatDoorQoe
import Derived.ProofKit
import Derived.LaidMore
import Derived.OpenShut
import Derived.Carry
import Derived.SizedLaws
import Derived.Stop.Joined
import Derived.Deep.Slices
import Derived.Deep.Fields
import Derived.LaidSub
import Derived.Test.YtnbokkoppdnllaaGreatDoorRows
import Derived.Test.YtnbokkoppdnllaaGreatDoorCards
import Derived.Test.YtnbokkoppdnllaaGreatDoorTie
import Derived.SevenTiedAt
import Derived.Test.YtnbokkoppdnllaaGreatDoorProg
set_option linter.all false
set_option maxRecDepth 100000
namespace Go.Sh
open Go Go.ChangeShapes Go.WideShapes Go.ChangeAt Go.RowKit
section
variable {H:Type} {enc:TypeId × Value → H} {P:Program}
theorem b2q (hl:laidOutB P = true) {W W':World} (hb:Below W.heap.size W W') :
  ∀ (ts:List TypeId) (vs:List Value) (ds:List (DataW H)) (ps:List MemPlace),(ts.all fun t=>P.readableRec t && decide (t < P.types.size)) = true →
  DataW.TrodAll enc P W 0 (fun _=>true) true ts vs ds ps → (∀ x ∈ ps,x.block < W.heap.size) → DataW.TrodAll enc P W' 0 (fun b=>decide (b < W.heap.size)) true ts vs ds ps
 | [],[],[],_,_,h,_=>h
 | t :: ts,v :: vs,d :: ds,ps,ht,h,hlt=>by
  obtain ⟨p,q,h1,h2,rfl⟩:=h
  simp only [List.all_cons,bA,dE] at ht
  exact ⟨p,q,Below.trod hl ht.1.1 ht.1.2 h1 hb (fun x hx=>hlt x (by simp [hx])),b2q hl hb ts vs ds q ht.2 h2 (fun x hx=>hlt x (by simp [hx])),rfl⟩
 | [],_ :: _,_,_,_,h,_=>h.elim
 | [],[],_ :: _,_,_,h,_=>h.elim
 | _ :: _,[],_,_,_,h,_=>h.elim
 | _ :: _,_ :: _,[],_,_,h,_=>h.elim
theorem b1k {W:World} {b:Nat} {sp:Nat → Bool} {hd:Bool}:∀ (ts:List TypeId) (vs:List Value) (ds:List (DataW H)) (ps:List MemPlace),DataW.TrodAll enc P W b sp hd ts vs ds ps → ds.length = ts.length ∧ vs.length = ts.length
 | [],[],[],_,_=>⟨rfl,rfl⟩
 | t :: ts,v :: vs,d :: ds,ps,h=>by
  obtain ⟨p,q,h1,h2,rfl⟩:=h
  have:=b1k ts vs ds q h2
  simp [this]
 | [],_ :: _,_,_,h=>h.elim
 | [],[],_ :: _,_,h=>h.elim
 | _ :: _,[],_,_,h=>h.elim
 | _ :: _,_ :: _,[],_,h=>h.elim
theorem b3t {W:World} {b:Nat} {sp:Nat → Bool} {hd:Bool} {t:TypeId} {ts:List TypeId} {vs:List Value} {ds:List (DataW H)} {ps:List MemPlace} (h:DataW.TrodAll enc P W b sp hd (t :: ts) vs ds ps) :
  ∃ v d vs' ds' p q,vs = v :: vs' ∧ ds = d :: ds' ∧ DataW.Trod enc P W b sp hd t v d p ∧ DataW.TrodAll enc P W b sp hd ts vs' ds' q ∧ ps = p ++ q:=by
 match vs,ds,h with
 | v :: vs,d :: ds,h=>
  obtain ⟨p,q,h1,h2,rfl⟩:=h
  exact ⟨v,d,vs,ds,p,q,rfl,rfl,h1,h2,rfl⟩
 | [],_,h=>exact h.elim
 | _ :: _,[],h=>exact h.elim
theorem g5c {W:World} {b:Nat} {sp:Nat → Bool} {hd:Bool} {vs:List Value} {ds:List (DataW H)} {ps:List MemPlace} (h:DataW.TrodAll enc P W b sp hd [] vs ds ps):vs = [] ∧ ds = [] ∧ ps = []:=by
 match vs,ds,h with
 | [],[],h=>exact ⟨rfl,rfl,h⟩
theorem c9l {fn:Func} {s:ChangeSpec} {tb:TypeId} {apart:Bool} {W W':World} {args:Array Value} {ds gs:List (DataW H)} {before:List MemPlace} (hl:laidOutB P = true)
  (hrt:fn.resultTypes = #[tb]) (hub:P.underlying tb = some .bool) (hpar:(fn.params.toList.all fun t=>P.readableRec t && decide (t < P.types.size)) = true) (hvars:s.vars = [])
  (hspec:∀ ds:List (DataW H),ds.length = fn.params.toList.length → s.fn H ds = { results:=[.lit (.bool true)],args:=ds })
  (hW:DataW.Whole enc P fn.params.toList s.vars apart W args.toList ds gs before) (hb:Below W.heap.size W W'):s.post enc P fn apart true false false W args (.bool true) W':=by
 have hW0:=hW
 have hlt:=hW.lt
 obtain ⟨p,q,hA,hV,rfl,_,_⟩:=hW
 rw [hvars] at hV
 obtain ⟨rfl,rfl⟩:=trodVars_none hV
 have hlen:=(b1k _ _ _ _ hA).1
 have hs:=hspec ds hlen
 rw [List.append_nil] at hlt hW0
 refine ⟨ds,[],p,[],p,[],hW0,?_,?_,?_,hb.frame _,fun h=>by cases h⟩
 ·rw [List.append_nil,hs,hrt]
  exact trodAll_mk1 (shut_bool hub true)
 ·rw [List.append_nil,hs]
  exact b2q hl hb _ _ _ _ hpar hA hlt
 ·rw [hvars,List.append_nil,hs]
  rfl
theorem law_lifted {C:Checked} {os:Os} {f:FuncId} {fn:Func} {s:ChangeSpec} {tb:TypeId} (own:ownKnob C.prog.godebug = none) (started:os.Started) (noInit:C.prog.inits.idxOf? f = none) (hfn:C.prog.funcs[f]? = some fn)
  (hl:laidOutB C.prog = true) (hrt:fn.resultTypes = #[tb]) (hub:C.prog.underlying tb = some .bool) (hpar:(fn.params.toList.all fun t=>C.prog.readableRec t && decide (t < C.prog.types.size)) = true) (hvars:s.vars = [])
  (hspec:∀ ds:List (DataW H),ds.length = fn.params.toList.length → s.fn H ds = { results:=[.lit (.bool true)],args:=ds })
  (witness:∃ (w:World) (tape:Tape) (i:Input),w.os = os ∧ (w.forCall tape i).Shaped C.prog ∧ i.vars = [] ∧ Input.okWide C.prog (w.forCall tape i) .any w.heap.size f i ∧
   s.pre6 enc C.prog fn [] false (w.forCall tape i).memory i.args ∧ ({}:Assume).holds C.prog (lone (Frame.enter C.prog f i.args .normal) [] (w.forCall tape i)))
  (contract:∀ (W:World) (base:Nat) (args:List Value) (ds:List (DataW H)) (p:List MemPlace),(∀ (j:Nat) t v,fn.params.toList[j]? = some t → args[j]? = some v → Value.okWide C.prog W .any base t v) →
   DataW.TrodAll enc C.prog W 0 (fun _=>true) true fn.params.toList args ds p → (DataW.weightsEach C.prog fn.params.toList ds).all (· ≤ reachBytes) = true → (∀ x ∈ p,x.block < W.heap.size) →
   a0a C.prog f args.toArray (fun v W'=>v = .bool true ∧ Below W.heap.size W W') W) :
  ReturnsInHanded {} C os f .any (s.pre6 enc C.prog fn [] false) (s.post enc C.prog fn false true false false):=by
 refine returnsInHanded_of_change_sized own started noInit hfn witness ?_
 intro W base args ds gs before hval hW _ hsz _
 have hW0:=hW
 have hlt:=hW.lt
 obtain ⟨p,q,hA,hV,rfl,_,_⟩:=hW
 rw [hvars] at hV
 obtain ⟨rfl,rfl⟩:=trodVars_none hV
 have hsz':(DataW.weightsEach C.prog fn.params.toList ds).all (· ≤ reachBytes) = true:=by
  simpa [hvars,ChangeSpec.plain,DataSpec.varTypes] using hsz
 have hc:=contract W base args.toList ds p (fun j t v h1 h2=>hval j t v (by simpa using h1) (by simpa using h2)) hA hsz' (fun x hx=>hlt x (by simp [hx]))
 refine hc.mono fun e W' h=>?_
 obtain ⟨v,rfl,rfl,hb⟩:=h
 exact ⟨_,rfl,c9l hl hrt hub hpar hvars hspec hW0 hb⟩
theorem b6b {C:Checked} {os:Os} {f:FuncId} {fn:Func} {s:ChangeSpec} {tb:TypeId} {L:List (String × DataW Unit)} (own:ownKnob C.prog.godebug = none) (started:os.Started) (noInit:C.prog.inits.idxOf? f = none) (hfn:C.prog.funcs[f]? = some fn)
  (hl:laidOutB C.prog = true) (hrt:fn.resultTypes = #[tb]) (hub:C.prog.underlying tb = some .bool) (hpar:(fn.params.toList.all fun t=>C.prog.readableRec t && decide (t < C.prog.types.size)) = true) (hvars:s.vars = [])
  (hspec:∀ ds:List (DataW H),ds.length = fn.params.toList.length → s.fn H ds = { results:=[.lit (.bool true)],args:=ds })
  (witness:∃ (w:World) (tape:Tape) (i:Input),w.os = os ∧ (w.forCall tape i).Shaped C.prog ∧ i.vars = [] ∧ Input.okWide C.prog (w.forCall tape i) .any w.heap.size f i ∧
   ((s.pre enc C.prog fn [] false (w.forCall tape i).memory i.args ∧ laidMetH C.prog L (w.forCall tape i).memory) ∧ sizedMet enc C.prog fn (OpenSpec.ofChange s) false (w.forCall tape i).memory i.args) ∧ ({}:Assume).holds C.prog (lone (Frame.enter C.prog f i.args .normal) [] (w.forCall tape i)))
  (contract:∀ (W:World) (base:Nat) (args:List Value) (ds:List (DataW H)) (p:List MemPlace),(∀ (j:Nat) t v,fn.params.toList[j]? = some t → args[j]? = some v → Value.okWide C.prog W .any base t v) →
   DataW.TrodAll enc C.prog W 0 (fun _=>true) true fn.params.toList args ds p → (DataW.weightsEach C.prog fn.params.toList ds).all (· ≤ reachBytes) = true → (∀ x ∈ p,x.block < W.heap.size) →
   laidMetH C.prog L W →
   a0a C.prog f args.toArray (fun v W'=>v = .bool true ∧ Below W.heap.size W W') W) :
  ReturnsInHanded {} C os f .any (fun w args=>(s.pre enc C.prog fn [] false w args ∧ laidMetH C.prog L w) ∧ sizedMet enc C.prog fn (OpenSpec.ofChange s) false w args)
   (s.post enc C.prog fn false true false false):=by
 refine returnsInHanded_of_change_and (X:=fun w _=>laidMetH C.prog L w) (fun _ _ _ hh h=>h.of_heap hh) own started noInit hfn witness ?_
 intro W base args ds gs before hval hW _ hsz hX _
 have hW0:=hW
 have hlt:=hW.lt
 obtain ⟨p,q,hA,hV,rfl,_,_⟩:=hW
 rw [hvars] at hV
 obtain ⟨rfl,rfl⟩:=trodVars_none hV
 have hsz':(DataW.weightsEach C.prog fn.params.toList ds).all (· ≤ reachBytes) = true:=by
  simpa [hvars,ChangeSpec.plain,DataSpec.varTypes] using hsz
 have hc:=contract W base args.toList ds p (fun j t v h1 h2=>hval j t v (by simpa using h1) (by simpa using h2)) hA hsz' (fun x hx=>hlt x (by simp [hx])) hX
 refine hc.mono fun e W' h=>?_
 obtain ⟨v,rfl,rfl,hb⟩:=h
 exact ⟨_,rfl,c9l hl hrt hub hpar hvars hspec hW0 hb⟩
end
end Go.Sh
namespace Go.Sh
open Go Go.ChangeShapes Go.WideShapes Go.ChangeAt Go.RowKit Go.Deep
section
variable {H:Type} {enc:TypeId × Value → H} {P:Program} {w:World} {sp:Nat → Bool} {hd:Bool}
theorem b6c (b o k:Nat):(⟨b,o,none⟩:Addr).add k = ⟨b,o + k,none⟩:=by
 unfold Addr.add
 split
 ·rename_i h; rw [h]; rfl
 ·rfl
theorem cell_lt {a:Addr} {v:Value} (h:w.cell? a = some v):a.block < w.heap.size ∧ a.spot = none:=by
 unfold World.cell? at h
 split at h
 ·rename_i c t f hh
  refine ⟨(Array.getElem?_eq_some_iff.1 hh).1,?_⟩
  split at h
  ·cases h
  ·rename_i hs
   cases hsp:a.spot with
   | none=>rfl
   | some x=>rw [hsp] at hs; exact absurd rfl hs
 ·cases h
theorem a6t {e:TypeId} {fs:Array Field} {n:Nat} {cs:List Value} {D:DataW H × List MemPlace} (he:P.underlying e = some (.struct fs)) (hone:oneCellFields P fs = true) (hC:P.cellsOf e = fs.size)
  (h:DataW.trod enc P w 0 sp hd n e cs = some D) :
  cs.length = fs.size ∧ ∀ (j:Nat) (f:Field),fs[j]? = some f → ∃ (v:Value) (y:DataW H × List MemPlace) (m:Nat),cs[j]? = some v ∧ DataW.trod enc P w 0 sp hd m f.type [v] = some y:=by
 obtain ⟨xs,m,_,_,hcl,hxl,hf⟩:=DataW.trod_struct he h
 rw [hC] at hcl
 refine ⟨hcl,fun j f hj=>?_⟩
 obtain ⟨ho,hk⟩:=hone_of hone j f hj
 have hjl:j < fs.size:=(Array.getElem?_eq_some_iff.1 hj).1
 have h1:=hf j f hj
 rw [ho,hk,List.drop_eq_getElem_cons (by omega),gE (by omega:j < xs.length)] at h1
 exact ⟨_,_,m,gE (by omega),h1⟩
end
end Go.Sh
namespace Go.Sh
open Go Go.ChangeShapes Go.WideShapes Go.ChangeAt Go.RowKit Go.Deep
section
variable {H:Type} {enc:TypeId × Value → H} {P:Program} {w:World} {sp:Nat → Bool} {hd:Bool}
theorem f8n {α:Type} (mk:α → Value) (Q:α → Prop) {t e:TypeId} {v:Value} {n:Nat} {D:DataW H × List MemPlace} (ht:P.underlying t = some (.slice e)) (hC:P.cellsOf e = 1)
  (hrd:∀ (V:Value) (n:Nat) (D:DataW H × List MemPlace),DataW.trod enc P w 0 sp hd n e [V] = some D → ∃ x,V = mk x ∧ Q x) (h:DataW.trod enc P w 0 sp hd n t [v] = some D) :
  ∃ l:List α,(∃ ad c,v = .slice ad l.length c ∧ (l = [] ∨ ∃ b o,ad = some ⟨b,o,none⟩ ∧ b < w.heap.size ∧ ∀ (i:Nat) (h:i < l.length),w.cell? ⟨b,o + i,none⟩ = some (mk l[i]))) ∧ l.length ≤ maxLen ∧ ∀ x ∈ l,Q x:=by
 rcases open_slice1 ht hC h with ⟨hcs,_⟩ | ⟨a',len,cap,m,n',V,D',Pl,hcs,_,hl,hm,hmm,_,hi⟩
 ·simp only [List.cons.injEq,and_true] at hcs
  subst hcs
  exact ⟨[],⟨none,0,rfl,.inl rfl⟩,by simp,by simp⟩
 ·simp only [List.cons.injEq,and_true] at hcs
  subst hcs
  have hml:len ≤ m:=by rw [hmm]; split <;> omega
  have key:∀ i:Fin len,∃ x,V i = mk x ∧ Q x:=fun i=>hrd _ _ _ (hi i (by have:=i.2; omega)).2
  refine ⟨List.ofFn (fun i=>(key i).choose),⟨some a',cap,by rw [List.length_ofFn],?_⟩,by rw [List.length_ofFn]; omega,?_⟩
  ·by_cases h0:len = 0
   ·left; subst h0; rfl
   ·right
    have h00:=(hi 0 (by omega)).1
    have e0:a'.add 0 = a':=by simp [Addr.add]
    rw [e0] at h00
    obtain ⟨hb,hs⟩:=cell_lt h00
    obtain ⟨b,o,s⟩:=a'
    simp only at hs hb
    subst hs
    refine ⟨b,o,rfl,hb,fun i hil=>?_⟩
    rw [List.length_ofFn] at hil
    have h1:=(hi i (by omega)).1
    rw [b6c] at h1
    rw [h1,List.getElem_ofFn]
    have:=(key ⟨i,hil⟩).choose_spec.1
    exact congrArg some this
  ·intro x hx
   rw [List.mem_ofFn] at hx
   obtain ⟨i,rfl⟩:=hx
   exact (key i).choose_spec.2
theorem d9a {t:TypeId} {ms:Array (String × TypeId)} {cs:List Value} {n:Nat} {nm:String} {d:DataW H} {ps:List MemPlace} (ht:P.underlying t = some (.interface ms)) (h:DataW.trod enc P w 0 sp false n t cs = some (.iface nm d,ps)):∃ u v,cs = [.iface u v]:=by
 cases n with
 | zero=>simp [DataW.trod] at h
 | succ n=>
  unfold DataW.trod at h
  rw [ht] at h
  match cs,h with
  | [.iface u v],_=>exact ⟨u,v,rfl⟩
  | [.nilIface],h=>simp at h
  | [],h=>simp at h
  | [.int _ _],h=>simp at h
  | [.bool _],h=>simp at h
  | [.string _],h=>simp at h
  | [.pointer _],h=>simp at h
  | [.slice _ _ _],h=>simp at h
  | [.map _],h=>simp at h
  | [.float _ _],h=>simp at h
  | [.complex _ _ _],h=>simp at h
  | [.agg _],h=>simp at h
  | [.tuple _],h=>simp at h
  | [.func _ _ _],h=>simp at h
  | [.nilFunc],h=>simp at h
  | [.chan _],h=>simp at h
  | _ :: _ :: _,h=>simp at h
end
end Go.Sh
namespace Go.Proofs
open Go Go.Sh Go.RowKit Go.Lib CodeSpec TkSpec FdSpec Go.ChangeShapes Go.WideShapes Go.ChangeAt
abbrev laidList:List (String × DataW Unit):=YtnbokkoppdnllaaGreatDoor.Rows.purseBackRow.laid
abbrev d1y (i:Nat):String:=(laidList.map (·.1)).getD i default
theorem a8r {W:World} {nm:String} {d:DataW Unit} (hf:(laidList.filter fun x=>x.1 == nm) = [(nm,d)]) (h:laidMetH Tryz.prog laidList W):laidMet Tryz.prog [(nm,d)] W:=by
 rw [MakeChecks.laidMetH_plain _ _ _ (by kernel_rfl)] at h
 have:=h.filter (fun x=>x.1 == nm)
 rwa [hf] at this
theorem e8x {W:World} (h:laidMetH Tryz.prog laidList W):TabIs Tryz.prog W c1u .u64 pow10Tab:=
 tabIs_of_head (rest:=[]) (t:=311) (e:=249) (n:=20) Cd.gTab (by kernel_rfl) Tryz.underlying311 Tryz.underlying249 (by kernel_rfl) (by kernel_rfl)
  (a8r (d:=tabData .u64 pow10Tab) (by kernel_rfl) h)
theorem gDb:Tryz.prog.globalNamed (d1y 1) = some 4:=by kernel_rfl
theorem f8o {W:World} (h:laidMetH Tryz.prog laidList W):TabIs Tryz.prog W (d1y 1) .u8 (Lib.deBruijn64tab.map (fun n:Nat=>(n:Int))):=
 tabIs_of_head (rest:=[]) (t:=318) (e:=5) (n:=64) gDb (by kernel_rfl) Tryz.underlying318 Tryz.underlying5 (by kernel_rfl) (by kernel_rfl)
  (a8r (d:=tabData .u8 (Lib.deBruijn64tab.map (fun n:Nat=>(n:Int)))) (by kernel_rfl) h)
theorem g8u {W:World} (h:laidMetH Tryz.prog laidList W):DbT W:=by
 have ht:=f8o h
 have hl:(Lib.deBruijn64tab.map (fun n:Nat=>(n:Int))).length = 64:=by decide +kernel
 have hc:∀ j,j < 64 → W.cell? ⟨4,j,none⟩ = some (.int .u8 (Lib.deBruijn64tab.getD j 0:Nat)):=fun j hj=>by
  rw [ht.cell gDb j (by omega)]
  have:(Lib.deBruijn64tab.map (fun n:Nat=>(n:Int))).getD j 0 = ((Lib.deBruijn64tab.getD j 0:Nat):Int):=by
   rw [List.getD_eq_getElem?_getD,List.getD_eq_getElem?_getD,List.getElem?_map]
   cases Lib.deBruijn64tab[j]? <;> rfl
  rw [this]
 refine ⟨?_,hc⟩
 have h0:=hc 0 (by omega)
 by_cases hlt:4 < W.heap.size
 ·exact hlt
 ·unfold World.cell? at h0
  rw [Array.getElem?_eq_none (by show W.heap.size ≤ 4; omega)] at h0
  simp at h0
theorem c9o {W:World} {nm:String} {x:DataW Unit} {g:Nat} (hg:Tryz.prog.globalNamed nm = some g) (hty:(Tryz.prog.globals[g]?).map (·.type) = some 239) (hf:(laidList.filter fun x=>x.1 == nm) = [(nm,x)]) (hx:∃ nt d,x = .iface nt d) (h:laidMetH Tryz.prog laidList W) :
  ∃ te pe,W.cell? ⟨g,0,none⟩ = some (.iface te pe):=by
 obtain ⟨nt,d,rfl⟩:=hx
 obtain ⟨ps,⟨g0,t0,cs0,f0,p0,q0,hg0,ht0,hv0,hd0,_,_⟩,_,_⟩:=a8r hf h
 obtain rfl:=oI (hg.symm.trans hg0)
 obtain rfl:=oI (hty.symm.trans ht0)
 obtain ⟨u,y,hcs⟩:=d9a Tryz.underlying239 hd0
 have:=World.var?_cell hg hv0 0
 refine ⟨u,y,?_⟩
 rw [this]
 have e:cs0[0]? = cs0.toList[0]?:=by simp
 rw [e,hcs]; rfl
theorem g8v {W:World} (h:laidMetH Tryz.prog laidList W):8 ≤ W.heap.size:=by
 obtain ⟨ps,⟨g0,t0,cs0,f0,p0,q0,hg0,ht0,hv0,hd0,_,_⟩,_,_⟩:=a8r (nm:=d1y 0) (d:=YtnbokkoppdnllaaGreatDoor.Rows.laid_math_bits_deBruijn32tab) (by kernel_rfl) h
 have hg:Tryz.prog.globalNamed (d1y 0) = some 7:=by kernel_rfl
 unfold World.var? at hv0
 rw [hg] at hv0
 simp only [Option.bind_some] at hv0
 split at hv0
 ·rename_i cs t f hh
  have:=(Array.getElem?_eq_some_iff.1 hh).1
  omega
 ·cases hv0
theorem f8p {W:World} (h:laidMetH Tryz.prog laidList W):Cd.LaidE W:=
 ⟨⟨e8x h,g8v h⟩,c9o (nm:=d1y 4) (x:=YtnbokkoppdnllaaGreatDoor.Rows.laid_strconv_ErrSyntax) (by kernel_rfl) (by kernel_rfl) (by kernel_rfl) ⟨_,_,rfl⟩ h,c9o (nm:=d1y 3) (x:=YtnbokkoppdnllaaGreatDoor.Rows.laid_strconv_ErrRange) (by kernel_rfl) (by kernel_rfl) (by kernel_rfl) ⟨_,_,rfl⟩ h⟩
theorem own:ownKnob Tryz.prog.godebug = none:=by kernel_rfl
theorem f8q:laidOutB Tryz.prog = true:=by kernel_rfl
theorem e8y (os:Os) (args:Array Value):laidMetH Tryz.prog laidList ((World.doorLaid Tryz.prog 400 os).forCall (fun _ _=>0) ⟨#[],args,[]⟩).memory:=
 laidMetH_of_parts3 (fuel:=8) (laidMet_of_run' 8 (by kernel_rfl) (by kernel_rfl)) (by kernel_rfl) (by kernel_rfl)
theorem e8z {n:Int} (h:(Lit.int .i64 n).wf = true):I64 n:=by
 simp only [Lit.wf,bA,dE] at h
 have h1:-9223372036854775808 ≤ n:=h.1
 have h2:n ≤ 9223372036854775807:=h.2
 exact ⟨h1,by omega⟩
end Go.Proofs
namespace Go.Proofs
open Go Go.Sh Go.RowKit Go.Lib CodeSpec TkSpec FdSpec PuSpec Go.ChangeShapes Go.WideShapes Go.ChangeAt Go.Deep
section
variable {H:Type} {enc:TypeId × Value → H} {w:World} {sp:Nat → Bool} {hd:Bool}
theorem c0q {P:Program} {α:Type} {n:Nat} {At:World → Nat → Nat → α → Prop} {t e:TypeId} {v:Value} {m0:Nat} {D:DataW H × List MemPlace} (ht:P.underlying t = some (.slice e)) (hC:P.cellsOf e = n) (hn:0 < n)
  (hrd:∀ (cs:List Value) (b p m:Nat) (D:DataW H × List MemPlace),cs.length = n → (∀ (j:Nat) (u:Value),cs[j]? = some u → w.cell? ⟨b,p + j,none⟩ = some u) → DataW.trod enc P w 0 sp hd m e cs = some D → ∃ x,At w b p x)
  (h:DataW.trod enc P w 0 sp hd m0 t [v] = some D):∃ l:List α,SRow n At w v l:=by
 rcases open_slice ht h with ⟨hcs,_⟩ | ⟨a',len,cap,m,n',D',Pl,hcs,_,hl,hm,hmm,_,hi⟩
 ·simp only [List.cons.injEq,and_true] at hcs
  subst hcs
  exact ⟨[],⟨none,0,rfl,.inl rfl⟩,by simp⟩
 ·simp only [List.cons.injEq,and_true] at hcs
  subst hcs
  subst hC
  have hml:len ≤ m:=by rw [hmm]; split <;> omega
  by_cases h0:len = 0
  ·subst h0
   exact ⟨[],⟨some a',cap,rfl,.inl rfl⟩,by simp⟩
  obtain ⟨cs0,hc0,_⟩:=hi 0 (by omega)
  obtain ⟨_,hl0,h00⟩:=World.cells?_some hc0
  have h00:=h00 0 hn
  rw [Nat.zero_mul] at h00
  have e0:(a'.add 0).add 0 = a':=by simp [Addr.add]
  rw [e0,gE (by omega)] at h00
  obtain ⟨hb,hs⟩:=Go.Sh.cell_lt h00
  obtain ⟨b,o,s⟩:=a'
  simp only at hs hb
  subst hs
  have key:∀ i:Fin len,∃ x,At w b (o + i * P.cellsOf e) x:=fun i=>by
   obtain ⟨cs,hc,ht2⟩:=hi i (by have:=i.2; omega)
   obtain ⟨_,hcl,hat⟩:=World.cells?_some hc
   refine hrd cs b (o + i * P.cellsOf e) _ _ hcl (fun j u hj=>?_) ht2
   have hjl:=(gS hj).1
   have:=hat j (by omega)
   rw [b6c,b6c] at this
   rw [this,hj]
  refine ⟨List.ofFn (fun i=>(key i).choose),⟨some ⟨b,o,none⟩,cap,by rw [List.length_ofFn],.inr ⟨b,o,rfl,hb,fun i hil=>?_⟩⟩,by rw [List.length_ofFn]; simp only [maxLen] at hm; omega⟩
  rw [List.length_ofFn] at hil
  rw [List.getElem_ofFn]
  exact (key ⟨i,hil⟩).choose_spec
theorem c6r {v:Value} {l:List Int} (h:∃ ad c,v = .slice ad l.length c ∧ (l = [] ∨ ∃ b o,ad = some ⟨b,o,none⟩ ∧ b < w.heap.size ∧ ∀ (i:Nat) (h:i < l.length),w.cell? ⟨b,o + i,none⟩ = some (Value.int .i64 l[i]))) (h0:∀ c,v = .slice none l.length c → l.length = 0 ∧ c = 0) (hl:l.length ≤ maxLen) (hr:∀ x ∈ l,I64 x):Ints w v l:=by
 obtain ⟨ad,c,rfl,h⟩:=h
 refine ⟨⟨ad,c,rfl,fun e=>?_,?_⟩,hr,hl⟩
 ·subst e
  exact h0 c rfl
 ·rcases h with h | ⟨b,o,rfl,hlt,hc⟩
  ·exact .inl h
  ·refine .inr ⟨b,o,rfl,hlt,fun k x hk=>?_⟩
   rw [flat_int] at hk
   obtain ⟨hk1,hk2⟩:=gS hk
   have hk1:k < l.length:=by rw [List.length_map] at hk1; exact hk1
   rw [hc k hk1,← hk2,List.getElem_map]
theorem f8r {t:TypeId} {n m:Nat} {c:Nat} {D:DataW H × List MemPlace} (ht:Tryz.prog.underlying t = some (.slice 3)) (h:DataW.trod enc Tryz.prog w 0 sp hd n t [.slice none m c] = some D):m = 0 ∧ c = 0:=by
 rcases open_slice1 ht (by kernel_rfl) h with ⟨hcs,_⟩ | ⟨a',len,cap,m,n',V,D',Pl,hcs,_⟩
 ·simp only [List.cons.injEq,and_true,Value.slice.injEq] at hcs
  exact hcs.2
 ·simp only [List.cons.injEq,and_true,Value.slice.injEq] at hcs
  exact absurd hcs.1 (by simp)
theorem a9t {v:Value} {n:Nat} {D:DataW H × List MemPlace} (h:DataW.trod enc Tryz.prog w 0 sp hd n 22 [v] = some D):∃ l,Ints w v l:=by
 have h':=h
 obtain ⟨l,h1,h2,h3⟩:=f8n (Value.int .i64) I64 Tryz.underlying22 (by kernel_rfl) (fun V n D h=>by
  obtain ⟨k,e,_,hw⟩:=DataW.trod_int Tryz.underlying3 h
  simp only [List.cons.injEq,and_true] at e
  exact ⟨k,e,e8z hw⟩) h
 exact ⟨l,c6r h1 (fun c e=>by subst e; exact f8r Tryz.underlying22 h') h2 h3⟩
theorem e9a {cs:List Value} {n:Nat} {D:DataW H × List MemPlace} (h:DataW.trod enc Tryz.prog w 0 sp hd n 48 cs = some D):∃ g:Grp,cs = [.int .i64 g.P,.int .i64 g.Q,.int .i64 g.G] ∧ f7x g:=by
 obtain ⟨hcl,hf⟩:=a6t Tryz.underlying48 (by kernel_rfl) (by kernel_rfl) h
 obtain ⟨v0,y0,m0,c0,f0⟩:=hf 0 _ rfl
 obtain ⟨v1,y1,m1,c1,f1⟩:=hf 1 _ rfl
 obtain ⟨v2,y2,m2,c2,f2⟩:=hf 2 _ rfl
 obtain ⟨k0,e0,_,w0⟩:=DataW.trod_int Tryz.underlying3 f0
 obtain ⟨k1,e1,_,w1⟩:=DataW.trod_int Tryz.underlying3 f1
 obtain ⟨k2,e2,_,w2⟩:=DataW.trod_int Tryz.underlying3 f2
 simp only [List.cons.injEq,and_true] at e0 e1 e2
 have h6:cs.length = 3:=hcl
 refine ⟨⟨k0,k1,k2⟩,?_,⟨e8z w0,e8z w1,e8z w2⟩⟩
 match cs,h6 with
 | [x0,x1,x2],_=>
  simp only [List.getElem?_cons_zero,List.getElem?_cons_succ,Option.some.injEq] at c0 c1 c2
  rw [c0,c1,c2,e0,e1,e2]
theorem d9b:Tryz.prog.cellsOf 50 = 5:=by kernel_rfl
theorem d9c:Tryz.prog.cellsOf 48 = 3:=by kernel_rfl
theorem b3u:Tryz.prog.cellsOf 22 = 1:=by kernel_rfl
theorem b6d:Tryz.prog.cellsOf 3 = 1:=by kernel_rfl
theorem e9b {b0:Nat} {v:Value} {d:DataW H} {ps:List MemPlace} (hT:DbT w) (hval:Value.okWide Tryz.prog w .any b0 50 v) (h:DataW.Trod enc Tryz.prog w 0 sp hd 50 v d ps):∃ s x,v = a9j s x ∧ SetR w s x:=by
 obtain ⟨cs,rfl,hs⟩:=okWide_struct Tryz.underlying50 hval
 obtain ⟨fuel,hf⟩:=h
 have hf:DataW.trod enc Tryz.prog w 0 sp hd fuel 50 cs.toList = some (d,ps):=hf
 obtain ⟨xs,m,_,_,hcl,hxl,hf⟩:=DataW.trod_struct Tryz.underlying50 hf
 rw [d9b] at hcl
 have hcs:cs = cs.toList.toArray:=by simp
 rw [hcs]
 clear hs hcs
 generalize cs.toList = l at *
 have hxl:xs.length = 3:=hxl
 match l,hcl,xs,hxl with
 | [x0,x1,x2,x3,x4],_,[y0,y1,y2],_=>
  have f0:DataW.trod enc Tryz.prog w 0 sp hd m 48 (([x0,x1,x2,x3,x4].drop 0).take (Tryz.prog.cellsOf 48)) = some y0:=hf 0 _ rfl
  have f1:DataW.trod enc Tryz.prog w 0 sp hd m 22 (([x0,x1,x2,x3,x4].drop 3).take (Tryz.prog.cellsOf 22)) = some y1:=hf 1 _ rfl
  have f2:DataW.trod enc Tryz.prog w 0 sp hd m 3 (([x0,x1,x2,x3,x4].drop 4).take (Tryz.prog.cellsOf 3)) = some y2:=hf 2 _ rfl
  rw [d9c] at f0
  rw [b3u] at f1
  rw [b6d] at f2
  obtain ⟨g,eg,hg⟩:=e9a f0
  obtain ⟨l3,h3⟩:=a9t f1
  obtain ⟨k4,e4,_,w4⟩:=DataW.trod_int Tryz.underlying3 f2
  simp only [List.drop_zero,List.take_succ_cons,List.take_zero,List.drop_succ_cons,List.cons.injEq,and_true] at eg e4
  obtain ⟨e0,e1,e2⟩:=eg
  exact ⟨⟨g,l3,k4⟩,x3,by rw [e0,e1,e2,e4],⟨hg,h3,e8z w4,hT⟩⟩
theorem a6c {n:Int} (h:(Lit.int .i64 n).wf = true):InR n:=by
 have:=e8z h
 exact ⟨this.1,by have:=this.2; omega⟩
theorem b6e {cs:List Value} {n:Nat} {D:DataW H × List MemPlace} (h:DataW.trod enc Tryz.prog w 0 sp hd n 26 cs = some D):∃ t:Tkt,cs = a8l t ∧ WTkt t:=by
 obtain ⟨hcl,hf⟩:=a6t Tryz.underlying26 (by kernel_rfl) (by kernel_rfl) h
 obtain ⟨v0,y0,m0,c0,f0⟩:=hf 0 _ rfl
 obtain ⟨v1,y1,m1,c1,f1⟩:=hf 1 _ rfl
 obtain ⟨v2,y2,m2,c2,f2⟩:=hf 2 _ rfl
 obtain ⟨v3,y3,m3,c3,f3⟩:=hf 3 _ rfl
 obtain ⟨v4,y4,m4,c4,f4⟩:=hf 4 _ rfl
 obtain ⟨v5,y5,m5,c5,f5⟩:=hf 5 _ rfl
 obtain ⟨k0,e0,_,w0⟩:=DataW.trod_int Tryz.underlying3 f0
 obtain ⟨k1,e1,_,w1⟩:=DataW.trod_int Tryz.underlying3 f1
 obtain ⟨k2,e2,_,w2⟩:=DataW.trod_int Tryz.underlying3 f2
 obtain ⟨k3,e3,_,w3⟩:=DataW.trod_int Tryz.underlying3 f3
 obtain ⟨k4,e4,_,w4⟩:=DataW.trod_int Tryz.underlying3 f4
 obtain ⟨k5,e5,_,w5⟩:=DataW.trod_int Tryz.underlying3 f5
 simp only [List.cons.injEq,and_true] at e0 e1 e2 e3 e4 e5
 have h6:cs.length = 6:=hcl
 refine ⟨⟨k0,k1,k2,k3,k4,k5⟩,?_,⟨?_⟩⟩
 ·match cs,h6 with
  | [x0,x1,x2,x3,x4,x5],_=>
   simp only [List.getElem?_cons_zero,List.getElem?_cons_succ,Option.some.injEq] at c0 c1 c2 c3 c4 c5
   rw [c0,c1,c2,c3,c4,c5,e0,e1,e2,e3,e4,e5]
 ·intro v hv
  simp only [tktL,List.mem_cons,List.not_mem_nil,or_false] at hv
  rcases hv with rfl | rfl | rfl | rfl | rfl | rfl
  ·exact a6c w0
  ·exact a6c w1
  ·exact a6c w2
  ·exact a6c w3
  ·exact a6c w4
  ·exact a6c w5
theorem d9d {v:Value} {n:Nat} {D:DataW H × List MemPlace} (h:DataW.trod enc Tryz.prog w 0 sp hd n 51 [v] = some D):∃ l,c5d w v l:=
 c0q Tryz.underlying51 (by kernel_rfl) (by decide) (fun cs b p m D hl hc ht=>by
  match cs,hl with
  | [x0,x1,x2],_=>
   obtain ⟨_,hf⟩:=a6t Tryz.underlying41 (by kernel_rfl) (by kernel_rfl) ht
   obtain ⟨v0,y0,m0,c0,f0⟩:=hf 0 _ rfl
   obtain ⟨v1,y1,m1,c1,f1⟩:=hf 1 _ rfl
   obtain ⟨v2,y2,m2,c2,f2⟩:=hf 2 _ rfl
   obtain ⟨k0,e0,_,w0⟩:=DataW.trod_int Tryz.underlying3 f0
   obtain ⟨k1,e1,_,w1⟩:=DataW.trod_int Tryz.underlying3 f1
   obtain ⟨k2,e2,_,w2⟩:=DataW.trod_int Tryz.underlying3 f2
   simp only [List.cons.injEq,and_true] at e0 e1 e2
   simp only [List.getElem?_cons_zero,List.getElem?_cons_succ,Option.some.injEq] at c0 c1 c2
   subst c0; subst c1; subst c2; subst e0; subst e1; subst e2
   exact ⟨⟨k0,k1,k2⟩,_,rfl,hc,rfl,e8z w0,e8z w1,e8z w2⟩) h
theorem c6s {b0:Nat} {v:Value} {d:DataW H} {ps:List MemPlace} (hval:Value.okWide Tryz.prog w .any b0 51 v) (h:DataW.Trod enc Tryz.prog w 0 sp hd 51 v d ps):∃ l,c5d w v l:=by
 obtain ⟨a,n,c,rfl⟩:=okWide_slice Tryz.underlying51 hval
 obtain ⟨fu,hf⟩:=h
 exact d9d hf
theorem b6f:Tryz.prog.cellsOf 26 = 6:=by kernel_rfl
theorem d9e:Tryz.prog.cellsOf 84 = 2:=by kernel_rfl
theorem c3j:Tryz.prog.cellsOf 9 = 1:=by kernel_rfl
theorem d9f:Tryz.prog.cellsOf 24 = 4:=by kernel_rfl
theorem d1z:Tryz.prog.cellsOf 27 = 1:=by kernel_rfl
theorem c3k:Tryz.prog.cellsOf 29 = 14:=by kernel_rfl
theorem d9g:Tryz.prog.cellsOf 86 = 9:=by kernel_rfl
theorem d9h {cs:List Value} {n:Nat} {D:DataW H × List MemPlace} (h:DataW.trod enc Tryz.prog w 0 sp hd n 84 cs = some D):∃ (d:Int) (av:Value) (l:List Int),cs = [.int .i64 d,av] ∧ InR d ∧ Ints w av l:=by
 obtain ⟨hcl,hf⟩:=a6t Tryz.underlying84 (by kernel_rfl) (by kernel_rfl) h
 obtain ⟨v0,y0,m0,c0,f0⟩:=hf 0 _ rfl
 obtain ⟨v1,y1,m1,c1,f1⟩:=hf 1 _ rfl
 obtain ⟨k0,e0,_,w0⟩:=DataW.trod_int Tryz.underlying3 f0
 obtain ⟨l1,h1⟩:=a9t f1
 simp only [List.cons.injEq,and_true] at e0
 have h6:cs.length = 2:=hcl
 refine ⟨k0,v1,l1,?_,a6c w0,h1⟩
 match cs,h6 with
 | [x0,x1],_=>
  simp only [List.getElem?_cons_zero,List.getElem?_cons_succ,Option.some.injEq] at c0 c1
  rw [c0,c1,e0]
theorem d9i {cs:List Value} {n:Nat} {D:DataW H × List MemPlace} (h:DataW.trod enc Tryz.prog w 0 sp hd n 24 cs = some D):∃ (b:Bld) (v:Value),cs = e4l b v ∧ InR b.s ∧ InR b.u ∧ InR b.v ∧ Ints w v b.ys:=by
 obtain ⟨hcl,hf⟩:=a6t Tryz.underlying24 (by kernel_rfl) (by kernel_rfl) h
 obtain ⟨v0,y0,m0,c0,f0⟩:=hf 0 _ rfl
 obtain ⟨v1,y1,m1,c1,f1⟩:=hf 1 _ rfl
 obtain ⟨v2,y2,m2,c2,f2⟩:=hf 2 _ rfl
 obtain ⟨v3,y3,m3,c3,f3⟩:=hf 3 _ rfl
 obtain ⟨k0,e0,_,w0⟩:=DataW.trod_int Tryz.underlying3 f0
 obtain ⟨k1,e1,_,w1⟩:=DataW.trod_int Tryz.underlying3 f1
 obtain ⟨k2,e2,_,w2⟩:=DataW.trod_int Tryz.underlying3 f2
 obtain ⟨l3,h3⟩:=a9t f3
 simp only [List.cons.injEq,and_true] at e0 e1 e2
 have h6:cs.length = 4:=hcl
 refine ⟨⟨k0,k1,k2,l3⟩,v3,?_,a6c w0,a6c w1,a6c w2,h3⟩
 match cs,h6 with
 | [x0,x1,x2,x3],_=>
  simp only [List.getElem?_cons_zero,List.getElem?_cons_succ,Option.some.injEq] at c0 c1 c2 c3
  rw [c0,c1,c2,c3,e0,e1,e2]
theorem c0r {v:Value} {l:List Int} (h:Ints w v l):∀ x ∈ l,InR x:=fun x hx=>⟨(h.rng x hx).1,by have:=(h.rng x hx).2; omega⟩
theorem g5d (s:ByteArray):s = ⟨s.data.toList.toArray⟩:=by cases s; rfl
theorem d9j {v:Value} {n:Nat} {D:DataW H × List MemPlace} (h:DataW.trod enc Tryz.prog w 0 sp hd n 27 [v] = some D):∃ l,b4z w v l:=
 c0q Tryz.underlying27 d9g (by decide) (fun cs b p m D hl hc ht=>by
  obtain ⟨xs,m,_,_,hcl,hxl,hf⟩:=DataW.trod_struct Tryz.underlying86 ht
  have hxl:xs.length = 3:=hxl
  match cs,hl,xs,hxl with
  | [x0,x1,x2,x3,x4,x5,x6,x7,x8],_,[y0,y1,y2],_=>
   have f0:DataW.trod enc Tryz.prog w 0 sp hd m 26 (([x0,x1,x2,x3,x4,x5,x6,x7,x8].drop 0).take (Tryz.prog.cellsOf 26)) = some y0:=hf 0 _ rfl
   have f1:DataW.trod enc Tryz.prog w 0 sp hd m 84 (([x0,x1,x2,x3,x4,x5,x6,x7,x8].drop 6).take (Tryz.prog.cellsOf 84)) = some y1:=hf 1 _ rfl
   have f2:DataW.trod enc Tryz.prog w 0 sp hd m 9 (([x0,x1,x2,x3,x4,x5,x6,x7,x8].drop 8).take (Tryz.prog.cellsOf 9)) = some y2:=hf 2 _ rfl
   rw [b6f] at f0
   rw [d9e] at f1
   rw [c3j] at f2
   obtain ⟨t,et,ht⟩:=b6e f0
   obtain ⟨d,av,al,es,hd,ha⟩:=d9h f1
   obtain ⟨s,ess,_,hs⟩:=DataW.trod_string Tryz.underlying9 f2
   simp only [List.drop_zero,List.take_succ_cons,List.take_zero,List.drop_succ_cons,List.cons.injEq,and_true,a8l] at et es ess
   obtain ⟨e0,e1,e2,e3,e4,e5⟩:=et
   obtain ⟨e6,e7⟩:=es
   refine ⟨⟨t,⟨d,al⟩,s.data.toList⟩,_,rfl,hc,av,?_,ha,ht,hd,c0r ha,?_,?_⟩
   ·rw [e0,e1,e2,e3,e4,e5,e6,e7,ess,g5d s]
   ·have:=ha.len; show (al.length:Int) ≤ _; omega
   ·show ((s.data.toList.length:Nat):Int) ≤ _
    have:s.data.toList.length = s.size:=by simp
    rw [this]
    have:maxLen = 9223372036854775807:=rfl
    omega) h
theorem d9k {cs:List Value} {n:Nat} {D:DataW H × List MemPlace} (ht:DataW.trod enc Tryz.prog w 0 sp hd n 29 cs = some D):∃ (x:Hld) (av yv kv:Value),cs = b7y x av yv kv ∧ HldR w x av yv kv:=by
 obtain ⟨xs,m,_,_,hcl,hxl,hf⟩:=DataW.trod_struct Tryz.underlying29 ht
 have hxl:xs.length = 6:=hxl
 rw [c3k] at hcl
 match cs,hcl,xs,hxl with
 | [x0,x1,x2,x3,x4,x5,x6,x7,x8,x9,x10,x11,x12,x13],_,[y0,y1,y2,y3,y4,y5],_=>
  have f0:DataW.trod enc Tryz.prog w 0 sp hd m 3 (([x0,x1,x2,x3,x4,x5,x6,x7,x8,x9,x10,x11,x12,x13].drop 0).take (Tryz.prog.cellsOf 3)) = some y0:=hf 0 _ rfl
  have f1:DataW.trod enc Tryz.prog w 0 sp hd m 3 (([x0,x1,x2,x3,x4,x5,x6,x7,x8,x9,x10,x11,x12,x13].drop 1).take (Tryz.prog.cellsOf 3)) = some y1:=hf 1 _ rfl
  have f2:DataW.trod enc Tryz.prog w 0 sp hd m 22 (([x0,x1,x2,x3,x4,x5,x6,x7,x8,x9,x10,x11,x12,x13].drop 2).take (Tryz.prog.cellsOf 22)) = some y2:=hf 2 _ rfl
  have f3:DataW.trod enc Tryz.prog w 0 sp hd m 24 (([x0,x1,x2,x3,x4,x5,x6,x7,x8,x9,x10,x11,x12,x13].drop 3).take (Tryz.prog.cellsOf 24)) = some y3:=hf 3 _ rfl
  have f4:DataW.trod enc Tryz.prog w 0 sp hd m 26 (([x0,x1,x2,x3,x4,x5,x6,x7,x8,x9,x10,x11,x12,x13].drop 7).take (Tryz.prog.cellsOf 26)) = some y4:=hf 4 _ rfl
  have f5:DataW.trod enc Tryz.prog w 0 sp hd m 27 (([x0,x1,x2,x3,x4,x5,x6,x7,x8,x9,x10,x11,x12,x13].drop 13).take (Tryz.prog.cellsOf 27)) = some y5:=hf 5 _ rfl
  rw [b6d] at f0 f1
  rw [b3u] at f2
  rw [d9f] at f3
  rw [b6f] at f4
  rw [d1z] at f5
  obtain ⟨k0,e0,_,w0⟩:=DataW.trod_int Tryz.underlying3 f0
  obtain ⟨k1,e1,_,w1⟩:=DataW.trod_int Tryz.underlying3 f1
  obtain ⟨al,ha⟩:=a9t f2
  obtain ⟨b,bv,eb,hb1,hb2,hb3,hby⟩:=d9i f3
  obtain ⟨t,et,ht⟩:=b6e f4
  obtain ⟨ll,hll⟩:=d9j f5
  simp only [List.drop_zero,List.take_succ_cons,List.take_zero,List.drop_succ_cons,List.cons.injEq,and_true,a8l,e4l] at e0 e1 eb et
  obtain ⟨q0,q1,q2,q3⟩:=eb
  obtain ⟨t0,t1,t2,t3,t4,t5⟩:=et
  refine ⟨⟨k0,k1,al,b,t,ll⟩,x2,bv,x13,?_,⟨ha,hby,hll,⟨a6c w0,a6c w1,c0r ha,?_,hb1,hb2,hb3,c0r hby,?_,ht,?_⟩⟩⟩
  ·rw [e0,e1,q0,q1,q2,q3,t0,t1,t2,t3,t4,t5]
  ·have:=ha.len; show (al.length:Int) ≤ _; omega
  ·have:=hby.len; show (b.ys.length:Int) ≤ _; omega
  ·intro x hx
   obtain ⟨i,hi,rfl⟩:=List.mem_iff_getElem.1 hx
   obtain ⟨ad,c,hv⟩:=hll.isSlice
   have hll':b4z w (.slice ad ll.length c) ll:=by rw [← hv]; exact hll
   obtain ⟨_,_,_,_,_,_,_,_,_,_,hw⟩:=hll'.at hi
   exact hw
end
end Go.Proofs
namespace Go.Proofs
open Go.Sh Tryz
variable {a0 a1:Value} {K:VK} {w:World}
def g3h (a0 a1:Value) (K:VK) (w:World):Prop:=
 oM prog (.box 84 (.tmp 0)) 0 [a0] (fun v2=>
 oM prog (.box 84 (.tmp 0)) 0 [a1] fun v3=>
 kF 84 0 v2 fun v5=>
 kL 3 v5 fun v6=>
 kF 84 0 v3 fun v7=>
 kL 3 v7 fun v8=>
 kB .eql 3 4 v6 v8 fun v9 w=>
 gT v9 (kF 84 1 v2) (fun v11 w=>
 gT v9 (kL 22 v11) (fun v12 w=>
 gT v9 (kF 84 1 v3) (fun v13 w=>
 gT v9 (kL 22 v13) (fun v14 w=>
 gT v9 (a0a prog 56 #[v12,v14]) (fun v15=>
 kP v9 v15 (.bool false) fun v16=>
 K v16) w) w) w) w) w) w
theorem e6p (h:g3h a0 a1 K w):a0a prog 85 #[a0,a1] K w:=
 cZ (fun _=>0) func85 h
def g3i (a0:Value) (K:VK) (w:World):Prop:=
 oM prog (.box 29 (.tmp 0)) 0 [a0] (fun v1=>
 kQ [(.bool false),(.int .i64 0)] fun J_2 m_3 l_4 u_l_4 w0_l_4=>(fun w=>(
 kF 29 5 v1 (fun v5=>
 kL 27 v5 fun v6=>
 kN 27 v6 fun v7=>
 kB .lss 3 4 (l_4.getD 1 undef) v7 fun v8 w=>
 gT v8 (a0c (l_4.getD 1 undef)) (fun v10 w=>
 gT v8 (kB .leq 3 4 v10 (.int .i64 5)) (fun v11=>
 kP v8 v11 (.bool false) fun v12=>
 kO v12 (kF 29 5 v1 fun v15=>
 kL 27 v15 fun v16=>
 kI 27 v16 (l_4.getD 1 undef) fun v18=>
 kF 86 1 v18 fun v19=>
 kF 84 1 v19 fun v20=>
 kL 22 v20 fun v21=>
 kN 22 v21 fun v22=>
 kB .gtr 3 4 v22 (.int .i64 8) fun v23 w=>
 gF v23 (kF 29 5 v1) (fun v25 w=>
 gF v23 (kL 27 v25) (fun v26 w=>
 gF v23 (a0c (l_4.getD 1 undef)) (fun v27 w=>
 gF v23 (kI 27 v26 v27) (fun v28 w=>
 gF v23 (kF 86 2 v28) (fun v29 w=>
 gF v23 (kL 9 v29) (fun v30 w=>
 gF v23 (kN 9 v30) (fun v31 w=>
 gF v23 (kB .gtr 3 4 v31 (.int .i64 210)) (fun v32=>
 kP v23 (.bool true) v32 fun v33=>
 kO v33 (K (.bool false))
 (kB .add 3 3 (l_4.getD 1 undef) (.int .i64 1) fun v14=>
 kJ J_2 m_3 l_4 w0_l_4 [(l_4.getD 0 undef),v14])) w) w) w) w) w) w) w) w)
 (kF 29 2 v1 fun v34=>
 kL 22 v34 fun v35=>
 kN 22 v35 fun v36=>
 kB .leq 3 4 v36 (.int .i64 8) fun v37 w=>
 gT v37 (kF 29 3 v1) (fun v39 w=>
 gT v37 (kF 24 3 v39) (fun v40 w=>
 gT v37 (kL 22 v40) (fun v41 w=>
 gT v37 (kN 22 v41) (fun v42 w=>
 gT v37 (kB .leq 3 4 v42 (.int .i64 8)) (fun v43=>
 kP v37 v43 (.bool false) fun v44 w=>
 gT v44 (kF 29 5 v1) (fun v46 w=>
 gT v44 (kL 27 v46) (fun v47 w=>
 gT v44 (kN 27 v47) (fun v48 w=>
 gT v44 (kB .leq 3 4 v48 (.int .i64 5)) (fun v49=>
 kP v44 v49 (.bool false) fun v50=>
 K v50) w) w) w) w) w) w) w) w) w)) w) w) w)) w0_l_4) w
theorem e6q (h:g3i a0 K w):a0a prog 13 #[a0] K w:=
 cZ (fun _=>0) func13 h
def g3j (a0 a1:Value) (K:VK) (w:World):Prop:=
 oM prog (.box 50 (.tmp 0)) 0 [a0] (fun v2=>
 kF 50 1 v2 fun v5=>
 kL 22 v5 fun v6=>
 kN 22 v6 fun v7=>
 kB .leq 3 4 v7 (.int .i64 8) fun v8 w=>
 gT v8 (a0c a1) (fun v10 w=>
 gT v8 (kN 51 v10) (fun v11 w=>
 gT v8 (kB .leq 3 4 v11 (.int .i64 18)) (fun v12=>
 kP v8 v12 (.bool false) fun v13=>
 K v13) w) w) w) w
theorem e6r (h:g3j a0 a1 K w):a0a prog 23 #[a0,a1] K w:=
 cZ (fun _=>0) func23 h
end Go.Proofs
namespace Go.Proofs
open Go Go.Sh Go.RowKit FdSpec TkSpec CodeSpec PuSpec DkSpec JnSpec
section
variable {K:VK} {w w' w0 W W':World} {L:List (Addr × Value)} {rb b:Nat}
theorem c5q {d1 d2:Int} {l m:List Int} {av bv:Value} (ha:Ints w av l) (hb:Ints w bv m) (k:∀ w',Bw w w' → K (.bool (decide (d1 = d2) && decide (l = m))) w'):a0a Tryz.prog 85 #[.agg #[.int .i64 d1,av],.agg #[.int .i64 d2,bv]] K w:=by
 apply e6p
 unfold g3h
 obtain ⟨a1,c1,rfl⟩:=ha.isSlice
 obtain ⟨a2,c2,rfl⟩:=hb.isSlice
 refine a1i (cs:=[.int .i64 d1,.slice a1 l.length c1]) rfl (.start w) fun b1 W hk hb1 hbb=>?_
 refine a1i (cs:=[.int .i64 d2,.slice a2 m.length c2]) rfl hk fun b2 W hk hb2 hbb=>?_
 by_cases h:d1 = d2
 ·rw [decide_eq_true h,bT] at k
  refine Xa (An2 hk.cells @h) ?_
  refine b8c (ha.next hk.below) (hb.next hk.below) (fun w3 h3=>?_)
  have k:=k _ (hk.next h3).below
  refine Xa0 ?_
  exact k
 ·rw [decide_eq_false h,bF] at k
  have k:=k _ hk.below
  refine Xa (An2 hk.cells @h) ?_
  exact k
theorem c5r {b p:Nat} {x:Lnk} {av:Value} (h:∀ j u,(lkC x av)[j]? = some u → w.cell? ⟨b,p + j,none⟩ = some u) :
  w.cell? ⟨b,p,none⟩ = some (.int .i64 x.ticket.mark) ∧ w.cell? ⟨b,p + 1,none⟩ = some (.int .i64 x.ticket.first) ∧ w.cell? ⟨b,p + 2,none⟩ = some (.int .i64 x.ticket.z) ∧ w.cell? ⟨b,p + 3,none⟩ = some (.int .i64 x.ticket.a) ∧ w.cell? ⟨b,p + 4,none⟩ = some (.int .i64 x.ticket.b) ∧ w.cell? ⟨b,p + 5,none⟩ = some (.int .i64 x.ticket.r) ∧
  w.cell? ⟨b,p + 6,none⟩ = some (.int .i64 x.spend.dare) ∧ w.cell? ⟨b,p + 6 + 1,none⟩ = some av ∧ w.cell? ⟨b,p + 8,none⟩ = some (.string ⟨x.terms.toArray⟩):=
 ⟨h 0 _ rfl,h 1 _ rfl,h 2 _ rfl,h 3 _ rfl,h 4 _ rfl,h 5 _ rfl,h 6 _ rfl,h 7 _ rfl,h 8 _ rfl⟩
theorem h1z:Tryz.prog.underlying 24 = some ((Tryz.prog.underlying 24).getD default):=by kernel_rfl
theorem a1c {g:Nat} {T:TypeId} {xs:List Value} (h:Holds w g T xs) {j:Nat} {u:Value} (hj:xs[j]? = some u):w.cell? ⟨g,j,none⟩ = some u:=by
 obtain ⟨hl,rfl⟩:=gS hj
 exact h.cell j hl
end
def c2e (y:Lnk):Bool:=decide (y.spend.answers.length ≤ 8) && decide (y.terms.length ≤ 210)
def c8o (h:Hld):Bool:=(h.links.take 6).all c2e && (decide (h.attrs.length ≤ 8) && decide (h.bl.ys.length ≤ 8) && decide (h.links.length ≤ 5))
section
variable {K:VK} {w w' w0 W W':World} {L:List (Addr × Value)} {rb b:Nat}
theorem c8p (s:Stp) (lims:List Lim) {v lv:Value} (hs:Ints w v s.bases) (hl:c5d w lv lims) (k:∀ w',Bw w w' → K (.bool (decide (s.bases.length ≤ 8) && decide (lims.length ≤ 18))) w'):a0a Tryz.prog 23 #[a9j s v,lv] K w:=by
 apply e6r
 unfold g3j
 obtain ⟨a1,c1,rfl⟩:=hs.isSlice
 obtain ⟨a2,c2,rfl⟩:=hl.isSlice
 refine a1i (cs:=b1d s (.slice a1 s.bases.length c1)) rfl (.start w) fun b1 W hk hb1 hbb=>?_
 have k:=k _ hk.below
 by_cases h:s.bases.length ≤ 8
 ·have hZ:(s.bases.length:Int) ≤ 8:=by omega
  by_cases h2:lims.length ≤ 18
  ·have h2Z:(lims.length:Int) ≤ 18:=by omega
   rw [decide_eq_true h,decide_eq_true h2] at k
   refine Xa (An3 hk.cells @hZ @h2Z) ?_
   exact k
  ·have h2Z:¬ (lims.length:Int) ≤ 18:=by omega
   rw [decide_eq_true h,decide_eq_false h2] at k
   refine Xa (An3 hk.cells @hZ @h2Z) ?_
   exact k
 ·have hZ:¬ (s.bases.length:Int) ≤ 8:=by omega
  rw [decide_eq_false h] at k
  refine Xa (An2 hk.cells @hZ) ?_
  exact k
theorem d3q (x:Hld) {av yv kv:Value} (hx:HldR w x av yv kv) (k:∀ w',Bw w w' → K (.bool (c8o x)) w'):a0a Tryz.prog 13 #[d3g x av yv kv] K w:=by
 apply e6q
 unfold g3i
 obtain ⟨a1,d1,rfl⟩:=hx.attrs.isSlice
 obtain ⟨a2,d2,rfl⟩:=hx.ys.isSlice
 obtain ⟨a3,d3,rfl⟩:=hx.links.isSlice
 have hll:=hx.links.len
 refine a3f (cs:=b7y x (.slice a1 x.attrs.length d1) (.slice a2 x.bl.ys.length d2) (.slice a3 x.links.length d3)) rfl (fun b1 w1 h1 hb1 hB1=>?_)
 have p2:=hB1.cell 2 (by simp)
 have p6:=hB1.cell 6 (by simp)
 have p13:=hB1.cell 13 (by simp)
 simp only [List.getElem_cons_zero,List.getElem_cons_succ] at p2 p6 p13
 refine ⟨fun vs W=>∃ (i:Nat),vs = [.bool false,.int .i64 (i:Int)] ∧ i ≤ x.links.length ∧ i ≤ 6 ∧ (x.links.take i).all c2e = true ∧ Nx w1 W,
  (fun vs _=>match vs with | [_,.int _ i]=>x.links.length - i.toNat | _=>0),⟨0,rfl,by omega,by omega,rfl,bR⟩,?_⟩
 rintro _ _ w2 ⟨i,rfl,hi,hi6,ha,h2⟩
 have p2:=(h2.cell hB1.lt).trans p2
 have p6:=(h2.cell hB1.lt).trans p6
 have p13:=(h2.cell hB1.lt).trans p13
 by_cases hil:i < x.links.length ∧ i < 6
 ·have hi1:(i:Int) < x.links.length:=by omega
  have hi2:(i:Int) ≤ 5:=by omega
  have hL:=hx.links.next (a1k a8n) (h1.on h2)
  obtain ⟨lb,lo,rfl,hlb,cs,hcl,hcc,yv,rfl,hA,hw⟩:=hL.at hil.1
  obtain ⟨e1,n1,rfl⟩:=hA.isSlice
  have hc:=c5r hcc
  have hnext:(x.links.take (i + 1)).all c2e = c2e x.links[i]:=by
   rw [List.take_succ_eq_append_getElem hil.1,List.all_append,ha]; simp
  have bad:c2e x.links[i] = false → K (.bool false) w2:=fun e=>by
   have k:=k _ (h1.on h2)
   have:c8o x = false:=by
    unfold c8o
    rw [Bool.and_eq_false_iff]
    left
    rw [List.all_eq_false]
    refine ⟨x.links[i],?_,by rw [e]; simp⟩
    rw [List.mem_take_iff_getElem]
    exact ⟨i,by omega,rfl⟩
   rwa [this] at k
  by_cases q1:x.links[i].spend.answers.length ≤ 8
  ·have q1Z:¬ (8:Int) < x.links[i].spend.answers.length:=by omega
   by_cases q2:x.links[i].terms.length ≤ 210
   ·have q2Z:¬ (210:Int) < x.links[i].terms.length:=by omega
    refine Xa (An7 @p13 @hi1 @hi2 hc.2.2.2.2.2.2.2.1 hc.2.2.2.2.2.2.2.2 @q1Z @q2Z) ?_
    exact ⟨⟨i + 1,rfl,by omega,by omega,by rw [hnext]; unfold c2e; rw [decide_eq_true q1,decide_eq_true q2]; rfl,h2⟩,by show x.links.length - (((i + 1:Nat):Int)).toNat < x.links.length - ((i:Nat):Int).toNat; omega⟩
   ·have q2Z:(210:Int) < x.links[i].terms.length:=by omega
    have bad:=bad (by unfold c2e; rw [decide_eq_false q2]; simp)
    refine Xa (An7 @p13 @hi1 @hi2 hc.2.2.2.2.2.2.2.1 hc.2.2.2.2.2.2.2.2 @q1Z @q2Z) ?_
    exact bad
  ·have q1Z:(8:Int) < x.links[i].spend.answers.length:=by omega
   have bad:=bad (by unfold c2e; rw [decide_eq_false q1]; rfl)
   refine Xa (An6 @p13 @hi1 @hi2 hc.2.2.2.2.2.2.2.1 hc.2.2.2.2.2.2.2.2 @q1Z) ?_
   exact bad
 ·have e6:(x.links.take 6).all c2e = true:=by
   by_cases h6:i = 6
   ·rw [← h6]; exact ha
   ·have:i = x.links.length:=by omega
    rw [this,List.take_length] at ha
    rw [List.take_of_length_le (by omega)]
    exact ha
  have k2:∀ r,(decide (x.attrs.length ≤ 8) && decide (x.bl.ys.length ≤ 8) && decide (x.links.length ≤ 5)) = r → K (.bool r) w2:=fun r e=>by
   have k:=k _ (h1.on h2)
   unfold c8o at k
   rw [e6,e] at k
   exact k
  have hend:∀ (P:Prop) (t:P) ,P:=fun _ t=>t
  by_cases q1:x.attrs.length ≤ 8
  ·have q1Z:(x.attrs.length:Int) ≤ 8:=by omega
   by_cases q2:x.bl.ys.length ≤ 8
   ·have q2Z:(x.bl.ys.length:Int) ≤ 8:=by omega
    by_cases q3:x.links.length ≤ 5
    ·have q3Z:(x.links.length:Int) ≤ 5:=by omega
     have hi1:¬ (i:Int) < x.links.length:=by omega
     have k2:=k2 _ (by rw [decide_eq_true q1,decide_eq_true q2,decide_eq_true q3])
     refine Xa (An7 @p13 @p2 @p6 @hi1 @q1Z @q2Z @q3Z) ?_
     exact k2
    ·have q3Z:¬ (x.links.length:Int) ≤ 5:=by omega
     have k2:=k2 _ (by rw [decide_eq_true q1,decide_eq_true q2,decide_eq_false q3])
     by_cases hi1:(i:Int) < x.links.length
     ·have hi2:¬ (i:Int) ≤ 5:=by omega
      refine Xa (An8 @p13 @p2 @p6 @hi1 @hi2 @q1Z @q2Z @q3Z) ?_
      exact k2
     ·refine Xa (An7 @p13 @p2 @p6 @hi1 @q1Z @q2Z @q3Z) ?_
      exact k2
   ·have q2Z:¬ (x.bl.ys.length:Int) ≤ 8:=by omega
    have k2:=k2 _ (by rw [decide_eq_true q1,decide_eq_false q2])
    by_cases hi1:(i:Int) < x.links.length
    ·have hi2:¬ (i:Int) ≤ 5:=by omega
     refine Xa (An7 @p13 @p2 @p6 @hi1 @hi2 @q1Z @q2Z) ?_
     exact k2
    ·refine Xa (An6 @p13 @p2 @p6 @hi1 @q1Z @q2Z) ?_
     exact k2
  ·have q1Z:¬ (x.attrs.length:Int) ≤ 8:=by omega
   have k2:=k2 _ (by rw [decide_eq_false q1])
   by_cases hi1:(i:Int) < x.links.length
   ·have hi2:¬ (i:Int) ≤ 5:=by omega
    refine Xa (An6 @p13 @p2 @p6 @hi1 @hi2 @q1Z) ?_
    exact k2
   ·refine Xa (An5 @p13 @p2 @p6 @hi1 @q1Z) ?_
    exact k2
theorem d1f {b p:Nat} {x:Itm} {av yv lv:Value} (h:∀ j u,(b3m x av yv lv)[j]? = some u → w.cell? ⟨b,p + j,none⟩ = some u) :
  ∀ j u,(b7y x.held av yv lv)[j]? = some u → w.cell? ⟨b,p + j,none⟩ = some u:=fun j u hj=>h j u (by
 have:b3m x av yv lv = b7y x.held av yv lv ++ [.int .i64 x.status,.int .i64 x.dare,.bool x.lent,.bool x.back]:=rfl
 rw [this,List.getElem?_append_left (gS hj).1]
 exact hj)
theorem a3v {P:Program} {T T':TypeId} {b p:Nat} {cs:List Value} {d:TypeDesc} {C:WK} {KQ:Value → Prop} (hc:∀ W,C W → ∀ (j:Nat) (v:Value),cs[j]? = some v → W.cell? ⟨b,p + j,none⟩ = some v)
  (hu:P.underlying T = some d) (hd:(match d with | .struct _ | .array _ _=>true | _=>false) = true) (hi:(P.info? T).map (·.size) = some cs.length) (k:KQ (.agg cs.toArray)) :
  oH P (.load T (.tmp 0)) T' [.pointer (some ⟨b,p,none⟩)] C KQ:=
 a1z ⟨_,rfl⟩ (fun W h=>a1t (hc W h) hu hd hi ⟨rfl,rfl⟩) k
end
end Go.Proofs
namespace PuSpec
open FdSpec TkSpec CodeSpec DkSpec JnSpec
variable {s:Stp} {lims:List Lim} {A:Ab} {p:Pst} {all sure:List a0f} {n:Nat}
end PuSpec
namespace PuSpec
open FdSpec TkSpec CodeSpec DkSpec JnSpec
variable {s:Stp} {lims:List Lim} {A:Ab} {p:Pst} {all sure:List a0f} {n:Nat}
structure OpM where
 kind:Int
 a:Int
 b:Int
 c:Int
 held:Hld
 next:Tkt
 terms:a0f
 keep:List Int
end PuSpec
namespace PuSpec
open FdSpec TkSpec CodeSpec DkSpec JnSpec
variable {s:Stp} {lims:List Lim} {A:Ab} {p:Pst} {all sure:List a0f}
def d3w (s:Stp) (lims:List Lim) (A:Ab) (p:Pst) (o:OpM):(List Lnk × Int) × Ab × Pst:=
 if o.kind = 1 then (([],(a2l s lims A p o.a o.b o.c).1.2),(a2l s lims A p o.a o.b o.c).2)
 else if o.kind = 2 then ((a6v s lims A p o.a o.b o.next o.terms).1.2,(a6v s lims A p o.a o.b o.next o.terms).2)
 else if o.kind = 3 then (([],(a6f A p o.a 2).1),(a6f A p o.a 2).2)
 else if o.kind = 4 then (([],(a6f A p o.a 4).1),(a6f A p o.a 4).2)
 else if o.kind = 5 ∨ o.kind = 6 ∨ o.kind = 7 ∨ o.kind = 8 then (([],0),A,p)
 else (([],(c0u s lims A p o.held).1),(c0u s lims A p o.held).2)
structure WOp (o:OpM):Prop where
 a:InR o.a
 c:InR o.c
 held:WHld o.held
 keep:∀ x ∈ o.keep,-2 ^ 63 ≤ x ∧ x < 2 ^ 63
 kl:o.keep.length < 2 ^ 62
theorem e9e (v:Inv s lims A p all sure) (hv:a1j s = true) (hn:(p.items.length:Int) ≤ 1000000) {o:OpM} (w:WOp o):f6k s lims sure (d3w s lims A p o).2.1 (d3w s lims A p o).2.2:=by
 unfold d3w
 split
 ·exact c6w v w.c hn
 ·split
  ·exact e9i v hv _ _ _ _ hn
  ·split
   ·exact c9t v (.inl rfl) w.a
   ·split
    ·exact c9t v (.inr rfl) w.a
    ·split
     ·exact v.kept
     ·exact d9o v _ w.held
theorem d9m (v:Inv s lims A p all sure):p.items.length ≤ 400:=by
 obtain ⟨rj,h1,h2,_⟩:=a5r v
 rw [← h2.1]
 have key:∀ (rs:List a0f) (l m:List Itm),l.length ≤ 400 → a0s s lims l rs = some m → m.length ≤ 400:=by
  intro rs
  induction rs with
  | nil=>intro l m hl h; rw [a0s,Option.some.injEq] at h; subst h; exact hl
  | cons r rs ih=>
   intro l m hl h
   rw [a0s] at h
   split at h
   ·cases h
   ·rename_i k hk
    refine ih k m ?_ h
    unfold a3o at hk
    split at hk
    ·unfold f8v at hk
     generalize a4i (List.drop 2 r) = d at hk
     split at hk
     ·cases hk
     ·rename_i hc
      simp only [Option.some.injEq] at hk
      subst hk
      simp only [Bool.or_eq_true,Bool.not_eq_true',decide_eq_true_eq,not_or] at hc
      simp only [List.length_append,List.length_cons,List.length_nil]
      omega
    ·split at hk
     ·cases hk
     ·dsimp only at hk
      split at hk
      ·cases hk
      ·split at hk
       ·cases hk
       ·split at hk
        ·cases hk
        ·simp only [Option.some.injEq] at hk
         subst hk
         rw [List.length_set]
         exact hl
 exact key _ _ _ (by simp) h1
theorem b9k {limit now:Int} {next:Tkt} {terms:a0f} (h0:(a6v s lims A p limit now next terms).1.2.2 = 0) {all' sure':List a0f}
  (v:Inv s lims (a6v s lims A p limit now next terms).2.1 (a6v s lims A p limit now next terms).2.2 all' sure') :
  ∃ (ls:List Lnk) (x:Lnk),(a6v s lims A p limit now next terms).1.2.1 = ls ++ [x] ∧ Borne s lims sure' x.ticket x.spend:=by
 have hc:=c6y (lims:=lims) p.items limit now
 by_cases h2:(a0j lims p.items limit now).2 = 0
 ·obtain ⟨x,hx,hf,_⟩:=b1t h2
  have hl:=(List.getElem?_eq_some_iff.1 hx).1
  unfold a6v at h0 v ⊢
  rw [if_neg (by simp [h2]),hx] at h0 v ⊢
  dsimp only at h0 v ⊢
  split at h0
  ·cases h0
  ·rename_i h3
   rw [if_neg h3] at v ⊢
   split at h0
   ·cases h0
   ·rename_i h4
    rw [if_neg h4] at v ⊢
    split at h0
    ·rename_i h5; exact absurd h0 h5
    ·rename_i h5
     rw [if_neg h5] at v ⊢
     dsimp only at v ⊢
     refine ⟨_,_,rfl,?_⟩
     have hi:(a3y A p (a0j lims p.items limit now).1 3 (a4y s next terms)).2.2.items = p.items.set (a0j lims p.items limit now).1 { x with dare:=a4y s next terms,status:=1,lent:=true }:=by
      have h6:=Decidable.not_not.1 h5
      unfold a3y at h6 ⊢
      dsimp only at h6 ⊢
      split at h6
      ·rename_i h7; exact absurd h6 h7
      ·rename_i h7
       rw [if_neg h7]
       split at h6
       ·rename_i h8; exact absurd h6 h8
       ·rename_i h8
        rw [if_neg h8,modify_set hx]
        rfl
     have hm:{ x with dare:=a4y s next terms,status:=1,lent:=true } ∈ (a3y A p (a0j lims p.items limit now).1 3 (a4y s next terms)).2.2.items:=by
      rw [hi]
      exact List.mem_set hl _
     exact (c3t v _ hm (.inl rfl)).1
 ·unfold a6v at h0
  rw [if_pos h2] at h0
  exact absurd h0 h2
end PuSpec
namespace PuSpec
open FdSpec TkSpec CodeSpec DkSpec JnSpec
variable {s:Stp} {lims:List Lim} {A:Ab} {p:Pst} {all sure:List a0f} {n:Nat}
end PuSpec
namespace Go.Proofs
open Go Go.Sh Go.RowKit FdSpec TkSpec CodeSpec PuSpec DkSpec JnSpec
section
variable {K:VK} {w w' w0 W W':World} {L:List (Addr × Value)} {rb b:Nat} {s:Stp} {lims:List Lim} {p p':Ph} {A:Ab} {P:Pst}
theorem f2k {T:TypeId} (b:Nat) (k:K (.bool false) w):oM Tryz.prog (Go.Op.binOp Go.BinOp.eql 55 (.tmp 0) (.const (.pointer none)) 55) T [.pointer (some ⟨b,0,none⟩)] K w:=by
 refine Xa0 ?_
 exact k
theorem d3r {T:TypeId} (k:K (.bool true) w):oM Tryz.prog (Go.Op.binOp Go.BinOp.eql 56 (.tmp 0) (.const (.pointer none)) 56) T [.pointer none] K w:=by
 refine Xa0 ?_
 exact k
theorem PuR.dstep {A':Ab} {h':Dk} (hP:PuR s lims w0 w p A P) (d:IsDk w' p.b A' h') (t:Step w p.b p.h w' h') :
  PuR s lims w0 w' { p with h:=h',u:=p.u } A' P ∧ PuSt p w { p with h:=h',u:=p.u } w':=by
 have:=hP.jour (s':=hP.sys.step d t) (jn':=hP.jn.step t) (JSt.of_step t)
 exact this
end
end Go.Proofs
namespace Go.Proofs
open Go.Sh Tryz
variable {a0 a1 a2 a3 a4:Value} {K:VK} {w:World}
def g2n (a0 a1 a2:Value) (K:VK) (w:World):Prop:=
 a0a prog 107 #[a0,a1] (fun v14=>
 kE 0 187 v14 fun v15=>
 kE 1 4 v14 fun v16=>
 kU v16 fun v18=>
 kO v18 (K (.int .i64 4))
 (oM prog (.nilCheck (.tmp 0)) 0 [v15] fun v20=>
 kL 67 v20 fun v21=>
 kA 67 fun v9=>
 kS 67 v9 v21 fun _=>
 oM prog (.nilCheck (.tmp 0)) 0 [a0] fun v23=>
 kF 136 0 v23 fun v24=>
 a0a prog 134 #[v24,v9,a2,(.int .i64 0)] fun v26=>
 kU v26 fun v27=>
 kO v27 (K (.int .i64 7))
 (kH fun C_12 w=>(((true:Bool) = true) ∧ (a0d a0 C_12 fun v28=>
 oH prog (.nilCheck (.tmp 0)) 0 [v28] C_12 fun v29=>
 jF 136 1 v29 C_12 fun v30=>
 jL 134 v30 C_12 fun v31=>
 a0d a2 C_12 fun v32=>
 a0d a1 C_12 fun v33=>
 ∃ S_19:World → WK,xR S_19 fun R_20=>
 (∀ w,C_12 w → (oM prog (.buildSlice 22 2 #[(0,(.tmp 0)),(1,(.tmp 1))]) 22 [v32,v33] (xK C_12 S_19 R_20 w) w)) ∧
 (xR S_19 fun R_21=>
 (∀ w,C_12 w → ∀ v34,R_20 v34 w → (a0a prog 61 #[v34] (xK C_12 S_19 R_21 w) w)) ∧
 (∀ w,C_12 w → ∀ v34,R_20 v34 w → ∀ v35,R_21 v35 w → (
 a0a prog 106 #[v31,v35] (fun v36=>
 kC .neq 62 0 4 v36 fun v38=>
 kO v38 (K v36)
 (kL 67 v9 fun v41=>
 oM prog (.nilCheck (.tmp 0)) 0 [v15] fun v42=>
 kS 67 v42 v41 fun _=>
 K (.int .i64 0))) w)))))))) w
theorem e5v (h:g2n a0 a1 a2 K w):a0a prog 95 #[a0,a1,a2] K w:=
 cZ (fun _=>(fz 6 2 2)) func95 h
def g2o (a0 a1:Value) (K:VK) (w:World):Prop:=
 a0a prog 95 #[a0,a1,(.int .i64 4)] (fun v7=>
 K v7) w
theorem e5w (h:g2o a0 a1 K w):a0a prog 46 #[a0,a1] K w:=
 cZ (fun _=>0) func46 h
def g2p (a0 a1:Value) (K:VK) (w:World):Prop:=
 a0a prog 95 #[a0,a1,(.int .i64 2)] (fun v7=>
 K v7) w
theorem e5x (h:g2p a0 a1 K w):a0a prog 75 #[a0,a1] K w:=
 cZ (fun _=>0) func75 h
def g2q (a0 a1 a2 a3 a4:Value) (K:VK) (w:World):Prop:=
 oM prog (.box 26 (.tmp 0)) 0 [a3] (fun v8=>
 a0a prog 73 #[a0,a1,a2] fun v25=>
 kE 0 3 v25 fun v26=>
 kE 1 62 v25 fun v27=>
 kC .neq 62 0 4 v27 fun v29=>
 kO v29 (K (.tuple #[(.int .i64 0),(.slice none 0 0),v27]))
 (oM prog (.nilCheck (.tmp 0)) 0 [a0] fun v32=>
 kF 136 0 v32 fun v33=>
 kF 133 2 v33 fun v34=>
 kL 59 v34 fun v35=>
 kI 59 v35 v26 fun v37=>
 kF 67 0 v37 fun v38=>
 kL 29 v38 fun v39=>
 a0a prog 71 #[v39] fun v40=>
 kA 29 fun v15=>
 kS 29 v15 v40 fun _=>
 a0a prog 18 #[a4] fun v43=>
 kE 0 3 v43 fun v44=>
 kE 1 9 v43 fun v45=>
 kE 2 4 v43 fun v46 w=>
 a4a (fun M_19=>(kF 29 5 v15 (fun v47=>
 kL 27 v47 fun v48=>
 kN 27 v48 fun v49=>
 kB .gtr 3 4 v49 (.int .i64 0) fun v51=>
 kO v51 (gT v46 (a0c a4) fun v54 w=>
 gT v46 (kF 29 5 v15) (fun v55 w=>
 gT v46 (kL 27 v55) (fun v56 w=>
 gT v46 (a0c v49) (fun v57 w=>
 gT v46 (kB .sub 3 3 v57 (.int .i64 1)) (fun v58 w=>
 gT v46 (kI 27 v56 v58) (fun v59 w=>
 gT v46 (kF 86 2 v59) (fun v60 w=>
 gT v46 (kL 9 v60) (fun v61 w=>
 gT v46 (a0a prog 22 #[v54,v61]) (fun v62=>
 kP v46 v62 (.bool false) fun v63=>
 M_19 [v49,v63]) w) w) w) w) w) w) w) w)
 (M_19 [v49,v46])) w))
 fun l_20 u_l_20 w=>(kU (l_20.getD 1 undef) (fun v66=>
 kO v66 (K (.tuple #[(.int .i64 0),(.slice none 0 0),(.int .i64 2)]))
 (kF 29 5 v15 fun v68=>
 kL 27 v68 fun v69=>
 kN 27 v69 fun v70=>
 kB .geq 3 4 v70 (.int .i64 4) fun v71=>
 kO v71 (K (.tuple #[(.int .i64 0),(.slice none 0 0),(.int .i64 6)]))
 (kH fun C_40 w=>(((true:Bool) = true) ∧ (a0d a0 C_40 fun v72=>
 a0d v26 C_40 fun v73=>
 a0d a0 C_40 fun v74=>
 oH prog (.nilCheck (.tmp 0)) 0 [v74] C_40 fun v75=>
 jF 136 0 v75 C_40 fun v76=>
 jF 133 0 v76 C_40 fun v77=>
 jL 50 v77 C_40 fun v78=>
 jL 26 v8 C_40 fun v79=>
 a0d a4 C_40 fun v80=>
 ∃ S_50:World → WK,xR S_50 fun R_51=>
 (∀ w,C_40 w → (a0a prog 43 #[v78,v79,v80] (xK C_40 S_50 R_51 w) w)) ∧
 (∀ w,C_40 w → ∀ v81,R_51 v81 w → (
 a0a prog 74 #[v72,v73,(.int .i64 3),v81] (fun v82=>
 kC .neq 62 0 4 v82 fun v84=>
 kO v84 (K (.tuple #[(.int .i64 0),(.slice none 0 0),v82]))
 (kH fun C_55 w=>(a0d v26 C_55 fun v86=>
 jF 29 5 v15 C_55 fun v87=>
 jL 27 v87 C_55 fun v88=>
 jF 29 4 v15 C_55 fun v89=>
 jL 26 v89 C_55 fun v90=>
 a0d a0 C_55 fun v91=>
 a0d v26 C_55 fun v92=>
 a0d a4 C_55 fun v94=>
 a0a prog 91 #[v91,v92] (fun v93 w=>C_55 w ∧ (
 oM prog (.build 86 #[(0,(.tmp 0)),(1,(.tmp 1)),(2,(.tmp 2))]) 86 [v90,v93,v94] (fun v95 w=>C_55 w ∧ (
 oM prog (.buildSlice 27 1 #[(0,(.tmp 0))]) 27 [v95] (fun v96 w=>C_55 w ∧ (
 oM prog (.call (Go.Call.mk (.builtin .append) #[(.tmp 0),(.tmp 1)] #[27,27])) 27 [v88,v96] (fun v97 w=>C_55 w ∧ (
 C_55 w ∧ (C_55 w ∧ (C_55 w ∧ (K (.tuple #[v86,v97,(.int .i64 0)]) w))))) w)) w)) w)) w))) w))))))) w))) w
theorem e5y (h:g2q a0 a1 a2 a3 a4 K w):a0a prog 41 #[a0,a1,a2,a3,a4] K w:=
 cZ (mz [(13,fz 9 1 2),(16,.tree (.look 0 (.look 1 (.look 2 (.look 3 (.look 4 (.look 5 (.look 6 (.look 8 (.only 7 (.only 9 (.only 10 (.only 11 (.only 12 (.only 13 (.only 14 (.done)))))))))))))))))]) func41 h
end Go.Proofs
namespace Go.Proofs
open Go Go.Sh Go.RowKit FdSpec TkSpec CodeSpec PuSpec DkSpec JnSpec
section
variable {K:VK} {w w' w0 W W':World} {L:List (Addr × Value)} {rb b:Nat} {s:Stp} {lims:List Lim} {p p':Ph} {items items':List Itm} {A:Ab} {P:Pst} {h:Dk}
set_option maxHeartbeats 2000000 in
theorem StR.put18 (h:StR s lims w p items) {i g c:Nat} {x y:Itm} {a1 a2 a3:Option Addr} {n1 n2 n3 d1 d2 d3:Nat} {T':TypeId} (hx:items[i]? = some x) (hg:p.iv = .slice (some ⟨g,0,none⟩) items.length c)
  (hc:∀ (j:Nat) (u:Value),(b3m x (.slice a1 n1 d1) (.slice a2 n2 d2) (.slice a3 n3 d3))[j]? = some u → w.cell? ⟨g,i * 18 + j,none⟩ = some u) (hh:y.held = x.held) (hI:I64 y.status ∧ I64 y.dare)
  (k:∀ W,StR s lims W p (items.set i y) → PuIt p w p W → K undef W) :
  oM Tryz.prog (.store 67 (.tmp 0) (.tmp 1)) T' [.pointer (some ⟨g,i * 18,none⟩),g0j y (.slice a1 n1 d1) (.slice a2 n2 d2) (.slice a3 n3 d3)] K w:=by
 have hG:=h.itm
 rw [hg] at hG
 have hgo:p.iv.ownBlock = some g:=by rw [hg]; rfl
 refine GRow.put (n:=18) (i:=i) (g:=g) (off:=0) (m:=18) (x0:=x) (x:=g0j y (.slice a1 n1 d1) (.slice a2 n2 d2) (.slice a3 n3 d3)) (xs:=b3m y (.slice a1 n1 d1) (.slice a2 n2 d2) (.slice a3 n3 d3)) (y:=y) hG hx (by omega) c5p rfl rfl (b2g _ _ _ _ _ _ _ _ _ _ _ _ _ _ _ _ _ _ _ _ _ _ _ _) (fun j hj=>⟨hj.1,fun e=>hj.2.1 (.inr (.inr (.inr (.inr (by rw [e]; exact hgo)))))⟩) (fun cs hcl hcc hf=>hf.imp (fun W=>?_)) (fun W hgr hG2=>?_)
 ·rintro ⟨av,yv,lv,rfl,h2,h3⟩
  have key:∀ j u v,(b3m x av yv lv)[j]? = some u → (b3m x (.slice a1 n1 d1) (.slice a2 n2 d2) (.slice a3 n3 d3))[j]? = some v → u = v:=fun j u v e1 e2=>oI ((hcc j u e1).symm.trans (hc j v e2))
  have e2:=key 2 _ _ rfl rfl
  have e6:=key 6 _ _ rfl rfl
  have e13:=key 13 _ _ rfl rfl
  subst e2 e6 e13
  refine ⟨_,_,_,?_,by rw [hh]; exact h2,hI⟩
  rw [List.take_zero,List.drop_eq_nil_of_le (by rw [hcl]; omega),List.append_nil,List.nil_append]
 ·have hf:Fr (fun i=>i = p.pb ∨ p.iv.ownBlock = some i) w W:=(Fr.of_by hgr).mono (fun j _ hj=>.inr (by rw [hj]; exact hgo))
  have t:PuIt p w p W:=⟨hf,fun j hj=>.inl hj,rfl⟩
  refine k W ⟨?_,?_,c2c h.rd t.st,by rw [List.length_set]; exact h.cnt,h.sp,h.si,fun i hi=>lL (h.xl i hi) hf.size⟩ t
  ·exact h.pur.other hgr (fun e=>(h.si g hgo).2.2.2 e.symm)
  ·rw [hg]
   exact hG2.mono (Im.mono hf.size (fun j hj=>.inl hj) rfl)
theorem f2l {x:Itm} {g:Nat} {a1 a2 a3:Option Addr} {n1 n2 n3 d1 d2 d3 pb:Nat} (hB:Holds w g 67 (b3m x (.slice a1 n1 d1) (.slice a2 n2 d2) (.slice a3 n3 d3))) (kind z:Int) (k0:b2t kind x = none → K (.bool false) w)
  (k1:∀ y,b2t kind x = some y → ∀ w',Holds w' g 67 (b3m y (.slice a1 n1 d1) (.slice a2 n2 d2) (.slice a3 n3 d3)) → w.grownBy w' (some g) → K (.bool true) w'):a0a Tryz.prog 134 #[.pointer (some ⟨pb,0,none⟩),.pointer (some ⟨g,0,none⟩),.int .i64 kind,.int .i64 z] K w:=by
 apply c2z
 unfold d6w
 have c14:=a1c hB (j:=14) rfl
 have c16:=a1c hB (j:=16) rfl
 have c17:=a1c hB (j:=17) rfl
 refine ⟨fun _ W=>K (.bool true) W,?_,fun l u w2 h2=>h2⟩
 unfold b2t at k0 k1
 by_cases h2:kind = 2
 ·by_cases hs:x.status = 1
  ·have k1:=k1 _ (if_pos ⟨h2,hs⟩)
   refine Xa (An3 @c14 @h2 @hs) ?_
   refine a3g (i:=14) a8b rfl rfl hB (by simp) (fun w2 hg2 hB2=>?_)
   refine Xa0 ?_
   exact k1 _ hB2 hg2
  ·have k0:=k0 (by rw [if_neg (fun h=>hs h.2),if_neg (fun h=>by omega)])
   refine Xa (An3 @c14 @h2 @hs) ?_
   exact k0
 ·by_cases h4:kind = 4
  ·cases hl:x.lent with
   | false=>
    have k0:=k0 (by rw [if_neg (fun h=>h2 h.1),if_neg (fun h=>by rw [hl] at h; exact absurd h.2.1 (by simp))])
    rw [hl] at c16
    refine Xa (An3 @c16 @h2 @h4) ?_
    exact k0
   | true=>
    rw [hl] at c16
    cases hb:x.back with
    | true=>
     rw [hb] at c17
     have k0:=k0 (by rw [if_neg (fun h=>h2 h.1),if_neg (fun h=>by rw [hb] at h; exact absurd h.2.2 (by simp))])
     refine Xa (An4 @c16 @c17 @h2 @h4) ?_
     exact k0
    | false=>
     rw [hb] at c17
     have k1:=k1 _ (by rw [if_neg (fun h=>h2 h.1),if_pos ⟨h4,hl,hb⟩])
     refine Xa (An4 @c16 @c17 @h2 @h4) ?_
     refine a3g (i:=17) b4j rfl rfl hB (by simp) (fun w2 hg2 hB2=>?_)
     refine Xa0 ?_
     exact k1 _ hB2 hg2
  ·have k0:=k0 (by rw [if_neg (fun h=>h2 h.1),if_neg (fun h=>h4 h.1)])
   refine Xa (An2 @h2 @h4) ?_
   exact k0
theorem e3k {kind:Int} {x y:Itm} (h:b2t kind x = some y) (hI:I64 x.status ∧ I64 x.dare):y.held = x.held ∧ I64 y.status ∧ I64 y.dare:=by
 unfold b2t at h
 split at h
 ·cases h; exact ⟨rfl,b8x 2 (by omega),hI.2⟩
 ·split at h
  ·cases h; exact ⟨rfl,hI⟩
  ·cases h
set_option maxHeartbeats 4000000 in
theorem e3l (hP:PuR s lims w0 w p A P) (i kind:Int) (hk:kind = 2 ∨ kind = 4) (hi:InR i)
  (k:∀ w' p',PuR s lims w0 w' p' (a6f A P i kind).2.1 (a6f A P i kind).2.2 → PuSt p w p' w' → (p'.pb = p.pb ∧ p'.b = p.b) → K (.int .i64 (a6f A P i kind).1) w') :
  a0a Tryz.prog 95 #[.pointer (some ⟨p.pb,0,none⟩),.int .i64 i,.int .i64 kind] K w:=by
 apply e5v
 unfold g2n
 have hkr:InR kind:=by rcases hk with rfl | rfl <;> exact ⟨by decide,by decide⟩
 have hall:∀ n ∈ [kind,i],InR n:=by
  intro n hn
  simp only [List.mem_cons,List.not_mem_nil,or_false] at hn
  rcases hn with rfl | rfl
  ·exact hkr
  ·exact hi
 have hrl:=b1u hall (by simp)
 refine e3h hP.st i (fun hb=>?_) (fun g c h0 hl hgv=>?_)
 ·have e:a6f A P i kind = (4,A,P):=by
   unfold a6f
   by_cases h:i < 0
   ·rw [if_pos h]
   ·rw [if_neg h,List.getElem?_eq_none (by omega)]
  rw [e] at k
  have k:=k w p hP (PuSt.refl _ _) ⟨rfl,rfl⟩
  refine Xa0 ?_
  exact k
 have hil:i.toNat < P.items.length:=by omega
 have hx:=gE hil
 have eN:a6f A P i kind = match b2t kind P.items[i.toNat] with
   | none=>(7,A,P)
   | some y=>if (a0g A 0 P.j (a0t [kind,i])).1 ≠ 0 then ((a0g A 0 P.j (a0t [kind,i])).1,(a0g A 0 P.j (a0t [kind,i])).2.1,⟨(a0g A 0 P.j (a0t [kind,i])).2.2,P.items⟩)
    else (0,(a0g A 0 P.j (a0t [kind,i])).2.1,⟨(a0g A 0 P.j (a0t [kind,i])).2.2,P.items.set i.toNat y⟩):=by
  unfold a6f
  rw [if_neg (by omega),hx]
  dsimp only
  cases b2t kind P.items[i.toNat] <;> rfl
 obtain ⟨g',c',av,yv,kv,hgv',hgl,hH,hI,hJ,hc⟩:=hP.st.at hx
 rw [hgv] at hgv'
 cases hgv'
 obtain ⟨a1,n1,d1,a2,n2,d2,a3,n3,d3,rfl,rfl,rfl⟩:=a0y hH
 generalize P.items[i.toNat] = x at *
 refine Xa0 ?_
 refine a1t (cs:=b3m x (.slice a1 n1 d1) (.slice a2 n2 d2) (.slice a3 n3 d3)) hc b4r (by kernel_rfl) (by kernel_rfl) ?_
 refine a0i d1c (fun g5 w5 h5 hg5 hH5=>?_)
 refine a0h (xs:=b3m x (.slice a1 n1 d1) (.slice a2 n2 d2) (.slice a3 n3 d3)) c5p rfl rfl (b2g _ _ _ _ _ _ _ _ _ _ _ _ _ _ _ _ _ _ _ _ _ _ _ _) hH5 rfl (fun w6 hg6 hH6=>?_)
 have h6:Bw w w6:=a0k h5 hg6 hg5
 refine Xa0 ?_
 refine f2l hH6 kind 0 (fun hm=>?_) (fun y hm w7 hH7 hg7=>?_)
 ·rw [hm] at eN
  rw [eN] at k
  have k:=k w6 p (hP.next h6) (PuSt.below h6) ⟨rfl,rfl⟩
  refine Xa0 ?_
  exact k
 rw [hm] at eN
 simp only at eN
 have h7:Bw w w7:=h6.grown hg7 h6.size (fun j e=>by cases e; exact hg5)
 obtain ⟨hyh,hyI⟩:=e3k hm ⟨hI,hJ⟩
 refine Xa0 ?_
 have hPd:=(hP.next h7).next (.drawn (B:=w7.heap.size))
 have hHd:=hH7.next (.drawn (B:=w7.heap.size))
 have hw0:=h7.on (.drawn (B:=w7.heap.size))
 refine ⟨Nx { w7 with drawn:=w7.drawn + 1 },bR,rfl,?_⟩
 generalize ({ w7 with drawn:=w7.drawn + 1 }:World) = W1 at hPd hHd hw0 ⊢
 have C:=hPd.st.pur
 have f7:∀ W0,Nx W1 W0 → W0.cell? ⟨p.pb,7,none⟩ = some (jnP p.q):=fun W0 h=>(h.cell C.lt).trans (C.cell 7 (by simp))
 refine Xc (fun W0 hW0=>f7 _ hW0) ?_
 refine ⟨Nx,?_⟩
 refine a7x (fun v w'=>Ints w' v [kind,i]) (fun v w w1 hS h=>h.next hS) ?_ ?_
 ·intro w2 h2
  exact g8o _ _ (a1h hkr) (a1h hi) (fun ad c w3 h3 hi=>⟨h2.on h3,h3,hi.here⟩)
 apply a7l
 ·intro w2 h2 v hv
  exact Cd.pNums_ok _ v (hPd.next h2).sys.l.toLaid (a6r hv) hall (by unfold a0t a0n at hrl; omega) (fun w3 h3=>⟨h2.on h3,h3,rfl⟩)
 rintro w8 h8 v1 - _ rfl
 have hP8:=hPd.next h8
 have hH8:=hHd.next h8
 refine b5w hP8.sys hP8.jn ⟨by omega,by omega⟩ (a0t [kind,i]) (by omega) (fun w9 h9 v9 s9 j9 t9=>?_)
 obtain ⟨hP9,ta⟩:=hP8.jour s9 j9 t9
 generalize a0g A 0 P.j (a0t [kind,i]) = a at *
 by_cases he:a.1 = 0
 ·rw [if_neg (by rw [he]; simp)] at eN
  rw [eN] at k
  have hg5n:¬ Mu p g5:=fun e=>by have:=hP.mu_lt g5 e; omega
  have hH9:Holds w9 g5 67 (b3m y (.slice a1 n1 d1) (.slice a2 n2 d2) (.slice a3 n3 d3)):=(ta.fr.block g5 hH8.lt hg5n).trans hH8
  refine Xa @he ?_
  refine a1s hH9 b4r (by kernel_rfl) (by kernel_rfl) ?_
  refine Xa0 ?_
  have hgo:p.iv.ownBlock = some g:=by rw [hgv]; rfl
  have hsi:=hP8.st.si g hgo
  have hcell:∀ (j:Nat) (u:Value),(b3m x (.slice a1 n1 d1) (.slice a2 n2 d2) (.slice a3 n3 d3))[j]? = some u → w9.cell? ⟨g,i.toNat * 18 + j,none⟩ = some u:=fun j u hj=>by
   have e8:=((hw0.on h8).cell hgl).trans (hc j u hj)
   rw [World.cell?_of_block (t9.fr.block g (by have:=(hw0.on h8).size; omega) (fun e=>by rcases e with e | e; exact hsi.1 e; exact hsi.2.2.1 e))]
   exact e8
  refine hP9.st.put18 (y:=y) hx hgv hcell hyh hyI (fun w10 st10 t10=>?_)
  have hP10:=hP9.it st10 t10
  have k:=k w10 _ hP10 (((PuSt.below (hw0.on h8)).trans ta).trans t10.st) ⟨rfl,rfl⟩
  refine Xa0 ?_
  exact k
 ·rw [if_pos he] at eN
  rw [eN] at k
  have k:=k w9 _ hP9 ((PuSt.below (hw0.on h8)).trans ta) ⟨rfl,rfl⟩
  refine Xa @he ?_
  exact k
end
end Go.Proofs
namespace PuSpec
open FdSpec TkSpec CodeSpec DkSpec JnSpec
variable {s:Stp} {lims:List Lim} {A:Ab} {p:Pst} {all sure:List a0f} {n:Nat}
end PuSpec
namespace Go.Proofs
open Go Go.Sh Go.RowKit FdSpec TkSpec CodeSpec PuSpec DkSpec JnSpec
end Go.Proofs
namespace Go.Proofs
open Go.Sh Tryz
variable {a0 a1:Value} {K:VK} {w:World}
def f5d (a0:Value) (K:VK) (w:World):Prop:=
 oM prog (.convert 9 202 (.tmp 0)) 202 [a0] (fun v10=>
 oM prog (.buildSlice 202 1 #[(0,(.tmp 0))]) 202 [(.int .u8 128)] fun v11=>
 oM prog (.call (Go.Call.mk (.builtin .append) #[(.tmp 0),(.tmp 1)] #[202,202])) 202 [v10,v11] fun v12=>
 kQ [v12] fun J_4 m_5 l_6 u_l_6 w0_l_6=>(fun w=>(
 kN 202 (l_6.getD 0 undef) (fun v14=>
 kB .rem 3 3 v14 (.int .i64 64) fun v15=>
 kC .neq 3 56 4 v15 fun v16=>
 kO v16 (oM prog (.buildSlice 202 1 #[(0,(.tmp 0))]) 202 [(.int .u8 0)] fun v18=>
 oM prog (.call (Go.Call.mk (.builtin .append) #[(.tmp 0),(.tmp 1)] #[202,202])) 202 [(l_6.getD 0 undef),v18] fun v19=>
 kJ J_4 m_5 l_6 w0_l_6 [v19])
 (kQ [(l_6.getD 0 undef),(.int .i64 56)] fun J_12 m_13 l_14 u_l_14 w0_l_14=>(fun w=>(
 kB .geq 3 4 (l_14.getD 1 undef) (.int .i64 0) (fun v21=>
 kO v21 (kN 9 a0 fun v26=>
 oM prog (.convert 3 249 (.tmp 0)) 249 [v26] fun v27=>
 kB .mul 249 249 (.int .u64 8) v27 fun v28=>
 oM prog (.binOp .shr 249 (.tmp 0) (.tmp 1) 3) 249 [v28,(l_14.getD 1 undef)] fun v30=>
 oM prog (.convert 249 5 (.tmp 0)) 5 [v30] fun v31=>
 oM prog (.buildSlice 202 1 #[(0,(.tmp 0))]) 202 [v31] fun v32=>
 oM prog (.call (Go.Call.mk (.builtin .append) #[(.tmp 0),(.tmp 1)] #[202,202])) 202 [(l_14.getD 0 undef),v32] fun v33=>
 kB .sub 3 3 (l_14.getD 1 undef) (.int .i64 8) fun v23=>
 kJ J_12 m_13 l_14 w0_l_14 [v33,v23])
 (a0a prog 181 #[] fun v34=>
 kA 257 fun v5=>
 kS 257 v5 v34 fun _=>
 kQ [(l_14.getD 0 undef)] fun J_26 m_27 l_28 u_l_28 w0_l_28=>(fun w=>(
 kN 202 (l_28.getD 0 undef) (fun v36=>
 kB .gtr 3 4 v36 (.int .i64 0) fun v37 w=>
 a1o v37
 (a3p w fun C_31 w=>(jL 257 v5 (a0m C_31 0) fun v40=>
 a0d (l_28.getD 0 undef) (a0m C_31 0) fun v41=>
 oH prog (.slice 202 (.tmp 0) none (some (.tmp 1)) none) 202 [v41,(.int .i64 64)] (a0m C_31 0) fun v42=>
 a0a prog 182 #[v40,v42] (fun v43 w=>C_31 1 w ∧ (
 kS 257 v5 v43 (fun _ w=>C_31 2 w ∧ (
 oM prog (.slice 202 (.tmp 0) (some (.tmp 1)) none none) 202 [(l_28.getD 0 undef),(.int .i64 64)] (fun v39=>
 kJ J_26 m_27 l_28 w0_l_28 [v39]) w)) w)) w))
 (kL 257 v5 (fun v44=>
 kQ [undef,(.slice none 0 0),(.int .i64 0)] fun J_38 m_39 l_40 u_l_40 w0_l_40=>(fun w=>(
 kB .lss 3 0 (l_40.getD 2 undef) (.int .i64 8) (fun v46=>
 kO v46 (oM prog (.index 257 (.tmp 0) (.tmp 1)) 255 [v44,(l_40.getD 2 undef)] fun v47=>
 oM prog (.binOp .shr 255 (.tmp 0) (.tmp 1) 231) 255 [v47,(.int .u64 24)] fun v50=>
 oM prog (.convert 255 5 (.tmp 0)) 5 [v50] fun v51=>
 oM prog (.binOp .shr 255 (.tmp 0) (.tmp 1) 231) 255 [v47,(.int .u64 16)] fun v53=>
 oM prog (.convert 255 5 (.tmp 0)) 5 [v53] fun v54=>
 oM prog (.binOp .shr 255 (.tmp 0) (.tmp 1) 231) 255 [v47,(.int .u64 8)] fun v56=>
 oM prog (.convert 255 5 (.tmp 0)) 5 [v56] fun v57=>
 oM prog (.convert 255 5 (.tmp 0)) 5 [v47] fun v59=>
 oM prog (.buildSlice 202 4 #[(0,(.tmp 0)),(1,(.tmp 1)),(2,(.tmp 2)),(3,(.tmp 3))]) 202 [v51,v54,v57,v59] fun v60=>
 oM prog (.call (Go.Call.mk (.builtin .append) #[(.tmp 0),(.tmp 1)] #[202,202])) 202 [(l_40.getD 1 undef),v60] fun v61=>
 kB .add 3 3 (l_40.getD 2 undef) (.int .i64 1) fun v62=>
 kJ J_38 m_39 l_40 w0_l_40 [v47,v61,v62])
 (oM prog (.convert 202 9 (.tmp 0)) 9 [(l_40.getD 1 undef)] fun v64=>
 K v64)) w)) w0_l_40) w)) w)) w0_l_28)) w)) w0_l_14)) w)) w0_l_6) w
theorem d6z (h:f5d a0 K w):a0a prog 143 #[a0] K w:=
 cZ (fun _=>3) func143 h
def f5e (K:VK) (w:World):Prop:=
 kA 257 (fun v0=>
 oM prog (.build 257 #[(0,(.tmp 0)),(1,(.tmp 1)),(2,(.tmp 2)),(3,(.tmp 3)),(4,(.tmp 4)),(5,(.tmp 5)),(6,(.tmp 6)),(7,(.tmp 7))]) 257 [(.int .u32 1779033703),(.int .u32 3144134277),(.int .u32 1013904242),(.int .u32 2773480762),(.int .u32 1359893119),(.int .u32 2600822924),(.int .u32 528734635),(.int .u32 1541459225)] fun v1=>
 kS 257 v0 v1 fun _=>
 kR 257 v0 K) w
theorem d7a (h:f5e K w):a0a prog 181 #[] K w:=
 cZ (fun _=>0) func181 h
def f5f (a0 a1:Value) (K:VK) (w:World):Prop:=
 oM prog (.box 257 (.tmp 0)) 0 [a0] (fun v2=>
 kA 257 fun v4=>
 a0a prog 209 #[a1] fun v15=>
 a0a prog 210 #[] fun v16=>
 kA 279 fun v5=>
 kA 279 fun v6=>
 kS 279 v5 v15 fun _=>
 kS 279 v6 v16 fun _=>
 kL 257 v2 fun v17=>
 kA 257 fun v7=>
 kS 257 v7 v17 fun _=>
 kQ [undef,undef,undef,undef,undef,(.int .i64 0)] fun J_9 m_10 l_11 u_l_11 w0_l_11=>(fun w=>(
 kB .lss 3 0 (l_11.getD 5 undef) (.int .i64 64) (fun v19 w=>
 a1o v19
 (a9y w fun C_13=>(oQ prog (.indexAddr 257 (.tmp 0) (.tmp 1)) 0 [v7,(.int .i64 4)] C_13 fun v21=>
 oQ prog (.load 255 (.tmp 0)) 255 [v21] C_13 fun v22=>
 a8g prog 211 #[v22,(.int .i64 (-6))] C_13 fun v23=>
 oQ prog (.indexAddr 257 (.tmp 0) (.tmp 1)) 0 [v7,(.int .i64 4)] C_13 fun v24=>
 oQ prog (.load 255 (.tmp 0)) 255 [v24] C_13 fun v25=>
 a8g prog 211 #[v25,(.int .i64 (-11))] C_13 fun v26=>
 oQ prog (.binOp .xor 255 (.tmp 0) (.tmp 1) 255) 255 [v23,v26] C_13 fun v27=>
 oQ prog (.indexAddr 257 (.tmp 0) (.tmp 1)) 0 [v7,(.int .i64 4)] C_13 fun v28=>
 oQ prog (.load 255 (.tmp 0)) 255 [v28] C_13 fun v29=>
 a8g prog 211 #[v29,(.int .i64 (-25))] C_13 fun v30=>
 oQ prog (.binOp .xor 255 (.tmp 0) (.tmp 1) 255) 255 [v27,v30] C_13 fun v31=>
 ∀ w,C_13 w → (a9y w fun C_25=>(oQ prog (.indexAddr 257 (.tmp 0) (.tmp 1)) 0 [v7,(.int .i64 7)] C_25 fun v32=>
 oQ prog (.load 255 (.tmp 0)) 255 [v32] C_25 fun v33=>
 oQ prog (.binOp .add 255 (.tmp 0) (.tmp 1) 255) 255 [v33,v31] C_25 fun v35=>
 oQ prog (.indexAddr 257 (.tmp 0) (.tmp 1)) 0 [v7,(.int .i64 6)] C_25 fun v36=>
 oQ prog (.load 255 (.tmp 0)) 255 [v36] C_25 fun v37=>
 oQ prog (.indexAddr 257 (.tmp 0) (.tmp 1)) 0 [v7,(.int .i64 4)] C_25 fun v38=>
 oQ prog (.load 255 (.tmp 0)) 255 [v38] C_25 fun v39=>
 oQ prog (.indexAddr 257 (.tmp 0) (.tmp 1)) 0 [v7,(.int .i64 5)] C_25 fun v40=>
 oQ prog (.load 255 (.tmp 0)) 255 [v40] C_25 fun v41=>
 oQ prog (.indexAddr 257 (.tmp 0) (.tmp 1)) 0 [v7,(.int .i64 6)] C_25 fun v42=>
 oQ prog (.load 255 (.tmp 0)) 255 [v42] C_25 fun v43=>
 oQ prog (.binOp .xor 255 (.tmp 0) (.tmp 1) 255) 255 [v41,v43] C_25 fun v44=>
 oQ prog (.binOp .and 255 (.tmp 0) (.tmp 1) 255) 255 [v39,v44] C_25 fun v45=>
 oQ prog (.binOp .xor 255 (.tmp 0) (.tmp 1) 255) 255 [v37,v45] C_25 fun v46=>
 oQ prog (.binOp .add 255 (.tmp 0) (.tmp 1) 255) 255 [v35,v46] C_25 fun v47=>
 oQ prog (.indexAddr 279 (.tmp 0) (.tmp 1)) 0 [v6,(l_11.getD 5 undef)] C_25 fun v49=>
 oQ prog (.load 255 (.tmp 0)) 255 [v49] C_25 fun v50=>
 oQ prog (.binOp .add 255 (.tmp 0) (.tmp 1) 255) 255 [v47,v50] C_25 fun v51=>
 oQ prog (.indexAddr 279 (.tmp 0) (.tmp 1)) 0 [v5,(l_11.getD 5 undef)] C_25 fun v53=>
 oQ prog (.load 255 (.tmp 0)) 255 [v53] C_25 fun v54=>
 oQ prog (.binOp .add 255 (.tmp 0) (.tmp 1) 255) 255 [v51,v54] C_25 fun v55=>
 ∀ w,C_25 w → (a9y w fun C_47=>(oQ prog (.indexAddr 257 (.tmp 0) (.tmp 1)) 0 [v7,(.int .i64 0)] C_47 fun v56=>
 oQ prog (.load 255 (.tmp 0)) 255 [v56] C_47 fun v57=>
 a8g prog 211 #[v57,(.int .i64 (-2))] C_47 fun v58=>
 oQ prog (.indexAddr 257 (.tmp 0) (.tmp 1)) 0 [v7,(.int .i64 0)] C_47 fun v59=>
 oQ prog (.load 255 (.tmp 0)) 255 [v59] C_47 fun v60=>
 a8g prog 211 #[v60,(.int .i64 (-13))] C_47 fun v61=>
 oQ prog (.binOp .xor 255 (.tmp 0) (.tmp 1) 255) 255 [v58,v61] C_47 fun v62=>
 oQ prog (.indexAddr 257 (.tmp 0) (.tmp 1)) 0 [v7,(.int .i64 0)] C_47 fun v63=>
 oQ prog (.load 255 (.tmp 0)) 255 [v63] C_47 fun v64=>
 a8g prog 211 #[v64,(.int .i64 (-22))] C_47 fun v65=>
 oQ prog (.binOp .xor 255 (.tmp 0) (.tmp 1) 255) 255 [v62,v65] C_47 fun v66=>
 ∀ w,C_47 w → (kI 257 v7 (.int .i64 0) (fun v67=>
 kL 255 v67 fun v68=>
 kI 257 v7 (.int .i64 1) fun v69=>
 kL 255 v69 fun v70=>
 kB .and 255 255 v68 v70 fun v71=>
 kI 257 v7 (.int .i64 2) fun v72=>
 kL 255 v72 fun v73=>
 kI 257 v7 (.int .i64 0) fun v74=>
 kL 255 v74 fun v75=>
 kI 257 v7 (.int .i64 1) fun v76=>
 kL 255 v76 fun v77=>
 kB .or 255 255 v75 v77 fun v78=>
 kB .and 255 255 v73 v78 fun v79=>
 kB .or 255 255 v71 v79 fun v80=>
 kB .add 255 255 v55 v66 fun v83=>
 kB .add 255 255 v83 v80 fun v85=>
 kI 257 v7 (.int .i64 0) fun v86=>
 kL 255 v86 fun v87=>
 kI 257 v7 (.int .i64 1) fun v88=>
 kL 255 v88 fun v89=>
 kI 257 v7 (.int .i64 2) fun v90=>
 kL 255 v90 fun v91=>
 kI 257 v7 (.int .i64 3) fun v92=>
 kL 255 v92 fun v93=>
 kB .add 255 255 v93 v55 fun v95=>
 kI 257 v7 (.int .i64 4) fun v96=>
 kL 255 v96 fun v97=>
 kI 257 v7 (.int .i64 5) fun v98=>
 kL 255 v98 fun v99=>
 kI 257 v7 (.int .i64 6) fun v100=>
 kL 255 v100 fun v101=>
 oM prog (.build 257 #[(0,(.tmp 0)),(1,(.tmp 1)),(2,(.tmp 2)),(3,(.tmp 3)),(4,(.tmp 4)),(5,(.tmp 5)),(6,(.tmp 6)),(7,(.tmp 7))]) 257 [v85,v87,v89,v91,v95,v97,v99,v101] fun v102=>
 kS 257 v7 v102 fun _=>
 kB .add 3 3 (l_11.getD 5 undef) (.int .i64 1) fun v103=>
 kJ J_9 m_10 l_11 w0_l_11 [(l_11.getD 5 undef),v31,v55,v66,v80,v103]) w)))))))
 (kQ [undef,(.int .i64 0)] (fun J_92 m_93 l_94 u_l_94 w0_l_94=>(fun w=>(
 kB .lss 3 0 (l_94.getD 1 undef) (.int .i64 8) (fun v105 w=>
 a1o v105
 (a3p w fun C_96 w=>(a0d (l_94.getD 1 undef) (a0m C_96 0) fun v107=>
 jI 257 v7 v107 (a0m C_96 0) fun v108=>
 jL 255 v108 (a0m C_96 0) fun v109=>
 a0d (l_94.getD 1 undef) (a0m C_96 0) fun v110=>
 jI 257 v2 v110 (a0m C_96 0) fun v111=>
 jL 255 v111 (a0m C_96 0) fun v112=>
 jB .add 255 255 v109 v112 (a0m C_96 0) fun v113=>
 jI 257 v7 v107 (a0m C_96 0) fun v114=>
 kS 255 v114 v113 (fun _ w=>C_96 1 w ∧ (
 kB .add 3 3 (l_94.getD 1 undef) (.int .i64 1) (fun v115=>
 kJ J_92 m_93 l_94 w0_l_94 [(l_94.getD 1 undef),v115]) w)) w))
 (kL 257 v7 (fun v116=>
 kS 257 v4 v116 fun _=>
 kR 257 v4 K) w)) w)) w0_l_94) w)) w)) w0_l_11) w
theorem d7b (h:f5f a0 a1 K w):a0a prog 182 #[a0,a1] K w:=
 cZ (mz [(15,3)]) func182 h
def f5g (a0:Value) (K:VK) (w:World):Prop:=
 kA 279 (fun v2=>
 kQ [undef,undef,undef,undef,undef,(.int .i64 0)] fun J_2 m_3 l_4 u_l_4 w0_l_4=>(fun w=>(
 kB .lss 3 0 (l_4.getD 5 undef) (.int .i64 64) (fun v9 w=>
 a1o v9
 (a4a (fun M_6=>(kB .lss 3 4 (l_4.getD 5 undef) (.int .i64 16) (fun v12 w=>
 a1o v12
 (kH (fun C_9 w=>(a0d (l_4.getD 5 undef) C_9 fun v13=>
 a0d a0 C_9 fun v14=>
 a0d (l_4.getD 5 undef) C_9 fun v15=>
 jB .mul 3 3 (.int .i64 4) v15 C_9 fun v16=>
 jI 202 v14 v16 C_9 fun v17=>
 jL 5 v17 C_9 fun v18=>
 oH prog (.convert 5 255 (.tmp 0)) 255 [v18] C_9 fun v19=>
 oH prog (.binOp .shl 255 (.tmp 0) (.tmp 1) 231) 255 [v19,(.int .u64 24)] C_9 fun v20=>
 a0d a0 C_9 fun v21=>
 a0d (l_4.getD 5 undef) C_9 fun v22=>
 jB .mul 3 3 (.int .i64 4) v22 C_9 fun v23=>
 jB .add 3 3 v23 (.int .i64 1) C_9 fun v24=>
 jI 202 v21 v24 C_9 fun v25=>
 jL 5 v25 C_9 fun v26=>
 oH prog (.convert 5 255 (.tmp 0)) 255 [v26] C_9 fun v27=>
 oH prog (.binOp .shl 255 (.tmp 0) (.tmp 1) 231) 255 [v27,(.int .u64 16)] C_9 fun v28=>
 jB .or 255 255 v20 v28 C_9 fun v29=>
 a0d a0 C_9 fun v30=>
 a0d (l_4.getD 5 undef) C_9 fun v31=>
 jB .mul 3 3 (.int .i64 4) v31 C_9 fun v32=>
 jB .add 3 3 v32 (.int .i64 2) C_9 fun v33=>
 jI 202 v30 v33 C_9 fun v34=>
 jL 5 v34 C_9 fun v35=>
 oH prog (.convert 5 255 (.tmp 0)) 255 [v35] C_9 fun v36=>
 oH prog (.binOp .shl 255 (.tmp 0) (.tmp 1) 231) 255 [v36,(.int .u64 8)] C_9 fun v37=>
 jB .or 255 255 v29 v37 C_9 fun v38=>
 a0d a0 C_9 fun v39=>
 a0d (l_4.getD 5 undef) C_9 fun v40=>
 jB .mul 3 3 (.int .i64 4) v40 C_9 fun v41=>
 jB .add 3 3 v41 (.int .i64 3) C_9 fun v42=>
 jI 202 v39 v42 C_9 fun v43=>
 jL 5 v43 C_9 fun v44=>
 oH prog (.convert 5 255 (.tmp 0)) 255 [v44] C_9 fun v45=>
 jB .or 255 255 v38 v45 C_9 fun v46=>
 jI 279 v2 v13 C_9 fun v47=>
 kS 255 v47 v46 (fun _ w=>C_9 w ∧ (
 M_6 [(l_4.getD 5 undef),(l_4.getD 1 undef),(l_4.getD 2 undef),(l_4.getD 3 undef),(l_4.getD 4 undef)] w)) w)) w)
 (a9y w fun C_45=>(oQ prog (.binOp .sub 3 (.tmp 0) (.tmp 1) 3) 3 [(l_4.getD 5 undef),(.int .i64 15)] C_45 fun v49=>
 oQ prog (.indexAddr 279 (.tmp 0) (.tmp 1)) 0 [v2,v49] C_45 fun v50=>
 oQ prog (.load 255 (.tmp 0)) 255 [v50] C_45 fun v51=>
 oQ prog (.binOp .sub 3 (.tmp 0) (.tmp 1) 3) 3 [(l_4.getD 5 undef),(.int .i64 2)] C_45 fun v53=>
 oQ prog (.indexAddr 279 (.tmp 0) (.tmp 1)) 0 [v2,v53] C_45 fun v54=>
 oQ prog (.load 255 (.tmp 0)) 255 [v54] C_45 fun v55=>
 ∀ w,C_45 w → (a0a prog 211 #[v51,(.int .i64 (-7))] (fun v57=>
 a0a prog 211 #[v51,(.int .i64 (-18))] fun v59=>
 kB .xor 255 255 v57 v59 fun v60=>
 oM prog (.binOp .shr 255 (.tmp 0) (.tmp 1) 231) 255 [v51,(.int .u64 3)] fun v62=>
 kB .xor 255 255 v60 v62 fun v63=>
 a0a prog 211 #[v55,(.int .i64 (-17))] fun v65=>
 a0a prog 211 #[v55,(.int .i64 (-19))] fun v67=>
 kB .xor 255 255 v65 v67 fun v68=>
 oM prog (.binOp .shr 255 (.tmp 0) (.tmp 1) 231) 255 [v55,(.int .u64 10)] fun v70=>
 kB .xor 255 255 v68 v70 fun v71=>
 kH fun C_62 w=>(a0d (l_4.getD 5 undef) C_62 fun v72=>
 a0d (l_4.getD 5 undef) C_62 fun v73=>
 jB .sub 3 3 v73 (.int .i64 16) C_62 fun v74=>
 jI 279 v2 v74 C_62 fun v75=>
 jL 255 v75 C_62 fun v76=>
 a0d v63 C_62 fun v77=>
 jB .add 255 255 v76 v77 C_62 fun v78=>
 a0d (l_4.getD 5 undef) C_62 fun v79=>
 jB .sub 3 3 v79 (.int .i64 7) C_62 fun v80=>
 jI 279 v2 v80 C_62 fun v81=>
 jL 255 v81 C_62 fun v82=>
 jB .add 255 255 v78 v82 C_62 fun v83=>
 a0d v71 C_62 fun v84=>
 jB .add 255 255 v83 v84 C_62 fun v85=>
 jI 279 v2 v72 C_62 fun v86=>
 kS 255 v86 v85 (fun _ w=>C_62 w ∧ (
 M_6 [(l_4.getD 5 undef),v51,v55,v63,v71] w)) w)) w)))) w))
 fun l_7 u_l_7 w=>(kB .add 3 3 (l_4.getD 5 undef) (.int .i64 1) (fun v87=>
 kJ J_2 m_3 l_4 w0_l_4 [(l_7.getD 0 undef),(l_7.getD 1 undef),(l_7.getD 2 undef),(l_7.getD 3 undef),(l_7.getD 4 undef),v87]) w))
 (kL 279 v2 (fun v88=>
 kS 279 v2 v88 fun _=>
 kR 279 v2 K) w)) w)) w0_l_4) w
theorem d7c (h:f5g a0 K w):a0a prog 209 #[a0] K w:=
 cZ (mz [(5,.tree (.look 0 (.look 1 (.look 2 (.look 3 (.look 4 (.look 5 (.look 6 (.look 7 (.look 8 (.look 9 (.look 10 (.look 11 (.look 12 (.look 13 (.look 14 (.look 15 (.look 16 (.look 17 (.look 18 (.look 19 (.look 20 (.look 21 (.look 22 (.look 23 (.look 24 (.look 25 (.look 26 (.look 27 (.look 28 (.look 29 (.look 30 (.look 31 (.look 32 (.look 33 (.look 34 (.only 35 (.done)))))))))))))))))))))))))))))))))))))),(9,2)]) func209 h
def f5h (K:VK) (w:World):Prop:=
 kA 279 (fun v0=>
 oM prog (.build 279 #[(0,(.tmp 0)),(1,(.tmp 1)),(2,(.tmp 2)),(3,(.tmp 3)),(4,(.tmp 4)),(5,(.tmp 5)),(6,(.tmp 6)),(7,(.tmp 7)),(8,(.tmp 8)),(9,(.tmp 9)),(10,(.tmp 10)),(11,(.tmp 11)),(12,(.tmp 12)),(13,(.tmp 13)),(14,(.tmp 14)),(15,(.tmp 15)),(16,(.tmp 16)),(17,(.tmp 17)),(18,(.tmp 18)),(19,(.tmp 19)),(20,(.tmp 20)),(21,(.tmp 21)),(22,(.tmp 22)),(23,(.tmp 23)),(24,(.tmp 24)),(25,(.tmp 25)),(26,(.tmp 26)),(27,(.tmp 27)),(28,(.tmp 28)),(29,(.tmp 29)),(30,(.tmp 30)),(31,(.tmp 31)),(32,(.tmp 32)),(33,(.tmp 33)),(34,(.tmp 34)),(35,(.tmp 35)),(36,(.tmp 36)),(37,(.tmp 37)),(38,(.tmp 38)),(39,(.tmp 39)),(40,(.tmp 40)),(41,(.tmp 41)),(42,(.tmp 42)),(43,(.tmp 43)),(44,(.tmp 44)),(45,(.tmp 45)),(46,(.tmp 46)),(47,(.tmp 47)),(48,(.tmp 48)),(49,(.tmp 49)),(50,(.tmp 50)),(51,(.tmp 51)),(52,(.tmp 52)),(53,(.tmp 53)),(54,(.tmp 54)),(55,(.tmp 55)),(56,(.tmp 56)),(57,(.tmp 57)),(58,(.tmp 58)),(59,(.tmp 59)),(60,(.tmp 60)),(61,(.tmp 61)),(62,(.tmp 62)),(63,(.tmp 63))]) 279 [(.int .u32 1116352408),(.int .u32 1899447441),(.int .u32 3049323471),(.int .u32 3921009573),(.int .u32 961987163),(.int .u32 1508970993),(.int .u32 2453635748),(.int .u32 2870763221),(.int .u32 3624381080),(.int .u32 310598401),(.int .u32 607225278),(.int .u32 1426881987),(.int .u32 1925078388),(.int .u32 2162078206),(.int .u32 2614888103),(.int .u32 3248222580),(.int .u32 3835390401),(.int .u32 4022224774),(.int .u32 264347078),(.int .u32 604807628),(.int .u32 770255983),(.int .u32 1249150122),(.int .u32 1555081692),(.int .u32 1996064986),(.int .u32 2554220882),(.int .u32 2821834349),(.int .u32 2952996808),(.int .u32 3210313671),(.int .u32 3336571891),(.int .u32 3584528711),(.int .u32 113926993),(.int .u32 338241895),(.int .u32 666307205),(.int .u32 773529912),(.int .u32 1294757372),(.int .u32 1396182291),(.int .u32 1695183700),(.int .u32 1986661051),(.int .u32 2177026350),(.int .u32 2456956037),(.int .u32 2730485921),(.int .u32 2820302411),(.int .u32 3259730800),(.int .u32 3345764771),(.int .u32 3516065817),(.int .u32 3600352804),(.int .u32 4094571909),(.int .u32 275423344),(.int .u32 430227734),(.int .u32 506948616),(.int .u32 659060556),(.int .u32 883997877),(.int .u32 958139571),(.int .u32 1322822218),(.int .u32 1537002063),(.int .u32 1747873779),(.int .u32 1955562222),(.int .u32 2024104815),(.int .u32 2227730452),(.int .u32 2361852424),(.int .u32 2428436474),(.int .u32 2756734187),(.int .u32 3204031479),(.int .u32 3329325298)] fun v1=>
 kS 279 v0 v1 fun _=>
 kR 279 v0 K) w
theorem d7d (h:f5h K w):a0a prog 210 #[] K w:=
 cZ (fun _=>0) func210 h
def f5i (a0 a1:Value) (K:VK) (w:World):Prop:=
 oM prog (.convert 3 231 (.tmp 0)) 231 [a1] (fun v7=>
 kB .and 231 231 v7 (.int .u64 31) fun v8=>
 oM prog (.binOp .shl 255 (.tmp 0) (.tmp 1) 231) 255 [a0,v8] fun v11=>
 kB .sub 231 231 (.int .u64 32) v8 fun v14=>
 oM prog (.binOp .shr 255 (.tmp 0) (.tmp 1) 231) 255 [a0,v14] fun v15=>
 kB .or 255 255 v11 v15 fun v16=>
 K v16) w
theorem d7e (h:f5i a0 a1 K w):a0a prog 211 #[a0,a1] K w:=
 cZ (fun _=>0) func211 h
end Go.Proofs
namespace Go.Sh
open Go Go.RowKit
def w32 (x:BitVec 32):Value:=.int .u32 (x.toNat:Int)
theorem b5l (n:Nat):IntKind.u32.wrap (n:Int) = ((BitVec.ofNat 32 n).toNat:Int):=by
 rw [IntKind.wrap_u32,BitVec.toNat_ofNat]; omega
theorem a8i (x:BitVec 32):BitVec.ofInt 32 (x.toNat:Int) = x:=by
 rw [BitVec.ofInt_natCast,BitVec.ofNat_toNat,BitVec.setWidth_eq]
theorem d2v (x y:BitVec 32):bits .and .u32 (x.toNat:Int) (y.toNat:Int) = ((x &&& y).toNat:Int):=by
 show IntKind.u32.wrap (((BitVec.ofInt 32 (x.toNat:Int) &&& BitVec.ofInt 32 (y.toNat:Int)).toNat:Nat):Int) = _
 rw [a8i,a8i,b5l,BitVec.ofNat_toNat,BitVec.setWidth_eq]
theorem e1n (x y:BitVec 32):bits .or .u32 (x.toNat:Int) (y.toNat:Int) = ((x ||| y).toNat:Int):=by
 show IntKind.u32.wrap (((BitVec.ofInt 32 (x.toNat:Int) ||| BitVec.ofInt 32 (y.toNat:Int)).toNat:Nat):Int) = _
 rw [a8i,a8i,b5l,BitVec.ofNat_toNat,BitVec.setWidth_eq]
theorem d2w (x y:BitVec 32):bits .xor .u32 (x.toNat:Int) (y.toNat:Int) = ((x ^^^ y).toNat:Int):=by
 show IntKind.u32.wrap (((BitVec.ofInt 32 (x.toNat:Int) ^^^ BitVec.ofInt 32 (y.toNat:Int)).toNat:Nat):Int) = _
 rw [a8i,a8i,b5l,BitVec.ofNat_toNat,BitVec.setWidth_eq]
section
variable {P:Program} {K:VK} {w:World}
theorem g8i (t t' T:TypeId) (x y:BitVec 32):oM P (.binOp .add t (.tmp 0) (.tmp 1) t') T [w32 x,w32 y] = a0c (w32 (x + y)):=by
 have e:IntKind.u32.wrap ((x.toNat:Int) + (y.toNat:Int)) = ((x + y).toNat:Int):=by
  rw [← Int.natCast_add,b5l]
  congr 1
 unfold w32
 rw [f9s,e]
theorem h3f (t t' T:TypeId) (x y:BitVec 32):oM P (.binOp .and t (.tmp 0) (.tmp 1) t') T [w32 x,w32 y] = a0c (w32 (x &&& y)):=by
 funext K w
 unfold w32
 rw [← d2v]
 simp [oM,opM,xop,execOp,a0u,evE,binOp,go_sem]
theorem wor (t t' T:TypeId) (x y:BitVec 32):oM P (.binOp .or t (.tmp 0) (.tmp 1) t') T [w32 x,w32 y] = a0c (w32 (x ||| y)):=by
 funext K w
 unfold w32
 rw [← e1n]
 simp [oM,opM,xop,execOp,a0u,evE,binOp,go_sem]
theorem g8j (t t' T:TypeId) (x y:BitVec 32):oM P (.binOp .xor t (.tmp 0) (.tmp 1) t') T [w32 x,w32 y] = a0c (w32 (x ^^^ y)):=by
 funext K w
 unfold w32
 rw [← d2w]
 simp [oM,opM,xop,execOp,a0u,evE,binOp,go_sem]
theorem g1i (t t' T:TypeId) (yk:IntKind) (x:BitVec 32) (n:Nat) (h:n ≤ 32):oM P (.binOp .shr t (.tmp 0) (.tmp 1) t') T [w32 x,.int yk (n:Int)] = a0c (w32 (x >>> n)):=by
 unfold w32
 rw [f0b t t' T yk _ _ (by omega) (by omega)]
 congr 2
 rw [BitVec.toNat_ushiftRight,Nat.shiftRight_eq_div_pow,Int.toNat_natCast,Int.natCast_ediv,Int.natCast_pow]
 rfl
theorem g8k (t t' T:TypeId) (yk:IntKind) (x:BitVec 32) (n:Nat) (h:n ≤ 32):oM P (.binOp .shl t (.tmp 0) (.tmp 1) t') T [w32 x,.int yk (n:Int)] = a0c (w32 (x <<< n)):=by
 unfold w32
 rw [f0c t t' T yk _ _ (by omega) (by omega)]
 congr 2
 rw [BitVec.toNat_shiftLeft,Nat.shiftLeft_eq,Int.toNat_natCast,Int.natCast_emod,Int.natCast_mul,Int.natCast_pow]
 rfl
end
end Go.Sh
namespace Go.Proofs
open Go Go.Sh Go.RowKit ShaSpec
section
variable {K:VK} {w:World}
theorem a7u (x:W) (r:Nat) (h0:0 < r) (h1:r < 32) (h:K (w32 (b1c x r)) w):a0a Tryz.prog 211 #[w32 x,.int .i64 (-(r:Int))] K w:=by
 apply d7e
 unfold f5i
 have e1:IntKind.u64.wrap (-(r:Int)) = 18446744073709551616 - (r:Int):=by rw [IntKind.wrap_u64]; omega
 have e2:bits .and .u64 (18446744073709551616 - (r:Int)) 31 = ((32 - r:Nat):Int):=by
  rw [c4c 5 _ 31 (by omega) (by decide) (by omega)]; omega
 have e3:IntKind.u64.wrap (32 - ((32 - r:Nat):Int)) = (r:Int):=by rw [IntKind.wrap_u64]; omega
 have s1:=fun t t' T=>g8k (P:=Tryz.prog) t t' T .u64 x (32 - r) (by omega)
 have s2:=fun t t' T=>g1i (P:=Tryz.prog) t t' T .u64 x r (by omega)
 rw [← e1o] at h
 obtain ⟨m,hm⟩:∃ m,m = 32 - r:=⟨_,rfl⟩
 rw [← hm] at e2 e3 s1 h
 refine Xa (An6 @e1 @e2 @e3 @s1 @s2 @wor) ?_
 exact h
@[reducible] def ws (l:List W):List Value:=l.map w32
theorem b1l (l:List W):∀ u ∈ ws l,u.oneCell' = true:=by
 intro u hu
 obtain ⟨x,_,rfl⟩:=List.mem_map.1 hu
 rfl
@[reducible] def stV (s:St):Value:=.agg (ws s.list).toArray
theorem b0w (w:World):(sizeOf 257).run Tryz.prog w = .ok 8 w:=by kernel_rfl
theorem e9m (w:World):(sizeOf 279).run Tryz.prog w = .ok 64 w:=by kernel_rfl
theorem d9r (w:World):(sizeOf 255).run Tryz.prog w = .ok 1 w:=by kernel_rfl
theorem b5h (w:World):(Instr.alloc 257 true (.tuple #[])).run Tryz.prog w = .ok (.pointer (some ⟨w.heap.size,0,none⟩)) (w.alloc (.cells (ws (List.replicate 8 0)).toArray 257)):=by kernel_rfl
theorem e9n (w:World):(Instr.alloc 279 true (.tuple #[])).run Tryz.prog w = .ok (.pointer (some ⟨w.heap.size,0,none⟩)) (w.alloc (.cells (ws (List.replicate 64 0)).toArray 279)):=by kernel_rfl
theorem a8t:Tryz.prog.underlying 257 = some (.array (Tryz.prog.arrayLen 257) (Tryz.prog.elem 257)):=by kernel_rfl
theorem e9o:Tryz.prog.underlying 279 = some (.array (Tryz.prog.arrayLen 279) (Tryz.prog.elem 279)):=by kernel_rfl
@[go_sem] theorem g5f (T:TypeId) (b o:Nat) (x:Int):oM Tryz.prog (.indexAddr 257 (.tmp 0) (.tmp 1)) T [.pointer (some ⟨b,o,none⟩),.int .i64 x] = onM (0 ≤ x ∧ x < (8:Nat)) (.pointer (some ⟨b,o + x.toNat,none⟩)):=
 b9s _ a8t (by kernel_rfl) (by decide) (fun w=>by kernel_rfl) T b o x
@[go_sem] theorem h2p (T:TypeId) (b o:Nat) (x:Int):oM Tryz.prog (.indexAddr 279 (.tmp 0) (.tmp 1)) T [.pointer (some ⟨b,o,none⟩),.int .i64 x] = onM (0 ≤ x ∧ x < (64:Nat)) (.pointer (some ⟨b,o + x.toNat,none⟩)):=
 b9s _ e9o (by kernel_rfl) (by decide) (fun w=>by kernel_rfl) T b o x
theorem c7c:oM Tryz.prog (Go.Op.build 257 #[(0,(.tmp 0)),(1,(.tmp 1)),(2,(.tmp 2)),(3,(.tmp 3)),(4,(.tmp 4)),(5,(.tmp 5)),(6,(.tmp 6)),(7,(.tmp 7))]) 257 [(.int .u32 1779033703),(.int .u32 3144134277),(.int .u32 1013904242),(.int .u32 2773480762),(.int .u32 1359893119),(.int .u32 2600822924),(.int .u32 528734635),(.int .u32 1541459225)] = a0c (stV first):=by
 funext K w
 kernel_rfl
theorem e9p (k:∀ w',Bw w w' → K (stV first) w'):a0a Tryz.prog 181 #[] K w:=by
 apply d7a
 unfold f5e
 refine a0i b5h fun g W hb hg hh=>?_
 rw [c7c]
 refine a1b ?_
 refine a0h b0w (xs:=ws first.list) rfl rfl (b1l _) hh rfl (fun W2 hg2 hh=>?_)
 exact a4s hh a8t rfl (by kernel_rfl) (k _ (a0k hb hg2 hg))
theorem c7d:∀ K w,oM Tryz.prog (Go.Op.build 279 ((List.range 64).map fun i=>(i,Operand.tmp i)).toArray) 279 (ws consts) K w = a0c (.agg (ws consts).toArray) K w:=by
 intro K w
 kernel_rfl
theorem e9q (k:∀ w',Bw w w' → K (.agg (ws consts).toArray) w'):a0a Tryz.prog 210 #[] K w:=by
 apply d7d
 unfold f5h
 refine a0i e9n fun g W hb hg hh=>?_
 refine (c7d _ W).symm ▸ ?_
 refine a1b ?_
 refine a0h e9m (xs:=ws consts) rfl rfl (b1l _) hh rfl (fun W2 hg2 hh=>?_)
 exact a4s hh e9o rfl (by kernel_rfl) (k _ (a0k hb hg2 hg))
def ByR (w:World) (b o:Nat) (l:List UInt8):Prop:=b < w.heap.size ∧ ∀ i,i < l.length → w.cell? ⟨b,o + i,none⟩ = some (.int .u8 ((l.getD i 0).toNat:Int))
theorem ByR.next {w w':World} {b o:Nat} {l:List UInt8} (h:ByR w b o l) (hb:Bw w w'):ByR w' b o l:=
 ⟨lL h.1 hb.size,fun i hi=>by rw [hb.cell h.1]; exact h.2 i hi⟩
theorem f8x (T:TypeId) (x:UInt8):oM Tryz.prog (.convert 5 255 (.tmp 0)) T [.int .u8 (x.toNat:Int)] = a0c (w32 (w8 x)):=by
 funext K w
 have e:IntKind.u32.wrap (x.toNat:Int) = ((w8 x).toNat:Int):=by
  have:=x.toNat_lt
  rw [IntKind.wrap_u32]
  unfold w8
  rw [BitVec.toNat_ofNat]
  omega
 have e2:(convert 5 255 (.int .u8 (x.toNat:Int))).run Tryz.prog w = .ok (.int .u32 (IntKind.u32.wrap (x.toNat:Int))) w:=by kernel_rfl
 rw [b9z,e2,e]
 rfl
@[go_sem] theorem g5g (T:TypeId) (b o n c:Nat) (x:Int):oM Tryz.prog (.indexAddr 202 (.tmp 0) (.tmp 1)) T [.slice (some ⟨b,o,none⟩) n c,.int .i64 x] = onM (0 ≤ x ∧ x < n) (.pointer (some ⟨b,o + x.toNat,none⟩)):=by
 funext K w
 rw [a1m,run_indexAt_slice (h:=by kernel_rfl)]
 have hs:(sizeOf (Tryz.prog.elem 202)).run Tryz.prog w = .ok 1 w:=by kernel_rfl
 by_cases hi:0 ≤ x ∧ x < n
 ·rw [if_pos hi,hs]
  simp only [Result.andThen,a2d,Nat.mul_one,c4n]
  exact propext ⟨fun h=>⟨hi,h⟩,fun h=>h.2⟩
 ·rw [if_neg hi]
  obtain ⟨e',w',he⟩:=b8r Value Tryz.prog .i64 x n .index w
  rw [he]
  exact propext ⟨fun h=>h.elim,fun h=>hi h.1⟩
theorem g8w (t t' T:TypeId) (x:W):oM Tryz.prog (.binOp .shl t (.tmp 0) (.tmp 1) t') T [w32 x,.int .u64 24] = a0c (w32 (x <<< 24)):=g8k t t' T .u64 x 24 (by omega)
theorem g8x (t t' T:TypeId) (x:W):oM Tryz.prog (.binOp .shl t (.tmp 0) (.tmp 1) t') T [w32 x,.int .u64 16] = a0c (w32 (x <<< 16)):=g8k t t' T .u64 x 16 (by omega)
theorem h3q (t t' T:TypeId) (x:W):oM Tryz.prog (.binOp .shl t (.tmp 0) (.tmp 1) t') T [w32 x,.int .u64 8] = a0c (w32 (x <<< 8)):=g8k t t' T .u64 x 8 (by omega)
theorem h3r (t t' T:TypeId) (x:W):oM Tryz.prog (.binOp .shr t (.tmp 0) (.tmp 1) t') T [w32 x,.int .u64 3] = a0c (w32 (x >>> 3)):=g1i t t' T .u64 x 3 (by omega)
theorem g8y (t t' T:TypeId) (x:W):oM Tryz.prog (.binOp .shr t (.tmp 0) (.tmp 1) t') T [w32 x,.int .u64 10] = a0c (w32 (x >>> 10)):=g1i t t' T .u64 x 10 (by omega)
theorem g8z (t t' T:TypeId) (x:W):oM Tryz.prog (.binOp .shr t (.tmp 0) (.tmp 1) t') T [w32 x,.int .u64 24] = a0c (w32 (x >>> 24)):=g1i t t' T .u64 x 24 (by omega)
theorem g9a (t t' T:TypeId) (x:W):oM Tryz.prog (.binOp .shr t (.tmp 0) (.tmp 1) t') T [w32 x,.int .u64 16] = a0c (w32 (x >>> 16)):=g1i t t' T .u64 x 16 (by omega)
theorem h3s (t t' T:TypeId) (x:W):oM Tryz.prog (.binOp .shr t (.tmp 0) (.tmp 1) t') T [w32 x,.int .u64 8] = a0c (w32 (x >>> 8)):=g1i t t' T .u64 x 8 (by omega)
theorem h3t (x:W) (h:K (w32 (b1c x 6)) w):a0a Tryz.prog 211 #[w32 x,.int .i64 (-6)] K w:=a7u x 6 (by omega) (by omega) h
theorem g9b (x:W) (h:K (w32 (b1c x 11)) w):a0a Tryz.prog 211 #[w32 x,.int .i64 (-11)] K w:=a7u x 11 (by omega) (by omega) h
theorem g9c (x:W) (h:K (w32 (b1c x 25)) w):a0a Tryz.prog 211 #[w32 x,.int .i64 (-25)] K w:=a7u x 25 (by omega) (by omega) h
theorem h3u (x:W) (h:K (w32 (b1c x 2)) w):a0a Tryz.prog 211 #[w32 x,.int .i64 (-2)] K w:=a7u x 2 (by omega) (by omega) h
theorem g9d (x:W) (h:K (w32 (b1c x 13)) w):a0a Tryz.prog 211 #[w32 x,.int .i64 (-13)] K w:=a7u x 13 (by omega) (by omega) h
theorem g9e (x:W) (h:K (w32 (b1c x 22)) w):a0a Tryz.prog 211 #[w32 x,.int .i64 (-22)] K w:=a7u x 22 (by omega) (by omega) h
theorem h3v (x:W) (h:K (w32 (b1c x 7)) w):a0a Tryz.prog 211 #[w32 x,.int .i64 (-7)] K w:=a7u x 7 (by omega) (by omega) h
theorem g9f (x:W) (h:K (w32 (b1c x 18)) w):a0a Tryz.prog 211 #[w32 x,.int .i64 (-18)] K w:=a7u x 18 (by omega) (by omega) h
theorem g9g (x:W) (h:K (w32 (b1c x 17)) w):a0a Tryz.prog 211 #[w32 x,.int .i64 (-17)] K w:=a7u x 17 (by omega) (by omega) h
theorem g9h (x:W) (h:K (w32 (b1c x 19)) w):a0a Tryz.prog 211 #[w32 x,.int .i64 (-19)] K w:=a7u x 19 (by omega) (by omega) h
def d9s (b:List UInt8) (k:Nat):List W:=a5x b k ++ List.replicate (64 - k) 0
theorem b1x (b:List UInt8) (k:Nat) (hk:k ≤ 64):(d9s b k).length = 64:=by simp [d9s,a3u]; omega
theorem d9t (b:List UInt8) (k:Nat) (hk:k < 64):(d9s b k).set k (c4r b (a5x b k) k) = d9s b (k + 1):=by
 unfold d9s
 rw [List.set_append_right _ _ (by rw [a3u]; omega),a3u,Nat.sub_self]
 obtain ⟨m,hm⟩:∃ m,64 - k = m + 1:=⟨63 - k,by omega⟩
 rw [hm,List.replicate_succ,List.set_cons_zero,show 64 - (k + 1) = m by omega]
 simp [a5x]
structure SchI (b:List UInt8) (g:Nat) (w0:World) (k:Nat) (w':World):Prop where
 below:Bw w0 w'
 holds:Holds w' g 279 (ws (d9s b k))
structure SchC (b:List UInt8) (g:Nat) (w0:World) (k:Nat) (w':World):Prop where
 one:Bw w0 w'
 two:∀ j,j < k → w'.cell? ⟨g,j,none⟩ = some (w32 (at' (a5x b k) j))
theorem SchC.less {b:List UInt8} {g:Nat} {w0 w':World} {k:Nat} (h:SchC b g w0 (k + 1) w'):SchC b g w0 k w':=by
 refine ⟨h.one,fun j hj=>?_⟩
 rw [h.two j (by omega)]
 have e:at' (a5x b (k + 1)) j = at' (a5x b k) j:=by
  show (a5x b k ++ [c4r b (a5x b k) k]).getD j 0 = (a5x b k).getD j 0
  rw [List.getD_eq_getElem?_getD,List.getElem?_append_left (by rw [a3u]; omega),← List.getD_eq_getElem?_getD]
 rw [e]
theorem f8y (b:List UInt8) (k j:Nat) (hj:j < k):(d9s b k).getD j 0 = at' (a5x b k) j:=by
 unfold d9s at'
 rw [List.getD_eq_getElem?_getD,List.getElem?_append_left (by rw [a3u]; omega),← List.getD_eq_getElem?_getD]
theorem SchI.c {b:List UInt8} {g:Nat} {w0 w':World} {k:Nat} (hk:k ≤ 64) (h:SchI b g w0 k w'):SchC b g w0 k w':=by
 refine ⟨h.below,fun j hj=>?_⟩
 have hl:=b1x b k hk
 rw [h.holds.cell j (by simp [hl]; omega),← f8y b k j hj]
 simp [List.getD_eq_getElem?_getD,hl,show j < 64 by omega]
def h3w (b:List UInt8) (g:Nat) (w0:World) (l:List Value) (w':World):Prop:=∃ (v0 v1 v2 v3 v4:Value) (k:Nat),l = [v0,v1,v2,v3,v4,.int .i64 (k:Int)] ∧ k ≤ 64 ∧ SchI b g w0 k w'
def f8z (l:List Value) (_:World):Nat:=match l with | [_,_,_,_,_,.int _ i]=>64 - i.toNat | _=>0
theorem d0a (a b c d e:Value) (q:IntKind) (i:Int) (w:World):f8z [a,b,c,d,e,.int q i] w = 64 - i.toNat:=rfl
theorem SchI.drew {b:List UInt8} {g:Nat} {w0 w':World} {k:Nat} (h:SchI b g w0 k w'):SchI b g w0 k { w' with drawn:=w'.drawn + 1 }:=
 ⟨h.below.on .drawn,h.holds.next .drawn⟩
theorem SchI.set {b:List UInt8} {g:Nat} {w0 w' W:World} {k:Nat} (h:SchI b g w0 k w') (h0:w0.heap.size ≤ g) (hk:k < 64) (hg:w'.grownBy W (some g)) (hh:Holds W g 279 ((ws (d9s b k)).set k (w32 (c4r b (a5x b k) k)))):SchI b g w0 (k + 1) W:=by
 refine ⟨a0k h.below hg h0,?_⟩
 rw [← d9t b k hk]
 unfold ws at hh ⊢
 rw [List.map_set]
 exact hh
theorem c7e (b:List UInt8) {B o c:Nat} (hl:b.length = 64) (hb:ByR w B o b) (k:∀ w',Bw w w' → K (.agg (ws (a5x b 64)).toArray) w'):a0a Tryz.prog 209 #[.slice (some ⟨B,o,none⟩) 64 c] K w:=by
 apply d7c
 unfold f5g
 refine a0i e9n fun g W hbW hgW hh=>?_
 refine ⟨h3w b g w,f8z,⟨_,_,_,_,_,0,rfl,by omega,hbW,hh⟩,?_⟩
 clear hh hbW W
 rintro _ _ w1 ⟨v0,v1,v2,v3,v4,i,rfl,hi,hI⟩
 have hc:=(hI.c hi)
 by_cases hi64:i < 64
 ·refine Xa0 ?_
  refine ⟨fun _ w'=>SchI b g w (i + 1) w',?_,?_⟩
  ·by_cases h16:i < 16
   ·refine Xa0 ?_
    refine ⟨fun w'=>Bw w w',hI.drew.below,?_⟩
    have hI:=hI.drew
    have cb:∀ j,j < 64 → ∀ w',Bw w w' → w'.cell? ⟨B,o + j,none⟩ = some (.int .u8 ((b.getD j 0).toNat:Int)):=fun j hj w' hw=>(hb.next hw).2 j (by omega)
    have t1:(4 * (i:Int)).toNat = 4 * i:=by omega
    have t2:(4 * (i:Int) + 1).toNat = 4 * i + 1:=by omega
    have t3:(4 * (i:Int) + 2).toNat = 4 * i + 2:=by omega
    have t4:(4 * (i:Int) + 3).toNat = 4 * i + 3:=by omega
    have c1:=cb (4 * i) (by omega)
    have c2:=cb (4 * i + 1) (by omega)
    have c3:=cb (4 * i + 2) (by omega)
    have c4:=cb (4 * i + 3) (by omega)
    have w1:IntKind.i64.wrap (4 * (i:Int)) = 4 * i:=a0o _ (by omega) (by omega)
    have w2:IntKind.i64.wrap (4 * (i:Int) + 1) = 4 * i + 1:=a0o _ (by omega) (by omega)
    have w3:IntKind.i64.wrap (4 * (i:Int) + 2) = 4 * i + 2:=a0o _ (by omega) (by omega)
    have w4:IntKind.i64.wrap (4 * (i:Int) + 3) = 4 * i + 3:=a0o _ (by omega) (by omega)
    refine Xf (fun W0 hW0=>An4 (c1 _ hW0) (c2 _ hW0) (c3 _ hW0) (c4 _ hW0)) (h4h @w1 @w2 @w3 @w4 @t1 @t2 @t3 @t4 @f8x @g8w @g8x @h3q @wor) ?_
    have en:c4r b (a5x b i) i = w8 (b[4 * i]?.getD 0) <<< 24 ||| w8 (b[4 * i + 1]?.getD 0) <<< 16 ||| w8 (b[4 * i + 2]?.getD 0) <<< 8 ||| w8 (b[4 * i + 3]?.getD 0):=by
     unfold c4r h3g
     rw [if_pos h16]
     simp only [List.getD_eq_getElem?_getD]
    rw [← en]
    refine a3g d9r rfl rfl hI.holds (by simp [b1x b i hi,hi64]) (fun W hg2 hh=>?_)
    have hI2:=hI.set hgW hi64 hg2 hh
    exact ⟨hI2.below,hI2⟩
   ·refine Xa0 ?_
    have hI:=hI.drew
    refine ⟨fun w'=>w' = { w1 with drawn:=w1.drawn + 1 },rfl,?_⟩
    generalize ({ w1 with drawn:=w1.drawn + 1 }:World) = w2 at hI ⊢
    have hc:=hI.c hi
    have w1:IntKind.i64.wrap ((i:Int) - 15) = (i:Int) - 15:=a0o _ (by omega) (by omega)
    have w2:IntKind.i64.wrap ((i:Int) - 2) = (i:Int) - 2:=a0o _ (by omega) (by omega)
    have w3:IntKind.i64.wrap ((i:Int) - 16) = (i:Int) - 16:=a0o _ (by omega) (by omega)
    have w4:IntKind.i64.wrap ((i:Int) - 7) = (i:Int) - 7:=a0o _ (by omega) (by omega)
    have t1:((i:Int) - 15).toNat = i - 15:=by omega
    have t2:((i:Int) - 2).toNat = i - 2:=by omega
    have t3:((i:Int) - 16).toNat = i - 16:=by omega
    have t4:((i:Int) - 7).toNat = i - 7:=by omega
    have c1:=hc.two (i - 15) (by omega)
    have c2:=hc.two (i - 2) (by omega)
    refine Xg (An4 @t1 @t2 @c1 @c2) ?_
    repeat (any_goals (first
    | (with_reducible refine h3v _ ?_) | (with_reducible refine g9f _ ?_) | (with_reducible refine g9g _ ?_) | (with_reducible refine g9h _ ?_)
    | ((with_reducible refine oG fun X Y=>?_); simp [go_sem,h3r,g8y,g8j]; apply Y; clear Y X)))
    refine ⟨SchC b g w i,hI.drew.c hi,?_⟩
    have hI:=hI.drew
    repeat (any_goals (first
    | (with_reducible refine pX ?_)
    | ((with_reducible refine b0z ?_); (with_reducible refine a1z ⟨_,rfl⟩ (fun W0 hW0=>by (refine oG (fun X Y=>?_)); simp [go_sem,w3,w4,t3,t4,hW0.two (i - 16) (by omega),hW0.two (i - 7) (by omega),g8i]; (first | exact Y _ _ ⟨rfl,rfl⟩ | exact ⟨by omega,Y _ _ ⟨rfl,rfl⟩⟩)) ?_))))
    have en:c4r b (a5x b i) i = at' (a5x b i) (i - 16) + h1g (at' (a5x b i) (i - 15)) + at' (a5x b i) (i - 7) + h1h (at' (a5x b i) (i - 2)):=by
     unfold c4r
     rw [if_neg h16]
    unfold h1g h1h at en
    rw [← en]
    refine a3g d9r rfl rfl hI.holds (by simp [b1x b i hi,hi64]) (fun W hg2 hh=>?_)
    have hI2:=hI.set hgW hi64 hg2 hh
    exact ⟨(hI2.c hi64).less,hI2⟩
  ·rintro l u w2 hI2
   refine Xa0 ?_
   refine ⟨⟨_,_,_,_,_,i + 1,rfl,hi64,hI2⟩,?_⟩
   simp only [d0a]; omega
 ·obtain rfl:i = 64:=by omega
  refine Xa0 ?_
  have hh:=hI.holds
  have e64:d9s b 64 = a5x b 64:=by simp [d9s]
  rw [e64] at hh
  have hl64:=a3u b 64
  generalize a5x b 64 = sl at *
  refine a1s hh e9o rfl (by rw [List.length_map,hl64]; kernel_rfl) ?_
  refine a0h e9m (xs:=ws sl) rfl (by rw [List.length_map,hl64]) (b1l _) hh (by rw [List.length_map,hl64]) (fun W hg2 hh=>?_)
  exact a4s hh e9o rfl (by rw [List.length_map,hl64]; kernel_rfl) (k _ (a0k hI.below hg2 hgW))
theorem g5h (T:TypeId) (a b c d e f g h:W):oM Tryz.prog (Go.Op.build 257 #[(0,(.tmp 0)),(1,(.tmp 1)),(2,(.tmp 2)),(3,(.tmp 3)),(4,(.tmp 4)),(5,(.tmp 5)),(6,(.tmp 6)),(7,(.tmp 7))]) T [w32 a,w32 b,w32 c,w32 d,w32 e,w32 f,w32 g,w32 h] = a0c (stV ⟨a,b,c,d,e,f,g,h⟩):=by
 funext K w
 kernel_rfl
structure MixI (w0:World) (gh gr gs gt gv:Nat) (s:St) (sl:List W) (v:List W) (w':World):Prop where
 below:Bw w0 w'
 h:Holds w' gh 257 (ws s.list)
 r:∃ zs,zs.length = 8 ∧ Holds w' gr 257 zs
 sch:Holds w' gs 279 (ws sl)
 tab:Holds w' gt 279 (ws consts)
 v:Holds w' gv 257 (ws v)
variable {w0 w':World} {gh gr gs gt gv:Nat} {s:St} {sl v:List W}
theorem MixI.next {w2:World} (h:MixI w0 gh gr gs gt gv s sl v w') (hb:Bw w' w2):MixI w0 gh gr gs gt gv s sl v w2:=
 ⟨h.below.on hb,h.h.next hb,h.r.imp fun _ h=>⟨h.1,h.2.next hb⟩,h.sch.next hb,h.tab.next hb,h.v.next hb⟩
theorem MixI.drew (h:MixI w0 gh gr gs gt gv s sl v w'):MixI w0 gh gr gs gt gv s sl v { w' with drawn:=w'.drawn + 1 }:=h.next .drawn
structure Apart (n gh gr gs gt gv:Nat):Prop where
 h:gh ≠ gv
 r:gr ≠ gv
 s:gs ≠ gv
 t:gt ≠ gv
 v:n ≤ gv
 r0:n ≤ gr
theorem MixI.wrote {W2:World} {u:List W} (ha:Apart w0.heap.size gh gr gs gt gv) (h:MixI w0 gh gr gs gt gv s sl v w') (hg:w'.grownBy W2 (some gv)) (hh:Holds W2 gv 257 (ws u)):MixI w0 gh gr gs gt gv s sl u W2:=
 ⟨a0k h.below hg ha.v,h.h.other hg ha.h,h.r.imp fun _ h=>⟨h.1,h.2.other hg ha.r⟩,h.sch.other hg ha.s,h.tab.other hg ha.t,hh⟩
theorem a2a {g:Nat} {T:TypeId} {l:List W} (h:Holds w' g T (ws l)) (i:Nat) (hi:i < l.length):w'.cell? ⟨g,i,none⟩ = some (w32 (at' l i)):=by
 rw [h.cell i (by simpa using hi)]
 simp [at',List.getD_eq_getElem?_getD,hi]
def h3x (w0:World) (gh gr gs gt gv:Nat) (s:St) (b:List UInt8) (sl:List W) (l:List Value) (w':World):Prop:=∃ (v0 v1 v2 v3 v4:Value) (k:Nat),l = [v0,v1,v2,v3,v4,.int .i64 (k:Int)] ∧ k ≤ 64 ∧ MixI w0 gh gr gs gt gv s sl (b3g b s k).list w'
def Zr (St:WK) (j:Nat) (w':World):Prop:=j = 0 → St w'
theorem g9i {St:WK} {w':World} (h:a0m (Zr St) 0 w'):St w':=by
 obtain ⟨s,hs,hc⟩:=h
 exact hc (by omega)
def adL (v s:St) (i:Nat):List W:=(List.range 8).map fun j=>if j < i then at' v.list j + at' s.list j else at' v.list j
theorem d2h (v s:St) (i:Nat):(adL v s i).length = 8:=by simp [adL]
theorem g5i (v s:St) {i:Nat} (hi:i < 8):at' (adL v s i) i = at' v.list i:=by
 unfold adL
 conv=>lhs; unfold at'
 rw [List.getD_eq_getElem?_getD,List.getElem?_map,List.getElem?_range hi]
 simp [at',List.getD_eq_getElem?_getD]
theorem f9a (v s:St) {i:Nat} (hi:i < 8):(adL v s i).set i (at' v.list i + at' s.list i) = adL v s (i + 1):=by
 unfold adL
 apply List.ext_getElem
 ·simp
 ·intro j h1 h2
  rw [List.getElem_set]
  simp only [List.getElem_map,List.getElem_range]
  by_cases hji:i = j
  ·subst hji; simp
  ·rw [if_neg hji]
   by_cases hlt:j < i
   ·rw [if_pos hlt,if_pos (by omega)]
   ·rw [if_neg hlt,if_neg (by omega)]
def AdJ (w0:World) (gh gr gs gt gv:Nat) (s:St) (sl:List W) (v:St) (l:List Value) (w':World):Prop:=∃ (v0:Value) (k:Nat),l = [v0,.int .i64 (k:Int)] ∧ k ≤ 8 ∧ MixI w0 gh gr gs gt gv s sl (adL v s k) w'
def h2q (l:List Value) (_:World):Nat:=match l with | [_,.int _ i]=>8 - i.toNat | _=>0
theorem f9b (a:Value) (q:IntKind) (i:Int) (w:World):h2q [a,.int q i] w = 8 - i.toNat:=rfl
theorem g5j {C:WK} {KQ:Value → Prop} (x:W) (u:Unit) (k:KQ (w32 (b1c x 6))):a8g Tryz.prog 211 #[w32 x,.int .i64 (-6)] C KQ:=a4g (v:=w32 (b1c x 6)) (fun w hw=>h3t x ⟨rfl,hw⟩) k
theorem f6l {C:WK} {KQ:Value → Prop} (x:W) (u:Unit) (k:KQ (w32 (b1c x 11))):a8g Tryz.prog 211 #[w32 x,.int .i64 (-11)] C KQ:=a4g (v:=w32 (b1c x 11)) (fun w hw=>g9b x ⟨rfl,hw⟩) k
theorem f6m {C:WK} {KQ:Value → Prop} (x:W) (u:Unit) (k:KQ (w32 (b1c x 25))):a8g Tryz.prog 211 #[w32 x,.int .i64 (-25)] C KQ:=a4g (v:=w32 (b1c x 25)) (fun w hw=>g9c x ⟨rfl,hw⟩) k
theorem g5k {C:WK} {KQ:Value → Prop} (x:W) (u:Unit) (k:KQ (w32 (b1c x 2))):a8g Tryz.prog 211 #[w32 x,.int .i64 (-2)] C KQ:=a4g (v:=w32 (b1c x 2)) (fun w hw=>h3u x ⟨rfl,hw⟩) k
theorem f6n {C:WK} {KQ:Value → Prop} (x:W) (u:Unit) (k:KQ (w32 (b1c x 13))):a8g Tryz.prog 211 #[w32 x,.int .i64 (-13)] C KQ:=a4g (v:=w32 (b1c x 13)) (fun w hw=>g9d x ⟨rfl,hw⟩) k
theorem f6o {C:WK} {KQ:Value → Prop} (x:W) (u:Unit) (k:KQ (w32 (b1c x 22))):a8g Tryz.prog 211 #[w32 x,.int .i64 (-22)] C KQ:=a4g (v:=w32 (b1c x 22)) (fun w hw=>g9e x ⟨rfl,hw⟩) k
theorem c3y (b:List UInt8) {B o c:Nat} (hl:b.length = 64) (hb:ByR w B o b) (k:∀ sl w',sl = a5x b 64 → Bw w w' → K (.agg (ws sl).toArray) w'):a0a Tryz.prog 209 #[.slice (some ⟨B,o,none⟩) 64 c] K w:=
 c7e b hl hb fun w' h=>k _ w' rfl h
theorem g5l (s:St) (b:List UInt8) {B o c:Nat} (hl:b.length = 64) (hb:ByR w B o b) (k:∀ w',Bw w w' → K (stV (mix s b)) w'):a0a Tryz.prog 182 #[stV s,.slice (some ⟨B,o,none⟩) 64 c] K w:=by
 apply d7b
 unfold f5f
 refine a3f (cs:=ws s.list) rfl fun gh w1 hb1 hg1 h1=>?_
 refine a0i b5h fun gr w2 hb2 hg2 h2=>?_
 refine c3y b hl ((hb.next hb1).next hb2) fun sl w3 hsl hb3=>?_
 refine e9q fun w4 hb4=>?_
 refine a0i e9n fun gs w5 hb5 hg5 h5=>?_
 refine a0i e9n fun gt w6 hb6 hg6 h6=>?_
 have hl64:sl.length = 64:=by rw [hsl]; exact a3u b 64
 refine a0h e9m (xs:=ws (sl)) rfl (by rw [List.length_map,hl64]) (b1l _) (h5.next hb6) rfl (fun w7 hg7 h7=>?_)
 have l5:=h5.lt
 have l2:=h2.lt
 have l1:=h1.lt
 have z2:=hb2.size
 have z3:=hb3.size
 have z4:=hb4.size
 have z5:=hb5.size
 have z6:=hb6.size
 have h6':=h6.other hg7 (show gt ≠ gs by omega)
 have z7:=hg7.size
 have l6:=h6.lt
 refine a0h e9m (xs:=ws consts) rfl rfl (b1l _) h6' rfl (fun w8 hg8 h8=>?_)
 have z8:=hg8.size
 have h7':=h7.other hg8 (show gs ≠ gt by omega)
 have q1:Holds w8 gh 257 (ws s.list):=(((((((h1.next hb2).next hb3).next hb4).next hb5).next hb6).other hg7 (by omega)).other hg8 (by omega))
 have q2:Holds w8 gr 257 (ws (List.replicate 8 0)):=((((((h2.next hb3).next hb4).next hb5).next hb6).other hg7 (by omega)).other hg8 (by omega))
 have qb:Bw w w8:=a0k (a0k (((((hb1.on hb2).on hb3).on hb4).on hb5).on hb6) hg7 (by have:=hb1.size; omega)) hg8 (by have:=hb1.size; omega)
 refine a1s q1 a8t rfl (by kernel_rfl) ?_
 refine a0i b5h fun gv w9 hb9 hg9 h9=>?_
 refine a0h b0w (xs:=ws s.list) rfl rfl (b1l _) h9 rfl (fun w10 hg10 h10=>?_)
 have hA:Apart w.heap.size gh gr gs gt gv:=by
  have:=hb1.size
  constructor <;> omega
 have hI:MixI w gh gr gs gt gv s (sl) s.list w10:=
  ⟨a0k (qb.on hb9) hg10 hA.v,(q1.next hb9).other hg10 hA.h,⟨_,rfl,(q2.next hb9).other hg10 hA.r⟩,(h7'.next hb9).other hg10 hA.s,(h8.next hb9).other hg10 hA.t,h10⟩
 refine ⟨h3x w gh gr gs gt gv s b sl,f8z,⟨_,_,_,_,_,0,rfl,by omega,hI⟩,?_⟩
 clear hI h10 hg10 h9 hb9 qb q2 q1 h7' z8 h8 hg8 l6 z7 h6' z6 z5 z4 z3 z2 l1 l2 l5 h7 hg7 h6 hb6 h5 hb5 hb4 hb3 h2 hb2 h1 hb1
 rintro _ _ w1 ⟨v0,v1,v2,v3,v4,i,rfl,hi,hI⟩
 by_cases hi64:i < 64
 ·have e1:b3g b s (i + 1) = g7f (b3g b s i) (at' consts i) (at' sl i):=by rw [hsl]; rfl
  obtain ⟨v',e2⟩:∃ v',v' = b3g b s (i + 1):=⟨_,rfl⟩
  rw [← e2] at e1
  generalize b3g b s i = v at *
  refine Xa0 ?_
  refine ⟨fun w'=>w' = { w1 with drawn:=w1.drawn + 1 },rfl,?_⟩
  have hI:=hI.drew
  generalize ({ w1 with drawn:=w1.drawn + 1 }:World) = w2 at hI ⊢
  have c4:w2.cell? ⟨gv,4,none⟩ = some (w32 v.e):=a2a hI.v 4 (show (4:Nat) < 8 by decide)
  repeat (any_goals (first
  | (with_reducible refine g5j _ () ?_) | (with_reducible refine f6l _ () ?_) | (with_reducible refine f6m _ () ?_) | (with_reducible refine g5k _ () ?_) | (with_reducible refine f6n _ () ?_) | (with_reducible refine f6o _ () ?_)
  | (with_reducible first|refine And.intro (Eq.refl (α:=World) _) ?_|refine b1a ?_)
  | ((with_reducible refine f9m ?_); ((with_reducible refine d0m ?_ ?_); exact ⟨_,rfl⟩))
  | ((with_reducible refine oG fun X Y=>?_); simp [go_sem,c4,g8j]; apply Y; clear Y X)))
  have hI:=hI.drew
  clear c4
  refine ⟨fun w'=>w' = { w2 with drawn:=w2.drawn + 1 },rfl,?_⟩
  generalize ({ w2 with drawn:=w2.drawn + 1 }:World) = w3 at hI ⊢
  have c4:w3.cell? ⟨gv,4,none⟩ = some (w32 v.e):=a2a hI.v 4 (show (4:Nat) < 8 by decide)
  have c5:w3.cell? ⟨gv,5,none⟩ = some (w32 v.f):=a2a hI.v 5 (show (5:Nat) < 8 by decide)
  have c6:w3.cell? ⟨gv,6,none⟩ = some (w32 v.g):=a2a hI.v 6 (show (6:Nat) < 8 by decide)
  have c7:w3.cell? ⟨gv,7,none⟩ = some (w32 v.h):=a2a hI.v 7 (show (7:Nat) < 8 by decide)
  have ck:=a2a hI.tab i (by rw [c1s]; exact hi64)
  have cs:=a2a hI.sch i (by rw [hl64]; exact hi64)
  refine Xg (An9 @c4 @c5 @c6 @c7 @ck @cs @g8j @g8i @h3f) ?_
  clear c4 c5 c6 c7 ck cs
  have hI:=hI.drew
  refine ⟨fun w'=>w' = { w3 with drawn:=w3.drawn + 1 },rfl,?_⟩
  generalize ({ w3 with drawn:=w3.drawn + 1 }:World) = w4 at hI ⊢
  have c0:w4.cell? ⟨gv,0,none⟩ = some (w32 v.a):=a2a hI.v 0 (show (0:Nat) < 8 by decide)
  have c1:w4.cell? ⟨gv,1,none⟩ = some (w32 v.b):=a2a hI.v 1 (show (1:Nat) < 8 by decide)
  have c2:w4.cell? ⟨gv,2,none⟩ = some (w32 v.c):=a2a hI.v 2 (show (2:Nat) < 8 by decide)
  have c3:w4.cell? ⟨gv,3,none⟩ = some (w32 v.d):=a2a hI.v 3 (show (3:Nat) < 8 by decide)
  have c4:w4.cell? ⟨gv,4,none⟩ = some (w32 v.e):=a2a hI.v 4 (show (4:Nat) < 8 by decide)
  have c5:w4.cell? ⟨gv,5,none⟩ = some (w32 v.f):=a2a hI.v 5 (show (5:Nat) < 8 by decide)
  have c6:w4.cell? ⟨gv,6,none⟩ = some (w32 v.g):=a2a hI.v 6 (show (6:Nat) < 8 by decide)
  repeat (any_goals (first
  | (with_reducible refine g5j _ () ?_) | (with_reducible refine f6l _ () ?_) | (with_reducible refine f6m _ () ?_) | (with_reducible refine g5k _ () ?_) | (with_reducible refine f6n _ () ?_) | (with_reducible refine f6o _ () ?_)
  | (with_reducible first|refine And.intro (Eq.refl (α:=World) _) ?_|refine b1a ?_)
  | ((with_reducible refine f9m ?_); ((with_reducible refine d0m ?_ ?_); exact ⟨_,rfl⟩))
  | ((with_reducible refine oG fun X Y=>?_); simp [go_sem,c0,c1,c2,c3,c4,c5,c6,g8j,g8i,h3f,wor,g5h]; apply Y; clear Y X)))
  refine a0h b0w (xs:=ws v'.list) (by rw [e1]; rfl) rfl (b1l _) hI.v rfl (fun w5 hg5 h5=>?_)
  have hI:=hI.wrote hA hg5 h5
  refine Xa0 ?_
  refine ⟨⟨_,_,_,_,_,i + 1,rfl,hi64,by rw [← e2]; exact hI⟩,?_⟩
  simp only [d0a]; omega
 ·obtain rfl:i = 64:=by omega
  have em:stV (mix s b) = .agg (ws (adL (b3g b s 64) s 8)).toArray:=rfl
  rw [em] at k
  clear em
  generalize b3g b s 64 = v at *
  refine Xa0 ?_
  refine ⟨AdJ w gh gr gs gt gv s sl v,h2q,⟨_,0,rfl,by omega,hI⟩,?_⟩
  clear hI
  rintro _ _ w2 ⟨v0,j,rfl,hj,hI⟩
  by_cases hj8:j < 8
  ·refine Xa0 ?_
   have hI:=hI.drew
   have cv:=a2a hI.v j (by rw [d2h]; exact hj8)
   have ch:=a2a hI.h j (show j < 8 from hj8)
   rw [g5i v s hj8] at cv
   refine ⟨Zr (fun w'=>w'.cell? ⟨gv,j,none⟩ = some (w32 (at' v.list j)) ∧ w'.cell? ⟨gh,j,none⟩ = some (w32 (at' s.list j))),fun _=>⟨cv,ch⟩,?_⟩
   repeat (any_goals (first
   | (with_reducible refine pX ?_)
   | ((with_reducible refine b0z ?_); (with_reducible refine a1z ⟨_,rfl⟩ (fun W0 hW0=>by (refine oG (fun X Y=>?_)); simp [go_sem,(g9i hW0).1,(g9i hW0).2,g8i]; (first | exact Y _ _ ⟨rfl,rfl⟩ | exact ⟨by omega,Y _ _ ⟨rfl,rfl⟩⟩)) ?_))))
   refine a3g d9r rfl rfl hI.v (by simp [adL,hj8]) (fun W hg2 hh=>?_)
   refine ⟨fun h=>by omega,?_⟩
   have hI:=hI.wrote hA hg2 (u:=adL v s (j + 1)) (by rw [← f9a v s hj8]; unfold ws at hh ⊢; rw [List.map_set]; exact hh)
   refine Xa0 ?_
   refine ⟨⟨_,j + 1,rfl,hj8,hI⟩,?_⟩
   simp only [f9b]; omega
  ·obtain rfl:j = 8:=by omega
   refine Xa0 ?_
   refine a1s hI.v a8t rfl (by kernel_rfl) ?_
   obtain ⟨zs,hz,hr⟩:=hI.r
   refine a0h b0w (xs:=ws (adL v s 8)) rfl rfl (b1l _) hr hz (fun W hg2 hh=>?_)
   exact a4s hh a8t rfl (by kernel_rfl) (k _ (a0k hI.below hg2 hA.r0))
end
section
variable {K:VK} {w w0:World}
structure Buf (w0:World) (v:Value) (l:List UInt8) (w:World):Prop where
 below:Bw w0 w
 row:BufM w 5 v l
 own:∀ i,v.ownBlock = some i → w0.heap.size ≤ i
theorem Buf.next {v:Value} {l:List UInt8} {w':World} (h:Buf w0 v l w) (hb:Bw w w'):Buf w0 v l w':=by
 refine ⟨h.below.on hb,h.row.keep (fun i hi=>?_),h.own⟩
 obtain ⟨g,c,rfl,hlt⟩:=h.row.shape
 cases hi
 exact hb.block g hlt
def lo8 (x:W):UInt8:=UInt8.ofNat x.toNat
theorem f9c (T:TypeId) (x:W):oM Tryz.prog (.convert 255 5 (.tmp 0)) T [w32 x] = a0c (.int .u8 ((lo8 x).toNat:Int)):=by
 unfold lo8
 funext K w
 have e:IntKind.u8.wrap (x.toNat:Int) = ((UInt8.ofNat x.toNat).toNat:Int):=by
  rw [IntKind.wrap_u8,UInt8.toNat_ofNat']
  omega
 have e2:(convert 255 5 (w32 x)).run Tryz.prog w = .ok (.int .u8 (IntKind.u8.wrap (x.toNat:Int))) w:=by kernel_rfl
 rw [b9z,e2,e]
 rfl
theorem g5m (T:TypeId) (s:St) (i:Nat) (hi:i < 8):oM Tryz.prog (.index 257 (.tmp 0) (.tmp 1)) T [stV s,.int .i64 (i:Int)] = a0c (w32 (at' s.list i)):=by
 have e:∀ w,(Instr.index 257 (stV s) (.int .i64 (i:Int))).run Tryz.prog w = .ok (w32 (at' s.list i)) w:=by
  intro w
  rcases i with _ | _ | _ | _ | _ | _ | _ | _ | i
  all_goals first | omega | kernel_rfl
 funext K w
 rw [a4u (S:=Instr.index 257 (stV s) (.int .i64 (i:Int))) rfl,e]
 rfl
theorem h3y {T:TypeId} (a b c d:UInt8) (k:∀ g W,Bw w W → (∀ j u,(Lib.byteCells [a,b,c,d])[j]? = some u → W.cell? ⟨g,j,none⟩ = some u) → K (.slice (some ⟨g,0,none⟩) 4 4) W) :
  oM Tryz.prog (.buildSlice 202 4 #[(0,.tmp 0),(1,.tmp 1),(2,.tmp 2),(3,.tmp 3)]) T [.int .u8 (a.toNat:Int),.int .u8 (b.toNat:Int),.int .u8 (c.toNat:Int),.int .u8 (d.toNat:Int)] K w:=by
 have e:(Instr.buildSlice 202 4 #[(0,.int .u8 (a.toNat:Int)),(1,.int .u8 (b.toNat:Int)),(2,.int .u8 (c.toNat:Int)),(3,.int .u8 (d.toNat:Int))]).run Tryz.prog w = .ok (.slice (some ⟨w.heap.size,0,none⟩) 4 4) (w.alloc (.cells (Lib.byteCells [a,b,c,d]).toArray 5)):=by kernel_rfl
 rw [a4u (S:=Instr.buildSlice 202 4 #[(0,.int .u8 (a.toNat:Int)),(1,.int .u8 (b.toNat:Int)),(2,.int .u8 (c.toNat:Int)),(3,.int .u8 (d.toNat:Int))]) (by simp [xop,execOp,a0u,evE]),e]
 refine k _ _ ((Below.refl _ w).alloc (rL) _) (fun j u hj=>?_)
 have:=World.cell?_alloc_at (w:=w) (Lib.byteCells [a,b,c,d]).toArray 5 w.heap.size j rfl
 rw [this]
 simpa using hj
abbrev g5n (w:World) (B:Nat) (v:Value) (l:List UInt8):Prop:=w.ownsRow B 5 1 v l.length (Lib.byteCells l)
theorem g9j {B:Nat} {T T':TypeId} {v:Value} {l:List UInt8} (a b c d:UInt8) (ho:g5n w B v l) (hB:B ≤ w.heap.size) (hl:l.length < 1099511627776) (k:∀ v' w',g5n w' B v' (l ++ [a,b,c,d]) → Below B w w' → K v' w') :
  oM Tryz.prog (.buildSlice 202 4 #[(0,.tmp 0),(1,.tmp 1),(2,.tmp 2),(3,.tmp 3)]) T [.int .u8 (a.toNat:Int),.int .u8 (b.toNat:Int),.int .u8 (c.toNat:Int),.int .u8 (d.toNat:Int)] (fun u w=>oM Tryz.prog (.call { callee:=.builtin .append,args:=#[.tmp 0,.tmp 1],argTypes:=#[202,202] }) T' [v,u] K w) w:=by
 refine h3y a b c d fun g W hb hc=>?_
 have ho2:g5n W B v l:=a0r ho (fun i hi=>hb.block i (a0p ho hi).1)
 refine a7a 202 T' 5 ((Tryz.prog.info? 5).getD default) (.int .u8 0) 1 1 (by kernel_rfl) (by kernel_rfl) (by kernel_rfl) (by kernel_rfl) (by kernel_rfl) (by kernel_rfl) (by omega) (a4v ho2 (Nat.zero_le _)) (Lib.byteCells [a,b,c,d]) rfl (by simp) ?_ ?_ (by simp only [maxLen]; omega) (by omega) ?_
 ·rintro ad ha j u hj
  cases ha
  rw [a2d,Nat.zero_add]
  exact hc j u hj
 ·intro u hu
  simp only [Lib.byteCells,List.mem_map] at hu
  obtain ⟨x,_,rfl⟩:=hu
  rfl
 ·intro v' w' ho' hg hv
  have hbl:∀ i,v.ownBlock = some i → B ≤ i:=fun i hi=>(a0p ho hi).2.1
  have hBW:=Nat.le_trans hB hb.size
  refine k v' w' ?_ ((hb.mono hB).grown hg hBW hbl)
  have e2:Lib.byteCells (l ++ [a,b,c,d]) = Lib.byteCells l ++ Lib.byteCells [a,b,c,d]:=by simp [Lib.byteCells]
  show w'.ownsRow B 5 1 v' (l ++ [a,b,c,d]).length (Lib.byteCells (l ++ [a,b,c,d]))
  rw [List.length_append,e2]
  refine ⟨ho'.1,ho'.2.imp id ?_⟩
  rintro ⟨g,cap,cur,rfl,hb',hr⟩
  exact ⟨g,cap,cur,rfl,(hv g rfl).elim (hbl g) (fun h=>Nat.le_trans hBW h),hr⟩
theorem g5o {B:Nat} {T:TypeId} {v:Value} {l:List UInt8} (ho:g5n w B v l) (hne:0 < l.length) (k:K (.string ⟨l.toArray⟩) w):oM Tryz.prog (.convert 202 9 (.tmp 0)) T [v] K w:=by
 obtain ⟨g,cap,cur,rfl,hlt,_,_,_,_,hc⟩:=a2t ho hne
 have:=run_convert_bytes_back (P:=Tryz.prog) w 202 9 5 ⟨g,0,none⟩ cap l (by kernel_rfl) (by kernel_rfl) (by kernel_rfl) (fun j hj=>by
  rw [a2d,Nat.zero_add]
  exact hc j _ (by simp [Lib.byteCells,hj]))
 rw [a4u (S:=convert 202 9 (.slice (some ⟨g,0,none⟩) l.length cap)) rfl,this]
 exact k
theorem d9u {T:TypeId} {a:Option Addr} {n c:Nat} (hc:64 ≤ c) (k:K (.slice a 64 c) w):oM Tryz.prog (.slice 202 (.tmp 0) none (some (.tmp 1)) none) T [.slice a n c,.int .i64 64] K w:=
 b9v (by kernel_rfl) (sz:=1) (fun w=>by kernel_rfl) 64 hc k
theorem c7f {T:TypeId} {g o n c:Nat} (hn:64 ≤ n) (hc:n ≤ c) (k:∀ ad,(64 < c → ad = some ⟨g,o + 64,none⟩) → K (.slice ad (n - 64) (c - 64)) w):oM Tryz.prog (.slice 202 (.tmp 0) (some (.tmp 1)) none none) T [.slice (some ⟨g,o,none⟩) n c,.int .i64 64] K w:=by
 have hs:∀ w,(sizeOf (Tryz.prog.elem 202)).run Tryz.prog w = .ok 1 w:=fun w=>by kernel_rfl
 rw [b4q,run_sliceAt_slice w 202 _ _ _ _ (by kernel_rfl),run_slice_l w 202 _ n c (by kernel_rfl) .i64 64 (by omega) (by omega),hs]
 simp only [Result.andThen_ok,sliced]
 refine k _ (fun h=>?_)
 rw [if_neg (show ¬ c = (64:Int).toNat by show ¬ c = 64; omega)]
 rfl
theorem g5p (l:List UInt8) {T:TypeId} (k:∀ v w',Buf w v l w' → K v w'):oM Tryz.prog (.convert 9 202 (.tmp 0)) T [.string ⟨l.toArray⟩] K w:=by
 refine f0g (e:=5) (by kernel_rfl) (by kernel_rfl) (by kernel_rfl) l (fun v w' hb hg ho hs=>k v w' ⟨(bR).grown hg (rL) (fun i hi=>by cases hi),hb,fun i hi=>?_⟩)
 rw [ho] at hi
 cases hi
 exact rL
theorem h3z {T:TypeId} (x:UInt8) (k:∀ g W,Bw w W → W.cell? ⟨g,0,none⟩ = some (.int .u8 (x.toNat:Int)) → K (.slice (some ⟨g,0,none⟩) 1 1) W):oM Tryz.prog (.buildSlice 202 1 #[(0,.tmp 0)]) T [.int .u8 (x.toNat:Int)] K w:=by
 rw [a2k]
 have e:(Instr.buildSlice 202 1 #[(0,.int .u8 (x.toNat:Int))]).run Tryz.prog w = .ok (.slice (some ⟨w.heap.size,0,none⟩) 1 1) (w.alloc (.cells #[.int .u8 (x.toNat:Int)] 5)):=by kernel_rfl
 rw [e]
 refine k _ _ ((Below.refl _ w).alloc (rL) _) ?_
 have:=World.cell?_alloc_at (w:=w) #[.int .u8 (x.toNat:Int)] 5 w.heap.size 0 rfl
 rw [this]
 rfl
theorem push {T T':TypeId} {v:Value} {l:List UInt8} (x:UInt8) {n:Int} (hx:n = (x.toNat:Int)) (h:Buf w0 v l w) (hl:l.length + 1 ≤ 1099511627776) (k:∀ v' w',Buf w0 v' (l ++ [x]) w' → K v' w') :
  oM Tryz.prog (.buildSlice 202 1 #[(0,.tmp 0)]) T [.int .u8 n] (fun u w=>oM Tryz.prog (.call { callee:=.builtin .append,args:=#[.tmp 0,.tmp 1],argTypes:=#[202,202] }) T' [v,u] K w) w:=by
 subst hx
 refine h3z x fun g W hb hc=>?_
 have h:=h.next hb
 refine f0h (e:=5) (i:=(Tryz.prog.info? 5).getD default) (by kernel_rfl) (by kernel_rfl) (by kernel_rfl) (by kernel_rfl) (by kernel_rfl) h.row hc hl (fun v' w' hb' hg hv=>k v' w' ⟨h.below.grown hg h.below.size h.own,hb',fun i hi=>?_⟩)
 rcases hv with hv | ⟨g',hv,hlt⟩
 ·exact h.own i (by rw [← hv]; exact hi)
 ·rw [hv] at hi
  cases hi
  exact Nat.le_trans h.below.size hlt
theorem f6p {g n c:Nat} {l:List UInt8} (h:BufM w 5 (.slice (some ⟨g,0,none⟩) n c) l):ByR w g 0 l:=by
 obtain ⟨g',cap,cur,fz,hv,hg,hfz,hcs,hlc,hcell⟩:=h
 cases hv
 refine ⟨(Array.getElem?_eq_some_iff.1 hg).1,fun i hi=>?_⟩
 rw [Nat.zero_add,a0b hg,hcell i hi]
 simp [List.getD_eq_getElem?_getD,hi]
theorem g5q {g n c:Nat} {l:List UInt8} {v:Value} (h:BufM w 5 v l) (e:v = .slice (some ⟨g,0,none⟩) n c):l.length ≤ c:=by
 obtain ⟨g',cap,cur,fz,hv,hg,hfz,hcs,hlc,hcell⟩:=h
 rw [e] at hv
 cases hv
 exact hlc
theorem ByR.other {b o g:Nat} {l:List UInt8} {w':World} (h:ByR w b o l) (hg:w.grownBy w' (some g)) (hne:b ≠ g):ByR w' b o l:=
 ⟨lL h.1 hg.size,fun i hi=>by
  rw [← h.2 i hi]
  unfold World.cell?
  rw [hg.block b h.1 (fun e=>hne (by cases e; rfl))]⟩
theorem ByR.part {b o:Nat} {l:List UInt8} (h:ByR w b o l) (i n:Nat) (hn:i + n ≤ l.length):ByR w b (o + i) ((l.drop i).take n):=by
 refine ⟨h.1,fun j hj=>?_⟩
 have hj':j < n:=by rw [List.length_take,List.length_drop] at hj; omega
 rw [Nat.add_assoc,h.2 (i + j) (by omega)]
 congr 3
 rw [List.getD_eq_getElem?_getD,List.getD_eq_getElem?_getD,List.getElem?_take_of_lt hj',List.getElem?_drop]
def BkJ (w0:World) (g gb:Nat) (p:List UInt8) (m:Nat) (R:St) (l:List Value) (w':World):Prop:=
 ∃ (ad:Option Addr) (c t:Nat) (st:St),l = [.slice ad (64 * (m - t)) c] ∧ t ≤ m ∧ 64 * (m - t) ≤ c ∧ (t < m → ad = some ⟨gb,64 * t,none⟩) ∧ Bw w0 w' ∧ ByR w' gb 0 p ∧ Holds w' g 257 (ws st.list) ∧ b7n (m - t) st (p.drop (64 * t)) = R
def h2r (l:List Value) (_:World):Nat:=match l with | [.slice _ m _]=>m | _=>0
theorem f9d (m c:Nat) (a:Option Addr) (w:World):h2r [.slice a m c] w = m:=rfl
def f9e (st:St) (i:Nat):List UInt8:=((st.list.take i).map g1j).flatten
theorem b6n (st:St) (i:Nat) (hi:i ≤ 8):(f9e st i).length = 4 * i:=by
 unfold f9e St.list
 rcases i with _ | _ | _ | _ | _ | _ | _ | _ | _ | i
 all_goals first | omega | rfl
theorem f9f (x:W):g1j x = [lo8 (x >>> 24),lo8 (x >>> 16),lo8 (x >>> 8),lo8 x]:=by
 simp only [g1j,lo8,BitVec.toNat_ushiftRight,Nat.shiftRight_eq_div_pow]
theorem d9v (st:St) (i:Nat) (hi:i < 8):f9e st (i + 1) = f9e st i ++ [lo8 (at' st.list i >>> 24),lo8 (at' st.list i >>> 16),lo8 (at' st.list i >>> 8),lo8 (at' st.list i)]:=by
 rw [← f9f]
 unfold f9e
 have hl:i < st.list.length:=hi
 rw [List.take_add_one,gE hl,List.map_append,List.flatten_append]
 simp [at',List.getD_eq_getElem?_getD,hl]
def h4a (w0:World) (st:St) (l:List Value) (w':World):Prop:=∃ (u v:Value) (i:Nat),l = [u,v,.int .i64 (i:Int)] ∧ i ≤ 8 ∧ g5n w' w0.heap.size v (f9e st i) ∧ Bw w0 w'
def g5r (l:List Value) (_:World):Nat:=match l with | [_,_,.int _ i]=>8 - i.toNat | _=>0
theorem e9r (a b:Value) (q:IntKind) (i:Int) (w:World):g5r [a,b,.int q i] w = 8 - i.toNat:=rfl
def ZeJ (w0:World) (s:List UInt8) (l:List Value) (w':World):Prop:=∃ v j,l = [v] ∧ j ≤ b2b s.length ∧ Buf w0 v (s ++ [128] ++ List.replicate j 0) w'
theorem b6o (s:List UInt8) (j:Nat):(s ++ [(128:UInt8)] ++ List.replicate j 0).length = s.length + 1 + j:=by simp; omega
def h2t (n:Nat) (l:List Value) (_:World):Nat:=match l with | [.slice _ m _]=>n - m | _=>0
theorem f9g (n m c:Nat) (a:Option Addr) (w:World):h2t n [.slice a m c] w = n - m:=rfl
def LeJ (w0:World) (s:List UInt8) (l:List Value) (w':World):Prop:=∃ (v:Value) (j:Nat),l = [v,.int .i64 (56 - 8 * (j:Int))] ∧ j ≤ 8 ∧ Buf w0 v (s ++ [128] ++ List.replicate (b2b s.length) 0 ++ (a6l s.length).take j) w'
def h2u (l:List Value) (_:World):Nat:=match l with | [_,.int _ i]=>(i + 8).toNat | _=>0
theorem f9h (a:Value) (q:IntKind) (i:Int) (w:World):h2u [a,.int q i] w = (i + 8).toNat:=rfl
theorem f9i (n j:Nat) (hj:j < 8) (hn:n < 1099511627776):(IntKind.u8.wrap (8 * (n:Int) / 2 ^ (56 - 8 * (j:Int)).toNat)) = (((a6l n).getD j 0).toNat:Int):=by
 have e1:8 * (n:Int) = ((8 * n:Nat):Int):=by omega
 have e2:(56 - 8 * (j:Int)).toNat = 8 * (7 - j):=by omega
 have e3:(a6l n).getD j 0 = UInt8.ofNat (8 * n / 2 ^ (8 * (7 - j))):=by
  unfold a6l
  rcases j with _ | _ | _ | _ | _ | _ | _ | _ | j <;> first | rfl | omega
 rw [e1,e2,e3,IntKind.wrap_u8,UInt8.toNat_ofNat']
 generalize 8 * (7 - j) = q
 have:((8 * n:Nat):Int) / 2 ^ q = ((8 * n / 2 ^ q:Nat):Int):=by
  rw [Int.natCast_ediv,Int.natCast_pow]; rfl
 rw [this]
 omega
theorem d9w (l:List UInt8) (j:Nat) (hj:j < l.length):l.take (j + 1) = l.take j ++ [l.getD j 0]:=by
 rw [List.take_add_one,List.getD_eq_getElem?_getD,gE hj]
 rfl
theorem g5s (s:List UInt8) (hs:s.length ≤ 1000000000) (k:∀ w',Bw w w' → K (.string ⟨(sha s).toArray⟩) w'):a0a Tryz.prog 143 #[.string ⟨s.toArray⟩] K w:=by
 apply d6z
 unfold f5d
 refine g5p s fun v1 w1 h1=>?_
 refine push 128 rfl h1 (by omega) (fun v2 w2 h2=>?_)
 refine ⟨ZeJ w s,h2t (s.length + 1 + b2b s.length),⟨_,0,rfl,by omega,by simpa using h2⟩,?_⟩
 clear h2 w2 v2 h1 w1 v1
 rintro _ _ w1 ⟨v1,j,rfl,hj,h1⟩
 obtain ⟨g1,c1,rfl,hlt1⟩:=h1.row.shape
 have hz:b2b s.length < 64:=by unfold b2b; omega
 by_cases hjz:j < b2b s.length
 ·have hm:¬ ((s.length:Int) + 1 + (j:Int)).tmod 64 = 56:=by
   rw [Int.tmod_eq_emod_of_nonneg (by omega)]; unfold b2b at hjz; omega
  rw [b6o] at *
  repeat (any_goals (first
  | ((with_reducible refine push 0 rfl h1 (by rw [b6o]; omega) ?_); intro v2 w2 h2)
  | (with_reducible refine yL ?_)
  | ((with_reducible refine oG fun X Y=>?_); simp [go_sem,hm]; apply Y; clear Y X)))
  have e:s ++ [(128:UInt8)] ++ List.replicate j 0 ++ [0] = s ++ [128] ++ List.replicate (j + 1) 0:=by
   simp [List.replicate_succ',List.append_assoc]
  rw [e] at h2
  obtain ⟨g2,c2,rfl,hlt2⟩:=h2.row.shape
  refine ⟨⟨_,j + 1,rfl,hjz,h2⟩,?_⟩
  rw [b6o]
  simp only [f9g]; omega
 ·obtain rfl:j = b2b s.length:=by omega
  have hm:((s.length:Int) + 1 + (b2b s.length:Int)).tmod 64 = 56:=by
   rw [Int.tmod_eq_emod_of_nonneg (by omega)]; unfold b2b; omega
  rw [b6o] at *
  refine Xa @hm ?_
  refine ⟨LeJ w s,h2u,⟨_,0,rfl,by omega,by simpa using h1⟩,?_⟩
  clear h1 hlt1 hm
  rintro _ _ w1 ⟨v1,j,rfl,hj,h1⟩
  have hle:(s ++ [(128:UInt8)] ++ List.replicate (b2b s.length) 0 ++ (a6l s.length).take j).length = s.length + 1 + b2b s.length + j:=by
   rw [List.length_append,b6o,List.length_take,a4w]; omega
  by_cases hj8:j < 8
  ·have hq:IntKind.u64.wrap (s.length:Int) = (s.length:Int):=a1n _ (by omega) (by omega)
   have hsh:=fun t t' T x=>b5i (P:=Tryz.prog) t t' T .i64 x (56 - 8 * (j:Int)) (by omega) (by omega)
   repeat (any_goals (first
   | ((with_reducible refine push ((a6l s.length).getD j 0) (f9i _ _ hj8 (by omega)) h1 (by omega) ?_); intro v2 w2 h2)
   | (with_reducible refine yN ?_)
   | ((with_reducible refine oG fun X Y=>?_); simp [go_sem,hq,hsh]; (try simp (disch:=omega) only [a0o,a2x,a1n]); apply Y; clear Y X)))
   refine ⟨⟨_,j + 1,by rw [show 56 - 8 * (j:Int) - 8 = 56 - 8 * ((j + 1:Nat):Int) by omega],hj8,?_⟩,?_⟩
   ·rw [d9w _ _ (by rw [a4w]; exact hj8),← List.append_assoc]
    exact h2
   ·simp only [f9h]; omega
  ·obtain rfl:j = 8:=by omega
   rw [List.take_of_length_le (by rw [a4w]; omega)] at h1 hle
   have hpad:s ++ [(128:UInt8)] ++ List.replicate (b2b s.length) 0 ++ a6l s.length = a8j s:=rfl
   rw [hpad] at h1 hle
   have hp64:=c1t s
   obtain ⟨m,hm⟩:∃ m,(a8j s).length = 64 * m:=⟨(a8j s).length / 64,by omega⟩
   refine Xa0 ?_
   refine e9p fun w2 hb2=>?_
   have h2:=h1.next hb2
   refine a0i b5h fun g w3 hb3 hg3 h3=>?_
   have h4:=h2.next hb3
   obtain ⟨gb,c,rfl,hlt⟩:=h2.row.shape
   refine a0h b0w (xs:=ws first.list) rfl rfl (b1l _) h3 rfl (fun w4 hg4 hh=>?_)
   have zb:=h1.below.size
   have hby:=(f6p h4.row).other hg4 (by omega)
   have hbw:Bw w w4:=a0k h4.below hg4 (by have:=hb2.size; have:=h2.below.size; omega)
   have ef:sha s = ((b7n m first (a8j s)).list.map g1j).flatten:=by
    unfold sha
    rw [hm,Nat.mul_div_cancel_left m (by omega)]
   refine ⟨BkJ w g gb (a8j s) m (b7n m first (a8j s)),h2r,⟨_,_,0,first,by rw [hm]; rfl,by omega,by have:=g5q h4.row rfl; omega,fun _=>rfl,hbw,hby,hh,rfl⟩,?_⟩
   have hgw:w.heap.size ≤ g:=Nat.le_trans h2.below.size hg3
   have hgb:gb ≠ g:=by omega
   clear hh hby hbw hg4 h4 hlt h3 hg3 hb3 h2 hb2 h1 zb w4 w3 w2
   rintro _ _ w2 ⟨ad,c,t,st,rfl,ht,hc,had,hbw,hby,hh,hbl⟩
   by_cases htm:t < m
   ·obtain ⟨r,hr⟩:∃ r,m - t = r + 1:=⟨m - t - 1,by omega⟩
    obtain rfl:=had htm
    rw [hr] at hbl hc ⊢
    refine Xa0 ?_
    refine ⟨Zr (fun w'=>w' = { w2 with drawn:=w2.drawn + 1 }),fun _=>rfl,?_⟩
    have hh:=hh.next (.drawn (B:=w2.heap.size))
    have hby:=hby.next (.drawn (B:=w2.heap.size))
    have hbw:=hbw.on (.drawn (B:=w2.heap.size))
    generalize ({ w2 with drawn:=w2.drawn + 1 }:World) = w3 at hh hby hbw ⊢
    refine a1z (v:=stV st) ⟨_,rfl⟩ (fun W0 hW0=>by
     obtain rfl:=g9i hW0
     exact a1s hh a8t rfl (by kernel_rfl) ⟨rfl,rfl⟩) ?_
    refine pX ?_
    refine a1z (v:=.slice (some ⟨gb,64 * t,none⟩) 64 c) ⟨_,rfl⟩ (fun W0 hW0=>d9u (by omega) ⟨rfl,rfl⟩) ?_
    have hpart:=hby.part (64 * t) 64 (by omega)
    rw [Nat.zero_add] at hpart
    refine g5l st _ (by rw [List.length_take,List.length_drop]; omega) hpart (fun w4 hb4=>?_)
    refine ⟨fun h=>by omega,?_⟩
    refine a0h b0w (xs:=ws (mix st _).list) rfl rfl (b1l _) (hh.next hb4) rfl (fun w5 hg5 hh5=>?_)
    refine ⟨fun h=>by omega,?_⟩
    refine c7f (by omega) (by omega) (fun ad' had'=>?_)
    have e1:64 * (r + 1) - 64 = 64 * (m - (t + 1)):=by omega
    rw [e1]
    refine ⟨⟨ad',c - 64,t + 1,_,rfl,by omega,by omega,fun h=>had' (by omega),a0k (hbw.on hb4) hg5 hgw,(hby.next hb4).other hg5 hgb,hh5,?_⟩,?_⟩
    ·rw [show m - (t + 1) = r by omega,← hbl]
     show _ = b7n r (mix st ((List.drop (64 * t) (a8j s)).take 64)) ((List.drop (64 * t) (a8j s)).drop 64)
     rw [List.drop_drop,show 64 * t + 64 = 64 * (t + 1) by omega]
    ·simp only [f9d]; omega
   ·obtain rfl:t = m:=by omega
    rw [Nat.sub_self] at hbl ⊢
    refine Xa0 ?_
    refine a1s hh a8t rfl (by kernel_rfl) ?_
    have hst:st = b7n t first (a8j s):=hbl
    rw [← hst] at ef
    refine ⟨h4a w st,g5r,⟨_,_,0,rfl,by omega,⟨rfl,.inl ⟨rfl,rfl⟩⟩,hbw⟩,?_⟩
    rintro _ _ w3 ⟨u3,v3,i,rfl,hi,ho,hb3⟩
    by_cases hi8:i < 8
    ·have hix:=fun T=>g5m T st i hi8
     repeat (any_goals (first
     | ((with_reducible refine g9j _ _ _ _ ho hb3.size (by have:=b6n st i hi; omega) ?_); intro v4 w4 ho4 hb4)
     | (with_reducible refine yN ?_)
     | ((with_reducible refine oG fun X Y=>?_); simp [go_sem,hix,g8z,g9a,h3s,f9c]; (try simp (disch:=omega) only [a0o,a2x,a1n]); apply Y; clear Y X)))
     rw [← d9v st i hi8] at ho4
     refine ⟨⟨_,_,i + 1,rfl,hi8,ho4,hb3.trans hb4⟩,?_⟩
     simp only [e9r]; omega
    ·obtain rfl:i = 8:=by omega
     have e8:f9e st 8 = sha s:=by rw [ef]; rfl
     repeat (any_goals (first
     | ((with_reducible refine g5o ho (by rw [b6n st 8 (by omega)]; omega) ?_))
     | (with_reducible refine yM ?_)
     | ((with_reducible refine oG fun X Y=>?_); simp [go_sem]; apply Y; clear Y X)))
     rw [e8]
     exact k _ hb3
end
end Go.Proofs
namespace Go.Proofs
open Go.Sh Tryz
variable {a0 a1 a2:Value} {K:VK} {w:World}
def g2i (a0 a1:Value) (K:VK) (w:World):Prop:=
 a0a prog 142 #[a1] (fun v9=>
 kU v9 fun v10=>
 kO v10 (K (.int .i64 0))
 (a0a prog 143 #[a0] fun v12=>
 oM prog (.convert 9 202 (.tmp 0)) 202 [v12] fun v13=>
 kN 202 v13 fun v14=>
 kQ [undef,(.int .i64 0),(.int .i64 0)] fun J_6 m_7 l_8 u_l_8 w0_l_8=>(fun w=>(
 kB .lss 3 0 (l_8.getD 2 undef) v14 (fun v16=>
 kO v16 (kI 202 v13 (l_8.getD 2 undef) fun v17=>
 kL 5 v17 fun v18=>
 a0a prog 145 #[a1,(l_8.getD 1 undef),(.int .i64 256)] fun v22=>
 oM prog (.convert 5 3 (.tmp 0)) 3 [v18] fun v24=>
 a0a prog 144 #[a1,v22,v24] fun v25=>
 kB .add 3 3 (l_8.getD 2 undef) (.int .i64 1) fun v26=>
 kJ J_6 m_7 l_8 w0_l_8 [v18,v25,v26])
 (K (l_8.getD 1 undef))) w)) w0_l_8)) w
theorem e5q (h:g2i a0 a1 K w):a0a prog 93 #[a0,a1] K w:=
 cZ (fun _=>0) func93 h
def g2j (a0:Value) (K:VK) (w:World):Prop:=
 oM prog (.box 26 (.tmp 0)) 0 [a0] (fun v1=>
 kF 26 0 v1 fun v3=>
 kL 3 v3 fun v4=>
 kF 26 1 v1 fun v5=>
 kL 3 v5 fun v6=>
 kF 26 2 v1 fun v7=>
 kL 3 v7 fun v8=>
 kF 26 3 v1 fun v9=>
 kL 3 v9 fun v10=>
 kF 26 4 v1 fun v11=>
 kL 3 v11 fun v12=>
 kF 26 5 v1 fun v13=>
 kL 3 v13 fun v14=>
 oM prog (.buildSlice 22 6 #[(0,(.tmp 0)),(1,(.tmp 1)),(2,(.tmp 2)),(3,(.tmp 3)),(4,(.tmp 4)),(5,(.tmp 5))]) 22 [v4,v6,v8,v10,v12,v14] fun v15=>
 a0a prog 61 #[v15] fun v16=>
 K v16) w
theorem e5r (h:g2j a0 K w):a0a prog 94 #[a0] K w:=
 cZ (fun _=>0) func94 h
def g2k (a0 a1 a2:Value) (K:VK) (w:World):Prop:=
 oM prog (.box 50 (.tmp 0)) 0 [a0] (fun v3=>
 oM prog (.box 26 (.tmp 0)) 0 [a1] fun v4=>
 kL 50 v3 fun v11=>
 a0a prog 92 #[v11] fun v12=>
 kE 0 164 v12 fun v13=>
 kE 1 4 v12 fun v14=>
 kA 164 fun v7=>
 kS 164 v7 v13 fun _=>
 kU v14 fun v16=>
 kO v16 (K (.int .i64 0))
 (kF 50 0 v3 fun v17=>
 kF 48 1 v17 fun v18=>
 kL 3 v18 fun v19=>
 kB .quo 3 3 v19 (.int .i64 2) fun v20=>
 kH fun C_13 w=>(a0d v20 C_13 fun v21=>
 jB .add 3 3 v21 (.int .i64 1) C_13 fun v22=>
 jL 26 v4 C_13 fun v23=>
 a0d a2 C_13 fun v25=>
 jF 50 0 v3 C_13 fun v28=>
 jF 48 1 v28 C_13 fun v29=>
 jL 3 v29 C_13 fun v30=>
 jB .sub 3 3 v30 (.int .i64 1) C_13 fun v31=>
 a0d v20 C_13 fun v32=>
 jB .sub 3 3 v31 v32 C_13 fun v33=>
 a0a prog 94 #[v23] (fun v24 w=>C_13 w ∧ (
 a0a prog 64 #[v25] (fun v26 w=>C_13 w ∧ (
 kB .add 9 9 v24 v26 (fun v27 w=>C_13 w ∧ (
 a0a prog 93 #[v27,v33] (fun v34 w=>C_13 w ∧ (
 kB .add 3 3 v22 v34 (fun v35 w=>C_13 w ∧ (
 C_13 w ∧ (K v35 w))) w)) w)) w)) w)) w))) w
theorem e5s (h:g2k a0 a1 a2 K w):a0a prog 43 #[a0,a1,a2] K w:=
 cZ (fun _=>2) func43 h
end Go.Proofs
namespace Go.Proofs
open Go Go.Sh Go.RowKit FdSpec TkSpec CodeSpec PuSpec
section
variable {K:VK} {w w0 w1:World} {L:List (Addr × Value)}
def NuJ (n R:Int) (d:List UInt8) (w0:World) (l:List Value) (w':World):Prop:=Bw w0 w' ∧ ∃ (v:Value) (o:Int) (i:Nat),l = [v,.int .i64 o,.int .i64 (i:Int)] ∧ i ≤ d.length ∧ (d.drop i).foldl (b2c n) o = R
theorem d8x (s:List UInt8) (n:Int) (hs:s.length ≤ 1000000000) (k:∀ w',Bw w w' → K (.int .i64 (a7h s n)) w'):a0a Tryz.prog 93 #[.string ⟨s.toArray⟩,.int .i64 n] K w:=by
 apply e5q
 unfold g2i
 unfold a7h at k
 refine a3x n ?_
 by_cases hn:okN n
 ·rw [if_pos hn] at k
  refine Xa0 ?_
  refine g5s s hs (fun w1 h1=>?_)
  have hl:=ShaSpec.sha_length s
  generalize ShaSpec.sha s = d at *
  refine g5p d fun v w2 h2=>?_
  obtain ⟨g,c,rfl,hlt⟩:=h2.row.shape
  have hby:=f6p h2.row
  have hb:=h1.on h2.below
  refine Xa0 ?_
  refine ⟨NuJ n (d.foldl (b2c n) 0) d w2,e1v d.length,⟨bR,_,_,0,rfl,by omega,rfl⟩,?_⟩
  rintro _ _ w3 ⟨h3,v,o,i,rfl,hi,hf⟩
  by_cases hin:i < d.length
  ·have hc:=(hby.next h3).2 i hin
   rw [Nat.zero_add] at hc
   have e1:d[i]?.getD 0 = d[i]:=by simp [hin]
   have hu:=(d[i]).toNat_lt
   rw [List.getD_eq_getElem?_getD,e1] at hc
   refine Xa @hc ?_
   refine c2v n o 256 (fun w4 h4=>?_)
   refine Xa0 ?_
   refine f2s n _ _ ?_
   refine Xa0 ?_
   rw [List.drop_eq_getElem_cons hin,List.foldl_cons] at hf
   refine ⟨⟨h3.on h4,_,_,i + 1,rfl,by omega,hf⟩,?_⟩
   simp only [a9c]; omega
  ·rw [List.drop_of_length_le (by omega),List.foldl_nil] at hf
   refine Xa0 ?_
   rw [hf]
   exact k _ (hb.on h3)
 ·rw [if_neg hn] at k
  refine Xa0 ?_
  exact k _ (bR)
theorem c0o {t:Tkt} (h:TktR t):∀ n ∈ PuSpec.tktL t,I64 n:=by
 intro n hn
 simp only [PuSpec.tktL,List.mem_cons,List.not_mem_nil,or_false] at hn
 rcases hn with rfl | rfl | rfl | rfl | rfl | rfl
 ·exact h.mark
 ·exact h.first
 ·exact h.z
 ·exact h.a
 ·exact h.b
 ·exact h.r
theorem c9m (n:Int):InR n ↔ I64 n:=by unfold InR I64; omega
theorem c9n {t:Tkt} (h:TktR t):(f1w t).length ≤ 200:=by
 have:=a3a (l:=PuSpec.tktL t) (fun n hn=>(c9m n).2 (c0o h n hn)) (by simp [PuSpec.tktL])
 have e:(PuSpec.tktL t).length = 6:=rfl
 rw [e] at this
 exact Nat.le_trans this (by omega)
theorem h3o {T:TypeId} (t:Tkt) (ht:TktR t) (k:∀ v W,Bw w W → Ints W v (PuSpec.tktL t) → K v W):oM Tryz.prog (.buildSlice 22 6 #[(0,.tmp 0),(1,.tmp 1),(2,.tmp 2),(3,.tmp 3),(4,.tmp 4),(5,.tmp 5)]) T [.int .i64 t.mark,.int .i64 t.first,.int .i64 t.z,.int .i64 t.a,.int .i64 t.b,.int .i64 t.r] K w:=by
 rw [a4u (S:=Instr.buildSlice 22 6 #[(0,.int .i64 t.mark),(1,.int .i64 t.first),(2,.int .i64 t.z),(3,.int .i64 t.a),(4,.int .i64 t.b),(5,.int .i64 t.r)]) (by simp [xop,execOp,a0u,evE])]
 have e:(Instr.buildSlice 22 6 #[(0,.int .i64 t.mark),(1,.int .i64 t.first),(2,.int .i64 t.z),(3,.int .i64 t.a),(4,.int .i64 t.b),(5,.int .i64 t.r)]).run Tryz.prog w = .ok (.slice (some ⟨w.heap.size,0,none⟩) 6 6) (w.alloc (.cells #[.int .i64 t.mark,.int .i64 t.first,.int .i64 t.z,.int .i64 t.a,.int .i64 t.b,.int .i64 t.r] 3)):=by kernel_rfl
 rw [e]
 exact k _ _ ((Below.refl _ w).alloc (rL) _) (a4m w (PuSpec.tktL t) _ 6 (c0o ht) (by simp [PuSpec.tktL]))
theorem d1w (t:Tkt) (ht:TktR t) (hl:Cd.Laid w) (k:∀ w',Bw w w' → K (.string ⟨(f1w t).toArray⟩) w'):a0a Tryz.prog 94 #[b7r t] K w:=by
 apply e5r
 unfold g2j
 refine a1i (cs:=a8l t) rfl (.start w) fun b W hk hb1 hb=>?_
 repeat (any_goals (first
 | ((with_reducible refine h3o t ht ?_); intro v8 W8 hb8 hi)
 | ((with_reducible refine oG fun X Y=>?_); simp [go_sem,hk.cells]; apply Y; clear Y X)))
 have hk:=hk.next hb8
 refine Cd.pNums_ok (PuSpec.tktL t) v8 (hl.below hk.below hl.size) (a6r hi) (fun x hx=>(c9m x).2 (c0o ht x hx)) (by have:=c9n ht; unfold f1w a0n at this; unfold PuSpec.tktL; omega) (fun w' hb'=>?_)
 exact k _ (hk.next hb').below
theorem c0p (s:List UInt8) (n:Int) (hn:okN n):0 ≤ a7h s n ∧ a7h s n < n:=by
 unfold a7h
 rw [if_pos hn]
 have h:∀ (l:List UInt8) (o:Int),0 ≤ o ∧ o < n → 0 ≤ l.foldl (b2c n) o ∧ l.foldl (b2c n) o < n:=by
  intro l
  induction l with
  | nil=>intro o h; exact h
  | cons a l ih=>intro o h; exact ih _ (a8c n _ _ hn)
 exact h _ 0 (by unfold okN at hn; omega)
theorem d8y {q:Int} (h:5 ≤ q) (h2:q < 1152921504606846976):okN (q - 1 - q / 2):=by unfold okN; omega
theorem d8z {s:Stp} (h:a1j s = true):5 ≤ s.g.Q ∧ s.g.Q < 1152921504606846976:=by
 unfold a1j at h
 simp only [bA] at h
 have hg:=h.1.1.1.1
 by_cases hc:s.g.Q < 5 ∨ 1152921504606846976 ≤ s.g.Q ∨ s.g.P ≠ 2 * s.g.Q + 1 ∨ s.g.G < 2 ∨ s.g.P ≤ s.g.G
 ·rw [b9c hc] at hg; cases hg
 ·omega
theorem c6q (s:Stp) (t:Tkt) (m:List UInt8) {v:Value} (hm:m.length ≤ 100000000) (ht:TktR t) (hs:SetR w s v) (hL:Cd.Laid w) (k:∀ w',Bw w w' → K (.int .i64 (a4y s t m)) w'):a0a Tryz.prog 43 #[a9j s v,b7r t,.string ⟨m.toArray⟩] K w:=by
 apply e5s
 unfold g2k
 obtain ⟨ad,c,rfl⟩:=hs.ints.isSlice
 refine a1i (cs:=b1d s (.slice ad s.bases.length c)) rfl (.start w) fun b W hk hb1 hb=>?_
 refine a1i (cs:=a8l t) rfl hk fun b2 W2 hk hb2 hbb=>?_
 unfold a4y at k
 refine Xa hk.cells ?_
 refine open_ok s (hs.next hk.below) (fun w2 h=>?_)
 have hk:=hk.next h
 clear h hb1 hb2
 refine c1r ?_
 refine a7e s ad s.bases.length c hk (fun b7 W7 hk hb7 hg7=>?_)
 cases hv:a1j s with
 | false=>
  rw [hv,if_neg (by decide)] at k
  refine Xa0 ?_
  exact k _ hk.below
 | true=>
 rw [hv,if_pos rfl] at k
 obtain ⟨hq1,hq2⟩:=d8z hv
 have hr:=c0p (f1w t ++ a1g m) _ (d8y hq1 hq2)
 have ed:s.g.Q.tdiv 2 = s.g.Q / 2:=Int.tdiv_eq_ediv_of_nonneg (by omega)
 have e0:IntKind.i64.wrap (s.g.Q / 2) = s.g.Q / 2:=a0o _ (by omega) (by omega)
 have e1:IntKind.i64.wrap (s.g.Q / 2 + 1) = s.g.Q / 2 + 1:=a0o _ (by omega) (by omega)
 have e2:IntKind.i64.wrap (s.g.Q - 1) = s.g.Q - 1:=a0o _ (by omega) (by omega)
 have e3:IntKind.i64.wrap (s.g.Q - 1 - s.g.Q / 2) = s.g.Q - 1 - s.g.Q / 2:=a0o _ (by omega) (by omega)
 have e4:IntKind.i64.wrap (s.g.Q / 2 + 1 + a7h (f1w t ++ a1g m) (s.g.Q - 1 - s.g.Q / 2)) = s.g.Q / 2 + 1 + a7h (f1w t ++ a1g m) (s.g.Q - 1 - s.g.Q / 2):=a0o _ (by omega) (by omega)
 refine Xa (An3 hk.cells @ed @e0) ?_
 have hk:=hk.drew
 refine ⟨Kn w _,hk,?_⟩
 repeat (any_goals (first
 | (with_reducible refine And.intro hk ?_)
 | (with_reducible refine pX ?_)
 | ((with_reducible refine b0z ?_); (with_reducible refine a1z ⟨_,rfl⟩ (fun W0 hW0=>by (refine oG (fun X Y=>?_)); simp [go_sem,hW0.cells,e1,e2,e3]; (first | exact Y _ _ ⟨rfl,rfl⟩ | exact ⟨by omega,Y _ _ ⟨rfl,rfl⟩⟩)) ?_))))
 refine d1w t ht (hL.below hk.below hL.size) (fun w3 h3=>?_)
 have hk:=hk.next h3
 refine ⟨hk,?_⟩
 clear h3
 refine Cd.pText_ok m (by omega) (hL.below hk.below hL.size) (fun w4 h4=>?_)
 have hk:=hk.next h4
 refine ⟨hk,?_⟩
 clear h4
 have hl1:=c9n ht
 have hl2:=Cd.encText_len m (by omega)
 repeat (any_goals (first
 | (with_reducible refine And.intro hk ?_)
 | ((with_reducible refine oG fun X Y=>?_); simp [go_sem]; refine And.intro (by omega) (Y _ _ ?_); clear Y X)))
 refine d8x (f1w t ++ a1g m) _ (by rw [List.length_append]; omega) (fun w5 h5=>?_)
 have hk:=hk.next h5
 clear h5
 refine ⟨hk,?_⟩
 repeat (any_goals (first
 | (with_reducible refine And.intro hk ?_)
 | ((with_reducible refine oG fun X Y=>?_); simp [go_sem,e4]; apply Y; clear Y X)))
 exact k _ hk.below
end
end Go.Proofs
namespace Go.Proofs
open Go Go.Sh Go.RowKit FdSpec TkSpec CodeSpec PuSpec DkSpec JnSpec
section
variable {K:VK} {w w' w0 W W':World} {L:List (Addr × Value)} {rb b:Nat} {s:Stp} {lims:List Lim} {p p':Ph} {items items':List Itm} {A:Ab} {P:Pst} {h:Dk}
theorem PuR.hide (h:PuR s lims w0 w p A P) (hb:Bw w w'):PuR s lims w0 w' { p with x:=fun i=>p.x i ∨ (w.heap.size ≤ i ∧ i < w'.heap.size) } A P:=by
 have hn:=h.next hb
 have hz:=h.bl.size
 have him:∀ i,Im p w i → Im { p with x:=fun i=>p.x i ∨ (w.heap.size ≤ i ∧ i < w'.heap.size) } w' i:=fun i hi=>⟨by have:=hi.1; have:=hb.size; omega,hi.2.1,fun e=>e.elim hi.2.2 (fun e=>by have:=hi.1; omega)⟩
 have st:StR s lims w' { p with x:=fun i=>p.x i ∨ (w.heap.size ≤ i ∧ i < w'.heap.size) } P.items:=
  ⟨hn.st.pur,(h.st.itm.next hb (fun i hi=>hi.1)).mono him,(h.st.rd.next hb (fun i hi=>hi.1)).mono him,h.st.cnt,h.st.sp,h.st.si,fun i hi=>hi.elim (fun e=>by have:=h.st.xl i e; have:=hb.size; omega) (fun e=>e.2)⟩
 exact ⟨hn.sys,hn.jn,st,h.yg,hn.bl,h.low⟩
theorem PuR.unhide (h:PuR s lims w0 w p A P) {x:Nat → Prop} (hx:∀ i,x i → p.x i):PuR s lims w0 w { p with x:=x } A P:=by
 have him:∀ i,Im p w i → Im { p with x:=x } w i:=fun i hi=>⟨hi.1,hi.2.1,fun e=>hi.2.2 (hx i e)⟩
 exact ⟨h.sys,h.jn,⟨h.st.pur,h.st.itm.mono him,h.st.rd.mono him,h.st.cnt,h.st.sp,h.st.si,fun i hi=>h.st.xl i (hx i hi)⟩,h.yg,h.bl,h.low⟩
theorem PuR.wrote (h:PuR s lims w0 w p A P) {S:Nat → Prop} (hf:Fr S w w') (hS:∀ i,S i → p.x i ∧ ¬ Mu p i ∧ w0.heap.size ≤ i):PuR s lims w0 w' p A P:=by
 have h8:=h.low
 refine ⟨h.sys.fresh hf (fun i hi=>⟨fun e=>(hS i hi).2.1 (e.imp id .inl),by have:=(hS i hi).2.2; omega⟩),h.jn.keep (h':=p.h) hf (fun i hi e=>(hS i hi).2.1 (.inr (.inr (.inl e)))) (fun i hi=>hi.elim .inl (fun h=>.inr (.inl h))),?_,h.yg,h.bl.trans ⟨hf.os,hf.tape,hf.output,hf.size,fun i hi=>hf.block i (by have:=h.bl.size; omega) (fun e=>by have:=(hS i e).2.2; omega)⟩,h.low⟩
 have him:∀ i,Im p w i → Im p w' i:=fun i hi=>⟨by have:=hi.1; have:=hf.size; omega,hi.2⟩
 refine ⟨(hf.block p.pb h.st.pur.lt (fun e=>(hS _ e).2.1 (.inr (.inr (.inr (.inl rfl)))))).trans h.st.pur,(h.st.itm.keep hf (fun i hi=>⟨hi.1,fun e=>hi.2.2 (hS i e).1⟩) (fun i hi e=>(hS i e).2.1 (.inr (.inr (.inr (.inr hi)))))).mono him,(h.st.rd.fr hf (fun i hi=>⟨hi.1,fun e=>hi.2.2 (hS i e).1⟩)).mono him,h.st.cnt,h.st.sp,h.st.si,fun i hi=>by have:=h.st.xl i hi; have:=hf.size; omega⟩
theorem f2m {α:Type} {n:Nat} {e:TypeId} {V:World → List Value → α → Prop} {B:Nat} {D:Nat → Prop} {v:Value} {l:List α} (h:GRow n e V B D w v l) {ad:Option Addr} {m c:Nat} (hv:v = .slice ad m c):m ≤ c:=by
 obtain ⟨cs,ho,_⟩:=h.ex
 rcases ho.2 with ⟨h1,h2⟩ | ⟨g,cap,cur,h1,hb,hg,hc,hm,hs,ht⟩
 ·rw [h1] at hv; cases hv; omega
 ·rw [h1] at hv; cases hv; omega
theorem g0q {x:Hld} {a y l:Value} {j:Nat} {u:Value} (hj:(a8l x.t)[j]? = some u):(b7y x a y l)[7 + j]? = some u:=by
 have hl:=(gS hj).1
 have:b7y x a y l = [.int .i64 x.limit,.int .i64 x.window,a] ++ e4l x.bl y ++ (a8l x.t ++ [l]):=rfl
 rw [this,List.getElem?_append_right (by simp)]
 simp only [List.length_append,List.length_cons,List.length_nil,Nat.zero_add,Nat.add_sub_cancel_left]
 rw [List.getElem?_append_left hl]
 exact hj
theorem g0r (s:Stp) (lims:List Lim) (A:Ab) (P:Pst) (limit now:Int) (next:Tkt) (terms:a0f):a6v s lims A P limit now next terms =
  if (a0j lims P.items limit now).2 ≠ 0 then ((0,[],(a0j lims P.items limit now).2),A,P)
  else match P.items[(a0j lims P.items limit now).1]? with
  | none=>((0,[],15),A,P)
  | some x=>
   if !b9n terms x.held.links then ((0,[],2),A,P)
   else if 4 ≤ x.held.links.length then ((0,[],6),A,P)
   else if (a3y A P (a0j lims P.items limit now).1 3 (a4y s next terms)).1 ≠ 0 then ((0,[],(a3y A P (a0j lims P.items limit now).1 3 (a4y s next terms)).1),(a3y A P (a0j lims P.items limit now).1 3 (a4y s next terms)).2)
    else (((a0j lims P.items limit now).1,x.held.links ++ [⟨x.held.t,(b7s s x.held.attrs x.held.bl (a4y s next terms)).1,terms⟩],0),(a3y A P (a0j lims P.items limit now).1 3 (a4y s next terms)).2):=rfl
theorem d3s (T:TypeId) (t:Tkt) (d:Int) (ad:Option Addr) (n c:Nat) (ts:a0f):oM Tryz.prog (Go.Op.build 86 #[(0,(.tmp 0)),(1,(.tmp 1)),(2,(.tmp 2))]) T [b7r t,.agg #[.int .i64 d,.slice ad n c],.string ⟨ts.toArray⟩] = a0c (lkV ⟨t,⟨d,[]⟩,ts⟩ (.slice ad n c)):=by
 funext K w
 kernel_rfl
theorem d3t (A:Ab) (P:Pst) {i:Nat} {x:Itm} (hx:P.items[i]? = some x) (d:Int) (h:(a3y A P i 3 d).1 = 0):(a3y A P i 3 d).2.2.items = P.items.set i { x with dare:=d,status:=1,lent:=true }:=by
 unfold a3y at h ⊢
 dsimp only at h ⊢
 split at h
 ·rename_i h1; exact absurd h h1
 ·rename_i h1
  rw [if_neg h1]
  split at h
  ·rename_i h2; exact absurd h h2
  ·rename_i h2
   rw [if_neg h2]
   exact PuSpec.modify_set hx _
set_option maxHeartbeats 4000000 in
theorem g0s (hP:PuR s lims w0 w p A P) (limit now:Int) (next:Tkt) (hnx:TktR next) (terms:a0f) (htl:terms.length ≤ 1000000) (hsm:∀ x ∈ P.items,c0f x.held) (hst:∀ x ∈ P.items,∀ y ∈ x.held.links,y.terms.length ≤ 1000000)
  (k:∀ w' p' v,PuR s lims w0 w' p' (a6v s lims A P limit now next terms).2.1 (a6v s lims A P limit now next terms).2.2 → PuSt p w p' w' → (p'.pb = p.pb ∧ p'.b = p.b) →
   FP (fun i=>w.heap.size ≤ i ∧ i < w'.heap.size ∧ ¬ Mu p' i) w' (fun W=>b4z W v (a6v s lims A P limit now next terms).1.2.1) → (∀ ad n c,v = .slice ad n c → n ≤ c) → K (.tuple #[.int .i64 (a6v s lims A P limit now next terms).1.1,v,.int .i64 (a6v s lims A P limit now next terms).1.2.2]) w') :
  a0a Tryz.prog 41 #[.pointer (some ⟨p.pb,0,none⟩),.int .i64 limit,.int .i64 now,b7r next,.string ⟨terms.toArray⟩] K w:=by
 apply e5y
 unfold g2q
 have hnil:∀ W q,FP (fun i=>w.heap.size ≤ i ∧ i < W.heap.size ∧ ¬ Mu q i) W (fun W=>b4z W (.slice none 0 0) []):=fun W q _ _ _ _ _ _=>SRow.nil
 have hcz:∀ ad n c,(Value.slice none 0 0) = .slice ad n c → n ≤ c:=fun ad n c e=>by cases e; exact rL
 refine a3f (cs:=a8l next) rfl (fun b1 w1 h1 hb1 hB1=>?_)
 have hP1:=hP.next h1
 refine c5o hP1.st limit now (fun w2 h2=>?_)
 have hP2:=hP1.next h2
 have h02:=h1.on h2
 have hcv:=c0e lims P.items limit now
 have eL:=g0r s lims A P limit now next terms
 generalize a0j lims P.items limit now = c at *
 obtain ⟨i,e⟩:=c
 simp only at *
 by_cases he:e = 0
 case neg=>
  rw [if_pos he] at eL
  rw [eL] at k
  have k:=k w2 p _ hP2 (PuSt.below h02) ⟨rfl,rfl⟩ (hnil _ _) hcz
  refine Xa @he ?_
  exact k
 subst he
 rw [if_neg (by simp)] at eL
 have hi:i < P.items.length:=by omega
 have hiZ:(i:Int) < P.items.length:=by omega
 have hx:=gE hi
 rw [hx] at eL
 have hsx:=hsm _ (List.getElem_mem hi)
 have hstx:=hst _ (List.getElem_mem hi)
 generalize P.items[i] = x at *
 simp only at eL
 obtain ⟨g,gc,av,yv,kv,hgv,hgl,hH,hI,hJ,hc⟩:=hP2.st.at hx
 obtain ⟨a1,n1,d1,a2,n2,d2,a3,n3,d3,rfl,rfl,rfl⟩:=a0y hH
 have c6:=hP2.st.pur.cell 6 (by simp)
 simp only [List.getElem_cons_zero,List.getElem_cons_succ] at c6
 rw [hgv] at c6
 refine Xa (An2 @c6 @hiZ) ?_
 refine a1t (cs:=b7y x.held (.slice a1 n1 d1) (.slice a2 n2 d2) (.slice a3 n3 d3)) (d1f hc) a8o (by kernel_rfl) (by kernel_rfl) ?_
 refine c5k x.held hH hsx.1 hsx.2.1 hsx.2.2.1 hsx.2.2.2 (fun w3 av3 yv3 kv3 h3 hF3 hG3=>?_)
 obtain ⟨a4,n4,d4,a5,n5,d5,a6,n6,d6,rfl,rfl,rfl⟩:=a0y hF3.here
 refine a0i b3l (fun b4 w4 h4 hb4 hH4=>?_)
 refine a0h (xs:=b7y x.held (.slice a4 n4 d4) (.slice a5 n5 d5) (.slice a6 n6 d6)) b1n rfl rfl (a8a _ _ _ _ _ _ _ _ _ _ _ _ _ _ _ _ _ _ _ _) hH4 rfl (fun w5 hg5 hH5=>?_)
 have h35:Bw w3 w5:=a0k h4 hg5 hb4
 have hP5:=(hP2.next h3).next h35
 have hG5:=hG3.next h35 (fun j hj=>hj.2.1)
 have h05:=h02.on (h3.on h35)
 refine b0i terms (by omega) hP5.sys.l (fun w6 h6=>?_)
 have hLk:=hF3.here.links
 obtain ⟨a7,d7,hv7⟩:=hLk.isSlice
 cases hv7
 have hP3:=hP2.hide h3
 have h56:=h35.on h6
 have hP6:=hP3.next h56
 have hH6:=hH5.next h6
 have hLk6:=(hLk.next (a1k a8n) h56)
 have h06:=h05.on h6
 have hB6:=(hB1.next h2).next ((h3.on h35).on h6)
 have c13:=a1c hH6 (j:=13) rfl
 have eO:b9n terms x.held.links = ((a1l terms).2 && (match x.held.links.getLast? with | none=>true | some l=>b0v terms l.terms)):=rfl
 have hll:=hLk.len
 refine Xa0 ?_
 refine ⟨fun l W=>l.getD 1 undef = .bool (b9n terms x.held.links) ∧ Nx w6 W,?_,?_⟩
 ·by_cases hl0:x.held.links = []
  ·have hl0Z:¬ (0:Int) < x.held.links.length:=by rw [hl0]; simp
   have:b9n terms x.held.links = (a1l terms).2:=by rw [eO,hl0]; simp
   rw [this]
   refine Xa (An2 @c13 @hl0Z) ?_
   exact ⟨rfl,bR⟩
  ·have hlp:0 < x.held.links.length:=List.length_pos_iff.2 hl0
   have hl0Z:(0:Int) < x.held.links.length:=by omega
   have hgl:x.held.links.getLast? = some x.held.links[x.held.links.length - 1]:=by
    rw [List.getLast?_eq_getElem?,gE]
   rw [eO,hgl]
   cases hrt:(a1l terms).2 with
   | false=>
    refine Xa (An2 @c13 @hl0Z) ?_
    exact ⟨rfl,bR⟩
   | true=>
    obtain ⟨lb,lo,rfl,hlb,lcs,hlcl,hlcc,lav,rfl,-,-⟩:=hLk6.at (i:=x.held.links.length - 1) (by omega)
    have hc8:=(c5r hlcc).2.2.2.2.2.2.2.2
    have hsub:((x.held.links.length:Int) - 1).toNat = x.held.links.length - 1:=by omega
    have hb1:0 ≤ (x.held.links.length:Int) - 1:=by omega
    have hb2:(x.held.links.length:Int) - 1 < x.held.links.length:=by omega
    refine Xa (An6 @c13 @hl0Z @hb1 @hb2 @hsub @hc8) ?_
    refine b4h terms _ (by omega) (by have:=hstx _ (List.getElem_mem (show x.held.links.length - 1 < x.held.links.length by omega)); omega) hP6.sys.l (fun w7 h7=>?_)
    refine Xa0 ?_
    exact ⟨by rw [bT]; rfl,h7⟩
 rintro lv u7 w7 ⟨hlv,h7⟩
 rw [hlv]
 have hP7:=hP6.next h7
 have h07:=h06.on h7
 have hun:∀ W,PuR s lims w0 W { p with x:=fun i=>p.x i ∨ (w2.heap.size ≤ i ∧ i < w3.heap.size) } A P → PuR s lims w0 W p A P:=fun W hq=>PuR.unhide hq (x:=p.x) (fun i hi=>.inl hi)
 have c13:=(h7.cell hH6.lt).trans c13
 cases hok:b9n terms x.held.links with
 | false=>
  rw [hok,if_pos (by rfl)] at eL
  rw [eL] at k
  have k:=k w7 p _ (hun _ hP7) (PuSt.below h07) ⟨rfl,rfl⟩ (hnil _ _) hcz
  refine Xa0 ?_
  exact k
 | true=>
 rw [hok,if_neg (by simp)] at eL
 by_cases h4:4 ≤ x.held.links.length
 ·have h4Z:(4:Int) ≤ x.held.links.length:=by omega
  rw [if_pos h4] at eL
  rw [eL] at k
  have k:=k w7 p _ (hun _ hP7) (PuSt.below h07) ⟨rfl,rfl⟩ (hnil _ _) hcz
  refine Xa (An2 @c13 @h4Z) ?_
  exact k
 have h4Z:¬ (4:Int) ≤ x.held.links.length:=by omega
 rw [if_neg h4] at eL
 refine Xa (An2 @c13 @h4Z) ?_
 have hPd:=hP7.next (.drawn (B:=w7.heap.size))
 have h0d:=h07.on (.drawn (B:=w7.heap.size))
 have hBd:=(hB6.next h7).next (.drawn (B:=w7.heap.size))
 have hHd:=(hH6.next h7).next (.drawn (B:=w7.heap.size))
 have h5d:=(h6.on h7).on (.drawn (B:=w7.heap.size))
 refine ⟨Nx { w7 with drawn:=w7.drawn + 1 },bR,trivial,?_⟩
 generalize ({ w7 with drawn:=w7.drawn + 1 }:World) = W8 at hPd h0d hBd hHd h5d ⊢
 have hSet:=hPd.st.set
 obtain ⟨bvad,bvc,hbv⟩:=hSet.ints.isSlice
 have C:=hPd.st.pur
 unfold puC at C
 simp only at hbv C hSet
 rw [hbv] at C hSet
 refine Xc (fun W0 hW0=>An2 ((C.next hW0).are) ((hBd.next hW0).are)) ?_
 refine ⟨Nx,?_⟩
 apply a7l
 ·intro w9 h9
  exact c6q s next terms (by omega) hnx (hSet.next h9) (hPd.next h9).sys.l.toLaid (fun w10 h10=>⟨h9.on h10,h10,rfl⟩)
 rintro w9 h9 _ rfl
 have hP9:=hPd.next h9
 have h09:=h0d.on h9
 have hlr:InR (a4y s next terms):=by
  cases hv:a1j s with
  | true=>
   have:=b6k hv next terms
   have:=hSet.grp
   exact ⟨by omega,by have:=(b2v hv).1.q1; omega⟩
  | false=>
   have:a4y s next terms = 0:=by unfold a4y; rw [hv]; rfl
   rw [this]
   exact ⟨by decide,by decide⟩
 refine e3g hP9 hi 3 (a4y s next terms) ⟨by omega,by omega⟩ hlr (fun w10 p10 hP10 t10 ⟨epb,eb⟩=>?_)
 have ki:=d3t A P hx (a4y s next terms)
 generalize a3y A P i 3 (a4y s next terms) = kp at *
 obtain ⟨ke,kA,kP⟩:=kp
 simp only at *
 have T:PuSt p w { p10 with x:=p.x } w10:=⟨(Fr.of_below (S:=Mu p) h09).trans t10.fr (fun i hi=>.inl hi),fun i hi=>(t10.mu i hi).imp id (fun h=>by have:=h09.size; omega),rfl⟩
 have hU10:PuR s lims w0 w10 { p10 with x:=p.x } kA kP:=PuR.unhide hP10 (x:=p.x) (fun i hi=>by rw [t10.x]; exact .inl hi)
 by_cases hk:ke = 0
 case neg=>
  rw [if_pos hk] at eL
  rw [eL] at k
  have k:=k w10 _ _ hU10 T ⟨epb,eb⟩ (hnil _ _) hcz
  refine Xa @hk ?_
  exact k
 subst hk
 rw [if_neg (by simp)] at eL
 have ki:=ki rfl
 have hx10:kP.items[i]? = some { x with dare:=a4y s next terms,status:=1,lent:=true }:=by rw [ki]; exact List.getElem?_set_self hi
 refine Xa0 ?_
 have m0:=hP.mu_lt
 have z02:=h02.size
 have z3:=h3.size
 have z35:=h35.size
 have z5d:=h5d.size
 have z9:=h9.size
 have z10:=t10.fr.size
 have hHn:=hHd.next h9
 have hH10:Holds w10 b4 29 (b7y x.held (.slice a4 n4 d4) (.slice a5 n5 d5) (.slice a6 x.held.links.length d6)):=(t10.fr.block b4 hHn.lt (fun e=>by have:=m0 b4 e; omega)).trans hHn
 have G9:=(hG5.next h5d (fun j hj=>by have:=hj.2.1; omega)).next h9 (fun j hj=>by have:=hj.2.1; omega)
 have hgo3:∀ j,(Value.slice a6 x.held.links.length d6).ownBlock = some j → w2.heap.size ≤ j ∧ j < w3.heap.size:=fun j hj=>by have:=hG3.own hj; omega
 have G10:=G9.keep t10.fr (fun j hj=>⟨by have:=hj.2.1; omega,fun e=>by have:=m0 j e; have:=hj.1; omega⟩) (fun j hj e=>by have:=m0 j e; have:=hgo3 j hj; omega)
 have hPd10:=hP10.next (.drawn (B:=w10.heap.size))
 have hHd10:=hH10.next (.drawn (B:=w10.heap.size))
 have Gd10:=G10.next (.drawn (B:=w10.heap.size)) (fun j hj=>by have:=hj.2.1; omega)
 have hd10:Below w10.heap.size w10 { w10 with drawn:=w10.drawn + 1 }:=.drawn
 have zd10:w10.heap.size ≤ ({ w10 with drawn:=w10.drawn + 1 }:World).heap.size:=rL
 refine ⟨fun W=>Fr (fun j=>(Value.slice a6 x.held.links.length d6).ownBlock = some j) { w10 with drawn:=w10.drawn + 1 } W,Fr.refl _ _,?_⟩
 generalize ({ w10 with drawn:=w10.drawn + 1 }:World) = W11 at hPd10 hHd10 Gd10 hd10 zd10 ⊢
 have fH:∀ W0,Fr (fun j=>(Value.slice a6 x.held.links.length d6).ownBlock = some j) W11 W0 → Holds W0 b4 29 (b7y x.held (.slice a4 n4 d4) (.slice a5 n5 d5) (.slice a6 x.held.links.length d6)):=fun W0 h=>(h.block b4 hHd10.lt (fun e=>by have:=hgo3 b4 e; omega)).trans hHd10
 repeat (any_goals (first
 | (with_reducible refine pX ?_)
 | ((with_reducible refine b0z ?_); (with_reducible refine a1z ⟨_,rfl⟩ (fun W0 hW0=>by (refine oG (fun Kv hK=>?_)); simp [go_sem,(fH _ hW0).are]; (first | exact hK _ _ ⟨rfl,rfl⟩ | exact ⟨by omega,hK _ _ ⟨rfl,rfl⟩⟩)) ?_))))
 rw [← epb]
 refine f7j hPd10.st hx10 (fun w12 ov h12 hov=>⟨Fr.of_below' h12,?_⟩)
 obtain ⟨oad,oc,hov'⟩:=hov.here.isSlice
 subst hov'
 have hus:(c5u s { x with dare:=a4y s next terms,status:=1,lent:=true }).1 = (b7s s x.held.attrs x.held.bl (a4y s next terms)).1:=rfl
 rw [hus] at hov ⊢
 have hdr:InR (b7s s x.held.attrs x.held.bl (a4y s next terms)).1.dare:=by
  unfold b7s
  split
  ·exact hlr
  ·exact ⟨by decide,by decide⟩
 generalize hY:(⟨x.held.t,(b7s s x.held.attrs x.held.bl (a4y s next terms)).1,terms⟩:Lnk) = Y at eL
 have hY1:Y.ticket = x.held.t:=by rw [← hY]
 have hY2:Y.spend = (b7s s x.held.attrs x.held.bl (a4y s next terms)).1:=by rw [← hY]
 have hY3:Y.terms = terms:=by rw [← hY]
 rw [← hY2] at hov hdr ⊢
 rw [← hY1,← hY3]
 have hlit:∀ {T:TypeId} {K:VK} {w:World},K (lkV Y (.slice oad Y.spend.answers.length oc)) w → oM Tryz.prog (Go.Op.build 86 #[(0,(.tmp 0)),(1,(.tmp 1)),(2,(.tmp 2))]) T [b7r Y.ticket,.agg #[.int .i64 Y.spend.dare,.slice oad Y.spend.answers.length oc],.string ⟨Y.terms.toArray⟩] K w:=fun h=>by
  rw [d3s]
  exact h
 refine hlit ⟨Fr.of_below' h12,?_⟩
 refine e2o Y oad Y.spend.answers.length oc (fun g13 w13 h13 hg13 hH13=>⟨Fr.of_below' (h12.on h13),?_⟩)
 have hwY:WLnk Y:=by
  have hwf:=hF3.here.wf
  exact ⟨by rw [hY1]; exact hwf.t,hdr,fun v hv=>⟨(hov.here.rng v hv).1,by have:=(hov.here.rng v hv).2; omega⟩,by have:=hov.here.len; show (Y.spend.answers.length:Int) ≤ _; omega,by rw [hY3]; show (terms.length:Int) ≤ _; omega⟩
 have h1113:=h12.on h13
 have z12:=h12.size
 have z13:=h13.size
 have mu10:∀ j,w2.heap.size ≤ j → j < w3.heap.size → ¬ Mu p10 j:=fun j h1 h2 e=>by
  rcases t10.mu j e with e | e
  ·have:=m0 j e; omega
  ·omega
 have mu11:=hPd10.mu_lt
 have mu10':=hP10.mu_lt
 have G13:=((Gd10.next h1113 (fun j hj=>by have:=hj.2.1; omega)).mono (E:=fun j=>w2.heap.size ≤ j ∧ j < w13.heap.size ∧ (Value.slice a6 x.held.links.length d6).ownBlock ≠ some j ∧ ¬ Mu p10 j) (fun j hj=>⟨hj.1,by have:=hj.2.1; omega,hj.2.2,mu10 j hj.1 (by have:=hj.2.1; omega)⟩))
 refine c5g (x:=Y) G13 (by omega) hH13 ?_ (fun j hj=>⟨hj.2.1,hj.2.2.1⟩) (by have:=hsx.2.2.1; omega) (fun v14 w14 hG14 hg14 hv14=>?_)
 ·exact ((hov.next h13).imp (fun W hW=>⟨_,rfl,hW,hwY⟩)).mono (fun j hj=>⟨by omega,hj.2,fun e=>by have:=hgo3 j e; omega,fun e=>by have:=mu10' j e; omega⟩)
 have z14:=hg14.size
 have hP13:=hPd10.next h1113
 have fS:Fr (fun j=>(Value.slice a6 x.held.links.length d6).ownBlock = some j) w13 w14:=Fr.of_by' hg14
 have fA:Fr (fun j=>(Value.slice a6 x.held.links.length d6).ownBlock = some j) W11 w14:=(Fr.of_below' h1113).trans fS (fun j hj=>.inl hj)
 refine ⟨fA,fA,fA,fA,?_⟩
 have zb:=hP.bl.size
 have hP14:PuR s lims w0 w14 p10 kA kP:=hP13.wrote fS (fun j hj=>by
  have hj2:=hgo3 j hj
  exact ⟨by rw [t10.x]; exact .inr hj2,mu10 j hj2.1 hj2.2,by omega⟩)
 have hU14:PuR s lims w0 w14 { p10 with x:=p.x } kA kP:=PuR.unhide hP14 (x:=p.x) (fun i hi=>by rw [t10.x]; exact .inl hi)
 have T14:PuSt p w { p10 with x:=p.x } w14:=⟨(T.fr.trans (Fr.of_below (S:=fun _=>False) hd10) (fun _ h=>h.elim)).trans fA (fun j hj=>.inr (by have:=hgo3 j hj; omega)),T.mu,rfl⟩
 rw [eL] at k
 refine k w14 _ v14 hU14 T14 ⟨epb,eb⟩ ?_ (fun ad n c e=>f2m hG14 e)
 exact (hG14.fp (by omega) (by rw [List.length_append]; have:=hsx.2.2.1; simp; omega)).mono (fun j hj=>by
  rcases hj with hj | hj
  ·exact ⟨by omega,by omega,hj.2.2.2⟩
  ·have hl14:=(hG14.own hj)
   rcases hv14 j hj with e | e
   ·have:=hgo3 j e
    exact ⟨by omega,by omega,mu10 j this.1 this.2⟩
   ·exact ⟨by omega,by omega,fun e2=>by have:=mu10' j e2; omega⟩)
theorem g0t (hP:PuR s lims w0 w p A P) (i:Int) (hi:InR i)
  (k:∀ w' p',PuR s lims w0 w' p' (a6f A P i 4).2.1 (a6f A P i 4).2.2 → PuSt p w p' w' → (p'.pb = p.pb ∧ p'.b = p.b) → K (.int .i64 (a6f A P i 4).1) w') :
  a0a Tryz.prog 46 #[.pointer (some ⟨p.pb,0,none⟩),.int .i64 i] K w:=by
 apply e5w
 unfold g2o
 exact e3l hP i 4 (.inr rfl) hi (fun w' p' a b c=>k w' p' a b c)
theorem b0l:Tryz.prog.underlying 26 = some ((Tryz.prog.underlying 26).getD default):=by kernel_rfl
end
end Go.Proofs
namespace Go.Proofs
open Go.Sh Tryz
variable {a0 a1:Value} {K:VK} {w:World}
def g2r (a0 a1:Value) (K:VK) (w:World):Prop:=
 kQ [(.bool false),(.int .i64 0)] (fun J_1 m_2 l_3 u_l_3 w0_l_3=>(fun w=>(
 kN 69 a0 (fun v8=>
 kB .lss 3 4 (l_3.getD 1 undef) v8 fun v9 w=>
 gT v9 (a0c (l_3.getD 1 undef)) (fun v11 w=>
 gT v9 (a0c a1) (fun v12 w=>
 gT v9 (kB .leq 3 4 v11 v12) (fun v13=>
 kP v9 v13 (.bool false) fun v14=>
 kO v14 (kI 69 a0 (l_3.getD 1 undef) fun v19=>
 kF 72 4 v19 fun v20=>
 kL 29 v20 fun v21=>
 a0a prog 13 #[v21] fun v22=>
 kU v22 fun v23 w=>
 gF v23 (a0c a0) (fun v25 w=>
 gF v23 (a0c (l_3.getD 1 undef)) (fun v26 w=>
 gF v23 (kI 69 v25 v26) (fun v27 w=>
 gF v23 (kF 72 6 v27) (fun v28 w=>
 gF v23 (kL 9 v28) (fun v29 w=>
 gF v23 (kN 9 v29) (fun v30 w=>
 gF v23 (kB .gtr 3 4 v30 (.int .i64 210)) (fun v31=>
 kP v23 (.bool true) v31 fun v32 w=>
 gF v32 (a0c a0) (fun v34 w=>
 gF v32 (a0c (l_3.getD 1 undef)) (fun v35 w=>
 gF v32 (kI 69 v34 v35) (fun v36 w=>
 gF v32 (kF 72 7 v36) (fun v37 w=>
 gF v32 (kL 22 v37) (fun v38 w=>
 gF v32 (kN 22 v38) (fun v39 w=>
 gF v32 (kB .gtr 3 4 v39 (.int .i64 20)) (fun v40=>
 kP v32 (.bool true) v40 fun v41=>
 kO v41 (K (.bool false))
 (kB .add 3 3 (l_3.getD 1 undef) (.int .i64 1) fun v16=>
 kJ J_1 m_2 l_3 w0_l_3 [(l_3.getD 0 undef),v16])) w) w) w) w) w) w) w) w) w) w) w) w) w) w)
 (kN 69 a0 fun v43=>
 kB .leq 3 4 v43 a1 fun v45=>
 K v45)) w) w) w) w)) w0_l_3) w
theorem e5z (h:g2r a0 a1 K w):a0a prog 30 #[a0,a1] K w:=
 cZ (fun _=>0) func30 h
def g2s (a0 a1:Value) (K:VK) (w:World):Prop:=
 oM prog (.box 72 (.tmp 0)) 0 [a1] (fun v3 w=>
 a4a (fun M_2=>(kF 72 0 v3 (fun v8=>
 kL 3 v8 fun v9=>
 kC .eql 3 1 4 v9 fun v15=>
 kO v15 (kF 72 1 v3 fun v18=>
 kL 3 v18 fun v19=>
 kF 72 2 v3 fun v20=>
 kL 3 v20 fun v21=>
 kF 72 3 v3 fun v22=>
 kL 3 v22 fun v23=>
 a0a prog 28 #[a0,v19,v21,v23] fun v24=>
 kE 0 3 v24 fun v25=>
 kE 1 62 v24 fun v26=>
 M_2 [v15,v26,undef,(.slice none 0 0),undef,undef,undef])
 (kC .eql 3 2 4 v9 fun v28=>
 kO v28 (kF 72 1 v3 fun v31=>
 kL 3 v31 fun v32=>
 kF 72 2 v3 fun v33=>
 kL 3 v33 fun v34=>
 kF 72 5 v3 fun v35=>
 kL 26 v35 fun v36=>
 kF 72 6 v3 fun v37=>
 kL 9 v37 fun v38=>
 a0a prog 41 #[a0,v32,v34,v36,v38] fun v39=>
 kE 0 3 v39 fun v40=>
 kE 1 27 v39 fun v41=>
 kE 2 62 v39 fun v42=>
 M_2 [v15,v42,v28,v41,undef,undef,undef])
 (kC .eql 3 3 4 v9 fun v44=>
 kO v44 (kF 72 1 v3 fun v46=>
 kL 3 v46 fun v47=>
 a0a prog 75 #[a0,v47] fun v48=>
 M_2 [v15,v48,v28,(.slice none 0 0),v44,undef,undef])
 (kC .eql 3 4 4 v9 fun v50 w=>
 a1o v50
 (kF 72 1 v3 (fun v52=>
 kL 3 v52 fun v53=>
 a0a prog 46 #[a0,v53] fun v54=>
 M_2 [v15,v54,v28,(.slice none 0 0),v44,v50,undef]) w)
 (a4a (fun M_37=>(kC .eql 3 5 4 v9 (fun v56=>
 kO v56 (M_37 [v56])
 (kC .eql 3 6 4 v9 fun v57=>
 kO v57 (M_37 [v57])
 (kC .eql 3 7 4 v9 fun v58=>
 kO v58 (M_37 [v58])
 (kC .eql 3 8 4 v9 fun v59=>
 M_37 [v59])))) w))
 fun l_38 u_l_38 w=>(kO (l_38.getD 0 undef) (M_2 [v15,(.int .i64 0),v28,(.slice none 0 0),v44,v50,(l_38.getD 0 undef)])
 (kF 72 4 v3 fun v11=>
 kL 29 v11 fun v12=>
 a0a prog 53 #[a0,v12] fun v13=>
 M_2 [v15,v13,v28,(.slice none 0 0),v44,v50,(l_38.getD 0 undef)]) w)))))) w))
 fun l_3 u_l_3 w=>(K (.tuple #[(l_3.getD 3 undef),(l_3.getD 1 undef)]) w)) w
theorem e6a (h:g2s a0 a1 K w):a0a prog 31 #[a0,a1] K w:=
 cZ (fun _=>0) func31 h
end Go.Proofs
namespace Go.Proofs
open Go Go.Sh Go.RowKit FdSpec TkSpec CodeSpec PuSpec DkSpec JnSpec
def b1o (o:OpM):Bool:=c8o o.held && (decide (o.terms.length ≤ 210) && decide (o.keep.length ≤ 20))
def b2i (l:List OpM) (most:Nat):Bool:=(l.take (most + 1)).all b1o && decide (l.length ≤ most)
@[reducible] def opC (o:OpM) (av yv kv qv:Value):List Value:=[.int .i64 o.kind,.int .i64 o.a,.int .i64 o.b,.int .i64 o.c,.int .i64 o.held.limit,.int .i64 o.held.window,av,.int .i64 o.held.bl.s,.int .i64 o.held.bl.u,.int .i64 o.held.bl.v,yv,.int .i64 o.held.t.mark,.int .i64 o.held.t.first,.int .i64 o.held.t.z,.int .i64 o.held.t.a,.int .i64 o.held.t.b,.int .i64 o.held.t.r,kv,.int .i64 o.next.mark,.int .i64 o.next.first,.int .i64 o.next.z,.int .i64 o.next.a,.int .i64 o.next.b,.int .i64 o.next.r,.string ⟨o.terms.toArray⟩,qv]
@[reducible] def opV (o:OpM) (av yv kv qv:Value):Value:=.agg #[.int .i64 o.kind,.int .i64 o.a,.int .i64 o.b,.int .i64 o.c,.int .i64 o.held.limit,.int .i64 o.held.window,av,.int .i64 o.held.bl.s,.int .i64 o.held.bl.u,.int .i64 o.held.bl.v,yv,.int .i64 o.held.t.mark,.int .i64 o.held.t.first,.int .i64 o.held.t.z,.int .i64 o.held.t.a,.int .i64 o.held.t.b,.int .i64 o.held.t.r,kv,.int .i64 o.next.mark,.int .i64 o.next.first,.int .i64 o.next.z,.int .i64 o.next.a,.int .i64 o.next.b,.int .i64 o.next.r,.string ⟨o.terms.toArray⟩,qv]
structure OpR (w:World) (o:OpM) (av yv kv qv:Value):Prop where
 kind:InR o.kind
 a:InR o.a
 b:InR o.b
 c:InR o.c
 held:HldR w o.held av yv kv
 next:WTkt o.next
 terms:Len o.terms.length
 keep:Ints w qv o.keep
def VOp (w:World) (c:List Value) (o:OpM):Prop:=∃ av yv kv qv,c = opC o av yv kv qv ∧ OpR w o av yv kv qv
section
variable {K:VK} {w w' w0 W W':World} {L:List (Addr × Value)} {rb b:Nat} {s:Stp} {lims:List Lim} {p p':Ph} {items items':List Itm} {A:Ab} {P:Pst} {h:Dk}
theorem OpR.nx {o:OpM} {av yv kv qv:Value} (h:OpR w o av yv kv qv) (hb:Bw w w'):OpR w' o av yv kv qv:=⟨h.kind,h.a,h.b,h.c,h.held.next hb,h.next,h.terms,h.keep.next hb⟩
theorem c2f:d2n VOp:=fun _ _ _ _ ⟨av,yv,kv,qv,h1,h2⟩ hb=>⟨av,yv,kv,qv,h1,h2.nx hb⟩
theorem g7r:Tryz.prog.underlying 72 = some ((Tryz.prog.underlying 72).getD default):=by kernel_rfl
@[go_sem] theorem h2a (T:TypeId) (b o n c:Nat) (x:Int):oM Tryz.prog (.indexAddr 69 (.tmp 0) (.tmp 1)) T [.slice (some ⟨b,o,none⟩) n c,.int .i64 x] = onM (0 ≤ x ∧ x < n) (.pointer (some ⟨b,o + x.toNat * 26,none⟩)):=
 b2f (K:=fun _ _=>True) (P:=Tryz.prog) (n:=26) 69 T (by kernel_rfl) (fun w=>by kernel_rfl) b o n c x
theorem e3m {b q:Nat} {o:OpM} {av yv kv qv:Value} (h:∀ j u,(opC o av yv kv qv)[j]? = some u → w.cell? ⟨b,q + j,none⟩ = some u):∀ j u,(b7y o.held av yv kv)[j]? = some u → w.cell? ⟨b,q + 4 + j,none⟩ = some u:=fun j u hj=>by
 rw [Nat.add_assoc]
 refine h (4 + j) u ?_
 have e:opC o av yv kv qv = [.int .i64 o.kind,.int .i64 o.a,.int .i64 o.b,.int .i64 o.c] ++ (b7y o.held av yv kv ++ (a8l o.next ++ [.string ⟨o.terms.toArray⟩,qv])):=rfl
 rw [e,List.getElem?_append_right (by simp)]
 simp only [List.length_cons,List.length_nil,Nat.zero_add,Nat.add_sub_cancel_left]
 rw [List.getElem?_append_left (gS hj).1]
 exact hj
theorem g0u {b q:Nat} {o:OpM} {av yv kv qv:Value} (h:∀ j u,(opC o av yv kv qv)[j]? = some u → w.cell? ⟨b,q + j,none⟩ = some u):∀ j u,(a8l o.next)[j]? = some u → w.cell? ⟨b,q + 18 + j,none⟩ = some u:=fun j u hj=>by
 rw [Nat.add_assoc]
 refine h (18 + j) u ?_
 have e:opC o av yv kv qv = ([.int .i64 o.kind,.int .i64 o.a,.int .i64 o.b,.int .i64 o.c] ++ b7y o.held av yv kv) ++ (a8l o.next ++ [.string ⟨o.terms.toArray⟩,qv]):=rfl
 rw [e,List.getElem?_append_right (by simp)]
 simp only [List.length_append,List.length_cons,List.length_nil,Nat.zero_add,Nat.add_sub_cancel_left]
 rw [List.getElem?_append_left (gS hj).1]
 exact hj
theorem f2n {b q:Nat} {o:OpM} {av yv kv qv:Value} (h:∀ j u,(opC o av yv kv qv)[j]? = some u → w.cell? ⟨b,q + j,none⟩ = some u) :
  w.cell? ⟨b,q,none⟩ = some (.int .i64 o.kind) ∧ w.cell? ⟨b,q + 1,none⟩ = some (.int .i64 o.a) ∧ w.cell? ⟨b,q + 2,none⟩ = some (.int .i64 o.b) ∧ w.cell? ⟨b,q + 3,none⟩ = some (.int .i64 o.c) ∧ w.cell? ⟨b,q + 24,none⟩ = some (.string ⟨o.terms.toArray⟩) ∧ w.cell? ⟨b,q + 25,none⟩ = some qv:=
 ⟨h 0 _ rfl,h 1 _ rfl,h 2 _ rfl,h 3 _ rfl,h 24 _ rfl,h 25 _ rfl⟩
theorem e3n (l:List OpM) (most:Nat) (hmost:most ≤ 1000) {v:Value} (hr:SRow 26 (b3o 26 VOp) w v l) (k:∀ w',Bw w w' → K (.bool (b2i l most)) w'):a0a Tryz.prog 30 #[v,.int .i64 (most:Int)] K w:=by
 apply e5z
 unfold g2r
 obtain ⟨ad,d,rfl⟩:=hr.isSlice
 have hll:=hr.len
 refine ⟨fun vs W=>∃ (i:Nat),vs = [.bool false,.int .i64 (i:Int)] ∧ i ≤ l.length ∧ i ≤ most + 1 ∧ (l.take i).all b1o = true ∧ Nx w W,
  (fun vs _=>match vs with | [_,.int _ i]=>l.length - i.toNat | _=>0),⟨0,rfl,by omega,by omega,rfl,bR⟩,?_⟩
 rintro _ _ w2 ⟨i,rfl,hi,hi7,ha,h2⟩
 by_cases hil:i < l.length ∧ i < most + 1
 ·have hi1:(i:Int) < l.length:=by omega
  have hi2:(i:Int) ≤ most:=by omega
  have hL:=hr.next (a1k c2f) h2
  obtain ⟨lb,lo,rfl,hlb,cs,hcl,hcc,av,yv,kv,qv,rfl,hO⟩:=hL.at hil.1
  obtain ⟨a1,n1,d1,a2,n2,d2,a3,n3,d3,rfl,rfl,rfl⟩:=a0y hO.held
  obtain ⟨q1,c1,rfl⟩:=hO.keep.isSlice
  have hnext:(l.take (i + 1)).all b1o = b1o l[i]:=by
   rw [List.take_succ_eq_append_getElem hil.1,List.all_append,ha]; simp
  have bad:b1o l[i] = false → ∀ w',Nx w2 w' → K (.bool false) w':=fun e w' hw=>by
   have k:=k _ (h2.on hw)
   have:b2i l most = false:=by
    unfold b2i
    rw [Bool.and_eq_false_iff]
    left
    rw [List.all_eq_false]
    refine ⟨l[i],?_,by rw [e]; simp⟩
    rw [List.mem_take_iff_getElem]
    exact ⟨i,by omega,rfl⟩
   rwa [this] at k
  refine Xa (An2 @hi1 @hi2) ?_
  refine a1t (cs:=b7y l[i].held (.slice a1 n1 d1) (.slice a2 n2 d2) (.slice a3 n3 d3)) (e3m hcc) a8o (by kernel_rfl) (by kernel_rfl) ?_
  refine d3q l[i].held hO.held (fun w3 h3=>?_)
  have hfo:b1o l[i] = (c8o l[i].held && (decide (l[i].terms.length ≤ 210) && decide (l[i].keep.length ≤ 20))):=rfl
  have hcc3:∀ j u,(opC l[i] (.slice a1 n1 d1) (.slice a2 n2 d2) (.slice a3 n3 d3) (.slice q1 l[i].keep.length c1))[j]? = some u → w3.cell? ⟨lb,lo + i * 26 + j,none⟩ = some u:=fun j u hj=>(h3.cell hlb).trans (hcc j u hj)
  have hc:=f2n hcc3
  cases hf:c8o l[i].held with
  | false=>
   have bad:=bad (by rw [hfo,hf]; rfl) _ h3
   refine Xa0 ?_
   exact bad
  | true=>
   by_cases ht:l[i].terms.length ≤ 210
   ·have htZ:¬ (210:Int) < l[i].terms.length:=by omega
    by_cases hk:l[i].keep.length ≤ 20
    ·have hkZ:¬ (20:Int) < l[i].keep.length:=by omega
     refine Xa (An4 @hi1 @hc @htZ @hkZ) ?_
     exact ⟨⟨i + 1,rfl,by omega,by omega,by rw [hnext,hfo,hf,decide_eq_true ht,decide_eq_true hk]; rfl,h2.on h3⟩,by show l.length - (((i + 1:Nat):Int)).toNat < l.length - ((i:Nat):Int).toNat; omega⟩
    ·have hkZ:(20:Int) < l[i].keep.length:=by omega
     have bad:=bad (by rw [hfo,hf,decide_eq_true ht,decide_eq_false hk]; rfl) _ h3
     refine Xa (An4 @hi1 @hc @htZ @hkZ) ?_
     exact bad
   ·have htZ:(210:Int) < l[i].terms.length:=by omega
    have bad:=bad (by rw [hfo,hf,decide_eq_false ht]; rfl) _ h3
    refine Xa (An3 @hi1 @hc @htZ) ?_
    exact bad
 ·have e6:(l.take (most + 1)).all b1o = true:=by
   by_cases h6:i = most + 1
   ·rw [← h6]; exact ha
   ·have:i = l.length:=by omega
    rw [this,List.take_length] at ha
    rw [List.take_of_length_le (by omega)]
    exact ha
  have k2:K (.bool (decide (l.length ≤ most))) w2:=by
   have k:=k _ h2
   unfold b2i at k
   rw [e6] at k
   exact k
  by_cases q3:l.length ≤ most
  ·have q3Z:(l.length:Int) ≤ most:=by omega
   have hi1:¬ (i:Int) < l.length:=by omega
   rw [decide_eq_true q3] at k2
   refine Xa (An2 @hi1 @q3Z) ?_
   exact k2
  ·have q3Z:¬ (l.length:Int) ≤ most:=by omega
   rw [decide_eq_false q3] at k2
   by_cases hi1:(i:Int) < l.length
   ·have hi2:¬ (i:Int) ≤ most:=by omega
    refine Xa (An3 @hi1 @hi2 @q3Z) ?_
    exact k2
   ·refine Xa (An2 @hi1 @q3Z) ?_
    exact k2
theorem d3u {l:List OpM} {most:Nat} (h:b2i l most = true):l.length ≤ most ∧ ∀ o ∈ l,b1o o = true:=by
 unfold b2i at h
 simp only [bA,dE] at h
 obtain ⟨h1,h2⟩:=h
 rw [List.take_of_length_le (by omega),List.all_eq_true] at h1
 exact ⟨h2,h1⟩
end
end Go.Proofs
namespace Go.Proofs
open Go Go.Sh Go.RowKit Go.Lib CodeSpec TkSpec FdSpec PuSpec Go.ChangeShapes Go.WideShapes Go.ChangeAt Go.Deep
section
variable {H:Type} {enc:TypeId × Value → H} {w:World} {sp:Nat → Bool} {hd:Bool}
theorem e9c:Tryz.prog.cellsOf 72 = 26:=by kernel_rfl
theorem e9d {v:Value} {n:Nat} {D:DataW H × List MemPlace} (h:DataW.trod enc Tryz.prog w 0 sp hd n 69 [v] = some D):∃ l,SRow 26 (b3o 26 VOp) w v l:=
 c0q Tryz.underlying69 e9c (by decide) (fun cs b p m D hl hc ht=>by
  obtain ⟨xs,m,_,_,hcl,hxl,hf⟩:=DataW.trod_struct Tryz.underlying72 ht
  have hxl:xs.length = 8:=hxl
  match cs,hl,xs,hxl with
  | [x0,x1,x2,x3,x4,x5,x6,x7,x8,x9,x10,x11,x12,x13,x14,x15,x16,x17,x18,x19,x20,x21,x22,x23,x24,x25],_,[y0,y1,y2,y3,y4,y5,y6,y7],_=>
   have f0:DataW.trod enc Tryz.prog w 0 sp hd m 3 (([x0,x1,x2,x3,x4,x5,x6,x7,x8,x9,x10,x11,x12,x13,x14,x15,x16,x17,x18,x19,x20,x21,x22,x23,x24,x25].drop 0).take (Tryz.prog.cellsOf 3)) = some y0:=hf 0 _ rfl
   have f1:DataW.trod enc Tryz.prog w 0 sp hd m 3 (([x0,x1,x2,x3,x4,x5,x6,x7,x8,x9,x10,x11,x12,x13,x14,x15,x16,x17,x18,x19,x20,x21,x22,x23,x24,x25].drop 1).take (Tryz.prog.cellsOf 3)) = some y1:=hf 1 _ rfl
   have f2:DataW.trod enc Tryz.prog w 0 sp hd m 3 (([x0,x1,x2,x3,x4,x5,x6,x7,x8,x9,x10,x11,x12,x13,x14,x15,x16,x17,x18,x19,x20,x21,x22,x23,x24,x25].drop 2).take (Tryz.prog.cellsOf 3)) = some y2:=hf 2 _ rfl
   have f3:DataW.trod enc Tryz.prog w 0 sp hd m 3 (([x0,x1,x2,x3,x4,x5,x6,x7,x8,x9,x10,x11,x12,x13,x14,x15,x16,x17,x18,x19,x20,x21,x22,x23,x24,x25].drop 3).take (Tryz.prog.cellsOf 3)) = some y3:=hf 3 _ rfl
   have f4:DataW.trod enc Tryz.prog w 0 sp hd m 29 (([x0,x1,x2,x3,x4,x5,x6,x7,x8,x9,x10,x11,x12,x13,x14,x15,x16,x17,x18,x19,x20,x21,x22,x23,x24,x25].drop 4).take (Tryz.prog.cellsOf 29)) = some y4:=hf 4 _ rfl
   have f5:DataW.trod enc Tryz.prog w 0 sp hd m 26 (([x0,x1,x2,x3,x4,x5,x6,x7,x8,x9,x10,x11,x12,x13,x14,x15,x16,x17,x18,x19,x20,x21,x22,x23,x24,x25].drop 18).take (Tryz.prog.cellsOf 26)) = some y5:=hf 5 _ rfl
   have f6:DataW.trod enc Tryz.prog w 0 sp hd m 9 (([x0,x1,x2,x3,x4,x5,x6,x7,x8,x9,x10,x11,x12,x13,x14,x15,x16,x17,x18,x19,x20,x21,x22,x23,x24,x25].drop 24).take (Tryz.prog.cellsOf 9)) = some y6:=hf 6 _ rfl
   have f7:DataW.trod enc Tryz.prog w 0 sp hd m 22 (([x0,x1,x2,x3,x4,x5,x6,x7,x8,x9,x10,x11,x12,x13,x14,x15,x16,x17,x18,x19,x20,x21,x22,x23,x24,x25].drop 25).take (Tryz.prog.cellsOf 22)) = some y7:=hf 7 _ rfl
   rw [b6d] at f0 f1 f2 f3
   rw [c3k] at f4
   rw [b6f] at f5
   rw [c3j] at f6
   rw [b3u] at f7
   obtain ⟨k0,e0,_,w0⟩:=DataW.trod_int Tryz.underlying3 f0
   obtain ⟨k1,e1,_,w1⟩:=DataW.trod_int Tryz.underlying3 f1
   obtain ⟨k2,e2,_,w2⟩:=DataW.trod_int Tryz.underlying3 f2
   obtain ⟨k3,e3,_,w3⟩:=DataW.trod_int Tryz.underlying3 f3
   obtain ⟨hld,av,yv,kv,eh,hH⟩:=d9k f4
   obtain ⟨t,et,ht⟩:=b6e f5
   obtain ⟨s,ess,_,hs⟩:=DataW.trod_string Tryz.underlying9 f6
   obtain ⟨kl,hkl⟩:=a9t f7
   simp only [List.drop_zero,List.take_succ_cons,List.take_zero,List.drop_succ_cons,List.cons.injEq,and_true,a8l,b7y] at e0 e1 e2 e3 eh et ess
   obtain ⟨h0,h1,h2,h3,h4,h5,h6,h7,h8,h9,h10,h11,h12,h13⟩:=eh
   obtain ⟨t0,t1,t2,t3,t4,t5⟩:=et
   refine ⟨⟨k0,k1,k2,k3,hld,t,s.data.toList,kl⟩,_,rfl,hc,av,yv,kv,x25,?_,⟨a6c w0,a6c w1,a6c w2,a6c w3,hH,ht,?_,hkl⟩⟩
   ·rw [e0,e1,e2,e3,h0,h1,h2,h3,h4,h5,h6,h7,h8,h9,h10,h11,h12,h13,t0,t1,t2,t3,t4,t5,ess,g5d s]
   ·show ((s.data.toList.length:Nat):Int) ≤ _
    have:s.data.toList.length = s.size:=by simp
    rw [this]
    have:maxLen = 9223372036854775807:=rfl
    omega) h
theorem c6t {b0:Nat} {v:Value} {d:DataW H} {ps:List MemPlace} (hval:Value.okWide Tryz.prog w .any b0 69 v) (h:DataW.Trod enc Tryz.prog w 0 sp hd 69 v d ps):∃ l,SRow 26 (b3o 26 VOp) w v l:=by
 obtain ⟨a,n,c,rfl⟩:=okWide_slice Tryz.underlying69 hval
 obtain ⟨fu,hf⟩:=h
 exact e9d hf
end
end Go.Proofs
namespace Go.Proofs
open Go Go.Sh Go.RowKit FdSpec TkSpec CodeSpec PuSpec DkSpec JnSpec
section
variable {K:VK} {w w' w0 W W':World} {L:List (Addr × Value)} {rb b:Nat} {s:Stp} {lims:List Lim} {p p':Ph} {items items':List Itm} {A:Ab} {P:Pst} {h:Dk}
theorem g0v (hP:PuR s lims w0 w p A P) (i:Int) (hi:InR i)
  (k:∀ w' p',PuR s lims w0 w' p' (a6f A P i 2).2.1 (a6f A P i 2).2.2 → PuSt p w p' w' → (p'.pb = p.pb ∧ p'.b = p.b) → K (.int .i64 (a6f A P i 2).1) w') :
  a0a Tryz.prog 75 #[.pointer (some ⟨p.pb,0,none⟩),.int .i64 i] K w:=by
 apply e5x
 unfold g2p
 exact e3l hP i 2 (.inl rfl) hi (fun w' p' a b c=>k w' p' a b c)
theorem g7s (s:Stp) (lims:List Lim) (A:Ab) (p:Pst) (o:OpM):d3w s lims A p o = if o.kind = 1 then (([],(a2l s lims A p o.a o.b o.c).1.2),(a2l s lims A p o.a o.b o.c).2)
 else if o.kind = 2 then ((a6v s lims A p o.a o.b o.next o.terms).1.2,(a6v s lims A p o.a o.b o.next o.terms).2)
 else if o.kind = 3 then (([],(a6f A p o.a 2).1),(a6f A p o.a 2).2)
 else if o.kind = 4 then (([],(a6f A p o.a 4).1),(a6f A p o.a 4).2)
 else if o.kind = 5 ∨ o.kind = 6 ∨ o.kind = 7 ∨ o.kind = 8 then (([],0),A,p)
 else (([],(c0u s lims A p o.held).1),(c0u s lims A p o.held).2):=rfl
set_option maxHeartbeats 4000000 in
theorem g7t (hP:PuR s lims w0 w p A P) (o:OpM) {av yv kv qv:Value} {D:Nat → Prop} (hD:∀ i,D i → i < w.heap.size ∧ ¬ Mu p i) (hx:FP D w (fun W=>HldR W o.held av yv kv)) (ho:OpR w o av yv kv qv) (htl:o.kind = 2 → o.terms.length ≤ 1000000)
  (hsm:∀ x ∈ P.items,c0f x.held) (hst:∀ x ∈ P.items,∀ y ∈ x.held.links,y.terms.length ≤ 1000000)
  (k:∀ w' p' v,PuR s lims w0 w' p' (d3w s lims A P o).2.1 (d3w s lims A P o).2.2 → PuSt p w p' w' → (p'.pb = p.pb ∧ p'.b = p.b) →
   FP (fun i=>w.heap.size ≤ i ∧ i < w'.heap.size ∧ ¬ Mu p' i) w' (fun W=>b4z W v (d3w s lims A P o).1.1) → (∀ ad n c,v = .slice ad n c → n ≤ c) → K (.tuple #[v,.int .i64 (d3w s lims A P o).1.2]) w') :
  a0a Tryz.prog 31 #[.pointer (some ⟨p.pb,0,none⟩),opV o av yv kv qv] K w:=by
 apply e6a
 unfold g2s
 obtain ⟨a1,n1,d1,a2,n2,d2,a3,n3,d3,rfl,rfl,rfl⟩:=a0y ho.held
 obtain ⟨q1,c1,rfl⟩:=ho.keep.isSlice
 have hnil:∀ W q,FP (fun i=>w.heap.size ≤ i ∧ i < W.heap.size ∧ ¬ Mu q i) W (fun W=>b4z W (.slice none 0 0) []):=fun W q _ _ _ _ _ _=>SRow.nil
 have hcz:∀ ad n c,(Value.slice none 0 0) = .slice ad n c → n ≤ c:=fun ad n c e=>by cases e; exact rL
 have k2:∀ r,d3w s lims A P o = r → ∀ w' p' v,PuR s lims w0 w' p' r.2.1 r.2.2 → PuSt p w p' w' → (p'.pb = p.pb ∧ p'.b = p.b) →
   FP (fun i=>w.heap.size ≤ i ∧ i < w'.heap.size ∧ ¬ Mu p' i) w' (fun W=>b4z W v r.1.1) → (∀ ad n c,v = .slice ad n c → n ≤ c) → K (.tuple #[v,.int .i64 r.1.2]) w':=fun r e=>by rw [← e]; exact k
 rw [g7s] at k2
 clear k
 refine a3f (cs:=opC o (.slice a1 n1 d1) (.slice a2 n2 d2) (.slice a3 n3 d3) (.slice q1 o.keep.length c1)) rfl (fun b1 w1 h1 hb1 hB1=>?_)
 have hP1:=hP.next h1
 have S1:PuSt p w p w1:=PuSt.below h1
 have hbc:∀ j u,(opC o (.slice a1 n1 d1) (.slice a2 n2 d2) (.slice a3 n3 d3) (.slice q1 o.keep.length c1))[j]? = some u → w1.cell? ⟨b1,0 + j,none⟩ = some u:=fun j u hj=>by rw [Nat.zero_add]; exact a1c hB1 hj
 have e0:w1.cell? ⟨b1,0,none⟩ = some (.int .i64 o.kind):=a1c hB1 (j:=0) rfl
 have e1:w1.cell? ⟨b1,1,none⟩ = some (.int .i64 o.a):=a1c hB1 (j:=1) rfl
 have e2:w1.cell? ⟨b1,2,none⟩ = some (.int .i64 o.b):=a1c hB1 (j:=2) rfl
 have e3:w1.cell? ⟨b1,3,none⟩ = some (.int .i64 o.c):=a1c hB1 (j:=3) rfl
 have e24:w1.cell? ⟨b1,24,none⟩ = some (.string ⟨o.terms.toArray⟩):=a1c hB1 (j:=24) rfl
 refine ⟨fun l W=>K (.tuple #[l.getD 3 undef,l.getD 1 undef]) W,?_,?_⟩
 case refine_2=>
  intro l u W h
  exact h
 by_cases g1:o.kind = 1
 ·rw [if_pos g1] at k2
  refine Xa (An5 @e0 @e1 @e2 @e3 @g1) ?_
  refine b2h hP1 o.a o.b o.c ho.c (fun w2 p2 hP2 t2 e=>?_)
  have k2:=k2 _ rfl w2 p2 _ hP2 (S1.trans t2) e (hnil _ _) hcz
  refine Xa0 ?_
  exact k2
 rw [if_neg g1] at k2
 by_cases g2:o.kind = 2
 ·rw [if_pos g2] at k2
  refine Xa (An4 @e0 @e1 @e2 @g2) ?_
  refine a1t (cs:=a8l o.next) (p:=18) (fun j u hj=>by have:=g0u hbc j u hj; rwa [Nat.zero_add] at this) b0l (by kernel_rfl) (by kernel_rfl) ?_
  refine Xa @e24 ?_
  refine g0s hP1 o.a o.b o.next (d0x ho.next) o.terms (htl g2) hsm hst (fun w2 p2 v2 hP2 t2 e hL hc=>?_)
  have z1:=h1.size
  have k2:=k2 _ rfl w2 p2 v2 hP2 (S1.trans t2) e (hL.mono (fun i hi=>⟨by omega,hi.2⟩)) hc
  refine Xa0 ?_
  exact k2
 rw [if_neg g2] at k2
 by_cases g3:o.kind = 3
 ·rw [if_pos g3] at k2
  refine Xa (An3 @e0 @e1 @g3) ?_
  refine g0v hP1 o.a ho.a (fun w2 p2 hP2 t2 e=>?_)
  have k2:=k2 _ rfl w2 p2 _ hP2 (S1.trans t2) e (hnil _ _) hcz
  refine Xa0 ?_
  exact k2
 rw [if_neg g3] at k2
 by_cases g4:o.kind = 4
 ·rw [if_pos g4] at k2
  refine Xa (An3 @e0 @e1 @g4) ?_
  refine g0t hP1 o.a ho.a (fun w2 p2 hP2 t2 e=>?_)
  have k2:=k2 _ rfl w2 p2 _ hP2 (S1.trans t2) e (hnil _ _) hcz
  refine Xa0 ?_
  exact k2
 rw [if_neg g4] at k2
 refine Xa (An5 @e0 @g1 @g2 @g3 @g4) ?_
 refine ⟨fun l W=>l.getD 0 undef = .bool (decide (o.kind = 5 ∨ o.kind = 6 ∨ o.kind = 7 ∨ o.kind = 8)) ∧ W = w1,?_,?_⟩
 ·by_cases g5:o.kind = 5
  ·rw [decide_eq_true (.inl g5)]
   refine Xa @g5 ?_
   exact ⟨rfl,rfl⟩
  by_cases g6:o.kind = 6
  ·rw [decide_eq_true (.inr (.inl g6))]
   refine Xa @g6 ?_
   exact ⟨rfl,rfl⟩
  by_cases g7:o.kind = 7
  ·rw [decide_eq_true (.inr (.inr (.inl g7)))]
   refine Xa @g7 ?_
   exact ⟨rfl,rfl⟩
  by_cases g8:o.kind = 8
  ·rw [decide_eq_true (.inr (.inr (.inr g8)))]
   refine Xa (An4 @g5 @g6 @g7 @g8) ?_
   exact ⟨rfl,rfl⟩
  ·rw [decide_eq_false (by rintro (e | e | e | e); exact g5 e; exact g6 e; exact g7 e; exact g8 e)]
   refine Xa (An4 @g5 @g6 @g7 @g8) ?_
   exact ⟨rfl,rfl⟩
 rintro lv u8 _ ⟨hlv,rfl⟩
 rw [hlv]
 by_cases g:o.kind = 5 ∨ o.kind = 6 ∨ o.kind = 7 ∨ o.kind = 8
 ·rw [if_pos g] at k2
  have k2:=k2 _ rfl _ p _ hP1 S1 ⟨rfl,rfl⟩ (hnil _ _) hcz
  rw [decide_eq_true g]
  refine Xa0 ?_
  exact k2
 ·rw [if_neg g] at k2
  rw [decide_eq_false g]
  refine Xa0 ?_
  refine a1t (cs:=b7y o.held (.slice a1 n1 d1) (.slice a2 n2 d2) (.slice a3 n3 d3)) (p:=4) (fun j u hj=>by have:=e3m hbc j u hj; rwa [Nat.zero_add] at this) a8o (by kernel_rfl) (by kernel_rfl) ?_
  refine e3e hP1 o.held (D:=D) (fun i hi=>⟨by have:=hD i hi; have:=h1.size; omega,(hD i hi).2⟩) (hx.next h1 (fun i hi=>(hD i hi).1)) (fun w2 p2 hP2 t2 e=>?_)
  have k2:=k2 _ rfl w2 p2 _ hP2 (S1.trans t2) e (hnil _ _) hcz
  refine Xa0 ?_
  exact k2
end
end Go.Proofs
namespace Go.Proofs
open Go.Sh Tryz
variable {a0 a1 a2:Value} {K:VK} {w:World}
def g2l (a0 a1 a2:Value) (K:VK) (w:World):Prop:=
 oM prog (.box 26 (.tmp 0)) 0 [a1] (fun v4=>
 oM prog (.box 84 (.tmp 0)) 0 [a2] fun v5=>
 kQ [(.slice none 0 0),(.bool false),(.int .i64 0)] fun J_3 m_4 l_5 u_l_5 w0_l_5=>(fun w=>(
 kN 80 a0 (fun v11=>
 kB .lss 3 4 (l_5.getD 2 undef) v11 fun v12=>
 kO v12 (kH fun C_8 w=>(((true:Bool) = true) ∧ (a0d a0 C_8 fun v15=>
 a0d (l_5.getD 2 undef) C_8 fun v16=>
 jI 80 v15 v16 C_8 fun v17=>
 jF 161 0 v17 C_8 fun v18=>
 jL 26 v18 C_8 fun v19=>
 jL 26 v4 C_8 fun v20=>
 jB .eql 26 4 v19 v20 C_8 fun v21=>
 ∃ S_16:World → WK,∀ w,C_8 w → (kO v21 (kH fun C_17 w=>(((true:Bool) = true) ∧ (a0d a0 C_17 fun v22=>
 a0d a0 C_17 fun v23=>
 a0d (l_5.getD 2 undef) C_17 fun v24=>
 jI 80 v23 v24 C_17 fun v25=>
 jF 161 1 v25 C_17 fun v26=>
 jL 84 v26 C_17 fun v27=>
 jL 84 v5 C_17 fun v28=>
 ∃ S_25:World → WK,xR S_25 fun R_26=>
 (∀ w,C_17 w → (a0a prog 85 #[v27,v28] (xK C_17 S_25 R_26 w) w)) ∧
 (∀ w,C_17 w → ∀ v29,R_26 v29 w → (
 K (.tuple #[v22,v29]) w)))))
 (kB .add 3 3 (l_5.getD 2 undef) (.int .i64 1) fun v14=>
 kJ J_3 m_4 l_5 w0_l_5 [(l_5.getD 0 undef),(l_5.getD 1 undef),v14]) w))))
 (kH fun C_29 w=>(((true:Bool) = true) ∧ (a0d a0 C_29 fun v31=>
 jL 26 v4 C_29 fun v33=>
 jL 84 v5 C_29 fun v34=>
 ∃ S_33:World → WK,xR S_33 fun R_34=>
 (∀ w,C_29 w → (oM prog (.buildSlice 80 0 #[]) 80 [] (xK C_29 S_33 R_34 w) w)) ∧
 (xR S_33 fun R_35=>
 (∀ w,C_29 w → ∀ v30,R_34 v30 w → (oM prog (.call (Go.Call.mk (.builtin .append) #[(.tmp 0),(.tmp 1)] #[80,80])) 80 [v30,v31] (xK C_29 S_33 R_35 w) w)) ∧
 (xR S_33 fun R_37=>
 (∀ w,C_29 w → (oM prog (.build 161 #[(0,(.tmp 0)),(1,(.tmp 1))]) 161 [v33,v34] (xK C_29 S_33 R_37 w) w)) ∧
 (xR S_33 fun R_38=>
 (∀ w,C_29 w → ∀ v35,R_37 v35 w → (oM prog (.buildSlice 80 1 #[(0,(.tmp 0))]) 80 [v35] (xK C_29 S_33 R_38 w) w)) ∧
 (∀ w,C_29 w → ∀ v30,R_34 v30 w → ∀ v32,R_35 v32 w → ∀ v35,R_37 v35 w → ∀ v36,R_38 v36 w → (
 oM prog (.call (Go.Call.mk (.builtin .append) #[(.tmp 0),(.tmp 1)] #[80,80])) 80 [v32,v36] (fun v37=>
 K (.tuple #[v37,(.bool true)])) w))))))))) w)) w0_l_5) w
theorem e5t (h:g2l a0 a1 a2 K w):a0a prog 38 #[a0,a1,a2] K w:=
 cZ (mz [(4,fz 7 0 0),(5,fz 7 1 2),(6,.free [1,3,4] [0,2,5,6] [7,8,9])]) func38 h
def g2m (a0 a1 a2:Value) (K:VK) (w:World):Prop:=
 oM prog (.box 50 (.tmp 0)) 0 [a0] (fun v3=>
 a0a prog 26 #[a1] fun v15=>
 kQ [undef,(.slice none 0 0),(.bool false),undef,undef,a2,(.int .i64 0)] fun J_3 m_4 l_5 u_l_5 w0_l_5=>(fun w=>(
 kN 59 v15 (fun v18=>
 kB .lss 3 4 (l_5.getD 6 undef) v18 fun v19 w=>
 gT v19 (a0c (l_5.getD 6 undef)) (fun v21 w=>
 gT v19 (kB .lss 3 4 v21 (.int .i64 30)) (fun v22=>
 kP v19 v22 (.bool false) fun v23 w=>
 a1o v23
 (a4a (fun M_11=>(a0a prog 55 #[a1,(l_5.getD 6 undef)] (fun v29=>
 kE 0 84 v29 fun v30=>
 kE 1 62 v29 fun v31=>
 kA 84 fun v10=>
 kS 84 v10 v30 fun _=>
 kC .eql 62 0 4 v31 fun v33=>
 kI 59 v15 (l_5.getD 6 undef) fun v36=>
 kF 67 1 v36 fun v37=>
 kL 3 v37 fun v38=>
 kC .eql 3 1 4 v38 fun v39 w=>
 gF v39 (a0c v15) (fun v41 w=>
 gF v39 (a0c (l_5.getD 6 undef)) (fun v42 w=>
 gF v39 (kI 59 v41 v42) (fun v43 w=>
 gF v39 (kF 67 1 v43) (fun v44 w=>
 gF v39 (kL 3 v44) (fun v45 w=>
 gF v39 (kC .eql 3 2 4 v45) (fun v46=>
 kP v39 (.bool true) v46 fun v47=>
 kB .neq 4 4 v33 v47 fun v48=>
 kO v48 (K (.tuple #[(l_5.getD 5 undef),(.bool false)]))
 (kC .neq 62 0 4 v31 fun v51=>
 kO v51 (M_11 [v31,(l_5.getD 1 undef),(l_5.getD 2 undef),(l_5.getD 3 undef),(l_5.getD 4 undef),(l_5.getD 5 undef)])
 (kH fun C_31 w=>(((true:Bool) = true) ∧ (a0d (l_5.getD 5 undef) C_31 fun v53=>
 a0d v15 C_31 fun v54=>
 a0d (l_5.getD 6 undef) C_31 fun v55=>
 jI 59 v54 v55 C_31 fun v56=>
 jF 67 0 v56 C_31 fun v57=>
 jF 29 4 v57 C_31 fun v58=>
 jL 26 v58 C_31 fun v59=>
 jL 84 v10 C_31 fun v60=>
 ∃ S_40:World → WK,xR S_40 fun R_41=>
 (∀ w,C_31 w → (a0a prog 38 #[v53,v59,v60] (xK C_31 S_40 R_41 w) w)) ∧
 (xR S_40 fun R_42=>
 (∀ w,C_31 w → ∀ v61,R_41 v61 w → (C_31 w ∧ S_40 w w ∧ R_42 v61 w)) ∧
 (xR S_40 fun R_44=>
 (∀ w,C_31 w → ∀ v52,R_42 v52 w → (kE 0 80 v52 (xK C_31 S_40 R_44 w) w)) ∧
 (xR S_40 fun R_46=>
 (∀ w,C_31 w → ∀ v52,R_42 v52 w → (kE 1 4 v52 (xK C_31 S_40 R_46 w) w)) ∧
 (xR S_40 fun R_48=>
 (∀ w,C_31 w → ∀ v62,R_44 v62 w → (C_31 w ∧ S_40 w w ∧ R_48 v62 w)) ∧
 (∀ w,C_31 w → ∀ v61,R_41 v61 w → ∀ v52,R_42 v52 w → ∀ v62,R_44 v62 w → ∀ v63,R_46 v63 w → ∀ v12,R_48 v12 w → (kH (fun C_55 w=>(((true:Bool) = true) ∧ (a0d v63 C_55 fun v64=>
 jU v64 C_55 fun v65=>
 a0d v65 C_55 fun v66=>
 jG v66 (jF 84 0 v10) C_55 fun v67=>
 jG v66 (jL 3 v67) C_55 fun v68=>
 jG v66 (a0d v15) C_55 fun v69=>
 jG v66 (a0d (l_5.getD 6 undef)) C_55 fun v70=>
 jG v66 (jI 59 v69 v70) C_55 fun v71=>
 jG v66 (jF 67 2 v71) C_55 fun v72=>
 jG v66 (jL 3 v72) C_55 fun v73=>
 jG v66 (jB .neq 3 4 v68 v73) C_55 fun v74=>
 jP v66 (.bool true) v74 C_55 fun v75=>
 a0d v75 C_55 fun v76=>
 jG v76 (jL 50 v3) C_55 fun v77=>
 jG v76 (a0d v15) C_55 fun v78=>
 jG v76 (a0d (l_5.getD 6 undef)) C_55 fun v79=>
 jG v76 (jI 59 v78 v79) C_55 fun v80=>
 jG v76 (jF 67 0 v80) C_55 fun v81=>
 jG v76 (jF 29 4 v81) C_55 fun v82=>
 jG v76 (jL 26 v82) C_55 fun v83=>
 jG v76 (jL 84 v10) C_55 fun v84=>
 ∃ S_77:World → WK,∀ w,C_55 w → (
 gF v76 (a0a prog 39 #[v77,v83,v84]) (fun v85 w=>
 gF v76 (kU v85) (fun v86=>
 kP v76 (.bool true) v86 fun v87=>
 kO v87 (K (.tuple #[(l_5.getD 5 undef),(.bool false)]))
 (M_11 [v31,(l_5.getD 1 undef),(l_5.getD 2 undef),v12,v63,v12])) w) w)))) w))))))))))) w) w) w) w) w) w) w))
 fun l_12 u_l_12 w=>(kB .add 3 3 (l_5.getD 6 undef) (.int .i64 1) (fun v25=>
 kJ J_3 m_4 l_5 w0_l_5 [(l_12.getD 0 undef),(l_12.getD 1 undef),(l_12.getD 2 undef),(l_12.getD 3 undef),(l_12.getD 4 undef),(l_12.getD 5 undef),v25]) w))
 (K (.tuple #[(l_5.getD 5 undef),(.bool true)]) w)) w) w) w)) w0_l_5) w
theorem e5u (h:g2m a0 a1 a2 K w):a0a prog 40 #[a0,a1,a2] K w:=
 cZ (mz [(9,fz 8 5 1),(10,fz 21 0 3)]) func40 h
def h2m (a0 a1 a2:Value) (K:VK) (w:World):Prop:=
 oM prog (.box 50 (.tmp 0)) 0 [a0] (fun v3=>
 a0a prog 12 #[] fun v21=>
 kL 50 v3 fun v22=>
 a0a prog 23 #[v22,a1] fun v24=>
 kU v24 fun v25 w=>
 gF v25 (a0c a2) (fun v27 w=>
 gF v25 (a0a prog 30 #[v27,(.int .i64 14)]) (fun v28 w=>
 gF v25 (kU v28) (fun v29=>
 kP v25 (.bool true) v29 fun v30=>
 kO v30 (K v21)
 (a0a prog 35 #[] fun v32=>
 oM prog (.binOp .eql 55 (.tmp 0) (.const (.pointer none)) 55) 4 [v32] fun v34=>
 kO v34 (K (.bool false))
 (kL 50 v3 fun v37=>
 a0a prog 34 #[v32,v37,a1] fun v39=>
 kE 0 56 v39 fun v40=>
 kE 1 62 v39 fun v41=>
 oM prog (.buildSlice 80 0 #[]) 80 [] fun v42=>
 kQ [undef,undef,undef,v40,v41,undef,undef,(.bool false),undef,undef,v42,undef,undef,(.int .i64 0)] fun J_17 m_18 l_19 u_l_19 w0_l_19=>(fun w=>(
 kN 69 a2 (fun v45=>
 kB .lss 3 4 (l_19.getD 13 undef) v45 fun v46 w=>
 a1o v46
 (a4a (fun M_22=>(kI 69 a2 (l_19.getD 13 undef) (fun v51=>
 kL 72 v51 fun v52=>
 kA 72 fun v13=>
 kS 72 v13 v52 fun _ w=>
 a4a (fun M_27=>(kF 72 0 v13 (fun v53=>
 kL 3 v53 fun v54=>
 kC .eql 3 5 4 v54 fun v56=>
 kO v56 (kF 72 1 v13 fun v58=>
 kL 3 v58 fun v59=>
 a0a prog 36 #[v32,v59] fun v60=>
 M_27 [v56,(l_19.getD 1 undef),(l_19.getD 2 undef),(l_19.getD 3 undef),(l_19.getD 4 undef)])
 (kC .eql 3 6 4 v54 fun v62 w=>
 a1o v62
 (kF 72 1 v13 (fun v64=>
 kL 3 v64 fun v65=>
 kF 72 7 v13 fun v66=>
 kL 22 v66 fun v67=>
 a0a prog 37 #[v32,v65,v67] fun v68=>
 M_27 [v56,v62,(l_19.getD 2 undef),(l_19.getD 3 undef),(l_19.getD 4 undef)]) w)
 (a4a (fun M_41=>(kC .eql 3 7 4 v54 (fun v70=>
 kO v70 (M_41 [v70])
 (kC .eql 3 8 4 v54 fun v71=>
 M_41 [v71])) w))
 fun l_42 u_l_42 w=>(a1o (l_42.getD 0 undef)
 (a4a (fun M_45=>(kF 72 0 v13 (fun v72=>
 kL 3 v72 fun v73=>
 kC .eql 3 7 4 v73 fun v74=>
 kO v74 (kF 72 7 v13 fun v76=>
 kL 22 v76 fun v77=>
 a0a prog 32 #[v32,v77] fun v78=>
 M_45 [])
 (M_45 [])) w))
 fun l_46 u_l_46 w=>(a0a prog 33 #[v32] (fun v80=>
 kL 50 v3 fun v83=>
 a0a prog 34 #[v32,v83,a1] fun v85=>
 kE 0 56 v85 fun v86=>
 kE 1 62 v85 fun v87=>
 M_27 [v56,v62,(l_42.getD 0 undef),v86,v87]) w))
 (M_27 [v56,v62,(l_42.getD 0 undef),(l_19.getD 3 undef),(l_19.getD 4 undef)] w))))) w))
 fun l_28 u_l_28 w=>(oM prog (.binOp .eql 56 (.tmp 0) (.const (.pointer none)) 56) 4 [(l_28.getD 3 undef)] (fun v89 w=>
 gF v89 (a0c (l_28.getD 4 undef)) (fun v91 w=>
 gF v89 (kC .neq 62 0 4 v91) (fun v92=>
 kP v89 (.bool true) v92 fun v93=>
 kO v93 (M_22 [(l_28.getD 0 undef),(l_28.getD 1 undef),(l_28.getD 2 undef),(l_28.getD 3 undef),(l_28.getD 4 undef),(l_19.getD 5 undef),(l_19.getD 6 undef),(l_19.getD 7 undef),(l_19.getD 8 undef),(l_19.getD 9 undef),(l_19.getD 10 undef),(l_19.getD 11 undef),(l_19.getD 12 undef)])
 (kL 72 v13 fun v96=>
 a0a prog 31 #[(l_28.getD 3 undef),v96] fun v97=>
 kE 0 27 v97 fun v98=>
 kE 1 62 v97 fun v99 w=>
 a4a (fun M_66=>(kF 72 0 v13 (fun v100=>
 kL 3 v100 fun v101=>
 kC .eql 3 2 4 v101 fun v102 w=>
 gT v102 (a0c v99) (fun v104 w=>
 gT v102 (kC .eql 62 0 4 v104) (fun v105=>
 kP v102 v105 (.bool false) fun v106=>
 kO v106 (kN 27 v98 fun v108=>
 kC .eql 3 0 4 v108 fun v109=>
 kO v109 (K (.bool false))
 (kN 27 v98 fun v112=>
 kB .sub 3 3 v112 (.int .i64 1) fun v113=>
 kI 27 v98 v113 fun v114=>
 kL 86 v114 fun v115=>
 kA 86 fun v16=>
 kS 86 v16 v115 fun _=>
 kF 86 0 v16 fun v118=>
 kL 26 v118 fun v119=>
 kF 86 1 v16 fun v120=>
 kL 84 v120 fun v121=>
 a0a prog 38 #[(l_19.getD 10 undef),v119,v121] fun v122=>
 kE 0 80 v122 fun v123=>
 kE 1 4 v122 fun v124=>
 kU v124 fun v126 w=>
 gF v126 (kL 50 v3) (fun v128 w=>
 gF v126 (kF 86 0 v16) (fun v129 w=>
 gF v126 (kL 26 v129) (fun v130 w=>
 gF v126 (kF 86 1 v16) (fun v131 w=>
 gF v126 (kL 84 v131) (fun v132 w=>
 gF v126 (a0a prog 39 #[v128,v130,v132]) (fun v133 w=>
 gF v126 (kU v133) (fun v134=>
 kP v126 (.bool true) v134 fun v135=>
 kO v135 (K (.bool false))
 (M_66 [(l_19.getD 7 undef),v123,v124,v123])) w) w) w) w) w) w) w))
 (M_66 [(l_19.getD 7 undef),(l_19.getD 8 undef),(l_19.getD 9 undef),(l_19.getD 10 undef)])) w) w) w))
 fun l_67 u_l_67 w=>(kL 50 v3 (fun v138=>
 a0a prog 40 #[v138,(l_28.getD 3 undef),(l_67.getD 3 undef)] fun v141=>
 kE 0 80 v141 fun v142=>
 kE 1 4 v141 fun v143=>
 kU v143 fun v145=>
 kO v145 (K (.bool false))
 (M_22 [(l_28.getD 0 undef),(l_28.getD 1 undef),(l_28.getD 2 undef),(l_28.getD 3 undef),(l_28.getD 4 undef),v98,v99,(l_67.getD 0 undef),(l_67.getD 1 undef),(l_67.getD 2 undef),v142,v142,v143])) w))) w) w) w)) w))
 fun l_23 u_l_23 w=>(kB .add 3 3 (l_19.getD 13 undef) (.int .i64 1) (fun v48=>
 kJ J_17 m_18 l_19 w0_l_19 [(l_23.getD 0 undef),(l_23.getD 1 undef),(l_23.getD 2 undef),(l_23.getD 3 undef),(l_23.getD 4 undef),(l_23.getD 5 undef),(l_23.getD 6 undef),(l_23.getD 7 undef),(l_23.getD 8 undef),(l_23.getD 9 undef),(l_23.getD 10 undef),(l_23.getD 11 undef),(l_23.getD 12 undef),v48]) w))
 (K v21 w)) w)) w0_l_19))) w) w) w) w
theorem f8f (h:h2m a0 a1 a2 K w):a0a prog 8 #[a0,a1,a2] K w:=
 cZ (fun _=>0) func8 h
end Go.Proofs
namespace Go.Proofs
open Go Go.Sh Go.RowKit FdSpec TkSpec CodeSpec PuSpec DkSpec JnSpec
abbrev SpP:=(Tkt × Spd) × (Option Addr × Nat × Nat)
@[reducible] def g7u (y:SpP):Value:=.slice y.2.1 y.2.2.1 y.2.2.2
@[reducible] def spC (t:Tkt) (d:Int) (v:Value):List Value:=[.int .i64 t.mark,.int .i64 t.first,.int .i64 t.z,.int .i64 t.a,.int .i64 t.b,.int .i64 t.r,.int .i64 d,v]
@[reducible] def d3y (y:SpP):List Value:=spC y.1.1 y.1.2.dare (g7u y)
def SpL (D:Nat → Prop) (w:World) (v:Value) (l:Sps):Prop:=∃ ys:List SpP,ys.map (fun y:SpP=>y.1) = l ∧ FP D w (fun W=>RowR d3y 8 W v ys ∧ ∀ y ∈ ys,Ints W (g7u y) y.1.2.answers)
section
variable {K:VK} {w w' w0 W W':World} {L:List (Addr × Value)} {rb b:Nat} {s:Stp} {lims:List Lim} {p p':Ph} {items items':List Itm} {A:Ab} {P:Pst} {h:Dk}
@[go_sem] theorem h2b (T:TypeId) (b o n c:Nat) (x:Int):oM Tryz.prog (.indexAddr 80 (.tmp 0) (.tmp 1)) T [.slice (some ⟨b,o,none⟩) n c,.int .i64 x] = onM (0 ≤ x ∧ x < n) (.pointer (some ⟨b,o + x.toNat * 8,none⟩)):=
 b2f (K:=fun _ _=>True) (P:=Tryz.prog) (n:=8) 80 T (by kernel_rfl) (fun w=>by kernel_rfl) b o n c x
theorem f7l (t:Tkt) (d:Int) (ad:Option Addr) (n c:Nat):∀ u ∈ spC t d (.slice ad n c),u.oneCell' = true:=by
 intro u hu
 simp only [spC,List.mem_cons,List.not_mem_nil,or_false] at hu
 rcases hu with rfl | rfl | rfl | rfl | rfl | rfl | rfl | rfl <;> rfl
theorem f2o (T:TypeId) (t:Tkt) (d:Int) (ad:Option Addr) (n c:Nat):oM Tryz.prog (Go.Op.build 161 #[(0,(.tmp 0)),(1,(.tmp 1))]) T [b7r t,.agg #[.int .i64 d,.slice ad n c]] = a0c (.agg (spC t d (.slice ad n c)).toArray):=by
 funext K w
 kernel_rfl
theorem g7v {T:TypeId} (t:Tkt) (d:Int) (ad:Option Addr) (n c:Nat) (k:∀ g W,Bw w W → w.heap.size ≤ g → Holds W g 161 (spC t d (.slice ad n c)) → K (.slice (some ⟨g,0,none⟩) 1 1) W):oM Tryz.prog (.buildSlice 80 1 #[(0,.tmp 0)]) T [.agg (spC t d (.slice ad n c)).toArray] K w:=by
 rw [a2k]; exact b7a (by kernel_rfl) k
theorem e3o {T:TypeId} (k:∀ W,Bw w W → W.ownsRow w.heap.size 161 8 (.slice (some ⟨w.heap.size,0,none⟩) 0 0) 0 [] → K (.slice (some ⟨w.heap.size,0,none⟩) 0 0) W):oM Tryz.prog (.buildSlice 80 0 #[]) T [] K w:=by
 refine Xa0 ?_
 exact k _ ((Below.refl _ w).alloc (rL) _) (World.ownsRow_lit w #[] 0 (rL) (Nat.zero_le _) rfl)
theorem SpL.next {D:Nat → Prop} {v:Value} {l:Sps} (h:SpL D w v l) (hb:Bw w w') (hD:∀ i,D i → i < w.heap.size):SpL D w' v l:=by
 obtain ⟨ys,e,h⟩:=h
 exact ⟨ys,e,h.next hb hD⟩
theorem SpL.mono {D E:Nat → Prop} {v:Value} {l:Sps} (h:SpL D w v l) (hD:∀ i,D i → E i):SpL E w v l:=by
 obtain ⟨ys,e,h⟩:=h
 exact ⟨ys,e,h.mono hD⟩
theorem SpL.fr {D S:Nat → Prop} {v:Value} {l:Sps} (h:SpL D w v l) (hf:Fr S w w') (hD:∀ i,D i → i < w.heap.size ∧ ¬ S i):SpL D w' v l:=by
 obtain ⟨ys,e,h⟩:=h
 exact ⟨ys,e,h.fr hf hD⟩
theorem g0w {t:Tkt} {d:Int} {v:Value} {j:Nat} {u:Value} (hj:(a8l t)[j]? = some u):(spC t d v)[j]? = some u:=by
 have hl:=(gS hj).1
 have:spC t d v = a8l t ++ [.int .i64 d,v]:=rfl
 rw [this,List.getElem?_append_left hl]
 exact hj
theorem g7w {b o:Nat} {ys:List SpP} (h:∀ (k:Nat) (x:Value),(a2g d3y ys)[k]? = some x → w.cell? ⟨b,o + k,none⟩ = some x) {i:Nat} (hi:i < ys.length):∀ (j:Nat) (u:Value),(d3y ys[i])[j]? = some u → w.cell? ⟨b,o + i * 8 + j,none⟩ = some u:=fun j u hj=>by
 have hl:j < 8:=(gS hj).1
 have:=b0d (mk:=d3y) (sz:=8) (fun _=>rfl) ys i j (gE hi) hl
 have:=h (i * 8 + j) u (this.trans hj)
 rwa [Nat.add_assoc]
theorem f2p {B n sz:Nat} {e:TypeId} {v:Value} {xs:List Value} (h:w.ownsRow B e sz v n xs) {i:Nat} (hi:Value.inBlock v = some i):v.ownBlock = some i:=by
 rcases h.2 with ⟨rfl,_⟩ | ⟨g,cap,cur,rfl,_⟩
 ·cases hi
 ·exact hi
theorem e3p {l:Sps} {t:Tkt} {x:Spd} (h:∀ e ∈ l,e.1 ≠ t):b4u l t x = (l ++ [(t,x)],true):=by
 unfold b4u
 have:(l.find? fun e=>decide (e.1 = t)) = none:=by
  rw [List.find?_eq_none]
  intro e he
  simpa using h e he
 rw [this]
theorem e3q {l:Sps} {t:Tkt} {x:Spd} {i:Nat} (hi:i < l.length) (h:∀ e ∈ l.take i,e.1 ≠ t) (e:l[i].1 = t):b4u l t x = (l,decide (l[i].2 = x)):=by
 unfold b4u
 have:(l.find? fun e=>decide (e.1 = t)) = some l[i]:=by
  rw [List.find?_eq_some_iff_getElem]
  refine ⟨by simpa using e,i,hi,rfl,fun j hj=>?_⟩
  have:=h l[j] (by rw [List.mem_take_iff_getElem]; exact ⟨j,by omega,rfl⟩)
  simpa using this
 rw [this]
set_option maxHeartbeats 4000000 in
theorem e3r (l:Sps) (t:Tkt) (x:Spd) {v xv:Value} {D:Nat → Prop} (hD:∀ i,D i → i < w.heap.size) (hl:SpL D w v l) (hx:FP D w (fun W=>Ints W xv x.answers)) (hn:l.length < 1000) (hok:(b4u l t x).2 = true)
  (k:∀ w' v',Bw w w' → SpL (fun i=>D i ∨ (w.heap.size ≤ i ∧ i < w'.heap.size)) w' v' (b4u l t x).1 → K (.tuple #[v',.bool true]) w'):a0a Tryz.prog 38 #[v,b7r t,.agg #[.int .i64 x.dare,xv]] K w:=by
 apply e5t
 unfold g2l
 obtain ⟨xad,xc,rfl⟩:=hx.here.isSlice
 obtain ⟨ys,rfl,hY⟩:=hl
 have hrow:=hY.here.1
 obtain ⟨ad,c,rfl,hnil,hcells⟩:=hrow
 have hxl:=hx.here.len
 have hyn:ys.length < 1000:=by simpa using hn
 refine a3f (cs:=a8l t) rfl (fun b1 w1 h1 hb1 hB1=>?_)
 refine a3f (cs:=[.int .i64 x.dare,.slice xad x.answers.length xc]) rfl (fun b2 w2 h2 hb2 hB2=>?_)
 have hB1:=hB1.next h2
 have h02:=h1.on h2
 have z02:=h02.size
 refine ⟨fun vs W=>∃ (i:Nat),vs = [.slice none 0 0,.bool false,.int .i64 (i:Int)] ∧ i ≤ ys.length ∧ (∀ e ∈ (ys.map (fun y:SpP=>y.1)).take i,e.1 ≠ t) ∧ Nx w2 W,
  (fun vs _=>match vs with | [_,_,.int _ i]=>ys.length - i.toNat | _=>0),⟨0,rfl,by omega,(by simp),bR⟩,?_⟩
 rintro _ _ w3 ⟨i,rfl,hi,ha,h3⟩
 have h03:=h02.on h3
 by_cases hin:i = ys.length
 ·subst hin
  rw [List.take_of_length_le (by simp)] at ha
  rw [e3p ha] at k
  refine Xa0 ?_
  have hbd:Below w3.heap.size w3 { w3 with drawn:=w3.drawn + 1 }:=.drawn
  refine ⟨Nx { w3 with drawn:=w3.drawn + 1 },bR,rfl,?_⟩
  have h0d:=h03.on hbd
  have h2d:=h3.on hbd
  generalize ({ w3 with drawn:=w3.drawn + 1 }:World) = W4 at hbd h0d h2d ⊢
  have qT:∀ W0,Nx W4 W0 → Holds W0 b1 _ _:=fun W0 h=>hB1.next (h2d.on h)
  have qS:∀ W0,Nx W4 W0 → Holds W0 b2 _ _:=fun W0 h=>hB2.next (h2d.on h)
  refine a7z ?_
  refine a3v (cs:=a8l t) (p:=0) (fun W h i' u hi'=>by rw [Nat.zero_add]; exact a1c (qT W h) hi') b0l (by kernel_rfl) (by kernel_rfl) ?_
  refine a3v (cs:=[.int .i64 x.dare,.slice xad x.answers.length xc]) (p:=0) (fun W h i' u hi'=>by rw [Nat.zero_add]; exact a1c (qS W h) hi') a7j (by kernel_rfl) (by kernel_rfl) ?_
  refine ⟨Nx,?_⟩
  refine a7x (fun v' w'=>∃ g,v' = .slice (some ⟨g,0,none⟩) 0 0 ∧ w'.ownsRow W4.heap.size 161 8 v' 0 []) (fun v w w1 hS h=>h.imp fun g h=>⟨h.1,a0r h.2 (fun i hi=>hS.block i (a0p h.2 hi).1)⟩) ?_ ?_
  ·intro w5 h5
   exact e3o (fun w6 h6 ho=>⟨h5.on h6,h6,_,rfl,a4v ho h5.size⟩)
  refine a7x (fun v' w'=>w'.ownsRow W4.heap.size 161 8 v' ys.length (a2g d3y ys)) (fun v w w1 hS h=>a0r h (fun i hi=>hS.block i (a0p h hi).1)) ?_ ?_
  ·rintro w5 h5 _ ⟨g,rfl,ho⟩
   have hz5:=h5.size
   refine c7j 80 80 161 ((Tryz.prog.info? 161).getD default) (.agg (spC ⟨0,0,0,0,0,0⟩ 0 (.slice none 0 0)).toArray) 8 80 (by kernel_rfl) (by kernel_rfl) (by kernel_rfl) (by kernel_rfl) (by kernel_rfl) (by kernel_rfl) (by omega) hz5 ho (a2g d3y ys) (a6z (sz:=8) (fun _=>rfl) ys) hnil ?_ ?_ (by simp only [maxLen]; omega) (by omega) (fun v' w6 ho6 h6 _=>⟨h5.on h6,h6,ho6⟩)
   ·rintro a rfl j u hj
    rcases hcells with h | ⟨lb,lo,hbo,hlb,hcc⟩
    ·rw [h] at hj; simp [a2g] at hj
    ·cases hbo
     rw [a2d]
     exact ((h0d.on h5).cell hlb).trans (hcc j u hj)
   ·intro u hu
    unfold a2g at hu
    obtain ⟨y,_,hy⟩:=List.mem_flatMap.1 hu
    exact f7l _ _ _ _ _ u hy
  apply a7l
  ·intro w5 h5
   rw [f2o]
   exact ⟨h5,bR,rfl⟩
  refine a7x (fun v' w'=>∃ g,v' = .slice (some ⟨g,0,none⟩) 1 1 ∧ Holds w' g 161 (spC t x.dare (.slice xad x.answers.length xc))) (fun v w w1 hS h=>h.imp fun g h=>⟨h.1,h.2.next hS⟩) ?_ ?_
  ·rintro w5 h5 _ rfl
   exact g7v t x.dare xad x.answers.length xc (fun g w6 h6 hg hH=>⟨h5.on h6,h6,g,rfl,hH⟩)
  rintro w7 h7 _ ⟨g30,rfl,ho30⟩ v32 ho32 _ rfl _ ⟨g36,rfl,hH36⟩
  have z7:=h7.size
  have z0d:=h0d.size
  refine a7a 80 80 161 ((Tryz.prog.info? 161).getD default) (.agg (spC ⟨0,0,0,0,0,0⟩ 0 (.slice none 0 0)).toArray) 8 80 (by kernel_rfl) (by kernel_rfl) (by kernel_rfl) (by kernel_rfl) (by kernel_rfl) (by kernel_rfl) (by omega) (a4v ho32 (Nat.zero_le _)) (ad:=some ⟨g36,0,none⟩) (m:=1) (c:=1) (spC t x.dare (.slice xad x.answers.length xc)) rfl (fun h=>by cases h) ?_ (f7l _ _ _ _ _) (by simp only [maxLen]; omega) (by omega) (fun v' w8 ho8 hg8 hv8=>?_)
  ·rintro a ha j u hj
   cases ha
   rw [a2d,Nat.zero_add]
   exact a1c hH36 hj
  have hown:∀ i,v32.ownBlock = some i → W4.heap.size ≤ i:=fun i hi=>(a0p ho32 hi).2.1
  have f8:=Fr.of_by' hg8
  have z8:=f8.size
  have h48:Bw W4 w8:=(h7.trans ⟨f8.os,f8.tape,f8.output,f8.size,fun i hi=>f8.block i (by omega) (fun e=>by have:=hown i e; omega)⟩)
  have h08:=h0d.on h48
  refine k w8 v' h08 ⟨ys ++ [((t,x),xad,x.answers.length,xc)],by simp,?_⟩
  have hfl:a2g d3y (ys ++ [((t,x),xad,x.answers.length,xc)]) = a2g d3y ys ++ spC t x.dare (.slice xad x.answers.length xc):=by rw [flat_snoc]
  have hlen:(ys ++ [((t,x),xad,x.answers.length,xc)]:List SpP).length = ys.length + 1:=by simp
  have hR8:RowR d3y 8 w8 v' (ys ++ [((t,x),xad,x.answers.length,xc)]):=RowR.of_owns (B:=0) (e:=161) (by rw [hfl,hlen]; exact ho8)
  have hin8:∀ i,Value.inBlock v' = some i → w.heap.size ≤ i ∧ i < w8.heap.size:=fun i hi=>by
   have hi:=f2p ho8 hi
   refine ⟨?_,(a0p ho8 hi).1⟩
   rcases hv8 i hi with e | e
   ·have:=hown i e; omega
   ·omega
  have hY8:=hY.next h08 hD
  have hx8:=hx.next h08 hD
  intro W2 a1 a2 a3 a4 a5
  have hyW:=hY8 W2 a1 a2 a3 a4 (fun i hi=>a5 i (.inl hi))
  have hxW:=hx8 W2 a1 a2 a3 a4 (fun i hi=>a5 i (.inl hi))
  refine ⟨hR8.keep a4 (fun i hi _=>a5 i (.inr (hin8 i hi))),fun y hy=>?_⟩
  rcases List.mem_append.1 hy with hy | hy
  ·exact hyW.2 y hy
  ·simp only [List.mem_singleton] at hy
   subst hy
   exact hxW
 ·have hil:i < ys.length:=by omega
  have hiZ:(i:Int) < ys.length:=by omega
  obtain ⟨lb,lo,hbo,hlb,hcc⟩:∃ b o,ad = some ⟨b,o,none⟩ ∧ b < w.heap.size ∧ ∀ (k:Nat) (x:Value),(a2g d3y ys)[k]? = some x → w.cell? ⟨b,o + k,none⟩ = some x:=by
   rcases hcells with h | h
   ·rw [h] at hil; simp at hil
   ·exact h
  subst hbo
  have hc:=g7w hcc hil
  have hym:=List.getElem_mem hil
  have hIy:=hY.here.2 _ hym
  have hps:=fun e=>e3q (l:=ys.map (fun y:SpP=>y.1)) (t:=t) (x:=x) (i:=i) (by simpa using hil) ha e
  simp only [List.getElem_map] at hps
  have hnx:ys[i].1.1 ≠ t → ∀ e ∈ (ys.map (fun y:SpP=>y.1)).take (i + 1),e.1 ≠ t:=fun hne e he=>by
   rw [List.take_succ_eq_append_getElem (by simpa using hil)] at he
   rcases List.mem_append.1 he with he | he
   ·exact ha e he
   ·simp only [List.getElem_map,List.mem_singleton] at he
    rw [he]; exact hne
  generalize ys[i] = y at *
  refine Xa @hiZ ?_
  have hbd:Below w3.heap.size w3 { w3 with drawn:=w3.drawn + 1 }:=.drawn
  refine ⟨Nx { w3 with drawn:=w3.drawn + 1 },bR,rfl,?_⟩
  have h0d:=h03.on hbd
  have h2d:=h3.on hbd
  generalize ({ w3 with drawn:=w3.drawn + 1 }:World) = W4 at hbd h0d h2d ⊢
  have q1:∀ W0,Nx W4 W0 → ∀ (i':Nat) (u:Value),(d3y y)[i']? = some u → W0.cell? ⟨lb,lo + i * 8 + i',none⟩ = some u:=fun W0 h i' u hi'=>((h0d.on h).cell hlb).trans (hc i' u hi')
  have qT:∀ W0,Nx W4 W0 → Holds W0 b1 _ _:=fun W0 h=>hB1.next (h2d.on h)
  iterate 4 (any_goals (first
  | (with_reducible refine pX ?_)
  | ((with_reducible refine b0z ?_); (with_reducible refine a1z ⟨_,rfl⟩ (fun W0 hW0=>by (refine oG (fun X Y=>?_)); simp [go_sem,hiZ]; (first | exact Y _ _ ⟨rfl,rfl⟩ | exact ⟨by omega,Y _ _ ⟨rfl,rfl⟩⟩)) ?_))))
  refine a3v (cs:=a8l y.1.1) (p:=lo + i * 8) (fun W h i' u hi'=>q1 W h i' u (g0w hi')) b0l (by kernel_rfl) (by kernel_rfl) ?_
  refine a3v (cs:=a8l t) (p:=0) (fun W h i' u hi'=>by rw [Nat.zero_add]; exact a1c (qT W h) hi') b0l (by kernel_rfl) (by kernel_rfl) ?_
  refine a7z ?_
  refine ⟨Nx,fun w5 h5=>?_⟩
  by_cases e:y.1.1 = t
  ·have hps:=hps e
   rw [hps] at hok k
   have hyx:y.1.2 = x:=of_decide_eq_true hok
   rw [decide_eq_true e]
   refine Xa0 ?_
   have hbe:Below w5.heap.size w5 { w5 with drawn:=w5.drawn + 1 }:=.drawn
   refine ⟨Nx { w5 with drawn:=w5.drawn + 1 },bR,rfl,?_⟩
   have h5d:=h5.on hbe
   have h0e:=h0d.on h5d
   have h2e:=h2d.on h5d
   generalize ({ w5 with drawn:=w5.drawn + 1 }:World) = W6 at hbe h5d h0e h2e ⊢
   have q2:∀ W0,Nx W6 W0 → ∀ (i':Nat) (u:Value),[Value.int .i64 y.1.2.dare,g7u y][i']? = some u → W0.cell? ⟨lb,lo + i * 8 + 6 + i',none⟩ = some u:=fun W0 h i' u hi'=>by
    have e:d3y y = a8l y.1.1 ++ [Value.int .i64 y.1.2.dare,g7u y]:=rfl
    rw [Nat.add_assoc]
    refine q1 W0 (h5d.on h) (6 + i') u ?_
    rw [e,List.getElem?_append_right (by simp)]
    simpa using hi'
   have qS:∀ W0,Nx W6 W0 → Holds W0 b2 _ _:=fun W0 h=>hB2.next ((h3.on (hbd.on h5d)).on h)
   iterate 5 (any_goals (first
   | (with_reducible refine pX ?_)
   | ((with_reducible refine b0z ?_); (with_reducible refine a1z ⟨_,rfl⟩ (fun W0 hW0=>by (refine oG (fun X Y=>?_)); simp [go_sem,hiZ]; (first | exact Y _ _ ⟨rfl,rfl⟩ | exact ⟨by omega,Y _ _ ⟨rfl,rfl⟩⟩)) ?_))))
   refine a3v (cs:=[.int .i64 y.1.2.dare,g7u y]) (p:=lo + i * 8 + 6) (fun W h=>q2 W h) a7j (by kernel_rfl) (by kernel_rfl) ?_
   refine a3v (cs:=[.int .i64 x.dare,.slice xad x.answers.length xc]) (p:=0) (fun W h i' u hi'=>by rw [Nat.zero_add]; exact a1c (qS W h) hi') a7j (by kernel_rfl) (by kernel_rfl) ?_
   refine ⟨Nx,?_⟩
   apply a7l
   ·intro w7 h7
    refine c5q (hIy.next (h0e.on h7)) (hx.here.next (h0e.on h7)) (fun w8 h8=>⟨h7.on h8,h8,rfl⟩)
   rintro w9 h9 _ rfl
   rw [← hyx,decide_eq_true rfl,decide_eq_true rfl]
   have h09:=h0e.on h9
   refine k w9 _ h09 ⟨ys,rfl,?_⟩
   exact (hY.next h09 hD).mono (fun i hi=>.inl hi)
  ·rw [decide_eq_false e]
   refine Xa0 ?_
   exact ⟨⟨i + 1,rfl,by omega,hnx e,h3.on (hbd.on h5)⟩,by show ys.length - (((i + 1:Nat):Int)).toNat < ys.length - ((i:Nat):Int).toNat; omega⟩
end
end Go.Proofs
namespace PuSpec
open FdSpec TkSpec CodeSpec DkSpec JnSpec
variable {s:Stp} {lims:List Lim} {A:Ab} {p:Pst} {all sure:List a0f}
theorem Whole.put {l:Sps} (h:Whole s lims A (some p) l) {t:Tkt} {a:Spd} (k:∀ all sure,Inv s lims A p all sure → Borne s lims sure t a) :
  (b4u l t a).2 = true ∧ a4b s t a = true ∧ Whole s lims A (some p) (b4u l t a).1:=by
 obtain ⟨all,sure,h1,h2,h3,h4⟩:=h
 have b:=k all sure (h4 p rfl)
 obtain ⟨c,d⟩:=c9c h3 b
 exact ⟨c,b.ok,all,sure,h1,h2,d,h4⟩
theorem Whole.opened {l:Sps} {q:Option Pst} (h:Whole s lims A q l) {P:Pst} (e:(a5q s lims A).1 = some P):(a5q s lims A).2.1 = 0 ∧ a1j s = true:=by
 obtain ⟨all,sure,h1,h2,h3,h4⟩:=h
 obtain ⟨hg,ho⟩:=c9r (s:=s) (lims:=lims) h1 h2
 rcases ho with ⟨e2,_⟩ | ⟨p,e2,a,b,_⟩
 ·rw [e] at e2; cases e2
 ·exact ⟨a,b⟩
theorem Whole.inv {l:Sps} (h:Whole s lims A (some p) l):∃ all sure,Inv s lims A p all sure:=by
 obtain ⟨all,sure,h1,h2,h3,h4⟩:=h
 exact ⟨all,sure,h4 p rfl⟩
theorem Inv.valid (v:Inv s lims A p all sure):∀ x ∈ p.items,validM s lims x.held = true:=by
 intro x hx
 obtain ⟨i,hi⟩:=List.mem_iff_getElem?.1 hx
 obtain ⟨rj,h1,h2,g⟩:=a5r v
 obtain ⟨r,hr,hrel⟩:=h2.get hi
 rw [hrel.held]
 exact g.val r (List.mem_of_getElem? hr)
theorem b6l {h:Hld} (v:validM s lims h = true):h.attrs.length ≤ 7 ∧ h.bl.ys.length ≤ 7 ∧ h.links.length ≤ 4 ∧ ∀ y ∈ h.links,y.terms.length ≤ 200 ∧ y.spend.answers.length ≤ 7:=by
 have hv:=e9k v
 have hb:s.bases.length ≤ 7:=by
  have:=hv.vs
  simp only [a1j,Bool.and_eq_true,decide_eq_true_eq] at this
  omega
 have hl:a9i h.links = true:=by
  simp only [validM,Bool.and_eq_true] at v
  exact v.1.1.1.1.1.1.1.1.1.1.1.1.2
 simp only [a9i,Bool.and_eq_true,decide_eq_true_eq,Bool.not_eq_true',List.any_eq_false,Bool.or_eq_true,not_or] at hl
 have ha:=hv.al
 have hy:=hv.yl
 exact ⟨by omega,by omega,hl.1,fun y hy=>by have:=hl.2 y hy; omega⟩
theorem c6z (l:Sps) (t:Tkt) (x:Spd):(b4u l t x).1.length ≤ l.length + 1:=by
 unfold b4u
 split
 ·simp
 ·simp
theorem c0w:∀ (xs:List Itm) (l:Sps),(a7s s xs l).1.length ≤ l.length + xs.length
 | [],l=>by simp [a7s]
 | x :: xs,l=>by
  rw [a7s]
  have h1:=c6z l x.held.t (b5g s x)
  simp only [List.length_cons]
  split
  ·split
   ·simp
   ·have:=c0w xs (b4u l x.held.t (b5g s x)).1
    omega
  ·have:=c0w xs l
   omega
theorem Whole.crash {l:Sps} {q:Option Pst} (h:Whole s lims A q l) (keep:List Int):Whole s lims (a4c A keep) none l:=h.disk (fun _ _ g=>g.crash keep)
theorem Whole.start {l:Sps} {q:Option Pst} (h:Whole s lims A q l):Whole s lims (b1i A) none l:=h.disk (fun _ _ g=>g.start)
end PuSpec
namespace Go.Proofs
open Go Go.Sh Go.RowKit FdSpec TkSpec CodeSpec PuSpec DkSpec JnSpec
section
variable {K:VK} {w w' w0 W W':World} {L:List (Addr × Value)} {rb b:Nat} {s:Stp} {lims:List Lim} {p p':Ph} {items items':List Itm} {A:Ab} {P:Pst} {h:Dk}
theorem e3s {b p:Nat} {x:Itm} {av yv kv:Value} (h:∀ j u,(b3m x av yv kv)[j]? = some u → w.cell? ⟨b,p + j,none⟩ = some u) :
  ∀ j u,(a8l x.held.t)[j]? = some u → w.cell? ⟨b,(p + 7) + j,none⟩ = some u:=fun j u hj=>by
 have h2:=d1f h (7 + j) u (g0q hj)
 rw [show p + 7 + j = p + (7 + j) by omega]
 exact h2
theorem h3j {C:WK} {Q:Value → Prop} {m:(WK) → (Value → Prop) → Prop} (h:m C Q):gdH (gd (.bool false) false) m C Q:=h
theorem g0x {m:(VK) → WK} (h:m K w):gdM (gd (.bool false) false) m K w:=h
set_option maxHeartbeats 4000000 in
theorem f2q (hP:StR s lims w p items) (hsm:∀ x ∈ items,c0f x.held) (l:Sps) {bv v:Value} (hset:SetR w s bv) {D:Nat → Prop} (hD:∀ i,D i → i < w.heap.size) (hl:SpL D w v l) (hn:l.length < 900) (hok:(a7s s (items.take 30) l).2 = true)
  (k:∀ w' v',Bw w w' → SpL (fun i=>D i ∨ (w.heap.size ≤ i ∧ i < w'.heap.size)) w' v' (a7s s (items.take 30) l).1 → K (.tuple #[v',.bool true]) w'):a0a Tryz.prog 40 #[a9j s bv,.pointer (some ⟨p.pb,0,none⟩),v] K w:=by
 apply e5u
 unfold g2m
 obtain ⟨ad,c,rfl⟩:=hset.ints.isSlice
 refine a3f (cs:=b1d s (.slice ad s.bases.length c)) rfl (fun b1 w1 h1 hb1 hB1=>?_)
 have hP1:=hP.next h1
 refine d1d hP1 hsm (fun w2 v2 h2 hF2=>?_)
 obtain ⟨iad,ic,hv2⟩:=hF2.here.isSlice
 subst hv2
 have h02:=h1.on h2
 have hB2:=hB1.next h2
 have hP2:=hP1.next h2
 have hcn:=hP.cnt
 have hrow:=hF2.here
 refine ⟨fun vs W=>∃ (u0 u3 u4 v':Value) (i:Nat) (l':Sps),vs = [u0,.slice none 0 0,.bool false,u3,u4,v',.int .i64 (i:Int)] ∧ i ≤ items.length ∧ i ≤ 30 ∧ l'.length ≤ l.length + i ∧ SpL (fun j=>D j ∨ (w.heap.size ≤ j ∧ j < W.heap.size)) W v' l' ∧ a7s s ((items.take 30).drop i) l' = a7s s (items.take 30) l ∧ Nx w2 W,
  (fun vs _=>match vs with | [_,_,_,_,_,_,.int _ i]=>items.length - i.toNat | _=>0),⟨_,_,_,_,0,l,rfl,by omega,by omega,by omega,(hl.next h02 hD).mono (fun i hi=>.inl hi),rfl,bR⟩,?_⟩
 rintro _ _ w3 ⟨u0,u3,u4,v',i,l',rfl,hi,hi30,hl',hL3,hlook,h3⟩
 have h03:=h02.on h3
 have z03:=h03.size
 by_cases hin:i < items.length ∧ i < 30
 ·obtain ⟨hil,hi3⟩:=hin
  have hiZ:(i:Int) < items.length:=by omega
  have hi3Z:(i:Int) < 30:=by omega
  have hdrop:(items.take 30).drop i = items[i] :: (items.take 30).drop (i + 1):=by
   rw [List.drop_eq_getElem_cons (by rw [List.length_take]; omega)]
   congr 1
   exact List.getElem_take
  obtain ⟨lb,lo,rfl,hlb,cs,hcl,hcc,av,yv,kv,rfl,hH,hI14,hI15⟩:=(hrow.next (a1k b7z) h3).at hil
  obtain ⟨a1,n1,d1,a2,n2,d2,a3,n3,d3,rfl,rfl,rfl⟩:=a0y hH
  have hx:=gE hil
  rw [hdrop] at hlook
  have hans:a9g s items (i:Int) = if items[i].status = 1 ∨ items[i].status = 2 then ((c5u s items[i]).1,0) else (⟨0,[]⟩,7):=by
   unfold a9g
   rw [if_neg (by omega),Int.toNat_natCast,hx]
  generalize items[i] = x at *
  have c14:w3.cell? ⟨lb,lo + i * 18 + 14,none⟩ = some (.int .i64 x.status):=hcc 14 _ rfl
  refine Xa (An2 @hiZ @hi3Z) ?_
  refine ⟨fun l9 W=>∃ (u0 u3 u4 v':Value) (l':Sps),[l9.getD 0 undef,l9.getD 1 undef,l9.getD 2 undef,l9.getD 3 undef,l9.getD 4 undef,l9.getD 5 undef] = [u0,.slice none 0 0,.bool false,u3,u4,v'] ∧ l'.length ≤ l.length + (i + 1) ∧ SpL (fun j=>D j ∨ (w.heap.size ≤ j ∧ j < W.heap.size)) W v' l' ∧ a7s s ((items.take 30).drop (i + 1)) l' = a7s s (items.take 30) l ∧ Nx w2 W,?_,?_⟩
  case refine_2=>
   rintro l9 u9 W ⟨v0,v3,v4,v5,l2,e,g1,g2,g3,g4⟩
   simp only [List.cons.injEq,and_true] at e
   obtain ⟨e0,e1,e2,e3,e4,e5⟩:=e
   rw [e0,e1,e2,e3,e4,e5]
   refine Xa0 ?_
   exact ⟨⟨v0,v3,v4,v5,i + 1,l2,rfl,by omega,by omega,by omega,g2,g3,g4⟩,by show items.length - (((i + 1:Nat):Int)).toNat < items.length - ((i:Nat):Int).toNat; omega⟩
  refine b8b (hP2.next h3) (i:Int) (fun w4 ov h4 hF4=>?_)
  rw [hans] at hF4 ⊢
  obtain ⟨oad,oc,hov⟩:=hF4.here.isSlice
  subst hov
  by_cases hst:x.status = 1 ∨ x.status = 2
  ·rw [if_pos hst] at hF4 ⊢
   have hus:(c5u s x).1 = b5g s x:=rfl
   rw [hus] at hF4 ⊢
   have hgood:(b4u l' x.held.t (b5g s x)).2 = true ∧ (b5g s x).dare = x.dare ∧ a4b s x.held.t (b5g s x) = true ∧ a7s s ((items.take 30).drop (i + 1)) (b4u l' x.held.t (b5g s x)).1 = a7s s (items.take 30) l:=by
    rw [a7s,if_pos hst] at hlook
    split at hlook
    ·rw [← hlook] at hok
     cases hok
    ·rename_i hng
     simp only [Bool.or_eq_true,Bool.not_eq_true',decide_eq_false_iff_not,not_or,Bool.not_eq_false,Decidable.not_not] at hng
     exact ⟨hng.1.1,hng.1.2,hng.2,hlook⟩
   obtain ⟨g1,g2,g3,g4⟩:=hgood
   have hdr:I64 (b5g s x).dare:=by rw [g2]; exact hI15
   have htr:TktR x.held.t:=d0x hH.wf.t
   have hpl:=c6z l' x.held.t (b5g s x)
   generalize b5g s x = a at *
   refine c1r ?_
   refine a0i b0k (fun g5 w5 h5 hg5 hH5=>?_)
   refine a0h a9f rfl rfl (a6n a.dare oad a.answers.length oc) hH5 rfl (fun w6 hg6 hH6=>?_)
   have h46:Bw w4 w6:=a0k h5 hg6 hg5
   have h36:=h4.on h46
   have c14:=(h36.cell hlb).trans c14
   have hS:(x.status = 1 ∧ True) ∨ ¬ x.status = 1 ∧ x.status = 2:=if h1:x.status = 1 then .inl ⟨h1,trivial⟩ else .inr ⟨h1,hst.resolve_left h1⟩
   rcases hS with ⟨s1,s2⟩ | ⟨s1,s2⟩
   repeat (any_goals (first
   | (with_reducible first|refine a1b ?_|((refine b2a ?_); first|refine zC ?_|refine zD ?_)|((refine a3s ?_); first|refine yB ?_|refine yC ?_)|refine yM ?_)
   | ((with_reducible refine oG fun X Y=>?_); simp [go_sem,hiZ,c14,s1,s2]; apply Y; clear Y X)))
   all_goals
    have hbd:Below w6.heap.size w6 { w6 with drawn:=w6.drawn + 1 }:=.drawn
    refine ⟨Nx { w6 with drawn:=w6.drawn + 1 },bR,rfl,?_⟩
    have h6d:=h46.on hbd
    have h3d:=h36.on hbd
    have z3d:=h3d.size
    generalize ({ w6 with drawn:=w6.drawn + 1 }:World) = W7 at hbd h6d h3d z3d ⊢
    have z3:=h3.size
    have z46:=h46.size
    have z4:=h4.size
    have hDL:∀ j,(D j ∨ w.heap.size ≤ j ∧ j < w3.heap.size) → j < w3.heap.size:=fun j hj=>hj.elim (fun e=>by have:=hD j e; omega) (fun e=>e.2)
    have hL7:=hL3.next h3d hDL
    have hFa:FP (fun j=>(D j ∨ w.heap.size ≤ j ∧ j < w3.heap.size) ∨ w3.heap.size ≤ j ∧ j < W7.heap.size) W7 (fun W=>Ints W (.slice oad a.answers.length oc) a.answers):=(hF4.next h6d).mono (fun j hj=>.inr ⟨by omega,hj.2⟩)
    have q1:∀ W0,Nx W7 W0 → ∀ (i':Nat) (u:Value),(b3m x (.slice a1 n1 d1) (.slice a2 n2 d2) (.slice a3 n3 d3))[i']? = some u → W0.cell? ⟨lb,lo + i * 18 + i',none⟩ = some u:=fun W0 h i' u hi'=>((h3d.on h).cell hlb).trans (hcc i' u hi')
    have qS:∀ W0,Nx W7 W0 → Holds W0 g5 _ _:=fun W0 h=>hH6.next (hbd.on h)
    iterate 6 (any_goals (first
    | (with_reducible refine pX ?_)
    | ((with_reducible refine b0z ?_); (with_reducible refine a1z ⟨_,rfl⟩ (fun W0 hW0=>by (refine oG (fun X Y=>?_)); simp [go_sem,hiZ]; (first | exact Y _ _ ⟨rfl,rfl⟩ | exact ⟨by omega,Y _ _ ⟨rfl,rfl⟩⟩)) ?_))))
    refine a3v (cs:=a8l x.held.t) (p:=lo + i * 18 + 7) (fun W h=>e3s (q1 W h)) b0l (by kernel_rfl) (by kernel_rfl) ?_
    refine a3v (cs:=[.int .i64 a.dare,.slice oad a.answers.length oc]) (p:=0) (fun W h i' u hi'=>by rw [Nat.zero_add]; exact a1c (qS W h) hi') a7j (by kernel_rfl) (by kernel_rfl) ?_
    refine ⟨Nx,?_⟩
    have st:∀ (v:Value) (V V1:World),Nx V V1 → (w3.heap.size ≤ V.heap.size ∧ SpL (fun j=>(D j ∨ w.heap.size ≤ j ∧ j < w3.heap.size) ∨ w3.heap.size ≤ j ∧ j < V.heap.size) V v (b4u l' x.held.t a).1) → (w3.heap.size ≤ V1.heap.size ∧ SpL (fun j=>(D j ∨ w.heap.size ≤ j ∧ j < w3.heap.size) ∨ w3.heap.size ≤ j ∧ j < V1.heap.size) V1 v (b4u l' x.held.t a).1):=fun v V V1 hb h=>⟨Nat.le_trans h.1 hb.size,(h.2.next hb (fun j hj=>hj.elim (fun e=>by have:=hDL j e; have:=h.1; omega) (fun e=>e.2))).mono (fun j hj=>hj.imp id (fun e=>⟨e.1,by have:=hb.size; omega⟩))⟩
    refine a7x (fun v V=>∃ v',v = .tuple #[v',.bool true] ∧ (w3.heap.size ≤ V.heap.size ∧ SpL (fun j=>(D j ∨ w.heap.size ≤ j ∧ j < w3.heap.size) ∨ w3.heap.size ≤ j ∧ j < V.heap.size) V v' (b4u l' x.held.t a).1)) (fun v V V1 hS h=>h.imp fun v' h=>⟨h.1,st v' V V1 hS h.2⟩) ?_ ?_
    ·intro w8 h8
     have z8:=h8.size
     refine e3r l' x.held.t a (D:=fun j=>(D j ∨ w.heap.size ≤ j ∧ j < w3.heap.size) ∨ w3.heap.size ≤ j ∧ j < w8.heap.size) (fun j hj=>hj.elim (fun e=>by have:=hDL j e; omega) (fun e=>e.2)) ((hL7.next h8 (fun j hj=>by have:=hDL j hj; omega)).mono (fun j hj=>.inl hj)) ((hFa.next h8 (fun j hj=>hj.elim (fun e=>by have:=hDL j e; omega) (fun e=>e.2))).mono (fun j hj=>hj.imp id (fun e=>⟨e.1,by omega⟩))) (by omega) g1 (fun w10 v10 h10 hL10=>⟨h8.on h10,h10,v10,rfl,by have:=h10.size; omega,hL10.mono (fun j hj=>?_)⟩)
     have:=h10.size
     rcases hj with (hj | hj) | hj
     ·exact .inl hj
     ·exact .inr ⟨hj.1,by omega⟩
     ·exact .inr ⟨by omega,hj.2⟩
    refine a7x (fun v V=>∃ v',v = .tuple #[v',.bool true] ∧ (w3.heap.size ≤ V.heap.size ∧ SpL (fun j=>(D j ∨ w.heap.size ≤ j ∧ j < w3.heap.size) ∨ w3.heap.size ≤ j ∧ j < V.heap.size) V v' (b4u l' x.held.t a).1)) (fun v V V1 hS h=>h.imp fun v' h=>⟨h.1,st v' V V1 hS h.2⟩) (fun w8 h8 v hv=>⟨h8,bR,hv⟩) ?_
    refine a7x (fun v V=>w3.heap.size ≤ V.heap.size ∧ SpL (fun j=>(D j ∨ w.heap.size ≤ j ∧ j < w3.heap.size) ∨ w3.heap.size ≤ j ∧ j < V.heap.size) V v (b4u l' x.held.t a).1) (fun v V V1 hS h=>st v V V1 hS h) ?_ ?_
    ·rintro w8 h8 _ ⟨v8,rfl,hv8⟩
     refine Xa0 ?_
     exact ⟨h8,bR,hv8⟩
    apply a7l
    ·rintro w8 h8 _ ⟨v8,rfl,hv8⟩
     refine Xa0 ?_
     exact ⟨h8,bR,rfl⟩
    refine a7x (fun v V=>w3.heap.size ≤ V.heap.size ∧ SpL (fun j=>(D j ∨ w.heap.size ≤ j ∧ j < w3.heap.size) ∨ w3.heap.size ≤ j ∧ j < V.heap.size) V v (b4u l' x.held.t a).1) (fun v V V1 hS h=>st v V V1 hS h) (fun w8 h8 v hv=>⟨h8,bR,hv⟩) ?_
    rintro w8 h8 _ - _ - _ - _ rfl v12 hv12
    have hbe:Below w8.heap.size w8 { w8 with drawn:=w8.drawn + 1 }:=.drawn
    refine ⟨Nx { w8 with drawn:=w8.drawn + 1 },bR,rfl,?_⟩
    have h7e:=h8.on hbe
    have hv12:=st v12 _ _ hbe hv12
    generalize ({ w8 with drawn:=w8.drawn + 1 }:World) = W9 at hbe h7e hv12 ⊢
    have p16:∀ W0,Nx W9 W0 → W0.cell? ⟨lb,lo + i * 18 + 15,none⟩ = some (.int .i64 x.dare):=fun W0 h=>q1 W0 (h7e.on h) 15 _ rfl
    have pd:∀ W0,Nx W9 W0 → W0.cell? ⟨g5,0,none⟩ = some (.int .i64 a.dare):=fun W0 h=>a1c (qS W0 (h7e.on h)) (j:=0) rfl
    have g2Z:a.dare = x.dare:=g2
    iterate 31 (any_goals (first
    | (with_reducible first|refine pX ?_|((refine b7d ?_); refine a4t fun _=>?_)|refine zC ?_)
    | ((with_reducible refine b0z ?_); first|(with_reducible refine vB ?_)|(with_reducible refine a1z ⟨_,rfl⟩ (fun W0 hW0=>by (refine oG (fun X Y=>?_)); simp [go_sem,hiZ,pd _ hW0,p16 _ hW0,g2Z]; (first | exact Y _ _ ⟨rfl,rfl⟩ | exact ⟨by omega,Y _ _ ⟨rfl,rfl⟩⟩)) ?_))))
    refine a3v (cs:=b1d s (.slice ad s.bases.length c)) (p:=0) (fun W h i' u hi'=>by rw [Nat.zero_add]; exact a1c (hB2.next ((h3.on h3d).on (h7e.on h))) hi') b4s (by kernel_rfl) (by kernel_rfl) ?_
    iterate 16 (any_goals (first
    | (with_reducible first|refine pX ?_|((refine b7d ?_); refine a4t fun _=>?_)|refine zC ?_)
    | ((with_reducible refine b0z ?_); (with_reducible refine a1z ⟨_,rfl⟩ (fun W0 hW0=>by (refine oG (fun X Y=>?_)); simp [go_sem,hiZ]; (first | exact Y _ _ ⟨rfl,rfl⟩ | exact ⟨by omega,Y _ _ ⟨rfl,rfl⟩⟩)) ?_))))
    refine h3j ?_
    refine a3v (cs:=a8l x.held.t) (p:=lo + i * 18 + 7) (fun W h=>e3s (q1 W (h7e.on h))) b0l (by kernel_rfl) (by kernel_rfl) ?_
    refine h3j ?_
    refine a3v (cs:=[.int .i64 a.dare,.slice oad a.answers.length oc]) (p:=0) (fun W h i' u hi'=>by rw [Nat.zero_add]; exact a1c (qS W (h7e.on h)) hi') a7j (by kernel_rfl) (by kernel_rfl) ?_
    refine ⟨Nx,fun w10 h10=>?_⟩
    refine g0x ?_
    have h7_10:=h7e.on h10
    have h0_10:=h03.on (h3d.on h7_10)
    refine c0b s x.held.t a htr (hset.next h0_10) ⟨hdr,hF4.here.next (h6d.on h7_10)⟩ (fun w11 h11=>?_)
    rw [g3]
    refine Xa0 ?_
    have hv:=st v12 _ _ (h10.on h11) hv12
    have z11:=((h3d.on h7_10).on h11).size
    refine ⟨_,_,_,v12,(b4u l' x.held.t a).1,rfl,by omega,hv.2.mono (fun j hj=>?_),g4,h3.on ((h3d.on h7_10).on h11)⟩
    rcases hj with (hj | hj) | hj
    ·exact .inl hj
    ·exact .inr ⟨hj.1,by omega⟩
    ·exact .inr ⟨by omega,hj.2⟩
  ·rw [if_neg hst] at hF4 ⊢
   have s1:¬ x.status = 1:=fun e=>hst (.inl e)
   have s2:¬ x.status = 2:=fun e=>hst (.inr e)
   rw [a7s,if_neg hst] at hlook
   refine c1r ?_
   refine a0i b0k (fun g5 w5 h5 hg5 hH5=>?_)
   refine a0h a9f rfl rfl (a6n 0 _ _ _) hH5 rfl (fun w6 hg6 hH6=>?_)
   have h46:Bw w4 w6:=a0k h5 hg6 hg5
   have h36:=h4.on h46
   have c14:=(h36.cell hlb).trans c14
   refine Xa (An4 @hiZ @c14 @s1 @s2) ?_
   exact ⟨_,_,_,_,l',rfl,by omega,(hL3.next h36 (fun j hj=>hj.elim (fun e=>by have:=hD j e; omega) (fun e=>e.2))).mono (fun j hj=>hj.imp id (fun e=>⟨e.1,by have:=h36.size; omega⟩)),hlook,h3.on h36⟩
 ·have hend:(items.take 30).drop i = []:=by
   rw [List.drop_eq_nil_iff,List.length_take]; omega
  rw [hend] at hlook
  have hl1:(a7s s (items.take 30) l).1 = l':=by rw [← hlook]; rfl
  rw [hl1] at k
  have k:=k w3 v' h03 hL3
  by_cases hil:i < items.length
  ·have hiZ:(i:Int) < items.length:=by omega
   have hi3Z:¬ (i:Int) < 30:=by omega
   refine Xa (An2 @hiZ @hi3Z) ?_
   exact k
  ·have hiZ:¬ (i:Int) < items.length:=by omega
   refine Xa @hiZ ?_
   exact k
end
structure OnD (w4 W:World) (d:Nat) (A:Ab) (dk:Dk) (M:Nat → Prop):Prop where
 sys:Sys W d A dk
 own:∀ i,Own d dk i ∨ Rdb dk i → M i
 yg:∀ i,M i → w4.heap.size ≤ i ∧ i < W.heap.size
 bl:Bw w4 W
 low:8 ≤ w4.heap.size
def OnQ (s:Stp) (lims:List Lim) (w4 W:World) (d:Nat) (A:Ab) (dk:Dk) (M:Nat → Prop):Option Pst → Value → Prop
 | none,pv=>pv = .pointer none
 | some P,pv=>∃ p:Ph,pv = .pointer (some ⟨p.pb,0,none⟩) ∧ p.b = d ∧ p.h = dk ∧ PuR s lims w4 W p A P ∧ ∀ i,Mu p i → M i
def OnJ (s:Stp) (lims:List Lim) (w4:World) (d:Nat) (W:World) (q:Option Pst) (A:Ab) (l:Sps) (pv sv:Value) (F:WK):Prop:=
 ∃ dk M,OnD w4 W d A dk M ∧ OnQ s lims w4 W d A dk M q pv ∧ SpL (fun i=>i < W.heap.size ∧ ¬ M i) W sv l ∧ FP (fun i=>i < W.heap.size ∧ ¬ M i) W F
section
variable {K:VK} {w w' w0 W W' w4:World} {L:List (Addr × Value)} {rb b d:Nat} {s:Stp} {lims:List Lim} {p p':Ph} {items items':List Itm} {A A':Ab} {P P':Pst} {h:Dk} {q:Option Pst} {l l':Sps} {pv sv sv':Value} {F G:WK}
theorem OnD.next {dk:Dk} {M:Nat → Prop} (h:OnD w4 W d A dk M) (hb:Bw W W'):OnD w4 W' d A dk M:=
 ⟨h.sys.below hb,h.own,fun i hi=>⟨(h.yg i hi).1,lL (h.yg i hi).2 hb.size⟩,h.bl.trans (hb.mono h.bl.size),h.low⟩
theorem OnQ.next {dk:Dk} {M:Nat → Prop} (h:OnQ s lims w4 W d A dk M q pv) (hb:Bw W W'):OnQ s lims w4 W' d A dk M q pv:=by
 cases q with
 | none=>exact h
 | some P=>
  obtain ⟨p,e1,e2,e3,hP,hM⟩:=h
  exact ⟨p,e1,e2,e3,hP.next hb,hM⟩
theorem SpL.on {M:Nat → Prop} (h:SpL (fun i=>i < W.heap.size ∧ ¬ M i) W sv l) (hb:Bw W W'):SpL (fun i=>i < W'.heap.size ∧ ¬ M i) W' sv l:=
 (h.next hb (fun i hi=>hi.1)).mono (fun i hi=>⟨lL hi.1 hb.size,hi.2⟩)
theorem e3t {M:Nat → Prop} (h:FP (fun i=>i < W.heap.size ∧ ¬ M i) W F) (hb:Bw W W'):FP (fun i=>i < W'.heap.size ∧ ¬ M i) W' F:=
 (h.next hb (fun i hi=>hi.1)).mono (fun i hi=>⟨lL hi.1 hb.size,hi.2⟩)
theorem OnJ.next (h:OnJ s lims w4 d W q A l pv sv F) (hb:Bw W W'):OnJ s lims w4 d W' q A l pv sv F:=by
 obtain ⟨dk,M,h1,h2,h3,h4⟩:=h
 exact ⟨dk,M,h1.next hb,h2.next hb,h3.on hb,e3t h4 hb⟩
theorem SpL.step {M:Nat → Prop} (h:SpL (fun i=>i < W.heap.size ∧ ¬ M i) W sv l) {S:Nat → Prop} (hf:Fr S W W') (hS:∀ i,S i → M i):SpL (fun i=>i < W'.heap.size ∧ ¬ (M i ∨ W.heap.size ≤ i ∧ i < W'.heap.size)) W' sv l:=
 (h.fr hf (fun i hi=>⟨hi.1,fun e=>hi.2 (hS i e)⟩)).mono (fun i hi=>⟨lL hi.1 hf.size,fun e=>e.elim hi.2 (fun e=>by have:=hi.1; omega)⟩)
theorem e3u {M:Nat → Prop} (h:FP (fun i=>i < W.heap.size ∧ ¬ M i) W F) {S:Nat → Prop} (hf:Fr S W W') (hS:∀ i,S i → M i):FP (fun i=>i < W'.heap.size ∧ ¬ (M i ∨ W.heap.size ≤ i ∧ i < W'.heap.size)) W' F:=
 (h.fr hf (fun i hi=>⟨hi.1,fun e=>hi.2 (hS i e)⟩)).mono (fun i hi=>⟨lL hi.1 hf.size,fun e=>e.elim hi.2 (fun e=>by have:=hi.1; omega)⟩)
theorem OnD.step {dk dk':Dk} {M:Nat → Prop} (h:OnD w4 W d A dk M) (hd:IsDk W' d A' dk') (t:Step W d dk W' dk'):OnD w4 W' d A' dk' (fun i=>M i ∨ W.heap.size ≤ i ∧ i < W'.heap.size):=by
 have z:=t.fr.size
 have zb:=h.bl.size
 refine ⟨h.sys.step hd t,fun i hi=>?_,fun i hi=>?_,h.bl.trans ⟨t.fr.os,t.fr.tape,t.fr.output,t.fr.size,fun i hi=>t.fr.block i (by omega) (fun e=>by have:=(h.yg i (h.own i (.inl e))).1; omega)⟩,h.low⟩
 ·have hlt:=hd.lt hi
  rcases hi with hi | hi
  ·rcases t.own i hi with e | e
   ·exact .inl (h.own i (.inl e))
   ·exact .inr ⟨e,hlt⟩
  ·rcases t.rd i hi with e | e
   ·exact .inl (h.own i (.inr e))
   ·exact .inr ⟨e,hlt⟩
 ·rcases hi with hi | hi
  ·have:=h.yg i hi; omega
  ·omega
theorem OnJ.disk {dk dk':Dk} {M:Nat → Prop} (h1:OnD w4 W d A dk M) (h2:OnQ s lims w4 W d A dk M q pv) (h3:SpL (fun i=>i < W.heap.size ∧ ¬ M i) W sv l) (h4:FP (fun i=>i < W.heap.size ∧ ¬ M i) W F) (hd:IsDk W' d A' dk') (t:Step W d dk W' dk'):OnJ s lims w4 d W' q A' l pv sv F:=by
 refine ⟨dk',_,h1.step hd t,?_,h3.step t.fr (fun i hi=>h1.own i (.inl hi)),e3u h4 t.fr (fun i hi=>h1.own i (.inl hi))⟩
 cases q with
 | none=>exact h2
 | some P=>
  obtain ⟨p,e1,rfl,rfl,hP,hM⟩:=h2
  obtain ⟨hP',_⟩:=hP.dstep hd t
  refine ⟨{ p with h:=dk',u:=p.u },e1,rfl,rfl,hP',fun i hi=>?_⟩
  rcases hi with hi | hi | hi
  ·exact (h1.step hd t).own i (.inl hi)
  ·exact (h1.step hd t).own i (.inr hi)
  ·exact .inl (hM i (.inr (.inr hi)))
theorem OnJ.forget (h:OnJ s lims w4 d W q A l pv sv F):OnJ s lims w4 d W none A l (.pointer none) sv F:=by
 obtain ⟨dk,M,h1,h2,h3⟩:=h
 exact ⟨dk,M,h1,rfl,h3⟩
theorem OnJ.also (h:OnJ s lims w4 d W q A l pv sv F) (hF:∀ W',F W' → G W'):OnJ s lims w4 d W q A l pv sv G:=by
 obtain ⟨dk,M,h1,h2,h3,h4⟩:=h
 exact ⟨dk,M,h1,h2,h3,h4.imp hF⟩
theorem OnJ.opened {dk dk':Dk} {M:Nat → Prop} (h1:OnD w4 W d A dk M) (h3:SpL (fun i=>i < W.heap.size ∧ ¬ M i) W sv l) (h4:FP (fun i=>i < W.heap.size ∧ ¬ M i) W F) (hs:Sys W' d A' dk') (t:Step W d dk W' dk') (ho:e3d w4 W' d dk' s lims A' W pv q):OnJ s lims w4 d W' q A' l pv sv F:=by
 refine ⟨dk',_,h1.step hs.d t,?_,h3.step t.fr (fun i hi=>h1.own i (.inl hi)),e3u h4 t.fr (fun i hi=>h1.own i (.inl hi))⟩
 cases q with
 | none=>exact ho
 | some P=>
  obtain ⟨p,e1,e2,e3,hP,hM⟩:=ho
  refine ⟨p,e3,e1,e2,hP,fun i hi=>?_⟩
  rcases hM i hi with e | e | e
  ·exact (h1.step hs.d t).own i (.inl e)
  ·exact (h1.step hs.d t).own i (.inr e)
  ·exact .inr ⟨e,hP.mu_lt i hi⟩
theorem OnJ.ran {dk:Dk} {M:Nat → Prop} (h1:OnD w4 W d A dk M) (hM:∀ i,Mu p i → M i) (hd:p.b = d) (hP':PuR s lims w4 W' p' A' P') (t:PuSt p W p' W') (e:p'.b = p.b) :
  OnD w4 W' d A' p'.h (fun i=>M i ∨ Mu p' i) ∧ OnQ s lims w4 W' d A' p'.h (fun i=>M i ∨ Mu p' i) (some P') (.pointer (some ⟨p'.pb,0,none⟩)) ∧ (∀ i,i < W.heap.size ∧ ¬ M i → i < W'.heap.size ∧ ¬ (M i ∨ Mu p' i)) ∧ (∀ i,W.heap.size ≤ i → i < W'.heap.size → ¬ Mu p' i → ¬ (M i ∨ Mu p' i)):=by
 have z:=t.fr.size
 subst hd
 refine ⟨⟨e ▸ hP'.sys,fun i hi=>.inr ?_,fun i hi=>?_,hP'.bl,hP'.low⟩,⟨p',rfl,e,rfl,hP',fun i hi=>.inr hi⟩,fun i hi=>⟨by have:=hi.1; omega,fun e=>?_⟩,fun i hi _ hn hm=>hm.elim (fun hm=>by have:=(h1.yg i hm).2; omega) hn⟩
 ·rw [← e] at hi
  exact hi.imp id .inl
 ·rcases hi with hi | hi
  ·have:=h1.yg i hi; omega
  ·exact ⟨hP'.yg i hi,hP'.mu_lt i hi⟩
 ·rcases e with e | e
  ·exact hi.2 e
  ·rcases t.mu i e with e | e
   ·exact hi.2 (hM i e)
   ·have:=hi.1; omega
theorem e3v {α:Type} {n:Nat} {V:World → List Value → α → Prop} {D:Nat → Prop} {x:List α} {v:Value} (h:FP D w (fun W=>SRow n (b3o n V) W v x)) (hn:0 < n) (hl:0 < x.length) {b o m c:Nat} (hv:v = .slice (some ⟨b,o,none⟩) m c):D b:=by
 subst hv
 refine Classical.byContradiction fun hD=>?_
 have h2:=h { w with heap:=w.heap.setIfInBounds b (.cells #[] 0 (0,0)) } rfl rfl rfl (by simp) (fun i hi=>by
  have:i ≠ b:=fun e=>hD (e ▸ hi)
  simp [Array.getElem?_setIfInBounds,Ne.symm this])
 obtain ⟨b',o',e,hb,cs,hcl,hcc,_⟩:=h2.at hl
 cases e
 have:=hcc 0 cs[0] (by rw [gE (by omega)])
 unfold World.cell? at this
 simp at hb this
 rw [Array.getElem?_setIfInBounds] at this
 simp [hb] at this
theorem g0y {D:Nat → Prop} {v:Value} {x:List Lnk} (h:FP D w (fun W=>b4z W v x)) {i:Nat} (hi:i < x.length) {b o m c:Nat} (hv:v = .slice (some ⟨b,o,none⟩) m c) {av:Value} (hc:w.cell? ⟨b,o + i * 9 + 7,none⟩ = some av):FP D w (fun W=>Ints W av x[i].spend.answers):=by
 have hb:=e3v h (by omega) (by omega) hv
 subst hv
 intro W2 a1 a2 a3 a4 a5
 obtain ⟨b',o',e,_,cs,hcl,hcc,av',rfl,hI,_⟩:=(h W2 a1 a2 a3 a4 a5).at hi
 cases e
 have h7:=hcc 7 av' rfl
 rw [World.cell?_of_block (a5 b hb),hc] at h7
 cases h7
 exact hI
end
def OnW (s:Stp) (lims:List Lim) (w4:World) (d n:Nat) (W:World) (pv sv:Value) (e:Int) (F:WK):Prop:=
 ∃ (q:Option Pst) (A:Ab) (l:Sps),Whole s lims A q l ∧ l.length ≤ n ∧ (∀ P,q = some P → e = 0 ∧ a1j s = true) ∧ OnJ s lims w4 d W q A l pv sv F
def OnP (s:Stp) (lims:List Lim) (w4:World) (d n:Nat) (W:World) (pb:Nat) (sv:Value) (F:WK):Prop:=
 ∃ (P:Pst) (A:Ab) (l:Sps),Whole s lims A (some P) l ∧ l.length ≤ n ∧ a1j s = true ∧ OnJ s lims w4 d W (some P) A l (.pointer (some ⟨pb,0,none⟩)) sv F
def OnL (s:Stp) (lims:List Lim) (w4:World) (d n:Nat) (W:World) (pb:Nat) (sv:Value) (F:WK) (x:Lnk) (av:Value):Prop:=
 ∃ (P:Pst) (A:Ab) (l:Sps),Whole s lims A (some P) l ∧ l.length ≤ n ∧ a1j s = true ∧ (∀ all sure,Inv s lims A P all sure → Borne s lims sure x.ticket x.spend) ∧
  ∃ dk M,OnD w4 W d A dk M ∧ OnQ s lims w4 W d A dk M (some P) (.pointer (some ⟨pb,0,none⟩)) ∧ SpL (fun i=>i < W.heap.size ∧ ¬ M i) W sv l ∧ FP (fun i=>i < W.heap.size ∧ ¬ M i) W F ∧ FP (fun i=>i < W.heap.size ∧ ¬ M i) W (fun W=>Ints W av x.spend.answers)
section
variable {K:VK} {w w' w0 W W' w4:World} {L:List (Addr × Value)} {rb b d n m:Nat} {s:Stp} {lims:List Lim} {p p':Ph} {items items':List Itm} {A A':Ab} {P P':Pst} {h:Dk} {q:Option Pst} {l l':Sps} {pv sv sv':Value} {F G:WK} {e:Int}
theorem OnW.next (h:OnW s lims w4 d n W pv sv e F) (hb:Bw W W'):OnW s lims w4 d n W' pv sv e F:=by
 obtain ⟨q,A,l,h1,h2,h3,h4⟩:=h
 exact ⟨q,A,l,h1,h2,h3,h4.next hb⟩
theorem OnW.more (h:OnW s lims w4 d n W pv sv e F) (hn:n ≤ m):OnW s lims w4 d m W pv sv e F:=by
 obtain ⟨q,A,l,h1,h2,h3,h4⟩:=h
 exact ⟨q,A,l,h1,Nat.le_trans h2 hn,h3,h4⟩
theorem OnW.forget (h:OnW s lims w4 d n W pv sv e F) (e':Int):OnW s lims w4 d n W (.pointer none) sv e' F:=by
 obtain ⟨q,A,l,h1,h2,h3,h4⟩:=h
 exact ⟨none,A,l,h1.disk (fun _ _ g=>g),h2,(fun P hP=>by cases hP),h4.forget⟩
theorem OnW.also (h:OnW s lims w4 d n W pv sv e F) (hF:∀ W',F W' → G W'):OnW s lims w4 d n W pv sv e G:=by
 obtain ⟨q,A,l,h1,h2,h3,h4⟩:=h
 exact ⟨q,A,l,h1,h2,h3,h4.also hF⟩
theorem OnW.with (h:OnW s lims w4 d n W pv sv e F) (hb:Bw W W') (hG:FP (fun i=>W.heap.size ≤ i ∧ i < W'.heap.size) W' G):OnW s lims w4 d n W' pv sv e G:=by
 obtain ⟨q,A,l,h1,h2,h3,dk,M,k1,k2,k3,k4⟩:=h
 exact ⟨q,A,l,h1,h2,h3,dk,M,k1.next hb,k2.next hb,k3.on hb,hG.mono (fun i hi=>⟨hi.2,fun e=>by have:=(k1.yg i e).2; omega⟩)⟩
theorem OnW.here (h:OnW s lims w4 d n W pv sv e F):F W:=by
 obtain ⟨q,A,l,h1,h2,h3,dk,M,k1,k2,k3,k4⟩:=h
 exact k4.here
theorem OnW.bl (h:OnW s lims w4 d n W pv sv e F):Bw w4 W:=by
 obtain ⟨q,A,l,h1,h2,h3,dk,M,k1,k2,k3,k4⟩:=h
 exact k1.bl
theorem e3w {D:Nat → Prop} {a:Addr}:SpL D w (.slice (some a) 0 0) []:=⟨[],rfl,fun _ _ _ _ _ _=>⟨⟨_,_,rfl,(fun h=>by cases h),.inl rfl⟩,fun _ h=>by cases h⟩⟩
theorem OnW.lose (h:OnW s lims w4 d n w pv sv e F) (a:Int) (ha:a < 2 ^ 63) (k:∀ w',OnW s lims w4 d n w' pv sv e F → K (.tuple #[]) w'):a0a Tryz.prog 36 #[dkP d,.int .i64 a] K w:=by
 obtain ⟨q,A,l,h1,h2,h3,dk,M,k1,k2,k3,k4⟩:=h
 exact f8j k1.sys.d a ha (fun w' hd t=>k w' ⟨q,_,l,h1.lose a ha,h2,h3,OnJ.disk k1 k2 k3 k4 hd t⟩)
theorem OnW.arm (h:OnW s lims w4 d n w pv sv e F) (a:Int) (ha:a < 2 ^ 63) {v:Value} {kl:List Int} (hv:Ints w v kl) (hl:kl.length ≤ 1000) (k:∀ w',OnW s lims w4 d n w' pv sv e F → K (.tuple #[]) w'):a0a Tryz.prog 37 #[dkP d,.int .i64 a,v] K w:=by
 obtain ⟨q,A,l,h1,h2,h3,dk,M,k1,k2,k3,k4⟩:=h
 have hr:∀ x ∈ kl,-2 ^ 63 ≤ x ∧ x < 2 ^ 63:=fun x hx=>⟨(hv.rng x hx).1,by have:=(hv.rng x hx).2; omega⟩
 exact g4x k1.sys.d a ha hv.row (by omega) hr (fun w' h' hd t=>k w' ⟨q,_,l,h1.arm a ha kl hr (by omega),h2,h3,OnJ.disk k1 k2 k3 k4 hd t⟩)
theorem OnW.crash (h:OnW s lims w4 d n w pv sv e F) {v:Value} {kl:List Int} (hv:Ints w4 v kl) (hl:kl.length ≤ 1000) (k:∀ w',OnW s lims w4 d n w' (.pointer none) sv 0 F → K (.tuple #[]) w'):a0a Tryz.prog 32 #[dkP d,v] K w:=by
 obtain ⟨q,A,l,h1,h2,h3,dk,M,k1,k2,k3,k4⟩:=h
 have hb:=k1.bl.size
 have hF:FP (fun i=>i < w4.heap.size) w (fun W=>Ints W v kl):=(FP.of_stay (p:=fun W=>Ints W v kl) hv (fun W hb h=>h.next hb)).next k1.bl (fun i hi=>hi)
 refine c0m k1.sys.d (kl:=kl) hF.here.row (by omega) (fun w' hf=>(hF.fr hf (fun i hi=>⟨by omega,fun e=>by have:=(k1.yg i (k1.own i (.inl e))).1; omega⟩)).here.row) (fun w' dk' hd t=>k w' ⟨none,_,l,h1.crash kl,h2,(fun P hP=>by cases hP),OnJ.disk (q:=none) k1 rfl k3 k4 hd t⟩)
theorem OnW.start (h:OnW s lims w4 d n w pv sv e F) (k:∀ w',OnW s lims w4 d n w' (.pointer none) sv 0 F → K (.tuple #[]) w'):a0a Tryz.prog 33 #[dkP d] K w:=by
 obtain ⟨q,A,l,h1,h2,h3,dk,M,k1,k2,k3,k4⟩:=h
 exact c9a k1.sys.d (fun w' hd t=>k w' ⟨none,_,l,h1.start,h2,(fun P hP=>by cases hP),OnJ.disk (q:=none) k1 rfl k3 k4 hd t⟩)
theorem OnW.open_ (h:OnW s lims w4 d n w pv sv e F) {bv lv:Value} (hset:SetR w4 s bv) (hlim:c5d w4 lv lims) (k:∀ w' pv' e',OnW s lims w4 d n w' pv' sv e' F → K (.tuple #[pv',.int .i64 e']) w'):a0a Tryz.prog 34 #[dkP d,a9j s bv,lv] K w:=by
 obtain ⟨q,A,l,h1,h2,h3,dk,M,k1,k2,k3,k4⟩:=h
 have hb:=k1.bl.size
 have hsl:FP (fun i=>i < w4.heap.size) w (fun W=>SetR W s bv ∧ c5d W lv lims):=
  (FP.of_stay (p:=fun W=>SetR W s bv ∧ c5d W lv lims) ⟨hset,hlim⟩ (fun W hb h=>⟨h.1.next hb,h.2.next (a1k a7i) hb⟩)).next k1.bl (fun i hi=>hi)
 refine c8l (w0:=w4) k1.low k1.bl k1.sys (fun i hi=>(k1.yg i (k1.own i hi)).1) (fun i hi=>⟨by omega,fun e=>by have:=(k1.yg i (k1.own i (.inl e))).1; omega⟩) hsl (fun w' dk' r hs t ho=>k w' r _ ⟨_,_,l,h1.open_,h2,(fun P hP=>h1.opened hP),OnJ.opened k1 k3 k4 hs t ho⟩)
theorem OnW.split (h:OnW s lims w4 d n W pv sv e F):pv = .pointer none ∨ ∃ pb,pv = .pointer (some ⟨pb,0,none⟩) ∧ e = 0 ∧ OnP s lims w4 d n W pb sv F:=by
 obtain ⟨q,A,l,h1,h2,h3,dk,M,k1,k2,k3,k4⟩:=h
 cases q with
 | none=>exact .inl k2
 | some P=>
  obtain ⟨p,rfl,r⟩:=k2
  obtain ⟨e1,e2⟩:=h3 P rfl
  exact .inr ⟨p.pb,rfl,e1,P,A,l,h1,h2,e2,dk,M,k1,⟨p,rfl,r⟩,k3,k4⟩
theorem OnP.toW (h:OnP s lims w4 d n W rb sv F):OnW s lims w4 d n W (.pointer (some ⟨rb,0,none⟩)) sv 0 F:=by
 obtain ⟨P,A,l,h1,h2,h3,h4⟩:=h
 exact ⟨some P,A,l,h1,h2,fun _ _=>⟨rfl,h3⟩,h4⟩
theorem OnP.next (h:OnP s lims w4 d n W rb sv F) (hb:Bw W W'):OnP s lims w4 d n W' rb sv F:=by
 obtain ⟨P,A,l,h1,h2,h3,h4⟩:=h
 exact ⟨P,A,l,h1,h2,h3,h4.next hb⟩
theorem OnP.more (h:OnP s lims w4 d n W rb sv F) (hn:n ≤ m):OnP s lims w4 d m W rb sv F:=by
 obtain ⟨P,A,l,h1,h2,h3,h4⟩:=h
 exact ⟨P,A,l,h1,Nat.le_trans h2 hn,h3,h4⟩
theorem OnL.next {x:Lnk} {av:Value} (h:OnL s lims w4 d n W rb sv F x av) (hb:Bw W W'):OnL s lims w4 d n W' rb sv F x av:=by
 obtain ⟨P,A,l,h1,h2,h3,h4,dk,M,k1,k2,k3,k4,k5⟩:=h
 exact ⟨P,A,l,h1,h2,h3,h4,dk,M,k1.next hb,k2.next hb,k3.on hb,e3t k4 hb,e3t k5 hb⟩
theorem OnL.toP {x:Lnk} {av:Value} (h:OnL s lims w4 d n W rb sv F x av):OnP s lims w4 d n W rb sv F:=by
 obtain ⟨P,A,l,h1,h2,h3,h4,dk,M,k1,k2,k3,k4,k5⟩:=h
 exact ⟨P,A,l,h1,h2,h3,dk,M,k1,k2,k3,k4⟩
theorem c5s {l:Sps} (h:Whole s lims A (some P) l):P.items.length ≤ 400 ∧ (∀ x ∈ P.items,c0f x.held) ∧ ∀ x ∈ P.items,∀ y ∈ x.held.links,y.terms.length ≤ 1000000:=by
 obtain ⟨all,sure,v⟩:=h.inv
 have hv:=v.valid
 refine ⟨d9m v,fun x hx=>?_,fun x hx y hy=>?_⟩
 ·obtain ⟨a,b,c,d⟩:=b6l (hv x hx)
  exact ⟨by omega,by omega,by omega,fun y hy=>by have:=d y hy; omega⟩
 ·obtain ⟨a,b,c,d⟩:=b6l (hv x hx)
  have:=d y hy
  omega
theorem e3x {o:OpM} (h:o.kind = 2):d3w s lims A P o = ((a6v s lims A P o.a o.b o.next o.terms).1.2,(a6v s lims A P o.a o.b o.next o.terms).2):=by
 unfold d3w
 rw [if_neg (by omega),if_pos h]
theorem h4o {o:OpM} {av yv kv qv:Value} (h:OpR w o av yv kv qv) (hk:o.keep.length ≤ 1000):WOp o:=⟨h.a,h.c,h.held.wf,fun x hx=>⟨(h.keep.rng x hx).1,by have:=(h.keep.rng x hx).2; omega⟩,by omega⟩
theorem OnP.run (h:OnP s lims w4 d n w rb sv F) (o:OpM) {av yv kv qv:Value} (ho:OpR w4 o av yv kv qv) (htl:o.terms.length ≤ 1000000) (hkl:o.keep.length ≤ 1000)
  (k1:∀ w' v e',¬ (o.kind = 2 ∧ e' = 0) → OnP s lims w4 d n w' rb sv F → K (.tuple #[v,.int .i64 e']) w')
  (k2:∀ w' b1 o1 m1 c1 x xv,o.kind = 2 → 0 < m1 → m1 ≤ 9223372036854775807 → b1 < w'.heap.size → (∀ (j:Nat) (u:Value),(lkC x xv)[j]? = some u → w'.cell? ⟨b1,o1 + (m1 - 1) * 9 + j,none⟩ = some u) → WLnk x → OnL s lims w4 d n w' rb sv F x xv → K (.tuple #[.slice (some ⟨b1,o1,none⟩) m1 c1,.int .i64 0]) w') :
  a0a Tryz.prog 31 #[.pointer (some ⟨rb,0,none⟩),opV o av yv kv qv] K w:=by
 obtain ⟨P,A,l,h1,h2,h3,dk,M,g1,⟨p,hpb,hpd,hph,hP,hM⟩,g3,g4⟩:=h
 cases hpb
 obtain ⟨i4,hsm,hst⟩:=c5s h1
 have hFP:FP (fun j=>j < w4.heap.size) w (fun W=>HldR W o.held av yv kv):=(FP.of_stay (p:=fun W=>HldR W o.held av yv kv) ho.held (fun W hb h=>h.next hb)).next hP.bl (fun i hi=>hi)
 refine g7t hP o (D:=fun j=>j < w4.heap.size) (fun j hj=>⟨by have:=hP.bl.size; omega,fun e=>by have:=hP.yg j e; omega⟩) hFP (ho.nx hP.bl) (fun _=>htl) hsm hst (fun w8 p8 v8 hP8 t8 e8 hL8 hc8=>?_)
 obtain ⟨r1,r2,r3,r4⟩:=OnJ.ran g1 hM hpd hP8 t8 e8.2
 have hW8:=h1.kept (fun all sure v=>e9e v h3 (by omega) (h4o ho hkl))
 rw [e8.1] at r2
 have s8:SpL (fun i=>i < w8.heap.size ∧ ¬ (M i ∨ Mu p8 i)) w8 sv l:=(g3.fr t8.fr (fun i hi=>⟨hi.1,fun e=>hi.2 (hM i e)⟩)).mono r3
 have f8:FP (fun i=>i < w8.heap.size ∧ ¬ (M i ∨ Mu p8 i)) w8 F:=(g4.fr t8.fr (fun i hi=>⟨hi.1,fun e=>hi.2 (hM i e)⟩)).mono r3
 by_cases hk:o.kind = 2 ∧ (d3w s lims A P o).1.2 = 0
 ·obtain ⟨hk2,hk0⟩:=hk
  have k2:=fun b1 o1 m1 c1 x xv=>k2 w8 b1 o1 m1 c1 x xv hk2
  rw [hk0]
  have eR:=e3x (s:=s) (lims:=lims) (A:=A) (P:=P) hk2
  rw [eR] at hk0 hL8 hW8 r1 r2 hP8
  simp only at hk0 hL8 hW8 r1 r2 hP8
  obtain ⟨all,sure,v⟩:=hW8.inv
  obtain ⟨ls,x,e1,_⟩:=b9k hk0 v
  rw [e1] at hL8
  have hB:∀ all sure,Inv s lims (a6v s lims A P o.a o.b o.next o.terms).2.1 (a6v s lims A P o.a o.b o.next o.terms).2.2 all sure → Borne s lims sure x.ticket x.spend:=fun all sure v=>by
   obtain ⟨ls',x',e2,hb⟩:=b9k hk0 v
   rw [e1] at e2
   have:=List.append_inj_right' e2 rfl
   cases this
   exact hb
  have hlen:ls.length < (ls ++ [x]).length:=by simp
  obtain ⟨lad,lc,hv8⟩:=hL8.here.isSlice
  subst hv8
  obtain ⟨lb,lo,rfl,hlb,cs,hcl,hcc,xv,rfl,hI,hW⟩:=hL8.here.at hlen
  have hfp:=g0y hL8 hlen rfl (hcc 7 _ rfl)
  have hx:(ls ++ [x])[ls.length] = x:=by simp
  rw [hx] at hcc hI hW hfp
  refine k2 lb lo _ lc x xv (by simp) hL8.here.len hlb (fun j u hj=>?_) hW ⟨_,_,l,hW8,h2,h3,hB,_,_,r1,r2,s8,f8,hfp.mono (fun i hi=>⟨hi.2.1,r4 i hi.1 hi.2.1 hi.2.2⟩)⟩
  have:=hcc j u hj
  rw [List.length_append]
  exact this
 ·exact k1 w8 v8 _ hk ⟨_,_,l,hW8,h2,h3,_,_,r1,r2,s8,f8⟩
theorem OnL.put {x:Lnk} {xv:Value} (h:OnL s lims w4 d n w rb sv F x xv) (hn:n < 1000) (k:∀ w' sv',a4b s x.ticket x.spend = true → Bw w w' → OnP s lims w4 d (n + 1) w' rb sv' F → K (.tuple #[sv',.bool true]) w'):a0a Tryz.prog 38 #[sv,b7r x.ticket,.agg #[.int .i64 x.spend.dare,xv]] K w:=by
 obtain ⟨P,A,l,h1,h2,h3,h4,dk,M,g1,g2,g3,g4,g5⟩:=h
 obtain ⟨a,b,c⟩:=h1.put h4
 have hpl:=c6z l x.ticket x.spend
 refine e3r l x.ticket x.spend (fun i hi=>hi.1) g3 g5 (by omega) a (fun w' v' hb hL=>k w' v' b hb ⟨P,A,_,c,by omega,h3,dk,M,g1.next hb,g2.next hb,hL.mono (fun i hi=>?_),e3t g4 hb⟩)
 rcases hi with hi | hi
 ·exact ⟨by have:=hb.size; omega,hi.2⟩
 ·exact ⟨hi.2,fun e=>by have:=(g1.yg i e).2; omega⟩
theorem OnP.look (h:OnP s lims w4 d n w rb sv F) (hn:n < 900) {bv:Value} (hset:SetR w s bv) (k:∀ w' sv',OnP s lims w4 d (n + 30) w' rb sv' F → K (.tuple #[sv',.bool true]) w'):a0a Tryz.prog 40 #[a9j s bv,.pointer (some ⟨rb,0,none⟩),sv] K w:=by
 obtain ⟨P,A,l,h1,h2,h3,dk,M,g1,⟨p,hpb,hr⟩,g3,g4⟩:=h
 cases hpb
 obtain ⟨i4,hsm,hst⟩:=c5s h1
 obtain ⟨a,b⟩:=h1.look 30
 have hll:=c0w (s:=s) (P.items.take 30) l
 have htk:(P.items.take 30).length ≤ 30:=by rw [List.length_take]; omega
 refine f2q hr.2.2.1.st hsm l hset (fun i hi=>hi.1) g3 (by omega) a (fun w' v' hb hL=>k w' v' ⟨P,A,_,b,by omega,h3,dk,M,g1.next hb,OnQ.next (q:=some P) ⟨p,rfl,hr⟩ hb,hL.mono (fun i hi=>?_),e3t g4 hb⟩)
 rcases hi with hi | hi
 ·exact ⟨by have:=hb.size; omega,hi.2⟩
 ·exact ⟨hi.2,fun e=>by have:=(g1.yg i e).2; omega⟩
end
@[reducible] def opZ:OpM:=⟨0,0,0,0,⟨0,0,[],⟨0,0,0,[]⟩,⟨0,0,0,0,0,0⟩,[]⟩,⟨0,0,0,0,0,0⟩,[],[]⟩
section
variable {K:VK} {w w' w0 W W' w4:World} {L:List (Addr × Value)} {rb b d n m:Nat} {s:Stp} {lims:List Lim} {p p':Ph} {items items':List Itm} {A A':Ab} {P P':Pst} {h:Dk} {q:Option Pst} {l l':Sps} {pv sv sv':Value} {F G:WK} {e:Int}
theorem h2c (w:World):(sizeOf 72).run Tryz.prog w = .ok 26 w:=by kernel_rfl
theorem h2f (w:World):(Instr.alloc 72 true (.tuple #[])).run Tryz.prog w = .ok (.pointer (some ⟨w.heap.size,0,none⟩)) (w.alloc (.cells (opC opZ (.slice none 0 0) (.slice none 0 0) (.slice none 0 0) (.slice none 0 0)).toArray 72)):=by kernel_rfl
theorem g7x (o:OpM) (a1 a2 a3 a4:Option Addr) (n1 n2 n3 n4 c1 c2 c3 c4:Nat):∀ u ∈ opC o (.slice a1 n1 c1) (.slice a2 n2 c2) (.slice a3 n3 c3) (.slice a4 n4 c4),u.oneCell' = true:=by
 intro u hu
 simp only [opC,List.mem_cons,List.not_mem_nil,or_false] at hu
 rcases hu with rfl | rfl | rfl | rfl | rfl | rfl | rfl | rfl | rfl | rfl | rfl | rfl | rfl | rfl | rfl | rfl | rfl | rfl | rfl | rfl | rfl | rfl | rfl | rfl | rfl | rfl <;> rfl
theorem g0z {B T:Nat} {xs:List Value} (h:Holds w b T xs) (hB:B ≤ b):FP (fun i=>B ≤ i ∧ i < w.heap.size) w (fun W=>Holds W b T xs):=fun W2 _ _ _ _ e=>(e b ⟨hB,h.lt⟩).trans h
theorem g7y {ops:List OpM} {v:Value} (hr:SRow 26 (b3o 26 VOp) w v ops) {i:Nat} (hi:i < ops.length):∃ b o d av yv kv qv,v = .slice (some ⟨b,o,none⟩) ops.length d ∧ b < w.heap.size ∧ (∀ j u,(opC ops[i] av yv kv qv)[j]? = some u → w.cell? ⟨b,o + i * 26 + j,none⟩ = some u) ∧ OpR w ops[i] av yv kv qv:=by
 obtain ⟨ad,d,rfl⟩:=hr.isSlice
 obtain ⟨b,o,rfl,hb,cs,hcl,hcc,av,yv,kv,qv,rfl,hH⟩:=hr.at hi
 exact ⟨b,o,d,av,yv,kv,qv,rfl,hb,hcc,hH⟩
theorem OnL.ints {x:Lnk} {av:Value} (h:OnL s lims w4 d n W rb sv F x av):Ints W av x.spend.answers:=by
 obtain ⟨P,A,l,h1,h2,h3,h4,dk,M,k1,k2,k3,k4,k5⟩:=h
 exact k5.here
theorem f7m {x:Lnk} {v:Value} {j:Nat} {u:Value} (hj:(a8l x.ticket)[j]? = some u):(lkC x v)[j]? = some u:=by
 have e:lkC x v = a8l x.ticket ++ [.int .i64 x.spend.dare,v,.string ⟨x.terms.toArray⟩]:=rfl
 rw [e,List.getElem?_append_left (gS hj).1]
 exact hj
theorem f7n {x:Lnk} {v:Value} {j:Nat} {u:Value} (hj:([.int .i64 x.spend.dare,v]:List Value)[j]? = some u):(lkC x v)[6 + j]? = some u:=by
 have e:lkC x v = a8l x.ticket ++ ([.int .i64 x.spend.dare,v] ++ [.string ⟨x.terms.toArray⟩]):=rfl
 rw [e,List.getElem?_append_right (by simp)]
 simp only [List.length_cons,List.length_nil,Nat.zero_add,Nat.add_sub_cancel_left]
 rw [List.getElem?_append_left (gS hj).1]
 exact hj
theorem OnW.anew (h:OnW s lims w4 d 0 W pv sv e F) (a:Addr):OnW s lims w4 d 0 W pv (.slice (some a) 0 0) e F:=by
 obtain ⟨q,A,l,h1,h2,h3,dk,M,k1,k2,k3,k4⟩:=h
 have:l = []:=List.eq_nil_of_length_eq_zero (by omega)
 subst this
 exact ⟨q,A,[],h1,h2,h3,dk,M,k1,k2,e3w,k4⟩
set_option maxHeartbeats 8000000 in
theorem g1a (s:Stp) (lims:List Lim) (ops:List OpM) {bv lv ov:Value} (hset:SetR w s bv) (hlim:c5d w lv lims) (hor:SRow 26 (b3o 26 VOp) w ov ops) (hl:Cd.LaidE w) (hdb:DbT w)
  (k:∀ w',Bw w w' → K (.bool true) w'):a0a Tryz.prog 8 #[a9j s bv,lv,ov] K w:=by
 apply f8f
 unfold h2m
 obtain ⟨ad,c,rfl⟩:=hset.ints.isSlice
 obtain ⟨lad,lc,rfl⟩:=hlim.isSlice
 obtain ⟨oad,oc,rfl⟩:=hor.isSlice
 refine a3f (cs:=b1d s (.slice ad s.bases.length c)) rfl (fun b1 w1 h1 hb1 hB1=>?_)
 refine g0p (hl.below h1 hl.size) (DbT.next hdb h1) (fun w2 h2=>?_)
 have h02:=h1.on h2
 have hB2:=hB1.next h2
 refine a1s hB2 b4s (by kernel_rfl) (by kernel_rfl) ?_
 refine c8p s lims (hset.ints.next h02) (hlim.next (a1k a7i) h02) (fun w3 h3=>?_)
 have h03:=h02.on h3
 cases hfs:(decide (s.bases.length ≤ 8) && decide (lims.length ≤ 18)) with
 | false=>
  have k:=k _ h03
  refine Xa0 ?_
  exact k
 | true=>
 refine Xa0 ?_
 refine e3n ops 14 (by omega) (hor.next (a1k c2f) h03) (fun w4 h4=>?_)
 have h04:=h03.on h4
 cases hfo:b2i ops 14 with
 | false=>
  have k:=k _ h04
  refine Xa0 ?_
  exact k
 | true=>
 have hB4:=(hB2.next h3).next h4
 have hl4:=hl.below h04 hl.size
 obtain ⟨hol,hoall⟩:=d3u hfo
 have hor4:=hor.next (a1k c2f) h04
 have hset4:=hset.next h04
 have hlim4:=hlim.next (a1k a7i) h04
 refine Xa0 ?_
 refine f6g (fun w5 d dk hd5 f5 ho5 hr5=>?_)
 have h5:Bw w4 w5:=⟨f5.os,f5.tape,f5.output,f5.size,fun i hi=>f5.block i hi id⟩
 have s5:Sys w5 d c2g dk:=⟨hd5,hl4.below h5 hl4.size,fun i hi=>by have:=ho5 i hi; have:=hl4.size; omega⟩
 have hD5:OnD w4 w5 d c2g dk (fun i=>w4.heap.size ≤ i ∧ i < w5.heap.size):=⟨s5,fun i hi=>⟨hi.elim (ho5 i) (fun e=>absurd e (hr5 i)),hd5.lt hi⟩,fun i hi=>hi,h5,hl4.size⟩
 have hW5:∀ a,OnW s lims w4 d 0 w5 (.pointer none) (.slice (some a) 0 0) 0 (fun _=>True):=fun a=>⟨none,_,[],d9p s lims,rL,(fun P hP=>by cases hP),dk,_,hD5,rfl,e3w,fun _ _ _ _ _ _=>trivial⟩
 refine f2k d ?_
 refine a7z ?_
 refine a1s (hB4.next h5) b4s (by kernel_rfl) (by kernel_rfl) ?_
 refine OnW.open_ (hW5 ⟨0,0,none⟩) hset4 hlim4 (fun w6 pv6 e6 hW6=>?_)
 refine c1r ?_
 refine e3o (fun w7 h7 _=>?_)
 have hW7:=(hW6.anew ⟨w6.heap.size,0,none⟩).next h7
 have hod:oad = none ∨ True:=.inr trivial
 refine ⟨fun vs W=>∃ (a0 a1 a2 pv a5 a6 a7 a8 a9 sv a11 a12:Value) (e:Int) (i:Nat),vs = [a0,a1,a2,pv,.int .i64 e,a5,a6,a7,a8,a9,sv,a11,a12,.int .i64 (i:Int)] ∧ i ≤ ops.length ∧ OnW s lims w4 d (31 * i) W pv sv e (fun _=>True),
  (fun vs _=>match vs with | [_,_,_,_,_,_,_,_,_,_,_,_,_,.int _ i]=>ops.length - i.toNat | _=>0),⟨_,_,_,pv6,_,_,_,_,_,_,_,_,e6,0,rfl,by omega,hW7⟩,?_⟩
 rintro _ _ w8 ⟨a0,a1,a2,pv,a5,a6,a7,a8,a9,sv,a11,a12,e,i,rfl,hi,hW8⟩
 have h08:=h04.on hW8.bl
 by_cases hin:i = ops.length
 ·subst hin
  have k:=k _ h08
  refine Xa0 ?_
  exact k
 ·have hil:i < ops.length:=by omega
  have hiZ:(i:Int) < ops.length:=by omega
  have h48:=hW8.bl
  obtain ⟨ob,oo,od,av,yv,kv,qv',hv,hbl,hcc,hOR⟩:=g7y hor4 hil
  cases hv
  obtain ⟨a1',n1,d1,a2',n2,d2,a3',n3,d3,rfl,rfl,rfl⟩:=a0y hOR.held
  obtain ⟨q1,c1,rfl⟩:=hOR.keep.isSlice
  have hcc8:∀ j u,(opC ops[i] (.slice a1' n1 d1) (.slice a2' n2 d2) (.slice a3' n3 d3) (.slice q1 ops[i].keep.length c1))[j]? = some u → w8.cell? ⟨ob,oo + i * 26 + j,none⟩ = some u:=fun j u hj=>(h48.cell hbl).trans (hcc j u hj)
  have hof:=hoall _ (List.getElem_mem hil)
  have htl:ops[i].terms.length ≤ 1000000:=by
   simp only [b1o,bA,dE] at hof
   omega
  have hkl:ops[i].keep.length ≤ 1000:=by
   simp only [b1o,bA,dE] at hof
   omega
  generalize ops[i] = o at *
  refine Xb3 @hiZ ?_
  refine ⟨fun l9 W=>∃ (pv sv:Value) (e:Int),l9.getD 3 undef = pv ∧ l9.getD 4 undef = .int .i64 e ∧ l9.getD 10 undef = sv ∧ OnW s lims w4 d (31 * (i + 1)) W pv sv e (fun _=>True),?_,?_⟩
  case refine_2=>
   rintro l9 u9 W ⟨pv',sv',e',g1,g2,g3,hW⟩
   rw [g1,g2,g3]
   refine Xa0 ?_
   exact ⟨⟨_,_,_,pv',_,_,_,_,_,sv',_,_,e',i + 1,rfl,by omega,hW⟩,by show ops.length - (((i + 1:Nat):Int)).toNat < ops.length - ((i:Nat):Int).toNat; omega⟩
  refine Xb1 @hiZ ?_
  refine a1t (cs:=opC o (.slice a1' n1 d1) (.slice a2' n2 d2) (.slice a3' n3 d3) (.slice q1 o.keep.length c1)) hcc8 g7r (by kernel_rfl) (by kernel_rfl) ?_
  refine a0i h2f (fun g9 w9 h9 hg9 hH9=>?_)
  refine a0h (xs:=opC o (.slice a1' n1 d1) (.slice a2' n2 d2) (.slice a3' n3 d3) (.slice q1 o.keep.length c1)) h2c rfl rfl (g7x _ _ _ _ _ _ _ _ _ _ _ _ _) hH9 rfl (fun w10 hg10 hH10=>?_)
  have h810:Bw w8 w10:=a0k h9 hg10 hg9
  have hW10:=hW8.with h810 (g0z hH10 hg9)
  clear hH9 h9 hg10 hW8
  refine ⟨fun l9 W=>∃ (pv:Value) (e:Int),l9.getD 3 undef = pv ∧ l9.getD 4 undef = .int .i64 e ∧ OnW s lims w4 d (31 * i) W pv sv e (fun W=>Holds W g9 72 (opC o (.slice a1' n1 d1) (.slice a2' n2 d2) (.slice a3' n3 d3) (.slice q1 o.keep.length c1))),?_,?_⟩
  ·have c0:w10.cell? ⟨g9,0,none⟩ = some (.int .i64 o.kind):=a1c hH10 (j:=0) rfl
   have c1':w10.cell? ⟨g9,1,none⟩ = some (.int .i64 o.a):=a1c hH10 (j:=1) rfl
   have c25:w10.cell? ⟨g9,25,none⟩ = some (.slice q1 o.keep.length c1):=a1c hH10 (j:=25) rfl
   by_cases k5:o.kind = 5
   ·refine Xa (An3 @c0 @c1' @k5) ?_
    refine hW10.lose o.a (by have:=hOR.a.2; omega) (fun w11 hW11=>?_)
    refine Xa0 ?_
    exact ⟨pv,e,rfl,rfl,hW11⟩
   ·by_cases k6:o.kind = 6
    ·refine Xa (An5 @c0 @c1' @c25 @k5 @k6) ?_
     refine hW10.arm o.a (by have:=hOR.a.2; omega) (hOR.keep.next hW10.bl) hkl (fun w11 hW11=>?_)
     refine Xa0 ?_
     exact ⟨pv,e,rfl,rfl,hW11⟩
    ·refine Xa (An3 @c0 @k5 @k6) ?_
     refine ⟨fun l9 W=>l9.getD 0 undef = .bool (decide (o.kind = 7 ∨ o.kind = 8)) ∧ Nx w10 W,?_,?_⟩
     ·by_cases k7:o.kind = 7
      ·refine Xa @k7 ?_
       exact ⟨by rw [decide_eq_true (.inl k7)]; rfl,bR⟩
      ·refine Xa @k7 ?_
       exact ⟨by simp [k7],bR⟩
     ·rintro l9 u9 w11 ⟨g1,h11⟩
      have hW11:=hW10.next h11
      rw [g1]
      by_cases k78:o.kind = 7 ∨ o.kind = 8
      ·rw [decide_eq_true k78]
       refine Xa0 ?_
       refine ⟨fun _ W=>OnW s lims w4 d (31 * i) W (.pointer none) sv 0 (fun W=>Holds W g9 72 (opC o (.slice a1' n1 d1) (.slice a2' n2 d2) (.slice a3' n3 d3) (.slice q1 o.keep.length c1))),?_,?_⟩
       ·have c0:=(h11.cell hH10.lt).trans c0
        have c25:=(h11.cell hH10.lt).trans c25
        by_cases k7:o.kind = 7
        ·refine Xa (An3 @c0 @c25 @k7) ?_
         refine hW11.crash hOR.keep hkl (fun w12 hW12=>?_)
         refine Xa0 ?_
         exact hW12
        ·refine Xa (An2 @c0 @k7) ?_
         exact hW11.forget 0
       ·rintro l10 u10 w12 hW12
        refine hW12.start (fun w13 hW13=>?_)
        refine a1s (hB4.next hW13.bl) b4s (by kernel_rfl) (by kernel_rfl) ?_
        refine hW13.open_ hset4 hlim4 (fun w14 pv14 e14 hW14=>?_)
        refine Xa0 ?_
        exact ⟨pv14,e14,rfl,rfl,hW14⟩
      ·rw [decide_eq_false k78]
       refine Xa0 ?_
       exact ⟨pv,e,rfl,rfl,hW11⟩
  rintro l9 u9 w11 ⟨pv',e',g3,g4,hW11⟩
  rw [g3,g4]
  rcases hW11.split with rfl | ⟨pb,rfl,rfl,hP11⟩
  ·refine d3r ?_
   refine Xa0 ?_
   exact ⟨_,_,_,rfl,rfl,rfl,(hW11.also (fun _ _=>trivial)).more (by omega)⟩
  ·refine b8d pb ?_
   refine Xa0 ?_
   have hH11:=hW11.here
   refine a1s hH11 g7r (by kernel_rfl) (by kernel_rfl) ?_
   refine hP11.run o hOR htl hkl (fun w12 v12 e12 hne hP12=>?_) (fun w12 lb lo lm lcap x xv hk2 hm hmm hlb hlc hwx hL12=>?_)
   ·have hH12:=hP12.toW.here
    have c0:w12.cell? ⟨g9,0,none⟩ = some (.int .i64 o.kind):=a1c hH12 (j:=0) rfl
    refine Xa0 ?_
    refine ⟨fun l9 W=>∃ sv':Value,l9.getD 3 undef = sv' ∧ OnP s lims w4 d (31 * i + 1) W pb sv' (fun W=>Holds W g9 72 (opC o (.slice a1' n1 d1) (.slice a2' n2 d2) (.slice a3' n3 d3) (.slice q1 o.keep.length c1))),?_,?_⟩
    ·by_cases k2:o.kind = 2
     ·have he:¬ e12 = 0:=fun h=>hne ⟨k2,h⟩
      refine Xa (An3 @c0 @k2 @he) ?_
      exact ⟨sv,rfl,hP12.more (by omega)⟩
     ·refine Xa (An2 @c0 @k2) ?_
      exact ⟨sv,rfl,hP12.more (by omega)⟩
    ·rintro l10 u10 w13 ⟨sv',g5,hP13⟩
     rw [g5]
     have hb13:=hP13.toW.bl
     refine a1s (hB4.next hb13) b4s (by kernel_rfl) (by kernel_rfl) ?_
     refine hP13.look (by omega) (hset4.next hb13) (fun w14 sv14 hP14=>?_)
     refine Xa0 ?_
     exact ⟨_,_,_,rfl,rfl,rfl,(hP14.toW.also (fun _ _=>trivial)).more (by omega)⟩
   ·have hH12:=hL12.toP.toW.here
    have c0:w12.cell? ⟨g9,0,none⟩ = some (.int .i64 o.kind):=a1c hH12 (j:=0) rfl
    obtain ⟨xad,xc,hxv⟩:=hL12.ints.isSlice
    subst hxv
    have hm0:¬ (lm:Int) = 0:=by omega
    have hm1:0 ≤ (lm:Int) - 1:=by omega
    have hm2:(lm:Int) - 1 < lm:=by omega
    have hm3:((lm:Int) - 1).toNat = lm - 1:=by omega
    refine Xa0 ?_
    refine ⟨fun l9 W=>∃ sv':Value,l9.getD 3 undef = sv' ∧ OnP s lims w4 d (31 * i + 1) W pb sv' (fun W=>Holds W g9 72 (opC o (.slice a1' n1 d1) (.slice a2' n2 d2) (.slice a3' n3 d3) (.slice q1 o.keep.length c1))),?_,?_⟩
    ·refine Xa (An6 @c0 @hk2 @hm0 @hm1 @hm2 @hm3) ?_
     refine a1t (cs:=lkC x (.slice xad x.spend.answers.length xc)) hlc c5f (by kernel_rfl) (by kernel_rfl) ?_
     refine a0i d0t (fun g13 w13 h13 hg13 hH13=>?_)
     refine a0h (xs:=lkC x (.slice xad x.spend.answers.length xc)) d0u rfl rfl (b4i _ _ _ _) hH13 rfl (fun w14 hg14 hH14=>?_)
     have h1214:Bw w12 w14:=a0k h13 hg14 hg13
     have hL14:=hL12.next h1214
     have hb14:=hL14.toP.toW.bl
     refine a7z ?_
     refine a1t (cs:=a8l x.ticket) (p:=0) (fun j u hj=>by rw [Nat.zero_add]; exact a1c hH14 (f7m hj)) b0l (by kernel_rfl) (by kernel_rfl) ?_
     refine a7z ?_
     refine a1t (cs:=[.int .i64 x.spend.dare,.slice xad x.spend.answers.length xc]) (p:=6) (fun j u hj=>a1c hH14 (f7n hj)) a7j (by kernel_rfl) (by kernel_rfl) ?_
     refine hL14.put (by omega) (fun w15 sv15 hacc h15 hP15=>?_)
     have hH15:=hH14.next h15
     refine h1d ?_
     have hb15:=hP15.toW.bl
     refine g0x ?_
     refine a1s (hB4.next hb15) b4s (by kernel_rfl) (by kernel_rfl) ?_
     refine g0x ?_
     refine a7z ?_
     refine g0x ?_
     refine a1t (cs:=a8l x.ticket) (p:=0) (fun j u hj=>by rw [Nat.zero_add]; exact a1c hH15 (f7m hj)) b0l (by kernel_rfl) (by kernel_rfl) ?_
     refine g0x ?_
     refine a7z ?_
     refine g0x ?_
     refine a1t (cs:=[.int .i64 x.spend.dare,.slice xad x.spend.answers.length xc]) (p:=6) (fun j u hj=>a1c hH15 (f7n hj)) a7j (by kernel_rfl) (by kernel_rfl) ?_
     refine g0x ?_
     have hxI:Ints w15 (.slice xad x.spend.answers.length xc) x.spend.answers:=hL14.ints.next h15
     refine c0b s x.ticket x.spend (d0x hwx.t) (hset4.next hb15) ⟨⟨hwx.dare.1,by have:=hwx.dare.2; omega⟩,hxI⟩ (fun w16 h16=>?_)
     rw [hacc]
     refine Xa0 ?_
     exact ⟨sv15,rfl,hP15.next h16⟩
    ·rintro l10 u10 w13 ⟨sv',g5,hP13⟩
     rw [g5]
     have hb13:=hP13.toW.bl
     refine a1s (hB4.next hb13) b4s (by kernel_rfl) (by kernel_rfl) ?_
     refine hP13.look (by omega) (hset4.next hb13) (fun w14 sv14 hP14=>?_)
     refine Xa0 ?_
     exact ⟨_,_,_,rfl,rfl,rfl,(hP14.toW.also (fun _ _=>trivial)).more (by omega)⟩
end
end Go.Proofs
