/- Parts of the proof of the seat's statements (LawKit, OpenKit, OpenKit2, PK, PK2, HPw, UrA, UrB, HRa, HRc, HRg, HRd, HRh, PuVal, PuRef, RhA, RfA, RfB, RfC, RfD, TcF, RgA, RgB, RhB, TcG, TcG2, TcG3, TcG4, RhC, PuSiz, RhD, HRi, RhE, RhF, RhG, RhH): lemmas about the given translation and plain laws. No condition of their own. -/
import Derived.Test.YtbfkhodfjecndaaGreatDoorFae
import Derived.ProofKit
import Derived.LaidMore
import Derived.OpenShut
import Derived.Carry
import Derived.SizedLaws
import Derived.Stop.Joined
import Derived.Deep.Slices
import Derived.Deep.Fields
import Derived.LaidSub
import Derived.Test.YtbfkhodfjecndaaGreatDoorRows
import Derived.Test.YtbfkhodfjecndaaGreatDoorCards
import Derived.Test.YtbfkhodfjecndaaGreatDoorTie
import Derived.SevenTiedAt
import Derived.Test.YtbfkhodfjecndaaGreatDoorProg
import Derived.Laws.IdiomStrings
set_option linter.all false
set_option maxRecDepth 100000
namespace Go.Sh
open Go Go.ChangeShapes Go.WideShapes Go.ChangeAt Go.RowKit
section
variable {H:Type} {enc:TypeId × Value → H} {P:Program}
theorem b2q (hl:laidOutB P = true) {W W':World} (hb:Below W.heap.size W W') :
  ∀ (ts:List TypeId) (vs:List Value) (ds:List (DataW H)) (ps:List MemPlace),(ts.all fun t=>P.readableRec t && decide (t < P.types.size)) = true →
  DataW.TrodAll enc P W 0 (fun _=>true) true ts vs ds ps → (∀ x ∈ ps,x.block < W.heap.size) → DataW.TrodAll enc P W' 0 (fun b=>decide (b < W.heap.size)) true ts vs ds ps
 | [],[],[],_,_,h,_=>h
 | t :: ts,v :: vs,d :: ds,ps,ht,h,hlt=>by
  obtain ⟨p,q,h1,h2,rfl⟩:=h
  simp only [List.all_cons,bA,dE] at ht
  exact ⟨p,q,Below.trod hl ht.1.1 ht.1.2 h1 hb (fun x hx=>hlt x (by simp [hx])),b2q hl hb ts vs ds q ht.2 h2 (fun x hx=>hlt x (by simp [hx])),rfl⟩
 | [],_ :: _,_,_,_,h,_=>h.elim
 | [],[],_ :: _,_,_,h,_=>h.elim
 | _ :: _,[],_,_,_,h,_=>h.elim
 | _ :: _,_ :: _,[],_,_,h,_=>h.elim
theorem b1s {W:World} {b:Nat} {sp:Nat → Bool} {hd:Bool}:∀ (ts:List TypeId) (vs:List Value) (ds:List (DataW H)) (ps:List MemPlace),DataW.TrodAll enc P W b sp hd ts vs ds ps → ds.length = ts.length ∧ vs.length = ts.length
 | [],[],[],_,_=>⟨rfl,rfl⟩
 | t :: ts,v :: vs,d :: ds,ps,h=>by
  obtain ⟨p,q,h1,h2,rfl⟩:=h
  have:=b1s ts vs ds q h2
  simp [this]
 | [],_ :: _,_,_,h=>h.elim
 | [],[],_ :: _,_,h=>h.elim
 | _ :: _,[],_,_,h=>h.elim
 | _ :: _,_ :: _,[],_,h=>h.elim
theorem a7j {W:World} {b:Nat} {sp:Nat → Bool} {hd:Bool} {t:TypeId} {ts:List TypeId} {vs:List Value} {ds:List (DataW H)} {ps:List MemPlace} (h:DataW.TrodAll enc P W b sp hd (t :: ts) vs ds ps) :
  ∃ v d vs' ds' p q,vs = v :: vs' ∧ ds = d :: ds' ∧ DataW.Trod enc P W b sp hd t v d p ∧ DataW.TrodAll enc P W b sp hd ts vs' ds' q ∧ ps = p ++ q:=by
 match vs,ds,h with
 | v :: vs,d :: ds,h=>
  obtain ⟨p,q,h1,h2,rfl⟩:=h
  exact ⟨v,d,vs,ds,p,q,rfl,rfl,h1,h2,rfl⟩
 | [],_,h=>exact h.elim
 | _ :: _,[],h=>exact h.elim
theorem g5o {W:World} {b:Nat} {sp:Nat → Bool} {hd:Bool} {vs:List Value} {ds:List (DataW H)} {ps:List MemPlace} (h:DataW.TrodAll enc P W b sp hd [] vs ds ps):vs = [] ∧ ds = [] ∧ ps = []:=by
 match vs,ds,h with
 | [],[],h=>exact ⟨rfl,rfl,h⟩
theorem d0d {fn:Func} {s:ChangeSpec} {tb:TypeId} {apart:Bool} {W W':World} {args:Array Value} {ds gs:List (DataW H)} {before:List MemPlace} (hl:laidOutB P = true)
  (hrt:fn.resultTypes = #[tb]) (hub:P.underlying tb = some .bool) (hpar:(fn.params.toList.all fun t=>P.readableRec t && decide (t < P.types.size)) = true) (hvars:s.vars = [])
  (hspec:∀ ds:List (DataW H),ds.length = fn.params.toList.length → s.fn H ds = { results:=[.lit (.bool true)],args:=ds })
  (hW:DataW.Whole enc P fn.params.toList s.vars apart W args.toList ds gs before) (hb:Below W.heap.size W W'):s.post enc P fn apart true false false W args (.bool true) W':=by
 have hW0:=hW
 have hlt:=hW.lt
 obtain ⟨p,q,hA,hV,rfl,_,_⟩:=hW
 rw [hvars] at hV
 obtain ⟨rfl,rfl⟩:=trodVars_none hV
 have hlen:=(b1s _ _ _ _ hA).1
 have hs:=hspec ds hlen
 rw [List.append_nil] at hlt hW0
 refine ⟨ds,[],p,[],p,[],hW0,?_,?_,?_,hb.frame _,fun h=>by cases h⟩
 ·rw [List.append_nil,hs,hrt]
  exact trodAll_mk1 (shut_bool hub true)
 ·rw [List.append_nil,hs]
  exact b2q hl hb _ _ _ _ hpar hA hlt
 ·rw [hvars,List.append_nil,hs]
  rfl
theorem law_lifted {C:Checked} {os:Os} {f:FuncId} {fn:Func} {s:ChangeSpec} {tb:TypeId} (own:ownKnob C.prog.godebug = none) (started:os.Started) (noInit:C.prog.inits.idxOf? f = none) (hfn:C.prog.funcs[f]? = some fn)
  (hl:laidOutB C.prog = true) (hrt:fn.resultTypes = #[tb]) (hub:C.prog.underlying tb = some .bool) (hpar:(fn.params.toList.all fun t=>C.prog.readableRec t && decide (t < C.prog.types.size)) = true) (hvars:s.vars = [])
  (hspec:∀ ds:List (DataW H),ds.length = fn.params.toList.length → s.fn H ds = { results:=[.lit (.bool true)],args:=ds })
  (witness:∃ (w:World) (tape:Tape) (i:Input),w.os = os ∧ (w.forCall tape i).Shaped C.prog ∧ i.vars = [] ∧ Input.okWide C.prog (w.forCall tape i) .any w.heap.size f i ∧
   s.pre6 enc C.prog fn [] false (w.forCall tape i).memory i.args ∧ ({}:Assume).holds C.prog (lone (Frame.enter C.prog f i.args .normal) [] (w.forCall tape i)))
  (contract:∀ (W:World) (base:Nat) (args:List Value) (ds:List (DataW H)) (p:List MemPlace),(∀ (j:Nat) t v,fn.params.toList[j]? = some t → args[j]? = some v → Value.okWide C.prog W .any base t v) →
   DataW.TrodAll enc C.prog W 0 (fun _=>true) true fn.params.toList args ds p → (DataW.weightsEach C.prog fn.params.toList ds).all (· ≤ reachBytes) = true → (∀ x ∈ p,x.block < W.heap.size) →
   a0a C.prog f args.toArray (fun v W'=>v = .bool true ∧ Below W.heap.size W W') W) :
  ReturnsInHanded {} C os f .any (s.pre6 enc C.prog fn [] false) (s.post enc C.prog fn false true false false):=by
 refine returnsInHanded_of_change_sized own started noInit hfn witness ?_
 intro W base args ds gs before hval hW _ hsz _
 have hW0:=hW
 have hlt:=hW.lt
 obtain ⟨p,q,hA,hV,rfl,_,_⟩:=hW
 rw [hvars] at hV
 obtain ⟨rfl,rfl⟩:=trodVars_none hV
 have hsz':(DataW.weightsEach C.prog fn.params.toList ds).all (· ≤ reachBytes) = true:=by
  simpa [hvars,ChangeSpec.plain,DataSpec.varTypes] using hsz
 have hc:=contract W base args.toList ds p (fun j t v h1 h2=>hval j t v (by simpa using h1) (by simpa using h2)) hA hsz' (fun x hx=>hlt x (by simp [hx]))
 refine hc.mono fun e W' h=>?_
 obtain ⟨v,rfl,rfl,hb⟩:=h
 exact ⟨_,rfl,d0d hl hrt hub hpar hvars hspec hW0 hb⟩
theorem b6d {C:Checked} {os:Os} {f:FuncId} {fn:Func} {s:ChangeSpec} {tb:TypeId} {L:List (String × DataW Unit)} (own:ownKnob C.prog.godebug = none) (started:os.Started) (noInit:C.prog.inits.idxOf? f = none) (hfn:C.prog.funcs[f]? = some fn)
  (hl:laidOutB C.prog = true) (hrt:fn.resultTypes = #[tb]) (hub:C.prog.underlying tb = some .bool) (hpar:(fn.params.toList.all fun t=>C.prog.readableRec t && decide (t < C.prog.types.size)) = true) (hvars:s.vars = [])
  (hspec:∀ ds:List (DataW H),ds.length = fn.params.toList.length → s.fn H ds = { results:=[.lit (.bool true)],args:=ds })
  (witness:∃ (w:World) (tape:Tape) (i:Input),w.os = os ∧ (w.forCall tape i).Shaped C.prog ∧ i.vars = [] ∧ Input.okWide C.prog (w.forCall tape i) .any w.heap.size f i ∧
   ((s.pre enc C.prog fn [] false (w.forCall tape i).memory i.args ∧ laidMetH C.prog L (w.forCall tape i).memory) ∧ sizedMet enc C.prog fn (OpenSpec.ofChange s) false (w.forCall tape i).memory i.args) ∧ ({}:Assume).holds C.prog (lone (Frame.enter C.prog f i.args .normal) [] (w.forCall tape i)))
  (contract:∀ (W:World) (base:Nat) (args:List Value) (ds:List (DataW H)) (p:List MemPlace),(∀ (j:Nat) t v,fn.params.toList[j]? = some t → args[j]? = some v → Value.okWide C.prog W .any base t v) →
   DataW.TrodAll enc C.prog W 0 (fun _=>true) true fn.params.toList args ds p → (DataW.weightsEach C.prog fn.params.toList ds).all (· ≤ reachBytes) = true → (∀ x ∈ p,x.block < W.heap.size) →
   laidMetH C.prog L W →
   a0a C.prog f args.toArray (fun v W'=>v = .bool true ∧ Below W.heap.size W W') W) :
  ReturnsInHanded {} C os f .any (fun w args=>(s.pre enc C.prog fn [] false w args ∧ laidMetH C.prog L w) ∧ sizedMet enc C.prog fn (OpenSpec.ofChange s) false w args)
   (s.post enc C.prog fn false true false false):=by
 refine returnsInHanded_of_change_and (X:=fun w _=>laidMetH C.prog L w) (fun _ _ _ hh h=>h.of_heap hh) own started noInit hfn witness ?_
 intro W base args ds gs before hval hW _ hsz hX _
 have hW0:=hW
 have hlt:=hW.lt
 obtain ⟨p,q,hA,hV,rfl,_,_⟩:=hW
 rw [hvars] at hV
 obtain ⟨rfl,rfl⟩:=trodVars_none hV
 have hsz':(DataW.weightsEach C.prog fn.params.toList ds).all (· ≤ reachBytes) = true:=by
  simpa [hvars,ChangeSpec.plain,DataSpec.varTypes] using hsz
 have hc:=contract W base args.toList ds p (fun j t v h1 h2=>hval j t v (by simpa using h1) (by simpa using h2)) hA hsz' (fun x hx=>hlt x (by simp [hx])) hX
 refine hc.mono fun e W' h=>?_
 obtain ⟨v,rfl,rfl,hb⟩:=h
 exact ⟨_,rfl,d0d hl hrt hub hpar hvars hspec hW0 hb⟩
end
end Go.Sh
namespace Go.Sh
open Go Go.ChangeShapes Go.WideShapes Go.ChangeAt Go.RowKit Go.Deep
section
variable {H:Type} {enc:TypeId × Value → H} {P:Program} {w:World} {sp:Nat → Bool} {hd:Bool}
theorem b6e (b o k:Nat):(⟨b,o,none⟩:Addr).add k = ⟨b,o + k,none⟩:=by
 unfold Addr.add
 split
 ·rename_i h; rw [h]; rfl
 ·rfl
theorem cell_lt {a:Addr} {v:Value} (h:w.cell? a = some v):a.block < w.heap.size ∧ a.spot = none:=by
 unfold World.cell? at h
 split at h
 ·rename_i c t f hh
  refine ⟨(Array.getElem?_eq_some_iff.1 hh).1,?_⟩
  split at h
  ·cases h
  ·rename_i hs
   cases hsp:a.spot with
   | none=>rfl
   | some x=>rw [hsp] at hs; exact absurd rfl hs
 ·cases h
theorem a7o {e:TypeId} {fs:Array Field} {n:Nat} {cs:List Value} {D:DataW H × List MemPlace} (he:P.underlying e = some (.struct fs)) (hone:oneCellFields P fs = true) (hC:P.cellsOf e = fs.size)
  (h:DataW.trod enc P w 0 sp hd n e cs = some D) :
  cs.length = fs.size ∧ ∀ (j:Nat) (f:Field),fs[j]? = some f → ∃ (v:Value) (y:DataW H × List MemPlace) (m:Nat),cs[j]? = some v ∧ DataW.trod enc P w 0 sp hd m f.type [v] = some y:=by
 obtain ⟨xs,m,_,_,hcl,hxl,hf⟩:=DataW.trod_struct he h
 rw [hC] at hcl
 refine ⟨hcl,fun j f hj=>?_⟩
 obtain ⟨ho,hk⟩:=hone_of hone j f hj
 have hjl:j < fs.size:=(Array.getElem?_eq_some_iff.1 hj).1
 have h1:=hf j f hj
 rw [ho,hk,List.drop_eq_getElem_cons (by omega),gE (by omega:j < xs.length)] at h1
 exact ⟨_,_,m,gE (by omega),h1⟩
end
end Go.Sh
namespace Go.Sh
open Go Go.ChangeShapes Go.WideShapes Go.ChangeAt Go.RowKit Go.Deep
section
variable {H:Type} {enc:TypeId × Value → H} {P:Program} {w:World} {sp:Nat → Bool} {hd:Bool}
theorem f9k {α:Type} (mk:α → Value) (Q:α → Prop) {t e:TypeId} {v:Value} {n:Nat} {D:DataW H × List MemPlace} (ht:P.underlying t = some (.slice e)) (hC:P.cellsOf e = 1)
  (hrd:∀ (V:Value) (n:Nat) (D:DataW H × List MemPlace),DataW.trod enc P w 0 sp hd n e [V] = some D → ∃ x,V = mk x ∧ Q x) (h:DataW.trod enc P w 0 sp hd n t [v] = some D) :
  ∃ l:List α,(∃ ad c,v = .slice ad l.length c ∧ (l = [] ∨ ∃ b o,ad = some ⟨b,o,none⟩ ∧ b < w.heap.size ∧ ∀ (i:Nat) (h:i < l.length),w.cell? ⟨b,o + i,none⟩ = some (mk l[i]))) ∧ l.length ≤ maxLen ∧ ∀ x ∈ l,Q x:=by
 rcases open_slice1 ht hC h with ⟨hcs,_⟩ | ⟨a',len,cap,m,n',V,D',Pl,hcs,_,hl,hm,hmm,_,hi⟩
 ·simp only [List.cons.injEq,and_true] at hcs
  subst hcs
  exact ⟨[],⟨none,0,rfl,.inl rfl⟩,by simp,by simp⟩
 ·simp only [List.cons.injEq,and_true] at hcs
  subst hcs
  have hml:len ≤ m:=by rw [hmm]; split <;> omega
  have key:∀ i:Fin len,∃ x,V i = mk x ∧ Q x:=fun i=>hrd _ _ _ (hi i (by have:=i.2; omega)).2
  refine ⟨List.ofFn (fun i=>(key i).choose),⟨some a',cap,by rw [List.length_ofFn],?_⟩,by rw [List.length_ofFn]; omega,?_⟩
  ·by_cases h0:len = 0
   ·left; subst h0; rfl
   ·right
    have h00:=(hi 0 (by omega)).1
    have e0:a'.add 0 = a':=by simp [Addr.add]
    rw [e0] at h00
    obtain ⟨hb,hs⟩:=cell_lt h00
    obtain ⟨b,o,s⟩:=a'
    simp only at hs hb
    subst hs
    refine ⟨b,o,rfl,hb,fun i hil=>?_⟩
    rw [List.length_ofFn] at hil
    have h1:=(hi i (by omega)).1
    rw [b6e] at h1
    rw [h1,List.getElem_ofFn]
    have:=(key ⟨i,hil⟩).choose_spec.1
    exact congrArg some this
  ·intro x hx
   rw [List.mem_ofFn] at hx
   obtain ⟨i,rfl⟩:=hx
   exact (key i).choose_spec.2
theorem e0g {t:TypeId} {ms:Array (String × TypeId)} {cs:List Value} {n:Nat} {nm:String} {d:DataW H} {ps:List MemPlace} (ht:P.underlying t = some (.interface ms)) (h:DataW.trod enc P w 0 sp false n t cs = some (.iface nm d,ps)):∃ u v,cs = [.iface u v]:=by
 cases n with
 | zero=>simp [DataW.trod] at h
 | succ n=>
  unfold DataW.trod at h
  rw [ht] at h
  match cs,h with
  | [.iface u v],_=>exact ⟨u,v,rfl⟩
  | [.nilIface],h=>simp at h
  | [],h=>simp at h
  | [.int _ _],h=>simp at h
  | [.bool _],h=>simp at h
  | [.string _],h=>simp at h
  | [.pointer _],h=>simp at h
  | [.slice _ _ _],h=>simp at h
  | [.map _],h=>simp at h
  | [.float _ _],h=>simp at h
  | [.complex _ _ _],h=>simp at h
  | [.agg _],h=>simp at h
  | [.tuple _],h=>simp at h
  | [.func _ _ _],h=>simp at h
  | [.nilFunc],h=>simp at h
  | [.chan _],h=>simp at h
  | _ :: _ :: _,h=>simp at h
end
end Go.Sh
namespace Go.Proofs
open Go Go.Sh Go.RowKit Go.Lib CodeSpec TkSpec FdSpec Go.ChangeShapes Go.WideShapes Go.ChangeAt
abbrev laidList:List (String × DataW Unit):=YtbfkhodfjecndaaGreatDoor.Rows.purseFormsRow.laid
abbrev d2c (i:Nat):String:=(laidList.map (·.1)).getD i default
theorem a9e {W:World} {nm:String} {d:DataW Unit} (hf:(laidList.filter fun x=>x.1 == nm) = [(nm,d)]) (h:laidMetH Tryz.prog laidList W):laidMet Tryz.prog [(nm,d)] W:=by
 rw [MakeChecks.laidMetH_plain _ _ _ (by kernel_rfl)] at h
 have:=h.filter (fun x=>x.1 == nm)
 rwa [hf] at this
theorem e9u {W:World} (h:laidMetH Tryz.prog laidList W):TabIs Tryz.prog W c1v .u64 pow10Tab:=
 tabIs_of_head (rest:=[]) (t:=330) (e:=197) (n:=20) Cd.gTab (by kernel_rfl) Tryz.underlying330 Tryz.underlying197 (by kernel_rfl) (by kernel_rfl)
  (a9e (d:=tabData .u64 pow10Tab) (by kernel_rfl) h)
theorem gDb:Tryz.prog.globalNamed (d2c 1) = some 4:=by kernel_rfl
theorem f9l {W:World} (h:laidMetH Tryz.prog laidList W):TabIs Tryz.prog W (d2c 1) .u8 (Lib.deBruijn64tab.map (fun n:Nat=>(n:Int))):=
 tabIs_of_head (rest:=[]) (t:=332) (e:=5) (n:=64) gDb (by kernel_rfl) Tryz.underlying332 Tryz.underlying5 (by kernel_rfl) (by kernel_rfl)
  (a9e (d:=tabData .u8 (Lib.deBruijn64tab.map (fun n:Nat=>(n:Int)))) (by kernel_rfl) h)
theorem g8n {W:World} (h:laidMetH Tryz.prog laidList W):DbT W:=by
 have ht:=f9l h
 have hl:(Lib.deBruijn64tab.map (fun n:Nat=>(n:Int))).length = 64:=by decide +kernel
 have hc:∀ j,j < 64 → W.cell? ⟨4,j,none⟩ = some (.int .u8 (Lib.deBruijn64tab.getD j 0:Nat)):=fun j hj=>by
  rw [ht.cell gDb j (by omega)]
  have:(Lib.deBruijn64tab.map (fun n:Nat=>(n:Int))).getD j 0 = ((Lib.deBruijn64tab.getD j 0:Nat):Int):=by
   rw [List.getD_eq_getElem?_getD,List.getD_eq_getElem?_getD,List.getElem?_map]
   cases Lib.deBruijn64tab[j]? <;> rfl
  rw [this]
 refine ⟨?_,hc⟩
 have h0:=hc 0 (by omega)
 by_cases hlt:4 < W.heap.size
 ·exact hlt
 ·unfold World.cell? at h0
  rw [Array.getElem?_eq_none (by show W.heap.size ≤ 4; omega)] at h0
  simp at h0
theorem d0e {W:World} {nm:String} {x:DataW Unit} {g:Nat} (hg:Tryz.prog.globalNamed nm = some g) (hty:(Tryz.prog.globals[g]?).map (·.type) = some 247) (hf:(laidList.filter fun x=>x.1 == nm) = [(nm,x)]) (hx:∃ nt d,x = .iface nt d) (h:laidMetH Tryz.prog laidList W) :
  ∃ te pe,W.cell? ⟨g,0,none⟩ = some (.iface te pe):=by
 obtain ⟨nt,d,rfl⟩:=hx
 obtain ⟨ps,⟨g0,t0,cs0,f0,p0,q0,hg0,ht0,hv0,hd0,_,_⟩,_,_⟩:=a9e hf h
 obtain rfl:=oI (hg.symm.trans hg0)
 obtain rfl:=oI (hty.symm.trans ht0)
 obtain ⟨u,y,hcs⟩:=e0g Tryz.underlying247 hd0
 have:=World.var?_cell hg hv0 0
 refine ⟨u,y,?_⟩
 rw [this]
 have e:cs0[0]? = cs0.toList[0]?:=by simp
 rw [e,hcs]; rfl
theorem g8o {W:World} (h:laidMetH Tryz.prog laidList W):8 ≤ W.heap.size:=by
 obtain ⟨ps,⟨g0,t0,cs0,f0,p0,q0,hg0,ht0,hv0,hd0,_,_⟩,_,_⟩:=a9e (nm:=d2c 0) (d:=YtbfkhodfjecndaaGreatDoor.Rows.laid_math_bits_deBruijn32tab) (by kernel_rfl) h
 have hg:Tryz.prog.globalNamed (d2c 0) = some 7:=by kernel_rfl
 unfold World.var? at hv0
 rw [hg] at hv0
 simp only [Option.bind_some] at hv0
 split at hv0
 ·rename_i cs t f hh
  have:=(Array.getElem?_eq_some_iff.1 hh).1
  omega
 ·cases hv0
theorem f9m {W:World} (h:laidMetH Tryz.prog laidList W):Cd.LaidE W:=
 ⟨⟨e9u h,g8o h⟩,d0e (nm:=d2c 4) (x:=YtbfkhodfjecndaaGreatDoor.Rows.laid_strconv_ErrSyntax) (by kernel_rfl) (by kernel_rfl) (by kernel_rfl) ⟨_,_,rfl⟩ h,d0e (nm:=d2c 3) (x:=YtbfkhodfjecndaaGreatDoor.Rows.laid_strconv_ErrRange) (by kernel_rfl) (by kernel_rfl) (by kernel_rfl) ⟨_,_,rfl⟩ h⟩
theorem f7q (s:ByteArray):s = ⟨s.data.toList.toArray⟩:=by cases s; rfl
theorem f7r (s:ByteArray):s.data.toList.length = s.size:=by simp
theorem own:ownKnob Tryz.prog.godebug = none:=by kernel_rfl
theorem f9n:laidOutB Tryz.prog = true:=by kernel_rfl
theorem e9v (os:Os) (args:Array Value):laidMetH Tryz.prog laidList ((World.doorLaid Tryz.prog 400 os).forCall (fun _ _=>0) ⟨#[],args,[]⟩).memory:=
 laidMetH_of_parts3 (fuel:=8) (laidMet_of_run' 8 (by kernel_rfl) (by kernel_rfl)) (by kernel_rfl) (by kernel_rfl)
theorem e9w {n:Int} (h:(Lit.int .i64 n).wf = true):I64 n:=by
 simp only [Lit.wf,bA,dE] at h
 have h1:-9223372036854775808 ≤ n:=h.1
 have h2:n ≤ 9223372036854775807:=h.2
 exact ⟨h1,by omega⟩
end Go.Proofs
namespace Go.Proofs
open Go Go.Sh Go.RowKit Go.Lib CodeSpec TkSpec FdSpec PuSpec Go.ChangeShapes Go.WideShapes Go.ChangeAt Go.Deep
section
variable {H:Type} {enc:TypeId × Value → H} {w:World} {sp:Nat → Bool} {hd:Bool}
theorem d0f {P:Program} {α:Type} {n:Nat} {At:World → Nat → Nat → α → Prop} {t e:TypeId} {v:Value} {m0:Nat} {D:DataW H × List MemPlace} (ht:P.underlying t = some (.slice e)) (hC:P.cellsOf e = n) (hn:0 < n)
  (hrd:∀ (cs:List Value) (b p m:Nat) (D:DataW H × List MemPlace),cs.length = n → (∀ (j:Nat) (u:Value),cs[j]? = some u → w.cell? ⟨b,p + j,none⟩ = some u) → DataW.trod enc P w 0 sp hd m e cs = some D → ∃ x,At w b p x)
  (h:DataW.trod enc P w 0 sp hd m0 t [v] = some D):∃ l:List α,SRow n At w v l:=by
 rcases open_slice ht h with ⟨hcs,_⟩ | ⟨a',len,cap,m,n',D',Pl,hcs,_,hl,hm,hmm,_,hi⟩
 ·simp only [List.cons.injEq,and_true] at hcs
  subst hcs
  exact ⟨[],⟨none,0,rfl,.inl rfl⟩,by simp⟩
 ·simp only [List.cons.injEq,and_true] at hcs
  subst hcs
  subst hC
  have hml:len ≤ m:=by rw [hmm]; split <;> omega
  by_cases h0:len = 0
  ·subst h0
   exact ⟨[],⟨some a',cap,rfl,.inl rfl⟩,by simp⟩
  obtain ⟨cs0,hc0,_⟩:=hi 0 (by omega)
  obtain ⟨_,hl0,h00⟩:=World.cells?_some hc0
  have h00:=h00 0 hn
  rw [Nat.zero_mul] at h00
  have e0:(a'.add 0).add 0 = a':=by simp [Addr.add]
  rw [e0,gE (by omega)] at h00
  obtain ⟨hb,hs⟩:=Go.Sh.cell_lt h00
  obtain ⟨b,o,s⟩:=a'
  simp only at hs hb
  subst hs
  have key:∀ i:Fin len,∃ x,At w b (o + i * P.cellsOf e) x:=fun i=>by
   obtain ⟨cs,hc,ht2⟩:=hi i (by have:=i.2; omega)
   obtain ⟨_,hcl,hat⟩:=World.cells?_some hc
   refine hrd cs b (o + i * P.cellsOf e) _ _ hcl (fun j u hj=>?_) ht2
   have hjl:=(gS hj).1
   have:=hat j (by omega)
   rw [b6e,b6e] at this
   rw [this,hj]
  refine ⟨List.ofFn (fun i=>(key i).choose),⟨some ⟨b,o,none⟩,cap,by rw [List.length_ofFn],.inr ⟨b,o,rfl,hb,fun i hil=>?_⟩⟩,by rw [List.length_ofFn]; simp only [maxLen] at hm; omega⟩
  rw [List.length_ofFn] at hil
  rw [List.getElem_ofFn]
  exact (key ⟨i,hil⟩).choose_spec
theorem c7l {v:Value} {l:List Int} (h:∃ ad c,v = .slice ad l.length c ∧ (l = [] ∨ ∃ b o,ad = some ⟨b,o,none⟩ ∧ b < w.heap.size ∧ ∀ (i:Nat) (h:i < l.length),w.cell? ⟨b,o + i,none⟩ = some (Value.int .i64 l[i]))) (h0:∀ c,v = .slice none l.length c → l.length = 0 ∧ c = 0) (hl:l.length ≤ maxLen) (hr:∀ x ∈ l,I64 x):Ints w v l:=by
 obtain ⟨ad,c,rfl,h⟩:=h
 refine ⟨⟨ad,c,rfl,fun e=>?_,?_⟩,hr,hl⟩
 ·subst e
  exact h0 c rfl
 ·rcases h with h | ⟨b,o,rfl,hlt,hc⟩
  ·exact .inl h
  ·refine .inr ⟨b,o,rfl,hlt,fun k x hk=>?_⟩
   rw [flat_int] at hk
   obtain ⟨hk1,hk2⟩:=gS hk
   have hk1:k < l.length:=by rw [List.length_map] at hk1; exact hk1
   rw [hc k hk1,← hk2,List.getElem_map]
theorem f9o {t:TypeId} {n m:Nat} {c:Nat} {D:DataW H × List MemPlace} (ht:Tryz.prog.underlying t = some (.slice 3)) (h:DataW.trod enc Tryz.prog w 0 sp hd n t [.slice none m c] = some D):m = 0 ∧ c = 0:=by
 rcases open_slice1 ht (by kernel_rfl) h with ⟨hcs,_⟩ | ⟨a',len,cap,m,n',V,D',Pl,hcs,_⟩
 ·simp only [List.cons.injEq,and_true,Value.slice.injEq] at hcs
  exact hcs.2
 ·simp only [List.cons.injEq,and_true,Value.slice.injEq] at hcs
  exact absurd hcs.1 (by simp)
theorem b2r {v:Value} {n:Nat} {D:DataW H × List MemPlace} (h:DataW.trod enc Tryz.prog w 0 sp hd n 24 [v] = some D):∃ l,Ints w v l:=by
 have h':=h
 obtain ⟨l,h1,h2,h3⟩:=f9k (Value.int .i64) I64 Tryz.underlying24 (by kernel_rfl) (fun V n D h=>by
  obtain ⟨k,e,_,hw⟩:=DataW.trod_int Tryz.underlying3 h
  simp only [List.cons.injEq,and_true] at e
  exact ⟨k,e,e9w hw⟩) h
 exact ⟨l,c7l h1 (fun c e=>by subst e; exact f9o Tryz.underlying24 h') h2 h3⟩
theorem e9x {cs:List Value} {n:Nat} {D:DataW H × List MemPlace} (h:DataW.trod enc Tryz.prog w 0 sp hd n 23 cs = some D):∃ g:Grp,cs = [.int .i64 g.P,.int .i64 g.Q,.int .i64 g.G] ∧ e6b g:=by
 obtain ⟨hcl,hf⟩:=a7o Tryz.underlying23 (by kernel_rfl) (by kernel_rfl) h
 obtain ⟨v0,y0,m0,c0,f0⟩:=hf 0 _ rfl
 obtain ⟨v1,y1,m1,c1,f1⟩:=hf 1 _ rfl
 obtain ⟨v2,y2,m2,c2,f2⟩:=hf 2 _ rfl
 obtain ⟨k0,e0,_,w0⟩:=DataW.trod_int Tryz.underlying3 f0
 obtain ⟨k1,e1,_,w1⟩:=DataW.trod_int Tryz.underlying3 f1
 obtain ⟨k2,e2,_,w2⟩:=DataW.trod_int Tryz.underlying3 f2
 simp only [List.cons.injEq,and_true] at e0 e1 e2
 have h6:cs.length = 3:=hcl
 refine ⟨⟨k0,k1,k2⟩,?_,⟨e9w w0,e9w w1,e9w w2⟩⟩
 match cs,h6 with
 | [x0,x1,x2],_=>
  simp only [List.getElem?_cons_zero,List.getElem?_cons_succ,Option.some.injEq] at c0 c1 c2
  rw [c0,c1,c2,e0,e1,e2]
theorem e0h:Tryz.prog.cellsOf 26 = 5:=by kernel_rfl
theorem e0i:Tryz.prog.cellsOf 23 = 3:=by kernel_rfl
theorem b9h:Tryz.prog.cellsOf 24 = 1:=by kernel_rfl
theorem c3m:Tryz.prog.cellsOf 3 = 1:=by kernel_rfl
theorem e9y {b0:Nat} {v:Value} {d:DataW H} {ps:List MemPlace} (hT:DbT w) (hval:Value.okWide Tryz.prog w .any b0 26 v) (h:DataW.Trod enc Tryz.prog w 0 sp hd 26 v d ps):∃ s x,v = b0d s x ∧ SetR w s x:=by
 obtain ⟨cs,rfl,hs⟩:=okWide_struct Tryz.underlying26 hval
 obtain ⟨fuel,hf⟩:=h
 have hf:DataW.trod enc Tryz.prog w 0 sp hd fuel 26 cs.toList = some (d,ps):=hf
 obtain ⟨xs,m,_,_,hcl,hxl,hf⟩:=DataW.trod_struct Tryz.underlying26 hf
 rw [e0h] at hcl
 have hcs:cs = cs.toList.toArray:=by simp
 rw [hcs]
 clear hs hcs
 generalize cs.toList = l at *
 have hxl:xs.length = 3:=hxl
 match l,hcl,xs,hxl with
 | [x0,x1,x2,x3,x4],_,[y0,y1,y2],_=>
  have f0:DataW.trod enc Tryz.prog w 0 sp hd m 23 (([x0,x1,x2,x3,x4].drop 0).take (Tryz.prog.cellsOf 23)) = some y0:=hf 0 _ rfl
  have f1:DataW.trod enc Tryz.prog w 0 sp hd m 24 (([x0,x1,x2,x3,x4].drop 3).take (Tryz.prog.cellsOf 24)) = some y1:=hf 1 _ rfl
  have f2:DataW.trod enc Tryz.prog w 0 sp hd m 3 (([x0,x1,x2,x3,x4].drop 4).take (Tryz.prog.cellsOf 3)) = some y2:=hf 2 _ rfl
  rw [e0i] at f0
  rw [b9h] at f1
  rw [c3m] at f2
  obtain ⟨g,eg,hg⟩:=e9x f0
  obtain ⟨l3,h3⟩:=b2r f1
  obtain ⟨k4,e4,_,w4⟩:=DataW.trod_int Tryz.underlying3 f2
  simp only [List.drop_zero,List.take_succ_cons,List.take_zero,List.drop_succ_cons,List.cons.injEq,and_true] at eg e4
  obtain ⟨e0,e1,e2⟩:=eg
  exact ⟨⟨g,l3,k4⟩,x3,by rw [e0,e1,e2,e4],⟨hg,h3,e9w w4,hT⟩⟩
theorem b0c {n:Int} (h:(Lit.int .i64 n).wf = true):InR n:=by
 have:=e9w h
 exact ⟨this.1,by have:=this.2; omega⟩
theorem c3n {cs:List Value} {n:Nat} {D:DataW H × List MemPlace} (h:DataW.trod enc Tryz.prog w 0 sp hd n 31 cs = some D):∃ t:Tkt,cs = b4y t ∧ WTkt t:=by
 obtain ⟨hcl,hf⟩:=a7o Tryz.underlying31 (by kernel_rfl) (by kernel_rfl) h
 obtain ⟨v0,y0,m0,c0,f0⟩:=hf 0 _ rfl
 obtain ⟨v1,y1,m1,c1,f1⟩:=hf 1 _ rfl
 obtain ⟨v2,y2,m2,c2,f2⟩:=hf 2 _ rfl
 obtain ⟨v3,y3,m3,c3,f3⟩:=hf 3 _ rfl
 obtain ⟨v4,y4,m4,c4,f4⟩:=hf 4 _ rfl
 obtain ⟨v5,y5,m5,c5,f5⟩:=hf 5 _ rfl
 obtain ⟨k0,e0,_,w0⟩:=DataW.trod_int Tryz.underlying3 f0
 obtain ⟨k1,e1,_,w1⟩:=DataW.trod_int Tryz.underlying3 f1
 obtain ⟨k2,e2,_,w2⟩:=DataW.trod_int Tryz.underlying3 f2
 obtain ⟨k3,e3,_,w3⟩:=DataW.trod_int Tryz.underlying3 f3
 obtain ⟨k4,e4,_,w4⟩:=DataW.trod_int Tryz.underlying3 f4
 obtain ⟨k5,e5,_,w5⟩:=DataW.trod_int Tryz.underlying3 f5
 simp only [List.cons.injEq,and_true] at e0 e1 e2 e3 e4 e5
 have h6:cs.length = 6:=hcl
 refine ⟨⟨k0,k1,k2,k3,k4,k5⟩,?_,⟨?_⟩⟩
 ·match cs,h6 with
  | [x0,x1,x2,x3,x4,x5],_=>
   simp only [List.getElem?_cons_zero,List.getElem?_cons_succ,Option.some.injEq] at c0 c1 c2 c3 c4 c5
   rw [c0,c1,c2,c3,c4,c5,e0,e1,e2,e3,e4,e5]
 ·intro v hv
  simp only [a5m,List.mem_cons,List.not_mem_nil,or_false] at hv
  rcases hv with rfl | rfl | rfl | rfl | rfl | rfl
  ·exact b0c w0
  ·exact b0c w1
  ·exact b0c w2
  ·exact b0c w3
  ·exact b0c w4
  ·exact b0c w5
theorem e0j {v:Value} {n:Nat} {D:DataW H × List MemPlace} (h:DataW.trod enc Tryz.prog w 0 sp hd n 27 [v] = some D):∃ l,c5v w v l:=
 d0f Tryz.underlying27 (by kernel_rfl) (by decide) (fun cs b p m D hl hc ht=>by
  match cs,hl with
  | [x0,x1,x2],_=>
   obtain ⟨_,hf⟩:=a7o Tryz.underlying40 (by kernel_rfl) (by kernel_rfl) ht
   obtain ⟨v0,y0,m0,c0,f0⟩:=hf 0 _ rfl
   obtain ⟨v1,y1,m1,c1,f1⟩:=hf 1 _ rfl
   obtain ⟨v2,y2,m2,c2,f2⟩:=hf 2 _ rfl
   obtain ⟨k0,e0,_,w0⟩:=DataW.trod_int Tryz.underlying3 f0
   obtain ⟨k1,e1,_,w1⟩:=DataW.trod_int Tryz.underlying3 f1
   obtain ⟨k2,e2,_,w2⟩:=DataW.trod_int Tryz.underlying3 f2
   simp only [List.cons.injEq,and_true] at e0 e1 e2
   simp only [List.getElem?_cons_zero,List.getElem?_cons_succ,Option.some.injEq] at c0 c1 c2
   subst c0; subst c1; subst c2; subst e0; subst e1; subst e2
   exact ⟨⟨k0,k1,k2⟩,_,rfl,hc,rfl,e9w w0,e9w w1,e9w w2⟩) h
theorem c7m {b0:Nat} {v:Value} {d:DataW H} {ps:List MemPlace} (hval:Value.okWide Tryz.prog w .any b0 27 v) (h:DataW.Trod enc Tryz.prog w 0 sp hd 27 v d ps):∃ l,c5v w v l:=by
 obtain ⟨a,n,c,rfl⟩:=okWide_slice Tryz.underlying27 hval
 obtain ⟨fu,hf⟩:=h
 exact e0j hf
theorem c3o:Tryz.prog.cellsOf 31 = 6:=by kernel_rfl
theorem e0k:Tryz.prog.cellsOf 84 = 2:=by kernel_rfl
theorem e0l:Tryz.prog.cellsOf 9 = 1:=by kernel_rfl
theorem e0m:Tryz.prog.cellsOf 29 = 4:=by kernel_rfl
theorem d2d:Tryz.prog.cellsOf 32 = 1:=by kernel_rfl
theorem e0n:Tryz.prog.cellsOf 34 = 14:=by kernel_rfl
theorem e0o:Tryz.prog.cellsOf 95 = 9:=by kernel_rfl
theorem e0p {cs:List Value} {n:Nat} {D:DataW H × List MemPlace} (h:DataW.trod enc Tryz.prog w 0 sp hd n 84 cs = some D):∃ (d:Int) (av:Value) (l:List Int),cs = [.int .i64 d,av] ∧ InR d ∧ Ints w av l:=by
 obtain ⟨hcl,hf⟩:=a7o Tryz.underlying84 (by kernel_rfl) (by kernel_rfl) h
 obtain ⟨v0,y0,m0,c0,f0⟩:=hf 0 _ rfl
 obtain ⟨v1,y1,m1,c1,f1⟩:=hf 1 _ rfl
 obtain ⟨k0,e0,_,w0⟩:=DataW.trod_int Tryz.underlying3 f0
 obtain ⟨l1,h1⟩:=b2r f1
 simp only [List.cons.injEq,and_true] at e0
 have h6:cs.length = 2:=hcl
 refine ⟨k0,v1,l1,?_,b0c w0,h1⟩
 match cs,h6 with
 | [x0,x1],_=>
  simp only [List.getElem?_cons_zero,List.getElem?_cons_succ,Option.some.injEq] at c0 c1
  rw [c0,c1,e0]
theorem e0q {cs:List Value} {n:Nat} {D:DataW H × List MemPlace} (h:DataW.trod enc Tryz.prog w 0 sp hd n 29 cs = some D):∃ (b:Bld) (v:Value),cs = c2f b v ∧ InR b.s ∧ InR b.u ∧ InR b.v ∧ Ints w v b.ys:=by
 obtain ⟨hcl,hf⟩:=a7o Tryz.underlying29 (by kernel_rfl) (by kernel_rfl) h
 obtain ⟨v0,y0,m0,c0,f0⟩:=hf 0 _ rfl
 obtain ⟨v1,y1,m1,c1,f1⟩:=hf 1 _ rfl
 obtain ⟨v2,y2,m2,c2,f2⟩:=hf 2 _ rfl
 obtain ⟨v3,y3,m3,c3,f3⟩:=hf 3 _ rfl
 obtain ⟨k0,e0,_,w0⟩:=DataW.trod_int Tryz.underlying3 f0
 obtain ⟨k1,e1,_,w1⟩:=DataW.trod_int Tryz.underlying3 f1
 obtain ⟨k2,e2,_,w2⟩:=DataW.trod_int Tryz.underlying3 f2
 obtain ⟨l3,h3⟩:=b2r f3
 simp only [List.cons.injEq,and_true] at e0 e1 e2
 have h6:cs.length = 4:=hcl
 refine ⟨⟨k0,k1,k2,l3⟩,v3,?_,b0c w0,b0c w1,b0c w2,h3⟩
 match cs,h6 with
 | [x0,x1,x2,x3],_=>
  simp only [List.getElem?_cons_zero,List.getElem?_cons_succ,Option.some.injEq] at c0 c1 c2 c3
  rw [c0,c1,c2,c3,e0,e1,e2]
theorem c0o {v:Value} {l:List Int} (h:Ints w v l):∀ x ∈ l,InR x:=fun x hx=>⟨(h.rng x hx).1,by have:=(h.rng x hx).2; omega⟩
theorem g8p (s:ByteArray):s = ⟨s.data.toList.toArray⟩:=by cases s; rfl
theorem e0r {v:Value} {n:Nat} {D:DataW H × List MemPlace} (h:DataW.trod enc Tryz.prog w 0 sp hd n 32 [v] = some D):∃ l,b7s w v l:=
 d0f Tryz.underlying32 e0o (by decide) (fun cs b p m D hl hc ht=>by
  obtain ⟨xs,m,_,_,hcl,hxl,hf⟩:=DataW.trod_struct Tryz.underlying95 ht
  have hxl:xs.length = 3:=hxl
  match cs,hl,xs,hxl with
  | [x0,x1,x2,x3,x4,x5,x6,x7,x8],_,[y0,y1,y2],_=>
   have f0:DataW.trod enc Tryz.prog w 0 sp hd m 31 (([x0,x1,x2,x3,x4,x5,x6,x7,x8].drop 0).take (Tryz.prog.cellsOf 31)) = some y0:=hf 0 _ rfl
   have f1:DataW.trod enc Tryz.prog w 0 sp hd m 84 (([x0,x1,x2,x3,x4,x5,x6,x7,x8].drop 6).take (Tryz.prog.cellsOf 84)) = some y1:=hf 1 _ rfl
   have f2:DataW.trod enc Tryz.prog w 0 sp hd m 9 (([x0,x1,x2,x3,x4,x5,x6,x7,x8].drop 8).take (Tryz.prog.cellsOf 9)) = some y2:=hf 2 _ rfl
   rw [c3o] at f0
   rw [e0k] at f1
   rw [e0l] at f2
   obtain ⟨t,et,ht⟩:=c3n f0
   obtain ⟨d,av,al,es,hd,ha⟩:=e0p f1
   obtain ⟨s,ess,_,hs⟩:=DataW.trod_string Tryz.underlying9 f2
   simp only [List.drop_zero,List.take_succ_cons,List.take_zero,List.drop_succ_cons,List.cons.injEq,and_true,b4y] at et es ess
   obtain ⟨e0,e1,e2,e3,e4,e5⟩:=et
   obtain ⟨e6,e7⟩:=es
   refine ⟨⟨t,⟨d,al⟩,s.data.toList⟩,_,rfl,hc,av,?_,ha,ht,hd,c0o ha,?_,?_⟩
   ·rw [e0,e1,e2,e3,e4,e5,e6,e7,ess,g8p s]
   ·have:=ha.len; show (al.length:Int) ≤ _; omega
   ·show ((s.data.toList.length:Nat):Int) ≤ _
    have:s.data.toList.length = s.size:=by simp
    rw [this]
    have:maxLen = 9223372036854775807:=rfl
    omega) h
theorem e0s {cs:List Value} {n:Nat} {D:DataW H × List MemPlace} (ht:DataW.trod enc Tryz.prog w 0 sp hd n 34 cs = some D):∃ (x:Hld) (av yv kv:Value),cs = b2f x av yv kv ∧ HldR w x av yv kv:=by
 obtain ⟨xs,m,_,_,hcl,hxl,hf⟩:=DataW.trod_struct Tryz.underlying34 ht
 have hxl:xs.length = 6:=hxl
 rw [e0n] at hcl
 match cs,hcl,xs,hxl with
 | [x0,x1,x2,x3,x4,x5,x6,x7,x8,x9,x10,x11,x12,x13],_,[y0,y1,y2,y3,y4,y5],_=>
  have f0:DataW.trod enc Tryz.prog w 0 sp hd m 3 (([x0,x1,x2,x3,x4,x5,x6,x7,x8,x9,x10,x11,x12,x13].drop 0).take (Tryz.prog.cellsOf 3)) = some y0:=hf 0 _ rfl
  have f1:DataW.trod enc Tryz.prog w 0 sp hd m 3 (([x0,x1,x2,x3,x4,x5,x6,x7,x8,x9,x10,x11,x12,x13].drop 1).take (Tryz.prog.cellsOf 3)) = some y1:=hf 1 _ rfl
  have f2:DataW.trod enc Tryz.prog w 0 sp hd m 24 (([x0,x1,x2,x3,x4,x5,x6,x7,x8,x9,x10,x11,x12,x13].drop 2).take (Tryz.prog.cellsOf 24)) = some y2:=hf 2 _ rfl
  have f3:DataW.trod enc Tryz.prog w 0 sp hd m 29 (([x0,x1,x2,x3,x4,x5,x6,x7,x8,x9,x10,x11,x12,x13].drop 3).take (Tryz.prog.cellsOf 29)) = some y3:=hf 3 _ rfl
  have f4:DataW.trod enc Tryz.prog w 0 sp hd m 31 (([x0,x1,x2,x3,x4,x5,x6,x7,x8,x9,x10,x11,x12,x13].drop 7).take (Tryz.prog.cellsOf 31)) = some y4:=hf 4 _ rfl
  have f5:DataW.trod enc Tryz.prog w 0 sp hd m 32 (([x0,x1,x2,x3,x4,x5,x6,x7,x8,x9,x10,x11,x12,x13].drop 13).take (Tryz.prog.cellsOf 32)) = some y5:=hf 5 _ rfl
  rw [c3m] at f0 f1
  rw [b9h] at f2
  rw [e0m] at f3
  rw [c3o] at f4
  rw [d2d] at f5
  obtain ⟨k0,e0,_,w0⟩:=DataW.trod_int Tryz.underlying3 f0
  obtain ⟨k1,e1,_,w1⟩:=DataW.trod_int Tryz.underlying3 f1
  obtain ⟨al,ha⟩:=b2r f2
  obtain ⟨b,bv,eb,hb1,hb2,hb3,hby⟩:=e0q f3
  obtain ⟨t,et,ht⟩:=c3n f4
  obtain ⟨ll,hll⟩:=e0r f5
  simp only [List.drop_zero,List.take_succ_cons,List.take_zero,List.drop_succ_cons,List.cons.injEq,and_true,b4y,c2f] at e0 e1 eb et
  obtain ⟨q0,q1,q2,q3⟩:=eb
  obtain ⟨t0,t1,t2,t3,t4,t5⟩:=et
  refine ⟨⟨k0,k1,al,b,t,ll⟩,x2,bv,x13,?_,⟨ha,hby,hll,⟨b0c w0,b0c w1,c0o ha,?_,hb1,hb2,hb3,c0o hby,?_,ht,?_⟩⟩⟩
  ·rw [e0,e1,q0,q1,q2,q3,t0,t1,t2,t3,t4,t5]
  ·have:=ha.len; show (al.length:Int) ≤ _; omega
  ·have:=hby.len; show (b.ys.length:Int) ≤ _; omega
  ·intro x hx
   obtain ⟨i,hi,rfl⟩:=List.mem_iff_getElem.1 hx
   obtain ⟨ad,c,hv⟩:=hll.isSlice
   have hll':b7s w (.slice ad ll.length c) ll:=by rw [← hv]; exact hll
   obtain ⟨_,_,_,_,_,_,_,_,_,_,hw⟩:=hll'.at hi
   exact hw
theorem e0t {b0:Nat} {v:Value} {d:DataW H} {ps:List MemPlace} (hval:Value.okWide Tryz.prog w .any b0 34 v) (h:DataW.Trod enc Tryz.prog w 0 sp hd 34 v d ps):∃ (x:Hld) (av yv kv:Value),v = b8c x av yv kv ∧ HldR w x av yv kv:=by
 obtain ⟨cs,rfl,hs⟩:=okWide_struct Tryz.underlying34 hval
 obtain ⟨fu,hf⟩:=h
 obtain ⟨x,av,yv,kv,e,hH⟩:=e0s (cs:=cs.toList) hf
 refine ⟨x,av,yv,kv,?_,hH⟩
 have hcs:cs = cs.toList.toArray:=by simp
 rw [hcs,e]
end
end Go.Proofs
namespace Go.Proofs
open Go.Sh Tryz
variable {a0 a1:Value} {K:VK} {w:World}
def f4z (a0 a1:Value) (K:VK) (w:World):Prop:=
 oM prog (.box 84 (.tmp 0)) 0 [a0] (fun v2=>
 oM prog (.box 84 (.tmp 0)) 0 [a1] fun v3=>
 kF 84 0 v2 fun v5=>
 kL 3 v5 fun v6=>
 kF 84 0 v3 fun v7=>
 kL 3 v7 fun v8=>
 kB .eql 3 4 v6 v8 fun v9 w=>
 gT v9 (kF 84 1 v2) (fun v11 w=>
 gT v9 (kL 24 v11) (fun v12 w=>
 gT v9 (kF 84 1 v3) (fun v13 w=>
 gT v9 (kL 24 v13) (fun v14 w=>
 gT v9 (a0a prog 45 #[v12,v14]) (fun v15=>
 kP v9 v15 (.bool false) fun v16=>
 K v16) w) w) w) w) w) w
theorem d6w (h:f4z a0 a1 K w):a0a prog 104 #[a0,a1] K w:=
 cZ (fun _=>0) func104 h
def g3g (a0 a1:Value) (K:VK) (w:World):Prop:=
 kN 32 a0 (fun v7=>
 kN 32 a1 fun v9=>
 kB .neq 3 4 v7 v9 fun v10=>
 kO v10 (K (.bool false))
 (kQ [(.bool false),(.int .i64 0)] fun J_4 m_5 l_6 u_l_6 w0_l_6=>(fun w=>(
 kN 32 a0 (fun v13=>
 kB .lss 3 4 (l_6.getD 1 undef) v13 fun v14=>
 kO v14 (kH fun C_9 w=>(((true:Bool) = true) ∧ (a0g a0 C_9 fun v17=>
 a0g (l_6.getD 1 undef) C_9 fun v18=>
 jI 32 v17 v18 C_9 fun v19=>
 jF 95 0 v19 C_9 fun v20=>
 jL 31 v20 C_9 fun v21=>
 a0g a1 C_9 fun v22=>
 a0g (l_6.getD 1 undef) C_9 fun v23=>
 jI 32 v22 v23 C_9 fun v24=>
 jF 95 0 v24 C_9 fun v25=>
 jL 31 v25 C_9 fun v26=>
 jB .neq 31 4 v21 v26 C_9 fun v27=>
 a0g v27 C_9 fun v28=>
 jG v28 (a0g a0) C_9 fun v29=>
 jG v28 (a0g (l_6.getD 1 undef)) C_9 fun v30=>
 jG v28 (jI 32 v29 v30) C_9 fun v31=>
 jG v28 (jF 95 2 v31) C_9 fun v32=>
 jG v28 (jL 9 v32) C_9 fun v33=>
 jG v28 (a0g a1) C_9 fun v34=>
 jG v28 (a0g (l_6.getD 1 undef)) C_9 fun v35=>
 jG v28 (jI 32 v34 v35) C_9 fun v36=>
 jG v28 (jF 95 2 v36) C_9 fun v37=>
 jG v28 (jL 9 v37) C_9 fun v38=>
 jG v28 (jB .neq 9 4 v33 v38) C_9 fun v39=>
 jP v28 (.bool true) v39 C_9 fun v40=>
 a0g v40 C_9 fun v41=>
 jG v41 (a0g a0) C_9 fun v42=>
 jG v41 (a0g (l_6.getD 1 undef)) C_9 fun v43=>
 jG v41 (jI 32 v42 v43) C_9 fun v44=>
 jG v41 (jF 95 1 v44) C_9 fun v45=>
 jG v41 (jL 84 v45) C_9 fun v46=>
 jG v41 (a0g a1) C_9 fun v47=>
 jG v41 (a0g (l_6.getD 1 undef)) C_9 fun v48=>
 jG v41 (jI 32 v47 v48) C_9 fun v49=>
 jG v41 (jF 95 1 v49) C_9 fun v50=>
 jG v41 (jL 84 v50) C_9 fun v51=>
 ∃ S_45:World → WK,∀ w,C_9 w → (
 gF v41 (a0a prog 104 #[v46,v51]) (fun v52 w=>
 gF v41 (kU v52) (fun v53=>
 kP v41 (.bool true) v53 fun v54=>
 kO v54 (K (.bool false))
 (kB .add 3 3 (l_6.getD 1 undef) (.int .i64 1) fun v16=>
 kJ J_4 m_5 l_6 w0_l_6 [(l_6.getD 0 undef),v16])) w) w))))
 (K (.bool true))) w)) w0_l_6)) w
theorem e7a (h:g3g a0 a1 K w):a0a prog 64 #[a0,a1] K w:=
 cZ (fun _=>(fz 35 0 3)) func64 h
def g3h (a0 a1:Value) (K:VK) (w:World):Prop:=
 oM prog (.box 34 (.tmp 0)) 0 [a0] (fun v2=>
 oM prog (.box 34 (.tmp 0)) 0 [a1] fun v3=>
 kF 34 3 v2 fun v7=>
 kL 29 v7 fun v8=>
 kA 29 fun v5=>
 kS 29 v5 v8 fun _=>
 kF 34 3 v3 fun v9=>
 kL 29 v9 fun v10=>
 kA 29 fun v6=>
 kS 29 v6 v10 fun _=>
 kF 34 0 v2 fun v11=>
 kL 3 v11 fun v12=>
 kF 34 0 v3 fun v13=>
 kL 3 v13 fun v14=>
 kB .neq 3 4 v12 v14 fun v15 w=>
 gF v15 (kF 34 1 v2) (fun v17 w=>
 gF v15 (kL 3 v17) (fun v18 w=>
 gF v15 (kF 34 1 v3) (fun v19 w=>
 gF v15 (kL 3 v19) (fun v20 w=>
 gF v15 (kB .neq 3 4 v18 v20) (fun v21=>
 kP v15 (.bool true) v21 fun v22 w=>
 gF v22 (kF 29 0 v5) (fun v24 w=>
 gF v22 (kL 3 v24) (fun v25 w=>
 gF v22 (kF 29 0 v6) (fun v26 w=>
 gF v22 (kL 3 v26) (fun v27 w=>
 gF v22 (kB .neq 3 4 v25 v27) (fun v28=>
 kP v22 (.bool true) v28 fun v29 w=>
 gF v29 (kF 29 1 v5) (fun v31 w=>
 gF v29 (kL 3 v31) (fun v32 w=>
 gF v29 (kF 29 1 v6) (fun v33 w=>
 gF v29 (kL 3 v33) (fun v34 w=>
 gF v29 (kB .neq 3 4 v32 v34) (fun v35=>
 kP v29 (.bool true) v35 fun v36 w=>
 gF v36 (kF 29 2 v5) (fun v38 w=>
 gF v36 (kL 3 v38) (fun v39 w=>
 gF v36 (kF 29 2 v6) (fun v40 w=>
 gF v36 (kL 3 v40) (fun v41 w=>
 gF v36 (kB .neq 3 4 v39 v41) (fun v42=>
 kP v36 (.bool true) v42 fun v43 w=>
 gF v43 (kF 34 4 v2) (fun v45 w=>
 gF v43 (kL 31 v45) (fun v46 w=>
 gF v43 (kF 34 4 v3) (fun v47 w=>
 gF v43 (kL 31 v47) (fun v48 w=>
 gF v43 (kB .neq 31 4 v46 v48) (fun v49=>
 kP v43 (.bool true) v49 fun v50=>
 kO v50 (K (.bool false))
 (kF 34 2 v2 fun v51=>
 kL 24 v51 fun v52=>
 kF 34 2 v3 fun v53=>
 kL 24 v53 fun v54=>
 a0a prog 45 #[v52,v54] fun v55 w=>
 gT v55 (kF 29 3 v5) (fun v57 w=>
 gT v55 (kL 24 v57) (fun v58 w=>
 gT v55 (kF 29 3 v6) (fun v59 w=>
 gT v55 (kL 24 v59) (fun v60 w=>
 gT v55 (a0a prog 45 #[v58,v60]) (fun v61=>
 kP v55 v61 (.bool false) fun v62 w=>
 gT v62 (kF 34 5 v2) (fun v64 w=>
 gT v62 (kL 32 v64) (fun v65 w=>
 gT v62 (kF 34 5 v3) (fun v66 w=>
 gT v62 (kL 32 v66) (fun v67 w=>
 gT v62 (a0a prog 64 #[v65,v67]) (fun v68=>
 kP v62 v68 (.bool false) fun v69=>
 K v69) w) w) w) w) w) w) w) w) w) w)) w) w) w) w) w) w) w) w) w) w) w) w) w) w) w) w) w) w) w) w) w) w) w) w) w) w
theorem e7b (h:g3h a0 a1 K w):a0a prog 18 #[a0,a1] K w:=
 cZ (fun _=>0) func18 h
def h1j (a0:Value) (K:VK) (w:World):Prop:=
 oM prog (.box 34 (.tmp 0)) 0 [a0] (fun v1=>
 kQ [(.bool false),(.int .i64 0)] fun J_2 m_3 l_4 u_l_4 w0_l_4=>(fun w=>(
 kF 34 5 v1 (fun v5=>
 kL 32 v5 fun v6=>
 kN 32 v6 fun v7=>
 kB .lss 3 4 (l_4.getD 1 undef) v7 fun v8 w=>
 gT v8 (a0f (l_4.getD 1 undef)) (fun v10 w=>
 gT v8 (kB .leq 3 4 v10 (.int .i64 5)) (fun v11=>
 kP v8 v11 (.bool false) fun v12=>
 kO v12 (kF 34 5 v1 fun v15=>
 kL 32 v15 fun v16=>
 kI 32 v16 (l_4.getD 1 undef) fun v18=>
 kF 95 1 v18 fun v19=>
 kF 84 1 v19 fun v20=>
 kL 24 v20 fun v21=>
 kN 24 v21 fun v22=>
 kB .gtr 3 4 v22 (.int .i64 8) fun v23 w=>
 gF v23 (kF 34 5 v1) (fun v25 w=>
 gF v23 (kL 32 v25) (fun v26 w=>
 gF v23 (a0f (l_4.getD 1 undef)) (fun v27 w=>
 gF v23 (kI 32 v26 v27) (fun v28 w=>
 gF v23 (kF 95 2 v28) (fun v29 w=>
 gF v23 (kL 9 v29) (fun v30 w=>
 gF v23 (kN 9 v30) (fun v31 w=>
 gF v23 (kB .gtr 3 4 v31 (.int .i64 210)) (fun v32=>
 kP v23 (.bool true) v32 fun v33=>
 kO v33 (K (.bool false))
 (kB .add 3 3 (l_4.getD 1 undef) (.int .i64 1) fun v14=>
 kJ J_2 m_3 l_4 w0_l_4 [(l_4.getD 0 undef),v14])) w) w) w) w) w) w) w) w)
 (kF 34 2 v1 fun v34=>
 kL 24 v34 fun v35=>
 kN 24 v35 fun v36=>
 kB .leq 3 4 v36 (.int .i64 8) fun v37 w=>
 gT v37 (kF 34 3 v1) (fun v39 w=>
 gT v37 (kF 29 3 v39) (fun v40 w=>
 gT v37 (kL 24 v40) (fun v41 w=>
 gT v37 (kN 24 v41) (fun v42 w=>
 gT v37 (kB .leq 3 4 v42 (.int .i64 8)) (fun v43=>
 kP v37 v43 (.bool false) fun v44 w=>
 gT v44 (kF 34 5 v1) (fun v46 w=>
 gT v44 (kL 32 v46) (fun v47 w=>
 gT v44 (kN 32 v47) (fun v48 w=>
 gT v44 (kB .leq 3 4 v48 (.int .i64 5)) (fun v49=>
 kP v44 v49 (.bool false) fun v50=>
 K v50) w) w) w) w) w) w) w) w) w)) w) w) w)) w0_l_4) w
theorem f9b (h:h1j a0 K w):a0a prog 7 #[a0] K w:=
 cZ (fun _=>0) func7 h
def h1k (a0 a1:Value) (K:VK) (w:World):Prop:=
 oM prog (.box 26 (.tmp 0)) 0 [a0] (fun v2=>
 kF 26 1 v2 fun v5=>
 kL 24 v5 fun v6=>
 kN 24 v6 fun v7=>
 kB .leq 3 4 v7 (.int .i64 8) fun v8 w=>
 gT v8 (a0f a1) (fun v10 w=>
 gT v8 (kN 27 v10) (fun v11 w=>
 gT v8 (kB .leq 3 4 v11 (.int .i64 18)) (fun v12=>
 kP v8 v12 (.bool false) fun v13=>
 K v13) w) w) w) w
theorem f9c (h:h1k a0 a1 K w):a0a prog 6 #[a0,a1] K w:=
 cZ (fun _=>0) func6 h
end Go.Proofs
namespace Go.Proofs
open Go Go.Sh Go.RowKit FdSpec TkSpec CodeSpec PuSpec DkSpec JnSpec
section
variable {K:VK} {w w' w0 W W':World} {L:List (Addr × Value)} {rb b:Nat}
@[go_sem] theorem h1a (T:TypeId) (a b:Tkt):oM Tryz.prog (.binOp .neq 31 (.tmp 0) (.tmp 1) 31) T [b7p a,b7p b] = a0f (.bool (decide (a ≠ b))):=by
 funext K w
 have h1:(eqGuard .neq 31 (.tmp 0) (.tmp 1) (b7p a) (b7p b)).run Tryz.prog w = .ok () w:=run_eqGuard_agg w _ _ _ _ _ _ (by kernel_rfl)
 have h2:(binOp .neq 31 (b7p a) (b7p b)).run Tryz.prog w = .ok (.bool (decide (a ≠ b))) w:=by
  rw [run_neq_struct,run_equalIn_agg w 9999 31 _ _ (by kernel_rfl) (by kernel_rfl)]
  have u3:=Tryz.underlying3
  have e:decide (a ≠ b) = !((a.mark == b.mark) && (a.first == b.first) && (a.z == b.z) && (a.a == b.a) && (a.b == b.b) && (a.r == b.r)):=by
   obtain ⟨a1,a2,a3,a4,a5,a6⟩:=a
   obtain ⟨b1,b2,b3,b4,b5,b6⟩:=b
   rw [decide_not]
   congr 1
   simp [Tkt.mk.injEq,and_assoc,Bool.and_assoc]
   rfl
  rw [e]
  simp [go_sem,Program.fieldsOf,Tryz.underlying31,Op.eqFields,part,u3]
  repeat' split
  all_goals simp_all
 unfold oM opM
 simp [xop,execOp,a1e,evE,h1,h2]
 exact Iff.rfl
theorem c6j {d1 d2:Int} {l m:List Int} {av bv:Value} (ha:Ints w av l) (hb:Ints w bv m) (k:∀ w',Bw w w' → K (.bool (decide (d1 = d2) && decide (l = m))) w'):a0a Tryz.prog 104 #[.agg #[.int .i64 d1,av],.agg #[.int .i64 d2,bv]] K w:=by
 apply d6w
 unfold f4z
 obtain ⟨a1,c1,rfl⟩:=ha.isSlice
 obtain ⟨a2,c2,rfl⟩:=hb.isSlice
 refine a1b (cs:=[.int .i64 d1,.slice a1 l.length c1]) rfl (.start w) fun b1 W hk hb1 hbb=>?_
 refine a1b (cs:=[.int .i64 d2,.slice a2 m.length c2]) rfl hk fun b2 W hk hb2 hbb=>?_
 by_cases h:d1 = d2
 ·rw [decide_eq_true h,bT] at k
  refine Xa (An2 hk.cells @h) ?_
  refine b0b (ha.next hk.below) (hb.next hk.below) (fun w3 h3=>?_)
  have k:=k _ (hk.next h3).below
  refine Xa0 ?_
  exact k
 ·rw [decide_eq_false h,bF] at k
  have k:=k _ hk.below
  refine Xa (An2 hk.cells @h) ?_
  exact k
theorem g1p {x y:Lnk} (h1:x.ticket = y.ticket) (h2:x.terms = y.terms) (h3:x.spend.dare = y.spend.dare) (h4:x.spend.answers = y.spend.answers):x = y:=by
 obtain ⟨a,⟨b,c⟩,d⟩:=x
 obtain ⟨a',⟨b',c'⟩,d'⟩:=y
 simp only at *
 subst h1 h2 h3 h4
 rfl
theorem b7z {x y:a0h}:((⟨x.toArray⟩:ByteArray) = ⟨y.toArray⟩) ↔ x = y:=by
 constructor
 ·intro h
  have:=congrArg (fun b:ByteArray=>b.data.toList) h
  simpa using this
 ·rintro rfl; rfl
theorem a7y {b p:Nat} {x:Lnk} {av:Value} (h:∀ j u,(lkC x av)[j]? = some u → w.cell? ⟨b,p + j,none⟩ = some u) :
  w.cell? ⟨b,p,none⟩ = some (.int .i64 x.ticket.mark) ∧ w.cell? ⟨b,p + 1,none⟩ = some (.int .i64 x.ticket.first) ∧ w.cell? ⟨b,p + 2,none⟩ = some (.int .i64 x.ticket.z) ∧ w.cell? ⟨b,p + 3,none⟩ = some (.int .i64 x.ticket.a) ∧ w.cell? ⟨b,p + 4,none⟩ = some (.int .i64 x.ticket.b) ∧ w.cell? ⟨b,p + 5,none⟩ = some (.int .i64 x.ticket.r) ∧
  w.cell? ⟨b,p + 6,none⟩ = some (.int .i64 x.spend.dare) ∧ w.cell? ⟨b,p + 6 + 1,none⟩ = some av ∧ w.cell? ⟨b,p + 8,none⟩ = some (.string ⟨x.terms.toArray⟩):=
 ⟨h 0 _ rfl,h 1 _ rfl,h 2 _ rfl,h 3 _ rfl,h 4 _ rfl,h 5 _ rfl,h 6 _ rfl,h 7 _ rfl,h 8 _ rfl⟩
theorem c6l {va vb:Value} {l m:List Lnk} (ha:b7s w va l) (hb:b7s w vb m) (k:∀ w',Bw w w' → K (.bool (decide (l = m))) w'):a0a Tryz.prog 64 #[va,vb] K w:=by
 apply e7a
 unfold g3g
 obtain ⟨a1,c1,rfl⟩:=ha.isSlice
 obtain ⟨a2,c2,rfl⟩:=hb.isSlice
 have hll:=ha.len
 by_cases hl:l.length = m.length
 ·have hlZ:(l.length:Int) = m.length:=by omega
  refine Xa @hlZ ?_
  refine ⟨fun vs W=>∃ (i:Nat),vs = [.bool false,.int .i64 (i:Int)] ∧ i ≤ l.length ∧ l.take i = m.take i ∧ Nx w W,
   (fun vs _=>match vs with | [_,.int _ i]=>l.length - i.toNat | _=>0),⟨0,rfl,by omega,rfl,bR⟩,?_⟩
  rintro _ _ w2 ⟨i,rfl,hi,he,h2⟩
  by_cases hin:i = l.length
  ·have e:l = m:=by
    rw [hin,List.take_length,hl,List.take_length] at he
    exact he
   have k:=k _ h2
   rw [decide_eq_true e] at k
   have hn:¬ (i:Int) < m.length:=by omega
   refine Xa (An2 @hn @hlZ) ?_
   exact k
  ·have hil:i < l.length:=by omega
   have him:i < m.length:=by omega
   have hiZ:(i:Int) < m.length:=by omega
   have ha2:=ha.next (a1o a4i) h2
   have hb2:=hb.next (a1o a4i) h2
   obtain ⟨b1,o1,rfl,hb1,cs1,hc1,hcc1,av,rfl,hA1,hw1⟩:=ha2.at hil
   obtain ⟨b2,o2,rfl,hb2l,cs2,hc2,hcc2,bv,rfl,hA2,hw2⟩:=hb2.at him
   obtain ⟨d1,n1,rfl⟩:=hA1.isSlice
   obtain ⟨d2,n2,rfl⟩:=hA2.isSlice
   have het:l.take (i + 1) = m.take (i + 1) ↔ l[i] = m[i]:=by
    rw [List.take_succ_eq_append_getElem hil,List.take_succ_eq_append_getElem him,he]
    exact ⟨fun h=>by simpa using List.append_cancel_left h,fun h=>by rw [h]⟩
   have hne:l[i] ≠ m[i] → l ≠ m:=fun h e=>h (by subst e; rfl)
   generalize l[i] = x at *
   generalize m[i] = y at *
   refine Xa (An2 @hiZ @hlZ) ?_
   refine ⟨Nx { w2 with drawn:=w2.drawn + 1 },bR,rfl,?_⟩
   have h2d:=h2.on (.drawn (B:=w2.heap.size))
   have hbd:Below w2.heap.size w2 { w2 with drawn:=w2.drawn + 1 }:=.drawn
   generalize ({ w2 with drawn:=w2.drawn + 1 }:World) = W3 at h2d hbd ⊢
   have q1:=fun W0 (h:Nx W3 W0) (j:Nat) (u:Value) (hj:(lkC x (.slice d1 x.spend.answers.length n1))[j]? = some u)=>((hbd.on h).cell hb1).trans (hcc1 j u hj)
   have q2:=fun W0 (h:Nx W3 W0) (j:Nat) (u:Value) (hj:(lkC y (.slice d2 y.spend.answers.length n2))[j]? = some u)=>((hbd.on h).cell hb2l).trans (hcc2 j u hj)
   have bad:x ≠ y → ∀ w',Nx W3 w' → K (.bool false) w':=fun e w' hn=>by
    have k:=k _ (h2d.on hn)
    rwa [decide_eq_false (hne e)] at k
   by_cases e1:x.ticket = y.ticket
   ·by_cases e2:x.terms = y.terms
    ·refine Xf (fun W0 hW0=>An2 (a7y (q1 _ hW0)) (a7y (q2 _ hW0))) (An4 @e1 @e2 @hiZ @hlZ) ?_
     refine ⟨Nx,fun w4 h4=>?_⟩
     refine c6j (hA1.next (hbd.on h4)) (hA2.next (hbd.on h4)) (fun w5 h5=>?_)
     have h45:=h4.on h5
     by_cases e3:x.spend.dare = y.spend.dare ∧ x.spend.answers = y.spend.answers
     ·rw [decide_eq_true e3.1,decide_eq_true e3.2]
      refine Xa0 ?_
      exact ⟨⟨i + 1,rfl,by omega,het.2 (g1p e1 e2 e3.1 e3.2),h2d.on h45⟩,by show l.length - (((i + 1:Nat):Int)).toNat < l.length - ((i:Nat):Int).toNat; omega⟩
     ·have e4:(decide (x.spend.dare = y.spend.dare) && decide (x.spend.answers = y.spend.answers)) = false:=by
       rw [← Bool.decide_and,decide_eq_false e3]
      rw [e4]
      have bad:=bad (fun e=>e3 (by subst e; exact ⟨rfl,rfl⟩)) _ h45
      refine Xa0 ?_
      exact bad
    ·have e2':¬ ((⟨x.terms.toArray⟩:ByteArray) = ⟨y.terms.toArray⟩):=fun e=>e2 (b7z.1 e)
     refine Xf (fun W0 hW0=>An2 (a7y (q1 _ hW0)) (a7y (q2 _ hW0))) (An4 @e1 @e2' @hiZ @hlZ) ?_
     refine ⟨Nx,fun w4 h4=>?_⟩
     have bad:=bad (fun e=>e2 (by rw [e])) _ h4
     refine Xa0 ?_
     exact bad
   ·refine Xf (fun W0 hW0=>An2 (a7y (q1 _ hW0)) (a7y (q2 _ hW0))) (An3 @e1 @hiZ @hlZ) ?_
    refine ⟨Nx,fun w4 h4=>?_⟩
    have bad:=bad (fun e=>e1 (by rw [e])) _ h4
    refine Xa0 ?_
    exact bad
 ·have hlZ:¬ (l.length:Int) = m.length:=by omega
  have k:=k _ (bR)
  rw [decide_eq_false (fun e=>hl (by rw [e]))] at k
  refine Xa @hlZ ?_
  exact k
theorem e4y:Tryz.prog.underlying 29 = some ((Tryz.prog.underlying 29).getD default):=by kernel_rfl
theorem e4z {x:Hld} {a y l:Value} {j:Nat} {u:Value} (hj:(c2f x.bl y)[j]? = some u):(b2f x a y l)[3 + j]? = some u:=by
 have hl:=(gS hj).1
 have:b2f x a y l = [.int .i64 x.limit,.int .i64 x.window,a] ++ (c2f x.bl y ++ [.int .i64 x.t.mark,.int .i64 x.t.first,.int .i64 x.t.z,.int .i64 x.t.a,.int .i64 x.t.b,.int .i64 x.t.r,l]):=rfl
 rw [this,List.getElem?_append_right (by simp)]
 simp only [List.length_cons,List.length_nil,Nat.zero_add,Nat.add_sub_cancel_left]
 rw [List.getElem?_append_left hl]
 exact hj
theorem a8k {g:Nat} {T:TypeId} {xs:List Value} (h:Holds w g T xs) {j:Nat} {u:Value} (hj:xs[j]? = some u):w.cell? ⟨g,j,none⟩ = some u:=by
 obtain ⟨hl,rfl⟩:=gS hj
 exact h.cell j hl
theorem g1q {x y:Hld} (e1:x.limit = y.limit) (e2:x.window = y.window) (e3:x.bl.s = y.bl.s) (e4:x.bl.u = y.bl.u) (e5:x.bl.v = y.bl.v) (e6:x.t = y.t) (e7:x.attrs = y.attrs) (e8:x.bl.ys = y.bl.ys) (e9:x.links = y.links):x = y:=by
 obtain ⟨a,b,c,⟨d,e,f,g⟩,t,l⟩:=x
 obtain ⟨a',b',c',⟨d',e',f',g'⟩,t',l'⟩:=y
 simp only at *
 subst e1 e2 e3 e4 e5 e6 e7 e8 e9
 rfl
theorem c9h (x y:Hld) {av yv kv av2 yv2 kv2:Value} (hx:HldR w x av yv kv) (hy:HldR w y av2 yv2 kv2) (k:∀ w',Bw w w' → K (.bool (decide (x = y))) w'):a0a Tryz.prog 18 #[b8c x av yv kv,b8c y av2 yv2 kv2] K w:=by
 apply e7b
 unfold g3h
 obtain ⟨a1,n1,d1,a2,n2,d2,a3,n3,d3,rfl,rfl,rfl⟩:=a1k hx
 obtain ⟨a4,n4,d4,a5,n5,d5,a6,n6,d6,rfl,rfl,rfl⟩:=a1k hy
 refine a4f (cs:=b2f x (.slice a1 n1 d1) (.slice a2 n2 d2) (.slice a3 n3 d3)) rfl (fun b1 w1 h1 hb1 hB1=>?_)
 refine a4f (cs:=b2f y (.slice a4 n4 d4) (.slice a5 n5 d5) (.slice a6 n6 d6)) rfl (fun b2 w2 h2 hb2 hB2=>?_)
 have hB1:=hB1.next h2
 refine a5q ?_
 refine a3n (cs:=c2f x.bl (.slice a2 n2 d2)) (p:=3) (fun j u hj=>a8k hB1 (e4z hj)) e4y (by kernel_rfl) (by kernel_rfl) ?_
 refine a0m c0i (fun g1 w3 h3 hg1 hG1=>?_)
 refine a0i b5a (xs:=c2f x.bl (.slice a2 n2 d2)) rfl rfl (b2h _ _ _ _) hG1 rfl (fun w4 hg4 hG1=>?_)
 have h24:Bw w2 w4:=a0y h3 hg4 hg1
 have hB1:=hB1.next h24
 have hB2:=hB2.next h24
 refine a5q ?_
 refine a3n (cs:=c2f y.bl (.slice a5 n5 d5)) (p:=3) (fun j u hj=>a8k hB2 (e4z hj)) e4y (by kernel_rfl) (by kernel_rfl) ?_
 refine a0m c0i (fun g2 w5 h5 hg2 hG2=>?_)
 refine a0i b5a (xs:=c2f y.bl (.slice a5 n5 d5)) rfl rfl (b2h _ _ _ _) hG2 rfl (fun w6 hg6 hG2=>?_)
 have h46:Bw w4 w6:=a0y h5 hg6 hg2
 have hB1:=hB1.next h46
 have hB2:=hB2.next h46
 have hG1:=hG1.next h46
 have h06:=((h1.on h2).on h24).on h46
 have bad:x ≠ y → ∀ w',Bw w6 w' → K (.bool false) w':=fun e w' hn=>by
  have k:=k _ (h06.on hn)
  rwa [decide_eq_false e] at k
 have p0:=hB1.cell 0 (by simp)
 have p1:=hB1.cell 1 (by simp)
 have p2:=hB1.cell 2 (by simp)
 have p13:=hB1.cell 13 (by simp)
 have q0:=hB2.cell 0 (by simp)
 have q1:=hB2.cell 1 (by simp)
 have q2:=hB2.cell 2 (by simp)
 have q13:=hB2.cell 13 (by simp)
 simp only [List.getElem_cons_zero,List.getElem_cons_succ] at p0 p1 p2 p13 q0 q1 q2 q13
 have r1:=hG1.are
 have r2:=hG2.are
 by_cases e1:x.limit = y.limit
 case neg=>
  have bad:=bad (fun e=>e1 (by rw [e])) _ (bR)
  refine Xa (An3 @p0 @q0 @e1) ?_
  exact bad
 by_cases e2:x.window = y.window
 case neg=>
  have bad:=bad (fun e=>e2 (by rw [e])) _ (bR)
  refine Xa (An6 @p0 @q0 @e1 @p1 @q1 @e2) ?_
  exact bad
 by_cases e3:x.bl.s = y.bl.s
 case neg=>
  have bad:=bad (fun e=>e3 (by rw [e])) _ (bR)
  refine Xa (An9 @p0 @q0 @e1 @p1 @q1 @e2 @r1 @r2 @e3) ?_
  exact bad
 by_cases e4:x.bl.u = y.bl.u
 case neg=>
  have bad:=bad (fun e=>e4 (by rw [e])) _ (bR)
  refine Xa (h3c @p0 @q0 @e1 @p1 @q1 @e2 @r1 @r2 @e3 @e4) ?_
  exact bad
 by_cases e5:x.bl.v = y.bl.v
 case neg=>
  have bad:=bad (fun e=>e5 (by rw [e])) _ (bR)
  refine Xa (h3d @p0 @q0 @e1 @p1 @q1 @e2 @r1 @r2 @e3 @e4 @e5) ?_
  exact bad
 have t1:∀ j u,(b4y x.t)[j]? = some u → w6.cell? ⟨b1,7 + j,none⟩ = some u:=fun j u hj=>a8k hB1 (by
  have:b2f x (.slice a1 n1 d1) (.slice a2 n2 d2) (.slice a3 n3 d3) = [.int .i64 x.limit,.int .i64 x.window,.slice a1 n1 d1] ++ c2f x.bl (.slice a2 n2 d2) ++ (b4y x.t ++ [.slice a3 n3 d3]):=rfl
  rw [this,List.getElem?_append_right (by simp)]
  simp only [List.length_append,List.length_cons,List.length_nil,Nat.zero_add,Nat.add_sub_cancel_left]
  rw [List.getElem?_append_left (gS hj).1]
  exact hj)
 have t2:∀ j u,(b4y y.t)[j]? = some u → w6.cell? ⟨b2,7 + j,none⟩ = some u:=fun j u hj=>a8k hB2 (by
  have:b2f y (.slice a4 n4 d4) (.slice a5 n5 d5) (.slice a6 n6 d6) = [.int .i64 y.limit,.int .i64 y.window,.slice a4 n4 d4] ++ c2f y.bl (.slice a5 n5 d5) ++ (b4y y.t ++ [.slice a6 n6 d6]):=rfl
  rw [this,List.getElem?_append_right (by simp)]
  simp only [List.length_append,List.length_cons,List.length_nil,Nat.zero_add,Nat.add_sub_cancel_left]
  rw [List.getElem?_append_left (gS hj).1]
  exact hj)
 by_cases e6:x.t = y.t
 case neg=>
  have bad:=bad (fun e=>e6 (by rw [e])) _ (bR)
  refine Xa (h3f @p0 @q0 @e1 @p1 @q1 @e2 @r1 @r2 @e3 @e4 @e5 (t1 0 _ rfl) (t1 1 _ rfl) (t1 2 _ rfl) (t1 3 _ rfl) (t1 4 _ rfl) (t1 5 _ rfl) (t2 0 _ rfl) (t2 1 _ rfl) (t2 2 _ rfl) (t2 3 _ rfl) (t2 4 _ rfl) (t2 5 _ rfl) @e6) ?_
  exact bad
 refine Xa (h3g @p0 @q0 @e1 @p1 @q1 @e2 @r1 @r2 @e3 @e4 @e5 (t1 0 _ rfl) (t1 1 _ rfl) (t1 2 _ rfl) (t1 3 _ rfl) (t1 4 _ rfl) (t1 5 _ rfl) (t2 0 _ rfl) (t2 1 _ rfl) (t2 2 _ rfl) (t2 3 _ rfl) (t2 4 _ rfl) (t2 5 _ rfl) @e6 @p2 @q2) ?_
 have hx6:=hx.next h06
 have hy6:=hy.next h06
 refine b0b hx6.attrs hy6.attrs (fun w7 h7=>?_)
 by_cases e7:x.attrs = y.attrs
 case neg=>
  have bad:=bad (fun e=>e7 (by rw [e])) _ h7
  rw [decide_eq_false e7]
  refine Xa0 ?_
  exact bad
 rw [decide_eq_true e7]
 have r17:=(hG1.next h7).are
 have r27:=(hG2.next h7).are
 refine Xa (An2 @r17 @r27) ?_
 refine b0b (hx6.ys.next h7) (hy6.ys.next h7) (fun w8 h8=>?_)
 have h78:=h7.on h8
 by_cases e8:x.bl.ys = y.bl.ys
 case neg=>
  have bad:=bad (fun e=>e8 (by rw [e])) _ h78
  rw [decide_eq_false e8]
  refine Xa0 ?_
  exact bad
 rw [decide_eq_true e8]
 have p13:=(h78.cell hB1.lt).trans p13
 have q13:=(h78.cell hB2.lt).trans q13
 refine Xa (An2 @p13 @q13) ?_
 refine c6l (hx6.links.next (a1o a4i) h78) (hy6.links.next (a1o a4i) h78) (fun w9 h9=>?_)
 have k:=k _ (h06.on (h78.on h9))
 by_cases e9:x.links = y.links
 ·rw [decide_eq_true (g1q e1 e2 e3 e4 e5 e6 e7 e8 e9)] at k
  rw [decide_eq_true e9]
  refine Xa0 ?_
  exact k
 ·rw [decide_eq_false (fun e=>e9 (by rw [e]))] at k
  rw [decide_eq_false e9]
  refine Xa0 ?_
  exact k
end
def b8a (y:Lnk):Bool:=decide (y.spend.answers.length ≤ 8) && decide (y.terms.length ≤ 210)
def b8s (h:Hld):Bool:=(h.links.take 6).all b8a && (decide (h.attrs.length ≤ 8) && decide (h.bl.ys.length ≤ 8) && decide (h.links.length ≤ 5))
section
variable {K:VK} {w w' w0 W W':World} {L:List (Addr × Value)} {rb b:Nat}
theorem c9i (s:Stp) (lims:List Lim) {v lv:Value} (hs:Ints w v s.bases) (hl:c5v w lv lims) (k:∀ w',Bw w w' → K (.bool (decide (s.bases.length ≤ 8) && decide (lims.length ≤ 18))) w'):a0a Tryz.prog 6 #[b0d s v,lv] K w:=by
 apply f9c
 unfold h1k
 obtain ⟨a1,c1,rfl⟩:=hs.isSlice
 obtain ⟨a2,c2,rfl⟩:=hl.isSlice
 refine a1b (cs:=a9w s (.slice a1 s.bases.length c1)) rfl (.start w) fun b1 W hk hb1 hbb=>?_
 have k:=k _ hk.below
 by_cases h:s.bases.length ≤ 8
 ·have hZ:(s.bases.length:Int) ≤ 8:=by omega
  by_cases h2:lims.length ≤ 18
  ·have h2Z:(lims.length:Int) ≤ 18:=by omega
   rw [decide_eq_true h,decide_eq_true h2] at k
   refine Xa (An3 hk.cells @hZ @h2Z) ?_
   exact k
  ·have h2Z:¬ (lims.length:Int) ≤ 18:=by omega
   rw [decide_eq_true h,decide_eq_false h2] at k
   refine Xa (An3 hk.cells @hZ @h2Z) ?_
   exact k
 ·have hZ:¬ (s.bases.length:Int) ≤ 8:=by omega
  rw [decide_eq_false h] at k
  refine Xa (An2 hk.cells @hZ) ?_
  exact k
theorem d4c (x:Hld) {av yv kv:Value} (hx:HldR w x av yv kv) (k:∀ w',Bw w w' → K (.bool (b8s x)) w'):a0a Tryz.prog 7 #[b8c x av yv kv] K w:=by
 apply f9b
 unfold h1j
 obtain ⟨a1,d1,rfl⟩:=hx.attrs.isSlice
 obtain ⟨a2,d2,rfl⟩:=hx.ys.isSlice
 obtain ⟨a3,d3,rfl⟩:=hx.links.isSlice
 have hll:=hx.links.len
 refine a4f (cs:=b2f x (.slice a1 x.attrs.length d1) (.slice a2 x.bl.ys.length d2) (.slice a3 x.links.length d3)) rfl (fun b1 w1 h1 hb1 hB1=>?_)
 have p2:=hB1.cell 2 (by simp)
 have p6:=hB1.cell 6 (by simp)
 have p13:=hB1.cell 13 (by simp)
 simp only [List.getElem_cons_zero,List.getElem_cons_succ] at p2 p6 p13
 refine ⟨fun vs W=>∃ (i:Nat),vs = [.bool false,.int .i64 (i:Int)] ∧ i ≤ x.links.length ∧ i ≤ 6 ∧ (x.links.take i).all b8a = true ∧ Nx w1 W,
  (fun vs _=>match vs with | [_,.int _ i]=>x.links.length - i.toNat | _=>0),⟨0,rfl,by omega,by omega,rfl,bR⟩,?_⟩
 rintro _ _ w2 ⟨i,rfl,hi,hi6,ha,h2⟩
 have p2:=(h2.cell hB1.lt).trans p2
 have p6:=(h2.cell hB1.lt).trans p6
 have p13:=(h2.cell hB1.lt).trans p13
 by_cases hil:i < x.links.length ∧ i < 6
 ·have hi1:(i:Int) < x.links.length:=by omega
  have hi2:(i:Int) ≤ 5:=by omega
  have hL:=hx.links.next (a1o a4i) (h1.on h2)
  obtain ⟨lb,lo,rfl,hlb,cs,hcl,hcc,yv,rfl,hA,hw⟩:=hL.at hil.1
  obtain ⟨e1,n1,rfl⟩:=hA.isSlice
  have hc:=a7y hcc
  have hnext:(x.links.take (i + 1)).all b8a = b8a x.links[i]:=by
   rw [List.take_succ_eq_append_getElem hil.1,List.all_append,ha]; simp
  have bad:b8a x.links[i] = false → K (.bool false) w2:=fun e=>by
   have k:=k _ (h1.on h2)
   have:b8s x = false:=by
    unfold b8s
    rw [Bool.and_eq_false_iff]
    left
    rw [List.all_eq_false]
    refine ⟨x.links[i],?_,by rw [e]; simp⟩
    rw [List.mem_take_iff_getElem]
    exact ⟨i,by omega,rfl⟩
   rwa [this] at k
  by_cases q1:x.links[i].spend.answers.length ≤ 8
  ·have q1Z:¬ (8:Int) < x.links[i].spend.answers.length:=by omega
   by_cases q2:x.links[i].terms.length ≤ 210
   ·have q2Z:¬ (210:Int) < x.links[i].terms.length:=by omega
    refine Xa (An7 @p13 @hi1 @hi2 hc.2.2.2.2.2.2.2.1 hc.2.2.2.2.2.2.2.2 @q1Z @q2Z) ?_
    exact ⟨⟨i + 1,rfl,by omega,by omega,by rw [hnext]; unfold b8a; rw [decide_eq_true q1,decide_eq_true q2]; rfl,h2⟩,by show x.links.length - (((i + 1:Nat):Int)).toNat < x.links.length - ((i:Nat):Int).toNat; omega⟩
   ·have q2Z:(210:Int) < x.links[i].terms.length:=by omega
    have bad:=bad (by unfold b8a; rw [decide_eq_false q2]; simp)
    refine Xa (An7 @p13 @hi1 @hi2 hc.2.2.2.2.2.2.2.1 hc.2.2.2.2.2.2.2.2 @q1Z @q2Z) ?_
    exact bad
  ·have q1Z:(8:Int) < x.links[i].spend.answers.length:=by omega
   have bad:=bad (by unfold b8a; rw [decide_eq_false q1]; rfl)
   refine Xa (An6 @p13 @hi1 @hi2 hc.2.2.2.2.2.2.2.1 hc.2.2.2.2.2.2.2.2 @q1Z) ?_
   exact bad
 ·have e6:(x.links.take 6).all b8a = true:=by
   by_cases h6:i = 6
   ·rw [← h6]; exact ha
   ·have:i = x.links.length:=by omega
    rw [this,List.take_length] at ha
    rw [List.take_of_length_le (by omega)]
    exact ha
  have k2:∀ r,(decide (x.attrs.length ≤ 8) && decide (x.bl.ys.length ≤ 8) && decide (x.links.length ≤ 5)) = r → K (.bool r) w2:=fun r e=>by
   have k:=k _ (h1.on h2)
   unfold b8s at k
   rw [e6,e] at k
   exact k
  have hend:∀ (P:Prop) (t:P) ,P:=fun _ t=>t
  by_cases q1:x.attrs.length ≤ 8
  ·have q1Z:(x.attrs.length:Int) ≤ 8:=by omega
   by_cases q2:x.bl.ys.length ≤ 8
   ·have q2Z:(x.bl.ys.length:Int) ≤ 8:=by omega
    by_cases q3:x.links.length ≤ 5
    ·have q3Z:(x.links.length:Int) ≤ 5:=by omega
     have hi1:¬ (i:Int) < x.links.length:=by omega
     have k2:=k2 _ (by rw [decide_eq_true q1,decide_eq_true q2,decide_eq_true q3])
     refine Xa (An7 @p13 @p2 @p6 @hi1 @q1Z @q2Z @q3Z) ?_
     exact k2
    ·have q3Z:¬ (x.links.length:Int) ≤ 5:=by omega
     have k2:=k2 _ (by rw [decide_eq_true q1,decide_eq_true q2,decide_eq_false q3])
     by_cases hi1:(i:Int) < x.links.length
     ·have hi2:¬ (i:Int) ≤ 5:=by omega
      refine Xa (An8 @p13 @p2 @p6 @hi1 @hi2 @q1Z @q2Z @q3Z) ?_
      exact k2
     ·refine Xa (An7 @p13 @p2 @p6 @hi1 @q1Z @q2Z @q3Z) ?_
      exact k2
   ·have q2Z:¬ (x.bl.ys.length:Int) ≤ 8:=by omega
    have k2:=k2 _ (by rw [decide_eq_true q1,decide_eq_false q2])
    by_cases hi1:(i:Int) < x.links.length
    ·have hi2:¬ (i:Int) ≤ 5:=by omega
     refine Xa (An7 @p13 @p2 @p6 @hi1 @hi2 @q1Z @q2Z) ?_
     exact k2
    ·refine Xa (An6 @p13 @p2 @p6 @hi1 @q1Z @q2Z) ?_
     exact k2
  ·have q1Z:¬ (x.attrs.length:Int) ≤ 8:=by omega
   have k2:=k2 _ (by rw [decide_eq_false q1])
   by_cases hi1:(i:Int) < x.links.length
   ·have hi2:¬ (i:Int) ≤ 5:=by omega
    refine Xa (An6 @p13 @p2 @p6 @hi1 @hi2 @q1Z) ?_
    exact k2
   ·refine Xa (An5 @p13 @p2 @p6 @hi1 @q1Z) ?_
    exact k2
theorem e5a {x:Hld} (h:b8s x = true):e4v x:=by
 unfold b8s at h
 simp only [bA,dE] at h
 obtain ⟨h1,⟨h2,h3⟩,h4⟩:=h
 rw [List.take_of_length_le (by omega),List.all_eq_true] at h1
 refine ⟨by omega,by omega,by omega,fun y hy=>?_⟩
 have:=h1 y hy
 simp only [b8a,bA,dE] at this
 omega
end
end Go.Proofs
namespace Go.Proofs
open Go.Sh Tryz
variable {a0 a1 a2:Value} {K:VK} {w:World}
def f5r (a0:Value) (K:VK) (w:World):Prop:=
 kB .geq 3 4 a0 (.int .i64 1) (fun v4 w=>
 gT v4 (a0f a0) (fun v6 w=>
 gT v4 (kB .lss 3 4 v6 (.int .i64 2305843009213693952)) (fun v7=>
 kP v4 v7 (.bool false) fun v8=>
 K v8) w) w) w
theorem d7o (h:f5r a0 K w):a0a prog 156 #[a0] K w:=
 cZ (fun _=>0) func156 h
def f5s (a0 a1:Value) (K:VK) (w:World):Prop:=
 kB .rem 3 3 a1 a0 (fun v8 w=>
 a5u (fun M_2=>(kB .lss 3 4 v8 (.int .i64 0) (fun v10=>
 kO v10 (kB .add 3 3 v8 a0 fun v13=>
 M_2 [v13])
 (M_2 [v8])) w))
 fun l_3 u_l_3 w=>(K (l_3.getD 0 undef) w)) w
theorem d7p (h:f5s a0 a1 K w):a0a prog 158 #[a0,a1] K w:=
 cZ (fun _=>0) func158 h
def f5t (a0 a1 a2:Value) (K:VK) (w:World):Prop:=
 a0a prog 156 #[a0] (fun v14=>
 kU v14 fun v15=>
 kO v15 (K (.int .i64 0))
 (a0a prog 158 #[a0,a1] fun v18=>
 a0a prog 158 #[a0,a2] fun v21=>
 kB .leq 3 4 a0 (.int .i64 2147483648) fun v23=>
 kO v23 (kB .mul 3 3 v18 v21 fun v26=>
 kB .rem 3 3 v26 a0 fun v28=>
 K v28)
 (kQ [(.int .i64 0),undef,undef,(.int .i64 60)] fun J_8 m_9 l_10 u_l_10 w0_l_10=>(fun w=>(
 kB .geq 3 4 (l_10.getD 3 undef) (.int .i64 0) (fun v30=>
 kO v30 (kB .mul 3 3 (.int .i64 4) (l_10.getD 0 undef) fun v34=>
 kB .rem 3 3 v34 a0 fun v36=>
 kB .shr 3 3 v21 (l_10.getD 3 undef) fun v39=>
 kB .and 3 3 v39 (.int .i64 3) fun v40=>
 kQ [v36,(.int .i64 0)] fun J_16 m_17 l_18 u_l_18 w0_l_18=>(fun w=>(
 kB .lss 3 4 (l_18.getD 1 undef) v40 (fun v43=>
 kO v43 (kB .add 3 3 (l_18.getD 0 undef) v18 fun v48=>
 kB .rem 3 3 v48 a0 fun v50=>
 kB .add 3 3 (l_18.getD 1 undef) (.int .i64 1) fun v45=>
 kJ J_16 m_17 l_18 w0_l_18 [v50,v45])
 (kB .sub 3 3 (l_10.getD 3 undef) (.int .i64 2) fun v32=>
 kJ J_8 m_9 l_10 w0_l_10 [(l_18.getD 0 undef),v40,(l_18.getD 1 undef),v32])) w)) w0_l_18)
 (K (l_10.getD 0 undef))) w)) w0_l_10))) w
theorem d7q (h:f5t a0 a1 a2 K w):a0a prog 162 #[a0,a1,a2] K w:=
 cZ (fun _=>0) func162 h
def f5u (a0 a1 a2:Value) (K:VK) (w:World):Prop:=
 kB .rem 3 3 (.int .i64 1) a0 (fun v10=>
 a0a prog 158 #[a0,a1] fun v13=>
 kQ [v10,v13,a2] fun J_3 m_4 l_5 u_l_5 w0_l_5=>(fun w=>(
 kB .gtr 3 4 (l_5.getD 2 undef) (.int .i64 0) (fun v15 w=>
 a2c v15
 (a5u (fun M_7=>(kB .rem 3 3 (l_5.getD 2 undef) (.int .i64 2) (fun v17=>
 kC .eql 3 1 4 v17 fun v18=>
 kO v18 (a0a prog 162 #[a0,(l_5.getD 0 undef),(l_5.getD 1 undef)] fun v22=>
 M_7 [v22])
 (M_7 [(l_5.getD 0 undef)])) w))
 fun l_8 u_l_8 w=>(a0a prog 162 #[a0,(l_5.getD 1 undef),(l_5.getD 1 undef)] (fun v26=>
 kB .quo 3 3 (l_5.getD 2 undef) (.int .i64 2) fun v28=>
 kJ J_3 m_4 l_5 w0_l_5 [(l_8.getD 0 undef),v26,v28]) w))
 (K (l_5.getD 0 undef) w)) w)) w0_l_5) w
theorem d7r (h:f5u a0 a1 a2 K w):a0a prog 157 #[a0,a1,a2] K w:=
 cZ (fun _=>0) func157 h
def f5v (a0 a1:Value) (K:VK) (w:World):Prop:=
 kB .sub 3 3 a0 (.int .i64 1) (fun v10=>
 kQ [v10,(.int .i64 0)] fun J_2 m_3 l_4 u_l_4 w0_l_4=>(fun w=>(
 kB .rem 3 3 (l_4.getD 0 undef) (.int .i64 2) (fun v12=>
 kC .eql 3 0 4 v12 fun v13=>
 kO v13 (kB .quo 3 3 (l_4.getD 0 undef) (.int .i64 2) fun v15=>
 kB .add 3 3 (l_4.getD 1 undef) (.int .i64 1) fun v17=>
 kJ J_2 m_3 l_4 w0_l_4 [v15,v17])
 (a0a prog 157 #[a0,a1,(l_4.getD 0 undef)] fun v21=>
 kC .eql 3 1 4 v21 fun v23=>
 kO v23 (K (.bool true))
 (kQ [(.bool false),v21,(.int .i64 0)] fun J_11 m_12 l_13 u_l_13 w0_l_13=>(fun w=>(
 kB .lss 3 4 (l_13.getD 2 undef) (l_4.getD 1 undef) (fun v26=>
 kO v26 (kB .sub 3 3 a0 (.int .i64 1) fun v31=>
 kB .eql 3 4 (l_13.getD 1 undef) v31 fun v32=>
 kO v32 (K (.bool true))
 (a0a prog 162 #[a0,(l_13.getD 1 undef),(l_13.getD 1 undef)] fun v36=>
 kB .add 3 3 (l_13.getD 2 undef) (.int .i64 1) fun v28=>
 kJ J_11 m_12 l_13 w0_l_13 [(l_13.getD 0 undef),v36,v28]))
 (K (.bool false))) w)) w0_l_13))) w)) w0_l_4) w
theorem d7s (h:f5v a0 a1 K w):a0a prog 263 #[a0,a1] K w:=
 cZ (fun _=>0) func263 h
def f5w (K:VK) (w:World):Prop:=
 oM prog (.buildSlice 24 12 #[(0,(.tmp 0)),(1,(.tmp 1)),(2,(.tmp 2)),(3,(.tmp 3)),(4,(.tmp 4)),(5,(.tmp 5)),(6,(.tmp 6)),(7,(.tmp 7)),(8,(.tmp 8)),(9,(.tmp 9)),(10,(.tmp 10)),(11,(.tmp 11))]) 24 [(.int .i64 2),(.int .i64 3),(.int .i64 5),(.int .i64 7),(.int .i64 11),(.int .i64 13),(.int .i64 17),(.int .i64 19),(.int .i64 23),(.int .i64 29),(.int .i64 31),(.int .i64 37)] (fun v1=>
 K v1) w
theorem d7t (h:f5w K w):a0a prog 262 #[] K w:=
 cZ (fun _=>0) func262 h
def f5x (a0:Value) (K:VK) (w:World):Prop:=
 kB .lss 3 4 a0 (.int .i64 2) (fun v7 w=>
 gF v7 (a0f a0) (fun v9 w=>
 gF v7 (kB .geq 3 4 v9 (.int .i64 2305843009213693952)) (fun v10=>
 kP v7 (.bool true) v10 fun v11=>
 kO v11 (K (.bool false))
 (a0a prog 262 #[] fun v12=>
 kQ [(.bool false),(.int .i64 0)] fun J_6 m_7 l_8 u_l_8 w0_l_8=>(fun w=>(
 kN 24 v12 (fun v15=>
 kB .lss 3 4 (l_8.getD 1 undef) v15 fun v16=>
 kO v16 (kI 24 v12 (l_8.getD 1 undef) fun v22=>
 kL 3 v22 fun v23=>
 kB .rem 3 3 a0 v23 fun v24=>
 kC .eql 3 0 4 v24 fun v25=>
 kO v25 (kI 24 v12 (l_8.getD 1 undef) fun v29=>
 kL 3 v29 fun v30=>
 kB .eql 3 4 a0 v30 fun v31=>
 K v31)
 (kB .add 3 3 (l_8.getD 1 undef) (.int .i64 1) fun v18=>
 kJ J_6 m_7 l_8 w0_l_8 [(l_8.getD 0 undef),v18]))
 (kQ [(l_8.getD 0 undef),(.int .i64 0)] fun J_19 m_20 l_21 u_l_21 w0_l_21=>(fun w=>(
 kN 24 v12 (fun v34=>
 kB .lss 3 4 (l_21.getD 1 undef) v34 fun v35=>
 kO v35 (kI 24 v12 (l_21.getD 1 undef) fun v41=>
 kL 3 v41 fun v42=>
 a0a prog 263 #[a0,v42] fun v43=>
 kU v43 fun v44=>
 kO v44 (K (.bool false))
 (kB .add 3 3 (l_21.getD 1 undef) (.int .i64 1) fun v37=>
 kJ J_19 m_20 l_21 w0_l_21 [(l_21.getD 0 undef),v37]))
 (K (.bool true))) w)) w0_l_21)) w)) w0_l_8)) w) w) w
theorem d7u (h:f5x a0 K w):a0a prog 213 #[a0] K w:=
 cZ (fun _=>0) func213 h
def f5y (a0:Value) (K:VK) (w:World):Prop:=
 oM prog (.box 23 (.tmp 0)) 0 [a0] (fun v1=>
 kF 23 1 v1 fun v3=>
 kL 3 v3 fun v4=>
 kB .lss 3 4 v4 (.int .i64 5) fun v5 w=>
 gF v5 (kF 23 1 v1) (fun v7 w=>
 gF v5 (kL 3 v7) (fun v8 w=>
 gF v5 (kB .geq 3 4 v8 (.int .i64 1152921504606846976)) (fun v9=>
 kP v5 (.bool true) v9 fun v10 w=>
 gF v10 (kF 23 0 v1) (fun v12 w=>
 gF v10 (kL 3 v12) (fun v13 w=>
 gF v10 (kF 23 1 v1) (fun v14 w=>
 gF v10 (kL 3 v14) (fun v15 w=>
 gF v10 (kB .mul 3 3 (.int .i64 2) v15) (fun v16 w=>
 gF v10 (kB .add 3 3 v16 (.int .i64 1)) (fun v17 w=>
 gF v10 (kB .neq 3 4 v13 v17) (fun v18=>
 kP v10 (.bool true) v18 fun v19 w=>
 gF v19 (kF 23 0 v1) (fun v21 w=>
 gF v19 (kL 3 v21) (fun v22 w=>
 gF v19 (kB .geq 3 4 v22 (.int .i64 2305843009213693952)) (fun v23=>
 kP v19 (.bool true) v23 fun v24 w=>
 gF v24 (kF 23 2 v1) (fun v26 w=>
 gF v24 (kL 3 v26) (fun v27 w=>
 gF v24 (kB .lss 3 4 v27 (.int .i64 2)) (fun v28=>
 kP v24 (.bool true) v28 fun v29 w=>
 gF v29 (kF 23 2 v1) (fun v31 w=>
 gF v29 (kL 3 v31) (fun v32 w=>
 gF v29 (kF 23 0 v1) (fun v33 w=>
 gF v29 (kL 3 v33) (fun v34 w=>
 gF v29 (kB .geq 3 4 v32 v34) (fun v35=>
 kP v29 (.bool true) v35 fun v36=>
 kO v36 (K (.bool false))
 (kF 23 1 v1 fun v37=>
 kL 3 v37 fun v38=>
 a0a prog 213 #[v38] fun v39 w=>
 gT v39 (kF 23 0 v1) (fun v41 w=>
 gT v39 (kL 3 v41) (fun v42 w=>
 gT v39 (a0a prog 213 #[v42]) (fun v43=>
 kP v39 v43 (.bool false) fun v44 w=>
 gT v44 (kF 23 0 v1) (fun v46 w=>
 gT v44 (kL 3 v46) (fun v47 w=>
 gT v44 (kF 23 2 v1) (fun v48 w=>
 gT v44 (kL 3 v48) (fun v49 w=>
 gT v44 (kF 23 1 v1) (fun v50 w=>
 gT v44 (kL 3 v50) (fun v51 w=>
 gT v44 (a0a prog 157 #[v47,v49,v51]) (fun v52 w=>
 gT v44 (kC .eql 3 1 4 v52) (fun v53=>
 kP v44 v53 (.bool false) fun v54=>
 K v54) w) w) w) w) w) w) w) w) w) w) w)) w) w) w) w) w) w) w) w) w) w) w) w) w) w) w) w) w) w) w) w) w) w
theorem d7v (h:f5y a0 K w):a0a prog 154 #[a0] K w:=
 cZ (fun _=>0) func154 h
def f5z (a0 a1:Value) (K:VK) (w:World):Prop:=
 oM prog (.box 23 (.tmp 0)) 0 [a0] (fun v2=>
 kB .geq 3 4 a1 (.int .i64 1) fun v6 w=>
 gT v6 (a0f a1) (fun v8 w=>
 gT v6 (kF 23 0 v2) (fun v9 w=>
 gT v6 (kL 3 v9) (fun v10 w=>
 gT v6 (kB .lss 3 4 v8 v10) (fun v11=>
 kP v6 v11 (.bool false) fun v12 w=>
 gT v12 (kF 23 0 v2) (fun v14 w=>
 gT v12 (kL 3 v14) (fun v15 w=>
 gT v12 (a0f a1) (fun v16 w=>
 gT v12 (kF 23 1 v2) (fun v17 w=>
 gT v12 (kL 3 v17) (fun v18 w=>
 gT v12 (a0a prog 157 #[v15,v16,v18]) (fun v19 w=>
 gT v12 (kC .eql 3 1 4 v19) (fun v20=>
 kP v12 v20 (.bool false) fun v21=>
 K v21) w) w) w) w) w) w) w) w) w) w) w) w
theorem d7w (h:f5z a0 a1 K w):a0a prog 214 #[a0,a1] K w:=
 cZ (fun _=>0) func214 h
def f6a (a0 a1:Value) (K:VK) (w:World):Prop:=
 oM prog (.box 23 (.tmp 0)) 0 [a0] (fun v2=>
 kB .geq 3 4 a1 (.int .i64 1) fun v6 w=>
 gT v6 (a0f a1) (fun v8 w=>
 gT v6 (kF 23 0 v2) (fun v9 w=>
 gT v6 (kL 3 v9) (fun v10 w=>
 gT v6 (kB .lss 3 4 v8 v10) (fun v11=>
 kP v6 v11 (.bool false) fun v12 w=>
 gT v12 (kL 23 v2) (fun v14 w=>
 gT v12 (a0a prog 154 #[v14]) (fun v15=>
 kP v12 v15 (.bool false) fun v16 w=>
 gT v16 (kL 23 v2) (fun v18 w=>
 gT v16 (a0f a1) (fun v19 w=>
 gT v16 (a0a prog 214 #[v18,v19]) (fun v20=>
 kP v16 v20 (.bool false) fun v21=>
 K v21) w) w) w) w) w) w) w) w) w) w
theorem d7x (h:f6a a0 a1 K w):a0a prog 164 #[a0,a1] K w:=
 cZ (fun _=>0) func164 h
def g3t (a0 a1 a2:Value) (K:VK) (w:World):Prop:=
 oM prog (.box 23 (.tmp 0)) 0 [a0] (fun v3=>
 kF 23 0 v3 fun v7=>
 kL 3 v7 fun v8=>
 a0a prog 156 #[v8] fun v9=>
 kU v9 fun v10 w=>
 gF v10 (kF 23 1 v3) (fun v12 w=>
 gF v10 (kL 3 v12) (fun v13 w=>
 gF v10 (a0a prog 156 #[v13]) (fun v14 w=>
 gF v10 (kU v14) (fun v15=>
 kP v10 (.bool true) v15 fun v16=>
 kO v16 (K (.int .i64 0))
 (kH fun C_11 w=>(((true:Bool) = true) ∧ (jF 23 0 v3 C_11 fun v17=>
 jL 3 v17 C_11 fun v18=>
 a0g a1 C_11 fun v19=>
 jF 23 1 v3 C_11 fun v20=>
 jL 3 v20 C_11 fun v21=>
 a0g a2 C_11 fun v22=>
 ∃ S_18:World → WK,xR S_18 fun R_19=>
 (∀ w,C_11 w → (a0a prog 158 #[v21,v22] (xK C_11 S_18 R_19 w) w)) ∧
 (∀ w,C_11 w → ∀ v23,R_19 v23 w → (
 a0a prog 157 #[v18,v19,v23] (fun v24=>
 K v24) w)))))) w) w) w) w) w
theorem e7n (h:g3t a0 a1 a2 K w):a0a prog 79 #[a0,a1,a2] K w:=
 cZ (fun _=>(fz 6 1 2)) func79 h
def f6b (a0 a1:Value) (K:VK) (w:World):Prop:=
 oM prog (.box 23 (.tmp 0)) 0 [a0] (fun v2=>
 kC .neq 3 1 4 a1 fun v6 w=>
 gT v6 (kL 23 v2) (fun v8 w=>
 gT v6 (a0f a1) (fun v9 w=>
 gT v6 (a0a prog 214 #[v8,v9]) (fun v10=>
 kP v6 v10 (.bool false) fun v11=>
 K v11) w) w) w) w
theorem d7y (h:f6b a0 a1 K w):a0a prog 155 #[a0,a1] K w:=
 cZ (fun _=>0) func155 h
def g3u (a0:Value) (K:VK) (w:World):Prop:=
 oM prog (.box 26 (.tmp 0)) 0 [a0] (fun v1=>
 kF 26 0 v1 fun v4=>
 kL 23 v4 fun v5=>
 a0a prog 154 #[v5] fun v6=>
 kU v6 fun v7 w=>
 gF v7 (kF 26 1 v1) (fun v9 w=>
 gF v7 (kL 24 v9) (fun v10 w=>
 gF v7 (kN 24 v10) (fun v11 w=>
 gF v7 (kB .lss 3 4 v11 (.int .i64 2)) (fun v12=>
 kP v7 (.bool true) v12 fun v13 w=>
 gF v13 (kF 26 1 v1) (fun v15 w=>
 gF v13 (kL 24 v15) (fun v16 w=>
 gF v13 (kN 24 v16) (fun v17 w=>
 gF v13 (kB .gtr 3 4 v17 (.int .i64 7)) (fun v18=>
 kP v13 (.bool true) v18 fun v19 w=>
 gF v19 (kF 26 0 v1) (fun v21 w=>
 gF v19 (kL 23 v21) (fun v22 w=>
 gF v19 (kF 26 2 v1) (fun v23 w=>
 gF v19 (kL 3 v23) (fun v24 w=>
 gF v19 (a0a prog 155 #[v22,v24]) (fun v25 w=>
 gF v19 (kU v25) (fun v26=>
 kP v19 (.bool true) v26 fun v27=>
 kO v27 (K (.bool false))
 (kQ [(.bool false),(.int .i64 0)] fun J_23 m_24 l_25 u_l_25 w0_l_25=>(fun w=>(
 kF 26 1 v1 (fun v29=>
 kL 24 v29 fun v30=>
 kN 24 v30 fun v31=>
 kB .lss 3 4 (l_25.getD 1 undef) v31 fun v32=>
 kO v32 (kH fun C_30 w=>(((true:Bool) = true) ∧ (jF 26 0 v1 C_30 fun v35=>
 jL 23 v35 C_30 fun v36=>
 jF 26 1 v1 C_30 fun v37=>
 jL 24 v37 C_30 fun v38=>
 a0g (l_25.getD 1 undef) C_30 fun v39=>
 jI 24 v38 v39 C_30 fun v40=>
 jL 3 v40 C_30 fun v41=>
 ∃ S_38:World → WK,∀ w,C_30 w → (
 a0a prog 155 #[v36,v41] (fun v42=>
 kU v42 fun v43=>
 kO v43 (K (.bool false))
 (kB .add 3 3 (l_25.getD 1 undef) (.int .i64 1) fun v34=>
 kJ J_23 m_24 l_25 w0_l_25 [(l_25.getD 0 undef),v34])) w))))
 (K (.bool true))) w)) w0_l_25)) w) w) w) w) w) w) w) w) w) w) w) w) w) w) w
theorem e7o (h:g3u a0 K w):a0a prog 76 #[a0] K w:=
 cZ (fun _=>(fz 7 0 2)) func76 h
def g3v (a0 a1 a2:Value) (K:VK) (w:World):Prop:=
 oM prog (.box 23 (.tmp 0)) 0 [a0] (fun v3=>
 kF 23 0 v3 fun v10=>
 kL 3 v10 fun v11=>
 a0a prog 156 #[v11] fun v12=>
 kU v12 fun v13 w=>
 gF v13 (kF 23 1 v3) (fun v15 w=>
 gF v13 (kL 3 v15) (fun v16 w=>
 gF v13 (a0a prog 156 #[v16]) (fun v17 w=>
 gF v13 (kU v17) (fun v18=>
 kP v13 (.bool true) v18 fun v19 w=>
 gF v19 (a0f a1) (fun v21 w=>
 gF v19 (kN 24 v21) (fun v22 w=>
 gF v19 (a0f a2) (fun v23 w=>
 gF v19 (kN 24 v23) (fun v24 w=>
 gF v19 (kB .neq 3 4 v22 v24) (fun v25=>
 kP v19 (.bool true) v25 fun v26=>
 kO v26 (K (.tuple #[(.int .i64 0),(.bool false)]))
 (kF 23 0 v3 fun v27=>
 kL 3 v27 fun v28=>
 kB .rem 3 3 (.int .i64 1) v28 fun v29=>
 kQ [v29,(.int .i64 0)] fun J_20 m_21 l_22 u_l_22 w0_l_22=>(fun w=>(
 kN 24 a1 (fun v32=>
 kB .lss 3 4 (l_22.getD 1 undef) v32 fun v33 w=>
 a2c v33
 (b4r w fun C_25=>(oQ prog (.fieldAddr 23 (.tmp 0) 0) 0 [v3] C_25 fun v36=>
 oQ prog (.load 3 (.tmp 0)) 3 [v36] C_25 fun v37=>
 oQ prog (.load 23 (.tmp 0)) 23 [v3] C_25 fun v39=>
 oQ prog (.indexAddr 24 (.tmp 0) (.tmp 1)) 0 [a1,(l_22.getD 1 undef)] C_25 fun v42=>
 oQ prog (.load 3 (.tmp 0)) 3 [v42] C_25 fun v43=>
 oQ prog (.indexAddr 24 (.tmp 0) (.tmp 1)) 0 [a2,(l_22.getD 1 undef)] C_25 fun v46=>
 oQ prog (.load 3 (.tmp 0)) 3 [v46] C_25 fun v47=>
 b8k prog 79 #[v39,v43,v47] C_25 fun v48=>
 b8k prog 162 #[v37,(l_22.getD 0 undef),v48] C_25 fun v49=>
 ∀ w,C_25 w → (kB .add 3 3 (l_22.getD 1 undef) (.int .i64 1) (fun v35=>
 kJ J_20 m_21 l_22 w0_l_22 [v49,v35]) w)))
 (K (.tuple #[(l_22.getD 0 undef),(.bool true)]) w)) w)) w0_l_22)) w) w) w) w) w) w) w) w) w) w
theorem e7p (h:g3v a0 a1 a2 K w):a0a prog 81 #[a0,a1,a2] K w:=
 cZ (fun _=>0) func81 h
variable {a0:Value} {K:VK} {w:World}
def f6c (a0:Value) (K:VK) (w:World):Prop:=
 kB .rem 3 3 a0 (.int .i64 10) (fun v5=>
 kB .sub 3 3 (.int .i64 48) v5 fun v6=>
 oM prog (.convert 3 5 (.tmp 0)) 5 [v6] fun v7=>
 oM prog (.buildSlice 242 1 #[(0,(.tmp 0))]) 242 [v7] fun v8=>
 oM prog (.convert 242 9 (.tmp 0)) 9 [v8] fun v9=>
 kB .gtr 3 4 a0 (.int .i64 (-10)) fun v11=>
 kO v11 (K v9)
 (kB .quo 3 3 a0 (.int .i64 10) fun v14=>
 a0a prog 140 #[v14] fun v15=>
 kB .add 9 9 v15 v9 fun v17=>
 K v17)) w
theorem d7z (h:f6c a0 K w):a0a prog 140 #[a0] K w:=
 cZ (fun _=>0) func140 h
def g3w (a0:Value) (K:VK) (w:World):Prop:=
 kB .lss 3 4 a0 (.int .i64 0) (fun v4=>
 kO v4 (a0a prog 140 #[a0] fun v6=>
 oM prog (.binOp .add 9 (.tmp 0) (.tmp 1) 9) 9 [(.string ⟨#[45]⟩),v6] fun v7=>
 oM prog (.binOp .add 9 (.tmp 0) (.tmp 1) 9) 9 [v7,(.string ⟨#[59]⟩)] fun v8=>
 K v8)
 (oM prog (.unOp .neg 3 (.tmp 0)) 3 [a0] fun v10=>
 a0a prog 140 #[v10] fun v11=>
 oM prog (.binOp .add 9 (.tmp 0) (.tmp 1) 9) 9 [v11,(.string ⟨#[59]⟩)] fun v12=>
 K v12)) w
theorem e7q (h:g3w a0 K w):a0a prog 88 #[a0] K w:=
 cZ (fun _=>0) func88 h
def g3x (a0:Value) (K:VK) (w:World):Prop:=
 kN 9 a0 (fun v4=>
 oM prog (.unOp .neg 3 (.tmp 0)) 3 [v4] fun v5=>
 a0a prog 140 #[v5] fun v6=>
 oM prog (.binOp .add 9 (.tmp 0) (.tmp 1) 9) 9 [v6,(.string ⟨#[58]⟩)] fun v7=>
 kB .add 9 9 v7 a0 fun v9=>
 oM prog (.binOp .add 9 (.tmp 0) (.tmp 1) 9) 9 [v9,(.string ⟨#[44]⟩)] fun v10=>
 K v10) w
theorem e7r (h:g3x a0 K w):a0a prog 68 #[a0] K w:=
 cZ (fun _=>0) func68 h
def g3y (a0:Value) (K:VK) (w:World):Prop:=
 kN 24 a0 (fun v6=>
 oM prog (.unOp .neg 3 (.tmp 0)) 3 [v6] fun v7=>
 a0a prog 140 #[v7] fun v8=>
 oM prog (.binOp .add 9 (.tmp 0) (.tmp 1) 9) 9 [v8,(.string ⟨#[91]⟩)] fun v9=>
 kQ [v9,(.int .i64 0)] fun J_5 m_6 l_7 u_l_7 w0_l_7=>(fun w=>(
 kN 24 a0 (fun v12=>
 kB .lss 3 4 (l_7.getD 1 undef) v12 fun v13=>
 kO v13 (kI 24 a0 (l_7.getD 1 undef) fun v19=>
 kL 3 v19 fun v20=>
 a0a prog 88 #[v20] fun v21=>
 kB .add 9 9 (l_7.getD 0 undef) v21 fun v22=>
 kB .add 3 3 (l_7.getD 1 undef) (.int .i64 1) fun v15=>
 kJ J_5 m_6 l_7 w0_l_7 [v22,v15])
 (oM prog (.binOp .add 9 (.tmp 0) (.tmp 1) 9) 9 [(l_7.getD 0 undef),(.string ⟨#[93]⟩)] fun v24=>
 K v24)) w)) w0_l_7) w
theorem e7s (h:g3y a0 K w):a0a prog 86 #[a0] K w:=
 cZ (fun _=>0) func86 h
def g3z (a0:Value) (K:VK) (w:World):Prop:=
 kB .lss 3 4 a0 (.int .i64 0) (fun v4=>
 kO v4 (K (.string ⟨#[]⟩))
 (a0a prog 88 #[a0] fun v6=>
 K v6)) w
theorem e7t (h:g3z a0 K w):a0a prog 67 #[a0] K w:=
 cZ (fun _=>0) func67 h
variable {a0 a1 a2:Value} {K:VK} {w:World}
def f6i (a0 a1 a2:Value) (K:VK) (w:World):Prop:=
 kB .geq 3 4 a0 a1 (fun v9 w=>
 gT v9 (a0f a0) (fun v11 w=>
 gT v9 (a0f a2) (fun v12 w=>
 gT v9 (kB .leq 3 4 v11 v12) (fun v13=>
 kP v9 v13 (.bool false) fun v14=>
 K v14) w) w) w) w
theorem d8f (h:f6i a0 a1 a2 K w):a0a prog 163 #[a0,a1,a2] K w:=
 cZ (fun _=>0) func163 h
def f6j (a0 a1:Value) (K:VK) (w:World):Prop:=
 oM prog (.box 26 (.tmp 0)) 0 [a0] (fun v2=>
 kF 26 0 v2 fun v8=>
 kL 23 v8 fun v9=>
 kF 26 1 v2 fun v10=>
 kL 24 v10 fun v11=>
 a0a prog 81 #[v9,v11,a1] fun v13=>
 kE 0 3 v13 fun v14=>
 kE 1 4 v13 fun v15=>
 K v14) w
theorem d8g (h:f6j a0 a1 K w):a0a prog 160 #[a0,a1] K w:=
 cZ (fun _=>0) func160 h
def f6k (a0:Value) (K:VK) (w:World):Prop:=
 oM prog (.buildSlice 24 1 #[(0,(.tmp 0))]) 24 [(.int .i64 1)] (fun v3=>
 oM prog (.call (Go.Call.mk (.builtin .append) #[(.tmp 0),(.tmp 1)] #[24,24])) 24 [v3,a0] fun v5=>
 K v5) w
theorem d8h (h:f6k a0 K w):a0a prog 161 #[a0] K w:=
 cZ (fun _=>0) func161 h
def f6l (a0 a1 a2:Value) (K:VK) (w:World):Prop:=
 oM prog (.box 26 (.tmp 0)) 0 [a0] (fun v3=>
 kN 24 a1 fun v9=>
 kB .neq 3 4 v9 a2 fun v11=>
 kO v11 (K (.bool false))
 (kQ [(.bool false),(.int .i64 0)] fun J_4 m_5 l_6 u_l_6 w0_l_6=>(fun w=>(
 kN 24 a1 (fun v14=>
 kB .lss 3 4 (l_6.getD 1 undef) v14 fun v15=>
 kO v15 (kH fun C_9 w=>(((true:Bool) = true) ∧ (a0g a1 C_9 fun v18=>
 a0g (l_6.getD 1 undef) C_9 fun v19=>
 jI 24 v18 v19 C_9 fun v20=>
 jL 3 v20 C_9 fun v21=>
 jF 26 0 v3 C_9 fun v22=>
 jF 23 1 v22 C_9 fun v23=>
 jL 3 v23 C_9 fun v24=>
 jB .sub 3 3 v24 (.int .i64 1) C_9 fun v25=>
 ∃ S_18:World → WK,∀ w,C_9 w → (
 a0a prog 163 #[v21,(.int .i64 0),v25] (fun v26=>
 kU v26 fun v27=>
 kO v27 (K (.bool false))
 (kB .add 3 3 (l_6.getD 1 undef) (.int .i64 1) fun v17=>
 kJ J_4 m_5 l_6 w0_l_6 [(l_6.getD 0 undef),v17])) w))))
 (K (.bool true))) w)) w0_l_6)) w
theorem d8i (h:f6l a0 a1 a2 K w):a0a prog 215 #[a0,a1,a2] K w:=
 cZ (fun _=>(fz 8 0 2)) func215 h
def f6m (a0 a1:Value) (K:VK) (w:World):Prop:=
 oM prog (.box 26 (.tmp 0)) 0 [a0] (fun v2=>
 kL 26 v2 fun v5=>
 a0a prog 76 #[v5] fun v6=>
 kU v6 fun v7 w=>
 gF v7 (kL 26 v2) (fun v9 w=>
 gF v7 (a0f a1) (fun v10 w=>
 gF v7 (kF 26 1 v2) (fun v11 w=>
 gF v7 (kL 24 v11) (fun v12 w=>
 gF v7 (kN 24 v12) (fun v13 w=>
 gF v7 (kB .sub 3 3 v13 (.int .i64 1)) (fun v14 w=>
 gF v7 (a0a prog 215 #[v9,v10,v14]) (fun v15 w=>
 gF v7 (kU v15) (fun v16=>
 kP v7 (.bool true) v16 fun v17 w=>
 gF v17 (a0f a1) (fun v19 w=>
 gF v17 (kN 24 v19) (fun v20 w=>
 gF v17 (kC .eql 3 0 4 v20) (fun v21=>
 kP v17 (.bool true) v21 fun v22=>
 kO v22 (K (.bool false))
 (kI 24 a1 (.int .i64 0) fun v24=>
 kL 3 v24 fun v25=>
 kC .neq 3 0 4 v25 fun v26=>
 K v26)) w) w) w) w) w) w) w) w) w) w) w) w
theorem d8j (h:f6m a0 a1 K w):a0a prog 159 #[a0,a1] K w:=
 cZ (fun _=>0) func159 h
def g4g (a0 a1:Value) (K:VK) (w:World):Prop:=
 oM prog (.box 26 (.tmp 0)) 0 [a0] (fun v2=>
 kL 26 v2 fun v5=>
 a0a prog 159 #[v5,a1] fun v7=>
 kU v7 fun v8=>
 kO v8 (K (.int .i64 0))
 (kH fun C_5 w=>(((true:Bool) = true) ∧ (jL 26 v2 C_5 fun v9=>
 a0g a1 C_5 fun v10=>
 ∃ S_8:World → WK,xR S_8 fun R_9=>
 (∀ w,C_5 w → (a0a prog 161 #[v10] (xK C_5 S_8 R_9 w) w)) ∧
 (∀ w,C_5 w → ∀ v11,R_9 v11 w → (
 a0a prog 160 #[v9,v11] (fun v12=>
 K v12) w)))))) w
theorem e8a (h:g4g a0 a1 K w):a0a prog 80 #[a0,a1] K w:=
 cZ (fun _=>(fz 2 1 2)) func80 h
def g4h (a0 a1:Value) (K:VK) (w:World):Prop:=
 oM prog (.box 26 (.tmp 0)) 0 [a0] (fun v2=>
 oM prog (.box 31 (.tmp 0)) 0 [a1] fun v3=>
 kL 26 v2 fun v7=>
 a0a prog 76 #[v7] fun v8=>
 kU v8 fun v9 w=>
 gF v9 (kF 31 0 v3) (fun v11 w=>
 gF v9 (kL 3 v11) (fun v12 w=>
 gF v9 (kC .eql 3 1 4 v12) (fun v13=>
 kP v9 (.bool true) v13 fun v14 w=>
 gF v14 (kF 31 5 v3) (fun v16 w=>
 gF v14 (kL 3 v16) (fun v17 w=>
 gF v14 (kF 26 0 v2) (fun v18 w=>
 gF v14 (kF 23 1 v18) (fun v19 w=>
 gF v14 (kL 3 v19) (fun v20 w=>
 gF v14 (kB .sub 3 3 v20 (.int .i64 1)) (fun v21 w=>
 gF v14 (a0a prog 163 #[v17,(.int .i64 0),v21]) (fun v22 w=>
 gF v14 (kU v22) (fun v23=>
 kP v14 (.bool true) v23 fun v24=>
 kO v24 (K (.bool false))
 (kF 31 0 v3 fun v25=>
 kL 3 v25 fun v26=>
 kF 31 1 v3 fun v27=>
 kL 3 v27 fun v28=>
 kF 31 2 v3 fun v29=>
 kL 3 v29 fun v30=>
 kF 31 3 v3 fun v31=>
 kL 3 v31 fun v32=>
 kF 31 4 v3 fun v33=>
 kL 3 v33 fun v34=>
 oM prog (.buildSlice 24 5 #[(0,(.tmp 0)),(1,(.tmp 1)),(2,(.tmp 2)),(3,(.tmp 3)),(4,(.tmp 4))]) 24 [v26,v28,v30,v32,v34] fun v35=>
 kQ [(.bool false),(.int .i64 0)] fun J_30 m_31 l_32 u_l_32 w0_l_32=>(fun w=>(
 kN 24 v35 (fun v38=>
 kB .lss 3 4 (l_32.getD 1 undef) v38 fun v39=>
 kO v39 (kH fun C_35 w=>(((true:Bool) = true) ∧ (jF 26 0 v2 C_35 fun v42=>
 jL 23 v42 C_35 fun v43=>
 a0g v35 C_35 fun v44=>
 a0g (l_32.getD 1 undef) C_35 fun v45=>
 jI 24 v44 v45 C_35 fun v46=>
 jL 3 v46 C_35 fun v47=>
 ∃ S_42:World → WK,∀ w,C_35 w → (
 a0a prog 164 #[v43,v47] (fun v48=>
 kU v48 fun v49=>
 kO v49 (K (.bool false))
 (kB .add 3 3 (l_32.getD 1 undef) (.int .i64 1) fun v41=>
 kJ J_30 m_31 l_32 w0_l_32 [(l_32.getD 0 undef),v41])) w))))
 (K (.bool true))) w)) w0_l_32)) w) w) w) w) w) w) w) w) w) w) w) w
theorem e8b (h:g4h a0 a1 K w):a0a prog 82 #[a0,a1] K w:=
 cZ (fun _=>(fz 6 0 2)) func82 h
variable {a0 a1:Value} {K:VK} {w:World}
def g4a (a0:Value) (K:VK) (w:World):Prop:=
 oM prog (.build 186 #[(0,(.tmp 0))]) 186 [a0] (fun v4=>
 oM prog (.box 186 (.tmp 0)) 104 [v4] fun v5=>
 K v5) w
theorem e7u (h:g4a a0 K w):a0a prog 55 #[a0] K w:=
 cZ (fun _=>0) func55 h
def g4b (a0:Value) (K:VK) (w:World):Prop:=
 a0a prog 132 #[a0,(.int .u8 91)] (fun v7=>
 kQ [(.slice none 0 0),(.int .i64 0)] fun J_2 m_3 l_4 u_l_4 w0_l_4=>(fun w=>(
 kB .lss 3 4 (l_4.getD 1 undef) v7 (fun v10 w=>
 gT v10 (a0f a0) (fun v12 w=>
 gT v10 (oM prog (.nilCheck (.tmp 0)) 0 [v12]) (fun v13 w=>
 gT v10 (kF 186 1 v13) (fun v14 w=>
 gT v10 (kL 4 v14) (fun v15 w=>
 gT v10 (kU v15) (fun v16=>
 kP v10 v16 (.bool false) fun v17=>
 kO v17 (a0a prog 59 #[a0] fun v22=>
 oM prog (.buildSlice 24 1 #[(0,(.tmp 0))]) 24 [v22] fun v23=>
 oM prog (.call (Go.Call.mk (.builtin .append) #[(.tmp 0),(.tmp 1)] #[24,24])) 24 [(l_4.getD 0 undef),v23] fun v24=>
 kB .add 3 3 (l_4.getD 1 undef) (.int .i64 1) fun v19=>
 kJ J_2 m_3 l_4 w0_l_4 [v24,v19])
 (oM prog (.nilCheck (.tmp 0)) 0 [a0] fun v26=>
 kF 186 1 v26 fun v27=>
 kL 4 v27 fun v28 w=>
 gF v28 (a0f a0) (fun v30 w=>
 gF v28 (a0a prog 133 #[v30,(.int .u8 93)]) (fun v31 w=>
 gF v28 (kU v31) (fun v32=>
 kP v28 (.bool true) v32 fun v33=>
 kO v33 (K (.slice none 0 0))
 (K (l_4.getD 0 undef))) w) w) w)) w) w) w) w) w) w)) w0_l_4) w
theorem e7v (h:g4b a0 K w):a0a prog 56 #[a0] K w:=
 cZ (fun _=>0) func56 h
def g4c (a0:Value) (K:VK) (w:World):Prop:=
 a0a prog 132 #[a0,(.int .u8 59)] (fun v4=>
 K v4) w
theorem e7w (h:g4c a0 K w):a0a prog 58 #[a0] K w:=
 cZ (fun _=>0) func58 h
def g4d (a0:Value) (K:VK) (w:World):Prop:=
 a0a prog 134 #[a0,(.int .u8 59)] (fun v4=>
 K v4) w
theorem e7x (h:g4d a0 K w):a0a prog 59 #[a0] K w:=
 cZ (fun _=>0) func59 h
def g4e (a0:Value) (K:VK) (w:World):Prop:=
 a0a prog 132 #[a0,(.int .u8 58)] (fun v6=>
 oM prog (.nilCheck (.tmp 0)) 0 [a0] fun v8=>
 kF 186 1 v8 fun v9=>
 kL 4 v9 fun v10 w=>
 gF v10 (a0f v6) (fun v12 w=>
 gF v10 (a0f a0) (fun v13 w=>
 gF v10 (oM prog (.nilCheck (.tmp 0)) 0 [v13]) (fun v14 w=>
 gF v10 (kF 186 0 v14) (fun v15 w=>
 gF v10 (kL 9 v15) (fun v16 w=>
 gF v10 (kN 9 v16) (fun v17 w=>
 gF v10 (kB .geq 3 4 v12 v17) (fun v18=>
 kP v10 (.bool true) v18 fun v19=>
 kO v19 (a0a prog 135 #[a0] fun v21=>
 K (.string ⟨#[]⟩))
 (oM prog (.nilCheck (.tmp 0)) 0 [a0] fun v23=>
 kF 186 0 v23 fun v24=>
 kL 9 v24 fun v25=>
 oM prog (.slice 9 (.tmp 0) none (some (.tmp 1)) none) 9 [v25,v6] fun v27=>
 oM prog (.nilCheck (.tmp 0)) 0 [a0] fun v30=>
 kF 186 0 v30 fun v31=>
 kL 9 v31 fun v32=>
 oM prog (.slice 9 (.tmp 0) (some (.tmp 1)) none none) 9 [v32,v6] fun v34=>
 oM prog (.nilCheck (.tmp 0)) 0 [a0] fun v35=>
 kF 186 0 v35 fun v36=>
 kS 9 v36 v34 fun _=>
 a0a prog 133 #[a0,(.int .u8 44)] fun v38=>
 kU v38 fun v39=>
 kO v39 (K (.string ⟨#[]⟩))
 (K v27))) w) w) w) w) w) w) w) w
theorem e7y (h:g4e a0 K w):a0a prog 60 #[a0] K w:=
 cZ (fun _=>0) func60 h
def g4f (a0:Value) (K:VK) (w:World):Prop:=
 oM prog (.nilCheck (.tmp 0)) 0 [a0] (fun v4=>
 kF 186 1 v4 fun v5=>
 kL 4 v5 fun v6=>
 kU v6 fun v7 w=>
 gT v7 (a0f a0) (fun v9 w=>
 gT v7 (oM prog (.nilCheck (.tmp 0)) 0 [v9]) (fun v10 w=>
 gT v7 (kF 186 0 v10) (fun v11 w=>
 gT v7 (kL 9 v11) (fun v12 w=>
 gT v7 (oM prog (.binOp .eql 9 (.tmp 0) (.const (.string ⟨#[]⟩)) 9) 4 [v12]) (fun v13=>
 kP v7 v13 (.bool false) fun v14=>
 K v14) w) w) w) w) w) w
theorem e7z (h:g4f a0 K w):a0a prog 61 #[a0] K w:=
 cZ (fun _=>0) func61 h
def f6d (a0 a1:Value) (K:VK) (w:World):Prop:=
 a0a prog 134 #[a0,a1] (fun v8=>
 kB .lss 3 4 v8 (.int .i64 0) fun v10=>
 kO v10 (a0a prog 135 #[a0] fun v12=>
 K v12)
 (K v8)) w
theorem d8a (h:f6d a0 a1 K w):a0a prog 132 #[a0,a1] K w:=
 cZ (fun _=>0) func132 h
def f6e (a0 a1:Value) (K:VK) (w:World):Prop:=
 oM prog (.nilCheck (.tmp 0)) 0 [a0] (fun v6=>
 kF 186 0 v6 fun v7=>
 kL 9 v7 fun v8=>
 kN 9 v8 fun v9=>
 kC .eql 3 0 4 v9 fun v10=>
 kO v10 (a0a prog 135 #[a0] fun v12=>
 K (.bool false))
 (oM prog (.nilCheck (.tmp 0)) 0 [a0] fun v14=>
 kF 186 0 v14 fun v15=>
 kL 9 v15 fun v16=>
 oM prog (.index 9 (.tmp 0) (.tmp 1)) 5 [v16,(.int .i64 0)] fun v17=>
 kB .neq 5 4 v17 a1 fun v19=>
 kO v19 (a0a prog 135 #[a0] fun v21=>
 K (.bool false))
 (oM prog (.nilCheck (.tmp 0)) 0 [a0] fun v24=>
 kF 186 0 v24 fun v25=>
 kL 9 v25 fun v26=>
 oM prog (.slice 9 (.tmp 0) (some (.tmp 1)) none none) 9 [v26,(.int .i64 1)] fun v27=>
 oM prog (.nilCheck (.tmp 0)) 0 [a0] fun v28=>
 kF 186 0 v28 fun v29=>
 kS 9 v29 v27 fun _=>
 K (.bool true)))) w
theorem d8b (h:f6e a0 a1 K w):a0a prog 133 #[a0,a1] K w:=
 cZ (fun _=>0) func133 h
def f6f (a0 a1:Value) (K:VK) (w:World):Prop:=
 kQ [(.int .i64 0)] (fun J_1 m_2 l_3 u_l_3 w0_l_3=>(fun w=>(
 oM prog (.nilCheck (.tmp 0)) 0 [a0] (fun v10=>
 kF 186 0 v10 fun v11=>
 kL 9 v11 fun v12=>
 kN 9 v12 fun v13=>
 kB .lss 3 4 (l_3.getD 0 undef) v13 fun v14 w=>
 gT v14 (a0f (l_3.getD 0 undef)) (fun v16 w=>
 gT v14 (kB .lss 3 4 v16 (.int .i64 21)) (fun v17=>
 kP v14 v17 (.bool false) fun v18 w=>
 gT v18 (a0f a0) (fun v20 w=>
 gT v18 (oM prog (.nilCheck (.tmp 0)) 0 [v20]) (fun v21 w=>
 gT v18 (kF 186 0 v21) (fun v22 w=>
 gT v18 (kL 9 v22) (fun v23 w=>
 gT v18 (a0f (l_3.getD 0 undef)) (fun v24 w=>
 gT v18 (oM prog (.index 9 (.tmp 0) (.tmp 1)) 5 [v23,v24]) (fun v25 w=>
 gT v18 (a0f a1) (fun v26 w=>
 gT v18 (kB .neq 5 4 v25 v26) (fun v27=>
 kP v18 v27 (.bool false) fun v28=>
 kO v28 (kB .add 3 3 (l_3.getD 0 undef) (.int .i64 1) fun v30=>
 kJ J_1 m_2 l_3 w0_l_3 [v30])
 (oM prog (.nilCheck (.tmp 0)) 0 [a0] fun v33=>
 kF 186 0 v33 fun v34=>
 kL 9 v34 fun v35=>
 kN 9 v35 fun v36=>
 kB .geq 3 4 (l_3.getD 0 undef) v36 fun v37=>
 kO v37 (a0a prog 135 #[a0] fun v39=>
 K v39)
 (oM prog (.nilCheck (.tmp 0)) 0 [a0] fun v41=>
 kF 186 0 v41 fun v42=>
 kL 9 v42 fun v43=>
 oM prog (.index 9 (.tmp 0) (.tmp 1)) 5 [v43,(l_3.getD 0 undef)] fun v45=>
 kB .neq 5 4 v45 a1 fun v47=>
 kO v47 (a0a prog 135 #[a0] fun v49=>
 K v49)
 (oM prog (.nilCheck (.tmp 0)) 0 [a0] fun v52=>
 kF 186 0 v52 fun v53=>
 kL 9 v53 fun v54=>
 oM prog (.slice 9 (.tmp 0) none (some (.tmp 1)) none) 9 [v54,(l_3.getD 0 undef)] fun v56=>
 a0a prog 199 #[v56] fun v57=>
 kE 0 3 v57 fun v58=>
 kE 1 4 v57 fun v59=>
 kU v59 fun v61=>
 kO v61 (a0a prog 135 #[a0] fun v63=>
 K v63)
 (oM prog (.nilCheck (.tmp 0)) 0 [a0] fun v66=>
 kF 186 0 v66 fun v67=>
 kL 9 v67 fun v68=>
 kB .add 3 3 (l_3.getD 0 undef) (.int .i64 1) fun v70=>
 oM prog (.slice 9 (.tmp 0) (some (.tmp 1)) none none) 9 [v68,v70] fun v71=>
 oM prog (.nilCheck (.tmp 0)) 0 [a0] fun v72=>
 kF 186 0 v72 fun v73=>
 kS 9 v73 v71 fun _=>
 K v58))))) w) w) w) w) w) w) w) w) w) w) w)) w0_l_3) w
theorem d8c (h:f6f a0 a1 K w):a0a prog 134 #[a0,a1] K w:=
 cZ (fun _=>0) func134 h
def f6g (a0:Value) (K:VK) (w:World):Prop:=
 oM prog (.nilCheck (.tmp 0)) 0 [a0] (fun v4=>
 kF 186 0 v4 fun v5=>
 oM prog (.store 9 (.tmp 0) (.tmp 1)) 0 [v5,(.string ⟨#[]⟩)] fun _=>
 oM prog (.nilCheck (.tmp 0)) 0 [a0] fun v7=>
 kF 186 1 v7 fun v8=>
 kS 4 v8 (.bool true) fun _=>
 K (.int .i64 0)) w
theorem d8d (h:f6g a0 K w):a0a prog 135 #[a0] K w:=
 cZ (fun _=>0) func135 h
def f6h (a0:Value) (K:VK) (w:World):Prop:=
 a5u (fun M_1=>(kN 9 a0 (fun v8=>
 kB .gtr 3 4 v8 (.int .i64 0) fun v9 w=>
 gT v9 (a0f a0) (fun v11 w=>
 gT v9 (oM prog (.index 9 (.tmp 0) (.tmp 1)) 5 [v11,(.int .i64 0)]) (fun v12 w=>
 gT v9 (oM prog (.binOp .eql 5 (.tmp 0) (.const (.int .u8 45)) 5) 4 [v12]) (fun v13=>
 kP v9 v13 (.bool false) fun v14=>
 kO v14 (M_1 [(.int .i64 1)])
 (M_1 [(.int .i64 0)])) w) w) w) w))
 fun l_2 u_l_2 w=>(kQ [(.int .i64 0),(.bool false),(.int .i64 0),(l_2.getD 0 undef)] (fun J_9 m_10 l_11 u_l_11 w0_l_11=>(fun w=>(
 kN 9 a0 (fun v18=>
 kB .lss 3 4 (l_11.getD 3 undef) v18 fun v19 w=>
 a2c v19
 (oM prog (.index 9 (.tmp 0) (.tmp 1)) 5 [a0,(l_11.getD 3 undef)] (fun v24=>
 kB .lss 5 4 v24 (.int .u8 48) fun v25 w=>
 gF v25 (a0f a0) (fun v27 w=>
 gF v25 (a0f (l_11.getD 3 undef)) (fun v28 w=>
 gF v25 (oM prog (.index 9 (.tmp 0) (.tmp 1)) 5 [v27,v28]) (fun v29 w=>
 gF v25 (kB .gtr 5 4 v29 (.int .u8 57)) (fun v30=>
 kP v25 (.bool true) v30 fun v31 w=>
 gF v31 (a0f (l_11.getD 3 undef)) (fun v33 w=>
 gF v31 (kB .gtr 3 4 v33 (.int .i64 20)) (fun v34=>
 kP v31 (.bool true) v34 fun v35=>
 kO v35 (K (.tuple #[(.int .i64 0),(.bool false)]))
 (kB .mul 3 3 (.int .i64 10) (l_11.getD 2 undef) fun v37=>
 oM prog (.index 9 (.tmp 0) (.tmp 1)) 5 [a0,(l_11.getD 3 undef)] fun v40=>
 kB .sub 5 5 v40 (.int .u8 48) fun v41=>
 oM prog (.convert 5 3 (.tmp 0)) 3 [v41] fun v42=>
 kB .sub 3 3 v37 v42 fun v43=>
 kB .add 3 3 (l_11.getD 3 undef) (.int .i64 1) fun v21=>
 kJ J_9 m_10 l_11 w0_l_11 [(l_11.getD 0 undef),(l_11.getD 1 undef),v43,v21])) w) w) w) w) w) w) w)
 (a5u (fun M_30=>(kC .eql 3 0 4 (l_2.getD 0 undef) (fun v45=>
 kO v45 (oM prog (.unOp .neg 3 (.tmp 0)) 3 [(l_11.getD 2 undef)] fun v47=>
 M_30 [v47])
 (M_30 [(l_11.getD 2 undef)])) w))
 fun l_31 u_l_31 w=>(a0a prog 88 #[(l_31.getD 0 undef)] (fun v50=>
 oM prog (.binOp .add 9 (.tmp 0) (.tmp 1) 9) 9 [a0,(.string ⟨#[59]⟩)] fun v52=>
 kB .eql 9 4 v50 v52 fun v53=>
 K (.tuple #[(l_31.getD 0 undef),v53])) w))) w)) w0_l_11) w)
theorem d8e (h:f6h a0 K w):a0a prog 199 #[a0] K w:=
 cZ (fun _=>0) func199 h
variable {a0 a1 a2:Value} {K:VK} {w:World}
def g4i (a0 a1 a2:Value) (K:VK) (w:World):Prop:=
 kB .geq 3 4 a0 a1 (fun v9 w=>
 gT v9 (a0f a0) (fun v11 w=>
 gT v9 (a0f a2) (fun v12 w=>
 gT v9 (kB .leq 3 4 v11 v12) (fun v13=>
 kP v9 v13 (.bool false) fun v14=>
 K v14) w) w) w) w
theorem e8c (h:g4i a0 a1 a2 K w):a0a prog 51 #[a0,a1,a2] K w:=
 cZ (fun _=>0) func51 h
def h1n (a0:Value) (K:VK) (w:World):Prop:=
 oM prog (.box 40 (.tmp 0)) 0 [a0] (fun v1=>
 kF 40 0 v1 fun v3=>
 kL 3 v3 fun v4=>
 a0a prog 51 #[v4,(.int .i64 1),(.int .i64 4096)] fun v5 w=>
 gT v5 (kF 40 1 v1) (fun v7 w=>
 gT v5 (kL 3 v7) (fun v8 w=>
 gT v5 (a0a prog 51 #[v8,(.int .i64 0),(.int .i64 2147483648)]) (fun v9=>
 kP v5 v9 (.bool false) fun v10 w=>
 gT v10 (kF 40 2 v1) (fun v12 w=>
 gT v10 (kL 3 v12) (fun v13 w=>
 gT v10 (a0a prog 51 #[v13,(.int .i64 (-1)),(.int .i64 23)]) (fun v14=>
 kP v10 v14 (.bool false) fun v15=>
 K v15) w) w) w) w) w) w) w
theorem f9e (h:h1n a0 K w):a0a prog 9 #[a0] K w:=
 cZ (fun _=>0) func9 h
def g4j (a0 a1:Value) (K:VK) (w:World):Prop:=
 oM prog (.box 40 (.tmp 0)) 0 [a0] (fun v2=>
 kL 40 v2 fun v5=>
 a0a prog 9 #[v5] fun v6=>
 kU v6 fun v7 w=>
 gF v7 (a0f a1) (fun v9 w=>
 gF v7 (a0a prog 51 #[v9,(.int .i64 0),(.int .i64 2147483648)]) (fun v10 w=>
 gF v7 (kU v10) (fun v11=>
 kP v7 (.bool true) v11 fun v12=>
 kO v12 (K (.int .i64 (-1)))
 (kF 40 1 v2 fun v13=>
 kL 3 v13 fun v14=>
 kC .eql 3 0 4 v14 fun v15=>
 kO v15 (K (.int .i64 0))
 (kF 40 1 v2 fun v17=>
 kL 3 v17 fun v18=>
 oM prog (.call (Go.Call.mk (.builtin .max) #[(.tmp 0),(.tmp 1)] #[3,3])) 3 [v18,(.int .i64 1)] fun v19=>
 kB .quo 3 3 a1 v19 fun v20=>
 K v20))) w) w) w) w
theorem e8d (h:g4j a0 a1 K w):a0a prog 11 #[a0,a1] K w:=
 cZ (fun _=>0) func11 h
def g4k (a0 a1:Value) (K:VK) (w:World):Prop:=
 oM prog (.box 40 (.tmp 0)) 0 [a0] (fun v2=>
 kL 40 v2 fun v5=>
 a0a prog 9 #[v5] fun v6=>
 kU v6 fun v7 w=>
 gF v7 (a0f a1) (fun v9 w=>
 gF v7 (a0a prog 51 #[v9,(.int .i64 0),(.int .i64 2147483648)]) (fun v10 w=>
 gF v7 (kU v10) (fun v11=>
 kP v7 (.bool true) v11 fun v12 w=>
 gF v12 (a0f a1) (fun v14 w=>
 gF v12 (kF 40 1 v2) (fun v15 w=>
 gF v12 (kL 3 v15) (fun v16 w=>
 gF v12 (kB .mul 3 3 v14 v16) (fun v17 w=>
 gF v12 (kB .gtr 3 4 v17 (.int .i64 2147483648)) (fun v18=>
 kP v12 (.bool true) v18 fun v19=>
 kO v19 (K (.int .i64 (-1)))
 (kF 40 1 v2 fun v21=>
 kL 3 v21 fun v22=>
 kB .mul 3 3 a1 v22 fun v23=>
 K v23)) w) w) w) w) w) w) w) w) w
theorem e8e (h:g4k a0 a1 K w):a0a prog 13 #[a0,a1] K w:=
 cZ (fun _=>0) func13 h
def g4l (a0:Value) (K:VK) (w:World):Prop:=
 oM prog (.box 31 (.tmp 0)) 0 [a0] (fun v1=>
 kF 31 0 v1 fun v3=>
 kL 3 v3 fun v4=>
 kF 31 1 v1 fun v5=>
 kL 3 v5 fun v6=>
 kF 31 2 v1 fun v7=>
 kL 3 v7 fun v8=>
 kF 31 3 v1 fun v9=>
 kL 3 v9 fun v10=>
 kF 31 4 v1 fun v11=>
 kL 3 v11 fun v12=>
 kF 31 5 v1 fun v13=>
 kL 3 v13 fun v14=>
 oM prog (.buildSlice 24 6 #[(0,(.tmp 0)),(1,(.tmp 1)),(2,(.tmp 2)),(3,(.tmp 3)),(4,(.tmp 4)),(5,(.tmp 5))]) 24 [v4,v6,v8,v10,v12,v14] fun v15=>
 K v15) w
theorem e8f (h:g4l a0 K w):a0a prog 87 #[a0] K w:=
 cZ (fun _=>0) func87 h
def g4m (a0 a1 a2:Value) (K:VK) (w:World):Prop:=
 kQ [(.bool false),(.int .i64 0)] (fun J_1 m_2 l_3 u_l_3 w0_l_3=>(fun w=>(
 kN 24 a0 (fun v10=>
 kB .lss 3 4 (l_3.getD 1 undef) v10 fun v11=>
 kO v11 (kI 24 a0 (l_3.getD 1 undef) fun v16=>
 kL 3 v16 fun v17=>
 a0a prog 51 #[v17,a1,a2] fun v20=>
 kU v20 fun v21=>
 kO v21 (K (.bool false))
 (kB .add 3 3 (l_3.getD 1 undef) (.int .i64 1) fun v13=>
 kJ J_1 m_2 l_3 w0_l_3 [(l_3.getD 0 undef),v13]))
 (K (.bool true))) w)) w0_l_3) w
theorem e8g (h:g4m a0 a1 a2 K w):a0a prog 78 #[a0,a1,a2] K w:=
 cZ (fun _=>0) func78 h
def g4n (a0:Value) (K:VK) (w:World):Prop:=
 kN 32 a0 (fun v5=>
 kB .gtr 3 4 v5 (.int .i64 4) fun v6=>
 kO v6 (K (.bool false))
 (kQ [(.bool false),(.int .i64 0)] fun J_3 m_4 l_5 u_l_5 w0_l_5=>(fun w=>(
 kN 32 a0 (fun v9=>
 kB .lss 3 4 (l_5.getD 1 undef) v9 fun v10=>
 kO v10 (kI 32 a0 (l_5.getD 1 undef) fun v15=>
 kF 95 2 v15 fun v16=>
 kL 9 v16 fun v17=>
 kN 9 v17 fun v18=>
 kB .gtr 3 4 v18 (.int .i64 200) fun v19 w=>
 gF v19 (a0f a0) (fun v21 w=>
 gF v19 (a0f (l_5.getD 1 undef)) (fun v22 w=>
 gF v19 (kI 32 v21 v22) (fun v23 w=>
 gF v19 (kF 95 1 v23) (fun v24 w=>
 gF v19 (kF 84 1 v24) (fun v25 w=>
 gF v19 (kL 24 v25) (fun v26 w=>
 gF v19 (kN 24 v26) (fun v27 w=>
 gF v19 (kB .gtr 3 4 v27 (.int .i64 7)) (fun v28=>
 kP v19 (.bool true) v28 fun v29=>
 kO v29 (K (.bool false))
 (kB .add 3 3 (l_5.getD 1 undef) (.int .i64 1) fun v12=>
 kJ J_3 m_4 l_5 w0_l_5 [(l_5.getD 0 undef),v12])) w) w) w) w) w) w) w) w)
 (K (.bool true))) w)) w0_l_5)) w
theorem e8h (h:g4n a0 K w):a0a prog 77 #[a0] K w:=
 cZ (fun _=>0) func77 h
def g4o (a0 a1 a2:Value) (K:VK) (w:World):Prop:=
 oM prog (.box 26 (.tmp 0)) 0 [a0] (fun v3=>
 oM prog (.box 34 (.tmp 0)) 0 [a2] fun v5=>
 kL 26 v3 fun v12=>
 a0a prog 76 #[v12] fun v13=>
 kU v13 fun v14 w=>
 gF v14 (kF 34 0 v5) (fun v16 w=>
 gF v14 (kL 3 v16) (fun v17 w=>
 gF v14 (a0f a1) (fun v18 w=>
 gF v14 (kN 27 v18) (fun v19 w=>
 gF v14 (kB .sub 3 3 v19 (.int .i64 1)) (fun v20 w=>
 gF v14 (a0a prog 51 #[v17,(.int .i64 0),v20]) (fun v21 w=>
 gF v14 (kU v21) (fun v22=>
 kP v14 (.bool true) v22 fun v23 w=>
 gF v23 (kF 34 1 v5) (fun v25 w=>
 gF v23 (kL 3 v25) (fun v26 w=>
 gF v23 (a0a prog 51 #[v26,(.int .i64 0),(.int .i64 2147483648)]) (fun v27 w=>
 gF v23 (kU v27) (fun v28=>
 kP v23 (.bool true) v28 fun v29 w=>
 gF v29 (kF 34 5 v5) (fun v31 w=>
 gF v29 (kL 32 v31) (fun v32 w=>
 gF v29 (a0a prog 77 #[v32]) (fun v33 w=>
 gF v29 (kU v33) (fun v34=>
 kP v29 (.bool true) v34 fun v35=>
 kO v35 (K (.bool false))
 (kF 26 0 v3 fun v36=>
 kF 23 1 v36 fun v37=>
 kL 3 v37 fun v38=>
 kB .sub 3 3 v38 (.int .i64 1) fun v39=>
 kF 34 3 v5 fun v40=>
 kL 29 v40 fun v41=>
 kA 29 fun v8=>
 kS 29 v8 v41 fun _=>
 kF 34 2 v5 fun v42=>
 kL 24 v42 fun v43=>
 kN 24 v43 fun v44=>
 kF 26 1 v3 fun v45=>
 kL 24 v45 fun v46=>
 kN 24 v46 fun v47=>
 kB .sub 3 3 v47 (.int .i64 1) fun v48=>
 kB .neq 3 4 v44 v48 fun v49 w=>
 gF v49 (kF 34 2 v5) (fun v51 w=>
 gF v49 (kL 24 v51) (fun v52 w=>
 gF v49 (kN 24 v52) (fun v53 w=>
 gF v49 (kC .eql 3 0 4 v53) (fun v54=>
 kP v49 (.bool true) v54 fun v55 w=>
 gF v55 (kF 29 3 v8) (fun v57 w=>
 gF v55 (kL 24 v57) (fun v58 w=>
 gF v55 (kN 24 v58) (fun v59 w=>
 gF v55 (kF 26 1 v3) (fun v60 w=>
 gF v55 (kL 24 v60) (fun v61 w=>
 gF v55 (kN 24 v61) (fun v62 w=>
 gF v55 (kB .neq 3 4 v59 v62) (fun v63=>
 kP v55 (.bool true) v63 fun v64=>
 kO v64 (K (.bool false))
 (kF 34 2 v5 fun v65=>
 kL 24 v65 fun v66=>
 a0a prog 78 #[v66,(.int .i64 0),v39] fun v68=>
 kU v68 fun v69 w=>
 gF v69 (kF 34 2 v5) (fun v71 w=>
 gF v69 (kL 24 v71) (fun v72 w=>
 gF v69 (kI 24 v72 (.int .i64 0)) (fun v73 w=>
 gF v69 (kL 3 v73) (fun v74 w=>
 gF v69 (a0f v39) (fun v75 w=>
 gF v69 (a0a prog 51 #[v74,(.int .i64 1),v75]) (fun v76 w=>
 gF v69 (kU v76) (fun v77=>
 kP v69 (.bool true) v77 fun v78 w=>
 gF v78 (kF 29 0 v8) (fun v80 w=>
 gF v78 (kL 3 v80) (fun v81 w=>
 gF v78 (a0f v39) (fun v82 w=>
 gF v78 (a0a prog 51 #[v81,(.int .i64 1),v82]) (fun v83 w=>
 gF v78 (kU v83) (fun v84=>
 kP v78 (.bool true) v84 fun v85 w=>
 gF v85 (kF 29 1 v8) (fun v87 w=>
 gF v85 (kL 3 v87) (fun v88 w=>
 gF v85 (a0f v39) (fun v89 w=>
 gF v85 (a0a prog 51 #[v88,(.int .i64 1),v89]) (fun v90 w=>
 gF v85 (kU v90) (fun v91=>
 kP v85 (.bool true) v91 fun v92 w=>
 gF v92 (kF 29 2 v8) (fun v94 w=>
 gF v92 (kL 3 v94) (fun v95 w=>
 gF v92 (a0f v39) (fun v96 w=>
 gF v92 (a0a prog 51 #[v95,(.int .i64 0),v96]) (fun v97 w=>
 gF v92 (kU v97) (fun v98=>
 kP v92 (.bool true) v98 fun v99 w=>
 gF v99 (kF 29 3 v8) (fun v101 w=>
 gF v99 (kL 24 v101) (fun v102 w=>
 gF v99 (a0f v39) (fun v103 w=>
 gF v99 (a0a prog 78 #[v102,(.int .i64 0),v103]) (fun v104 w=>
 gF v99 (kU v104) (fun v105=>
 kP v99 (.bool true) v105 fun v106=>
 kO v106 (K (.bool false))
 (kH fun C_88 w=>(((true:Bool) = true) ∧ (jF 26 0 v3 C_88 fun v107=>
 jL 23 v107 C_88 fun v108=>
 jL 26 v3 C_88 fun v109=>
 jF 34 2 v5 C_88 fun v110=>
 jL 24 v110 C_88 fun v111=>
 jF 29 0 v8 C_88 fun v113=>
 jL 3 v113 C_88 fun v114=>
 ∃ S_96:World → WK,xR S_96 fun R_97=>
 (∀ w,C_88 w → (a0a prog 80 #[v109,v111] (xK C_88 S_96 R_97 w) w)) ∧
 (∀ w,C_88 w → ∀ v112,R_97 v112 w → (
 a0a prog 79 #[v108,v112,v114] (fun v115=>
 kF 26 0 v3 fun v117=>
 kL 23 v117 fun v118=>
 kF 26 1 v3 fun v119=>
 kL 24 v119 fun v120=>
 kF 29 3 v8 fun v121=>
 kL 24 v121 fun v122=>
 a0a prog 81 #[v118,v120,v122] fun v123=>
 kE 0 3 v123 fun v124=>
 kE 1 4 v123 fun v125 w=>
 gT v125 (kL 26 v3) (fun v128 w=>
 gT v125 (kF 34 4 v5) (fun v129 w=>
 gT v125 (kL 31 v129) (fun v130 w=>
 gT v125 (a0a prog 82 #[v128,v130]) (fun v131=>
 kP v125 v131 (.bool false) fun v132 w=>
 gT v132 (kF 34 4 v5) (fun v134 w=>
 gT v132 (kF 31 0 v134) (fun v135 w=>
 gT v132 (kL 3 v135) (fun v136 w=>
 gT v132 (a0f v115) (fun v137 w=>
 gT v132 (kB .eql 3 4 v136 v137) (fun v138=>
 kP v132 v138 (.bool false) fun v139 w=>
 gT v139 (kF 34 4 v5) (fun v141 w=>
 gT v139 (kF 31 1 v141) (fun v142 w=>
 gT v139 (kL 3 v142) (fun v143 w=>
 gT v139 (a0f v124) (fun v144 w=>
 gT v139 (kB .eql 3 4 v143 v144) (fun v145=>
 kP v139 v145 (.bool false) fun v146=>
 K v146) w) w) w) w) w) w) w) w) w) w) w) w) w) w) w)))))) w) w) w) w) w) w) w) w) w) w) w) w) w) w) w) w) w) w) w) w) w) w) w) w) w) w) w)) w) w) w) w) w) w) w) w) w) w) w)) w) w) w) w) w) w) w) w) w) w) w) w) w) w) w) w
theorem e8i (h:g4o a0 a1 a2 K w):a0a prog 22 #[a0,a1,a2] K w:=
 cZ (fun _=>.free [0,1,2,3,4,6,7] [5] [8,9]) func22 h
def g4p (a0:Value) (K:VK) (w:World):Prop:=
 oM prog (.box 34 (.tmp 0)) 0 [a0] (fun v1=>
 kF 34 3 v1 fun v7=>
 kL 29 v7 fun v8=>
 kA 29 fun v3=>
 kS 29 v3 v8 fun _=>
 kH fun C_5 w=>(((true:Bool) = true) ∧ (jF 34 0 v1 C_5 fun v9=>
 jL 3 v9 C_5 fun v10=>
 jF 34 1 v1 C_5 fun v11=>
 jL 3 v11 C_5 fun v12=>
 jF 34 2 v1 C_5 fun v15=>
 jL 24 v15 C_5 fun v16=>
 jF 29 0 v3 C_5 fun v19=>
 jL 3 v19 C_5 fun v20=>
 jF 29 1 v3 C_5 fun v21=>
 jL 3 v21 C_5 fun v22=>
 jF 29 2 v3 C_5 fun v23=>
 jL 3 v23 C_5 fun v24=>
 jF 29 3 v3 C_5 fun v28=>
 jL 24 v28 C_5 fun v29=>
 jF 34 4 v1 C_5 fun v32=>
 jL 31 v32 C_5 fun v33=>
 jF 34 5 v1 C_5 fun v37=>
 jL 32 v37 C_5 fun v38=>
 jN 32 v38 C_5 fun v39=>
 ∃ S_25:World → WK,xR S_25 fun R_26=>
 (∀ w,C_5 w → (oM prog (.buildSlice 24 2 #[(0,(.tmp 0)),(1,(.tmp 1))]) 24 [v10,v12] (xK C_5 S_25 R_26 w) w)) ∧
 (xR S_25 fun R_27=>
 (∀ w,C_5 w → ∀ v13,R_26 v13 w → (a0a prog 86 #[v13] (xK C_5 S_25 R_27 w) w)) ∧
 (xR S_25 fun R_29=>
 (∀ w,C_5 w → (a0a prog 86 #[v16] (xK C_5 S_25 R_29 w) w)) ∧
 (xR S_25 fun R_30=>
 (∀ w,C_5 w → ∀ v14,R_27 v14 w → ∀ v17,R_29 v17 w → (kB .add 9 9 v14 v17 (xK C_5 S_25 R_30 w) w)) ∧
 (xR S_25 fun R_33=>
 (∀ w,C_5 w → (oM prog (.buildSlice 24 3 #[(0,(.tmp 0)),(1,(.tmp 1)),(2,(.tmp 2))]) 24 [v20,v22,v24] (xK C_5 S_25 R_33 w) w)) ∧
 (xR S_25 fun R_34=>
 (∀ w,C_5 w → ∀ v25,R_33 v25 w → (a0a prog 86 #[v25] (xK C_5 S_25 R_34 w) w)) ∧
 (xR S_25 fun R_36=>
 (∀ w,C_5 w → ∀ v18,R_30 v18 w → ∀ v26,R_34 v26 w → (kB .add 9 9 v18 v26 (xK C_5 S_25 R_36 w) w)) ∧
 (xR S_25 fun R_39=>
 (∀ w,C_5 w → (a0a prog 86 #[v29] (xK C_5 S_25 R_39 w) w)) ∧
 (xR S_25 fun R_40=>
 (∀ w,C_5 w → ∀ v27,R_36 v27 w → ∀ v30,R_39 v30 w → (kB .add 9 9 v27 v30 (xK C_5 S_25 R_40 w) w)) ∧
 (xR S_25 fun R_43=>
 (∀ w,C_5 w → (a0a prog 87 #[v33] (xK C_5 S_25 R_43 w) w)) ∧
 (xR S_25 fun R_44=>
 (∀ w,C_5 w → ∀ v34,R_43 v34 w → (a0a prog 86 #[v34] (xK C_5 S_25 R_44 w) w)) ∧
 (xR S_25 fun R_46=>
 (∀ w,C_5 w → ∀ v31,R_40 v31 w → ∀ v35,R_44 v35 w → (kB .add 9 9 v31 v35 (xK C_5 S_25 R_46 w) w)) ∧
 (xR S_25 fun R_49=>
 (∀ w,C_5 w → (a0a prog 67 #[v39] (xK C_5 S_25 R_49 w) w)) ∧
 (∀ w,C_5 w → ∀ v13,R_26 v13 w → ∀ v14,R_27 v14 w → ∀ v17,R_29 v17 w → ∀ v18,R_30 v18 w → ∀ v25,R_33 v25 w → ∀ v26,R_34 v26 w → ∀ v27,R_36 v27 w → ∀ v30,R_39 v30 w → ∀ v31,R_40 v31 w → ∀ v34,R_43 v34 w → ∀ v35,R_44 v35 w → ∀ v36,R_46 v36 w → ∀ v40,R_49 v40 w → (
 kB .add 9 9 v36 v40 (fun v41=>
 kQ [v41,(.int .i64 0)] fun J_64 m_65 l_66 u_l_66 w0_l_66=>(fun w=>(
 kF 34 5 v1 (fun v43=>
 kL 32 v43 fun v44=>
 kN 32 v44 fun v45=>
 kB .lss 3 4 (l_66.getD 1 undef) v45 fun v46=>
 kO v46 (kF 34 5 v1 fun v49=>
 kL 32 v49 fun v50=>
 kI 32 v50 (l_66.getD 1 undef) fun v52=>
 kL 95 v52 fun v53=>
 kA 95 fun v6=>
 kS 95 v6 v53 fun _=>
 kH fun C_76 w=>(((true:Bool) = true) ∧ (a0g (l_66.getD 0 undef) C_76 fun v54=>
 jF 95 0 v6 C_76 fun v55=>
 jL 31 v55 C_76 fun v56=>
 jF 95 1 v6 C_76 fun v60=>
 jF 84 0 v60 C_76 fun v61=>
 jL 3 v61 C_76 fun v62=>
 jF 95 1 v6 C_76 fun v65=>
 jF 84 1 v65 C_76 fun v66=>
 jL 24 v66 C_76 fun v67=>
 jF 95 2 v6 C_76 fun v70=>
 jL 9 v70 C_76 fun v71=>
 ∃ S_88:World → WK,xR S_88 fun R_89=>
 (∀ w,C_76 w → (a0a prog 87 #[v56] (xK C_76 S_88 R_89 w) w)) ∧
 (xR S_88 fun R_90=>
 (∀ w,C_76 w → ∀ v57,R_89 v57 w → (a0a prog 86 #[v57] (xK C_76 S_88 R_90 w) w)) ∧
 (xR S_88 fun R_92=>
 (∀ w,C_76 w → ∀ v58,R_90 v58 w → (kB .add 9 9 v54 v58 (xK C_76 S_88 R_92 w) w)) ∧
 (xR S_88 fun R_94=>
 (∀ w,C_76 w → (a0a prog 88 #[v62] (xK C_76 S_88 R_94 w) w)) ∧
 (xR S_88 fun R_95=>
 (∀ w,C_76 w → ∀ v59,R_92 v59 w → ∀ v63,R_94 v63 w → (kB .add 9 9 v59 v63 (xK C_76 S_88 R_95 w) w)) ∧
 (xR S_88 fun R_98=>
 (∀ w,C_76 w → (a0a prog 86 #[v67] (xK C_76 S_88 R_98 w) w)) ∧
 (xR S_88 fun R_99=>
 (∀ w,C_76 w → ∀ v64,R_95 v64 w → ∀ v68,R_98 v68 w → (kB .add 9 9 v64 v68 (xK C_76 S_88 R_99 w) w)) ∧
 (xR S_88 fun R_102=>
 (∀ w,C_76 w → (a0a prog 68 #[v71] (xK C_76 S_88 R_102 w) w)) ∧
 (∀ w,C_76 w → ∀ v57,R_89 v57 w → ∀ v58,R_90 v58 w → ∀ v59,R_92 v59 w → ∀ v63,R_94 v63 w → ∀ v64,R_95 v64 w → ∀ v68,R_98 v68 w → ∀ v69,R_99 v69 w → ∀ v72,R_102 v72 w → (
 kB .add 9 9 v69 v72 (fun v73=>
 kB .add 3 3 (l_66.getD 1 undef) (.int .i64 1) fun v48=>
 kJ J_64 m_65 l_66 w0_l_66 [v73,v48]) w))))))))))))
 (K (l_66.getD 0 undef))) w)) w0_l_66) w))))))))))))))))) w
theorem e8j (h:g4p a0 K w):a0a prog 24 #[a0] K w:=
 cZ (mz [(2,.free [0,1,2,3,6,7,10,11,12,13,14,15,19,20,23,24,28,29,30] [4,5,8,9,16,17,18,21,22,25,26,27,31] [32,33]),(7,.free [0,1,2,6,7,8,11,12,13,16,17] [3,4,5,9,10,14,15,18] [19,20])]) func24 h
def g4q (a0:Value) (K:VK) (w:World):Prop:=
 kA 31 (fun v2=>
 kN 24 a0 fun v5=>
 kC .neq 3 6 4 v5 fun v6=>
 kO v6 (oM prog (.build 31 #[]) 31 [] fun v7=>
 kS 31 v2 v7 fun _ w=>
 ∃ r_5,(do loadVar 31 (← asAddr v2):Sem Value).run prog w = .ok r_5 w ∧ K (.tuple #[r_5,(.bool false)]) w)
 (kH fun C_6 w=>(((true:Bool) = true) ∧ (a0g a0 C_6 fun v8=>
 jI 24 v8 (.int .i64 0) C_6 fun v9=>
 jL 3 v9 C_6 fun v10=>
 a0g a0 C_6 fun v11=>
 jI 24 v11 (.int .i64 1) C_6 fun v12=>
 jL 3 v12 C_6 fun v13=>
 a0g a0 C_6 fun v14=>
 jI 24 v14 (.int .i64 2) C_6 fun v15=>
 jL 3 v15 C_6 fun v16=>
 a0g a0 C_6 fun v17=>
 jI 24 v17 (.int .i64 3) C_6 fun v18=>
 jL 3 v18 C_6 fun v19=>
 a0g a0 C_6 fun v20=>
 jI 24 v20 (.int .i64 4) C_6 fun v21=>
 jL 3 v21 C_6 fun v22=>
 a0g a0 C_6 fun v23=>
 jI 24 v23 (.int .i64 5) C_6 fun v24=>
 jL 3 v24 C_6 fun v25=>
 ∃ S_25:World → WK,∀ w,C_6 w → (
 oM prog (.build 31 #[(0,(.tmp 0)),(1,(.tmp 1)),(2,(.tmp 2)),(3,(.tmp 3)),(4,(.tmp 4)),(5,(.tmp 5))]) 31 [v10,v13,v16,v19,v22,v25] (fun v26=>
 kS 31 v2 v26 fun _ w=>
 ∃ r_27,(do loadVar 31 (← asAddr v2):Sem Value).run prog w = .ok r_27 w ∧ K (.tuple #[r_27,(.bool true)]) w) w))))) w
theorem e8k (h:g4q a0 K w):a0a prog 57 #[a0] K w:=
 cZ (fun _=>(fz 18 0 3)) func57 h
def g4r (a0 a1:Value) (K:VK) (w:World):Prop:=
 a0a prog 51 #[a0,(.int .i64 0),(.int .i64 2147483648)] (fun v6=>
 kU v6 fun v7 w=>
 gF v7 (a0f a1) (fun v9 w=>
 gF v7 (kN 9 v9) (fun v10 w=>
 gF v7 (kB .gtr 3 4 v10 (.int .i64 20)) (fun v11=>
 kP v7 (.bool true) v11 fun v12=>
 kO v12 (K (.string ⟨#[]⟩))
 (a0a prog 67 #[a0] fun v14=>
 a0a prog 68 #[a1] fun v16=>
 kB .add 9 9 v14 v16 fun v17=>
 K v17)) w) w) w) w
theorem e8l (h:g4r a0 a1 K w):a0a prog 20 #[a0,a1] K w:=
 cZ (fun _=>0) func20 h
def g4s (a0:Value) (K:VK) (w:World):Prop:=
 a0a prog 55 #[a0] (fun v9=>
 a0a prog 58 #[v9] fun v11=>
 a0a prog 60 #[v9] fun v13=>
 a0a prog 61 #[v9] fun v15=>
 kU v15 fun v16 w=>
 gF v16 (a0f a0) (fun v18 w=>
 gF v16 (oM prog (.binOp .eql 9 (.tmp 0) (.const (.string ⟨#[]⟩)) 9) 4 [v18]) (fun v19=>
 kP v16 (.bool true) v19 fun v20 w=>
 gF v20 (a0f v11) (fun v22 w=>
 gF v20 (a0f v13) (fun v23 w=>
 gF v20 (a0a prog 20 #[v22,v23]) (fun v24 w=>
 gF v20 (a0f a0) (fun v25 w=>
 gF v20 (kB .neq 9 4 v24 v25) (fun v26=>
 kP v20 (.bool true) v26 fun v27=>
 kO v27 (K (.tuple #[(.int .i64 0),(.string ⟨#[]⟩),(.bool false)]))
 (K (.tuple #[v11,v13,(.bool true)]))) w) w) w) w) w) w) w) w
theorem e8m (h:g4s a0 K w):a0a prog 17 #[a0] K w:=
 cZ (fun _=>0) func17 h
def g4t (a0 a1:Value) (K:VK) (w:World):Prop:=
 a0a prog 17 #[a0] (fun v13=>
 kE 0 3 v13 fun v14=>
 kE 1 9 v13 fun v15=>
 kE 2 4 v13 fun v16=>
 a0a prog 17 #[a1] fun v19=>
 kE 0 3 v19 fun v20=>
 kE 1 9 v19 fun v21=>
 kE 2 4 v19 fun v22 w=>
 gT v16 (a0f v22) (fun v25=>
 kP v16 v25 (.bool false) fun v26 w=>
 gT v26 (a0f v14) (fun v28 w=>
 gT v26 (a0f v20) (fun v29 w=>
 gT v26 (kB .leq 3 4 v28 v29) (fun v30=>
 kP v26 v30 (.bool false) fun v31 w=>
 gT v31 (a0f v21) (fun v33 w=>
 gT v31 (oM prog (.binOp .eql 9 (.tmp 0) (.const (.string ⟨#[]⟩)) 9) 4 [v33]) (fun v34 w=>
 gT v31 (a0f v34) (fun v35 w=>
 gF v35 (a0f v15) (fun v36 w=>
 gF v35 (a0f v21) (fun v37 w=>
 gF v35 (kB .eql 9 4 v36 v37) (fun v38 w=>
 gT v31 (kP v35 (.bool true) v38) (fun v39=>
 kP v31 v39 (.bool false) fun v40=>
 K v40) w) w) w) w) w) w) w) w) w) w) w) w
theorem e8n (h:g4t a0 a1 K w):a0a prog 26 #[a0,a1] K w:=
 cZ (fun _=>0) func26 h
end Go.Proofs
namespace PuSpec
open FdSpec TkSpec CodeSpec GrLaw PrSpec
def inM (n lo hi:Int):Bool:=decide (lo ≤ n) && decide (n ≤ hi)
def b9o (s:Stp) (lims:List Lim) (h:Hld):Bool:=
 if !a1u s || !inM h.limit 0 ((lims.length:Int) - 1) || !inM h.window 0 2147483648 || !a7q h.links then false
 else if decide ((h.attrs.length:Int) ≠ (s.bases.length:Int) - 1) || decide (h.attrs.length = 0) || decide (h.bl.ys.length ≠ s.bases.length) then false
 else if !(h.attrs.all fun n=>inM n 0 (s.g.Q - 1)) || !inM (h.attrs.headD 0) 1 (s.g.Q - 1) || !inM h.bl.s 1 (s.g.Q - 1) || !inM h.bl.u 1 (s.g.Q - 1) || !inM h.bl.v 0 (s.g.Q - 1) || !(h.bl.ys.all fun n=>inM n 0 (s.g.Q - 1)) then false
 else (a5t s.g s.bases h.bl.ys).2 && a6f s h.t && decide (h.t.mark = a6i s.g (a7f s h.attrs).1 h.bl.s) && decide (h.t.first = (a5t s.g s.bases h.bl.ys).1)
theorem c7w (n lo hi:Int):inM n lo hi = true ↔ lo ≤ n ∧ n ≤ hi:=by simp [inM]
theorem c0s (q:Int) (l:List Int):a2t q l = true ↔ ∀ n ∈ l,0 ≤ n ∧ n < q:=by
 simp only [a2t,Bool.not_eq_true',List.any_eq_false,Bool.or_eq_true,decide_eq_true_eq,not_or]
 constructor <;> intro h n hn <;> have:=h n hn <;> omega
theorem d2n {s:Stp} {lims:List Lim} {h:Hld}:b9o s lims h = true ↔ validM s lims h = true:=by
 have hm:validM s lims h = true ↔ a1u s = true ∧ (0 ≤ h.limit ∧ h.limit < lims.length) ∧ (0 ≤ h.window ∧ h.window ≤ 2147483648) ∧ a7q h.links = true ∧
   ((h.attrs.length:Int) = (s.bases.length:Int) - 1 ∧ h.attrs.length ≠ 0 ∧ h.bl.ys.length = s.bases.length) ∧ 1 ≤ h.attrs.headD 0 ∧ (∀ n ∈ h.attrs,0 ≤ n ∧ n < s.g.Q) ∧ (∀ n ∈ h.bl.ys,0 ≤ n ∧ n < s.g.Q) ∧
   (0 ≤ h.bl.s ∧ h.bl.s < s.g.Q) ∧ (0 ≤ h.bl.u ∧ h.bl.u < s.g.Q) ∧ (0 ≤ h.bl.v ∧ h.bl.v < s.g.Q) ∧ h.bl.s ≠ 0 ∧ h.bl.u ≠ 0 ∧
   a6f s h.t = true ∧ h.t.mark = a6i s.g (a7f s h.attrs).1 h.bl.s ∧ h.t.first = (a5t s.g s.bases h.bl.ys).1:=by
  simp only [validM,Bool.and_eq_true,decide_eq_true_eq,c0s,a4l,within,List.mem_cons,List.not_mem_nil,or_false,forall_eq_or_imp,forall_eq]
  constructor
  ·rintro ⟨⟨⟨⟨⟨⟨⟨⟨⟨⟨⟨⟨⟨⟨⟨⟨a1,a2⟩,a3⟩,a4⟩,a5⟩,a6⟩,a7⟩,a8⟩,a9⟩,a10⟩,a11⟩,b1,b2,b3⟩,a13⟩,a14⟩,a15⟩,a16⟩,a17⟩
   exact ⟨a1,⟨a2,a3⟩,a4,a5,⟨a6,a7,a9⟩,a8,a10,a11,b1,b2,b3,a13,a14,a15,a16,a17⟩
  ·rintro ⟨a1,⟨a2,a3⟩,a4,a5,⟨a6,a7,a9⟩,a8,a10,a11,b1,b2,b3,a13,a14,a15,a16,a17⟩
   exact ⟨⟨⟨⟨⟨⟨⟨⟨⟨⟨⟨⟨⟨⟨⟨⟨a1,a2⟩,a3⟩,a4⟩,a5⟩,a6⟩,a7⟩,a8⟩,a9⟩,a10⟩,a11⟩,b1,b2,b3⟩,a13⟩,a14⟩,a15⟩,a16⟩,a17⟩
 rw [hm]
 unfold b9o
 constructor
 ·intro hv
  split at hv
  ·cases hv
  ·rename_i h1
   split at hv
   ·cases hv
   ·rename_i h2
    split at hv
    ·cases hv
    ·rename_i h3
     simp only [Bool.or_eq_true,Bool.not_eq_true',not_or,Bool.not_eq_false,decide_eq_true_eq,c7w,List.all_eq_true,Classical.not_not] at h1 h2 h3
     simp only [Bool.and_eq_true,decide_eq_true_eq] at hv
     obtain ⟨⟨⟨p1,p2⟩,p3⟩,p4⟩:=h1
     obtain ⟨⟨q1,q2⟩,q3⟩:=h2
     obtain ⟨⟨⟨⟨⟨r1,r2⟩,r3⟩,r4⟩,r5⟩,r6⟩:=h3
     exact ⟨p1,⟨p2.1,by omega⟩,p3,p4,⟨q1,q2,q3⟩,r2.1,fun n hn=>by have:=r1 n hn; omega,fun n hn=>by have:=r6 n hn; omega,
      by omega,by omega,by omega,by omega,by omega,hv.1.1.2,hv.1.2,hv.2⟩
 ·rintro ⟨a1,a2,a4,a5,⟨a6,a7,a9⟩,a8,a10,a11,b1,b2,b3,a13,a14,a15,a16,a17⟩
  have g:=(e1e a1).1
  have hd:h.attrs.headD 0 < s.g.Q:=by
   rcases e:h.attrs with _ | ⟨x,l⟩
   ·rw [e] at a7; exact absurd rfl a7
   ·exact (a10 x (by rw [e]; simp)).2
  have hp:(a5t s.g s.bases h.bl.ys).2 = true:=by
   unfold a5t
   rw [if_pos ⟨g.okP,g.okQ,a9.symm⟩]
  rw [if_neg,if_neg,if_neg]
  ·simp only [hp,a15,Bool.true_and,Bool.and_eq_true,decide_eq_true_eq]
   exact ⟨a16,a17⟩
  ·simp only [Bool.or_eq_true,Bool.not_eq_true',not_or,Bool.not_eq_false,c7w,List.all_eq_true]
   exact ⟨⟨⟨⟨⟨fun n hn=>by have:=a10 n hn; omega,by omega⟩,by omega⟩,by omega⟩,by omega⟩,fun n hn=>by have:=a11 n hn; omega⟩
  ·simp only [Bool.or_eq_true,decide_eq_true_eq,not_or,Classical.not_not]
   exact ⟨⟨a6,a7⟩,a9⟩
  ·simp only [Bool.or_eq_true,Bool.not_eq_true',not_or,Bool.not_eq_false,c7w]
   exact ⟨⟨⟨a1,by omega⟩,by omega⟩,a5⟩
theorem e1f (s:Stp) (lims:List Lim) (h:Hld):b9o s lims h = validM s lims h:=by
 rw [Bool.eq_iff_iff]; exact d2n
end PuSpec
namespace PuSpec
open FdSpec TkSpec CodeSpec
def a2n:Nat → Rd → List Lnk × Rd × Bool
 | 0,r=>([],r,true)
 | k + 1,r=>
  if (a0c r).1.length = 6 then
   (⟨ofL (a0c r).1,⟨(a1s (a0c r).2).1,(a0c (a1s (a0c r).2).2).1⟩,(a0s (a0c (a1s (a0c r).2).2).2).1⟩ :: (a2n k (a0s (a0c (a1s (a0c r).2).2).2).2).1,(a2n k (a0s (a0c (a1s (a0c r).2).2).2).2).2)
  else ([],(a0s (a0c (a1s (a0c r).2).2).2).2,false)
structure Hd5 where
 head:List Int × Rd
 attrs:List Int × Rd
 three:List Int × Rd
 ys:List Int × Rd
 t:List Int × Rd
 n:Int × Rd
def a2s (s:a0h):Hd5:=
 let head:=a0c ⟨s,false⟩
 let attrs:=a0c head.2
 let three:=a0c attrs.2
 let ys:=a0c three.2
 let t:=a0c ys.2
 ⟨head,attrs,three,ys,t,a1m t.2⟩
def c2o (d:Hd5) (l:List Lnk):Hld:=⟨d.head.1.getD 0 0,d.head.1.getD 1 0,d.attrs.1,⟨d.three.1.getD 0 0,d.three.1.getD 1 0,d.three.1.getD 2 0,d.ys.1⟩,ofL d.t.1,l⟩
def a6v (d:Hd5):Bool:=decide (d.head.1.length = 2) && decide (d.three.1.length = 3) && decide (d.t.1.length = 6) && decide (d.n.1 ≤ 4)
def a5k (s:a0h):Hld × Bool:=
 if !a6v (a2s s) then (b2u,false)
 else if !(a2n (a2s s).n.1.toNat (a2s s).n.2).2.2 then (b2u,false)
 else if !a7r (a2n (a2s s).n.1.toNat (a2s s).n.2).2.1 || !decide (a3m (c2o (a2s s) (a2n (a2s s).n.1.toNat (a2s s).n.2).1) = s) then (b2u,false)
 else (c2o (a2s s) (a2n (a2s s).n.1.toNat (a2s s).n.2).1,true)
theorem b9n:∀ (l:List Lnk) (t:a0h),(∀ x ∈ l,WLnk x) → a2n l.length ⟨(l.map a5g).flatten ++ t,false⟩ = (l,⟨t,false⟩,true)
 | [],t,_=>rfl
 | x :: l,t,h=>by
  have w:=h x (by simp)
  have ih:=b9n l t (fun y hy=>h y (by simp [hy]))
  have e1:=a3c (a5m x.ticket) (a0n x.spend.dare ++ (a0d x.spend.answers ++ (a0t x.terms ++ ((l.map a5g).flatten ++ t)))) (by simp [a5m]) w.t.all
  have e2:=b5w x.spend.dare w.dare (a0d x.spend.answers ++ (a0t x.terms ++ ((l.map a5g).flatten ++ t)))
  have e3:=a3c x.spend.answers (a0t x.terms ++ ((l.map a5g).flatten ++ t)) w.al w.ans
  have e4:=b3q x.terms ((l.map a5g).flatten ++ t) w.tl
  have e5:(a5m x.ticket).length = 6:=rfl
  simp only [List.map_cons,List.flatten_cons,a5g,List.append_assoc,List.length_cons,a2n,e1,e2,e3,e4,e5,if_true,ih]
  rfl
theorem d2j (h:Hld) (w:WHld h) (hl:h.links.length ≤ 4):a5k (a3m h) = (h,true):=by
 have e1:=a3c [h.limit,h.window] (a0d h.attrs ++ (a0d [h.bl.s,h.bl.u,h.bl.v] ++ (a0d h.bl.ys ++ (a0d (a5m h.t) ++ (a1a h.links.length ++ (h.links.map a5g).flatten))))) (by simp) (by simp [w.limit,w.window])
 have e2:=a3c h.attrs (a0d [h.bl.s,h.bl.u,h.bl.v] ++ (a0d h.bl.ys ++ (a0d (a5m h.t) ++ (a1a h.links.length ++ (h.links.map a5g).flatten)))) w.al w.attrs
 have e3:=a3c [h.bl.s,h.bl.u,h.bl.v] (a0d h.bl.ys ++ (a0d (a5m h.t) ++ (a1a h.links.length ++ (h.links.map a5g).flatten))) (by simp) (by simp [w.s,w.u,w.v])
 have e4:=a3c h.bl.ys (a0d (a5m h.t) ++ (a1a h.links.length ++ (h.links.map a5g).flatten)) w.yl w.ys
 have e5:=a3c (a5m h.t) (a1a h.links.length ++ (h.links.map a5g).flatten) (by simp [a5m]) w.t.all
 have e6:=b5x h.links.length ⟨by omega,by omega⟩ (by omega) (h.links.map a5g).flatten
 have e7:=b9n h.links [] w.links
 rw [List.append_nil] at e7
 have eh:a2s (a3m h) = ⟨([h.limit,h.window],⟨a0d h.attrs ++ (a0d [h.bl.s,h.bl.u,h.bl.v] ++ (a0d h.bl.ys ++ (a0d (a5m h.t) ++ (a1a h.links.length ++ (h.links.map a5g).flatten)))),false⟩),
   (h.attrs,⟨a0d [h.bl.s,h.bl.u,h.bl.v] ++ (a0d h.bl.ys ++ (a0d (a5m h.t) ++ (a1a h.links.length ++ (h.links.map a5g).flatten))),false⟩),([h.bl.s,h.bl.u,h.bl.v],⟨a0d h.bl.ys ++ (a0d (a5m h.t) ++ (a1a h.links.length ++ (h.links.map a5g).flatten)),false⟩),
   (h.bl.ys,⟨a0d (a5m h.t) ++ (a1a h.links.length ++ (h.links.map a5g).flatten),false⟩),(a5m h.t,⟨a1a h.links.length ++ (h.links.map a5g).flatten,false⟩),((h.links.length:Int),⟨(h.links.map a5g).flatten,false⟩)⟩:=by
  unfold a2s a3m
  simp only [List.append_assoc,e1,e2,e3,e4,e5,e6]
 unfold a5k
 rw [eh]
 have hn:((h.links.length:Int)).toNat = h.links.length:=by omega
 dsimp only
 rw [hn,e7]
 have hk:c2o ⟨([h.limit,h.window],⟨a0d h.attrs ++ (a0d [h.bl.s,h.bl.u,h.bl.v] ++ (a0d h.bl.ys ++ (a0d (a5m h.t) ++ (a1a h.links.length ++ (h.links.map a5g).flatten)))),false⟩),
   (h.attrs,⟨a0d [h.bl.s,h.bl.u,h.bl.v] ++ (a0d h.bl.ys ++ (a0d (a5m h.t) ++ (a1a h.links.length ++ (h.links.map a5g).flatten))),false⟩),([h.bl.s,h.bl.u,h.bl.v],⟨a0d h.bl.ys ++ (a0d (a5m h.t) ++ (a1a h.links.length ++ (h.links.map a5g).flatten)),false⟩),
   (h.bl.ys,⟨a0d (a5m h.t) ++ (a1a h.links.length ++ (h.links.map a5g).flatten),false⟩),(a5m h.t,⟨a1a h.links.length ++ (h.links.map a5g).flatten,false⟩),((h.links.length:Int),⟨(h.links.map a5g).flatten,false⟩)⟩ h.links = h:=rfl
 rw [if_neg (by
  simp only [a6v,List.length_cons,List.length_nil,Bool.not_eq_true',Bool.and_eq_false_imp]
  simp [a5m]; omega),if_neg (by simp),hk,if_neg (by simp [a7r])]
theorem a1z (r:Rd) (hr:r.ok):(∀ v ∈ (a0c r).1,InR v) ∧ Len (a0c r).1.length:=by
 rcases a2r r hr with e | ⟨vs,t,e,_,h1,h2⟩ <;> rw [e]
 ·exact ⟨(fun v hv=>by cases hv),by simp [Len]⟩
 ·exact ⟨h2,h1⟩
theorem e1c (r:Rd) (hr:r.ok):InR (a1s r).1:=by
 rcases a7h r hr with e | ⟨n,t,e,_,h⟩ <;> rw [e]
 ·exact ⟨by decide,by decide⟩
 ·exact h
theorem f0c (r:Rd) (hr:r.ok):Len (a0s r).1.length:=by
 rcases a2q r hr with e | ⟨n,t,e,_,h⟩ <;> rw [e]
 ·simp [Len]
 ·exact h
theorem b2t:∀ (k:Nat) (r:Rd),r.ok → (a2n k r).1.length ≤ k ∧ ∀ x ∈ (a2n k r).1,WLnk x
 | 0,r,_=>⟨Nat.le_refl _,fun x hx=>by cases hx⟩
 | k + 1,r,hr=>by
  have o1:=a0k hr
  have o2:=b1i o1
  have o3:=a0k o2
  have o4:=b0p o3
  obtain ⟨h1,h2⟩:=b2t k _ o4
  have n1:=a1z r hr
  have n2:=e1c _ o1
  have n3:=a1z _ o2
  have n4:=f0c _ o3
  rw [a2n]
  generalize a0c r = a at *
  generalize a1s a.2 = b at *
  generalize a0c b.2 = c at *
  generalize a0s c.2 = d at *
  generalize a2n k d.2 = e at *
  split
  ·rename_i h6
   refine ⟨by simp only [List.length_cons]; omega,fun x hx=>?_⟩
   rcases List.mem_cons.1 hx with rfl | hx
   ·exact ⟨⟨by rw [b1j h6]; exact n1.1⟩,n2,n3.1,n3.2,n4⟩
   ·exact h2 x hx
  ·exact ⟨Nat.zero_le _,fun x hx=>by cases hx⟩
theorem e1d (r:Rd) (hr:r.ok):0 ≤ (a1m r).1:=by
 rcases a8q r hr with e | ⟨n,t,e,_,_,h⟩ <;> rw [e]
 ·exact Int.le_refl _
 ·exact h
theorem c7r (s:a0h) (h:(a5k s).2 = true):s = a3m (a5k s).1 ∧ WHld (a5k s).1 ∧ (a5k s).1.links.length ≤ 4:=by
 have o0:(⟨s,false⟩:Rd).ok:=Rd.ok_good
 have o1:=a0k o0
 have o2:=a0k o1
 have o3:=a0k o2
 have o4:=a0k o3
 have o5:=a0k o4
 have o6:=a6x o5
 have n1:=a1z _ o0
 have n2:=a1z _ o1
 have n3:=a1z _ o2
 have n4:=a1z _ o3
 have n5:=a1z _ o4
 have n6:=e1d _ o5
 have eh:a2s s = ⟨a0c ⟨s,false⟩,a0c (a0c ⟨s,false⟩).2,a0c (a0c (a0c ⟨s,false⟩).2).2,a0c (a0c (a0c (a0c ⟨s,false⟩).2).2).2,a0c (a0c (a0c (a0c (a0c ⟨s,false⟩).2).2).2).2,a1m (a0c (a0c (a0c (a0c (a0c ⟨s,false⟩).2).2).2).2).2⟩:=rfl
 have hw0:∀ k,(a2n k (a1m (a0c (a0c (a0c (a0c (a0c ⟨s,false⟩).2).2).2).2).2).2).1.length ≤ k ∧ ∀ x ∈ (a2n k (a1m (a0c (a0c (a0c (a0c (a0c ⟨s,false⟩).2).2).2).2).2).2).1,WLnk x:=fun k=>b2t k _ o6
 have hw:=hw0 (a1m (a0c (a0c (a0c (a0c (a0c ⟨s,false⟩).2).2).2).2).2).1.toNat
 clear hw0
 unfold a5k at h ⊢
 rw [eh] at h ⊢
 clear eh o0 o1 o2 o3 o4 o5 o6
 generalize a0c ⟨s,false⟩ = a at *
 generalize a0c a.2 = b at *
 generalize a0c b.2 = c at *
 generalize a0c c.2 = d at *
 generalize a0c d.2 = e at *
 generalize a1m e.2 = f at *
 generalize a2n f.1.toNat f.2 = L at *
 split at h
 ·cases h
 ·rename_i h1
  rw [if_neg h1]
  split at h
  ·cases h
  ·rename_i h2
   rw [if_neg h2]
   split at h
   ·cases h
   ·rename_i h3
    rw [if_neg h3]
    simp only [Bool.or_eq_true,Bool.not_eq_true',not_or,Bool.not_eq_false,decide_eq_false_iff_not,Classical.not_not] at h1 h2 h3
    simp only [a6v,Bool.and_eq_true,decide_eq_true_eq] at h1
    dsimp only at h1 h3 ⊢
    refine ⟨h3.2.symm,⟨a3l n1.1 0,a3l n1.1 1,n2.1,n2.2,a3l n3.1 0,a3l n3.1 1,a3l n3.1 2,n4.1,n4.2,⟨?_⟩,hw.2⟩,?_⟩
    ·show ∀ v ∈ a5m (ofL _),InR v
     rw [b1j h1.1.2]; exact n5.1
    ·have:=hw.1
     show L.1.length ≤ 4
     omega
theorem c7s {s:a0h} (h:(a5k s).2 = false):a5k s = (b2u,false):=by
 unfold a5k at h ⊢
 split
 ·rfl
 ·rename_i h1
  rw [if_neg h1] at h
  split
  ·rfl
  ·rename_i h2
   rw [if_neg h2] at h
   split
   ·rfl
   ·rename_i h3
    rw [if_neg h3] at h
    cases h
theorem c4a {s:a0h} (h:(a2d s).2 = false):a2d s = (b2u,false):=by
 unfold a2d at h ⊢
 split
 ·rfl
 ·rename_i h1
  rw [if_neg h1] at h
  cases h
theorem c4b (s:a0h):a5k s = a2d s:=by
 rcases e:(a5k s).2 with _ | _
 ·rcases f:(a2d s).2 with _ | _
  ·rw [c7s e,c4a f]
  ·obtain ⟨h1,h2,h3⟩:=c7n s f
   have:=d2j _ h2 h3
   rw [← h1] at this
   rw [this] at e
   cases e
 ·obtain ⟨h1,h2,h3⟩:=c7r s e
  have:=b9j _ h2 h3
  rw [← h1] at this
  rw [this]
  exact Prod.ext rfl e
def a1x (s:a0h):(Int × a0h) × Bool:=
 if !a7r (a0s (a1m ⟨s,false⟩).2).2 || decide (s = []) || !decide (a7s (a1m ⟨s,false⟩).1 (a0s (a1m ⟨s,false⟩).2).1 = s) then ((0,[]),false)
 else (((a1m ⟨s,false⟩).1,(a0s (a1m ⟨s,false⟩).2).1),true)
theorem a9h (s:a0h):a1x s = a0o s:=by
 have key:(a0o s).2 = true → a1x s = a0o s:=by
  intro h
  obtain ⟨h1,h2,h3⟩:=b8j h
  have hn:s ≠ []:=fun e=>by
   exact b9i.1 (h3.symm.trans e) ⟨h1,h2⟩
  unfold a0o at h h3 ⊢
  dsimp only at h h3 ⊢
  split at h
  ·cases h
  ·rename_i hc
   rw [if_neg hc] at h3 ⊢
   unfold a1x
   rw [if_neg]
   simp only [Bool.or_eq_true,Bool.not_eq_true',decide_eq_true_eq,not_or,Bool.not_eq_false] at hc
   simp only [Bool.or_eq_true,Bool.not_eq_true',decide_eq_true_eq,not_or,Bool.not_eq_false,decide_eq_false_iff_not,Classical.not_not]
   exact ⟨⟨hc.1,hn⟩,h3.symm⟩
 rcases f:(a0o s).2 with _ | _
 ·have z:a0o s = ((0,[]),false):=by
   unfold a0o at f ⊢
   dsimp only at f ⊢
   split
   ·rfl
   ·rename_i h1
    rw [if_neg h1] at f
    cases f
  rw [z]
  unfold a1x
  split
  ·rfl
  ·rename_i hc
   exfalso
   simp only [Bool.or_eq_true,Bool.not_eq_true',decide_eq_true_eq,not_or,Bool.not_eq_false,decide_eq_false_iff_not,Classical.not_not] at hc
   have:(a0o s).2 = true:=by
    unfold a0o
    dsimp only
    rw [if_neg]
    simp only [Bool.or_eq_true,Bool.not_eq_true',decide_eq_true_eq,not_or,Bool.not_eq_false]
    exact ⟨hc.1.1,by rw [hc.2]; exact hc.1.2⟩
   rw [f] at this
   cases this
 ·exact key f
end PuSpec
namespace Go.Proofs
open Go Go.Sh Go.RowKit FdSpec TkSpec CodeSpec PuSpec
section
variable {K:VK} {w w' w0 W W':World} {L:List (Addr × Value)}
theorem a8u (n lo hi:Int) (k:K (.bool (inM n lo hi)) w):a0a Tryz.prog 51 #[.int .i64 n,.int .i64 lo,.int .i64 hi] K w:=by
 apply e8c
 unfold g4i
 unfold inM at k
 by_cases h:lo ≤ n
 ·rw [decide_eq_true h,bT] at k
  refine Xa @h ?_
  exact k
 ·rw [decide_eq_false h,bF] at k
  refine Xa @h ?_
  exact k
theorem a8m (l:Lim) (k:∀ w',Bw w w' → K (.bool (c2p l)) w'):a0a Tryz.prog 9 #[e3z l] K w:=by
 apply f9e
 unfold h1n
 refine a1b (cs:=c2i l) rfl (.start w) fun b1 W hk hb1 hbb=>?_
 have k:=k _ hk.below
 have e:c2p l = (inM l.count 1 4096 && inM l.length 0 2147483648 && inM l.gate (-1) 23):=rfl
 rw [e] at k
 refine Xa hk.cells ?_
 refine a8u _ _ _ ?_
 cases h1:inM l.count 1 4096 with
 | false=>
  rw [h1,bF,bF] at k
  refine Xa hk.cells ?_
  exact k
 | true=>
 rw [h1,bT] at k
 refine Xa hk.cells ?_
 refine a8u _ _ _ ?_
 cases h2:inM l.length 0 2147483648 with
 | false=>
  rw [h2,bF] at k
  refine Xa hk.cells ?_
  exact k
 | true=>
 rw [h2,bT] at k
 refine Xa hk.cells ?_
 refine a8u _ _ _ ?_
 refine Xa hk.cells ?_
 exact k
theorem c0y (n:Int):inM n 0 2147483648 = a4l n:=rfl
theorem d2r (l:Lim) (t:Int) (k:∀ w',Bw w w' → K (.int .i64 (a9i l t)) w'):a0a Tryz.prog 11 #[e3z l,.int .i64 t] K w:=by
 apply e8d
 unfold g4j
 refine a4f (cs:=c2i l) rfl fun b1 W h1 hb1 hH=>?_
 refine a2k hH c5y (by kernel_rfl) (by kernel_rfl) ?_
 refine a8m l (fun w1 h2=>?_)
 have hH1:=hH.next h2
 have k:=k _ (h1.on h2)
 have c1:=a8k hH1 (j:=1) rfl
 unfold a9i at k
 cases hl:c2p l with
 | false=>
  rw [hl] at k
  refine Xa @c1 ?_
  exact k
 | true=>
 rw [hl] at k
 refine Xa @c1 ?_
 refine a8u _ _ _ ?_
 rw [c0y]
 cases ht:a4l t with
 | false=>
  rw [ht] at k
  refine Xa @c1 ?_
  exact k
 | true=>
 rw [ht] at k
 simp only [Bool.not_true,Bool.or_self,Bool.false_eq_true,if_false] at k
 have ht':=(a4q t).1 ht
 have hl':=b5k hl
 by_cases h0:l.length = 0
 ·rw [if_pos h0] at k
  refine Xa (An2 @c1 @h0) ?_
  exact k
 ·rw [if_neg h0] at k
  have hm:max l.length 1 = l.length:=by omega
  have hm':¬ l.length ≤ 1 ∨ l.length = 1:=by omega
  have hq:t.tdiv l.length = t / l.length:=Int.tdiv_eq_ediv_of_nonneg (by omega)
  have hd0:0 ≤ t / l.length:=Int.ediv_nonneg (by omega) (by omega)
  have hd1:t / l.length ≤ t:=Int.ediv_le_self _ (by omega)
  refine Xa (An4 @c1 @h0 @hm @hq) ?_
  exact k
theorem d2s (l:Lim) (n:Int) (k:∀ w',Bw w w' → K (.int .i64 (b6j l n)) w'):a0a Tryz.prog 13 #[e3z l,.int .i64 n] K w:=by
 apply e8e
 unfold g4k
 refine a4f (cs:=c2i l) rfl fun b1 W h1 hb1 hH=>?_
 refine a2k hH c5y (by kernel_rfl) (by kernel_rfl) ?_
 refine a8m l (fun w1 h2=>?_)
 have hH1:=hH.next h2
 have k:=k _ (h1.on h2)
 have c1:=a8k hH1 (j:=1) rfl
 unfold b6j at k
 cases hl:c2p l with
 | false=>
  rw [hl] at k
  refine Xa @c1 ?_
  exact k
 | true=>
 rw [hl] at k
 refine Xa @c1 ?_
 refine a8u _ _ _ ?_
 rw [c0y]
 cases ht:a4l n with
 | false=>
  rw [ht] at k
  refine Xa @c1 ?_
  exact k
 | true=>
 rw [ht] at k
 have ht':=(a4q n).1 ht
 have hl':=b5k hl
 have hm0:0 ≤ n * l.length:=Int.mul_nonneg (by omega) (by omega)
 have hm1:n * l.length ≤ 2147483648 * 2147483648:=Int.mul_le_mul (by omega) (by omega) (by omega) (by omega)
 have hw:IntKind.i64.wrap (n * l.length) = n * l.length:=a0u _ (by omega) (by omega)
 cases hb:a4l (n * l.length) with
 | false=>
  rw [hb] at k
  have hbn:2147483648 < n * l.length:=by
   rcases Int.lt_or_le 2147483648 (n * l.length) with h | h
   ·exact h
   ·rw [(a4q _).2 ⟨hm0,h⟩] at hb; cases hb
  refine Xa (An3 @c1 @hw @hbn) ?_
  exact k
 | true=>
  rw [hb] at k
  have hbn:¬ 2147483648 < n * l.length:=by have:=(a4q _).1 hb; omega
  refine Xa (An3 @c1 @hw @hbn) ?_
  exact k
theorem c4i (t:Tkt) (ht:WTkt t) (k:∀ w' v,Bw w w' → Ints w' v (a5m t) → K v w'):a0a Tryz.prog 87 #[b7p t] K w:=by
 apply e8f
 unfold g4l
 refine a1b (cs:=b4y t) rfl (.start w) fun b1 W hk hb1 hbb=>?_
 refine Xa hk.cells ?_
 refine mk6 _ _ _ _ _ _ (fun x hx=>a1f (ht.all x hx)) (fun v W2 h2 hi=>k _ _ (hk.below.on h2) hi)
theorem b6m (lo hi:Int) {v:Value} {l:List Int} (hl:Ints w v l) (k:K (.bool (l.all fun n=>inM n lo hi)) w):a0a Tryz.prog 78 #[v,.int .i64 lo,.int .i64 hi] K w:=by
 apply e8g
 unfold g4m
 have hll:=hl.len
 obtain ⟨ad,c,rfl⟩:=hl.isSlice
 refine ⟨fun vs W=>∃ (i:Nat),vs = [.bool false,.int .i64 (i:Int)] ∧ i ≤ l.length ∧ (l.take i).all (fun n=>inM n lo hi) = true ∧ w = W,
  (fun vs _=>match vs with | [_,.int _ i]=>l.length - i.toNat | _=>0),⟨0,rfl,by omega,rfl,rfl⟩,?_⟩
 rintro _ _ _ ⟨i,rfl,hil0,ha,rfl⟩
 by_cases hin:i = l.length
 ·subst hin
  rw [List.take_length] at ha
  rw [ha] at k
  refine Xa0 ?_
  exact k
 ·have hil:i < l.length:=by omega
  have hiZ:(i:Int) < l.length:=by omega
  obtain ⟨lb,lo',rfl,hlb,hc,i0,-⟩:=hl.at hil
  have hc:=hc w (bR)
  have hnext:(l.take (i + 1)).all (fun n=>inM n lo hi) = inM l[i] lo hi:=by
   rw [List.take_succ_eq_append_getElem hil,List.all_append,ha]; simp
  refine Xa (An2 @hiZ @hc) ?_
  refine a8u _ _ _ ?_
  cases h:inM l[i] lo hi with
  | true=>
   refine Xa0 ?_
   exact ⟨⟨i + 1,rfl,by omega,by rw [hnext,h],rfl⟩,by show l.length - (((i + 1:Nat):Int)).toNat < l.length - ((i:Nat):Int).toNat; omega⟩
  | false=>
   have:(l.all fun n=>inM n lo hi) = false:=by
    rw [List.all_eq_false]
    exact ⟨l[i],List.getElem_mem hil,by rw [h]; simp⟩
   rw [this] at k
   refine Xa0 ?_
   exact k
theorem e1k (l:List Lnk) {v:Value} (hl:b7s w v l) (k:K (.bool (a7q l)) w):a0a Tryz.prog 77 #[v] K w:=by
 apply e8h
 unfold g4n
 have hll:=hl.len
 obtain ⟨ad,c,rfl⟩:=hl.isSlice
 unfold a7q at k
 by_cases h4:l.length ≤ 4
 ·have h4':¬ (4:Int) < l.length:=by omega
  rw [decide_eq_true h4,bT] at k
  refine Xa @h4' ?_
  refine ⟨fun vs W=>∃ (i:Nat),vs = [.bool false,.int .i64 (i:Int)] ∧ i ≤ l.length ∧ ((l.take i).any fun x=>decide (200 < x.terms.length) || decide (7 < x.spend.answers.length)) = false ∧ w = W,
   (fun vs _=>match vs with | [_,.int _ i]=>l.length - i.toNat | _=>0),⟨0,rfl,by omega,rfl,rfl⟩,?_⟩
  rintro _ _ _ ⟨i,rfl,hi,ha,rfl⟩
  by_cases hin:i = l.length
  ·subst hin
   rw [List.take_length] at ha
   rw [ha] at k
   refine Xa0 ?_
   exact k
  ·have hil:i < l.length:=by omega
   have hiZ:(i:Int) < l.length:=by omega
   obtain ⟨lb,lo',rfl,hlb,cs,hcl,hcc,av,rfl,hav,-⟩:=hl.at hil
   have hnext:((l.take (i + 1)).any fun x=>decide (200 < x.terms.length) || decide (7 < x.spend.answers.length)) = (decide (200 < l[i].terms.length) || decide (7 < l[i].spend.answers.length)):=by
    rw [List.take_succ_eq_append_getElem hil,List.any_append,ha]; simp
   have hany:(decide (200 < l[i].terms.length) || decide (7 < l[i].spend.answers.length)) = true → (l.any fun x=>decide (200 < x.terms.length) || decide (7 < x.spend.answers.length)) = true:=fun h=>List.any_eq_true.2 ⟨l[i],List.getElem_mem hil,h⟩
   obtain ⟨ad',c',rfl⟩:=hav.isSlice
   have c8:=hcc 8 _ rfl
   have c7:=hcc 7 _ rfl
   generalize l[i] = x at *
   by_cases h1:200 < x.terms.length
   ·have h1':(200:Int) < x.terms.length:=by omega
    rw [hany (by rw [decide_eq_true h1,Bool.true_or])] at k
    refine Xa (An4 @hiZ @c8 @a3o @h1') ?_
    exact k
   ·have h1':¬ (200:Int) < x.terms.length:=by omega
    by_cases h2:7 < x.spend.answers.length
    ·have h2':(7:Int) < x.spend.answers.length:=by omega
     rw [hany (by rw [decide_eq_true h2,Bool.or_true])] at k
     refine Xa (An6 @hiZ @c8 @c7 @a3o @h1' @h2') ?_
     exact k
    ·have h2':¬ (7:Int) < x.spend.answers.length:=by omega
     refine Xa (An6 @hiZ @c8 @c7 @a3o @h1' @h2') ?_
     exact ⟨⟨i + 1,rfl,by omega,by rw [hnext,decide_eq_false h1,decide_eq_false h2]; rfl,rfl⟩,by show l.length - (((i + 1:Nat):Int)).toNat < l.length - ((i:Nat):Int).toNat; omega⟩
 ·have h4':(4:Int) < l.length:=by omega
  rw [decide_eq_false h4,bF] at k
  refine Xa @h4' ?_
  exact k
end
end Go.Proofs
namespace Go.Proofs
open Go Go.Sh Go.RowKit FdSpec
section
variable {K:VK} {w:World}
theorem f9u {P:Program} (t t' T:TypeId) (yk:IntKind) (x y:Int) (h0:0 ≤ y) (h1:y ≤ 64):oM P (.binOp .shr t (.tmp 0) (.tmp 1) t') T [.int .i64 x,.int yk y] = a0f (.int .i64 (x / 2 ^ y.toNat)):=by
 funext K w
 simp [oM,opM,xop,execOp,a1e,evE,binOp]
 rfl
theorem f9v {P:Program} (t t' T:TypeId) (x y:Int):oM P (.binOp .and t (.tmp 0) (.tmp 1) t') T [.int .i64 x,.int .i64 y] = a0f (.int .i64 (bits .and .i64 x y)):=by
 funext K w
 simp [oM,opM,xop,execOp,a1e,evE,binOp,go_sem]
theorem e1g (x:Int) (hx:0 ≤ x ∧ x < 9223372036854775808):bits .and .i64 x 3 = x % 4:=by
 obtain ⟨a,rfl⟩:=Int.eq_ofNat_of_zero_le hx.1
 simp only [bits]
 rw [show (3:Int) = ((3:Nat):Int) from rfl,BitVec.ofInt_natCast,BitVec.ofInt_natCast,BitVec.toNat_and]
 simp only [BitVec.toNat_ofNat]
 rw [show IntKind.i64.bits = 64 from rfl,Nat.mod_eq_of_lt (show a < 2 ^ 64 by omega),Nat.mod_eq_of_lt (show 3 < 2 ^ 64 by decide),show 3 = 2 ^ 2 - 1 from rfl,Nat.and_two_pow_sub_one_eq_mod]
 rw [a0u _ (by omega) (by omega)]
 omega
theorem b0r (n:Int) (h:K (.bool (decide (okN n))) w):a0a Tryz.prog 156 #[.int .i64 n] K w:=by
 apply d7o
 unfold f5r
 have e:decide (okN n) = (decide (1 ≤ n) && decide (n < 2305843009213693952)):=by
  by_cases h1:1 ≤ n <;> by_cases h2:n < 2305843009213693952 <;> simp [okN,h1,h2]
 rw [e] at h
 by_cases h1:1 ≤ n
 ·refine Xa @h1 ?_
  simpa [h1] using h
 ·refine Xa @h1 ?_
  simpa [h1] using h
theorem a9k (n a:Int) (hn:okN n) (h:K (.int .i64 (a % n)) w):a0a Tryz.prog 158 #[.int .i64 n,.int .i64 a] K w:=by
 apply d7p
 unfold f5s
 obtain ⟨h1,h2⟩:=hn
 have e:=b9e n a (by omega)
 have h3:=Int.emod_nonneg a (b:=n) (by omega)
 have h4:=Int.emod_lt_of_pos a (b:=n) (by omega)
 obtain ⟨r,hr⟩:∃ r,r = a.tmod n:=⟨_,rfl⟩
 rw [← hr] at e
 have hjm:∀ (l:List Value) (u:Env) (w':World),(fun l w'=>l = [Value.int .i64 (a % n)] ∧ w' = w) l w' → K (l.getD 0 undef) w':=by
  rintro l u w' ⟨rfl,rfl⟩; exact h
 refine Xa (Eq.symm @hr) ?_
 refine ⟨fun l w'=>l = [Value.int .i64 (a % n)] ∧ w' = w,?_,fun l u w' hl=>hjm l u w' hl⟩
 repeat (any_goals (first
 | (with_reducible ((refine a1n ?_); refine yP (fun hg=>?_) fun hg=>?_))
 | ((with_reducible refine oG fun Kv hK=>?_); simp [go_sem]; (try simp (disch:=omega) only [a0u,a2y,a1r]); apply hK; clear hK Kv)))
 ·rw [if_pos (by assumption)] at e; rw [e]; exact ⟨rfl,rfl⟩
 ·rw [if_neg (by assumption)] at e; rw [e]; exact ⟨rfl,rfl⟩
def MuJ (n x y:Int) (w0:World) (l:List Value) (w':World):Prop:=w' = w0 ∧ ∃ (o:Int) (u v:Value) (j:Nat),l = [.int .i64 o,u,v,.int .i64 (60 - 2 * (j:Int))] ∧ j ≤ 31 ∧ o = x * (y / 2 ^ (62 - 2 * j)) % n
def h1r (l:List Value) (_:World):Nat:=match l with | [_,_,_,.int _ k]=>(k + 2).toNat | _=>0
theorem f9w (a b c:Value) (q:IntKind) (k:Int) (w:World):h1r [a,b,c,.int q k] w = (k + 2).toNat:=rfl
def MiJ (n x o:Int) (d:Int) (w0:World) (l:List Value) (w':World):Prop:=w' = w0 ∧ ∃ (p:Int) (i:Nat),l = [.int .i64 p,.int .i64 (i:Int)] ∧ (i:Int) ≤ d ∧ p = (o + (i:Int) * x) % n
def h1t (d:Int) (l:List Value) (_:World):Nat:=match l with | [_,.int _ k]=>(d - k).toNat | _=>0
theorem f9x (d:Int) (a:Value) (q:IntKind) (k:Int) (w:World):h1t d [a,.int q k] w = (d - k).toNat:=rfl
theorem c0t (n a b:Int) (h:K (.int .i64 (b8f n a b)) w):a0a Tryz.prog 162 #[.int .i64 n,.int .i64 a,.int .i64 b] K w:=by
 apply d7q
 unfold f5t
 refine b0r n ?_
 by_cases hn:okN n
 ·refine Xa0 ?_
  refine a9k n a hn ?_
  refine a9k n b hn ?_
  rw [← d4w n a b hn] at h
  have a1:=Int.emod_nonneg a (show n ≠ 0 by have:=hn.1; omega)
  have a2:=Int.emod_lt_of_pos a (show 0 < n by have:=hn.1; omega)
  have b1:=Int.emod_nonneg b (show n ≠ 0 by have:=hn.1; omega)
  have b2:=Int.emod_lt_of_pos b (show 0 < n by have:=hn.1; omega)
  obtain ⟨h1,h2⟩:=hn
  generalize a % n = x at *
  generalize b % n = y at *
  have hxy:0 ≤ x * y:=Int.mul_nonneg a1 b1
  by_cases hs:n ≤ 2147483648
  ·have hb:x * y ≤ 2147483648 * 2147483648:=Int.mul_le_mul (by omega) (by omega) b1 (by omega)
   have e:(x * y).tmod n = x * y % n:=Int.tmod_eq_emod_of_nonneg hxy
   refine Xa @e ?_
   exact h
  ·refine Xa0 ?_
   refine ⟨MuJ n x y w,h1r,⟨rfl,0,_,_,0,rfl,by omega,?_⟩,?_⟩
   ·rw [show y / 2 ^ (62 - 2 * 0) = 0 by omega]; simp
   rintro _ _ w1 ⟨rfl,o,u,v,j,rfl,hj,ho⟩
   by_cases hj31:j = 31
   ·subst hj31
    have:o = x * y % n:=by rw [ho]; simp
    refine Xa0 ?_
    rw [this]
    exact h
   ·have o1:0 ≤ o:=by rw [ho]; exact Int.emod_nonneg _ (by omega)
    have o2:o < n:=by rw [ho]; exact Int.emod_lt_of_pos _ (by omega)
    have e4:(4 * o).tmod n = 4 * o % n:=Int.tmod_eq_emod_of_nonneg (by omega)
    have sh:=fun t t' T=>f9u (P:=Tryz.prog) t t' T .i64 y (60 - 2 * (j:Int)) (by omega) (by omega)
    have ek:(60 - 2 * (j:Int)).toNat = 60 - 2 * j:=by omega
    rw [ek] at sh
    have ey:y / 2 ^ (60 - 2 * j) = 4 * (y / 2 ^ (62 - 2 * j)) + y / 2 ^ (60 - 2 * j) % 4:=by
     have:y / 2 ^ (62 - 2 * j) = y / 2 ^ (60 - 2 * j) / 4:=by
      rw [show 62 - 2 * j = (60 - 2 * j) + 2 by omega,Int.pow_add]
      exact (Int.ediv_ediv_of_nonneg (Int.le_of_lt (Int.pow_pos (by omega)))).symm
     rw [this]; omega
    have q1:0 ≤ y / 2 ^ (60 - 2 * j):=Int.ediv_nonneg b1 (Int.le_of_lt (Int.pow_pos (by omega)))
    have q2:y / 2 ^ (60 - 2 * j) ≤ y:=Int.ediv_le_self _ b1
    obtain ⟨q,hq⟩:∃ q,q = y / 2 ^ (60 - 2 * j):=⟨_,rfl⟩
    rw [← hq] at sh ey q1 q2
    have eb:=e1g q (by omega)
    refine Xa (An4 @e4 @sh @f9v @eb) ?_
    generalize hd:q % 4 = d at *
    have d1:0 ≤ d:=by omega
    have d2:d < 4:=by omega
    refine ⟨MiJ n x (4 * o) d w1,h1t d,⟨rfl,_,0,rfl,by omega,by simp⟩,?_⟩
    rintro _ _ w2 ⟨rfl,p,i,rfl,hi,hp⟩
    have p1:0 ≤ p:=by rw [hp]; exact Int.emod_nonneg _ (by omega)
    have p2:p < n:=by rw [hp]; exact Int.emod_lt_of_pos _ (by omega)
    by_cases hid:(i:Int) < d
    ·have ep:(p + x).tmod n = (p + x) % n:=Int.tmod_eq_emod_of_nonneg (by omega)
     refine Xa @ep ?_
     refine ⟨⟨rfl,_,i + 1,rfl,by omega,?_⟩,?_⟩
     ·rw [hp,Int.emod_add_emod]; congr 1; rw [Int.natCast_add,Int.add_mul]; omega
     ·simp only [f9x]; omega
    ·have hid2:(i:Int) = d:=by omega
     refine Xa0 ?_
     refine ⟨⟨rfl,_,_,_,j + 1,by rw [show 60 - 2 * (j:Int) - 2 = 60 - 2 * ((j + 1:Nat):Int) by omega]; rfl,by omega,?_⟩,?_⟩
     ·rw [hp,hid2,ho,show 62 - 2 * (j + 1) = 60 - 2 * j by omega]
      rw [← hq,ey]
      generalize y / 2 ^ (62 - 2 * j) = Y
      rw [Int.add_emod,Int.mul_emod,Int.emod_emod_of_dvd _ (Int.dvd_refl n),← Int.mul_emod,← Int.add_emod,Int.mul_add,Int.mul_comm d x]
      congr 2
      rw [← Int.mul_assoc,← Int.mul_assoc,Int.mul_comm 4 x]
     ·simp only [f9w]; omega
 ·unfold b8f at h
  rw [if_neg hn] at h
  refine Xa0 ?_
  exact h
def RpJ (n R:Int) (w0:World) (l:List Value) (w':World):Prop:=w' = w0 ∧ ∃ (o a:Int) (b:Nat),l = [.int .i64 o,.int .i64 a,.int .i64 (b:Int)] ∧ (0 ≤ o ∧ o < n) ∧ (0 ≤ a ∧ a < n) ∧ b < 9223372036854775808 ∧ o * a ^ b % n = R
def h1u (l:List Value) (_:World):Nat:=match l with | [_,_,.int _ k]=>k.toNat | _=>0
theorem f9y (a b:Value) (q:IntKind) (k:Int) (w:World):h1u [a,b,.int q k] w = k.toNat:=rfl
theorem c0u (n a b:Int) (hn:okN n):b8f n a b = a * b % n:=by rw [b8f,if_pos hn]
theorem c0v (n a:Int) (b:Nat) (hn:okN n) (hb:b < 9223372036854775808) (h:K (.int .i64 (pw n a b)) w):a0a Tryz.prog 157 #[.int .i64 n,.int .i64 a,.int .i64 (b:Int)] K w:=by
 apply d7r
 unfold f5u
 have hn1:=hn.1
 have hn2:=hn.2
 have e1:(1:Int).tmod n = 1 % n:=Int.tmod_eq_emod_of_nonneg (by omega)
 refine Xa @e1 ?_
 refine a9k n a hn ?_
 have m1:=Int.emod_nonneg 1 (show n ≠ 0 by omega)
 have m2:=Int.emod_lt_of_pos 1 (show 0 < n by omega)
 have a1:=Int.emod_nonneg a (show n ≠ 0 by omega)
 have a2:=Int.emod_lt_of_pos a (show 0 < n by omega)
 have hR0:1 % n * (a % n) ^ b % n = pw n a b:=by
  rw [Int.mul_emod,Int.emod_emod_of_dvd _ (Int.dvd_refl n),← Int.mul_emod,Int.one_mul]
  exact c7a n a b
 generalize pw n a b = R at h hR0
 refine ⟨RpJ n R w,h1u,⟨rfl,_,_,b,rfl,⟨m1,m2⟩,⟨a1,a2⟩,hb,hR0⟩,?_⟩
 clear m1 m2 a1 a2 hb hR0
 rintro _ _ w1 ⟨rfl,o,c,b,rfl,ho,hc,hb,hR⟩
 by_cases hb0:b = 0
 ·subst hb0
  have:o = R:=by
   rw [← hR]; simp
   exact (Int.emod_eq_of_lt ho.1 ho.2).symm
  refine Xa0 ?_
  rw [this]; exact h
 ·have e2:(b:Int).tmod 2 = ((b % 2:Nat):Int):=by rw [Int.tmod_eq_emod_of_nonneg (by omega)]; omega
  have e3:(b:Int).tdiv 2 = ((b / 2:Nat):Int):=by rw [Int.tdiv_eq_ediv_of_nonneg (by omega)]; omega
  refine Xa0 ?_
  refine ⟨fun l w'=>w' = w1 ∧ ∃ o',l = [.int .i64 o'] ∧ (0 ≤ o' ∧ o' < n) ∧ o' * (c * c % n) ^ (b / 2) % n = R,?_,?_⟩
  ·rcases Nat.mod_two_eq_zero_or_one b with h2 | h2
   ·rw [h2] at e2
    refine Xa @e2 ?_
    exact ⟨rfl,o,rfl,ho,by rw [d4v n c o b h2]; exact hR⟩
   ·rw [h2] at e2
    refine Xa @e2 ?_
    refine c0t n o c ?_
    rw [c0u n o c hn]
    exact ⟨rfl,_,rfl,⟨Int.emod_nonneg _ (by omega),Int.emod_lt_of_pos _ (by omega)⟩,by rw [f3a n c o b h2]; exact hR⟩
  ·rintro _ _ w2 ⟨rfl,o',rfl,ho',hR'⟩
   refine c0t n c c ?_
   rw [c0u n c c hn]
   refine Xa @e3 ?_
   refine ⟨⟨rfl,o',c * c % n,b / 2,by simp,ho',⟨Int.emod_nonneg _ (by omega),Int.emod_lt_of_pos _ (by omega)⟩,by omega,hR'⟩,?_⟩
   simp only [f9y]; omega
end
end Go.Proofs
namespace Go.Proofs
open Go Go.Sh Go.RowKit FdSpec TkSpec
section
variable {K:VK} {w:World}
def TzJ (m:Nat) (w:World) (l:List Value) (w':World):Prop:=w' = w ∧ ∃ (d k:Nat),l = [.int .i64 (d:Int),.int .i64 (k:Int)] ∧ k ≤ tz 64 m ∧ m / 2 ^ k = d ∧ 0 < d
def h1v (l:List Value) (_:World):Nat:=match l with | [.int _ d,_]=>d.toNat | _=>0
theorem f9z (a:Value) (q:IntKind) (d:Int) (w:World):h1v [.int q d,a] w = d.toNat:=rfl
theorem g0a (k:Nat):∀ (f m:Nat),0 < m → m < 2 ^ f → k ≤ tz f m → (m / 2 ^ k % 2 = 0 ↔ k < tz f m) ∧ 0 < m / 2 ^ k:=by
 induction k with
 | zero=>
  intro f m hm hf _
  cases f with
  | zero=>omega
  | succ f=>
   unfold tz
   split
   ·rename_i h; simp [h]; omega
   ·rename_i h; simp [h]; omega
 | succ k ih=>
  intro f m hm hf hk
  cases f with
  | zero=>simp [tz] at hk
  | succ f=>
   unfold tz at hk ⊢
   split at hk
   ·rename_i h
    rw [if_pos h]
    have:=ih f (m / 2) (by omega) (by rw [Nat.pow_succ] at hf; omega) (by omega)
    rw [Nat.div_div_eq_div_mul,← Nat.pow_succ'] at this
    exact ⟨by rw [this.1]; omega,this.2⟩
   ·omega
theorem d2o (n b:Int) (hn:okN n) (h2:2 ≤ n) (k:K (.bool (b1q n b)) w):a0a Tryz.prog 263 #[.int .i64 n,.int .i64 b] K w:=by
 apply d7s
 unfold f5v
 have hn1:=hn.1
 have hn2:=hn.2
 obtain ⟨m,hm⟩:=c6v (n - 1) (by omega)
 have hm2:(n - 1).toNat = m:=by omega
 unfold b1q at k
 rw [hm2] at k
 have ht:=g2l 64 m (by omega) (by omega)
 refine Xa @hm ?_
 refine ⟨TzJ m w,h1v,⟨rfl,m,0,rfl,by omega,by simp,by omega⟩,?_⟩
 rintro _ _ w1 ⟨rfl,d,t,rfl,hd,hmd,hd0⟩
 have hst:=g0a t 64 m (by omega) (by omega) hd
 rw [hmd] at hst
 have hdm:d ≤ m:=by rw [← hmd]; exact Nat.div_le_self _ _
 have e2:(d:Int).tmod 2 = ((d % 2:Nat):Int):=by rw [Int.tmod_eq_emod_of_nonneg (by omega)]; omega
 have e3:(d:Int).tdiv 2 = ((d / 2:Nat):Int):=by rw [Int.tdiv_eq_ediv_of_nonneg (by omega)]; omega
 by_cases hev:d % 2 = 0
 ·have hlt:=hst.1.1 hev
  rw [hev] at e2
  refine Xa (An2 @e2 @e3) ?_
  refine ⟨⟨rfl,d / 2,t + 1,by simp,by omega,?_,by omega⟩,?_⟩
  ·rw [Nat.pow_succ,← Nat.div_div_eq_div_mul,hmd]
  ·simp only [f9z]; omega
 ·have htt:t = tz 64 m:=by have:=mt hst.1.2 hev; omega
  have hodd:d % 2 = 1:=by omega
  rw [hodd] at e2
  have k:K (.bool (if pw n b d = 1 then true else d1u n t (pw n b d))) w1:=by rw [← hmd,htt]; exact k
  refine Xa @e2 ?_
  refine c0v n b d hn (by omega) ?_
  have hp:=b0l n b d (by omega)
  generalize pw n b d = x at *
  by_cases hx1:x = 1
  ·simp only [if_pos hx1] at k
   refine Xa @hx1 ?_
   exact k
  ·simp only [if_neg hx1] at k
   refine Xa @hx1 ?_
   refine ⟨fun l w'=>w' = w1 ∧ ∃ (v:Value) (y:Int) (i:Nat),l = [v,.int .i64 y,.int .i64 (i:Int)] ∧ i ≤ t ∧ (0 ≤ y ∧ y < n) ∧ d1u n (t - i) y = d1u n t x,g8i t,⟨rfl,_,x,0,rfl,by omega,hp,rfl⟩,?_⟩
   generalize d1u n t x = R at *
   rintro _ _ w2 ⟨rfl,v,y,i,rfl,hi,hy,hR⟩
   by_cases hit:i = t
   ·subst hit
    rw [Nat.sub_self] at hR
    have hR2:R = false:=by rw [← hR]; rfl
    subst hR2
    refine Xa0 ?_
    exact k
   ·obtain ⟨j,hj⟩:∃ j,t - i = j + 1:=⟨t - i - 1,by omega⟩
    rw [hj] at hR
    unfold d1u at hR
    by_cases hxn:y = n - 1
    ·rw [if_pos hxn] at hR
     subst hR
     rw [hm] at hxn
     refine Xa (An2 @hm @hxn) ?_
     exact k
    ·rw [if_neg hxn] at hR
     rw [hm] at hxn
     refine Xa (An2 @hm @hxn) ?_
     refine c0t n y y ?_
     rw [c0u n y y hn]
     refine Xa0 ?_
     refine ⟨⟨rfl,_,_,i + 1,rfl,by omega,⟨Int.emod_nonneg _ (by omega),Int.emod_lt_of_pos _ (by omega)⟩,?_⟩,?_⟩
     ·rw [show t - (i + 1) = j by omega]; exact hR
     ·simp only [d4s]; omega
theorem b3z:∀ p ∈ smallP,(2:Int) ≤ p ∧ p ≤ 37:=by decide
theorem f0g (k:∀ v W,Bw w W → Ints W v smallP → K v W):a0a Tryz.prog 262 #[] K w:=by
 apply d7t
 unfold f5w
 rw [a6u (S:=Instr.buildSlice 24 12 (((List.range 12).zip smallV.toList)).toArray) (by kernel_rfl)]
 have e:(Instr.buildSlice 24 12 (((List.range 12).zip smallV.toList)).toArray).run Tryz.prog w = .ok (.slice (some ⟨w.heap.size,0,none⟩) 12 12) (w.alloc (.cells (smallP.map (Value.int .i64)).toArray 3)):=by kernel_rfl
 rw [e]
 exact k _ _ ((Below.refl _ w).alloc (rL) _) (a5d w smallP _ 12 (fun n hn=>by have:=b3z n hn; unfold I64; omega) (by decide))
theorem c7y {n:Int} (hf:smallP.find? (fun p=>decide (n % p = 0)) = none) (h1:2 ≤ n):37 < n:=by
 have hnd:=List.find?_eq_none.1 hf
 have g:∀ p ∈ smallP,¬ n % p = 0:=fun p hp=>by simpa using hnd p hp
 have hs:∀ m:Nat,m < 38 → 2 ≤ m → ∃ p ∈ smallP,(m:Int) % p = 0:=by decide +kernel
 obtain ⟨m,rfl⟩:=c6v n (by omega)
 by_cases hm:m < 38
 ·obtain ⟨p,hp,hp0⟩:=hs m hm (by omega)
  exact absurd hp0 (g p hp)
 ·omega
def h2r (n:Int) (W:World) (l:List Value) (w':World):Prop:=w' = W ∧ ∃ (v:Value) (i:Nat),l = [v,.int .i64 (i:Int)] ∧ i ≤ 12 ∧ smallP.find? (fun p=>decide (n % p = 0)) = (smallP.drop i).find? (fun p=>decide (n % p = 0))
def g8t (n:Int) (W:World) (l:List Value) (w':World):Prop:=w' = W ∧ ∃ (v:Value) (i:Nat),l = [v,.int .i64 (i:Int)] ∧ i ≤ 12 ∧ smallP.all (fun p=>b1q n p) = (smallP.drop i).all (fun p=>b1q n p)
def g0b (l:List Value) (_:World):Nat:=match l with | [_,.int _ i]=>12 - i.toNat | _=>0
theorem d0m (x:Value) (q:IntKind) (i:Int) (w:World):g0b [x,.int q i] w = 12 - i.toNat:=rfl
theorem c4f (n:Int) (k:∀ w',Bw w w' → K (.bool (a8r n)) w'):a0a Tryz.prog 213 #[.int .i64 n] K w:=by
 apply d7u
 unfold f5x
 unfold a8r at k
 by_cases h1:n < 2
 ·rw [if_pos (.inl h1)] at k
  refine Xa @h1 ?_
  exact k _ (bR)
 by_cases h2:2305843009213693952 ≤ n
 ·rw [if_pos (.inr h2)] at k
  refine Xa (An2 @h1 @h2) ?_
  exact k _ (bR)
 rw [if_neg (by omega)] at k
 have hn:okN n:=⟨by omega,by omega⟩
 refine Xa (An2 @h1 @h2) ?_
 refine f0g (fun v W hb hi=>?_)
 have hlen:smallP.length = 12:=rfl
 obtain ⟨ad,c,rfl⟩:=hi.isSlice
 refine ⟨h2r n W,g0b,⟨rfl,_,0,rfl,by omega,rfl⟩,?_⟩
 rintro _ _ w1 ⟨rfl,u,i,rfl,hi12,hf⟩
 by_cases h12:i = 12
 ·subst h12
  rw [show smallP.drop 12 = [] from rfl,List.find?_nil] at hf
  rw [hf] at k
  simp only at k
  have hbig:=c7y hf (by omega)
  refine Xa0 ?_
  refine ⟨g8t n w1,g0b,⟨rfl,_,0,rfl,by omega,rfl⟩,?_⟩
  rintro _ _ w2 ⟨rfl,u2,i,rfl,hi2,hall⟩
  by_cases hi12:i = 12
  ·subst hi12
   rw [show smallP.drop 12 = [] from rfl,List.all_nil] at hall
   rw [hall] at k
   refine Xa0 ?_
   exact k _ hb
  ·rw [List.drop_eq_getElem_cons (by omega),List.all_cons] at hall
   have hr:=b3z _ (List.getElem_mem (show i < smallP.length by omega))
   obtain ⟨b1,o1,rfl,hb1,ca,ra,_⟩:=hi.at (i:=i) (by omega)
   generalize smallP[i] = p at *
   refine Xa (ca _ (bR)) ?_
   refine d2o n p hn (by omega) ?_
   cases hps:b1q n p with
   | false=>
    rw [hps,bF] at hall
    rw [hall] at k
    refine Xa0 ?_
    exact k _ hb
   | true=>
    rw [hps,bT] at hall
    refine Xa0 ?_
    refine ⟨⟨rfl,_,i + 1,rfl,by omega,hall⟩,?_⟩
    simp only [d0m]; omega
 ·rw [List.drop_eq_getElem_cons (by omega)] at hf
  have hr:=b3z _ (List.getElem_mem (show i < smallP.length by omega))
  obtain ⟨b1,o1,rfl,hb1,ca,ra,_⟩:=hi.at (i:=i) (by omega)
  generalize smallP[i] = p at *
  have er:n.tmod p = n % p:=Int.tmod_eq_emod_of_nonneg (by omega)
  by_cases hd:n % p = 0
  ·rw [List.find?_cons_of_pos (by simpa using hd)] at hf
   rw [hf] at k
   have k:=k _ hb
   simp only at k
   refine Xa (An3 (ca _ (bR)) @er @hd) ?_
   exact k
  ·rw [List.find?_cons_of_neg (by simpa using hd)] at hf
   refine Xa (An3 (ca _ (bR)) @er @hd) ?_
   refine ⟨⟨rfl,_,i + 1,rfl,by omega,hf⟩,?_⟩
   simp only [d0m]; omega
set_option maxHeartbeats 1000000 in
theorem b1t (g:Grp) (hg:e6b g) (k:∀ w',Bw w w' → K (.bool (a2m g)) w'):a0a Tryz.prog 154 #[d4u g] K w:=by
 apply d7v
 unfold f5y
 refine b5y g fun b W hW hb c0 c1 c2=>?_
 have n1:=b8x (g:=g)
 have n2:=b8y (g:=g)
 obtain ⟨P,Q,G⟩:=g
 obtain ⟨hP,hQ,hG⟩:=hg
 unfold I64 at hP hQ hG
 simp only at hP hQ hG n1 n2 c0 c1 c2
 have hr:=Below.refl W.heap.size W
 have k1:∀ w',a2m ⟨P,Q,G⟩ = false → Bw W w' → K (.bool false) w':=fun w' e hb=>by rw [e] at k; exact k w' (hW.on hb)
 have k2:∀ w' v,a2m ⟨P,Q,G⟩ = v → Bw W w' → K (.bool v) w':=fun w' v e hb=>by rw [e] at k; exact k w' (hW.on hb)
 clear k
 repeat (any_goals (first
 | (with_reducible first|((refine a9c ?_); first|refine zD ?_|((refine a6c ?_); first|refine zI ?_|refine zJ ?_|refine zK (fun hg=>?_) fun hg=>?_)|((refine c4p ?_); first|refine zO ?_|refine zP ?_|refine zQ (fun hg=>?_) fun hg=>?_))|((refine a2x ?_); first|refine yB ?_|refine yD ?_|refine yE ?_|refine yF ?_|refine yG ?_)|((refine a1n ?_); first|refine yL ?_|refine yP (fun hg=>?_) fun hg=>?_))
 | ((with_reducible refine oG fun X Y=>?_); simp [go_sem,c0,c1,c2,hr]; (try simp (disch:=omega) only [a0u,a2y,a1r]); apply Y; clear Y X)))
 all_goals try exact k1 _ (n1 (by omega)) hr
 refine c4f Q (fun w1 h1=>?_)
 have n2:=n2 (by omega)
 cases hq:a8r Q with
 | false=>
  have n2:a2m ⟨P,Q,G⟩ = false:=by rw [n2,hq]; rfl
  refine Xa0 ?_
  exact k1 _ n2 h1
 | true=>
  rw [hq,bT] at n2
  refine Xa (An2 @c0 @h1) ?_
  refine c4f P (fun w2 h2=>?_)
  have h2:=h1.on h2
  cases hp:a8r P with
  | false=>
   have n2:a2m ⟨P,Q,G⟩ = false:=by rw [n2,hp]; rfl
   refine Xa0 ?_
   exact k1 _ n2 h2
  | true=>
   rw [hp,bT] at n2
   obtain ⟨q,hq'⟩:=c6v Q (by omega)
   subst hq'
   refine Xa (An4 @c0 @c1 @c2 @h2) ?_
   refine c0v P G q ⟨by omega,by omega⟩ (by omega) ?_
   rw [Int.toNat_natCast] at n2
   generalize pw P G q = z at *
   refine Xa0 ?_
   exact k2 _ _ n2 h2
@[reducible] def g5q (g:Grp):List Value:=[.int .i64 g.P,.int .i64 g.Q,.int .i64 g.G]
def g7u (g:Grp) (x:Int):Bool:=decide (1 ≤ x) && decide (x < g.P) && decide (pw g.P x g.Q.toNat = 1)
theorem b9p (g:Grp) (x:Int) (hP:okN g.P) (hQ:0 ≤ g.Q ∧ g.Q < 9223372036854775808) (k:∀ w',Bw w w' → K (.bool (g7u g x)) w'):a0a Tryz.prog 214 #[d4u g,.int .i64 x] K w:=by
 apply d7w
 unfold f5z
 refine a1b (cs:=g5q g) rfl (.start w) fun b W hk hb1 hb=>?_
 have k:=k W hk.below
 unfold g7u at k
 have hp1:=hP.1
 by_cases h1:1 ≤ x
 ·by_cases h2:x < g.P
  ·rw [decide_eq_true h1,decide_eq_true h2,bT,bT] at k
   obtain ⟨q,hq⟩:=c6v g.Q hQ.1
   refine Xa (An3 hk.cells @h1 @h2) ?_
   have e:(Value.int .i64 g.Q) = .int .i64 (q:Int):=by rw [hq]
   rw [e]
   refine c0v g.P x q hP (by omega) ?_
   rw [hq,Int.toNat_natCast] at k
   generalize pw g.P x q = z at *
   refine Xa0 ?_
   exact k
  ·rw [decide_eq_false h2] at k
   refine Xa (An3 hk.cells @h1 @h2) ?_
   simpa using k
 ·rw [decide_eq_false h1] at k
  refine Xa (An2 hk.cells @h1) ?_
  simpa using k
theorem a8d {g:Grp} (h:a2m g = true):okN g.P ∧ okN g.Q ∧ 5 ≤ g.Q ∧ 2 ≤ g.G:=by
 unfold a2m at h
 split at h
 ·cases h
 rename_i hn
 exact ⟨⟨by omega,by omega⟩,⟨by omega,by omega⟩,by omega,by omega⟩
theorem d0n {g:Grp} (h:a2m g = true) (x:Int):a9d g x = g7u g x:=by
 unfold a9d g7u; rw [h,Bool.and_true]
theorem c7z (g:Grp) (x:Int) (hg:e6b g) (k:∀ w',Bw w w' → K (.bool (a9d g x)) w'):a0a Tryz.prog 164 #[d4u g,.int .i64 x] K w:=by
 apply d7x
 unfold f6a
 refine a1b (cs:=g5q g) rfl (.start w) fun b W hk hb1 hb=>?_
 have e0:a9d g x = (decide (1 ≤ x) && decide (x < g.P) && a2m g && decide (pw g.P x g.Q.toNat = 1)):=rfl
 by_cases h1:1 ≤ x
 ·by_cases h2:x < g.P
  ·refine Xa (An3 hk.cells @h1 @h2) ?_
   refine b1t g hg (fun w1 h=>?_)
   have hk:=hk.next h
   cases hv:a2m g with
   | false=>
    refine Xa hk.cells ?_
    have k:=k _ hk.below
    rw [e0,hv] at k
    simpa using k
   | true=>
    have hf:=a8d hv
    have hq:=hf.2.1.1
    have hq2:=hf.2.1.2
    refine Xa hk.cells ?_
    refine b9p g x hf.1 ⟨by omega,by omega⟩ (fun w2 h=>?_)
    have hk:=hk.next h
    refine Xa0 ?_
    have k:=k _ hk.below
    rw [d0n hv] at k
    exact k
  ·have k:=k _ hk.below
   rw [e0,decide_eq_false h2] at k
   refine Xa (An3 hk.cells @h1 @h2) ?_
   simpa using k
 ·have k:=k _ hk.below
  rw [e0,decide_eq_false h1] at k
  refine Xa (An2 hk.cells @h1) ?_
  simpa using k
theorem c4g (g:Grp) (x n:Int) (k:∀ w',Bw w w' → K (.int .i64 (a6i g x n)) w'):a0a Tryz.prog 79 #[d4u g,.int .i64 x,.int .i64 n] K w:=by
 apply e7n
 unfold g3t
 refine a1b (cs:=g5q g) rfl (.start w) fun b W hk hb1 hb=>?_
 unfold a6i at k
 refine Xa hk.cells ?_
 refine b0r g.P ?_
 by_cases hp:okN g.P
 ·refine Xa hk.cells ?_
  refine b0r g.Q ?_
  by_cases hq:okN g.Q
  ·rw [if_pos ⟨hp,hq⟩] at k
   refine Xa hk.cells ?_
   refine ⟨Kn w _,hk.drew,rfl,?_⟩
   repeat (any_goals (first
   | (with_reducible refine pX ?_)
   | ((with_reducible refine b4u ?_); (with_reducible refine a3h ⟨_,rfl⟩ (fun W0 hW0=>by (refine oG (fun X Y=>?_)); simp [go_sem,hW0.cells]; (first | exact Y _ _ ⟨rfl,rfl⟩ | exact ⟨by omega,Y _ _ ⟨rfl,rfl⟩⟩)) ?_))))
   refine ⟨Nx,?_⟩
   have hq1:=hq.1
   have hq2:=hq.2
   have a3:=Int.emod_nonneg n (b:=g.Q) (by omega)
   have a4:=Int.emod_lt_of_pos n (b:=g.Q) (by omega)
   obtain ⟨m,hm⟩:=c6v (n % g.Q) a3
   rw [hm] at k
   rw [Int.toNat_natCast] at k
   apply a2l
   ·(intro w9 h9; repeat (intro v9 e9; try (obtain rfl:=e9)))
    refine a9k g.Q n hq ?_
    rw [hm]
    exact ⟨h9,bR,rfl⟩
   (intro w9 h9; repeat (intro v9 e9; try (obtain rfl:=e9)))
   refine c0v g.P x m hp (by omega) ?_
   exact k _ h9.below
  ·rw [if_neg (fun h=>hq h.2)] at k
   refine Xa hk.cells ?_
   exact k _ hk.below
 ·rw [if_neg (fun h=>hp h.1)] at k
  refine Xa hk.cells ?_
  exact k _ hk.below
def h2t (g:Grp) (R:Int) (L:List (Addr × Value)) (ps:List (Int × Int)) (w0:World) (l:List Value) (w':World):Prop:=Kn w0 L w' ∧ ∃ (o:Int) (i:Nat),l = [.int .i64 o,.int .i64 (i:Int)] ∧ i ≤ ps.length ∧ b3s g o (ps.drop i) = R
def f0h (n:Nat) (l:List Value) (_:World):Nat:=match l with | [_,.int _ i]=>n - i.toNat | _=>0
theorem c0w (n:Nat) (x:Value) (q:IntKind) (i:Int) (w:World):f0h n [x,.int q i] w = n - i.toNat:=rfl
theorem b6l (g:Grp) {bv ev:Value} {bs es:List Int} (hbs:Ints w bv bs) (hes:Ints w ev es) (k:∀ w',Bw w w' → K (.tuple #[.int .i64 (a5t g bs es).1,.bool (a5t g bs es).2]) w'):a0a Tryz.prog 81 #[d4u g,bv,ev] K w:=by
 apply e7p
 unfold g3v
 refine a1b (cs:=g5q g) rfl (.start w) fun b W hk hb1 hb=>?_
 obtain ⟨bad,bc,rfl⟩:=hbs.isSlice
 obtain ⟨ead,ec,rfl⟩:=hes.isSlice
 have l1:=hbs.len
 have l2:=hes.len
 unfold a5t at k
 refine Xa hk.cells ?_
 refine b0r g.P ?_
 by_cases hp:okN g.P
 ·refine Xa hk.cells ?_
  refine b0r g.Q ?_
  by_cases hq:okN g.Q
  ·by_cases hl:bs.length = es.length
   ·rw [if_pos ⟨hp,hq,hl⟩] at k
    have hp0:=hp.1
    have e1:(1:Int).tmod g.P = 1 % g.P:=Int.tmod_eq_emod_of_nonneg (by omega)
    have hzl:(bs.zip es).length = bs.length:=by rw [List.length_zip]; omega
    refine Xa (An3 hk.cells @hl @e1) ?_
    refine ⟨h2t g (b3s g (1 % g.P) (bs.zip es)) _ (bs.zip es) w,f0h es.length,⟨hk,_,0,rfl,by omega,rfl⟩,?_⟩
    generalize b3s g (1 % g.P) (bs.zip es) = R at *
    rintro _ _ w1 ⟨hk,o,i,rfl,hi,he⟩
    rw [hzl] at hi
    by_cases hin:i = es.length
    ·rw [List.drop_of_length_le (by omega)] at he
     unfold b3s at he
     refine Xa0 ?_
     rw [he]
     exact k _ hk.below
    ·rw [c9o bs es i (by omega) (by omega)] at he
     unfold b3s at he
     obtain ⟨b1,o1,rfl,hb1,ca,ra,_⟩:=hbs.at (i:=i) (by omega)
     obtain ⟨b2,o2,rfl,hb2,cb,rb,_⟩:=hes.at (i:=i) (by omega)
     refine Xa0 ?_
     refine ⟨Kn w _,hk.drew,?_⟩
     repeat (any_goals ((with_reducible refine g1u ?_); (with_reducible refine e3d ⟨_,rfl⟩ (fun W0 hW0=>by (refine oG (fun X Y=>?_)); simp [go_sem,hW0.cells,ca _ hW0.below,cb _ hW0.below]; (first | exact Y _ _ ⟨rfl,rfl⟩ | exact ⟨by omega,Y _ _ ⟨rfl,rfl⟩⟩)) ?_)))
     refine a8i (fun W0 hW0=>c4g g _ _ (fun w' hw'=>⟨rfl,hW0.next hw'⟩)) ?_
     refine a8i (fun W0 hW0=>c0t _ _ _ ⟨rfl,hW0⟩) ?_
     intro w2 hk
     refine Xa0 ?_
     refine ⟨⟨hk,_,i + 1,rfl,by rw [hzl]; omega,he⟩,?_⟩
     simp only [c0w]; omega
   ·rw [if_neg (fun h=>hl h.2.2)] at k
    have hl':¬ (bs.length:Int) = es.length:=by omega
    refine Xa (An2 hk.cells @hl') ?_
    exact k _ hk.below
  ·rw [if_neg (fun h=>hq h.2.1)] at k
   refine Xa hk.cells ?_
   exact k _ hk.below
 ·rw [if_neg (fun h=>hp h.1)] at k
  refine Xa hk.cells ?_
  exact k _ hk.below
theorem c4h (g:Grp) (x:Int) (hv:a2m g = true) (k:∀ w',Bw w w' → K (.bool (a3x g x)) w'):a0a Tryz.prog 155 #[d4u g,.int .i64 x] K w:=by
 apply d7y
 unfold f6b
 refine a1b (cs:=g5q g) rfl (.start w) fun b W hk hb1 hb=>?_
 unfold a3x at k
 by_cases hx:x = 1
 ·have k:=k _ hk.below
  refine Xa (An2 hk.cells @hx) ?_
  simpa [hx] using k
 ·have hf:=a8d hv
  have hq:=hf.2.1.1
  have hq2:=hf.2.1.2
  refine Xa (An2 hk.cells @hx) ?_
  refine b9p g x hf.1 ⟨by omega,by omega⟩ (fun w2 h=>?_)
  have k:=k _ (hk.next h).below
  rw [d0n hv] at k
  refine Xa0 ?_
  simpa [hx] using k
def h2u (s:Stp) (L:List (Addr × Value)) (R:Bool) (w0:World) (l:List Value) (w':World):Prop:=Kn w0 L w' ∧ ∃ (v:Value) (i:Nat),l = [v,.int .i64 (i:Int)] ∧ i ≤ s.bases.length ∧ (s.bases.drop i).all (a3x s.g) = R
theorem a8l (s:Stp) {v:Value} (hs:SetR w s v) (k:∀ w',Bw w w' → K (.bool (a1u s)) w'):a0a Tryz.prog 76 #[b0d s v] K w:=by
 apply e7o
 unfold g3u
 obtain ⟨ad,c,rfl⟩:=hs.ints.isSlice
 refine a1b (cs:=a9w s (.slice ad s.bases.length c)) rfl (.start w) fun b W hk hb1 hb=>?_
 have k2:∀ w' r,a1u s = r → Bw w w' → K (.bool r) w':=fun w' r e hb=>by rw [← e]; exact k w' hb
 have e0:a1u s = (a2m s.g && decide (2 ≤ s.bases.length) && decide (s.bases.length ≤ 7) && s.bases.all (a3x s.g) && a3x s.g s.blind):=rfl
 have hl:=hs.ints.len
 clear k
 refine Xa hk.cells ?_
 refine b1t s.g hs.grp (fun w1 h1=>?_)
 have hk:=hk.next h1
 clear h1 hb1
 cases hv:a2m s.g with
 | false=>
  refine Xa0 ?_
  exact k2 _ _ (by rw [e0,hv]; simp) hk.below
 | true=>
  repeat (any_goals (first
  | (with_reducible first|((refine a9c ?_); first|refine zC ?_|refine zD ?_|((refine a6c ?_); first|refine zI ?_|refine zJ ?_|refine zK (fun hg=>?_) fun hg=>?_))|((refine a2x ?_); first|refine yB ?_|refine yC ?_|refine yD ?_|refine yE ?_)|refine yL ?_)
  | ((with_reducible refine oG fun X Y=>?_); simp [go_sem,hk.cells]; apply Y; clear Y X)))
  ·exact k2 _ _ (by rw [e0]; simp; omega) hk.below
  ·exact k2 _ _ (by rw [e0]; simp; omega) hk.below
  refine c4h s.g s.blind hv (fun w3 h3=>?_)
  have hk:=hk.next h3
  have e1:a1u s = (s.bases.all (a3x s.g) && a3x s.g s.blind):=by
   rw [e0,hv,decide_eq_true (by omega:2 ≤ s.bases.length),decide_eq_true (by omega:s.bases.length ≤ 7)]; rfl
  cases ho:a3x s.g s.blind with
  | false=>
   refine Xa hk.cells ?_
   exact k2 _ _ (by rw [e1,ho,Bool.and_false]) hk.below
  | true=>
  rw [ho,Bool.and_true] at e1
  refine Xa0 ?_
  refine ⟨h2u s _ (s.bases.all (a3x s.g)) w,f0h s.bases.length,⟨hk,_,0,rfl,by omega,rfl⟩,?_⟩
  rw [e1] at k2
  generalize s.bases.all (a3x s.g) = R at *
  rintro _ _ w2 ⟨hk,u1,i,rfl,hi,hall⟩
  by_cases hin:i = s.bases.length
  ·rw [List.drop_of_length_le (by omega),List.all_nil] at hall
   refine Xa hk.cells ?_
   exact k2 _ _ hall.symm hk.below
  ·rw [List.drop_eq_getElem_cons (by omega),List.all_cons] at hall
   obtain ⟨b1,o1,rfl,hb1,ca,ra,_⟩:=hs.ints.at (i:=i) (by omega)
   refine Xa hk.cells ?_
   refine ⟨Kn w _,hk.drew,rfl,?_⟩
   repeat (any_goals (first
   | (with_reducible refine pX ?_)
   | ((with_reducible refine b4u ?_); (with_reducible refine a3h ⟨_,rfl⟩ (fun W0 hW0=>by (refine oG (fun X Y=>?_)); simp [go_sem,hW0.cells,ca _ hW0.below]; (first | exact Y _ _ ⟨rfl,rfl⟩ | exact ⟨by omega,Y _ _ ⟨rfl,rfl⟩⟩)) ?_))))
   refine ⟨Nx,fun w1 hk=>?_⟩
   refine c4h s.g _ hv (fun w3 h3=>?_)
   have hk:=hk.next h3
   cases ho:a3x s.g s.bases[i] with
   | false=>
    rw [ho,bF] at hall
    refine Xa0 ?_
    exact k2 _ _ hall.symm hk.below
   | true=>
    rw [ho,bT] at hall
    refine Xa0 ?_
    refine ⟨⟨hk,_,i + 1,rfl,by omega,hall⟩,?_⟩
    simp only [c0w]; omega
end
end Go.Proofs
namespace Go.Proofs.Cd
open Go Go.Sh Go.RowKit Go.Lib CodeSpec
theorem b3f (m:Nat) (hm:m ≤ 9223372036854775808) {K:VK} {w:World} (k:∀ w',Bw w w' → K (.string ⟨(decDigits m).toArray⟩) w'):a0a Tryz.prog 140 #[.int .i64 (-(m:Int))] K w:=by
 induction m using Nat.strongRecOn generalizing K w with
 | ind m ih=>
 apply d7z
 unfold f6c
 have hr:(-(m:Int)).tmod 10 = -((m % 10:Nat):Int):=by rw [Int.neg_tmod,Int.tmod_eq_emod_of_nonneg (by omega)]; omega
 have hq:(-(m:Int)).tdiv 10 = -((m / 10:Nat):Int):=by rw [Int.neg_tdiv,Int.tdiv_eq_ediv_of_nonneg (by omega)]; omega
 obtain ⟨d,hd⟩:∃ d,d = m % 10:=⟨_,rfl⟩
 obtain ⟨q,hqq⟩:∃ q,q = m / 10:=⟨_,rfl⟩
 rw [← hd] at hr
 rw [← hqq] at hq
 have hd10:d < 10:=by omega
 have hconv:(convert 242 9 (.slice (some ⟨w.heap.size,0,none⟩) 1 1)).run Tryz.prog (w.alloc (.cells #[.int .u8 (48 + (d:Int))] 5)) = .ok (.string ⟨[UInt8.ofNat (48 + d)].toArray⟩) (w.alloc (.cells #[.int .u8 (48 + (d:Int))] 5)):=by
  refine run_convert_bytes_back (P:=Tryz.prog) _ 242 9 5 ⟨w.heap.size,0,none⟩ 1 [UInt8.ofNat (48 + d)] Tryz.underlying242 (by kernel_rfl) Tryz.underlying9 ?_
  intro j hj
  obtain rfl:j = 0:=by simpa using hj
  have hdn:=a4x d hd10
  rw [addr_add]
  unfold World.cell?
  rw [heap_alloc_new]
  simp only [List.getElem_cons_zero,hdn]
  simp
 have hba:Below w.heap.size w (w.alloc (.cells #[.int .u8 (48 + (d:Int))] 5)):=(bR).alloc (rL) _
 have hdl:=a2u q 19 (by omega) (by omega)
 repeat (any_goals (first
 | (with_reducible ((refine a1n ?_); refine yP (fun hg=>?_) fun hg=>?_))
 | ((with_reducible refine oG fun X Y=>?_); simp [go_sem,hr,hq,hconv]; (try simp (disch:=omega) only [a0u,a2y,a1r]); apply Y; clear Y X)))
 ·refine K_eq (k _ hba) ?_
  have:m < 10:=by omega
  rw [decDigits,dif_pos this]
  have:d = m:=by omega
  rw [this]
  simp
 ·refine ih q (by omega) (by omega) ?_
  intro w' hb
  refine Xa0 ?_
  refine K_eq (k _ (hba.trans (hb.mono (by simp)))) ?_
  have:¬ m < 10:=by omega
  rw [decDigits.eq_def m,dif_neg this,hd,hqq]
  simp
theorem c2a (n:Int) (h:n < 0):itoa n = 45 :: decDigits n.natAbs:=by rw [itoa,if_pos h]
theorem c2b (n:Int) (h:¬ n < 0):itoa n = decDigits n.natAbs:=by
 rw [itoa,if_neg h]
 congr 1
 omega
theorem g0w (n:Int) (h:InR n):(decDigits n.natAbs).length ≤ 19:=by
 obtain ⟨h1,h2⟩:=h
 exact a2u n.natAbs 19 (by omega) (by omega)
theorem qInt_ok (n:Int) (hn:InR n) {K:VK} {w:World} (k:∀ w',Bw w w' → K (.string ⟨(a0n n).toArray⟩) w'):a0a Tryz.prog 88 #[.int .i64 n] K w:=by
 apply e7q
 unfold g3w
 have hl:=g0w n hn
 have hn':=hn
 obtain ⟨h1,h2⟩:=hn'
 by_cases hneg:n < 0
 ·have e:n = -(n.natAbs:Int):=by omega
  refine Xa0 ?_
  conv=>enter [3]; rw [e]
  refine b3f n.natAbs (by omega) ?_
  intro w' hb
  refine Xa0 ?_
  exact K_eq (k _ hb) (by rw [a0n,c2a n hneg]; simp)
 ·have e:-n = -(n.natAbs:Int):=by omega
  refine Xa0 ?_
  rw [e]
  refine b3f n.natAbs (by omega) ?_
  intro w' hb
  refine Xa0 ?_
  exact K_eq (k _ hb) (by rw [a0n,c2b n hneg])
theorem d1a (m:Nat):itoa (m:Int) = decDigits m:=by
 rw [itoa,if_neg (by omega)]; simp
theorem qText_ok (s:List UInt8) (hs:s.length < 2^60) {K:VK} {w:World} (k:∀ w',Bw w w' → K (.string ⟨(a0t s).toArray⟩) w'):a0a Tryz.prog 68 #[.string ⟨s.toArray⟩] K w:=by
 apply e7r
 unfold g3x
 have hl:=a2u s.length 19 (by omega) (by omega)
 refine Xa0 ?_
 refine b3f s.length (by omega) ?_
 intro w' hb
 refine Xa0 ?_
 exact K_eq (k _ hb) (by simp [a0t,d1a])
theorem qNums_ok (xs:List (Int)) (v:Value) {K:VK} {w:World} (hrow:RowOf intV w v xs) (hx:∀ x ∈ xs,InR x) (hlen:(a2g (xs.map a0n)).length < 2^40)
  (k:∀ w',Bw w w' → K (.string ⟨(a2g (xs.map a0n)).toArray⟩) w'):a0a Tryz.prog 86 #[v] K w:=by
 apply e7s
 unfold g3y
 have hsz:(a2g (xs.map a0n)).length = (itoa (xs.length:Nat)).length + 1 + ((xs.map a0n).flatten).length + 1:=by simp [a2g]; omega
 have hxl:xs.length ≤ (xs.map a0n).flatten.length:=by
  rw [List.length_flatten]
  clear hrow hlen hsz k
  induction xs with
  | nil=>simp
  | cons x xs ih=>
   have:=ih (fun y hy=>hx y (List.mem_cons_of_mem _ hy))
   have h1:1 ≤ (a0n x).length:=by simp [a0n]; try omega
   simp only [List.length_cons,List.map_cons,List.sum_cons]
   omega
 have hdl:=a2u xs.length 19 (by omega) (by omega)
 obtain ⟨ad,c,rfl,hcell⟩:=hrow
 refine Xa0 ?_
 refine b3f xs.length (by omega) ?_
 intro w1 hb1
 refine Xa0 ?_
 refine ⟨fun l w'=>∃ (k:Nat),l = [.string ⟨(itoa (xs.length:Nat) ++ 91 :: ((xs.take k).map a0n).flatten).toArray⟩,.int .i64 k] ∧ k ≤ xs.length ∧ Bw w w',fun l _=>xs.length - (match l with | [_,.int _ n]=>n.toNat | _=>0),⟨0,by simp [d1a],by omega,hb1⟩,?_⟩
 rintro _ _ w3 ⟨j,rfl,hj,hb3⟩
 have hz3:=hb3.size
 simp only [List.getD_cons_zero,List.getD_cons_succ]
 have hfl:=flat_le a0n xs j
 by_cases hlt:j < xs.length
 ·rcases hcell with rfl | ⟨b,o,rfl,hbw,hcells⟩
  ·simp at hlt
  have hc:=hcells j hlt
  rw [← hb3.cell hbw] at hc
  simp only [intV] at hc
  have hix:=g7g (b:=b) (o:=o) (c:=c) hlt w3
  have hP:=hx xs[j] (List.getElem_mem hlt)
  have hfl1:=flat_le a0n xs (j + 1)
  rw [flat_snoc _ _ _ hlt,List.length_append] at hfl1
  have hgoal:∀ w4,Bw w3 w4 → ∃ k:Nat,([Value.string ⟨((itoa (xs.length:Nat) ++ 91 :: ((xs.take j).map a0n).flatten) ++ a0n xs[j]).toArray⟩,Value.int .i64 ((j:Int) + 1)] = [.string ⟨(itoa (xs.length:Nat) ++ 91 :: ((xs.take k).map a0n).flatten).toArray⟩,.int .i64 (k:Int)]) ∧ k ≤ xs.length ∧ Bw w w4:=
   fun w4 hb4=>⟨j + 1,by rw [flat_snoc _ _ _ hlt]; simp,hlt,hb3.trans (hb4.mono hz3)⟩
  obtain ⟨F,hF⟩:∃ F,F = itoa (xs.length:Nat) ++ 91 :: ((xs.take j).map a0n).flatten:=⟨_,rfl⟩
  have hFl:F.length ≤ 2^41:=by rw [hF,List.length_append,List.length_cons]; omega
  obtain ⟨E,hE⟩:∃ E,E = a0n xs[j]:=⟨_,rfl⟩
  rw [← hF,← hE] at hgoal
  rw [← hE] at hfl1
  rw [← hF]
  repeat (any_goals (first
  | (rw [kI,a2b,hix,c8l])
  | (with_reducible refine yN ?_)
  | ((with_reducible refine oG fun X Y=>?_); simp [go_sem,hc]; apply Y; clear Y X)))
  refine qInt_ok _ hP ?_
  intro w4 hb4
  rw [← hE]
  refine Xa0 ?_
  exact ⟨hgoal w4 hb4,by simp; omega⟩
 ·obtain rfl:j = xs.length:=by omega
  rw [List.take_length] at hfl ⊢
  have hfin:∀ F,F = itoa (xs.length:Nat) ++ 91 :: ((xs.map a0n).flatten) → a2g (xs.map a0n) = F ++ [93] ∧ F.length < 2^41:=by
   rintro F rfl
   refine ⟨by simp [a2g],?_⟩
   rw [List.length_append,List.length_cons]; omega
  generalize itoa (xs.length:Nat) ++ 91 :: ((xs.map a0n).flatten) = F at *
  obtain ⟨hf1,hf2⟩:=hfin F rfl
  refine Xa0 ?_
  exact K_eq (k _ hb3) (by rw [hf1])
end Go.Proofs.Cd
namespace Go.Proofs
open Go Go.Sh Go.RowKit FdSpec TkSpec CodeSpec
section
variable {K:VK} {w w0:World} {L:List (Addr × Value)}
theorem g5r (n lo hi:Int) (h:K (.bool (decide (lo ≤ n) && decide (n ≤ hi))) w):a0a Tryz.prog 163 #[.int .i64 n,.int .i64 lo,.int .i64 hi] K w:=by
 apply d8f
 unfold f6i
 by_cases h1:lo ≤ n
 ·refine Xa @h1 ?_
  simpa [h1] using h
 ·refine Xa @h1 ?_
  simpa [h1] using h
theorem c8a (s:Stp) {dv ev:Value} {es:List Int} (hs:SetR w s dv) (he:Ints w ev es) (k:∀ w',Bw w w' → K (.int .i64 (a5t s.g s.bases es).1) w'):a0a Tryz.prog 160 #[b0d s dv,ev] K w:=by
 apply d8g
 unfold f6j
 have hi:=hs.ints
 obtain ⟨ad,c,rfl⟩:=hs.ints.isSlice
 refine a1b (cs:=a9w s (.slice ad s.bases.length c)) rfl (.start w) fun b W hk hb1 hb=>?_
 refine Xa hk.cells ?_
 refine b6l s.g (hi.next hk.below) (he.next hk.below) (fun w2 h2=>?_)
 refine Xa0 ?_
 exact k _ (hk.next h2).below
theorem h2v {T:TypeId} (x:Int) (k:∀ v W,Bw w W → OwnI W w.heap.size v [x] → K v W):oM Tryz.prog (.buildSlice 24 1 #[(0,.tmp 0)]) T [.int .i64 x] K w:=by
 rw [a3t]
 have e:(Instr.buildSlice 24 1 #[(0,.int .i64 x)]).run Tryz.prog w = .ok (.slice (some ⟨w.heap.size,0,none⟩) 1 1) (w.alloc (.cells #[.int .i64 x] 3)):=by kernel_rfl
 rw [e]
 exact k _ _ ((Below.refl _ w).alloc (rL) _) ⟨rfl,.inr ⟨w.heap.size,1,#[.int .i64 x],rfl,rL,heap_alloc_new w _,rL,by decide,rfl,rfl⟩⟩
theorem g0c {B:Nat} {T:TypeId} {v xv:Value} {l m:List Int} (ho:OwnI w B v l) (hB:B ≤ w.heap.size) (hx:Ints w xv m) (hl:l.length + m.length < 1099511627776)
  (k:∀ v' w',OwnI w' B v' (l ++ m) → Below B w w' → K v' w'):oM Tryz.prog (.call { callee:=.builtin .append,args:=#[.tmp 0,.tmp 1],argTypes:=#[24,24] }) T [v,xv] K w:=by
 obtain ⟨⟨ad,c,rfl,h0,hc⟩,hr,_⟩:=hx
 refine a8y 24 T 3 ((Tryz.prog.info? 3).getD default) (.int .i64 0) 1 8 (by kernel_rfl) (by kernel_rfl) (by kernel_rfl) (by kernel_rfl) (by kernel_rfl) (by kernel_rfl) (by omega) (a8x ho (Nat.zero_le _)) (m.map (Value.int .i64)) (by simp) h0 ?_ ?_ (by simp only [maxLen]; omega) (by omega) ?_
 ·rintro a rfl j u hj
  rcases hc with rfl | ⟨b,o,hbo,hlt,hcell⟩
  ·simp at hj
  ·cases hbo
   rw [a4n]
   exact hcell j u (by rw [flat_int]; exact hj)
 ·intro u hu
  obtain ⟨x,_,rfl⟩:=List.mem_map.1 hu
  rfl
 ·intro v' w' ho' hg hv
  have hbl:∀ i,v.ownBlock = some i → B ≤ i:=fun i hi=>(a0x ho hi).2.1
  refine k v' w' ?_ ((Below.refl B w).grown hg hB hbl)
  have e2:a3a Sh.intC (l ++ m) = a3a Sh.intC l ++ m.map (Value.int .i64):=by rw [flat_int,flat_int]; simp
  show w'.ownsRow B 3 1 v' (l ++ m).length (a3a Sh.intC (l ++ m))
  rw [List.length_append,e2]
  exact a8o ho' (fun i hi=>(hv i hi).elim (hbl i) (fun h=>Nat.le_trans hB h))
theorem g0d {lv:Value} {l:List Int} (hl:Ints w lv l) (hll:l.length < 1000000) (k:∀ v w',Bw w w' → Ints w' v (b3l l) → K v w'):a0a Tryz.prog 161 #[lv] K w:=by
 apply d8h
 unfold f6k
 refine h2v 1 fun v W h1 ho=>?_
 refine g0c ho h1.size (hl.next h1) (by simp; omega) (fun v' w' ho' h2=>?_)
 exact k _ _ (h1.trans h2) (ho'.ints (by
  intro n hn
  rcases List.mem_cons.1 hn with rfl | hn
  ·exact ⟨by decide,by decide⟩
  ·exact hl.rng n hn) (by simp; omega))
def RsJ (s:Stp) (L:List (Addr × Value)) (R:Bool) (l:List Int) (w0:World) (vs:List Value) (w':World):Prop:=Kn w0 L w' ∧ ∃ (v:Value) (i:Nat),vs = [v,.int .i64 (i:Int)] ∧ i ≤ l.length ∧ a5h s 0 (l.drop i) = R
theorem d2p (s:Stp) (m x:Int) (l:List Int):a5h s m (x :: l) = ((decide (m ≤ x) && decide (x < s.g.Q)) && a5h s m l):=rfl
theorem e1j (s:Stp) (n:Nat) {dv lv:Value} {l:List Int} (hQ:1 ≤ s.g.Q) (hs:SetR w s dv) (hl:Ints w lv l) (hn:n < 1000000) (k:∀ w',Bw w w' → K (.bool (decide (l.length = n) && a5h s 0 l)) w'):a0a Tryz.prog 215 #[b0d s dv,lv,.int .i64 (n:Int)] K w:=by
 apply d8i
 unfold f6l
 obtain ⟨ad,c,rfl⟩:=hs.ints.isSlice
 refine a1b (cs:=a9w s (.slice ad s.bases.length c)) rfl (.start w) fun b W hk hb1 hb=>?_
 obtain ⟨ad2,c2,rfl⟩:=hl.isSlice
 have hll:=hl.len
 have hQR:=hs.grp.2.1
 unfold I64 at hQR
 by_cases hln:l.length = n
 ·have hln':(l.length:Int) = (n:Int):=by omega
  rw [decide_eq_true hln,bT] at k
  refine Xa @hln' ?_
  refine ⟨RsJ s _ (a5h s 0 l) l w,f0h l.length,⟨hk,_,0,rfl,by omega,rfl⟩,?_⟩
  generalize a5h s 0 l = R at *
  rintro _ _ w1 ⟨hk,u,i,rfl,hi,ha⟩
  by_cases hin:i = l.length
  ·rw [List.drop_of_length_le (by omega)] at ha
   refine Xa @hln' ?_
   rw [show R = true from ha.symm] at k
   exact k _ hk.below
  ·rw [List.drop_eq_getElem_cons (by omega),d2p] at ha
   obtain ⟨b1,o1,rfl,hb1,ca,ra,_⟩:=hl.at (i:=i) (by omega)
   have hx:=ra
   generalize l[i] = x at *
   unfold I64 at hx
   have hin2:(decide ((0:Int) ≤ x) && decide (x ≤ s.g.Q - 1)) = (decide (0 ≤ x) && decide (x < s.g.Q)):=by
    congr 1
    exact decide_eq_decide.2 ⟨fun h=>by omega,fun h=>by omega⟩
   refine Xa @hln' ?_
   have qw:IntKind.i64.wrap (s.g.Q - 1) = s.g.Q - 1:=a0u _ (by omega) (by omega)
   refine ⟨Kn w _,hk.drew,rfl,?_⟩
   clear hk
   repeat (any_goals (first
   | (with_reducible refine pX ?_)
   | ((with_reducible refine b4u ?_); (with_reducible refine a3h ⟨_,rfl⟩ (fun W0 hW0=>by (refine oG (fun X Y=>?_)); simp [go_sem,ca _ hW0.below,hW0.cells,qw]; (first | exact Y _ _ ⟨rfl,rfl⟩ | exact ⟨by omega,Y _ _ ⟨rfl,rfl⟩⟩)) ?_))))
   refine ⟨Nx,fun w2 hk=>?_⟩
   refine g5r x 0 _ ?_
   rw [hin2]
   cases hb:(decide ((0:Int) ≤ x) && decide (x < s.g.Q)) with
   | false=>
    rw [hb,bF] at ha
    subst ha
    refine Xa0 ?_
    exact k _ hk.below
   | true=>
    rw [hb,bT] at ha
    refine Xa0 ?_
    refine ⟨⟨hk,_,i + 1,rfl,by omega,ha⟩,?_⟩
    simp only [c0w]; omega
 ·have hln':¬ (l.length:Int) = (n:Int):=by omega
  rw [decide_eq_false hln,bF] at k
  refine Xa @hln' ?_
  exact k _ hk.below
theorem b5m {s:Stp} (h:a1u s = true):5 ≤ s.g.Q ∧ a2m s.g = true ∧ 2 ≤ s.bases.length ∧ s.bases.length ≤ 7:=by
 have hl:=a8z h
 unfold a1u at h
 simp only [bA,dE] at h
 have hg:=h.1.1.1.1
 exact ⟨(a8d hg).2.2.1,hg,hl⟩
theorem c0x (s:Stp) {v lv:Value} {l:List Int} (hs:SetR w s v) (hl:Ints w lv l) (k:∀ w',Bw w w' → K (.bool (a7f s l).2) w'):a0a Tryz.prog 159 #[b0d s v,lv] K w:=by
 apply d8j
 unfold f6m
 obtain ⟨ad,c,rfl⟩:=hs.ints.isSlice
 refine a1b (cs:=a9w s (.slice ad s.bases.length c)) rfl (.start w) fun b W hk hb1 hb=>?_
 have hll:=hl.len
 have hbl:=hs.ints.len
 have e0:(a7f s l).2 = (a1u s && decide (l.length + 1 = s.bases.length) && a5h s 0 l && !decide (l.headD 0 = 0)):=by
  unfold a7f
  cases (a1u s && decide (l.length + 1 = s.bases.length) && a5h s 0 l && !decide (l.headD 0 = 0)) <;> rfl
 have k2:∀ w' r,(a1u s && decide (l.length + 1 = s.bases.length) && a5h s 0 l && !decide (l.headD 0 = 0)) = r → Bw w w' → K (.bool r) w':=fun w' r e hb=>by rw [← e,← e0]; exact k w' hb
 clear k e0
 refine Xa hk.cells ?_
 refine a8l s (hs.next hk.below) (fun w1 h=>?_)
 have hk:=hk.next h
 clear h hb1
 cases hv:a1u s with
 | false=>
  refine Xa0 ?_
  exact k2 _ _ (by rw [hv]; simp) hk.below
 | true=>
 have hq:=b5m hv
 refine Xa hk.cells ?_
 have en:(s.bases.length:Int) - 1 = ((s.bases.length - 1:Nat):Int):=by omega
 rw [en]
 refine e1j s _ (by omega) (hs.next hk.below) (hl.next hk.below) (by omega) (fun w2 h=>?_)
 have hk:=hk.next h
 clear h
 have ed:decide (l.length = s.bases.length - 1) = decide (l.length + 1 = s.bases.length):=decide_eq_decide.2 ⟨fun h=>by omega,fun h=>by omega⟩
 rw [ed]
 rw [hv,bT] at k2
 cases hr:(decide (l.length + 1 = s.bases.length) && a5h s 0 l) with
 | false=>
  refine Xa0 ?_
  exact k2 _ _ (by rw [hr]; rfl) hk.below
 | true=>
 rw [hr,bT] at k2
 simp only [bA,dE] at hr
 obtain ⟨ad2,c2,rfl⟩:=hl.isSlice
 obtain ⟨b1,o1,rfl,ca,ra⟩:=hl.headD (by omega)
 have hne:¬ l = []:=by intro h; rw [h] at hr; simp at hr; omega
 generalize l.headD 0 = h0 at *
 refine Xa (An3 hk.cells @hne (ca _ hk.below)) ?_
 exact k2 _ _ rfl hk.below
theorem f0i (s:Stp) {v lv:Value} {l:List Int} (hs:SetR w s v) (hl:Ints w lv l) (k:∀ w',Bw w w' → K (.int .i64 (a7f s l).1) w'):a0a Tryz.prog 80 #[b0d s v,lv] K w:=by
 apply e8a
 unfold g4g
 obtain ⟨ad,c,rfl⟩:=hs.ints.isSlice
 refine a1b (cs:=a9w s (.slice ad s.bases.length c)) rfl (.start w) fun b W hk hb1 hb=>?_
 refine Xa hk.cells ?_
 refine c0x s (hs.next hk.below) (hl.next hk.below) (fun w1 h=>?_)
 have hk:=hk.next h
 clear h hb1
 unfold a7f at k ⊢
 cases hc:(a1u s && decide (l.length + 1 = s.bases.length) && a5h s 0 l && !decide (l.headD 0 = 0)) with
 | false=>
  rw [hc] at k
  refine Xa0 ?_
  exact k _ hk.below
 | true=>
 rw [hc] at k
 simp only [bA,dE] at hc
 have hq:=b5m hc.1.1.1
 refine Xa0 ?_
 have hk:=hk.drew
 refine ⟨Nx { w1 with drawn:=w1.drawn + 1 },bR,rfl,?_⟩
 generalize ({ w1 with drawn:=w1.drawn + 1 }:World) = W at hk ⊢
 refine Xc (fun W0 hW0=>(hk.next hW0).cells) ?_
 refine ⟨Nx,b0h (fun v w'=>Ints w' v (b3l l)) (fun v w w1 hS h=>h.next hS) ?_ ?_⟩
 ·intro w2 h2
  exact g0d (hl.next (hk.next h2).below) (by omega) (fun v w3 h3 hi=>⟨h2.on h3,h3,hi⟩)
 intro w2 h2 v2 hi
 refine c8a s (hs.next (hk.next h2).below) hi (fun w3 h3=>?_)
 exact k _ ((hk.next h2).next h3).below
theorem g8u {s:Stp} (hQ:-9223372036854775808 < s.g.Q) (m x:Int):(decide (m ≤ x) && decide (x ≤ s.g.Q - 1)) = a5h s m [x]:=by
 show _ = ((decide (m ≤ x) && decide (x < s.g.Q)) && true)
 rw [Bool.and_true]
 congr 1
 exact decide_eq_decide.2 ⟨fun h=>by omega,fun h=>by omega⟩
def h1w (n:Nat) (l:List Value) (_:World):Nat:=match l with | [_,.int _ i]=>n - i.toNat | _=>0
theorem g0e (n:Nat) (u:Value) (k:IntKind) (i:Int) (w:World):h1w n [u,.int k i] w = n - i.toNat:=rfl
def RfJ (g:Grp) (R:Bool) (l:List Int) (w0:World) (vs:List Value) (w':World):Prop:=Bw w0 w' ∧ ∃ (u:Value) (i:Nat),vs = [u,.int .i64 (i:Int)] ∧ i ≤ l.length ∧ (l.drop i).all (a9d g) = R
theorem d2q (s:Stp) (t:Tkt) {v:Value} (ht:TktR t) (hs:SetR w s v) (k:∀ w',Bw w w' → K (.bool (a6f s t)) w'):a0a Tryz.prog 82 #[b0d s v,b7p t] K w:=by
 apply e8b
 unfold g4h
 obtain ⟨ad,c,rfl⟩:=hs.ints.isSlice
 refine a1b (cs:=a9w s (.slice ad s.bases.length c)) rfl (.start w) fun b W hk hb1 hb=>?_
 refine a1b (cs:=b4y t) rfl hk fun b2 W2 hk hb2 hbb=>?_
 have hQR:=hs.grp.2.1
 unfold I64 at hQR
 unfold a6f at k
 refine Xa hk.cells ?_
 refine a8l s (hs.next hk.below) (fun w1 h=>?_)
 have hk:=hk.next h
 clear h hb1 hb2
 cases hv:a1u s with
 | false=>
  rw [hv,bF,bF,bF] at k
  refine Xa0 ?_
  exact k _ hk.below
 | true=>
 have hq:=b5m hv
 rw [hv,bT] at k
 by_cases hm1:t.mark = 1
 ·rw [decide_eq_true hm1,Bool.not_true,bF,bF] at k
  refine Xa (An2 hk.cells @hm1) ?_
  exact k _ hk.below
 rw [decide_eq_false hm1,Bool.not_false,bT,Bool.and_comm] at k
 refine Xa (An2 hk.cells @hm1) ?_
 refine g5r t.r 0 _ ?_
 rw [g8u (by omega)]
 cases hn:a5h s 0 [t.r] with
 | false=>
  rw [hn,bF] at k
  refine Xa0 ?_
  exact k _ hk.below
 | true=>
 rw [hn,bT] at k
 repeat (any_goals (first
 | ((with_reducible refine mk5 t.mark t.first t.z t.a t.b ht.mark ht.first ht.z ht.a ht.b ?_); intro v8 W8 hb8 hi8)
 | (with_reducible first|refine zC ?_|refine yC ?_|refine yM ?_)
 | ((with_reducible refine oG fun X Y=>?_); simp [go_sem,hk.cells]; apply Y; clear Y X)))
 have hk:=hk.next hb8
 obtain ⟨ad8,c8,rfl⟩:=hi8.isSlice
 unfold a9a at k
 generalize [t.mark,t.first,t.z,t.a,t.b] = l at *
 have hll:=hi8.len
 refine ⟨RfJ s.g (l.all (a9d s.g)) l W8,h1w l.length,⟨bR,_,0,rfl,by omega,rfl⟩,?_⟩
 generalize l.all (a9d s.g) = R at *
 rintro _ _ w6 ⟨h6,u,i,rfl,hi,ha⟩
 have hk:=hk.next h6
 by_cases hin:i = l.length
 ·rw [List.drop_of_length_le (by omega),List.all_nil] at ha
  refine Xa0 ?_
  rw [← ha] at k
  exact k _ hk.below
 ·rw [List.drop_eq_getElem_cons (by omega),List.all_cons] at ha
  obtain ⟨b1,o1,rfl,hb1,ca,ra,_⟩:=hi8.at (i:=i) (by omega)
  refine Xa0 ?_
  have hk:=hk.drew
  have h6:=h6.on (.drawn (B:=w6.heap.size))
  refine ⟨Nx { w6 with drawn:=w6.drawn + 1 },bR,rfl,?_⟩
  generalize ({ w6 with drawn:=w6.drawn + 1 }:World) = W6 at hk h6 ⊢
  refine Xc (fun W0 hW0=>An2 ((hk.next hW0).cells) (ca _ (h6.on hW0))) ?_
  refine ⟨Nx,fun w7 h7=>?_⟩
  refine c7z s.g _ hs.grp (fun w8 h8=>?_)
  have hk:=(hk.next h7).next h8
  cases he:a9d s.g l[i] with
  | false=>
   rw [he,bF] at ha
   subst ha
   refine Xa0 ?_
   exact k _ hk.below
  | true=>
   rw [he,bT] at ha
   refine Xa0 ?_
   refine ⟨⟨(h6.on h7).on h8,_,i + 1,rfl,by omega,ha⟩,?_⟩
   simp only [g0e]; omega
end
end Go.Proofs
namespace Go.Proofs
open Go Go.Sh Go.RowKit FdSpec TkSpec CodeSpec PuSpec
section
variable {K:VK} {w w' w0 W W':World} {L:List (Addr × Value)}
set_option maxHeartbeats 1000000 in
theorem e1l (s:Stp) (lims:List Lim) (h:Hld) {v lv av yv kv:Value} (hs:SetR w s v) (hl:c5v w lv lims) (hh:HldR w h av yv kv) (k:∀ w',Bw w w' → K (.bool (b9o s lims h)) w'):a0a Tryz.prog 22 #[b0d s v,lv,b8c h av yv kv] K w:=by
 apply e8i
 unfold g4o
 obtain ⟨ad,c,rfl⟩:=hs.ints.isSlice
 obtain ⟨a1,c1,rfl⟩:=hh.attrs.isSlice
 obtain ⟨a2,c2,rfl⟩:=hh.ys.isSlice
 obtain ⟨a3,c3,rfl⟩:=hh.links.isSlice
 obtain ⟨a4,c4,rfl⟩:=hl.isSlice
 have k2:∀ w' r,b9o s lims h = r → Bw w w' → K (.bool r) w':=fun w' r e hb=>by rw [← e]; exact k w' hb
 clear k
 unfold b9o at k2
 have hbl:=hs.ints.len
 have hal:=hh.attrs.len
 have hll:=hl.len
 refine a1b (cs:=a9w s (.slice ad s.bases.length c)) rfl (.start w) fun b W hk hb1 hb=>?_
 refine a1b (cs:=b2f h (.slice a1 h.attrs.length c1) (.slice a2 h.bl.ys.length c2) (.slice a3 h.links.length c3)) rfl hk fun b2 W2 hk hb2 hbb=>?_
 refine Xb1 hk.cells ?_
 refine a8l s (hs.next hk.below) (fun w11 h11=>?_)
 have hk:=hk.next h11
 clear h11
 cases hv:a1u s with
 | false=>
  refine Xa0 ?_
  exact k2 _ _ (by rw [hv]; simp) hk.below
 | true=>
 refine Xa hk.cells ?_
 refine a8u _ _ _ ?_
 cases h1:inM h.limit 0 ((lims.length:Int) - 1) with
 | false=>
  refine Xa0 ?_
  exact k2 _ _ (by rw [h1]; simp) hk.below
 | true=>
 refine Xa hk.cells ?_
 refine a8u _ _ _ ?_
 cases h2:inM h.window 0 2147483648 with
 | false=>
  refine Xa0 ?_
  exact k2 _ _ (by rw [h2]; simp) hk.below
 | true=>
 refine Xa hk.cells ?_
 refine e1k h.links (hh.links.next (a1o a4i) hk.below) ?_
 cases hf:a7q h.links with
 | false=>
  refine Xa0 ?_
  exact k2 _ _ (by rw [hf]; simp) hk.below
 | true=>
 rw [hv,h1,h2,hf] at k2
 simp only [Bool.not_true,Bool.or_self,Bool.false_eq_true,if_false] at k2
 obtain ⟨hQ5,hvG,hb2',hb7'⟩:=b5m hv
 have hQo:=(a8d hvG).2.1
 unfold okN at hQo
 refine h3h hk.cells ?_
 have hoff:=a8h hk.cells
 have hz11:=hk.below.size
 refine a0m c0i (fun g9 w12 h12 hg9 hB=>?_)
 refine a0i b5a (xs:=c2f h.bl (.slice a2 h.bl.ys.length c2)) rfl rfl (b2h _ _ _ _) hB rfl (fun w13 hg13 hB=>?_)
 have hk:=(hk.next h12).wrote hg13 (by omega) (fun p hp=>by have:=hoff p hp; omega)
 clear h12 hg13 hoff
 by_cases e1:(h.attrs.length:Int) = (s.bases.length:Int) - 1
 rotate_left
 ·have hne:¬ (h.attrs.length:Int) = (s.bases.length:Int) - 1:=e1
  refine Xa (An3 hk.cells hB.are @hne) ?_
  exact k2 _ _ (by rw [if_pos (by simp [hne])]) hk.below
 by_cases e2:h.attrs.length = 0
 ·refine Xa (An4 hk.cells hB.are @e1 @e2) ?_
  all_goals exact k2 _ _ (by rw [if_pos (by simp [e2])]) hk.below
 have e2':¬ h.attrs = []:=fun e=>e2 (by rw [e]; rfl)
 by_cases e3:h.bl.ys.length = s.bases.length
 rotate_left
 ·refine Xa (An6 hk.cells hB.are @e1 @e2 @e2' @e3) ?_
  all_goals exact k2 _ _ (by rw [if_pos (by simp [e3])]) hk.below
 refine Xa (An6 hk.cells hB.are @e1 @e2 @e2' @e3) ?_
 rw [if_neg (by simp [e1,e2,e3])] at k2
 have hpos:0 < h.attrs.length:=by omega
 obtain ⟨b5,o5,rfl,hb5,ca,ra,_⟩:=hh.attrs.at (i:=0) hpos
 have e0:h.attrs.headD 0 = h.attrs[0]:=by rw [List.headD_eq_head?_getD,List.head?_eq_getElem?,gE hpos]; rfl
 rw [e0] at k2
 refine b6m 0 (s.g.Q - 1) (hh.attrs.next hk.below) ?_
 cases f1:(h.attrs.all fun n=>inM n 0 (s.g.Q - 1)) with
 | false=>
  refine Xa0 ?_
  exact k2 _ _ (by rw [f1]; simp) hk.below
 | true=>
 have ca0:=ca _ hk.below
 rw [Nat.add_zero] at ca0
 have hposZ:(0:Int) < h.attrs.length:=by omega
 refine Xa (An4 hk.cells hB.are @ca0 @hposZ) ?_
 refine a8u _ _ _ ?_
 cases f2:inM h.attrs[0] 1 (s.g.Q - 1) with
 | false=>
  refine Xa0 ?_
  exact k2 _ _ (by rw [f2]; simp) hk.below
 | true=>
 refine Xa (An2 hk.cells hB.are) ?_
 refine a8u _ _ _ ?_
 cases f3:inM h.bl.s 1 (s.g.Q - 1) with
 | false=>
  refine Xa0 ?_
  exact k2 _ _ (by rw [f3]; simp) hk.below
 | true=>
 refine Xa (An2 hk.cells hB.are) ?_
 refine a8u _ _ _ ?_
 cases f4:inM h.bl.u 1 (s.g.Q - 1) with
 | false=>
  refine Xa0 ?_
  exact k2 _ _ (by rw [f4]; simp) hk.below
 | true=>
 refine Xa (An2 hk.cells hB.are) ?_
 refine a8u _ _ _ ?_
 cases f5:inM h.bl.v 0 (s.g.Q - 1) with
 | false=>
  refine Xa0 ?_
  exact k2 _ _ (by rw [f5]; simp) hk.below
 | true=>
 refine Xa (An2 hk.cells hB.are) ?_
 refine b6m 0 (s.g.Q - 1) (hh.ys.next hk.below) ?_
 cases f6:(h.bl.ys.all fun n=>inM n 0 (s.g.Q - 1)) with
 | false=>
  refine Xa0 ?_
  exact k2 _ _ (by rw [f6]; simp) hk.below
 | true=>
 rw [f1,f2,f3,f4,f5,f6] at k2
 simp only [Bool.not_true,Bool.or_self,Bool.false_eq_true,if_false] at k2
 refine Xa0 ?_
 have hk:=hk.drew
 refine ⟨Nx { w13 with drawn:=w13.drawn + 1 },bR,rfl,?_⟩
 have hB:=hB.next (.drawn (B:=w13.heap.size))
 generalize ({ w13 with drawn:=w13.drawn + 1 }:World) = W18 at hk hB ⊢
 refine Xc (fun W0 hW0=>An2 ((hk.next hW0).cells) ((hB.next hW0).are)) ?_
 refine ⟨Nx,?_⟩
 apply a2l
 ·intro w1 h1
  exact f0i s (hs.next (hk.next h1).below) (hh.attrs.next (hk.next h1).below) (fun w2 h2=>⟨h1.on h2,h2,rfl⟩)
 rintro w19 h19 _ rfl
 have hk:=hk.next h19
 have hB:=hB.next h19
 clear h19
 refine c4g s.g _ _ (fun w20 h20=>?_)
 have hk:=hk.next h20
 have hB:=hB.next h20
 clear h20
 refine Xa (An2 hk.cells hB.are) ?_
 refine b6l s.g (hs.ints.next hk.below) (hh.ys.next hk.below) (fun w21 h21=>?_)
 have hk:=hk.next h21
 clear h21
 generalize (a5t s.g s.bases h.bl.ys).1 = p1 at *
 cases g1:(a5t s.g s.bases h.bl.ys).2 with
 | false=>
  refine Xa0 ?_
  exact k2 _ _ (by rw [g1]; simp) hk.below
 | true=>
 refine Xa hk.cells ?_
 refine d2q s h.t (f8i hh.wf.t) (hs.next hk.below) (fun w22 h22=>?_)
 have hk:=hk.next h22
 clear h22
 cases g2:a6f s h.t with
 | false=>
  refine Xa0 ?_
  exact k2 _ _ (by rw [g1,g2]; simp) hk.below
 | true=>
 rw [g1,g2] at k2
 by_cases g3:h.t.mark = a6i s.g (a7f s h.attrs).1 h.bl.s
 ·have k3:=k2 _ _ rfl hk.below
  rw [decide_eq_true g3] at k3
  simp only [Bool.and_self,bT] at k3
  refine Xa (An2 hk.cells @g3) ?_
  exact k3
 ·have k3:=k2 _ _ rfl hk.below
  rw [decide_eq_false g3] at k3
  simp only [Bool.and_self,bT,bF] at k3
  refine Xa (An2 hk.cells @g3) ?_
  exact k3
end
end Go.Proofs
namespace Go.Proofs.Cd
open Go Go.Sh Go.RowKit Go.Lib CodeSpec
def IsQd (w:World) (b:Nat) (r:Rd):Prop:=w.heap[b]? = some (.cells #[.string ⟨r.rest.toArray⟩,.bool r.bad] 186 (0,0))
def g0x (w w':World):Prop:=w = w'
theorem IsQd.c0 {w:World} {b:Nat} {r:Rd} (h:IsQd w b r):w.cell? ⟨b,0,none⟩ = some (.string ⟨r.rest.toArray⟩):=by
 unfold IsQd at h; simp [World.cell?,h]
theorem IsQd.c1 {w:World} {b:Nat} {r:Rd} (h:IsQd w b r):w.cell? ⟨b,1,none⟩ = some (.bool r.bad):=by
 unfold IsQd at h; simp [World.cell?,h]
theorem IsQd.fz {w:World} {b:Nat} {r:Rd} (h:IsQd w b r) (i:Nat):w.frozen? ⟨b,i,none⟩ = false:=by
 unfold IsQd at h; simp [World.frozen?,h]
theorem IsQd.lt {w:World} {b:Nat} {r:Rd} (h:IsQd w b r):b < w.heap.size:=(Array.getElem?_eq_some_iff.1 h).1
theorem IsQd.set0 {w:World} {b:Nat} {r:Rd} (h:IsQd w b r) (l:List UInt8):IsQd (w.setCell ⟨b,0,none⟩ (.string ⟨l.toArray⟩)) b ⟨l,r.bad⟩:=by
 unfold IsQd at h ⊢
 rw [heap_set h]; rfl
theorem IsQd.set1 {w:World} {b:Nat} {r:Rd} (h:IsQd w b r) (t:Bool):IsQd (w.setCell ⟨b,1,none⟩ (.bool t)) b ⟨r.rest,t⟩:=by
 unfold IsQd at h ⊢
 rw [heap_set h]; rfl
theorem IsQd.below {w w':World} {b:Nat} {r:Rd} (h:IsQd w b r) {B:Nat} (hb:Below B w w') (hB:b < B):IsQd w' b r:=by
 unfold IsQd at h ⊢
 rw [hb.block _ hB]; exact h
theorem c0b (x:Int):InR (IntKind.i64.wrap x):=by
 unfold IntKind.wrap InR
 simp only [IntKind.bits,IntKind.signed]
 simp
 omega
def d3i (l:List UInt8):Nat:=l.foldl (fun a c=>10 * a + (c.toNat - 48)) 0
theorem c5g (l:List UInt8) (c:UInt8):d3i (l ++ [c]) = 10 * d3i l + (c.toNat - 48):=by simp [d3i]
theorem d1b (u:Nat):d3i (decDigits u) = u:=by
 induction u using Nat.strongRecOn with
 | ind u ih=>
  rw [decDigits]
  split
  ·rename_i h
   have:=a4x u h
   simp only [d3i,List.foldl_cons,List.foldl_nil,this]
   omega
  ·rename_i h
   rw [c5g,ih (u / 10) (by omega),a4x _ (by omega)]
   omega
theorem e3j (l:List UInt8) (k:Nat):d3i (l.take k) ≤ d3i l:=by
 have key:∀ (m:List UInt8) (a:Nat),a ≤ m.foldl (fun a c=>10 * a + (c.toNat - 48)) a:=by
  intro m
  induction m with
  | nil=>intro a; simp
  | cons c m ih=>
   intro a
   simp only [List.foldl_cons]
   have:=ih (10 * a + (c.toNat - 48))
   omega
 conv=>rhs; rw [← List.take_append_drop k l]
 unfold d3i
 rw [List.foldl_append]
 exact key _ _
theorem b7k (m:Int):(itoa m).head? = some 45 ↔ m < 0:=by
 by_cases h:m < 0
 ·simp [c2a m h,h]
 ·simp only [h,iff_false]
  rw [c2b m h]
  intro e
  have:(45:UInt8) ∈ decDigits m.natAbs:=by
   cases hd:decDigits m.natAbs with
   | nil=>rw [hd] at e; cases e
   | cons c r=>rw [hd] at e; simp at e; rw [e]; simp
  have:=a2p _ _ this
  simp at this
def sgn (s:List UInt8):Nat:=if s.head? = some 45 then 1 else 0
theorem b7l (m:Int):(itoa m).drop (sgn (itoa m)) = decDigits m.natAbs:=by
 unfold sgn
 by_cases h:m < 0
 ·rw [if_pos ((b7k m).2 h),c2a m h]; rfl
 ·rw [if_neg (fun e=>h ((b7k m).1 e)),c2b m h]; rfl
theorem d3j (s:List UInt8) (h:∀ m,InR m → s ≠ itoa m):a6g s = none:=by
 cases hc:a6g s with
 | none=>rfl
 | some m=>exact absurd (a4z s m hc).1 (h m (a4z s m hc).2)
set_option maxHeartbeats 1600000 in
theorem d3k (s:List UInt8) (hs:s.length < 2^40) {K:VK} {w:World} (k:∀ v w',Bw w w' → (∀ n,a6g s = some n → v = n) → K (.tuple #[.int .i64 v,.bool (a6g s).isSome]) w'):a0a Tryz.prog 199 #[.string ⟨s.toArray⟩] K w:=by
 apply d8e
 unfold f6h
 have hsg:sgn s ≤ 1:=by unfold sgn; split <;> omega
 refine ⟨fun l w'=>g0x w w' ∧ l = [.int .i64 (sgn s)],?_,?_⟩
 ·cases s with
  | nil=>
   refine Xc0 ?_
   exact ⟨rfl,rfl⟩
  | cons c r=>
   have hc:(c :: r).getD 0 0 = c:=rfl
   repeat (any_goals (first
   | (with_reducible first|refine a0v ?_|refine zA ?_|refine yB ?_|((refine a1n ?_); refine yP (fun hg=>?_) fun hg=>?_))
   | ((with_reducible refine oG fun X Y=>?_); simp [go_sem]; apply Y; clear Y X)))
   ·refine ⟨rfl,?_⟩
    have:c = 45:=UInt8.toNat_inj.1 (by simp; omega)
    rw [this]; rfl
   ·refine ⟨rfl,?_⟩
    have:c ≠ 45:=fun e=>by subst e; simp at hg
    simp [sgn,this]
   all_goals (simp only [List.length_cons] at *; omega)
 rintro _ _ _ ⟨rfl,rfl⟩
 simp only [List.getD_cons_zero]
 obtain ⟨a,ha⟩:∃ a,a = sgn s:=⟨_,rfl⟩
 rw [← ha] at hsg ⊢
 refine ⟨fun l w'=>g0x w w' ∧ ∃ (n:Int) (i:Nat),l = [.int .i64 0,.bool false,.int .i64 n,.int .i64 i] ∧ a ≤ i ∧ (i ≤ s.length ∨ i = a) ∧ InR n ∧ ∀ m,InR m → s = itoa m → n = -(d3i ((s.drop a).take (i - a)):Int),fun l _=>s.length - (match l with | [_,_,_,.int _ n]=>n.toNat | _=>0),⟨rfl,0,a,rfl,by omega,.inr rfl,⟨by omega,by omega⟩,fun m _ _=>by simp [d3i]⟩,?_⟩
 rintro _ _ _ ⟨rfl,n,i,rfl,hai,hil,hn,hinv⟩
 simp only [List.getD_cons_zero,List.getD_cons_succ]
 by_cases hlt:i < s.length
 ·obtain ⟨c,hc⟩:∃ c,c = s[i]:=⟨_,rfl⟩
  have hbyte:s[i]?.getD 0 = c:=by rw [gE hlt,hc]; rfl
  have hfacts:∀ m,InR m → s = itoa m → 48 ≤ c.toNat ∧ c.toNat ≤ 57 ∧ i ≤ 20:=by
   intro m hm e
   have h1:=a4k m hm
   rw [← e] at h1
   have h2:c ∈ decDigits m.natAbs:=by
    rw [← b7l m,← e,← ha,hc]
    rw [List.mem_iff_getElem]
    exact ⟨i - a,by rw [List.length_drop]; omega,by rw [List.getElem_drop]; congr 1; omega⟩
   have h3:=a2p _ c h2
   omega
  have hstep:∀ m,InR m → s = itoa m → ((s.drop a).take (i + 1 - a)) = ((s.drop a).take (i - a)) ++ [c]:=by
   intro m hm e
   have:i + 1 - a = (i - a) + 1:=by omega
   rw [this,List.take_add_one,List.getElem?_drop]
   have e2:a + (i - a) = i:=by omega
   rw [e2,gE hlt,← hc]; rfl
  obtain ⟨hn1,hn2⟩:=hn
  have bad:(∀ m,InR m → s ≠ itoa m) → K (.tuple #[.int .i64 0,.bool false]) w:=by
   intro h
   have h1:=d3j s h
   have:=k 0 w (bR) (fun n e=>by rw [h1] at e; cases e)
   rw [h1] at this
   exact this
  repeat (any_goals (first
  | (with_reducible first|refine a0v ?_|((refine a9c ?_); first|refine zD ?_|((refine a6c ?_); first|refine zI ?_|refine zJ ?_|refine zK (fun hg=>?_) fun hg=>?_))|((refine a2x ?_); first|refine yB ?_|refine yD ?_|refine yE ?_)|((refine a1n ?_); first|refine yL ?_|refine yN ?_|refine yP (fun hg=>?_) fun hg=>?_))
  | ((with_reducible refine oG fun X Y=>?_); simp [go_sem,hbyte]; (try simp (disch:=omega) only [a0u,a2y,a1r]); (first|refine Y _ _ ?_|refine And.intro (by omega) (Y _ _ ?_)); clear Y X)))
  ·exact bad (fun m hm e=>by have:=hfacts m hm e; omega)
  ·exact bad (fun m hm e=>by have:=hfacts m hm e; omega)
  ·exact bad (fun m hm e=>by have:=hfacts m hm e; omega)
  ·refine ⟨⟨rfl,_,i + 1,rfl,by omega,.inl hlt,c0b _,fun m hm e=>?_⟩,by simp; omega⟩
   have hnum:=hinv m hm e
   have hst:=hstep m hm e
   have hmono:=e3j (s.drop a) (i + 1 - a)
   have htot:d3i (s.drop a) = m.natAbs:=by
    have h0:s.drop (sgn s) = (itoa m).drop (sgn (itoa m)):=by rw [← e]
    rw [ha,h0,b7l m,d1b]
   rw [hst,c5g] at hmono ⊢
   obtain ⟨hm1,hm2⟩:=hm
   rw [htot] at hmono
   generalize d3i ((s.drop a).take (i - a)) = A at *
   rw [hnum]
   have hc1:((c.toNat - 48:Nat):Int) = (c.toNat:Int) - 48:=by omega
   rw [a0u (10 * -(A:Int)) (by omega) (by omega),a0u _ (by omega) (by omega)]
   omega
 ·have hfin:∀ m,InR m → s = itoa m → n = -(m.natAbs:Int):=by
   intro m hm e
   have:=hinv m hm e
   have htk:(s.drop a).take (i - a) = s.drop a:=List.take_of_length_le (by rw [List.length_drop]; omega)
   have htot:d3i (s.drop a) = m.natAbs:=by
    have h0:s.drop (sgn s) = (itoa m).drop (sgn (itoa m)):=by rw [← e]
    rw [ha,h0,b7l m,d1b]
   rw [htk,htot] at this
   exact this
  refine Xc0 ?_
  refine ⟨fun l w'=>g0x w w' ∧ ∃ v,l = [.int .i64 v] ∧ InR v ∧ ∀ m,InR m → s = itoa m → v = m,?_,?_⟩
  ·have hsm:∀ m,s = itoa m → (a = 1 ↔ m < 0):=by
    intro m e
    rw [ha,← b7k m,← e]
    unfold sgn
    split <;> simp_all
   repeat (any_goals (first
   | (with_reducible ((refine a1n ?_); refine yP (fun hg=>?_) fun hg=>?_))
   | ((with_reducible refine oG fun X Y=>?_); simp [go_sem]; apply Y; clear Y X)))
   ·refine ⟨rfl,_,rfl,c0b _,fun m hm e=>?_⟩
    have h1:=hfin m hm e
    have h2:=hsm m e
    obtain ⟨hm1,hm2⟩:=hm
    rw [a0u _ (by omega) (by omega)]
    omega
   ·refine ⟨rfl,_,rfl,hn,fun m hm e=>?_⟩
    have h1:=hfin m hm e
    have h2:=hsm m e
    omega
  ·rintro _ _ _ ⟨rfl,v,rfl,hv,hvm⟩
   simp only [List.getD_cons_zero]
   refine qInt_ok v hv ?_
   intro w1 hb
   have hcan:(a6g s).isSome = decide (a0n v = s ++ [59]):=by
    rw [Bool.eq_iff_iff,dE]
    unfold a0n
    rw [List.append_left_inj]
    constructor
    ·intro h
     obtain ⟨m,hm⟩:=Option.isSome_iff_exists.1 h
     obtain ⟨h1,h2⟩:=a4z s m hm
     rw [hvm m h2 h1,← h1]
    ·intro h
     rw [← h,b8t v hv]; rfl
   refine Xc0 ?_
   have:=k v w1 hb (fun m e=>by
    obtain ⟨h1,h2⟩:=a4z s m e
    exact hvm m h2 h1)
   rw [hcan] at this
   exact this
end Go.Proofs.Cd
namespace Go.Proofs.Cd
open Go Go.Sh Go.RowKit Go.Lib CodeSpec
theorem b3g (b:Nat) (r:Rd) {K:VK} {w:World} (hr:IsQd w b r) (k:∀ w',IsQd w' b failed → w.grownBy w' (some b) → K (.int .i64 0) w'):a0a Tryz.prog 135 #[.pointer (some ⟨b,0,none⟩)] K w:=by
 apply d8d
 unfold f6g
 have h0:=hr.c0
 have f0:=hr.fz 0
 have hr1:=hr.set0 []
 have f1:=hr1.fz 1
 have h1:=hr1.c1
 refine Xg (An4 @h0 @f0 @h1 @f1) ?_
 exact k _ (hr1.set1 true) (a0l (a4h _ _ _ _) (a4h _ _ _ _))
theorem d1c (l:List UInt8) (c:UInt8) (n:Nat) (hn:n ≤ l.length) (h1:∀ j,j < n → l[j]?.getD 0 ≠ c) (h2:n < l.length → l[n]?.getD 0 = c):l.takeWhile (· != c) = l.take n:=by
 induction l generalizing n with
 | nil=>simp at hn; subst hn; rfl
 | cons x l ih=>
  cases n with
  | zero=>
   have:=h2 (by simp)
   simp at this
   simp [this]
  | succ n=>
   have h0:=h1 0 (by omega)
   simp at h0
   have:=ih n (by simpa using hn) (fun j hj=>by have:=h1 (j + 1) (by omega); simpa using this) (fun h=>by have:=h2 (by simpa using h); simpa using this)
   simp [h0,this]
def d3l:Int:=-9223372036854775808
theorem c2c (r:Rd) (e:UInt8):a0e r e 0 = if (a0e r e d3l).1 < 0 then (0,failed) else a0e r e d3l:=by
 unfold a0e
 split
 ·cases hc:a6g ((r.rest.take 21).takeWhile (· != e)) with
  | none=>simp
  | some n=>
   have h:=a4z _ _ hc
   obtain ⟨h1,h2⟩:=h.2
   simp only
   rw [if_neg (show ¬ n < d3l by unfold d3l; omega)]
 ·simp
set_option maxHeartbeats 1600000 in
theorem d1d (b:Nat) (r:Rd) (e:UInt8) {K:VK} {w:World} (hlen:r.rest.length < 2^60) (hr:IsQd w b r) (k:∀ w',IsQd w' b (a0e r e d3l).2 → w.grownBy w' (some b) → K (.int .i64 (a0e r e d3l).1) w'):a0a Tryz.prog 134 #[.pointer (some ⟨b,0,none⟩),.int .u8 e.toNat] K w:=by
 apply d8c
 unfold f6f
 have h0:=hr.c0
 have f0:=hr.fz 0
 refine ⟨fun l w'=>w = w' ∧ ∃ (n:Nat),l = [.int .i64 n] ∧ n ≤ r.rest.length ∧ n ≤ 21 ∧ ∀ j,j < n → r.rest[j]?.getD 0 ≠ e,fun l _=>r.rest.length - (match l with | [.int _ n]=>n.toNat | _=>0),⟨rfl,0,rfl,by omega,by omega,fun j hj=>by omega⟩,?_⟩
 rintro _ _ _ ⟨rfl,n,rfl,hn,hn21,hne⟩
 simp only [List.getD_cons_zero]
 obtain ⟨q,hq⟩:∃ q,q = r.rest.take 21:=⟨_,rfl⟩
 have hql:q.length = min 21 r.rest.length:=by rw [hq,List.length_take]
 have hqj:∀ j,j < 21 → q[j]? = r.rest[j]?:=fun j hj=>by rw [hq,List.getElem?_take_of_lt hj]
 have hnum:a0e r e d3l = if (q.takeWhile (· != e)).length < q.length then (match a6g (q.takeWhile (· != e)) with | some n=>if n < d3l then (0,failed) else (n,⟨r.rest.drop ((q.takeWhile (· != e)).length + 1),r.bad⟩) | none=>(0,failed)) else (0,failed):=by rw [hq]; rfl
 have fin:∀ w2,Bw w w2 → a0e r e d3l = (0,failed) → a0a Tryz.prog 135 #[.pointer (some ⟨b,0,none⟩)] (fun v w=>K v w) w2:=by
  intro w2 hb2 hn
  refine b3g b _ (hr.below hb2 hr.lt) ?_
  intro w3 hr3 hg3
  have:=k w3 (by rw [hn]; exact hr3) (a0l (grown_of_below hb2 _) hg3)
  rw [hn] at this
  exact this
 obtain ⟨c,hc⟩:∃ c,c = r.rest[n]?.getD 0:=⟨_,rfl⟩
 have hall:(n = r.rest.length ∨ n = 21) → (q.takeWhile (· != e)) = q:=by
  intro h
  have h1:q.takeWhile (· != e) = q.take q.length:=d1c q e q.length (rL) (fun j hj=>by rw [hqj j (by omega)]; exact hne j (by omega)) (fun h=>by omega)
  rw [h1,List.take_length]
 have hpre:n < 21 → n < r.rest.length → c = e → q.takeWhile (· != e) = r.rest.take n:=by
  intro h21 hlt hce
  have h1:q.takeWhile (· != e) = q.take n:=d1c q e n (by omega) (fun j hj=>by rw [hqj j (by omega)]; exact hne j hj) (fun h=>by rw [hqj n h21,← hc]; exact hce)
  rw [h1,hq,List.take_take,Nat.min_eq_left (by omega)]
 have hfull:(n = r.rest.length ∨ n = 21) → a0e r e d3l = (0,failed):=by
  intro h
  rw [hnum,hall h,if_neg (by omega)]
 have hcanon:∀ p:List UInt8,p.length = 21 → a6g p = none:=by
  intro p hp
  cases hcp:a6g p with
  | none=>rfl
  | some m=>
   obtain ⟨h1,h2⟩:=a4z _ _ hcp
   have:=a4k m h2
   rw [← h1] at this
   omega
 have hlast:∀ v w1,Bw w w1 → n < r.rest.length → c = e → (∀ m,a6g (r.rest.take n) = some m → v = m) →
   a2c (.bool (!(a6g (r.rest.take n)).isSome)) (a0a Tryz.prog 135 #[.pointer (some ⟨b,0,none⟩)] (fun v w=>K v w) w1)
    (∀ w2,IsQd w2 b ⟨r.rest.drop (n + 1),r.bad⟩ → w1.grownBy w2 (some b) → K (.int .i64 v) w2):=by
  intro v w1 hb1 hlt hce hv
  have hlen:(r.rest.take n).length = n:=by rw [List.length_take]; omega
  cases hcan:a6g (r.rest.take n) with
  | none=>
   refine b7f (fun _=>?_) (fun h=>by cases h)
   refine fin _ hb1 ?_
   by_cases h21:n < 21
   ·rw [hnum,hpre h21 hlt hce,if_pos (by omega),hcan]
   ·exact hfull (.inr (by omega))
  | some m=>
   refine b7f (fun h=>by cases h) (fun _=>?_)
   have h21:n < 21:=by
    rcases Nat.lt_or_ge n 21 with h | h
    ·exact h
    ·have:=hcanon (r.rest.take n) (by omega)
     rw [this] at hcan; cases hcan
   have hm:=a4z _ _ hcan
   obtain ⟨hm1,hm2⟩:=hm.2
   have hv:=hv m hcan
   rw [hpre h21 hlt hce,if_pos (by omega),hcan,hlen] at hnum
   simp only at hnum
   rw [if_neg (show ¬ m < d3l by unfold d3l; omega)] at hnum
   intro w2 hr2 hg2
   have:=k w2 (by rw [hnum]; exact hr2) (a0l (grown_of_below hb1 _) hg2)
   rw [hnum] at this
   rw [hv]
   exact this
 have hcn:r.rest[n]?.getD 0 = c:=hc.symm
 clear hc
 by_cases hlt:n < r.rest.length
 ·by_cases hce:c = e
  ·have hce':(c.toNat:Int) = e.toNat:=by rw [hce]
   have rest:∀ (F:VK),(∀ v w1,Bw w w1 → (∀ m,a6g (r.rest.take n) = some m → v = m) → F (.tuple #[.int .i64 v,.bool (a6g (r.rest.take n)).isSome]) w1) → a0a Tryz.prog 199 #[.string ⟨(r.rest.take n).toArray⟩] F w:=
    fun F h=>d3k (r.rest.take n) (by rw [List.length_take]; omega) (fun v w' hb hv=>h v w' hb hv)
   have tail:∀ v w1,Bw w w1 → (∀ m,a6g (r.rest.take n) = some m → v = m) → w1.cell? ⟨b,0,none⟩ = some (.string ⟨r.rest.toArray⟩) ∧ w1.frozen? ⟨b,0,none⟩ = false:=by
    intro v w1 hb1 _
    have hr1:=hr.below hb1 hr.lt
    exact ⟨hr1.c0,hr1.fz 0⟩
   by_cases h21:n < 21
   all_goals
    refine Xg (An2 @h0 @hcn) ?_
    refine rest _ (fun v w1 hb1 hv=>?_)
    obtain ⟨h1,f1⟩:=tail v w1 hb1 hv
    have hr1:=hr.below hb1 hr.lt
    have hl:=hlast v w1 hb1 hlt hce hv
    generalize (a6g (r.rest.take n)).isSome = t at hl ⊢
    obtain ⟨u,hu,ht,hf⟩:=hl
    cases hu
    cases t with
    | true=>
     refine Xg (An2 @h1 @f1) ?_
     exact hf rfl _ (hr1.set0 _) (a4h _ _ _ _)
    | false=>
     refine Xc0 ?_
     exact ht rfl
  ·have hce':¬ (c.toNat:Int) = e.toNat:=fun h=>hce (UInt8.toNat_inj.1 (by omega))
   by_cases h21:n < 21
   ·refine Xg (An2 @h0 @hcn) ?_
    refine ⟨⟨rfl,n + 1,rfl,by omega,by omega,fun j hj=>?_⟩,by simp; omega⟩
    by_cases e2:j = n
    ·rw [e2,hcn]; exact hce
    ·exact hne j (by omega)
   ·repeat (any_goals (first
    | (with_reducible refine fin _ (bR) (hfull (.inr (by omega))))
    | (with_reducible first|refine a0v ?_|((refine a9c ?_); ((refine a6c ?_); first|refine zF ?_|refine zG ?_))|((refine a2x ?_); first|refine yD ?_|refine yE ?_)|((refine a1n ?_); first|refine yM ?_|refine yO ?_|refine yQ ?_))
    | ((with_reducible refine oG fun X Y=>?_); simp [go_sem,h0,hcn]; (first|refine Y _ _ ?_|refine And.intro (by omega) (Y _ _ ?_)); clear Y X)))
 ·repeat (any_goals (first
  | (with_reducible refine fin _ (bR) (hfull (.inl (by omega))))
  | (with_reducible first|((refine a9c ?_); first|refine zB ?_|((refine a6c ?_); refine zG ?_))|((refine a2x ?_); first|refine yC ?_|refine yE ?_)|((refine a1n ?_); first|refine yM ?_|refine yN ?_))
  | ((with_reducible refine oG fun X Y=>?_); simp [go_sem,h0]; apply Y; clear Y X)))
theorem b4j (b:Nat) (r:Rd) (e:UInt8) {K:VK} {w:World} (hlen:r.rest.length < 2^60) (hr:IsQd w b r) (k:∀ w',IsQd w' b (a0e r e 0).2 → w.grownBy w' (some b) → K (.int .i64 (a0e r e 0).1) w'):a0a Tryz.prog 132 #[.pointer (some ⟨b,0,none⟩),.int .u8 e.toNat] K w:=by
 apply d8a
 unfold f6d
 refine d1d b r e hlen hr ?_
 intro w1 hr1 hg1
 rw [c2c] at k
 generalize a0e r e d3l = x at *
 obtain ⟨n,r1⟩:=x
 simp only at *
 by_cases hn:n < 0
 ·rw [if_pos hn] at k
  refine Xc0 ?_
  refine b3g b _ hr1 ?_
  intro w2 hr2 hg2
  exact k w2 hr2 (a0l hg1 hg2)
 ·rw [if_neg hn] at k
  refine Xc0 ?_
  exact k w1 hr1 hg1
end Go.Proofs.Cd
namespace Go.Proofs.Cd
open Go Go.Sh Go.RowKit Go.Lib CodeSpec
theorem qint_ok (b:Nat) (r:Rd) {K:VK} {w:World} (hlen:r.rest.length < 2^60) (hr:IsQd w b r) (k:∀ w',IsQd w' b (a1s r).2 → w.grownBy w' (some b) → K (.int .i64 (a1s r).1) w'):a0a Tryz.prog 59 #[.pointer (some ⟨b,0,none⟩)] K w:=by
 apply e7x
 unfold g4d
 exact d1d b r 59 hlen hr k
theorem c5h (b:Nat) (r:Rd) (c:UInt8) {K:VK} {w:World} (hlen:r.rest.length < 2^60) (hr:IsQd w b r) (k:∀ w',IsQd w' b (a0r r c) → w.grownBy w' (some b) → K (.bool (decide (r.rest.head? = some c))) w'):a0a Tryz.prog 133 #[.pointer (some ⟨b,0,none⟩),.int .u8 c.toNat] K w:=by
 apply d8b
 unfold f6e
 have h0:=hr.c0
 have f0:=hr.fz 0
 cases hrest:r.rest with
 | nil=>
  rw [hrest] at h0 k hlen
  refine Xg @h0 ?_
  refine b3g b r hr ?_
  intro w1 hr1 hg1
  have e:a0r r c = failed:=by unfold a0r; rw [hrest]
  exact K_eq (k w1 (by rw [e]; exact hr1) hg1) (by simp)
 | cons x t=>
  rw [hrest] at h0 k hlen
  simp only [List.length_cons] at hlen
  have hx:(x :: t)[0]?.getD 0 = x:=rfl
  have htl:List.take t.length t = t:=List.take_length
  by_cases hc:x = c
  ·have hc':(x.toNat:Int) = c.toNat:=by rw [hc]
   refine Xg (An4 @h0 @f0 @hx @htl) ?_
   have e:a0r r c = ⟨t,r.bad⟩:=by unfold a0r; rw [hrest]; simp [hc]
   exact K_eq (k _ (by rw [e]; exact hr.set0 t) (a4h _ _ _ _)) (by simp [hc])
  ·have hc':¬ (x.toNat:Int) = c.toNat:=fun h=>hc (UInt8.toNat_inj.1 (by omega))
   refine Xg (An4 @h0 @f0 @hx @htl) ?_
   refine b3g b r hr ?_
   intro w1 hr1 hg1
   have e:a0r r c = failed:=by unfold a0r; rw [hrest]; simp [hc]
   exact K_eq (k w1 (by rw [e]; exact hr1) hg1) (by simp [hc])
theorem c0c (r:Rd) (c:UInt8):a0r r c = if r.rest.head? = some c then ⟨r.rest.drop 1,r.bad⟩ else failed:=by
 unfold a0r
 cases r.rest with
 | nil=>simp
 | cons x t=>simp
theorem qopen_ok (s:List UInt8) {K:VK} {w:World} (k:∀ w',IsQd w' w.heap.size ⟨s,false⟩ → Bw w w' → K (.pointer (some ⟨w.heap.size,0,none⟩)) w'):a0a Tryz.prog 55 #[.string ⟨s.toArray⟩] K w:=by
 apply e7u
 unfold g4a
 refine Xc0 ?_
 exact k _ (by unfold IsQd; exact heap_alloc_new _ _) ((bR).alloc (rL) _)
theorem qdone_ok (b:Nat) (r:Rd) {K:VK} {w:World} (hr:IsQd w b r) (k:K (.bool (rdDone r)) w):a0a Tryz.prog 61 #[.pointer (some ⟨b,0,none⟩)] K w:=by
 apply e7z
 unfold g4f
 have h0:=hr.c0
 have h1:=hr.c1
 repeat (any_goals (first
 | (with_reducible first|refine a0v ?_|((refine a9c ?_); first|refine zV ?_|refine zW ?_|refine zX (fun hg=>?_) fun hg=>?_)|((refine a2x ?_); first|refine yJ ?_|refine yK ?_))
 | ((with_reducible refine oG fun X Y=>?_); simp [go_sem,h0,h1]; apply Y; clear Y X)))
 ·exact K_eq k (by unfold rdDone; rw [hg]; simp)
 ·exact K_eq k (by unfold rdDone; rw [hg]; simp)
theorem IsQd.own {w2 w3:World} {b B:Nat} {e:TypeId} {sz n:Nat} {v:Value} {xs:List Value} {r:Rd} (h:IsQd w2 b r) (hown:w2.ownsRow B e sz v n xs) (hB:b < B) (hg:w2.grownBy w3 v.ownBlock):IsQd w3 b r:=by
 have hlt:=h.lt
 unfold IsQd at h ⊢
 rw [hg.block b hlt (fun e=>by have:=(hown.lt b e.symm).1; omega)]
 exact h
set_option maxHeartbeats 1600000 in
theorem qNums_ok2 (b:Nat) (r:Rd) {K:VK} {w:World} (hlen:r.rest.length < 2^40) (hok:r.ok) (hr:IsQd w b r)
  (k:∀ v w',IsQd w' b (a0c r).2 → w.grownBy w' (some b) → w'.ownsRow w.heap.size 3 1 v (a0c r).1.length ((a0c r).1.map intV) → K v w'):a0a Tryz.prog 56 #[.pointer (some ⟨b,0,none⟩)] K w:=by
 apply e7v
 unfold g4b
 refine b4j b r 91 (by omega) hr ?_
 intro w1 hr1 hg1
 have hle:=rest_le r 91 0
 have hok1:=a7m r hok 91 0
 have hnum:a0c r = if (a0r (a1p a1s (a0e r 91 0).1.toNat (a0e r 91 0).2).2 93).bad then ([],a0r (a1p a1s (a0e r 91 0).1.toNat (a0e r 91 0).2).2 93)
  else ((a1p a1s (a0e r 91 0).1.toNat (a0e r 91 0).2).1,a0r (a1p a1s (a0e r 91 0).1.toNat (a0e r 91 0).2).2 93):=rfl
 have hnr:InR (a0e r 91 0).1:=by
  rcases a1t r 91 0 with h | ⟨n,t,h,_,h3,_⟩
  ·rw [h]; exact ⟨by simp,by simp⟩
  ·rw [h]; exact h3
 generalize (a0e r 91 0).2 = r1 at *
 generalize (a0e r 91 0).1 = n at *
 have hbw:=hr.lt
 obtain ⟨hn1,hn2⟩:=hnr
 refine ⟨fun l w'=>∃ (v:Value) (j:Int) (r':Rd) (xs:List (Int)),l = [v,.int .i64 j] ∧ 0 ≤ j ∧ (j ≤ n ∨ j = 0) ∧ IsQd w' b r' ∧ r'.ok ∧ w.grownBy w' (some b) ∧ w'.ownsRow w.heap.size 3 1 v xs.length (xs.map intV) ∧
  a1p a1s n.toNat r1 = (xs ++ (a1p a1s (n - j).toNat r').1,(a1p a1s (n - j).toNat r').2) ∧ (xs.length + r'.rest.length ≤ r1.rest.length + 1) ∧ (r'.bad = false → xs.length + r'.rest.length ≤ r1.rest.length),fun l _=>(match l with | [_,.int _ j]=>(n - j).toNat | _=>0),
  ⟨_,0,r1,[],rfl,by omega,.inr rfl,hr1,hok1,hg1,World.ownsRow_nil _ _ _ _,by simp,(by simp only [List.length_nil]; omega),by simp⟩,?_⟩
 rintro _ _ w2 ⟨v,j,r',xs,rfl,hj1,hj2,hr2,hok2,hg2,hown,hgo,hlx,hlx2⟩
 simp only [List.getD_cons_zero,List.getD_cons_succ]
 have h2:=hr2.c1
 by_cases hrun:j < n ∧ r'.bad = false
 ·obtain ⟨hj,hbad⟩:=hrun
  rw [hbad] at h2
  have hlx2:=hlx2 hbad
  refine Xg @h2 ?_
  refine qint_ok b r' (by omega) hr2 ?_
  intro w3 hr3 hg3
  have hown3:=c2d hown hbw hg3
  have hg03:=a0l hg2 hg3
  have hz3:=hg03.size
  have hless:=c0d r' hok2 hbad
  obtain ⟨j',hj'⟩:∃ j':Nat,(n - j).toNat = j' + 1:=⟨(n - j).toNat - 1,by omega⟩
  have hjj:(n - (j + 1)).toNat = j':=by omega
  rw [hj',b4x _ _ _ hbad] at hgo
  have hok3:(a1s r').2.ok:=by
   rcases hless with h | ⟨_,h⟩
   ·rw [h]; exact Rd.ok_failed
   ·intro e; rw [h] at e; cases e
  have hby:(xs.length + 1) * Tryz.t3.bytes ≤ 140737488355328:=by
   have:Tryz.t3.bytes = 8:=by kernel_rfl
   rw [this]
   omega
  refine Xc0 ?_
  refine a9t (base:=w.heap.size) (n:=xs.length) (xs:=xs.map intV) (i:=Tryz.t3) (z:=.int .i64 0) (cs:=#[intV (a1s r').1]) Tryz.underlying24 (by kernel_rfl) (by kernel_rfl) rfl rfl (by simp) (by simp [Value.oneCell',intV]) hown3 (by omega) (by unfold maxLen; omega) hby ?_
  intro v' w4 ho4 hg4
  refine Xc0 ?_
  refine ⟨⟨v',j + 1,(a1s r').2,xs ++ [(a1s r').1],rfl,by omega,.inl (by omega),hr3.own hown3 hbw hg4,hok3,c5i hg03 hown3 (rL) hg4,by simpa using ho4,?_,?_,?_⟩,by simp; omega⟩
  ·rw [hjj,hgo]; simp
  ·rcases hless with h | ⟨h,_⟩
   ·rw [h,List.length_append]; simp [failed]; omega
   ·rw [List.length_append]; simp; omega
  ·intro hb
   rcases hless with h | ⟨h,_⟩
   ·rw [h] at hb; cases hb
   ·rw [List.length_append]; simp; omega
 ·have hstop:=b4w a1s (n - j).toNat r' (by
   cases hb:r'.bad with
   | true=>right; rfl
   | false=>left; have:¬ j < n:=fun h=>hrun ⟨h,hb⟩; omega)
  rw [hstop,List.append_nil] at hgo
  rw [hgo] at hnum
  cases hbad:r'.bad with
  | true=>
   have hf:=Rd.eq_failed hok2 hbad
   rw [hbad] at h2
   rw [hf,b1p,if_pos b3p] at hnum
   rw [hf] at hr2
   have hdone:=k (.slice none 0 0) w2 (by rw [hnum]; exact hr2) hg2 (by rw [hnum]; exact World.ownsRow_nil _ _ _ _)
   by_cases hj:j < n
   ·refine Xg @h2 ?_
    exact hdone
   ·refine Xg @h2 ?_
    exact hdone
  | false=>
   have hj:¬ j < n:=fun h=>hrun ⟨h,hbad⟩
   rw [hbad] at h2
   refine Xg @h2 ?_
   refine c5h b r' 93 (by omega) hr2 ?_
   intro w3 hr3 hg3
   have hg03:=a0l hg2 hg3
   have hce:=c0c r' 93
   by_cases hh:r'.rest.head? = some 93
   ·rw [if_pos hh] at hce
    rw [hce] at hnum hr3
    simp only [hbad] at hnum
    rw [if_neg (by simp)] at hnum
    simp only [hh,decide_true]
    refine Xc0 ?_
    exact k _ w3 (by rw [hnum]; rw [hbad] at hr3; exact hr3) hg03 (by rw [hnum]; exact c2d hown hbw hg3)
   ·rw [if_neg hh] at hce
    rw [hce] at hnum hr3
    rw [if_pos b3p] at hnum
    simp only [hh,decide_false]
    refine Xc0 ?_
    exact k _ w3 (by rw [hnum]; exact hr3) hg03 (by rw [hnum]; exact World.ownsRow_nil _ _ _ _)
end Go.Proofs.Cd
namespace Go.Proofs.Cd
open Go Go.Sh Go.RowKit Go.Lib CodeSpec
theorem qNum_ok (n:Int) (hn:InR n) {K:VK} {w:World} (k:∀ w',Bw w w' → K (.string ⟨(a1a n).toArray⟩) w'):a0a Tryz.prog 67 #[.int .i64 n] K w:=by
 apply e7t
 unfold g3z
 by_cases h:n < 0
 ·have k:=k _ (bR)
  rw [a1a,if_pos h] at k
  refine Xa @h ?_
  exact k
 ·rw [a1a,if_neg h] at k
  refine Xa @h ?_
  refine qInt_ok n hn (fun w' hb=>?_)
  exact k _ hb
theorem qnum_ok (b:Nat) (r:Rd) {K:VK} {w:World} (hlen:r.rest.length < 2^60) (hr:IsQd w b r) (k:∀ w',IsQd w' b (a1m r).2 → w.grownBy w' (some b) → K (.int .i64 (a1m r).1) w'):a0a Tryz.prog 58 #[.pointer (some ⟨b,0,none⟩)] K w:=by
 apply e7w
 unfold g4c
 exact b4j b r 59 hlen hr k
theorem qtext_ok (b:Nat) (r:Rd) {K:VK} {w:World} (hlen:r.rest.length < 2^60) (hok:r.ok) (hr:IsQd w b r) (k:∀ w',IsQd w' b (a0s r).2 → w.grownBy w' (some b) → K (.string ⟨(a0s r).1.toArray⟩) w'):a0a Tryz.prog 60 #[.pointer (some ⟨b,0,none⟩)] K w:=by
 apply e7y
 unfold g4e
 refine b4j b r 58 hlen hr ?_
 intro w1 hr1 hg1
 have hle:=rest_le r 58 0
 have hok1:=a7m r hok 58 0
 have h0n:0 ≤ (a0e r 58 0).1:=by
  rcases a1t r 58 0 with h | ⟨n,t,h,_,_,h3⟩
  ·rw [h]; exact Int.le_refl 0
  ·rw [h]; exact h3
 have hnum:a0s r = if ((a0e r 58 0).2.rest.length:Int) < (a0e r 58 0).1 then ([],failed)
   else if (a0r ⟨(a0e r 58 0).2.rest.drop (a0e r 58 0).1.toNat,(a0e r 58 0).2.bad⟩ 44).bad then ([],a0r ⟨(a0e r 58 0).2.rest.drop (a0e r 58 0).1.toNat,(a0e r 58 0).2.bad⟩ 44)
   else ((a0e r 58 0).2.rest.take (a0e r 58 0).1.toNat,a0r ⟨(a0e r 58 0).2.rest.drop (a0e r 58 0).1.toNat,(a0e r 58 0).2.bad⟩ 44):=rfl
 generalize (a0e r 58 0).2 = r1 at *
 generalize (a0e r 58 0).1 = n at *
 have h0:=hr1.c0
 have h1:=hr1.c1
 have f0:=hr1.fz 0
 have fin:a0s r = ([],failed) → a0a Tryz.prog 135 #[.pointer (some ⟨b,0,none⟩)] (fun _ w=>K (.string ⟨#[]⟩) w) w1:=by
  intro e
  refine b3g b _ hr1 ?_
  intro w2 hr2 hg2
  exact K_eq (k w2 (by rw [e]; exact hr2) (a0l hg1 hg2)) (by rw [e])
 cases hbad:r1.bad with
 | true=>
  rw [hbad] at h1
  have he:a0s r = ([],failed):=by
   have:=hok1 hbad
   rw [hnum,this,hbad]
   simp [a0r,failed]
  repeat (any_goals (first
  | (with_reducible refine fin he)
  | (with_reducible first|refine zD ?_|refine yB ?_|refine yL ?_)
  | ((with_reducible refine oG fun X Y=>?_); simp [go_sem,h0,h1]; apply Y; clear Y X)))
 | false=>
  rw [hbad] at h1 hnum
  by_cases hlt:n < (r1.rest.length:Int)
  ·rw [if_neg (by omega)] at hnum
   have htl:List.take r1.rest.length r1.rest = r1.rest:=List.take_length
   refine Xg (An4 @h0 @h1 @f0 @htl) ?_
   refine c5h b _ 44 (by simp only [List.length_drop]; omega) (hr1.set0 _) ?_
   intro w2 hr2 hg2
   have hg:=a0l hg1 (a0l (a4h _ _ _ _) hg2)
   rw [hbad] at hr2
   have hce:=c0c ⟨r1.rest.drop n.toNat,false⟩ 44
   by_cases hh:(r1.rest.drop n.toNat).head? = some 44
   ·rw [if_pos hh] at hce
    rw [hce] at hnum hr2
    rw [if_neg (by simp)] at hnum
    simp only [hh,decide_true]
    refine Xc0 ?_
    exact K_eq (k w2 (by rw [hnum]; exact hr2) hg) (by rw [hnum])
   ·rw [if_neg hh] at hce
    rw [hce] at hnum hr2
    rw [if_pos b3p] at hnum
    simp only [hh,decide_false]
    refine Xc0 ?_
    exact K_eq (k w2 (by rw [hnum]; exact hr2) hg) (by rw [hnum])
  ·have he:a0s r = ([],failed):=by
    rw [hnum]
    by_cases h2:(r1.rest.length:Int) < n
    ·rw [if_pos h2]
    ·rw [if_neg h2]
     have:r1.rest.drop n.toNat = []:=by rw [List.drop_eq_nil_iff]; omega
     rw [this]
     rfl
   repeat (any_goals (first
   | (with_reducible refine fin he)
   | (with_reducible first|refine a0v ?_|refine zC ?_|refine yC ?_|refine yN ?_)
   | ((with_reducible refine oG fun X Y=>?_); simp [go_sem,h0,h1]; apply Y; clear Y X)))
end Go.Proofs.Cd
namespace Go.Proofs
open Go Go.Sh Go.RowKit FdSpec TkSpec CodeSpec PuSpec
section
variable {K:VK} {w w' w0 W W':World} {L:List (Addr × Value)}
set_option maxHeartbeats 1000000 in
theorem b9q (h:Hld) {av yv kv:Value} (hh:HldR w h av yv kv) (hsz:(a3m h).length < 2 ^ 39) (k:∀ w',Bw w w' → K (.string ⟨(a3m h).toArray⟩) w'):a0a Tryz.prog 24 #[b8c h av yv kv] K w:=by
 apply e8j
 unfold g4p
 obtain ⟨a1,c1,rfl⟩:=hh.attrs.isSlice
 obtain ⟨a2,c2,rfl⟩:=hh.ys.isSlice
 obtain ⟨a3,c3,rfl⟩:=hh.links.isSlice
 have hln:=hh.links.len
 refine a1b (cs:=b2f h (.slice a1 h.attrs.length c1) (.slice a2 h.bl.ys.length c2) (.slice a3 h.links.length c3)) rfl (.start w) fun b W hk hb1 hb=>?_
 have hoff:=a8h hk.cells
 have hwW:=hk.below.size
 repeat (any_goals (first
 | ((with_reducible refine a0m c0i ?_); intro g2 w2 h2 hg2 hB)
 | ((with_reducible refine oG fun X Y=>?_); simp [go_sem,hk.cells]; apply Y; clear Y X)))
 have hk:=hk.next h2
 refine a0i b5a (xs:=c2f h.bl (.slice a2 h.bl.ys.length c2)) rfl rfl (b2h _ _ _ _) hB rfl (fun w3 hg3 hB=>?_)
 have hk:=(hk.wrote hg3 (by omega) (fun p hp=>by have:=hoff p hp; omega)).drew
 clear hoff hwW h2 hg2 hg3 hb1 hb
 refine ⟨Nx { w3 with drawn:=w3.drawn + 1 },bR,rfl,?_⟩
 have hB:=hB.next (.drawn (B:=w3.heap.size))
 generalize ({ w3 with drawn:=w3.drawn + 1 }:World) = W4 at hk hB ⊢
 refine Xc (fun W0 hW0=>An2 ((hk.next hW0).cells) ((hB.next hW0).are)) ?_
 have hE:(a3m h).length = (a0d [h.limit,h.window]).length + (a0d h.attrs).length + (a0d [h.bl.s,h.bl.u,h.bl.v]).length + (a0d h.bl.ys).length + (a0d (a5m h.t)).length + (a1a h.links.length).length + (h.links.map a5g).flatten.length:=by
  unfold a3m
  simp only [List.length_append]
 refine ⟨Nx,?_⟩
 refine b0h (fun v w'=>Ints w' v [h.limit,h.window]) (fun v w w1 hS h=>h.next hS) ?_ ?_
 ·intro w1 h1
  exact mk2 _ _ (a1f hh.wf.limit) (a1f hh.wf.window) (fun v w2 h2 hi=>⟨h1.on h2,h2,hi⟩)
 apply a2l
 ·intro w1 h1 v1 hi1
  exact Cd.qNums_ok _ v1 (a3j hi1) (c2k hh.wf (i:=0) (by omega)) (by show (a0d _).length < _; omega) (fun w2 h2=>⟨h1.on h2,h2,rfl⟩)
 apply a2l
 ·intro w1 h1
  exact Cd.qNums_ok _ _ (a3j (hh.attrs.next (hk.next h1).below)) hh.wf.attrs (by show (a0d _).length < _; omega) (fun w2 h2=>⟨h1.on h2,h2,rfl⟩)
 apply a2l
 ·rintro w1 h1 _ rfl _ rfl
  exact a4j _ _ (by show (a0d _).length + (a0d _).length < _; omega) ⟨h1,bR,rfl⟩
 refine b0h (fun v w'=>Ints w' v [h.bl.s,h.bl.u,h.bl.v]) (fun v w w1 hS h=>h.next hS) ?_ ?_
 ·intro w1 h1
  exact g8f _ _ _ (a1f hh.wf.s) (a1f hh.wf.u) (a1f hh.wf.v) (fun v w2 h2 hi=>⟨h1.on h2,h2,hi⟩)
 apply a2l
 ·intro w1 h1 v1 hi1
  exact Cd.qNums_ok _ v1 (a3j hi1) (c2k hh.wf (i:=2) (by omega)) (by show (a0d _).length < _; omega) (fun w2 h2=>⟨h1.on h2,h2,rfl⟩)
 apply a2l
 ·rintro w1 h1 _ rfl _ rfl
  exact a4j _ _ (by rw [List.length_append]; show (a0d _).length + (a0d _).length + (a0d _).length < _; omega) ⟨h1,bR,rfl⟩
 apply a2l
 ·intro w1 h1
  exact Cd.qNums_ok _ _ (a3j (hh.ys.next (hk.next h1).below)) hh.wf.ys (by show (a0d _).length < _; omega) (fun w2 h2=>⟨h1.on h2,h2,rfl⟩)
 apply a2l
 ·rintro w1 h1 _ rfl _ rfl
  exact a4j _ _ (by simp only [List.length_append]; show (a0d _).length + (a0d _).length + (a0d _).length + (a0d _).length < _; omega) ⟨h1,bR,rfl⟩
 refine b0h (fun v w'=>Ints w' v (a5m h.t)) (fun v w w1 hS h=>h.next hS) ?_ ?_
 ·intro w1 h1
  exact c4i h.t hh.wf.t (fun w2 v h2 hi=>⟨h1.on h2,h2,hi⟩)
 apply a2l
 ·intro w1 h1 v1 hi1
  exact Cd.qNums_ok _ v1 (a3j hi1) hh.wf.t.all (by show (a0d _).length < _; omega) (fun w2 h2=>⟨h1.on h2,h2,rfl⟩)
 apply a2l
 ·rintro w1 h1 _ rfl _ rfl
  exact a4j _ _ (by simp only [List.length_append]; show (a0d _).length + (a0d _).length + (a0d _).length + (a0d _).length + (a0d _).length < _; omega) ⟨h1,bR,rfl⟩
 apply a2l
 ·intro w1 h1
  exact Cd.qNum_ok _ ⟨by omega,by omega⟩ (fun w2 h2=>⟨h1.on h2,h2,rfl⟩)
 rintro w5 h5 _ - _ rfl _ rfl _ rfl _ - _ rfl _ rfl _ rfl _ rfl _ - _ rfl _ rfl _ rfl
 have hk:=hk.next h5
 clear h5 hB
 refine a4j _ _ (by simp only [List.length_append]; show (a0d _).length + (a0d _).length + (a0d _).length + (a0d _).length + (a0d _).length + _ < _; omega) ?_
 have hP:∃ P:a0h,P = a2g ([h.limit,h.window].map a0n) ++ a2g (h.attrs.map a0n) ++ a2g ([h.bl.s,h.bl.u,h.bl.v].map a0n) ++ a2g (h.bl.ys.map a0n) ++ a2g ((a5m h.t).map a0n) ++ a1a h.links.length ∧ a3m h = P ++ (h.links.map a5g).flatten:=⟨_,rfl,rfl⟩
 obtain ⟨P,hP1,hP2⟩:=hP
 rw [← hP1]
 rw [hP2] at k hsz
 rw [List.length_append] at hsz
 have hk0:=hk
 refine ⟨EmJ P h.links w5,(fun vs _=>match vs with | [_,.int _ i]=>h.links.length - i.toNat | _=>0),⟨0,by simp,by omega,bR⟩,?_⟩
 clear hE hP1
 rintro _ _ w8 ⟨i,rfl,hi,h8⟩
 have hk:=hk.next h8
 by_cases hin:i = h.links.length
 ·subst hin
  rw [List.take_length]
  refine Xa hk.cells ?_
  exact k _ hk.below
 have hil:i < h.links.length:=by omega
 have hiZ:(i:Int) < h.links.length:=by omega
 obtain ⟨b1,o1,rfl,hb1,cs,hcl,hcc,av,rfl,hans,hwf⟩:=(hh.links.next (a1o a4i) hk.below).at (i:=i) hil
 have hfl:=Cd.flat_snoc a5g h.links i hil
 have hle:=Cd.flat_le a5g h.links (i + 1)
 refine Xa (An2 hk.cells @hiZ) ?_
 refine a3n hcc c0g (by kernel_rfl) (by rw [hcl]; kernel_rfl) ?_
 obtain ⟨a5,c5,rfl⟩:=hans.isSlice
 refine a0m c5s (fun g9 w9 h9 hg9 hB=>?_)
 have hk:=hk.next h9
 refine a0i c5t (xs:=lkC h.links[i] (.slice a5 h.links[i].spend.answers.length c5)) rfl rfl (b2g _ _ _ _) hB rfl (fun w10 hg10 hB=>?_)
 have h8x:Bw w8 w10:=a0y h9 hg10 hg9
 have hx10:=hans.next h8x
 have hx10:=hx10.next (.drawn (B:=w10.heap.size))
 have hB:=hB.next (.drawn (B:=w10.heap.size))
 have h8x:=h8x.on (.drawn (B:=w10.heap.size))
 refine ⟨Nx { w10 with drawn:=w10.drawn + 1 },bR,rfl,?_⟩
 generalize ({ w10 with drawn:=w10.drawn + 1 }:World) = W11 at hx10 hB h8x ⊢
 generalize h.links[i] = x at *
 refine Xc (fun W0 hW0=>(hB.next hW0).are) ?_
 have hX:(a5g x).length = (a0d (a5m x.ticket)).length + (a0n x.spend.dare).length + (a0d x.spend.answers).length + (a0t x.terms).length:=by simp only [a5g,List.length_append]
 rw [hfl,List.length_append] at hle
 refine ⟨Nx,?_⟩
 refine b0h (fun v w'=>Ints w' v (a5m x.ticket)) (fun v w w1 hS h=>h.next hS) ?_ ?_
 ·intro w1 h1
  exact c4i _ hwf.t (fun w2 v h2 hi=>⟨h1.on h2,h2,hi⟩)
 apply a2l
 ·intro w1 h1 v1 hi1
  exact Cd.qNums_ok _ v1 (a3j hi1) hwf.t.all (by show (a0d _).length < _; omega) (fun w2 h2=>⟨h1.on h2,h2,rfl⟩)
 apply a2l
 ·rintro w1 h1 _ rfl
  exact a4j _ _ (by show _ + (a0d _).length < _; rw [List.length_append]; omega) ⟨h1,bR,rfl⟩
 apply a2l
 ·intro w1 h1
  exact Cd.qInt_ok _ hwf.dare (fun w2 h2=>⟨h1.on h2,h2,rfl⟩)
 apply a2l
 ·rintro w1 h1 _ rfl _ rfl
  exact a4j _ _ (by simp only [List.length_append]; show _ + (a0d _).length + _ < _; omega) ⟨h1,bR,rfl⟩
 apply a2l
 ·intro w1 h1
  exact Cd.qNums_ok _ _ (a3j (hx10.next h1)) hwf.ans (by show (a0d _).length < _; omega) (fun w2 h2=>⟨h1.on h2,h2,rfl⟩)
 apply a2l
 ·rintro w1 h1 _ rfl _ rfl
  exact a4j _ _ (by simp only [List.length_append]; show _ + (a0d _).length + _ + (a0d _).length < _; omega) ⟨h1,bR,rfl⟩
 apply a2l
 ·intro w1 h1
  exact Cd.qText_ok _ (Nat.lt_of_le_of_lt (show x.terms.length ≤ (a0t x.terms).length by simp [a0t]; omega) (by omega)) (fun w2 h2=>⟨h1.on h2,h2,rfl⟩)
 rintro w12 h12 _ - _ rfl _ rfl _ rfl _ rfl _ rfl _ rfl _ rfl
 refine a4j _ _ (by simp only [List.length_append]; show _ + (a0d _).length + _ + (a0d _).length + _ < _; omega) ?_
 refine Xa0 ?_
 refine ⟨⟨i + 1,?_,by omega,h8.on (h8x.on h12)⟩,by show h.links.length - (((i + 1:Nat):Int)).toNat < h.links.length - ((i:Nat):Int).toNat; omega⟩
 rw [hfl]
 simp only [a5g,a0d,List.append_assoc]
 rfl
end
end Go.Proofs
namespace PuSpec
open FdSpec TkSpec CodeSpec
theorem a7p {r:Rd} (hr:r.ok):(a0d (a0c r).1).length ≤ r.rest.length + 3:=by
 rcases a2r r hr with e | ⟨vs,t,e,es,_⟩
 ·rw [e]
  have:(a0d []).length = 3:=by decide +kernel
  show (a0d []).length ≤ _
  omega
 ·rw [e,es]; simp; omega
theorem c4c {r:Rd} (hr:r.ok):(a0t (a0s r).1).length ≤ r.rest.length + 3:=by
 rcases a2q r hr with e | ⟨vs,t,e,es,_⟩
 ·rw [e]
  have:(a0t []).length = 3:=by decide +kernel
  show (a0t []).length ≤ _
  omega
 ·rw [e,es]; simp; omega
theorem a5l {r:Rd} (hr:r.ok):(a0c r).2.rest.length ≤ r.rest.length:=by
 rcases a2r r hr with e | ⟨vs,t,e,es,_⟩
 ·rw [e]; simp [failed]
 ·rw [e,es]; simp
theorem c4d {r:Rd} (hr:r.ok):(a0s r).2.rest.length ≤ r.rest.length:=by
 rcases a2q r hr with e | ⟨vs,t,e,es,_⟩
 ·rw [e]; simp [failed]
 ·rw [e,es]; simp
theorem d0i {r:Rd} (hr:r.ok):(a1s r).2.rest.length ≤ r.rest.length:=by
 rcases a7h r hr with e | ⟨vs,t,e,es,_⟩
 ·rw [e]; simp [failed]
 ·rw [e,es]; simp
theorem c0p {r:Rd} (hr:r.ok):(a1m r).2.rest.length ≤ r.rest.length:=by
 rcases a8q r hr with e | ⟨vs,t,e,es,_⟩
 ·rw [e]; simp [failed]
 ·rw [e,es]; simp
theorem d0j {l:List Int} (h:l.length = 6):a5m (ofL l) = l:=by
 match l,h with
 | [a,b,c,d,e,f],_=>rfl
theorem b6i (hI:∀ n,InR n → (a0n n).length ≤ 30) (N:Nat):∀ (k:Nat) (r:Rd),r.ok → r.rest.length ≤ N → (((a2n k r).1.map a5g).flatten).length ≤ k * (3 * N + 100)
 | 0,r,_,_=>by simp [a2n]
 | k + 1,r,hr,hN=>by
  have o1:=a0k hr
  have o2:=b1i o1
  have o3:=a0k o2
  have o4:=b0p o3
  have l1:=a5l hr
  have l2:=d0i o1
  have l3:=a5l o2
  have l4:=c4d o3
  have ih:=b6i hI N k _ o4 (by omega)
  have s1:=a7p hr
  have s2:=hI _ (e1c _ o1)
  have s3:=a7p o2
  have s4:=c4c o3
  rw [a2n]
  by_cases h6:(a0c r).1.length = 6
  ·rw [if_pos h6]
   simp only [List.map_cons,List.flatten_cons,List.length_append,a5g,d0j h6]
   rw [Nat.add_mul,Nat.one_mul]
   omega
  ·rw [if_neg h6]
   simp
theorem f0d {l:List Int} (h:l.length = 2):[l.getD 0 0,l.getD 1 0] = l:=by
 match l,h with
 | [a,b],_=>rfl
theorem d2l {l:List Int} (h:l.length = 3):[l.getD 0 0,l.getD 1 0,l.getD 2 0] = l:=by
 match l,h with
 | [a,b,c],_=>rfl
theorem c7t (hI:∀ n,InR n → (a0n n).length ≤ 30) (s:a0h) (hs:s.length < 2 ^ 30) (hk:a6v (a2s s) = true):(a3m (c2o (a2s s) (a2n (a2s s).n.1.toNat (a2s s).n.2).1)).length < 2 ^ 39:=by
 simp only [a6v,Bool.and_eq_true,decide_eq_true_eq] at hk
 obtain ⟨⟨⟨h1,h2⟩,h3⟩,h4⟩:=hk
 have o0:(⟨s,false⟩:Rd).ok:=by intro h; cases h
 have o1:=a0k o0
 have o2:=a0k o1
 have o3:=a0k o2
 have o4:=a0k o3
 have o5:=a0k o4
 have o6:=a6x o5
 have l1:=a5l o0
 have l2:=a5l o1
 have l3:=a5l o2
 have l4:=a5l o3
 have l5:=a5l o4
 have l6:=c0p o5
 have s1:=a7p o0
 have s2:=a7p o1
 have s3:=a7p o2
 have s4:=a7p o3
 have s5:=a7p o4
 have hl:=b6i hI s.length (a2s s).n.1.toNat _ o6 (by show _ ≤ s.length; have:(⟨s,false⟩:Rd).rest.length = s.length:=rfl; omega)
 have hw:=(b2t (a2s s).n.1.toNat (a2s s).n.2 o6).1
 have hn4:(a2s s).n.1.toNat ≤ 4:=by omega
 have hm:(a2s s).n.1.toNat * (3 * s.length + 100) ≤ 4 * (3 * s.length + 100):=Nat.mul_le_mul_right _ hn4
 have hen:(a1a ((a2n (a2s s).n.1.toNat (a2s s).n.2).1.length:Nat)).length ≤ 30:=by
  unfold a1a
  split
  ·simp
  ·exact hI _ ⟨by omega,by omega⟩
 have hs0:(⟨s,false⟩:Rd).rest.length = s.length:=rfl
 unfold a3m c2o
 simp only [List.length_append,f0d h1,d2l h2,d0j h3]
 have e1:(a0d (a2s s).head.1).length ≤ s.length + 3:=s1
 have e2:(a0d (a2s s).attrs.1).length ≤ s.length + 3:=by have:(a0d (a2s s).attrs.1).length ≤ _:=s2; omega
 have e3:(a0d (a2s s).three.1).length ≤ s.length + 3:=by have:(a0d (a2s s).three.1).length ≤ _:=s3; omega
 have e4:(a0d (a2s s).ys.1).length ≤ s.length + 3:=by have:(a0d (a2s s).ys.1).length ≤ _:=s4; omega
 have e5:(a0d (a2s s).t.1).length ≤ s.length + 3:=by have:(a0d (a2s s).t.1).length ≤ _:=s5; omega
 have e6:(((a2n (a2s s).n.1.toNat (a2s s).n.2).1.map a5g).flatten).length ≤ (a2s s).n.1.toNat * (3 * s.length + 100):=hl
 omega
theorem f9s (s:a0h) (h6:(a2s s).t.1.length = 6):WHld (c2o (a2s s) (a2n (a2s s).n.1.toNat (a2s s).n.2).1) ∧ (a2n (a2s s).n.1.toNat (a2s s).n.2).1.length ≤ (a2s s).n.1.toNat:=by
 have o0:(⟨s,false⟩:Rd).ok:=by intro h; cases h
 have o1:=a0k o0
 have o2:=a0k o1
 have o3:=a0k o2
 have o4:=a0k o3
 have o5:=a0k o4
 have o6:=a6x o5
 have n1:=a1z _ o0
 have n2:=a1z _ o1
 have n3:=a1z _ o2
 have n4:=a1z _ o3
 have n5:=a1z _ o4
 have hw:=b2t (a1m (a0c (a0c (a0c (a0c (a0c ⟨s,false⟩).2).2).2).2).2).1.toNat _ o6
 have eh:a2s s = ⟨a0c ⟨s,false⟩,a0c (a0c ⟨s,false⟩).2,a0c (a0c (a0c ⟨s,false⟩).2).2,a0c (a0c (a0c (a0c ⟨s,false⟩).2).2).2,a0c (a0c (a0c (a0c (a0c ⟨s,false⟩).2).2).2).2,a1m (a0c (a0c (a0c (a0c (a0c ⟨s,false⟩).2).2).2).2).2⟩:=rfl
 rw [eh] at h6 ⊢
 clear eh o0 o1 o2 o3 o4 o5 o6
 generalize a0c ⟨s,false⟩ = a at *
 generalize a0c a.2 = b at *
 generalize a0c b.2 = c at *
 generalize a0c c.2 = d at *
 generalize a0c d.2 = e at *
 generalize a1m e.2 = f at *
 dsimp only at h6 ⊢
 generalize a2n f.1.toNat f.2 = L at *
 refine ⟨⟨a3l n1.1 0,a3l n1.1 1,n2.1,n2.2,a3l n3.1 0,a3l n3.1 1,a3l n3.1 2,n4.1,n4.2,⟨?_⟩,hw.2⟩,hw.1⟩
 show ∀ v ∈ a5m (ofL _),InR v
 rw [b1j h6]
 exact n5.1
end PuSpec
namespace Go.Proofs
open Go Go.Sh Go.RowKit FdSpec TkSpec CodeSpec PuSpec
section
variable {K:VK} {w w' w0 W W':World} {L:List (Addr × Value)}
theorem b9r {v:Value} {l:List Int} (hl:Ints w v l) (k:∀ w' t,Bw w w' → (l.length = 6 → t = ofL l) → K (.tuple #[b7p t,.bool (decide (l.length = 6))]) w'):a0a Tryz.prog 57 #[v] K w:=by
 apply e8k
 unfold g4q
 have hll:=hl.len
 refine a0m d1i (fun g2 w1 h1 hg2 hH=>?_)
 have hl1:=hl.next h1
 obtain ⟨ad,c,rfl⟩:=hl.isSlice
 by_cases h6:l.length = 6
 ·have h6Z:(l.length:Int) = 6:=by omega
  rw [decide_eq_true h6] at k
  obtain ⟨a0,a1,a2,a3,a4,a5,rfl⟩:=g7k h6
  refine Xa @h6Z ?_
  have hb2:Below w1.heap.size w1 { w1 with drawn:=w1.drawn + 1 }:=.drawn
  have hl2:=hl1.next hb2
  have hH2:=hH.next hb2
  have h2:=h1.on hb2
  refine ⟨Nx { w1 with drawn:=w1.drawn + 1 },bR,rfl,?_⟩
  generalize ({ w1 with drawn:=w1.drawn + 1 }:World) = W3 at hl2 hH2 h2 ⊢
  obtain ⟨b5,o5,rfl,hb5,c0,_⟩:=hl2.at (i:=0) (by simp)
  obtain ⟨_,_,e1,_,c1,_⟩:=hl2.at (i:=1) (by simp)
  cases e1
  obtain ⟨_,_,e1,_,c2,_⟩:=hl2.at (i:=2) (by simp)
  cases e1
  obtain ⟨_,_,e1,_,c3,_⟩:=hl2.at (i:=3) (by simp)
  cases e1
  obtain ⟨_,_,e1,_,c4,_⟩:=hl2.at (i:=4) (by simp)
  cases e1
  obtain ⟨_,_,e1,_,c5,_⟩:=hl2.at (i:=5) (by simp)
  cases e1
  simp only [List.getElem_cons_zero,List.getElem_cons_succ,Nat.add_zero] at c0 c1 c2 c3 c4 c5
  refine Xc (fun W0 hW0=>An6 (c0 _ hW0) (c1 _ hW0) (c2 _ hW0) (c3 _ hW0) (c4 _ hW0) (c5 _ hW0)) ?_
  refine ⟨Nx,fun w4 h4=>?_⟩
  rw [c5r]
  refine a5q ?_
  refine a0i b4z (xs:=b4y ⟨a0,a1,a2,a3,a4,a5⟩) rfl rfl (b1a _) (hH2.next h4) rfl (fun w5 hg5 hH5=>?_)
  refine a5p hH5 c5q (by kernel_rfl) (by kernel_rfl) ?_
  exact k w5 _ (a0y (h2.on h4) hg5 hg2) (fun _=>rfl)
 ·have h6Z:¬ (l.length:Int) = 6:=by omega
  rw [decide_eq_false h6] at k
  refine Xb4 @h6Z ?_
  refine a0i b4z (xs:=b4y ⟨0,0,0,0,0,0⟩) rfl rfl (b1a _) hH rfl (fun w5 hg5 hH5=>?_)
  refine a5p hH5 c5q (by kernel_rfl) (by kernel_rfl) ?_
  exact k w5 _ (a0y h1 hg5 hg2) (fun e=>absurd e h6)
theorem c4j (n:Int) (q:a0h) (hq:q.length < 2 ^ 40) (k:∀ w',Bw w w' → K (.string ⟨(a7s n q).toArray⟩) w'):a0a Tryz.prog 20 #[.int .i64 n,.string ⟨q.toArray⟩] K w:=by
 apply e8l
 unfold g4r
 refine a8u _ _ _ ?_
 rw [c0y]
 unfold a7s at k
 cases ht:a4l n with
 | false=>
  rw [ht] at k
  refine Xa0 ?_
  exact k _ (bR)
 | true=>
 rw [ht] at k
 by_cases h20:20 < q.length
 ·have h20Z:(20:Int) < q.length:=by omega
  rw [if_pos (by simp [h20])] at k
  refine Xa (An2 @a3o @h20Z) ?_
  exact k _ (bR)
 ·have h20Z:¬ (20:Int) < q.length:=by omega
  rw [if_neg (by simp [h20])] at k
  have hi:InR n:=by have:=(a4q n).1 ht; exact ⟨by omega,by omega⟩
  refine Xa (An2 @a3o @h20Z) ?_
  refine Cd.qNum_ok n hi (fun w1 h1=>?_)
  refine Cd.qText_ok q (by omega) (fun w2 h2=>?_)
  have hnl:=e3w hi
  refine a4j _ _ (by have:(a0t q).length ≤ 1000:=(by have:=a4k (q.length:Int) ⟨by omega,by omega⟩; simp [a0t]; omega); omega) ?_
  exact k _ (h1.on h2)
theorem c8b (a b:a0h):b1l a b = ((a1x a).2 && (a1x b).2 && decide ((a1x a).1.1 ≤ (a1x b).1.1) && (decide ((a1x b).1.2 = []) || decide ((a1x a).1.2 = (a1x b).1.2))):=by
 rw [a9h,a9h]
 rfl
theorem a9l (s:a0h) (hs:s.length < 2 ^ 30) (k:∀ w',Bw w w' → K (.tuple #[.int .i64 (a1x s).1.1,.string ⟨(a1x s).1.2.toArray⟩,.bool (a1x s).2]) w'):a0a Tryz.prog 17 #[.string ⟨s.toArray⟩] K w:=by
 apply e8m
 unfold g4s
 refine Cd.qopen_ok s (fun w1 hr1 h1=>?_)
 have o0:(⟨s,false⟩:Rd).ok:=by intro h; cases h
 refine Cd.qnum_ok _ _ (by show s.length < _; omega) hr1 (fun w2 hr2 hg2=>?_)
 have o1:=a6x o0
 have l1:=c0p o0
 have l1':(a1m ⟨s,false⟩).2.rest.length ≤ s.length:=l1
 refine Cd.qtext_ok _ _ (by omega) o1 hr2 (fun w3 hr3 hg3=>?_)
 have ht:(a0s (a1m ⟨s,false⟩).2).1.length ≤ s.length + 3:=by
  have:=c4c o1
  have h2:(a0s (a1m ⟨s,false⟩).2).1.length ≤ (a0t (a0s (a1m ⟨s,false⟩).2).1).length:=by simp [a0t]; omega
  omega
 have hb:Bw w w3:=(h1.grown hg2 h1.size (fun j e=>by cases e; exact rL)).grown hg3 (by have:=h1.size; have:=hg2.size; omega) (fun j e=>by cases e; exact rL)
 refine Cd.qdone_ok _ _ hr3 ?_
 rw [b0y]
 unfold a1x at k
 generalize (a1m ⟨s,false⟩).1 = n at *
 generalize (a0s (a1m ⟨s,false⟩).2).1 = q at *
 cases hd:a7r (a0s (a1m ⟨s,false⟩).2).2 with
 | false=>
  rw [hd] at k
  refine Xa0 ?_
  exact k _ hb
 | true=>
 rw [hd] at k
 by_cases hs0:s = []
 ·rw [if_pos (by simp [hs0])] at k
  subst hs0
  refine Xa0 ?_
  exact k _ hb
 ·refine Xa (An2 @a5f @hs0) ?_
  refine c4j n q (by omega) (fun w4 h4=>?_)
  by_cases he:a7s n q = s
  ·rw [if_neg (by simp [hs0,he])] at k
   refine Xa (An2 @b7z @he) ?_
   exact k _ (hb.on h4)
  ·rw [if_pos (by simp [he])] at k
   refine Xa (An2 @b7z @he) ?_
   exact k _ (hb.on h4)
theorem c8c (a b:a0h) (ha:a.length < 2 ^ 30) (hb:b.length < 2 ^ 30) (k:∀ w',Bw w w' → K (.bool (b1l a b)) w'):a0a Tryz.prog 26 #[.string ⟨a.toArray⟩,.string ⟨b.toArray⟩] K w:=by
 apply e8n
 unfold g4t
 rw [c8b] at k
 refine a9l a ha (fun w1 h1=>?_)
 refine Xa0 ?_
 refine a9l b hb (fun w2 h2=>?_)
 have k:=k _ (h1.on h2)
 generalize a1x a = ra at *
 generalize a1x b = rb at *
 obtain ⟨⟨n1,q1⟩,f1⟩:=ra
 obtain ⟨⟨n2,q2⟩,f2⟩:=rb
 simp only at k
 cases f1 with
 | false=>
  refine Xa0 ?_
  exact k
 | true=>
 cases f2 with
 | false=>
  refine Xa0 ?_
  exact k
 | true=>
 by_cases hn:n1 ≤ n2
 ·by_cases hq:q2 = []
  ·rw [decide_eq_true hn,decide_eq_true hq] at k
   refine Xa (An3 @hn @a5f @hq) ?_
   exact k
  ·rw [decide_eq_true hn,decide_eq_false hq] at k
   by_cases he:q1 = q2
   ·rw [decide_eq_true he] at k
    refine Xa (An5 @hn @a5f @hq @b7z @he) ?_
    exact k
   ·rw [decide_eq_false he] at k
    refine Xa (An5 @hn @a5f @hq @b7z @he) ?_
    exact k
 ·rw [decide_eq_false hn] at k
  refine Xa @hn ?_
  exact k
end
end Go.Proofs
namespace Go.Proofs
open Go Go.Sh Tryz
variable {a0:Value} {K:VK} {w:World}
def b3u (J_52:List Value → World → Prop) (K:VK) (a0:Value) (l_54:List Value) (m_53:List Value → World → Nat) (v16 v2 v36 v5:Value) (w0_l_54:World):Prop:=
 (fun w=>(
 kB .lss 3 4 (l_54.getD 2 undef) v36 (fun v81=>
 kO v81 (a0a prog 56 #[v16] fun v86=>
 a0a prog 57 #[v86] fun v87=>
 kE 0 31 v87 fun v88=>
 kE 1 4 v87 fun v89=>
 kA 31 fun v12=>
 kS 31 v12 v88 fun _=>
 kL 31 v12 fun v90=>
 oM prog (.build 95 #[(0,(.tmp 0))]) 95 [v90] fun v91=>
 kA 95 fun v14=>
 kS 95 v14 v91 fun _=>
 a0a prog 59 #[v16] fun v93=>
 kF 95 1 v14 fun v94=>
 kF 84 0 v94 fun v95=>
 kS 3 v95 v93 fun _=>
 a0a prog 56 #[v16] fun v97=>
 kF 95 1 v14 fun v98=>
 kF 84 1 v98 fun v99=>
 kS 24 v99 v97 fun _=>
 a0a prog 60 #[v16] fun v101=>
 kF 95 2 v14 fun v102=>
 kS 9 v102 v101 fun _=>
 kU v89 fun v104=>
 kO v104 (oM prog (.build 34 #[]) 34 [] fun v105=>
 kS 34 v2 v105 fun _ w=>
 ∃ r_74,(do loadVar 34 (← asAddr v2):Sem Value).run prog w = .ok r_74 w ∧ K (.tuple #[r_74,(.bool false)]) w)
 (kF 34 5 v5 fun v106=>
 kL 32 v106 fun v107=>
 kL 95 v14 fun v108=>
 oM prog (.buildSlice 32 1 #[(0,(.tmp 0))]) 32 [v108] fun v109=>
 oM prog (.call (Go.Call.mk (.builtin .append) #[(.tmp 0),(.tmp 1)] #[32,32])) 32 [v107,v109] fun v110=>
 kF 34 5 v5 fun v111=>
 kS 32 v111 v110 fun _=>
 kB .add 3 3 (l_54.getD 2 undef) (.int .i64 1) fun v83=>
 kJ J_52 m_53 l_54 w0_l_54 [v89,(l_54.getD 1 undef),v83]))
 (a0a prog 61 #[v16] fun v113=>
 kU v113 fun v114 w=>
 gF v114 (kL 34 v5) (fun v116 w=>
 gF v114 (a0a prog 24 #[v116]) (fun v117 w=>
 gF v114 (a0f a0) (fun v118 w=>
 gF v114 (kB .neq 9 4 v117 v118) (fun v119=>
 kP v114 (.bool true) v119 fun v120=>
 kO v120 (oM prog (.build 34 #[]) 34 [] fun v121=>
 kS 34 v2 v121 fun _ w=>
 ∃ r_90,(do loadVar 34 (← asAddr v2):Sem Value).run prog w = .ok r_90 w ∧ K (.tuple #[r_90,(.bool false)]) w)
 (kL 34 v5 fun v122=>
 kS 34 v2 v122 fun _ w=>
 ∃ r_92,(do loadVar 34 (← asAddr v2):Sem Value).run prog w = .ok r_92 w ∧ K (.tuple #[r_92,(.bool true)]) w)) w) w) w) w)) w)) w0_l_54
def g4u (a0:Value) (K:VK) (w:World):Prop:=
 kA 34 (fun v2=>
 a0a prog 55 #[a0] fun v16=>
 oM prog (.build 34 #[]) 34 [] fun v17=>
 kA 34 fun v5=>
 kS 34 v5 v17 fun _=>
 a0a prog 56 #[v16] fun v19=>
 a0a prog 56 #[v16] fun v21=>
 kF 34 2 v5 fun v22=>
 kS 24 v22 v21 fun _=>
 a0a prog 56 #[v16] fun v24=>
 a0a prog 56 #[v16] fun v26=>
 kF 34 3 v5 fun v27=>
 kF 29 3 v27 fun v28=>
 kS 24 v28 v26 fun _=>
 a0a prog 56 #[v16] fun v31=>
 a0a prog 57 #[v31] fun v32=>
 kE 0 31 v32 fun v33=>
 kE 1 4 v32 fun v34=>
 kA 31 fun v8=>
 kS 31 v8 v33 fun _=>
 a0a prog 58 #[v16] fun v36=>
 kN 24 v19 fun v38=>
 kC .neq 3 2 4 v38 fun v39 w=>
 gF v39 (a0f v24) (fun v41 w=>
 gF v39 (kN 24 v41) (fun v42 w=>
 gF v39 (kC .neq 3 3 4 v42) (fun v43=>
 kP v39 (.bool true) v43 fun v44 w=>
 gF v44 (a0f v34) (fun v46 w=>
 gF v44 (kU v46) (fun v47=>
 kP v44 (.bool true) v47 fun v48 w=>
 gF v48 (a0f v36) (fun v50 w=>
 gF v48 (kB .gtr 3 4 v50 (.int .i64 4)) (fun v51=>
 kP v48 (.bool true) v51 fun v52=>
 kO v52 (oM prog (.build 34 #[]) 34 [] fun v53=>
 kS 34 v2 v53 fun _ w=>
 ∃ r_31,(do loadVar 34 (← asAddr v2):Sem Value).run prog w = .ok r_31 w ∧ K (.tuple #[r_31,(.bool false)]) w)
 (kI 24 v19 (.int .i64 0) fun v55=>
 kL 3 v55 fun v56=>
 kF 34 0 v5 fun v57=>
 kS 3 v57 v56 fun _=>
 kI 24 v19 (.int .i64 1) fun v59=>
 kL 3 v59 fun v60=>
 kF 34 1 v5 fun v61=>
 kS 3 v61 v60 fun _=>
 kI 24 v24 (.int .i64 0) fun v63=>
 kL 3 v63 fun v64=>
 kF 34 3 v5 fun v65=>
 kF 29 0 v65 fun v66=>
 kS 3 v66 v64 fun _=>
 kI 24 v24 (.int .i64 1) fun v68=>
 kL 3 v68 fun v69=>
 kF 34 3 v5 fun v70=>
 kF 29 1 v70 fun v71=>
 kS 3 v71 v69 fun _=>
 kI 24 v24 (.int .i64 2) fun v73=>
 kL 3 v73 fun v74=>
 kF 34 3 v5 fun v75=>
 kF 29 2 v75 fun v76=>
 kS 3 v76 v74 fun _=>
 kL 31 v8 fun v77=>
 kF 34 4 v5 fun v78=>
 kS 31 v78 v77 fun _=>
 kQ [undef,(.bool false),(.int .i64 0)] fun J_52 m_53 l_54 u_l_54 w0_l_54=>b3u J_52 K a0 l_54 m_53 v16 v2 v36 v5 w0_l_54)) w) w) w) w) w) w) w) w
theorem e8o (h:g4u a0 K w):a0a prog 15 #[a0] K w:=
 cZ (fun _=>0) func15 h
end Go.Proofs
namespace Go.Proofs
open Go Go.Sh Go.RowKit FdSpec TkSpec CodeSpec PuSpec
section
variable {K:VK} {w w' w0 W W' w2:World} {L:List (Addr × Value)} {b g2 g5:Nat} {r r':Rd} {cs cs':List Value} {p:WK}
structure DqS (w2 W:World) (b g2 g5:Nat) (r:Rd) (cs:List Value):Prop where
 qd:Cd.IsQd W b r
 ok:r.ok
 ln:r.rest.length < 2 ^ 31
 h:Holds W g5 34 cs
 z:Holds W g2 34 hldZ
 f:Fr (fun i=>i = b ∨ i = g5) w2 W
 n:g2 ≠ g5 ∧ b ≠ g2 ∧ b ≠ g5 ∧ g2 < w2.heap.size ∧ g5 < w2.heap.size ∧ b < w2.heap.size
theorem b2x (h:Cd.IsQd W b r) (e:W'.heap[b]? = W.heap[b]?):Cd.IsQd W' b r:=by
 unfold Cd.IsQd at h ⊢
 rw [e]; exact h
theorem DqS.next (k:DqS w2 W b g2 g5 r cs) (hb:Bw W W'):DqS w2 W' b g2 g5 r cs:=
 ⟨b2x k.qd (hb.block b k.qd.lt),k.ok,k.ln,k.h.next hb,k.z.next hb,k.f.trans (S':=fun _=>False) (Fr.of_below hb) (fun _ h=>h.elim),k.n⟩
theorem DqS.rd (k:DqS w2 W b g2 g5 r cs) (hr:Cd.IsQd W' b r') (hg:W.grownBy W' (some b)) (ho:r'.ok) (hl:r'.rest.length ≤ r.rest.length):DqS w2 W' b g2 g5 r' cs:=
 ⟨hr,ho,Nat.lt_of_le_of_lt hl k.ln,k.h.other hg (fun e=>k.n.2.2.1 e.symm),k.z.other hg (fun e=>k.n.2.1 e.symm),k.f.by hg (fun i e=>.inl (.inl (by cases e; rfl))),k.n⟩
theorem DqS.put (k:DqS w2 W b g2 g5 r cs) (hg:W.grownBy W' (some g5)) (hH:Holds W' g5 34 cs'):DqS w2 W' b g2 g5 r cs':=
 ⟨b2x k.qd (hg.block b k.qd.lt (fun e=>k.n.2.2.1 (by cases e; rfl))),k.ok,k.ln,hH,k.z.other hg k.n.1,k.f.by hg (fun i e=>.inl (.inr (by cases e; rfl))),k.n⟩
theorem DqS.oth {o:Option Nat} (k:DqS w2 W b g2 g5 r cs) (hg:W.grownBy W' o) (ho:∀ j,o = some j → w2.heap.size ≤ j):DqS w2 W' b g2 g5 r cs:=by
 have hn:=k.n
 have hf:=k.f.size
 have ne:∀ i,i < w2.heap.size → W'.heap[i]? = W.heap[i]?:=fun i hi=>hg.block i (by omega) (fun e=>by have:=ho i (by first | exact e | exact e.symm); omega)
 exact ⟨b2x k.qd (ne b hn.2.2.2.2.2),k.ok,k.ln,(ne g5 hn.2.2.2.2.1).trans k.h,(ne g2 hn.2.2.2.1).trans k.z,k.f.by hg (fun i e=>.inr (ho i e)),k.n⟩
theorem DqS.bS (k:DqS w2 W b g2 g5 r cs):∀ i,i = b → i < w2.heap.size:=fun i hi=>by subst hi; exact k.n.2.2.2.2.2
theorem DqS.gS (k:DqS w2 W b g2 g5 r cs):∀ i,i = g5 → i < w2.heap.size:=fun i hi=>by subst hi; exact k.n.2.2.2.2.1
theorem g0f {B:Nat} {v:Value} {l:List Int} (h:W.ownsRow B 3 1 v l.length (l.map Cd.intV)):OwnI W B v l:=by
 have e:a3a Go.Sh.intC l = l.map Cd.intV:=by rw [flat_int]; rfl
 show W.ownsRow B 3 1 v l.length (a3a Go.Sh.intC l)
 rw [e]; exact h
theorem DqS.nums (k:DqS w2 W b g2 g5 r cs) (kk:∀ v W',DqS w2 W' b g2 g5 (a0c r).2 cs → W.grownBy W' (some b) → OwnI W' W.heap.size v (a0c r).1 → FP (fun i=>W.heap.size ≤ i ∧ i < W'.heap.size) W' (fun W=>Ints W v (a0c r).1) → K v W') :
  a0a Tryz.prog 56 #[.pointer (some ⟨b,0,none⟩)] K W:=by
 refine Cd.qNums_ok2 b r (Nat.lt_trans k.ln (by decide)) k.ok k.qd (fun v W' hr hg ho=>?_)
 have hi:=a1z k.ok
 have ho':=g0f ho
 exact kk v W' (k.rd hr hg (a0k k.ok) (a5l k.ok)) hg ho' (b3n (w2:=W) ho' (rL) hi.1 hi.2)
def DqJ (w2:World) (B b g2 g5:Nat) (ls:List Lnk) (rF:Rd × Bool) (n:Nat) (f:Value → List Value) (p:WK) (vs:List Value) (W:World):Prop:=
 ∃ (u:Value) (i:Nat) (r:Rd) (lv:Value) (l:List Lnk),vs = [u,.bool false,.int .i64 (i:Int)] ∧ i ≤ n ∧ DqS w2 W b g2 g5 r (f lv) ∧ B ≤ W.heap.size ∧ l ++ (a2n (n - i) r).1 = ls ∧ (a2n (n - i) r).2 = rF ∧ l.length = i ∧ GRow 9 95 c6n B (YgD B W.heap.size lv) W lv l ∧ FP (fun i=>w2.heap.size ≤ i ∧ i < B) W p
theorem c0z (hw2:Bw w w2) (hb:w.heap.size ≤ b) (hg5:w.heap.size ≤ g5) (f:Fr (fun i=>i = b ∨ i = g5) w2 W):Bw w W:=
 ⟨f.os.trans hw2.os,f.tape.trans hw2.tape,f.output.trans hw2.output,Nat.le_trans hw2.size f.size,fun i hi=>(f.block i (lL hi hw2.size) (fun e=>by omega)).trans (hw2.block i hi)⟩
theorem a9m (hz:Holds W g2 34 hldZ) (hg2:w.heap.size ≤ g2) (hb:Bw w W) (kz:∀ w',Bw w w' → K (.tuple #[.agg hldZ.toArray,.bool false]) w') :
  oM Tryz.prog (Go.Op.store 34 (.tmp 0) (.tmp 1)) 0 [ptr g2 0,.agg hldZ.toArray] (fun _ w=>∃ r,(do loadVar 34 (← asAddr (ptr g2 0)):Sem Value).run Tryz.prog w = .ok r w ∧ K (.tuple #[r,(.bool false)]) w) W:=by
 refine a0i a8j (xs:=hldZ) rfl rfl (a5s _ _ _ _ _ _ _ _ _ _ _ _ _ _ _ _ _ _ _ _) hz rfl (fun w5 hg5 hH5=>?_)
 refine a5p hH5 a4u (by kernel_rfl) (by kernel_rfl) ?_
 exact kz w5 (hb.grown hg5 hb.size (fun j e=>by cases e; exact hg2))
structure LpS (w2 W:World) (B N b g2 g5:Nat) (r:Rd) (cs:List Value) (lv:Value) (l:List Lnk) (p:WK):Prop where
 d:DqS w2 W b g2 g5 r cs
 g:GRow 9 95 c6n B (YgD B N lv) W lv l
 p:FP (fun i=>w2.heap.size ≤ i ∧ i < B) W p
 sz:N ≤ W.heap.size
 bn:B ≤ N ∧ w2.heap.size ≤ B
 own:∀ j,lv.ownBlock = some j → B ≤ j ∧ j < N
theorem LpS.next {B N:Nat} {lv:Value} {l:List Lnk} (k:LpS w2 W B N b g2 g5 r cs lv l p) (hb:Bw W W'):LpS w2 W' B N b g2 g5 r cs lv l p:=
 ⟨k.d.next hb,k.g.next hb (fun i hi=>lL hi.2.1 k.sz),k.p.next hb (fun i hi=>by have:=k.bn; have:=k.sz; omega),Nat.le_trans k.sz hb.size,k.bn,k.own⟩
theorem LpS.fr {S:Nat → Prop} {B N:Nat} {lv:Value} {l:List Lnk} (k:LpS w2 W B N b g2 g5 r cs lv l p) (hd:DqS w2 W' b g2 g5 r' cs') (hf:Fr S W W') (hS:∀ i,S i → i < w2.heap.size ∨ N ≤ i):LpS w2 W' B N b g2 g5 r' cs' lv l p:=by
 have hbn:=k.bn
 have hsz:=k.sz
 refine ⟨hd,k.g.keep hf (fun i hi=>⟨by have:=hi.2.1; omega,fun e=>by have:=hS i e; have:=hi.1; have:=hi.2.1; omega⟩) (fun i hi e=>by have:=hS i e; have:=k.own i hi; omega),k.p.fr hf (fun i hi=>⟨by omega,fun e=>by have:=hS i e; omega⟩),Nat.le_trans hsz hf.size,hbn,k.own⟩
theorem LpS.rd {B N:Nat} {lv:Value} {l:List Lnk} (k:LpS w2 W B N b g2 g5 r cs lv l p) (hr:Cd.IsQd W' b r') (hg:W.grownBy W' (some b)) (ho:r'.ok) (hl:r'.rest.length ≤ r.rest.length):LpS w2 W' B N b g2 g5 r' cs lv l p:=
 k.fr (k.d.rd hr hg ho hl) (Fr.of_by hg) (fun i e=>.inl (k.d.bS i e))
theorem LpS.oth {o B N:Nat} {lv:Value} {l:List Lnk} (k:LpS w2 W B N b g2 g5 r cs lv l p) (hg:W.grownBy W' (some o)) (ho:N ≤ o):LpS w2 W' B N b g2 g5 r cs lv l p:=
 k.fr (k.d.oth hg (fun j e=>by cases e; have:=k.bn; omega)) (Fr.of_by hg) (fun i e=>.inr (by omega))
set_option maxHeartbeats 4000000 in
theorem f0j {s:a0h} {av yv:Value} {H:Hld} {n:Nat} {rF:Rd × Bool} (hs:s.length < 2 ^ 40) (hn:n ≤ 4) (D:DqS w2 W b g2 g5 r (b2f H av yv (.slice none 0 0))) (hLS:(a2n n r).1 = H.links) (hrF:(a2n n r).2 = rF) (hwf:rF.2 = true → WHld H) (hsz:(a3m H).length < 2 ^ 39)
  (hp:FP (fun i=>w2.heap.size ≤ i ∧ i < W.heap.size) W (fun W=>Ints W av H.attrs ∧ Ints W yv H.bl.ys)) (hw2:Bw w w2) (hb:w.heap.size ≤ b) (hg2:w.heap.size ≤ g2) (hg5:w.heap.size ≤ g5)
  (kz:(rF.2 = false ∨ a7r rF.1 = false ∨ a3m H ≠ s) → ∀ w',Bw w w' → K (.tuple #[.agg hldZ.toArray,.bool false]) w')
  (kf:rF.2 = true → a7r rF.1 = true → a3m H = s → ∀ w' lv,Bw w w' → Fresh w w' (fun W=>HldR W H av yv lv) → K (.tuple #[b8c H av yv lv,.bool true]) w') :
  e1w [undef,(.bool false),(.int .i64 0)] W (fun J_52 m_53 l_54 u_l_54 w0_l_54=>b3u J_52 K (.string ⟨s.toArray⟩) l_54 m_53 (.pointer (some ⟨b,0,none⟩)) (ptr g2 0) (.int .i64 (n:Int)) (ptr g5 0) w0_l_54):=by
 obtain ⟨aad,ac,rfl⟩:=hp.here.1.isSlice
 obtain ⟨yad,yc,rfl⟩:=hp.here.2.isSlice
 have hB2:=D.f.size
 refine ⟨DqJ w2 W.heap.size b g2 g5 H.links rF n (fun lv=>b2f H (.slice aad H.attrs.length ac) (.slice yad H.bl.ys.length yc) lv) (fun W=>Ints W (.slice aad H.attrs.length ac) H.attrs ∧ Ints W (.slice yad H.bl.ys.length yc) H.bl.ys),
  (fun vs _=>match vs with | [_,_,.int _ i]=>n - i.toNat | _=>0),⟨_,0,r,.slice none 0 0,[],rfl,by omega,D,rL,hLS,hrF,rfl,.nil,hp⟩,?_⟩
 clear D hp hLS hrF
 rintro _ _ w17 ⟨u,i,ri,lv,l,rfl,hi,D,hB17,hls,hrf,hll,hG17,hp17⟩
 unfold b3u
 have hbel:=c0z hw2 hb hg5 D.f
 by_cases hin:¬ i < n
 ·have hiz:¬ (i:Int) < n:=by omega
  have him:n - i = 0:=by omega
  rw [him] at hls hrf
  have hls':l = H.links:=by rw [← hls]; show l = l ++ []; simp
  have hrf':rF = (ri,true):=hrf.symm
  subst hrf'
  have hwf:=hwf rfl
  have hlk0:b7s w17 lv l:=hG17.srow (by decide) (by omega)
  obtain ⟨lad,lc,rfl⟩:=hG17.isSlice
  refine Xa @hiz ?_
  refine Cd.qdone_ok b ri D.qd ?_
  rw [b0y]
  cases hd:a7r ri with
  | false=>
   refine Xa0 ?_
   exact a9m D.z hg2 hbel (kz (.inr (.inl hd)))
  | true=>
  refine b2c ?_
  refine a2k D.h a4u (by kernel_rfl) (by kernel_rfl) ?_
  refine a5q ?_
  have hI:=hp17.here
  have hR:HldR w17 H (.slice aad H.attrs.length ac) (.slice yad H.bl.ys.length yc) (.slice lad l.length lc):=⟨hI.1,hI.2,by rw [← hls']; exact hlk0,hwf⟩
  refine b9q H hR hsz (fun w18 h18=>?_)
  have D18:=D.next h18
  by_cases he:a3m H = s
  ·refine Xb6 (An2 @b7z @he) ?_
   refine a2k D18.h a4u (by kernel_rfl) (by kernel_rfl) ?_
   refine a0i a8j rfl rfl (a5s _ _ _ _ _ _ _ _ _ _ _ _ _ _ _ _ _ _ _ _) D18.z rfl (fun w19 hg19 hH19=>?_)
   refine a5p hH19 a4u (by kernel_rfl) (by kernel_rfl) ?_
   have hlk:Fresh w2 w17 (fun W=>b7s W (.slice lad l.length lc) l):=(hG17.fp (by decide) (by omega)).mono (fun j hj=>by
    rcases hj with hj | hj
    ·exact ⟨by have:=hj.1; omega,hj.2.1⟩
    ·have:=hG17.own hj; exact ⟨by omega,this.1⟩)
   have hall:=a2e ((Fresh.both (hp17.mono (fun j hj=>⟨hj.1,by have:=hj.2; omega⟩)) hlk).next h18) (Fr.of_by hg19) (fun j e=>by subst e; exact D18.n.2.2.2.1)
   exact kf rfl hd he w19 _ ((hbel.on h18).grown hg19 (hbel.on h18).size (fun j e=>by cases e; exact hg2)) ((hall.imp (fun W h=>⟨h.1.1,h.1.2,by rw [← hls']; exact h.2,hwf⟩)).up hw2.size)
  ·refine Xa (An2 @b7z @he) ?_
   exact a9m D18.z hg2 (hbel.on h18) (kz (.inr (.inr he)))
 have him:i < n:=by omega
 have hiz:(i:Int) < n:=by omega
 have hmi:n - i = (n - (i + 1)) + 1:=by omega
 rw [hmi,a2n] at hls hrf
 have L17:LpS w2 w17 W.heap.size w17.heap.size b g2 g5 ri (b2f H (.slice aad H.attrs.length ac) (.slice yad H.bl.ys.length yc) lv) lv l (fun W=>Ints W (.slice aad H.attrs.length ac) H.attrs ∧ Ints W (.slice yad H.bl.ys.length yc) H.bl.ys):=
  ⟨D,hG17,hp17,rL,⟨hB17,hB2⟩,fun j e=>⟨(hG17.own e).2,(hG17.own e).1⟩⟩
 refine Xb2 @hiz ?_
 refine D.nums (fun v w18 D18 hg18 ho18 hf18=>?_)
 have L18:=L17.fr D18 (Fr.of_by hg18) (fun i e=>.inl (D.bS i e))
 have ok1:=a0k D.ok
 have hn1:=a1z D.ok
 have ok2:=b1i ok1
 have hd2:=b6k ok1
 have ok3:=a0k ok2
 have hn3:=a1z ok2
 have ok4:=b0p ok3
 have hx4:=b3y ok3
 have hwt:(a0c ri).1.length = 6 → WTkt (ofL (a0c ri).1):=fun e=>⟨by rw [b1j e]; exact hn1.1⟩
 refine b9r hf18.here (fun w19 t h19 ht=>?_)
 have L19:=L18.next h19
 have l2:=d0i ok1
 have l3:=a5l ok2
 have l4:=c4d ok3
 clear L17 L18 D18 hG17 hp17 ho18 hf18
 generalize (a0c ri).2 = r1 at *
 generalize (a0c ri).1 = nt at *
 refine b2c ?_
 refine a0m d1i (fun g6 w20 h20 hg6 hH20=>?_)
 refine a0i b4z (xs:=b4y t) rfl rfl (b1a _) hH20 rfl (fun w21 hg21 hH21=>?_)
 refine a2k hH21 c5q (by kernel_rfl) (by kernel_rfl) ?_
 have h21:Bw w19 w21:=a0y h20 hg21 hg6
 have L21:=L19.next h21
 rw [c5u]
 refine a5q ?_
 refine a0m c5s (fun g7 w22 h22 hg7 hH22=>?_)
 refine a0i (xs:=lkC ⟨t,⟨0,[]⟩,[]⟩ (.slice none 0 0)) c5t rfl rfl (b2g _ _ _ _) hH22 rfl (fun w23 hg23 hH23=>?_)
 have h23:Bw w21 w23:=a0y h22 hg23 hg7
 have L23:=L21.next h23
 have hg7N:w17.heap.size ≤ g7:=by have:=L21.sz; omega
 have hg7b:g7 ≠ b:=fun e=>by have:=L23.d.n; have:=L23.bn; omega
 clear L19 L21 hH20 hH21 hH22 h19 h20 h21 h22 h23 hg21 hg23
 refine Cd.qint_ok b r1 (Nat.lt_trans L23.d.ln (by decide)) L23.d.qd (fun w24 hr24 hg24=>?_)
 have L24:=L23.rd hr24 hg24 ok2 l2
 have hH24:=hH23.other hg24 hg7b
 clear L23 hH23 hr24
 generalize (a1s r1).2 = r2 at *
 generalize (a1s r1).1 = dr at *
 refine b2c ?_
 refine a2j a4y rfl rfl hH24 (i:=6) (by simp) (fun w25 hg25 hH25=>?_)
 have L25:=L24.oth hg25 hg7N
 clear L24 hH24 hg24 hg25
 refine L25.d.nums (fun av w26 D26 hg26 ho26 hf26=>?_)
 have L26:=L25.fr D26 (Fr.of_by hg26) (fun i e=>.inl (L25.d.bS i e))
 have hH26:=hH25.other hg26 hg7b
 have hg7l:g7 < w25.heap.size:=hH25.lt
 clear L25 hH25 D26
 obtain ⟨nad,nc,rfl⟩:∃ ad c,av = .slice ad _ c:=a2a ho26
 generalize (a0c r2).2 = r3 at *
 generalize (a0c r2).1 = an at *
 refine b2c ?_
 refine a2j a9x rfl rfl hH26 (i:=7) (by simp) (fun w27 hg27 hH27=>?_)
 have L27:=L26.oth hg27 hg7N
 have hf27:=hf26.fr (Fr.of_by hg27) (fun i hi=>⟨hi.2,fun e=>by have:=hi.1; omega⟩)
 clear L26 hH26 hf26
 refine Cd.qtext_ok b r3 (Nat.lt_trans L27.d.ln (by decide)) ok3 L27.d.qd (fun w28 hr28 hg28=>?_)
 have L28:=L27.rd hr28 hg28 ok4 l4
 have hH28:=hH27.other hg28 hg7b
 have hbl:b < w25.heap.size:=by have:=L27.d.n; have:=hg26.size; have:=hg27.size; have:=L27.bn; have:=L27.sz; omega
 have hf28:=hf27.fr (Fr.of_by hg28) (fun i hi=>⟨lL hi.2 hg27.size,fun e=>by have:=hi.1; omega⟩)
 clear L27 hH27 hf27
 generalize (a0s r3).2 = r4 at *
 generalize (a0s r3).1 = tx at *
 refine a5q ?_
 refine a2j (T:=9) f8h rfl rfl hH28 (i:=8) (by simp) (fun w29 hg29 hH29=>?_)
 simp only [List.set_cons_succ,List.set_cons_zero] at hH29
 have L29:=L28.oth hg29 hg7N
 have hs2628:w26.heap.size ≤ w28.heap.size:=Nat.le_trans hg27.size hg28.size
 have hf29:=hf28.fr (Fr.of_by hg29) (fun i hi=>⟨lL hi.2 hs2628,fun e=>by have:=hi.1; omega⟩)
 clear L28 hH28 hf28
 by_cases h6:nt.length = 6
 rotate_left
 ·rw [if_neg h6] at hls hrf
  refine Xa @h6 ?_
  exact a9m L29.d.z hg2 (c0z hw2 hb hg5 L29.d.f) (kz (.inl (by rw [← hrf])))
 rw [if_pos h6] at hls hrf
 have ht:=ht h6
 have hwt:=hwt h6
 subst ht
 dsimp only at hls hrf
 have c13:=L29.d.h.cell 13 (by simp)
 simp only [List.getElem_cons_zero,List.getElem_cons_succ] at c13
 obtain ⟨lad,lc,rfl⟩:=L29.g.isSlice
 refine Xb4 (An2 @h6 @c13) ?_
 refine a2k hH29 c0g (by kernel_rfl) (by kernel_rfl) ?_
 refine e4b ⟨ofL nt,⟨dr,an⟩,tx⟩ nad an.length nc (fun q w30 h30 hq hL30=>?_)
 have L30:=L29.next h30
 have hs2629:w26.heap.size ≤ w29.heap.size:=Nat.le_trans hs2628 hg29.size
 have hf30:=hf29.next h30 (fun i hi=>lL hi.2 hs2629)
 have hs2630:w26.heap.size ≤ w30.heap.size:=Nat.le_trans hs2629 h30.size
 have hlvo:=L30.own
 have hN25:w17.heap.size ≤ w25.heap.size:=by omega
 refine c5z (D:=YgD W.heap.size w30.heap.size (.slice lad l.length lc)) (x:=⟨ofL nt,⟨dr,an⟩,tx⟩) (L30.g.mono (fun j hj=>⟨hj.1,lL hj.2.1 L30.sz,hj.2.2⟩)) (by have:=L30.sz; omega) hL30 ?_ (fun j hj=>⟨hj.2.1,hj.2.2⟩) (by omega) (fun lv' w31 hG31 hg31 hv31=>?_)
 ·refine (hf30.mono (fun j hj=>⟨by omega,by omega,fun e=>by have:=(hlvo j e).2; omega⟩)).imp (fun W hW=>⟨_,rfl,hW,hwt,hd2,hn3.1,hn3.2,hx4⟩)
 have D31:=L30.d.oth hg31 (fun j e=>by have:=(hlvo j e).1; omega)
 have hp31:=L30.p.fr (Fr.of_by' hg31) (fun j hj=>⟨by have:=hj.2; have:=L30.sz; omega,fun e=>by have:=(hlvo j e).1; have:=hj.2; omega⟩)
 obtain ⟨ad31,c31,rfl⟩:=hG31.isSlice
 refine a5q ?_
 refine a2j (T:=32) c8v rfl rfl D31.h (i:=13) (by simp) (fun w32 hg32 hH32=>?_)
 simp only [List.set_cons_succ,List.set_cons_zero] at hH32
 have D32:=D31.put hg32 hH32
 have hg5B:=D31.n.2.2.2.2.1
 have hp32:=hp31.fr (Fr.of_by hg32) (fun j hj=>⟨by have:=hj.2; have:=hg31.size; have:=L30.sz; omega,fun e=>by have:=hj.1; omega⟩)
 have hG32:=hG31.keep (Fr.of_by hg32) (fun j hj=>⟨lL hj.2.1 hg31.size,fun e=>by have:=hj.1; omega⟩) (fun j hj e=>by have:=hG31.own hj; omega)
 refine Xa0 ?_
 refine ⟨⟨_,i + 1,_,_,_,rfl,him,D32,by have:=hg31.size; have:=hg32.size; have:=L30.sz; omega,by rw [← hls]; simp,hrf,by simp [hll],hG32.mono (fun j hj=>⟨hj.1,by have:=hj.2.1; have:=hg31.size; have:=hg32.size; omega,fun e=>?_⟩),hp32⟩,by show n - (((i + 1:Nat):Int)).toNat < n - ((i:Nat):Int).toNat; omega⟩
 exact (hv31 j e).elim (fun e2=>hj.2.2 e2) (fun h=>by have:=hj.2.1; omega)
theorem a3w (D:DqS w2 W b g2 g5 r cs) (h:Fresh w2 W p) (hg:W.grownBy W' (some b)):Fresh w2 W' p:=a2e h (Fr.of_by hg) D.bS
theorem a1i (D:DqS w2 W b g2 g5 r cs) (h:Fresh w2 W p) (hg:W.grownBy W' (some g5)):Fresh w2 W' p:=a2e h (Fr.of_by hg) D.gS
set_option maxHeartbeats 4000000 in
theorem f0k (s:a0h) (hs:s.length < 2 ^ 30) {a0 a1 a2 a3 a4:List Int × Rd} {a5:Int × Rd} {Ls:List Lnk × Rd × Bool} (e0:a0c ⟨s,false⟩ = a0) (e1:a0c a0.2 = a1) (e2:a0c a1.2 = a2) (e3:a0c a2.2 = a3) (e4:a0c a3.2 = a4) (e5:a1m a4.2 = a5) (eL:a2n a5.1.toNat a5.2 = Ls)
  (hwf:a4.1.length = 6 → WHld (c2o ⟨a0,a1,a2,a3,a4,a5⟩ Ls.1)) (hsz:a6v ⟨a0,a1,a2,a3,a4,a5⟩ = true → (a3m (c2o ⟨a0,a1,a2,a3,a4,a5⟩ Ls.1)).length < 2 ^ 39)
  (kz:(a6v ⟨a0,a1,a2,a3,a4,a5⟩ = false ∨ Ls.2.2 = false ∨ a7r Ls.2.1 = false ∨ a3m (c2o ⟨a0,a1,a2,a3,a4,a5⟩ Ls.1) ≠ s) → ∀ w',Bw w w' → K (.tuple #[.agg hldZ.toArray,.bool false]) w')
  (kf:a6v ⟨a0,a1,a2,a3,a4,a5⟩ = true → Ls.2.2 = true → a7r Ls.2.1 = true → a3m (c2o ⟨a0,a1,a2,a3,a4,a5⟩ Ls.1) = s → ∀ w' av yv lv,Bw w w' → Fresh w w' (fun W=>HldR W (c2o ⟨a0,a1,a2,a3,a4,a5⟩ Ls.1) av yv lv) → K (.tuple #[b8c (c2o ⟨a0,a1,a2,a3,a4,a5⟩ Ls.1) av yv lv,.bool true]) w') :
  a0a Tryz.prog 15 #[.string ⟨s.toArray⟩] K w:=by
 apply e8o
 unfold g4u
 have o0:(⟨s,false⟩:Rd).ok:=Rd.ok_good
 have o1:=a0k o0
 rw [e0] at o1
 have i0:=a1z o0
 rw [e0] at i0
 refine a0m b0e (fun g2 w1 h1 hg2 hH2=>?_)
 refine Cd.qopen_ok s (fun w2 hq2 h2=>?_)
 have hb:=hq2.lt
 have hb1:w.heap.size ≤ w1.heap.size:=h1.size
 have hg2l:=hH2.lt
 have h2m:Bw w w2:=h1.trans (h2.mono h1.size)
 have hH2n:=hH2.next h2
 generalize hbe:w1.heap.size = b at *
 refine a5q ?_
 refine a0m b0e (fun g5 w3 h3 hg5 hH3=>?_)
 refine a0i a8j (xs:=hldZ) rfl rfl (a5s _ _ _ _ _ _ _ _ _ _ _ _ _ _ _ _ _ _ _ _) hH3 rfl (fun w4 hg4 hH4=>?_)
 have h24:Bw w2 w4:=a0y h3 hg4 hg5
 have hw4:Bw w w4:=h2m.trans (h24.mono (by omega))
 have D4:DqS w4 w4 b g2 g5 ⟨s,false⟩ hldZ:=⟨b2x hq2 (h24.block b hb),o0,(by show s.length < _; omega),hH4,hH2n.next h24,Fr.refl _ _,by have:=h24.size; have:=hH4.lt; omega⟩
 have hb8:=hb
 clear hH2 hH2n h2m hH3 hH4 h1 h2 h3 hg4 h24 hq2
 refine D4.nums (fun v5 w5 D5 hg5' ho5 hA=>?_)
 rw [e0] at D5 ho5 hA
 clear D4
 have o2:=a0k o1
 have i1:=a1z o1
 rw [e1] at o2 i1
 refine D5.nums (fun v6 w6 D6 hg6 ho6 hB=>?_)
 rw [e1] at D6 ho6 hB
 have hA:=a3w D5 hA hg6
 have hB:Fresh w4 w6 _:=hB.mono (fun i hi=>⟨Nat.le_trans D5.f.size hi.1,hi.2⟩)
 obtain ⟨aad,ac,rfl⟩:∃ ad c,v6 = .slice ad _ c:=a2a ho6
 clear D5
 refine a5q ?_
 refine a2j a9x rfl rfl D6.h (i:=2) (by simp) (fun w7 hg7 hH7=>?_)
 have D7:=D6.put hg7 hH7
 have hA:=a1i D6 hA hg7
 have hB:=a1i D6 hB hg7
 clear D6 hH7
 have o3:=a0k o2
 have i2:=a1z o2
 rw [e2] at o3 i2
 refine D7.nums (fun v8 w8 D8 hg8 ho8 hC=>?_)
 rw [e2] at D8 ho8 hC
 have hA:=a3w D7 hA hg8
 have hB:=a3w D7 hB hg8
 have hC:Fresh w4 w8 _:=hC.mono (fun i hi=>⟨Nat.le_trans D7.f.size hi.1,hi.2⟩)
 clear D7
 have o4:=a0k o3
 have i3:=a1z o3
 rw [e3] at o4 i3
 refine D8.nums (fun v9 w9 D9 hg9 ho9 hY=>?_)
 rw [e3] at D9 ho9 hY
 have hA:=a3w D8 hA hg9
 have hB:=a3w D8 hB hg9
 have hC:=a3w D8 hC hg9
 have hY:Fresh w4 w9 _:=hY.mono (fun i hi=>⟨Nat.le_trans D8.f.size hi.1,hi.2⟩)
 obtain ⟨yad,yc,rfl⟩:∃ ad c,v9 = .slice ad _ c:=a2a ho9
 clear D8
 refine b2c ?_
 refine a2j a9x rfl rfl D9.h (i:=6) (by simp) (fun w10 hg10 hH10=>?_)
 have D10:=D9.put hg10 hH10
 have hA:=a1i D9 hA hg10
 have hB:=a1i D9 hB hg10
 have hC:=a1i D9 hC hg10
 have hY:=a1i D9 hY hg10
 clear D9 hH10
 have o5:=a0k o4
 have i4:=a1z o4
 rw [e4] at o5 i4
 refine D10.nums (fun v11 w11 D11 hg11 ho11 hT=>?_)
 rw [e4] at D11 ho11 hT
 have hA:=a3w D10 hA hg11
 have hB:=a3w D10 hB hg11
 have hC:=a3w D10 hC hg11
 have hY:=a3w D10 hY hg11
 clear D10
 refine b9r hT.here (fun w12 t h12 ht=>?_)
 refine b2c ?_
 refine a0m d1i (fun g8 w13 h13 hg8' hH13=>?_)
 refine a0i b4z (xs:=b4y t) rfl rfl (b1a t) hH13 rfl (fun w14 hg14 hH14=>?_)
 have h14:Bw w11 w14:=h12.on (a0y h13 hg14 hg8')
 have D14:=D11.next h14
 have hA:=hA.next h14
 have hB:=hB.next h14
 have hC:=hC.next h14
 have hY:=hY.next h14
 have hg8b:g8 ≠ b:=fun e=>by have:=D11.n; have:=D11.f.size; have:=h12.size; omega
 have hg8g:g8 ≠ g5:=fun e=>by have:=D11.n; have:=D11.f.size; have:=h12.size; omega
 clear D11 hH13 hT h12 h13 h14 hg14
 refine Cd.qnum_ok b a4.2 (Nat.lt_trans D14.ln (by decide)) D14.qd (fun w15 hr15 hg15=>?_)
 have D15:=D14.rd hr15 hg15 (a6x o5) (c0p o5)
 rw [e5] at D15
 have n5:=e1d _ o5
 have n6:InR (a1m a4.2).1:=by
  rcases a8q a4.2 o5 with e | ⟨n,t,e,_,h,_⟩ <;> rw [e]
  ·exact ⟨by decide,by decide⟩
  ·exact h
 rw [e5] at n5 n6
 rw [e5]
 have hA:=a3w D14 hA hg15
 have hB:=a3w D14 hB hg15
 have hC:=a3w D14 hC hg15
 have hY:=a3w D14 hY hg15
 have hH15:=hH14.other hg15 hg8b
 clear D14 hH14 hr15 n6
 obtain ⟨cad,cc,rfl⟩:=hC.here.isSlice
 obtain ⟨had,hc,rfl⟩:=hA.here.isSlice
 have lA:=hA.here.len
 have lC:=hC.here.len
 have hbel:Bw w w15:=c0z hw4 hb1 (by have:=hw4.size; omega) D15.f
 by_cases c1:a0.1.length = 2
 rotate_left
 ·have c1Z:¬ (a0.1.length:Int) = 2:=by omega
  refine Xa @c1Z ?_
  exact a9m D15.z (by omega) hbel (kz (.inl (by simp [a6v,c1])))
 by_cases c2:a2.1.length = 3
 rotate_left
 ·have c1Z:(a0.1.length:Int) = 2:=by omega
  have c2Z:¬ (a2.1.length:Int) = 3:=by omega
  refine Xa (An2 @c1Z @c2Z) ?_
  exact a9m D15.z (by omega) hbel (kz (.inl (by simp [a6v,c2])))
 have c1Z:(a0.1.length:Int) = 2:=by omega
 have c2Z:(a2.1.length:Int) = 3:=by omega
 by_cases c3:a4.1.length = 6
 rotate_left
 ·refine Xa (An3 @c1Z @c2Z @c3) ?_
  exact a9m D15.z (by omega) hbel (kz (.inl (by simp [a6v,c3])))
 by_cases c4:a5.1 ≤ 4
 rotate_left
 ·have c4Z:4 < a5.1:=by omega
  refine Xa (An4 @c1Z @c2Z @c3 @c4Z) ?_
  exact a9m D15.z (by omega) hbel (kz (.inl (by simp [a6v]; omega)))
 have c4Z:¬ 4 < a5.1:=by omega
 have hk:a6v ⟨a0,a1,a2,a3,a4,a5⟩ = true:=by simp [a6v,c1,c2,c3,c4]
 obtain ⟨x0,x1,eqx⟩:=g7l c1
 obtain ⟨y0,y1,y2,ey⟩:=g7m c2
 have c3':=c3
 clear c4
 have hl2:(a0.1.length:Int) = 2:=c1Z
 have hl3:(a2.1.length:Int) = 3:=c2Z
 obtain ⟨gb,go,rfl,hgb,q0,-,-⟩:=hA.here.at (i:=0) (by omega)
 have q0:=q0 w15 (bR)
 have qx0:a0.1[0]'(by omega) = x0:=by simp only [eqx,List.getElem_cons_zero]
 have qx1:a0.1[1]'(by omega) = x1:=by simp only [eqx,List.getElem_cons_zero,List.getElem_cons_succ]
 have qy0:a2.1[0]'(by omega) = y0:=by simp only [ey,List.getElem_cons_zero]
 have qy1:a2.1[1]'(by omega) = y1:=by simp only [ey,List.getElem_cons_zero,List.getElem_cons_succ]
 have qy2:a2.1[2]'(by omega) = y2:=by simp only [ey,List.getElem_cons_zero,List.getElem_cons_succ]
 rw [qx0,Nat.add_zero] at q0
 refine Xa (An5 @c1Z @c2Z @c3 @c4Z @q0) ?_
 refine a2j a4y rfl rfl D15.h (i:=0) (by simp) (fun w16 hg16 hH16=>?_)
 have D16:=D15.put hg16 hH16
 have hA:=a1i D15 hA hg16
 have hB:=a1i D15 hB hg16
 have hC:=a1i D15 hC hg16
 have hY:=a1i D15 hY hg16
 have hH16:=hH15.other hg16 hg8g
 clear D15 hH15 q0
 obtain ⟨gb',go',e',hgb',q1,-,-⟩:=hA.here.at (i:=1) (by omega)
 cases e'
 have q1:=q1 w16 (bR)
 rw [qx1] at q1
 refine Xa (An2 @c1Z @q1) ?_
 refine a2j a4y rfl rfl D16.h (i:=1) (by simp) (fun w17 hg17 hH17=>?_)
 have D17:=D16.put hg17 hH17
 have hB:=a1i D16 hB hg17
 have hC:=a1i D16 hC hg17
 have hY:=a1i D16 hY hg17
 have hH17:=hH16.other hg17 hg8g
 clear D16 hH16 q1 hA
 obtain ⟨gc,go3,rfl,hgc,q0,-,-⟩:=hC.here.at (i:=0) (by omega)
 have q0:=q0 w17 (bR)
 rw [qy0,Nat.add_zero] at q0
 refine Xa (An2 @c2Z @q0) ?_
 refine a2j a4y rfl rfl D17.h (i:=3) (by simp) (fun w18 hg18 hH18=>?_)
 have D18:=D17.put hg18 hH18
 have hB:=a1i D17 hB hg18
 have hC:=a1i D17 hC hg18
 have hY:=a1i D17 hY hg18
 have hH18:=hH17.other hg18 hg8g
 clear D17 hH17 q0
 obtain ⟨_,_,e',_,q1,-,-⟩:=hC.here.at (i:=1) (by omega)
 cases e'
 have q1:=q1 w18 (bR)
 rw [qy1] at q1
 refine Xa (An2 @c2Z @q1) ?_
 refine a2j a4y rfl rfl D18.h (i:=4) (by simp) (fun w19 hg19 hH19=>?_)
 have D19:=D18.put hg19 hH19
 have hB:=a1i D18 hB hg19
 have hC:=a1i D18 hC hg19
 have hY:=a1i D18 hY hg19
 have hH19:=hH18.other hg19 hg8g
 clear D18 hH18 q1
 obtain ⟨_,_,e',_,q2,-,-⟩:=hC.here.at (i:=2) (by omega)
 cases e'
 have q2:=q2 w19 (bR)
 rw [qy2] at q2
 refine Xa (An2 @c2Z @q2) ?_
 refine a2j a4y rfl rfl D19.h (i:=5) (by simp) (fun w20 hg20 hH20=>?_)
 have D20:=D19.put hg20 hH20
 have hB:=a1i D19 hB hg20
 have hY:=a1i D19 hY hg20
 have hH20:=hH19.other hg20 hg8g
 clear D19 hH19 q2 hC
 refine a2k hH20 c5q (by kernel_rfl) (by kernel_rfl) ?_
 refine a5q ?_
 refine a2w (o:=7) (xs:=b4y t) b4z rfl rfl (b1a t) D20.h (by simp) (fun w21 hg21 hH21=>?_)
 have D21:=D20.put hg21 hH21
 have hB:=a1i D20 hB hg21
 have hY:=a1i D20 hY hg21
 clear D20 hH20
 have ht:=ht c3
 subst ht
 simp only [List.set_cons_succ,List.set_cons_zero,List.take_succ_cons,List.take_zero,List.drop_succ_cons,List.drop_zero,List.cons_append,List.nil_append] at D21
 obtain ⟨m,hm⟩:∃ m:Nat,a5.1 = m:=⟨a5.1.toNat,by omega⟩
 have hmn:a5.1.toNat = m:=by omega
 rw [hmn] at eL
 rw [hm]
 have hcs:[Value.int .i64 x0,.int .i64 x1,.slice aad a1.1.length ac,.int .i64 y0,.int .i64 y1,.int .i64 y2,.slice yad a3.1.length yc,.int .i64 (ofL a4.1).mark,.int .i64 (ofL a4.1).first,.int .i64 (ofL a4.1).z,.int .i64 (ofL a4.1).a,.int .i64 (ofL a4.1).b,.int .i64 (ofL a4.1).r,.slice none 0 0] = b2f (c2o ⟨a0,a1,a2,a3,a4,a5⟩ Ls.1) (.slice aad a1.1.length ac) (.slice yad a3.1.length yc) (.slice none 0 0):=by
  simp only [c2o,b2f,eqx,ey]
  rfl
 rw [hcs] at D21
 refine f0j (H:=c2o ⟨a0,a1,a2,a3,a4,a5⟩ Ls.1) (by omega) (by omega) D21 (by rw [eL]; rfl) (by rw [eL]) (fun _=>hwf c3) (hsz hk) (hB.both hY) hw4 hb1 (by omega) (by have:=hw4.size; omega) (fun h=>kz (.inr h)) (fun h1 h2 h3 w' lv hb' hf'=>kf hk h1 h2 h3 w' _ _ lv hb' hf')
end
theorem c4k (s:a0h) {d:Hd5} {Ls:List Lnk × Rd × Bool} (ed:a2s s = d) (eL:a2n d.n.1.toNat d.n.2 = Ls) :
  ((a6v d = false ∨ Ls.2.2 = false ∨ a7r Ls.2.1 = false ∨ a3m (c2o d Ls.1) ≠ s) → a5k s = (b2u,false)) ∧
  (a6v d = true → Ls.2.2 = true → a7r Ls.2.1 = true → a3m (c2o d Ls.1) = s → a5k s = (c2o d Ls.1,true)):=by
 unfold a5k
 rw [ed,eL]
 constructor
 ·intro h
  split
  ·rfl
  ·rename_i h1
   split
   ·rfl
   ·rename_i h2
    split
    ·rfl
    ·rename_i h3
     simp only [Bool.or_eq_true,Bool.not_eq_true',not_or,Bool.not_eq_false,decide_eq_false_iff_not,Classical.not_not] at h1 h2 h3
     rcases h with h | h | h | h
     ·rw [h] at h1; cases h1
     ·rw [h] at h2; cases h2
     ·rw [h] at h3; cases h3.1
     ·exact absurd h3.2 h
 ·intro h1 h2 h3 h4
  rw [h1,h2,h3,decide_eq_true h4]
  rfl
section
variable {K:VK} {w w' w0 W W' w2:World}
theorem d2t (s:a0h) (hs:s.length < 2 ^ 30) (k:∀ w' av yv lv,Bw w w' → Fresh w w' (fun W=>HldR W (a5k s).1 av yv lv) → K (.tuple #[b8c (a5k s).1 av yv lv,.bool (a5k s).2]) w'):a0a Tryz.prog 15 #[.string ⟨s.toArray⟩] K w:=by
 have hH6:=f9s s
 have hSz:=c7t (fun n hn=>by have:=Cd.encInt_len n hn; omega) s hs
 have eh:a2s s = ⟨a0c ⟨s,false⟩,a0c (a0c ⟨s,false⟩).2,a0c (a0c (a0c ⟨s,false⟩).2).2,a0c (a0c (a0c (a0c ⟨s,false⟩).2).2).2,a0c (a0c (a0c (a0c (a0c ⟨s,false⟩).2).2).2).2,a1m (a0c (a0c (a0c (a0c (a0c ⟨s,false⟩).2).2).2).2).2⟩:=rfl
 have hc:=fun Ls=>c4k s (Ls:=Ls) eh
 rw [eh] at hH6 hSz
 clear eh
 generalize a5k s = R at *
 generalize e0:a0c ⟨s,false⟩ = a0 at *
 generalize e1:a0c a0.2 = a1 at *
 generalize e2:a0c a1.2 = a2 at *
 generalize e3:a0c a2.2 = a3 at *
 generalize e4:a0c a3.2 = a4 at *
 generalize e5:a1m a4.2 = a5 at *
 dsimp only at hH6 hSz hc
 have hc:=hc _ rfl
 generalize eL:a2n a5.1.toNat a5.2 = Ls at *
 refine f0k s hs e0 e1 e2 e3 e4 e5 eL (fun h=>(hH6 h).1) hSz (fun h w' hb=>?_) (fun h1 h2 h3 h4 w' av yv lv hb hf=>?_)
 ·have e:=hc.1 h
  subst e
  exact k w' (.slice none 0 0) (.slice none 0 0) (.slice none 0 0) hb b7u
 ·have e:=hc.2 h1 h2 h3 h4
  subst e
  exact k w' av yv lv hb hf
end
end Go.Proofs
