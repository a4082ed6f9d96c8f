/- Parts of the proof of the seat's statements (LawKit, OpenKit, OpenKit2, PK, PK2, HPw, UrA, UrB, UrC, PuLaw11, PuLaw12, PuLaw13, PuOpen, UrD, UrE, HPs, UrG, PuLend, UrH, HSha, ShW, SaA, SaB, SaC, SaD, SaE, HLd, LdA, UrI, UrJ, HPt, UrK, PK3, UrL, PuBurn, UrM, HPr, UrN, UrO, PuRest, UrP, PuRest2): lemmas about the given translation and plain laws. No condition of their own. -/
import Derived.Test.YtnbokkoppdnllaaGreatDoorQce
import Derived.ProofKit
import Derived.LaidMore
import Derived.OpenShut
import Derived.Carry
import Derived.SizedLaws
import Derived.Stop.Joined
import Derived.Deep.Slices
import Derived.Deep.Fields
import Derived.LaidSub
import Derived.Test.YtnbokkoppdnllaaGreatDoorRows
import Derived.Test.YtnbokkoppdnllaaGreatDoorCards
import Derived.Test.YtnbokkoppdnllaaGreatDoorTie
import Derived.SevenTiedAt
import Derived.Test.YtnbokkoppdnllaaGreatDoorProg
set_option linter.all false
set_option maxRecDepth 100000
namespace Go.Sh
open Go Go.ChangeShapes Go.WideShapes Go.ChangeAt Go.RowKit
section
variable {H:Type} {enc:TypeId × Value → H} {P:Program}
theorem b2y (hl:laidOutB P = true) {W W':World} (hb:Below W.heap.size W W') :
  ∀ (ts:List TypeId) (vs:List Value) (ds:List (DataW H)) (ps:List MemPlace),(ts.all fun t=>P.readableRec t && decide (t < P.types.size)) = true →
  DataW.TrodAll enc P W 0 (fun _=>true) true ts vs ds ps → (∀ x ∈ ps,x.block < W.heap.size) → DataW.TrodAll enc P W' 0 (fun b=>decide (b < W.heap.size)) true ts vs ds ps
 | [],[],[],_,_,h,_=>h
 | t :: ts,v :: vs,d :: ds,ps,ht,h,hlt=>by
  obtain ⟨p,q,h1,h2,rfl⟩:=h
  simp only [List.all_cons,bA,dE] at ht
  exact ⟨p,q,Below.trod hl ht.1.1 ht.1.2 h1 hb (fun x hx=>hlt x (by simp [hx])),b2y hl hb ts vs ds q ht.2 h2 (fun x hx=>hlt x (by simp [hx])),rfl⟩
 | [],_ :: _,_,_,_,h,_=>h.elim
 | [],[],_ :: _,_,_,h,_=>h.elim
 | _ :: _,[],_,_,_,h,_=>h.elim
 | _ :: _,_ :: _,[],_,_,h,_=>h.elim
theorem b1l {W:World} {b:Nat} {sp:Nat → Bool} {hd:Bool}:∀ (ts:List TypeId) (vs:List Value) (ds:List (DataW H)) (ps:List MemPlace),DataW.TrodAll enc P W b sp hd ts vs ds ps → ds.length = ts.length ∧ vs.length = ts.length
 | [],[],[],_,_=>⟨rfl,rfl⟩
 | t :: ts,v :: vs,d :: ds,ps,h=>by
  obtain ⟨p,q,h1,h2,rfl⟩:=h
  have:=b1l ts vs ds q h2
  simp [this]
 | [],_ :: _,_,_,h=>h.elim
 | [],[],_ :: _,_,h=>h.elim
 | _ :: _,[],_,_,h=>h.elim
 | _ :: _,_ :: _,[],_,h=>h.elim
theorem a7s {W:World} {b:Nat} {sp:Nat → Bool} {hd:Bool} {t:TypeId} {ts:List TypeId} {vs:List Value} {ds:List (DataW H)} {ps:List MemPlace} (h:DataW.TrodAll enc P W b sp hd (t :: ts) vs ds ps) :
  ∃ v d vs' ds' p q,vs = v :: vs' ∧ ds = d :: ds' ∧ DataW.Trod enc P W b sp hd t v d p ∧ DataW.TrodAll enc P W b sp hd ts vs' ds' q ∧ ps = p ++ q:=by
 match vs,ds,h with
 | v :: vs,d :: ds,h=>
  obtain ⟨p,q,h1,h2,rfl⟩:=h
  exact ⟨v,d,vs,ds,p,q,rfl,rfl,h1,h2,rfl⟩
 | [],_,h=>exact h.elim
 | _ :: _,[],h=>exact h.elim
theorem g5b {W:World} {b:Nat} {sp:Nat → Bool} {hd:Bool} {vs:List Value} {ds:List (DataW H)} {ps:List MemPlace} (h:DataW.TrodAll enc P W b sp hd [] vs ds ps):vs = [] ∧ ds = [] ∧ ps = []:=by
 match vs,ds,h with
 | [],[],h=>exact ⟨rfl,rfl,h⟩
theorem d0e {fn:Func} {s:ChangeSpec} {tb:TypeId} {apart:Bool} {W W':World} {args:Array Value} {ds gs:List (DataW H)} {before:List MemPlace} (hl:laidOutB P = true)
  (hrt:fn.resultTypes = #[tb]) (hub:P.underlying tb = some .bool) (hpar:(fn.params.toList.all fun t=>P.readableRec t && decide (t < P.types.size)) = true) (hvars:s.vars = [])
  (hspec:∀ ds:List (DataW H),ds.length = fn.params.toList.length → s.fn H ds = { results:=[.lit (.bool true)],args:=ds })
  (hW:DataW.Whole enc P fn.params.toList s.vars apart W args.toList ds gs before) (hb:Below W.heap.size W W'):s.post enc P fn apart true false false W args (.bool true) W':=by
 have hW0:=hW
 have hlt:=hW.lt
 obtain ⟨p,q,hA,hV,rfl,_,_⟩:=hW
 rw [hvars] at hV
 obtain ⟨rfl,rfl⟩:=trodVars_none hV
 have hlen:=(b1l _ _ _ _ hA).1
 have hs:=hspec ds hlen
 rw [List.append_nil] at hlt hW0
 refine ⟨ds,[],p,[],p,[],hW0,?_,?_,?_,hb.frame _,fun h=>by cases h⟩
 ·rw [List.append_nil,hs,hrt]
  exact trodAll_mk1 (shut_bool hub true)
 ·rw [List.append_nil,hs]
  exact b2y hl hb _ _ _ _ hpar hA hlt
 ·rw [hvars,List.append_nil,hs]
  rfl
theorem law_lifted {C:Checked} {os:Os} {f:FuncId} {fn:Func} {s:ChangeSpec} {tb:TypeId} (own:ownKnob C.prog.godebug = none) (started:os.Started) (noInit:C.prog.inits.idxOf? f = none) (hfn:C.prog.funcs[f]? = some fn)
  (hl:laidOutB C.prog = true) (hrt:fn.resultTypes = #[tb]) (hub:C.prog.underlying tb = some .bool) (hpar:(fn.params.toList.all fun t=>C.prog.readableRec t && decide (t < C.prog.types.size)) = true) (hvars:s.vars = [])
  (hspec:∀ ds:List (DataW H),ds.length = fn.params.toList.length → s.fn H ds = { results:=[.lit (.bool true)],args:=ds })
  (witness:∃ (w:World) (tape:Tape) (i:Input),w.os = os ∧ (w.forCall tape i).Shaped C.prog ∧ i.vars = [] ∧ Input.okWide C.prog (w.forCall tape i) .any w.heap.size f i ∧
   s.pre6 enc C.prog fn [] false (w.forCall tape i).memory i.args ∧ ({}:Assume).holds C.prog (lone (Frame.enter C.prog f i.args .normal) [] (w.forCall tape i)))
  (contract:∀ (W:World) (base:Nat) (args:List Value) (ds:List (DataW H)) (p:List MemPlace),(∀ (j:Nat) t v,fn.params.toList[j]? = some t → args[j]? = some v → Value.okWide C.prog W .any base t v) →
   DataW.TrodAll enc C.prog W 0 (fun _=>true) true fn.params.toList args ds p → (DataW.weightsEach C.prog fn.params.toList ds).all (· ≤ reachBytes) = true → (∀ x ∈ p,x.block < W.heap.size) →
   a0a C.prog f args.toArray (fun v W'=>v = .bool true ∧ Below W.heap.size W W') W) :
  ReturnsInHanded {} C os f .any (s.pre6 enc C.prog fn [] false) (s.post enc C.prog fn false true false false):=by
 refine returnsInHanded_of_change_sized own started noInit hfn witness ?_
 intro W base args ds gs before hval hW _ hsz _
 have hW0:=hW
 have hlt:=hW.lt
 obtain ⟨p,q,hA,hV,rfl,_,_⟩:=hW
 rw [hvars] at hV
 obtain ⟨rfl,rfl⟩:=trodVars_none hV
 have hsz':(DataW.weightsEach C.prog fn.params.toList ds).all (· ≤ reachBytes) = true:=by
  simpa [hvars,ChangeSpec.plain,DataSpec.varTypes] using hsz
 have hc:=contract W base args.toList ds p (fun j t v h1 h2=>hval j t v (by simpa using h1) (by simpa using h2)) hA hsz' (fun x hx=>hlt x (by simp [hx]))
 refine hc.mono fun e W' h=>?_
 obtain ⟨v,rfl,rfl,hb⟩:=h
 exact ⟨_,rfl,d0e hl hrt hub hpar hvars hspec hW0 hb⟩
theorem b6k {C:Checked} {os:Os} {f:FuncId} {fn:Func} {s:ChangeSpec} {tb:TypeId} {L:List (String × DataW Unit)} (own:ownKnob C.prog.godebug = none) (started:os.Started) (noInit:C.prog.inits.idxOf? f = none) (hfn:C.prog.funcs[f]? = some fn)
  (hl:laidOutB C.prog = true) (hrt:fn.resultTypes = #[tb]) (hub:C.prog.underlying tb = some .bool) (hpar:(fn.params.toList.all fun t=>C.prog.readableRec t && decide (t < C.prog.types.size)) = true) (hvars:s.vars = [])
  (hspec:∀ ds:List (DataW H),ds.length = fn.params.toList.length → s.fn H ds = { results:=[.lit (.bool true)],args:=ds })
  (witness:∃ (w:World) (tape:Tape) (i:Input),w.os = os ∧ (w.forCall tape i).Shaped C.prog ∧ i.vars = [] ∧ Input.okWide C.prog (w.forCall tape i) .any w.heap.size f i ∧
   ((s.pre enc C.prog fn [] false (w.forCall tape i).memory i.args ∧ laidMetH C.prog L (w.forCall tape i).memory) ∧ sizedMet enc C.prog fn (OpenSpec.ofChange s) false (w.forCall tape i).memory i.args) ∧ ({}:Assume).holds C.prog (lone (Frame.enter C.prog f i.args .normal) [] (w.forCall tape i)))
  (contract:∀ (W:World) (base:Nat) (args:List Value) (ds:List (DataW H)) (p:List MemPlace),(∀ (j:Nat) t v,fn.params.toList[j]? = some t → args[j]? = some v → Value.okWide C.prog W .any base t v) →
   DataW.TrodAll enc C.prog W 0 (fun _=>true) true fn.params.toList args ds p → (DataW.weightsEach C.prog fn.params.toList ds).all (· ≤ reachBytes) = true → (∀ x ∈ p,x.block < W.heap.size) →
   laidMetH C.prog L W →
   a0a C.prog f args.toArray (fun v W'=>v = .bool true ∧ Below W.heap.size W W') W) :
  ReturnsInHanded {} C os f .any (fun w args=>(s.pre enc C.prog fn [] false w args ∧ laidMetH C.prog L w) ∧ sizedMet enc C.prog fn (OpenSpec.ofChange s) false w args)
   (s.post enc C.prog fn false true false false):=by
 refine returnsInHanded_of_change_and (X:=fun w _=>laidMetH C.prog L w) (fun _ _ _ hh h=>h.of_heap hh) own started noInit hfn witness ?_
 intro W base args ds gs before hval hW _ hsz hX _
 have hW0:=hW
 have hlt:=hW.lt
 obtain ⟨p,q,hA,hV,rfl,_,_⟩:=hW
 rw [hvars] at hV
 obtain ⟨rfl,rfl⟩:=trodVars_none hV
 have hsz':(DataW.weightsEach C.prog fn.params.toList ds).all (· ≤ reachBytes) = true:=by
  simpa [hvars,ChangeSpec.plain,DataSpec.varTypes] using hsz
 have hc:=contract W base args.toList ds p (fun j t v h1 h2=>hval j t v (by simpa using h1) (by simpa using h2)) hA hsz' (fun x hx=>hlt x (by simp [hx])) hX
 refine hc.mono fun e W' h=>?_
 obtain ⟨v,rfl,rfl,hb⟩:=h
 exact ⟨_,rfl,d0e hl hrt hub hpar hvars hspec hW0 hb⟩
end
end Go.Sh
namespace Go.Sh
open Go Go.ChangeShapes Go.WideShapes Go.ChangeAt Go.RowKit Go.Deep
section
variable {H:Type} {enc:TypeId × Value → H} {P:Program} {w:World} {sp:Nat → Bool} {hd:Bool}
theorem b6l (b o k:Nat):(⟨b,o,none⟩:Addr).add k = ⟨b,o + k,none⟩:=by
 unfold Addr.add
 split
 ·rename_i h; rw [h]; rfl
 ·rfl
theorem cell_lt {a:Addr} {v:Value} (h:w.cell? a = some v):a.block < w.heap.size ∧ a.spot = none:=by
 unfold World.cell? at h
 split at h
 ·rename_i c t f hh
  refine ⟨(Array.getElem?_eq_some_iff.1 hh).1,?_⟩
  split at h
  ·cases h
  ·rename_i hs
   cases hsp:a.spot with
   | none=>rfl
   | some x=>rw [hsp] at hs; exact absurd rfl hs
 ·cases h
theorem a6u {e:TypeId} {fs:Array Field} {n:Nat} {cs:List Value} {D:DataW H × List MemPlace} (he:P.underlying e = some (.struct fs)) (hone:oneCellFields P fs = true) (hC:P.cellsOf e = fs.size)
  (h:DataW.trod enc P w 0 sp hd n e cs = some D) :
  cs.length = fs.size ∧ ∀ (j:Nat) (f:Field),fs[j]? = some f → ∃ (v:Value) (y:DataW H × List MemPlace) (m:Nat),cs[j]? = some v ∧ DataW.trod enc P w 0 sp hd m f.type [v] = some y:=by
 obtain ⟨xs,m,_,_,hcl,hxl,hf⟩:=DataW.trod_struct he h
 rw [hC] at hcl
 refine ⟨hcl,fun j f hj=>?_⟩
 obtain ⟨ho,hk⟩:=hone_of hone j f hj
 have hjl:j < fs.size:=(Array.getElem?_eq_some_iff.1 hj).1
 have h1:=hf j f hj
 rw [ho,hk,List.drop_eq_getElem_cons (by omega),gE (by omega:j < xs.length)] at h1
 exact ⟨_,_,m,gE (by omega),h1⟩
end
end Go.Sh
namespace Go.Sh
open Go Go.ChangeShapes Go.WideShapes Go.ChangeAt Go.RowKit Go.Deep
section
variable {H:Type} {enc:TypeId × Value → H} {P:Program} {w:World} {sp:Nat → Bool} {hd:Bool}
theorem f8k {α:Type} (mk:α → Value) (Q:α → Prop) {t e:TypeId} {v:Value} {n:Nat} {D:DataW H × List MemPlace} (ht:P.underlying t = some (.slice e)) (hC:P.cellsOf e = 1)
  (hrd:∀ (V:Value) (n:Nat) (D:DataW H × List MemPlace),DataW.trod enc P w 0 sp hd n e [V] = some D → ∃ x,V = mk x ∧ Q x) (h:DataW.trod enc P w 0 sp hd n t [v] = some D) :
  ∃ l:List α,(∃ ad c,v = .slice ad l.length c ∧ (l = [] ∨ ∃ b o,ad = some ⟨b,o,none⟩ ∧ b < w.heap.size ∧ ∀ (i:Nat) (h:i < l.length),w.cell? ⟨b,o + i,none⟩ = some (mk l[i]))) ∧ l.length ≤ maxLen ∧ ∀ x ∈ l,Q x:=by
 rcases open_slice1 ht hC h with ⟨hcs,_⟩ | ⟨a',len,cap,m,n',V,D',Pl,hcs,_,hl,hm,hmm,_,hi⟩
 ·simp only [List.cons.injEq,and_true] at hcs
  subst hcs
  exact ⟨[],⟨none,0,rfl,.inl rfl⟩,by simp,by simp⟩
 ·simp only [List.cons.injEq,and_true] at hcs
  subst hcs
  have hml:len ≤ m:=by rw [hmm]; split <;> omega
  have key:∀ i:Fin len,∃ x,V i = mk x ∧ Q x:=fun i=>hrd _ _ _ (hi i (by have:=i.2; omega)).2
  refine ⟨List.ofFn (fun i=>(key i).choose),⟨some a',cap,by rw [List.length_ofFn],?_⟩,by rw [List.length_ofFn]; omega,?_⟩
  ·by_cases h0:len = 0
   ·left; subst h0; rfl
   ·right
    have h00:=(hi 0 (by omega)).1
    have e0:a'.add 0 = a':=by simp [Addr.add]
    rw [e0] at h00
    obtain ⟨hb,hs⟩:=cell_lt h00
    obtain ⟨b,o,s⟩:=a'
    simp only at hs hb
    subst hs
    refine ⟨b,o,rfl,hb,fun i hil=>?_⟩
    rw [List.length_ofFn] at hil
    have h1:=(hi i (by omega)).1
    rw [b6l] at h1
    rw [h1,List.getElem_ofFn]
    have:=(key ⟨i,hil⟩).choose_spec.1
    exact congrArg some this
  ·intro x hx
   rw [List.mem_ofFn] at hx
   obtain ⟨i,rfl⟩:=hx
   exact (key i).choose_spec.2
theorem d9g {t:TypeId} {ms:Array (String × TypeId)} {cs:List Value} {n:Nat} {nm:String} {d:DataW H} {ps:List MemPlace} (ht:P.underlying t = some (.interface ms)) (h:DataW.trod enc P w 0 sp false n t cs = some (.iface nm d,ps)):∃ u v,cs = [.iface u v]:=by
 cases n with
 | zero=>simp [DataW.trod] at h
 | succ n=>
  unfold DataW.trod at h
  rw [ht] at h
  match cs,h with
  | [.iface u v],_=>exact ⟨u,v,rfl⟩
  | [.nilIface],h=>simp at h
  | [],h=>simp at h
  | [.int _ _],h=>simp at h
  | [.bool _],h=>simp at h
  | [.string _],h=>simp at h
  | [.pointer _],h=>simp at h
  | [.slice _ _ _],h=>simp at h
  | [.map _],h=>simp at h
  | [.float _ _],h=>simp at h
  | [.complex _ _ _],h=>simp at h
  | [.agg _],h=>simp at h
  | [.tuple _],h=>simp at h
  | [.func _ _ _],h=>simp at h
  | [.nilFunc],h=>simp at h
  | [.chan _],h=>simp at h
  | _ :: _ :: _,h=>simp at h
end
end Go.Sh
namespace Go.Proofs
open Go Go.Sh Go.RowKit Go.Lib CodeSpec TkSpec FdSpec Go.ChangeShapes Go.WideShapes Go.ChangeAt
abbrev laidList:List (String × DataW Unit):=YtnbokkoppdnllaaGreatDoor.Rows.purseBackRow.laid
abbrev d2j (i:Nat):String:=(laidList.map (·.1)).getD i default
theorem a8i {W:World} {nm:String} {d:DataW Unit} (hf:(laidList.filter fun x=>x.1 == nm) = [(nm,d)]) (h:laidMetH Tryz.prog laidList W):laidMet Tryz.prog [(nm,d)] W:=by
 rw [MakeChecks.laidMetH_plain _ _ _ (by kernel_rfl)] at h
 have:=h.filter (fun x=>x.1 == nm)
 rwa [hf] at this
theorem e9i {W:World} (h:laidMetH Tryz.prog laidList W):TabIs Tryz.prog W c2d .u64 pow10Tab:=
 tabIs_of_head (rest:=[]) (t:=311) (e:=249) (n:=20) Cd.gTab (by kernel_rfl) Tryz.underlying311 Tryz.underlying249 (by kernel_rfl) (by kernel_rfl)
  (a8i (d:=tabData .u64 pow10Tab) (by kernel_rfl) h)
theorem gDb:Tryz.prog.globalNamed (d2j 1) = some 4:=by kernel_rfl
theorem f8l {W:World} (h:laidMetH Tryz.prog laidList W):TabIs Tryz.prog W (d2j 1) .u8 (Lib.deBruijn64tab.map (fun n:Nat=>(n:Int))):=
 tabIs_of_head (rest:=[]) (t:=318) (e:=5) (n:=64) gDb (by kernel_rfl) Tryz.underlying318 Tryz.underlying5 (by kernel_rfl) (by kernel_rfl)
  (a8i (d:=tabData .u8 (Lib.deBruijn64tab.map (fun n:Nat=>(n:Int)))) (by kernel_rfl) h)
theorem g8p {W:World} (h:laidMetH Tryz.prog laidList W):DbT W:=by
 have ht:=f8l h
 have hl:(Lib.deBruijn64tab.map (fun n:Nat=>(n:Int))).length = 64:=by decide +kernel
 have hc:∀ j,j < 64 → W.cell? ⟨4,j,none⟩ = some (.int .u8 (Lib.deBruijn64tab.getD j 0:Nat)):=fun j hj=>by
  rw [ht.cell gDb j (by omega)]
  have:(Lib.deBruijn64tab.map (fun n:Nat=>(n:Int))).getD j 0 = ((Lib.deBruijn64tab.getD j 0:Nat):Int):=by
   rw [List.getD_eq_getElem?_getD,List.getD_eq_getElem?_getD,List.getElem?_map]
   cases Lib.deBruijn64tab[j]? <;> rfl
  rw [this]
 refine ⟨?_,hc⟩
 have h0:=hc 0 (by omega)
 by_cases hlt:4 < W.heap.size
 ·exact hlt
 ·unfold World.cell? at h0
  rw [Array.getElem?_eq_none (by show W.heap.size ≤ 4; omega)] at h0
  simp at h0
theorem d0h {W:World} {nm:String} {x:DataW Unit} {g:Nat} (hg:Tryz.prog.globalNamed nm = some g) (hty:(Tryz.prog.globals[g]?).map (·.type) = some 239) (hf:(laidList.filter fun x=>x.1 == nm) = [(nm,x)]) (hx:∃ nt d,x = .iface nt d) (h:laidMetH Tryz.prog laidList W) :
  ∃ te pe,W.cell? ⟨g,0,none⟩ = some (.iface te pe):=by
 obtain ⟨nt,d,rfl⟩:=hx
 obtain ⟨ps,⟨g0,t0,cs0,f0,p0,q0,hg0,ht0,hv0,hd0,_,_⟩,_,_⟩:=a8i hf h
 obtain rfl:=oI (hg.symm.trans hg0)
 obtain rfl:=oI (hty.symm.trans ht0)
 obtain ⟨u,y,hcs⟩:=d9g Tryz.underlying239 hd0
 have:=World.var?_cell hg hv0 0
 refine ⟨u,y,?_⟩
 rw [this]
 have e:cs0[0]? = cs0.toList[0]?:=by simp
 rw [e,hcs]; rfl
theorem g8q {W:World} (h:laidMetH Tryz.prog laidList W):8 ≤ W.heap.size:=by
 obtain ⟨ps,⟨g0,t0,cs0,f0,p0,q0,hg0,ht0,hv0,hd0,_,_⟩,_,_⟩:=a8i (nm:=d2j 0) (d:=YtnbokkoppdnllaaGreatDoor.Rows.laid_math_bits_deBruijn32tab) (by kernel_rfl) h
 have hg:Tryz.prog.globalNamed (d2j 0) = some 7:=by kernel_rfl
 unfold World.var? at hv0
 rw [hg] at hv0
 simp only [Option.bind_some] at hv0
 split at hv0
 ·rename_i cs t f hh
  have:=(Array.getElem?_eq_some_iff.1 hh).1
  omega
 ·cases hv0
theorem f8m {W:World} (h:laidMetH Tryz.prog laidList W):Cd.LaidE W:=
 ⟨⟨e9i h,g8q h⟩,d0h (nm:=d2j 4) (x:=YtnbokkoppdnllaaGreatDoor.Rows.laid_strconv_ErrSyntax) (by kernel_rfl) (by kernel_rfl) (by kernel_rfl) ⟨_,_,rfl⟩ h,d0h (nm:=d2j 3) (x:=YtnbokkoppdnllaaGreatDoor.Rows.laid_strconv_ErrRange) (by kernel_rfl) (by kernel_rfl) (by kernel_rfl) ⟨_,_,rfl⟩ h⟩
theorem own:ownKnob Tryz.prog.godebug = none:=by kernel_rfl
theorem f8n:laidOutB Tryz.prog = true:=by kernel_rfl
theorem e9j (os:Os) (args:Array Value):laidMetH Tryz.prog laidList ((World.doorLaid Tryz.prog 400 os).forCall (fun _ _=>0) ⟨#[],args,[]⟩).memory:=
 laidMetH_of_parts3 (fuel:=8) (laidMet_of_run' 8 (by kernel_rfl) (by kernel_rfl)) (by kernel_rfl) (by kernel_rfl)
theorem e9k {n:Int} (h:(Lit.int .i64 n).wf = true):I64 n:=by
 simp only [Lit.wf,bA,dE] at h
 have h1:-9223372036854775808 ≤ n:=h.1
 have h2:n ≤ 9223372036854775807:=h.2
 exact ⟨h1,by omega⟩
end Go.Proofs
namespace Go.Proofs
open Go Go.Sh Go.RowKit Go.Lib CodeSpec TkSpec FdSpec PuSpec Go.ChangeShapes Go.WideShapes Go.ChangeAt Go.Deep
section
variable {H:Type} {enc:TypeId × Value → H} {w:World} {sp:Nat → Bool} {hd:Bool}
theorem b5q {P:Program} {α:Type} {n:Nat} {At:World → Nat → Nat → α → Prop} {t e:TypeId} {v:Value} {m0:Nat} {D:DataW H × List MemPlace} (ht:P.underlying t = some (.slice e)) (hC:P.cellsOf e = n) (hn:0 < n)
  (hrd:∀ (cs:List Value) (b p m:Nat) (D:DataW H × List MemPlace),cs.length = n → (∀ (j:Nat) (u:Value),cs[j]? = some u → w.cell? ⟨b,p + j,none⟩ = some u) → DataW.trod enc P w 0 sp hd m e cs = some D → ∃ x,At w b p x)
  (h:DataW.trod enc P w 0 sp hd m0 t [v] = some D):∃ l:List α,SRow n At w v l:=by
 rcases open_slice ht h with ⟨hcs,_⟩ | ⟨a',len,cap,m,n',D',Pl,hcs,_,hl,hm,hmm,_,hi⟩
 ·simp only [List.cons.injEq,and_true] at hcs
  subst hcs
  exact ⟨[],⟨none,0,rfl,.inl rfl⟩,by simp⟩
 ·simp only [List.cons.injEq,and_true] at hcs
  subst hcs
  subst hC
  have hml:len ≤ m:=by rw [hmm]; split <;> omega
  by_cases h0:len = 0
  ·subst h0
   exact ⟨[],⟨some a',cap,rfl,.inl rfl⟩,by simp⟩
  obtain ⟨cs0,hc0,_⟩:=hi 0 (by omega)
  obtain ⟨_,hl0,h00⟩:=World.cells?_some hc0
  have h00:=h00 0 hn
  rw [Nat.zero_mul] at h00
  have e0:(a'.add 0).add 0 = a':=by simp [Addr.add]
  rw [e0,gE (by omega)] at h00
  obtain ⟨hb,hs⟩:=Go.Sh.cell_lt h00
  obtain ⟨b,o,s⟩:=a'
  simp only at hs hb
  subst hs
  have key:∀ i:Fin len,∃ x,At w b (o + i * P.cellsOf e) x:=fun i=>by
   obtain ⟨cs,hc,ht2⟩:=hi i (by have:=i.2; omega)
   obtain ⟨_,hcl,hat⟩:=World.cells?_some hc
   refine hrd cs b (o + i * P.cellsOf e) _ _ hcl (fun j u hj=>?_) ht2
   have hjl:=(gS hj).1
   have:=hat j (by omega)
   rw [b6l,b6l] at this
   rw [this,hj]
  refine ⟨List.ofFn (fun i=>(key i).choose),⟨some ⟨b,o,none⟩,cap,by rw [List.length_ofFn],.inr ⟨b,o,rfl,hb,fun i hil=>?_⟩⟩,by rw [List.length_ofFn]; simp only [maxLen] at hm; omega⟩
  rw [List.length_ofFn] at hil
  rw [List.getElem_ofFn]
  exact (key ⟨i,hil⟩).choose_spec
theorem c7m {v:Value} {l:List Int} (h:∃ ad c,v = .slice ad l.length c ∧ (l = [] ∨ ∃ b o,ad = some ⟨b,o,none⟩ ∧ b < w.heap.size ∧ ∀ (i:Nat) (h:i < l.length),w.cell? ⟨b,o + i,none⟩ = some (Value.int .i64 l[i]))) (h0:∀ c,v = .slice none l.length c → l.length = 0 ∧ c = 0) (hl:l.length ≤ maxLen) (hr:∀ x ∈ l,I64 x):Ints w v l:=by
 obtain ⟨ad,c,rfl,h⟩:=h
 refine ⟨⟨ad,c,rfl,fun e=>?_,?_⟩,hr,hl⟩
 ·subst e
  exact h0 c rfl
 ·rcases h with h | ⟨b,o,rfl,hlt,hc⟩
  ·exact .inl h
  ·refine .inr ⟨b,o,rfl,hlt,fun k x hk=>?_⟩
   rw [flat_int] at hk
   obtain ⟨hk1,hk2⟩:=gS hk
   have hk1:k < l.length:=by rw [List.length_map] at hk1; exact hk1
   rw [hc k hk1,← hk2,List.getElem_map]
theorem f8o {t:TypeId} {n m:Nat} {c:Nat} {D:DataW H × List MemPlace} (ht:Tryz.prog.underlying t = some (.slice 3)) (h:DataW.trod enc Tryz.prog w 0 sp hd n t [.slice none m c] = some D):m = 0 ∧ c = 0:=by
 rcases open_slice1 ht (by kernel_rfl) h with ⟨hcs,_⟩ | ⟨a',len,cap,m,n',V,D',Pl,hcs,_⟩
 ·simp only [List.cons.injEq,and_true,Value.slice.injEq] at hcs
  exact hcs.2
 ·simp only [List.cons.injEq,and_true,Value.slice.injEq] at hcs
  exact absurd hcs.1 (by simp)
theorem a9q {v:Value} {n:Nat} {D:DataW H × List MemPlace} (h:DataW.trod enc Tryz.prog w 0 sp hd n 22 [v] = some D):∃ l,Ints w v l:=by
 have h':=h
 obtain ⟨l,h1,h2,h3⟩:=f8k (Value.int .i64) I64 Tryz.underlying22 (by kernel_rfl) (fun V n D h=>by
  obtain ⟨k,e,_,hw⟩:=DataW.trod_int Tryz.underlying3 h
  simp only [List.cons.injEq,and_true] at e
  exact ⟨k,e,e9k hw⟩) h
 exact ⟨l,c7m h1 (fun c e=>by subst e; exact f8o Tryz.underlying22 h') h2 h3⟩
theorem e9l {cs:List Value} {n:Nat} {D:DataW H × List MemPlace} (h:DataW.trod enc Tryz.prog w 0 sp hd n 48 cs = some D):∃ g:Grp,cs = [.int .i64 g.P,.int .i64 g.Q,.int .i64 g.G] ∧ f7y g:=by
 obtain ⟨hcl,hf⟩:=a6u Tryz.underlying48 (by kernel_rfl) (by kernel_rfl) h
 obtain ⟨v0,y0,m0,c0,f0⟩:=hf 0 _ rfl
 obtain ⟨v1,y1,m1,c1,f1⟩:=hf 1 _ rfl
 obtain ⟨v2,y2,m2,c2,f2⟩:=hf 2 _ rfl
 obtain ⟨k0,e0,_,w0⟩:=DataW.trod_int Tryz.underlying3 f0
 obtain ⟨k1,e1,_,w1⟩:=DataW.trod_int Tryz.underlying3 f1
 obtain ⟨k2,e2,_,w2⟩:=DataW.trod_int Tryz.underlying3 f2
 simp only [List.cons.injEq,and_true] at e0 e1 e2
 have h6:cs.length = 3:=hcl
 refine ⟨⟨k0,k1,k2⟩,?_,⟨e9k w0,e9k w1,e9k w2⟩⟩
 match cs,h6 with
 | [x0,x1,x2],_=>
  simp only [List.getElem?_cons_zero,List.getElem?_cons_succ,Option.some.injEq] at c0 c1 c2
  rw [c0,c1,c2,e0,e1,e2]
theorem d9h:Tryz.prog.cellsOf 50 = 5:=by kernel_rfl
theorem d9i:Tryz.prog.cellsOf 48 = 3:=by kernel_rfl
theorem b4f:Tryz.prog.cellsOf 22 = 1:=by kernel_rfl
theorem b6m:Tryz.prog.cellsOf 3 = 1:=by kernel_rfl
theorem e9m {b0:Nat} {v:Value} {d:DataW H} {ps:List MemPlace} (hT:DbT w) (hval:Value.okWide Tryz.prog w .any b0 50 v) (h:DataW.Trod enc Tryz.prog w 0 sp hd 50 v d ps):∃ s x,v = b1c s x ∧ SetR w s x:=by
 obtain ⟨cs,rfl,hs⟩:=okWide_struct Tryz.underlying50 hval
 obtain ⟨fuel,hf⟩:=h
 have hf:DataW.trod enc Tryz.prog w 0 sp hd fuel 50 cs.toList = some (d,ps):=hf
 obtain ⟨xs,m,_,_,hcl,hxl,hf⟩:=DataW.trod_struct Tryz.underlying50 hf
 rw [d9h] at hcl
 have hcs:cs = cs.toList.toArray:=by simp
 rw [hcs]
 clear hs hcs
 generalize cs.toList = l at *
 have hxl:xs.length = 3:=hxl
 match l,hcl,xs,hxl with
 | [x0,x1,x2,x3,x4],_,[y0,y1,y2],_=>
  have f0:DataW.trod enc Tryz.prog w 0 sp hd m 48 (([x0,x1,x2,x3,x4].drop 0).take (Tryz.prog.cellsOf 48)) = some y0:=hf 0 _ rfl
  have f1:DataW.trod enc Tryz.prog w 0 sp hd m 22 (([x0,x1,x2,x3,x4].drop 3).take (Tryz.prog.cellsOf 22)) = some y1:=hf 1 _ rfl
  have f2:DataW.trod enc Tryz.prog w 0 sp hd m 3 (([x0,x1,x2,x3,x4].drop 4).take (Tryz.prog.cellsOf 3)) = some y2:=hf 2 _ rfl
  rw [d9i] at f0
  rw [b4f] at f1
  rw [b6m] at f2
  obtain ⟨g,eg,hg⟩:=e9l f0
  obtain ⟨l3,h3⟩:=a9q f1
  obtain ⟨k4,e4,_,w4⟩:=DataW.trod_int Tryz.underlying3 f2
  simp only [List.drop_zero,List.take_succ_cons,List.take_zero,List.drop_succ_cons,List.cons.injEq,and_true] at eg e4
  obtain ⟨e0,e1,e2⟩:=eg
  exact ⟨⟨g,l3,k4⟩,x3,by rw [e0,e1,e2,e4],⟨hg,h3,e9k w4,hT⟩⟩
theorem a6f {n:Int} (h:(Lit.int .i64 n).wf = true):InR n:=by
 have:=e9k h
 exact ⟨this.1,by have:=this.2; omega⟩
theorem b6n {cs:List Value} {n:Nat} {D:DataW H × List MemPlace} (h:DataW.trod enc Tryz.prog w 0 sp hd n 26 cs = some D):∃ t:Tkt,cs = b1p t ∧ WTkt t:=by
 obtain ⟨hcl,hf⟩:=a6u Tryz.underlying26 (by kernel_rfl) (by kernel_rfl) h
 obtain ⟨v0,y0,m0,c0,f0⟩:=hf 0 _ rfl
 obtain ⟨v1,y1,m1,c1,f1⟩:=hf 1 _ rfl
 obtain ⟨v2,y2,m2,c2,f2⟩:=hf 2 _ rfl
 obtain ⟨v3,y3,m3,c3,f3⟩:=hf 3 _ rfl
 obtain ⟨v4,y4,m4,c4,f4⟩:=hf 4 _ rfl
 obtain ⟨v5,y5,m5,c5,f5⟩:=hf 5 _ rfl
 obtain ⟨k0,e0,_,w0⟩:=DataW.trod_int Tryz.underlying3 f0
 obtain ⟨k1,e1,_,w1⟩:=DataW.trod_int Tryz.underlying3 f1
 obtain ⟨k2,e2,_,w2⟩:=DataW.trod_int Tryz.underlying3 f2
 obtain ⟨k3,e3,_,w3⟩:=DataW.trod_int Tryz.underlying3 f3
 obtain ⟨k4,e4,_,w4⟩:=DataW.trod_int Tryz.underlying3 f4
 obtain ⟨k5,e5,_,w5⟩:=DataW.trod_int Tryz.underlying3 f5
 simp only [List.cons.injEq,and_true] at e0 e1 e2 e3 e4 e5
 have h6:cs.length = 6:=hcl
 refine ⟨⟨k0,k1,k2,k3,k4,k5⟩,?_,⟨?_⟩⟩
 ·match cs,h6 with
  | [x0,x1,x2,x3,x4,x5],_=>
   simp only [List.getElem?_cons_zero,List.getElem?_cons_succ,Option.some.injEq] at c0 c1 c2 c3 c4 c5
   rw [c0,c1,c2,c3,c4,c5,e0,e1,e2,e3,e4,e5]
 ·intro v hv
  simp only [tktL,List.mem_cons,List.not_mem_nil,or_false] at hv
  rcases hv with rfl | rfl | rfl | rfl | rfl | rfl
  ·exact a6f w0
  ·exact a6f w1
  ·exact a6f w2
  ·exact a6f w3
  ·exact a6f w4
  ·exact a6f w5
theorem d9j {v:Value} {n:Nat} {D:DataW H × List MemPlace} (h:DataW.trod enc Tryz.prog w 0 sp hd n 51 [v] = some D):∃ l,b9b w v l:=
 b5q Tryz.underlying51 (by kernel_rfl) (by decide) (fun cs b p m D hl hc ht=>by
  match cs,hl with
  | [x0,x1,x2],_=>
   obtain ⟨_,hf⟩:=a6u Tryz.underlying41 (by kernel_rfl) (by kernel_rfl) ht
   obtain ⟨v0,y0,m0,c0,f0⟩:=hf 0 _ rfl
   obtain ⟨v1,y1,m1,c1,f1⟩:=hf 1 _ rfl
   obtain ⟨v2,y2,m2,c2,f2⟩:=hf 2 _ rfl
   obtain ⟨k0,e0,_,w0⟩:=DataW.trod_int Tryz.underlying3 f0
   obtain ⟨k1,e1,_,w1⟩:=DataW.trod_int Tryz.underlying3 f1
   obtain ⟨k2,e2,_,w2⟩:=DataW.trod_int Tryz.underlying3 f2
   simp only [List.cons.injEq,and_true] at e0 e1 e2
   simp only [List.getElem?_cons_zero,List.getElem?_cons_succ,Option.some.injEq] at c0 c1 c2
   subst c0; subst c1; subst c2; subst e0; subst e1; subst e2
   exact ⟨⟨k0,k1,k2⟩,_,rfl,hc,rfl,e9k w0,e9k w1,e9k w2⟩) h
theorem c7n {b0:Nat} {v:Value} {d:DataW H} {ps:List MemPlace} (hval:Value.okWide Tryz.prog w .any b0 51 v) (h:DataW.Trod enc Tryz.prog w 0 sp hd 51 v d ps):∃ l,b9b w v l:=by
 obtain ⟨a,n,c,rfl⟩:=okWide_slice Tryz.underlying51 hval
 obtain ⟨fu,hf⟩:=h
 exact d9j hf
theorem b6o:Tryz.prog.cellsOf 26 = 6:=by kernel_rfl
theorem d9k:Tryz.prog.cellsOf 84 = 2:=by kernel_rfl
theorem c3w:Tryz.prog.cellsOf 9 = 1:=by kernel_rfl
theorem d9l:Tryz.prog.cellsOf 24 = 4:=by kernel_rfl
theorem d2k:Tryz.prog.cellsOf 27 = 1:=by kernel_rfl
theorem b6p:Tryz.prog.cellsOf 29 = 14:=by kernel_rfl
theorem d9m:Tryz.prog.cellsOf 86 = 9:=by kernel_rfl
theorem d9n {cs:List Value} {n:Nat} {D:DataW H × List MemPlace} (h:DataW.trod enc Tryz.prog w 0 sp hd n 84 cs = some D):∃ (d:Int) (av:Value) (l:List Int),cs = [.int .i64 d,av] ∧ InR d ∧ Ints w av l:=by
 obtain ⟨hcl,hf⟩:=a6u Tryz.underlying84 (by kernel_rfl) (by kernel_rfl) h
 obtain ⟨v0,y0,m0,c0,f0⟩:=hf 0 _ rfl
 obtain ⟨v1,y1,m1,c1,f1⟩:=hf 1 _ rfl
 obtain ⟨k0,e0,_,w0⟩:=DataW.trod_int Tryz.underlying3 f0
 obtain ⟨l1,h1⟩:=a9q f1
 simp only [List.cons.injEq,and_true] at e0
 have h6:cs.length = 2:=hcl
 refine ⟨k0,v1,l1,?_,a6f w0,h1⟩
 match cs,h6 with
 | [x0,x1],_=>
  simp only [List.getElem?_cons_zero,List.getElem?_cons_succ,Option.some.injEq] at c0 c1
  rw [c0,c1,e0]
theorem d9o {cs:List Value} {n:Nat} {D:DataW H × List MemPlace} (h:DataW.trod enc Tryz.prog w 0 sp hd n 24 cs = some D):∃ (b:Bld) (v:Value),cs = c2v b v ∧ InR b.s ∧ InR b.u ∧ InR b.v ∧ Ints w v b.ys:=by
 obtain ⟨hcl,hf⟩:=a6u Tryz.underlying24 (by kernel_rfl) (by kernel_rfl) h
 obtain ⟨v0,y0,m0,c0,f0⟩:=hf 0 _ rfl
 obtain ⟨v1,y1,m1,c1,f1⟩:=hf 1 _ rfl
 obtain ⟨v2,y2,m2,c2,f2⟩:=hf 2 _ rfl
 obtain ⟨v3,y3,m3,c3,f3⟩:=hf 3 _ rfl
 obtain ⟨k0,e0,_,w0⟩:=DataW.trod_int Tryz.underlying3 f0
 obtain ⟨k1,e1,_,w1⟩:=DataW.trod_int Tryz.underlying3 f1
 obtain ⟨k2,e2,_,w2⟩:=DataW.trod_int Tryz.underlying3 f2
 obtain ⟨l3,h3⟩:=a9q f3
 simp only [List.cons.injEq,and_true] at e0 e1 e2
 have h6:cs.length = 4:=hcl
 refine ⟨⟨k0,k1,k2,l3⟩,v3,?_,a6f w0,a6f w1,a6f w2,h3⟩
 match cs,h6 with
 | [x0,x1,x2,x3],_=>
  simp only [List.getElem?_cons_zero,List.getElem?_cons_succ,Option.some.injEq] at c0 c1 c2 c3
  rw [c0,c1,c2,c3,e0,e1,e2]
theorem c1b {v:Value} {l:List Int} (h:Ints w v l):∀ x ∈ l,InR x:=fun x hx=>⟨(h.rng x hx).1,by have:=(h.rng x hx).2; omega⟩
theorem g5c (s:ByteArray):s = ⟨s.data.toList.toArray⟩:=by cases s; rfl
theorem d9p {v:Value} {n:Nat} {D:DataW H × List MemPlace} (h:DataW.trod enc Tryz.prog w 0 sp hd n 27 [v] = some D):∃ l,b4u w v l:=
 b5q Tryz.underlying27 d9m (by decide) (fun cs b p m D hl hc ht=>by
  obtain ⟨xs,m,_,_,hcl,hxl,hf⟩:=DataW.trod_struct Tryz.underlying86 ht
  have hxl:xs.length = 3:=hxl
  match cs,hl,xs,hxl with
  | [x0,x1,x2,x3,x4,x5,x6,x7,x8],_,[y0,y1,y2],_=>
   have f0:DataW.trod enc Tryz.prog w 0 sp hd m 26 (([x0,x1,x2,x3,x4,x5,x6,x7,x8].drop 0).take (Tryz.prog.cellsOf 26)) = some y0:=hf 0 _ rfl
   have f1:DataW.trod enc Tryz.prog w 0 sp hd m 84 (([x0,x1,x2,x3,x4,x5,x6,x7,x8].drop 6).take (Tryz.prog.cellsOf 84)) = some y1:=hf 1 _ rfl
   have f2:DataW.trod enc Tryz.prog w 0 sp hd m 9 (([x0,x1,x2,x3,x4,x5,x6,x7,x8].drop 8).take (Tryz.prog.cellsOf 9)) = some y2:=hf 2 _ rfl
   rw [b6o] at f0
   rw [d9k] at f1
   rw [c3w] at f2
   obtain ⟨t,et,ht⟩:=b6n f0
   obtain ⟨d,av,al,es,hd,ha⟩:=d9n f1
   obtain ⟨s,ess,_,hs⟩:=DataW.trod_string Tryz.underlying9 f2
   simp only [List.drop_zero,List.take_succ_cons,List.take_zero,List.drop_succ_cons,List.cons.injEq,and_true,b1p] at et es ess
   obtain ⟨e0,e1,e2,e3,e4,e5⟩:=et
   obtain ⟨e6,e7⟩:=es
   refine ⟨⟨t,⟨d,al⟩,s.data.toList⟩,_,rfl,hc,av,?_,ha,ht,hd,c1b ha,?_,?_⟩
   ·rw [e0,e1,e2,e3,e4,e5,e6,e7,ess,g5c s]
   ·have:=ha.len; show (al.length:Int) ≤ _; omega
   ·show ((s.data.toList.length:Nat):Int) ≤ _
    have:s.data.toList.length = s.size:=by simp
    rw [this]
    have:maxLen = 9223372036854775807:=rfl
    omega) h
theorem c3x {cs:List Value} {n:Nat} {D:DataW H × List MemPlace} (ht:DataW.trod enc Tryz.prog w 0 sp hd n 29 cs = some D):∃ (x:Hld) (av yv kv:Value),cs = a6o x av yv kv ∧ HldR w x av yv kv:=by
 obtain ⟨xs,m,_,_,hcl,hxl,hf⟩:=DataW.trod_struct Tryz.underlying29 ht
 have hxl:xs.length = 6:=hxl
 rw [b6p] at hcl
 match cs,hcl,xs,hxl with
 | [x0,x1,x2,x3,x4,x5,x6,x7,x8,x9,x10,x11,x12,x13],_,[y0,y1,y2,y3,y4,y5],_=>
  have f0:DataW.trod enc Tryz.prog w 0 sp hd m 3 (([x0,x1,x2,x3,x4,x5,x6,x7,x8,x9,x10,x11,x12,x13].drop 0).take (Tryz.prog.cellsOf 3)) = some y0:=hf 0 _ rfl
  have f1:DataW.trod enc Tryz.prog w 0 sp hd m 3 (([x0,x1,x2,x3,x4,x5,x6,x7,x8,x9,x10,x11,x12,x13].drop 1).take (Tryz.prog.cellsOf 3)) = some y1:=hf 1 _ rfl
  have f2:DataW.trod enc Tryz.prog w 0 sp hd m 22 (([x0,x1,x2,x3,x4,x5,x6,x7,x8,x9,x10,x11,x12,x13].drop 2).take (Tryz.prog.cellsOf 22)) = some y2:=hf 2 _ rfl
  have f3:DataW.trod enc Tryz.prog w 0 sp hd m 24 (([x0,x1,x2,x3,x4,x5,x6,x7,x8,x9,x10,x11,x12,x13].drop 3).take (Tryz.prog.cellsOf 24)) = some y3:=hf 3 _ rfl
  have f4:DataW.trod enc Tryz.prog w 0 sp hd m 26 (([x0,x1,x2,x3,x4,x5,x6,x7,x8,x9,x10,x11,x12,x13].drop 7).take (Tryz.prog.cellsOf 26)) = some y4:=hf 4 _ rfl
  have f5:DataW.trod enc Tryz.prog w 0 sp hd m 27 (([x0,x1,x2,x3,x4,x5,x6,x7,x8,x9,x10,x11,x12,x13].drop 13).take (Tryz.prog.cellsOf 27)) = some y5:=hf 5 _ rfl
  rw [b6m] at f0 f1
  rw [b4f] at f2
  rw [d9l] at f3
  rw [b6o] at f4
  rw [d2k] at f5
  obtain ⟨k0,e0,_,w0⟩:=DataW.trod_int Tryz.underlying3 f0
  obtain ⟨k1,e1,_,w1⟩:=DataW.trod_int Tryz.underlying3 f1
  obtain ⟨al,ha⟩:=a9q f2
  obtain ⟨b,bv,eb,hb1,hb2,hb3,hby⟩:=d9o f3
  obtain ⟨t,et,ht⟩:=b6n f4
  obtain ⟨ll,hll⟩:=d9p f5
  simp only [List.drop_zero,List.take_succ_cons,List.take_zero,List.drop_succ_cons,List.cons.injEq,and_true,b1p,c2v] at e0 e1 eb et
  obtain ⟨q0,q1,q2,q3⟩:=eb
  obtain ⟨t0,t1,t2,t3,t4,t5⟩:=et
  refine ⟨⟨k0,k1,al,b,t,ll⟩,x2,bv,x13,?_,⟨ha,hby,hll,⟨a6f w0,a6f w1,c1b ha,?_,hb1,hb2,hb3,c1b hby,?_,ht,?_⟩⟩⟩
  ·rw [e0,e1,q0,q1,q2,q3,t0,t1,t2,t3,t4,t5]
  ·have:=ha.len; show (al.length:Int) ≤ _; omega
  ·have:=hby.len; show (b.ys.length:Int) ≤ _; omega
  ·intro x hx
   obtain ⟨i,hi,rfl⟩:=List.mem_iff_getElem.1 hx
   obtain ⟨ad,c,hv⟩:=hll.isSlice
   have hll':b4u w (.slice ad ll.length c) ll:=by rw [← hv]; exact hll
   obtain ⟨_,_,_,_,_,_,_,_,_,_,hw⟩:=hll'.at hi
   exact hw
theorem d9q {v:Value} {n:Nat} {D:DataW H × List MemPlace} (h:DataW.trod enc Tryz.prog w 0 sp hd n 52 [v] = some D):∃ l,SRow 14 (a9i 14 c2x) w v l:=
 b5q Tryz.underlying52 b6p (by decide) (fun cs b p m D hl hc ht=>by
  obtain ⟨x,av,yv,kv,e,hH⟩:=c3x ht
  exact ⟨x,cs,hl,hc,av,yv,kv,e,hH⟩) h
theorem d2l {b0:Nat} {v:Value} {d:DataW H} {ps:List MemPlace} (hval:Value.okWide Tryz.prog w .any b0 52 v) (h:DataW.Trod enc Tryz.prog w 0 sp hd 52 v d ps):∃ l,SRow 14 (a9i 14 c2x) w v l:=by
 obtain ⟨a,n,c,rfl⟩:=okWide_slice Tryz.underlying52 hval
 obtain ⟨fu,hf⟩:=h
 exact d9q hf
end
end Go.Proofs
namespace Go.Proofs
open Go.Sh Tryz
variable {a0 a1 a2:Value} {K:VK} {w:World}
def g3e (a0 a1:Value) (K:VK) (w:World):Prop:=
 oM prog (.box 84 (.tmp 0)) 0 [a0] (fun v2=>
 oM prog (.box 84 (.tmp 0)) 0 [a1] fun v3=>
 kF 84 0 v2 fun v5=>
 kL 3 v5 fun v6=>
 kF 84 0 v3 fun v7=>
 kL 3 v7 fun v8=>
 kB .eql 3 4 v6 v8 fun v9 w=>
 gT v9 (kF 84 1 v2) (fun v11 w=>
 gT v9 (kL 22 v11) (fun v12 w=>
 gT v9 (kF 84 1 v3) (fun v13 w=>
 gT v9 (kL 22 v13) (fun v14 w=>
 gT v9 (a0a prog 56 #[v12,v14]) (fun v15=>
 kP v9 v15 (.bool false) fun v16=>
 K v16) w) w) w) w) w) w
theorem e6z (h:g3e a0 a1 K w):a0a prog 85 #[a0,a1] K w:=
 cZ (fun _=>0) func85 h
def g3f (a0 a1:Value) (K:VK) (w:World):Prop:=
 kN 27 a0 (fun v7=>
 kN 27 a1 fun v9=>
 kB .neq 3 4 v7 v9 fun v10=>
 kO v10 (K (.bool false))
 (kQ [(.bool false),(.int .i64 0)] fun J_4 m_5 l_6 u_l_6 w0_l_6=>(fun w=>(
 kN 27 a0 (fun v13=>
 kB .lss 3 4 (l_6.getD 1 undef) v13 fun v14=>
 kO v14 (kH fun C_9 w=>(((true:Bool) = true) ∧ (a0d a0 C_9 fun v17=>
 a0d (l_6.getD 1 undef) C_9 fun v18=>
 jI 27 v17 v18 C_9 fun v19=>
 jF 86 0 v19 C_9 fun v20=>
 jL 26 v20 C_9 fun v21=>
 a0d a1 C_9 fun v22=>
 a0d (l_6.getD 1 undef) C_9 fun v23=>
 jI 27 v22 v23 C_9 fun v24=>
 jF 86 0 v24 C_9 fun v25=>
 jL 26 v25 C_9 fun v26=>
 jB .neq 26 4 v21 v26 C_9 fun v27=>
 a0d v27 C_9 fun v28=>
 jG v28 (a0d a0) C_9 fun v29=>
 jG v28 (a0d (l_6.getD 1 undef)) C_9 fun v30=>
 jG v28 (jI 27 v29 v30) C_9 fun v31=>
 jG v28 (jF 86 2 v31) C_9 fun v32=>
 jG v28 (jL 9 v32) C_9 fun v33=>
 jG v28 (a0d a1) C_9 fun v34=>
 jG v28 (a0d (l_6.getD 1 undef)) C_9 fun v35=>
 jG v28 (jI 27 v34 v35) C_9 fun v36=>
 jG v28 (jF 86 2 v36) C_9 fun v37=>
 jG v28 (jL 9 v37) C_9 fun v38=>
 jG v28 (jB .neq 9 4 v33 v38) C_9 fun v39=>
 jP v28 (.bool true) v39 C_9 fun v40=>
 a0d v40 C_9 fun v41=>
 jG v41 (a0d a0) C_9 fun v42=>
 jG v41 (a0d (l_6.getD 1 undef)) C_9 fun v43=>
 jG v41 (jI 27 v42 v43) C_9 fun v44=>
 jG v41 (jF 86 1 v44) C_9 fun v45=>
 jG v41 (jL 84 v45) C_9 fun v46=>
 jG v41 (a0d a1) C_9 fun v47=>
 jG v41 (a0d (l_6.getD 1 undef)) C_9 fun v48=>
 jG v41 (jI 27 v47 v48) C_9 fun v49=>
 jG v41 (jF 86 1 v49) C_9 fun v50=>
 jG v41 (jL 84 v50) C_9 fun v51=>
 ∃ S_45:World → WK,∀ w,C_9 w → (
 gF v41 (a0a prog 85 #[v46,v51]) (fun v52 w=>
 gF v41 (kU v52) (fun v53=>
 kP v41 (.bool true) v53 fun v54=>
 kO v54 (K (.bool false))
 (kB .add 3 3 (l_6.getD 1 undef) (.int .i64 1) fun v16=>
 kJ J_4 m_5 l_6 w0_l_6 [(l_6.getD 0 undef),v16])) w) w))))
 (K (.bool true))) w)) w0_l_6)) w
theorem e7a (h:g3f a0 a1 K w):a0a prog 44 #[a0,a1] K w:=
 cZ (fun _=>(fz 35 0 3)) func44 h
def g3g (a0 a1:Value) (K:VK) (w:World):Prop:=
 oM prog (.box 29 (.tmp 0)) 0 [a0] (fun v2=>
 oM prog (.box 29 (.tmp 0)) 0 [a1] fun v3=>
 kF 29 3 v2 fun v7=>
 kL 24 v7 fun v8=>
 kA 24 fun v5=>
 kS 24 v5 v8 fun _=>
 kF 29 3 v3 fun v9=>
 kL 24 v9 fun v10=>
 kA 24 fun v6=>
 kS 24 v6 v10 fun _=>
 kF 29 0 v2 fun v11=>
 kL 3 v11 fun v12=>
 kF 29 0 v3 fun v13=>
 kL 3 v13 fun v14=>
 kB .neq 3 4 v12 v14 fun v15 w=>
 gF v15 (kF 29 1 v2) (fun v17 w=>
 gF v15 (kL 3 v17) (fun v18 w=>
 gF v15 (kF 29 1 v3) (fun v19 w=>
 gF v15 (kL 3 v19) (fun v20 w=>
 gF v15 (kB .neq 3 4 v18 v20) (fun v21=>
 kP v15 (.bool true) v21 fun v22 w=>
 gF v22 (kF 24 0 v5) (fun v24 w=>
 gF v22 (kL 3 v24) (fun v25 w=>
 gF v22 (kF 24 0 v6) (fun v26 w=>
 gF v22 (kL 3 v26) (fun v27 w=>
 gF v22 (kB .neq 3 4 v25 v27) (fun v28=>
 kP v22 (.bool true) v28 fun v29 w=>
 gF v29 (kF 24 1 v5) (fun v31 w=>
 gF v29 (kL 3 v31) (fun v32 w=>
 gF v29 (kF 24 1 v6) (fun v33 w=>
 gF v29 (kL 3 v33) (fun v34 w=>
 gF v29 (kB .neq 3 4 v32 v34) (fun v35=>
 kP v29 (.bool true) v35 fun v36 w=>
 gF v36 (kF 24 2 v5) (fun v38 w=>
 gF v36 (kL 3 v38) (fun v39 w=>
 gF v36 (kF 24 2 v6) (fun v40 w=>
 gF v36 (kL 3 v40) (fun v41 w=>
 gF v36 (kB .neq 3 4 v39 v41) (fun v42=>
 kP v36 (.bool true) v42 fun v43 w=>
 gF v43 (kF 29 4 v2) (fun v45 w=>
 gF v43 (kL 26 v45) (fun v46 w=>
 gF v43 (kF 29 4 v3) (fun v47 w=>
 gF v43 (kL 26 v47) (fun v48 w=>
 gF v43 (kB .neq 26 4 v46 v48) (fun v49=>
 kP v43 (.bool true) v49 fun v50=>
 kO v50 (K (.bool false))
 (kF 29 2 v2 fun v51=>
 kL 22 v51 fun v52=>
 kF 29 2 v3 fun v53=>
 kL 22 v53 fun v54=>
 a0a prog 56 #[v52,v54] fun v55 w=>
 gT v55 (kF 24 3 v5) (fun v57 w=>
 gT v55 (kL 22 v57) (fun v58 w=>
 gT v55 (kF 24 3 v6) (fun v59 w=>
 gT v55 (kL 22 v59) (fun v60 w=>
 gT v55 (a0a prog 56 #[v58,v60]) (fun v61=>
 kP v55 v61 (.bool false) fun v62 w=>
 gT v62 (kF 29 5 v2) (fun v64 w=>
 gT v62 (kL 27 v64) (fun v65 w=>
 gT v62 (kF 29 5 v3) (fun v66 w=>
 gT v62 (kL 27 v66) (fun v67 w=>
 gT v62 (a0a prog 44 #[v65,v67]) (fun v68=>
 kP v62 v68 (.bool false) fun v69=>
 K v69) w) w) w) w) w) w) w) w) w) w)) w) w) w) w) w) w) w) w) w) w) w) w) w) w) w) w) w) w) w) w) w) w) w) w) w) w
theorem e7b (h:g3g a0 a1 K w):a0a prog 16 #[a0,a1] K w:=
 cZ (fun _=>0) func16 h
def g3h (a0:Value) (K:VK) (w:World):Prop:=
 oM prog (.box 29 (.tmp 0)) 0 [a0] (fun v1=>
 kQ [(.bool false),(.int .i64 0)] fun J_2 m_3 l_4 u_l_4 w0_l_4=>(fun w=>(
 kF 29 5 v1 (fun v5=>
 kL 27 v5 fun v6=>
 kN 27 v6 fun v7=>
 kB .lss 3 4 (l_4.getD 1 undef) v7 fun v8 w=>
 gT v8 (a0c (l_4.getD 1 undef)) (fun v10 w=>
 gT v8 (kB .leq 3 4 v10 (.int .i64 5)) (fun v11=>
 kP v8 v11 (.bool false) fun v12=>
 kO v12 (kF 29 5 v1 fun v15=>
 kL 27 v15 fun v16=>
 kI 27 v16 (l_4.getD 1 undef) fun v18=>
 kF 86 1 v18 fun v19=>
 kF 84 1 v19 fun v20=>
 kL 22 v20 fun v21=>
 kN 22 v21 fun v22=>
 kB .gtr 3 4 v22 (.int .i64 8) fun v23 w=>
 gF v23 (kF 29 5 v1) (fun v25 w=>
 gF v23 (kL 27 v25) (fun v26 w=>
 gF v23 (a0c (l_4.getD 1 undef)) (fun v27 w=>
 gF v23 (kI 27 v26 v27) (fun v28 w=>
 gF v23 (kF 86 2 v28) (fun v29 w=>
 gF v23 (kL 9 v29) (fun v30 w=>
 gF v23 (kN 9 v30) (fun v31 w=>
 gF v23 (kB .gtr 3 4 v31 (.int .i64 210)) (fun v32=>
 kP v23 (.bool true) v32 fun v33=>
 kO v33 (K (.bool false))
 (kB .add 3 3 (l_4.getD 1 undef) (.int .i64 1) fun v14=>
 kJ J_2 m_3 l_4 w0_l_4 [(l_4.getD 0 undef),v14])) w) w) w) w) w) w) w) w)
 (kF 29 2 v1 fun v34=>
 kL 22 v34 fun v35=>
 kN 22 v35 fun v36=>
 kB .leq 3 4 v36 (.int .i64 8) fun v37 w=>
 gT v37 (kF 29 3 v1) (fun v39 w=>
 gT v37 (kF 24 3 v39) (fun v40 w=>
 gT v37 (kL 22 v40) (fun v41 w=>
 gT v37 (kN 22 v41) (fun v42 w=>
 gT v37 (kB .leq 3 4 v42 (.int .i64 8)) (fun v43=>
 kP v37 v43 (.bool false) fun v44 w=>
 gT v44 (kF 29 5 v1) (fun v46 w=>
 gT v44 (kL 27 v46) (fun v47 w=>
 gT v44 (kN 27 v47) (fun v48 w=>
 gT v44 (kB .leq 3 4 v48 (.int .i64 5)) (fun v49=>
 kP v44 v49 (.bool false) fun v50=>
 K v50) w) w) w) w) w) w) w) w) w)) w) w) w)) w0_l_4) w
theorem e7c (h:g3h a0 K w):a0a prog 13 #[a0] K w:=
 cZ (fun _=>0) func13 h
def g3i (a0 a1:Value) (K:VK) (w:World):Prop:=
 oM prog (.box 50 (.tmp 0)) 0 [a0] (fun v2=>
 kF 50 1 v2 fun v5=>
 kL 22 v5 fun v6=>
 kN 22 v6 fun v7=>
 kB .leq 3 4 v7 (.int .i64 8) fun v8 w=>
 gT v8 (a0c a1) (fun v10 w=>
 gT v8 (kN 51 v10) (fun v11 w=>
 gT v8 (kB .leq 3 4 v11 (.int .i64 18)) (fun v12=>
 kP v8 v12 (.bool false) fun v13=>
 K v13) w) w) w) w
theorem e7d (h:g3i a0 a1 K w):a0a prog 23 #[a0,a1] K w:=
 cZ (fun _=>0) func23 h
def g3j (a0:Value) (K:VK) (w:World):Prop:=
 kQ [(.bool false),(.int .i64 0)] (fun J_1 m_2 l_3 u_l_3 w0_l_3=>(fun w=>(
 kN 52 a0 (fun v6=>
 kB .lss 3 4 (l_3.getD 1 undef) v6 fun v7 w=>
 gT v7 (a0c (l_3.getD 1 undef)) (fun v9 w=>
 gT v7 (kB .leq 3 4 v9 (.int .i64 6)) (fun v10=>
 kP v7 v10 (.bool false) fun v11=>
 kO v11 (kI 52 a0 (l_3.getD 1 undef) fun v16=>
 kL 29 v16 fun v17=>
 a0a prog 13 #[v17] fun v18=>
 kU v18 fun v19=>
 kO v19 (K (.bool false))
 (kB .add 3 3 (l_3.getD 1 undef) (.int .i64 1) fun v13=>
 kJ J_1 m_2 l_3 w0_l_3 [(l_3.getD 0 undef),v13]))
 (kN 52 a0 fun v21=>
 kB .leq 3 4 v21 (.int .i64 6) fun v22=>
 K v22)) w) w) w)) w0_l_3) w
theorem e7e (h:g3j a0 K w):a0a prog 24 #[a0] K w:=
 cZ (fun _=>0) func24 h
def g3k (a0 a1 a2:Value) (K:VK) (w:World):Prop:=
 oM prog (.box 50 (.tmp 0)) 0 [a0] (fun v3=>
 a0a prog 35 #[] fun v12=>
 oM prog (.binOp .eql 55 (.tmp 0) (.const (.pointer none)) 55) 4 [v12] fun v14=>
 kO v14 (K (.tuple #[(.pointer none),(.pointer none)]))
 (kL 50 v3 fun v17=>
 a0a prog 34 #[v12,v17,a1] fun v19=>
 kE 0 56 v19 fun v20=>
 kE 1 62 v19 fun v21=>
 kC .neq 62 0 4 v21 fun v23 w=>
 gF v23 (a0c v20) (fun v25 w=>
 gF v23 (oM prog (.binOp .eql 56 (.tmp 0) (.const (.pointer none)) 56) 4 [v25]) (fun v26=>
 kP v23 (.bool true) v26 fun v27=>
 kO v27 (K (.tuple #[v12,(.pointer none)]))
 (kQ [v21,(.pointer none),(.pointer none),(.int .i64 0)] fun J_12 m_13 l_14 u_l_14 w0_l_14=>(fun w=>(
 kN 52 a2 (fun v31=>
 kB .lss 3 4 (l_14.getD 3 undef) v31 fun v32=>
 kO v32 (kI 52 a2 (l_14.getD 3 undef) fun v38=>
 kL 29 v38 fun v39=>
 a0a prog 53 #[v20,v39] fun v40=>
 kC .neq 62 0 4 v40 fun v42 w=>
 gT v42 (a0c v40) (fun v44 w=>
 gT v42 (kC .neq 62 1 4 v44) (fun v45=>
 kP v42 v45 (.bool false) fun v46 w=>
 gT v46 (a0c v40) (fun v48 w=>
 gT v46 (kC .neq 62 5 4 v48) (fun v49=>
 kP v46 v49 (.bool false) fun v50=>
 kO v50 (K (.tuple #[v12,(.pointer none)]))
 (kB .add 3 3 (l_14.getD 3 undef) (.int .i64 1) fun v34=>
 kJ J_12 m_13 l_14 w0_l_14 [v40,(l_14.getD 1 undef),(l_14.getD 2 undef),v34])) w) w) w) w)
 (a0a prog 69 #[v12,(.int .i64 0)] fun v53=>
 K (.tuple #[v12,v20]))) w)) w0_l_14)) w) w)) w
theorem e7f (h:g3k a0 a1 a2 K w):a0a prog 25 #[a0,a1,a2] K w:=
 cZ (fun _=>0) func25 h
end Go.Proofs
namespace Go.Proofs
open Go Go.Sh Go.RowKit FdSpec TkSpec CodeSpec PuSpec DkSpec JnSpec
section
variable {K:VK} {w w' w0 W W':World} {L:List (Addr × Value)} {rb b:Nat}
@[go_sem] theorem h1v (T:TypeId) (a b:Tkt):oM Tryz.prog (.binOp .neq 26 (.tmp 0) (.tmp 1) 26) T [b5k a,b5k b] = a0c (.bool (decide (a ≠ b))):=by
 funext K w
 have h1:(eqGuard .neq 26 (.tmp 0) (.tmp 1) (b5k a) (b5k b)).run Tryz.prog w = .ok () w:=run_eqGuard_agg w _ _ _ _ _ _ (by kernel_rfl)
 have h2:(binOp .neq 26 (b5k a) (b5k b)).run Tryz.prog w = .ok (.bool (decide (a ≠ b))) w:=by
  rw [run_neq_struct,run_equalIn_agg w 9999 26 _ _ (by kernel_rfl) (by kernel_rfl)]
  have u3:=Tryz.underlying3
  have e:decide (a ≠ b) = !((a.mark == b.mark) && (a.first == b.first) && (a.z == b.z) && (a.a == b.a) && (a.b == b.b) && (a.r == b.r)):=by
   obtain ⟨a1,a2,a3,a4,a5,a6⟩:=a
   obtain ⟨b1,b2,b3,b4,b5,b6⟩:=b
   rw [decide_not]
   congr 1
   simp [Tkt.mk.injEq,and_assoc,Bool.and_assoc]
   rfl
  rw [e]
  simp [go_sem,Program.fieldsOf,Tryz.underlying26,Op.eqFields,part,u3]
  repeat' split
  all_goals simp_all
 unfold oM opM
 simp [xop,execOp,a0w,evE,h1,h2]
 exact Iff.rfl
theorem c6j {d1 d2:Int} {l m:List Int} {av bv:Value} (ha:Ints w av l) (hb:Ints w bv m) (k:∀ w',Bw w w' → K (.bool (decide (d1 = d2) && decide (l = m))) w'):a0a Tryz.prog 85 #[.agg #[.int .i64 d1,av],.agg #[.int .i64 d2,bv]] K w:=by
 apply e6z
 unfold g3e
 obtain ⟨a1,c1,rfl⟩:=ha.isSlice
 obtain ⟨a2,c2,rfl⟩:=hb.isSlice
 refine a1t (cs:=[.int .i64 d1,.slice a1 l.length c1]) rfl (.start w) fun b1 W hk hb1 hbb=>?_
 refine a1t (cs:=[.int .i64 d2,.slice a2 m.length c2]) rfl hk fun b2 W hk hb2 hbb=>?_
 by_cases h:d1 = d2
 ·rw [decide_eq_true h,bT] at k
  refine Xa (An2 hk.cells @h) ?_
  refine a9c (ha.next hk.below) (hb.next hk.below) (fun w3 h3=>?_)
  have k:=k _ (hk.next h3).below
  refine Xa0 ?_
  exact k
 ·rw [decide_eq_false h,bF] at k
  have k:=k _ hk.below
  refine Xa (An2 hk.cells @h) ?_
  exact k
theorem g0o {x y:Lnk} (h1:x.ticket = y.ticket) (h2:x.terms = y.terms) (h3:x.spend.dare = y.spend.dare) (h4:x.spend.answers = y.spend.answers):x = y:=by
 obtain ⟨a,⟨b,c⟩,d⟩:=x
 obtain ⟨a',⟨b',c'⟩,d'⟩:=y
 simp only at *
 subst h1 h2 h3 h4
 rfl
theorem g7s {x y:a0f}:((⟨x.toArray⟩:ByteArray) = ⟨y.toArray⟩) ↔ x = y:=by
 constructor
 ·intro h
  have:=congrArg (fun b:ByteArray=>b.data.toList) h
  simpa using this
 ·rintro rfl; rfl
theorem a6d {b p:Nat} {x:Lnk} {av:Value} (h:∀ j u,(lkC x av)[j]? = some u → w.cell? ⟨b,p + j,none⟩ = some u) :
  w.cell? ⟨b,p,none⟩ = some (.int .i64 x.ticket.mark) ∧ w.cell? ⟨b,p + 1,none⟩ = some (.int .i64 x.ticket.first) ∧ w.cell? ⟨b,p + 2,none⟩ = some (.int .i64 x.ticket.z) ∧ w.cell? ⟨b,p + 3,none⟩ = some (.int .i64 x.ticket.a) ∧ w.cell? ⟨b,p + 4,none⟩ = some (.int .i64 x.ticket.b) ∧ w.cell? ⟨b,p + 5,none⟩ = some (.int .i64 x.ticket.r) ∧
  w.cell? ⟨b,p + 6,none⟩ = some (.int .i64 x.spend.dare) ∧ w.cell? ⟨b,p + 6 + 1,none⟩ = some av ∧ w.cell? ⟨b,p + 8,none⟩ = some (.string ⟨x.terms.toArray⟩):=
 ⟨h 0 _ rfl,h 1 _ rfl,h 2 _ rfl,h 3 _ rfl,h 4 _ rfl,h 5 _ rfl,h 6 _ rfl,h 7 _ rfl,h 8 _ rfl⟩
theorem c6l {va vb:Value} {l m:List Lnk} (ha:b4u w va l) (hb:b4u w vb m) (k:∀ w',Bw w w' → K (.bool (decide (l = m))) w'):a0a Tryz.prog 44 #[va,vb] K w:=by
 apply e7a
 unfold g3f
 obtain ⟨a1,c1,rfl⟩:=ha.isSlice
 obtain ⟨a2,c2,rfl⟩:=hb.isSlice
 have hll:=ha.len
 by_cases hl:l.length = m.length
 ·have hlZ:(l.length:Int) = m.length:=by omega
  refine Xa @hlZ ?_
  refine ⟨fun vs W=>∃ (i:Nat),vs = [.bool false,.int .i64 (i:Int)] ∧ i ≤ l.length ∧ l.take i = m.take i ∧ Nx w W,
   (fun vs _=>match vs with | [_,.int _ i]=>l.length - i.toNat | _=>0),⟨0,rfl,by omega,rfl,bR⟩,?_⟩
  rintro _ _ w2 ⟨i,rfl,hi,he,h2⟩
  by_cases hin:i = l.length
  ·have e:l = m:=by
    rw [hin,List.take_length,hl,List.take_length] at he
    exact he
   have k:=k _ h2
   rw [decide_eq_true e] at k
   have hn:¬ (i:Int) < m.length:=by omega
   refine Xa (An2 @hn @hlZ) ?_
   exact k
  ·have hil:i < l.length:=by omega
   have him:i < m.length:=by omega
   have hiZ:(i:Int) < m.length:=by omega
   have ha2:=ha.next (a0l a4i) h2
   have hb2:=hb.next (a0l a4i) h2
   obtain ⟨b1,o1,rfl,hb1,cs1,hc1,hcc1,av,rfl,hA1,hw1⟩:=ha2.at hil
   obtain ⟨b2,o2,rfl,hb2l,cs2,hc2,hcc2,bv,rfl,hA2,hw2⟩:=hb2.at him
   obtain ⟨d1,n1,rfl⟩:=hA1.isSlice
   obtain ⟨d2,n2,rfl⟩:=hA2.isSlice
   have het:l.take (i + 1) = m.take (i + 1) ↔ l[i] = m[i]:=by
    rw [List.take_succ_eq_append_getElem hil,List.take_succ_eq_append_getElem him,he]
    exact ⟨fun h=>by simpa using List.append_cancel_left h,fun h=>by rw [h]⟩
   have hne:l[i] ≠ m[i] → l ≠ m:=fun h e=>h (by subst e; rfl)
   generalize l[i] = x at *
   generalize m[i] = y at *
   refine Xa (An2 @hiZ @hlZ) ?_
   refine ⟨Nx { w2 with drawn:=w2.drawn + 1 },bR,rfl,?_⟩
   have h2d:=h2.on (.drawn (B:=w2.heap.size))
   have hbd:Below w2.heap.size w2 { w2 with drawn:=w2.drawn + 1 }:=.drawn
   generalize ({ w2 with drawn:=w2.drawn + 1 }:World) = W3 at h2d hbd ⊢
   have q1:=fun W0 (h:Nx W3 W0) (j:Nat) (u:Value) (hj:(lkC x (.slice d1 x.spend.answers.length n1))[j]? = some u)=>((hbd.on h).cell hb1).trans (hcc1 j u hj)
   have q2:=fun W0 (h:Nx W3 W0) (j:Nat) (u:Value) (hj:(lkC y (.slice d2 y.spend.answers.length n2))[j]? = some u)=>((hbd.on h).cell hb2l).trans (hcc2 j u hj)
   have bad:x ≠ y → ∀ w',Nx W3 w' → K (.bool false) w':=fun e w' hn=>by
    have k:=k _ (h2d.on hn)
    rwa [decide_eq_false (hne e)] at k
   by_cases e1:x.ticket = y.ticket
   ·by_cases e2:x.terms = y.terms
    ·refine Xf (fun W0 hW0=>An2 (a6d (q1 _ hW0)) (a6d (q2 _ hW0))) (An4 @e1 @e2 @hiZ @hlZ) ?_
     refine ⟨Nx,fun w4 h4=>?_⟩
     refine c6j (hA1.next (hbd.on h4)) (hA2.next (hbd.on h4)) (fun w5 h5=>?_)
     have h45:=h4.on h5
     by_cases e3:x.spend.dare = y.spend.dare ∧ x.spend.answers = y.spend.answers
     ·rw [decide_eq_true e3.1,decide_eq_true e3.2]
      refine Xa0 ?_
      exact ⟨⟨i + 1,rfl,by omega,het.2 (g0o e1 e2 e3.1 e3.2),h2d.on h45⟩,by show l.length - (((i + 1:Nat):Int)).toNat < l.length - ((i:Nat):Int).toNat; omega⟩
     ·have e4:(decide (x.spend.dare = y.spend.dare) && decide (x.spend.answers = y.spend.answers)) = false:=by
       rw [← Bool.decide_and,decide_eq_false e3]
      rw [e4]
      have bad:=bad (fun e=>e3 (by subst e; exact ⟨rfl,rfl⟩)) _ h45
      refine Xa0 ?_
      exact bad
    ·have e2':¬ ((⟨x.terms.toArray⟩:ByteArray) = ⟨y.terms.toArray⟩):=fun e=>e2 (g7s.1 e)
     refine Xf (fun W0 hW0=>An2 (a6d (q1 _ hW0)) (a6d (q2 _ hW0))) (An4 @e1 @e2' @hiZ @hlZ) ?_
     refine ⟨Nx,fun w4 h4=>?_⟩
     have bad:=bad (fun e=>e2 (by rw [e])) _ h4
     refine Xa0 ?_
     exact bad
   ·refine Xf (fun W0 hW0=>An2 (a6d (q1 _ hW0)) (a6d (q2 _ hW0))) (An3 @e1 @hiZ @hlZ) ?_
    refine ⟨Nx,fun w4 h4=>?_⟩
    have bad:=bad (fun e=>e1 (by rw [e])) _ h4
    refine Xa0 ?_
    exact bad
 ·have hlZ:¬ (l.length:Int) = m.length:=by omega
  have k:=k _ (bR)
  rw [decide_eq_false (fun e=>hl (by rw [e]))] at k
  refine Xa @hlZ ?_
  exact k
theorem e3w:Tryz.prog.underlying 24 = some ((Tryz.prog.underlying 24).getD default):=by kernel_rfl
theorem e3x {x:Hld} {a y l:Value} {j:Nat} {u:Value} (hj:(c2v x.bl y)[j]? = some u):(a6o x a y l)[3 + j]? = some u:=by
 have hl:=(gS hj).1
 have:a6o x a y l = [.int .i64 x.limit,.int .i64 x.window,a] ++ (c2v x.bl y ++ [.int .i64 x.t.mark,.int .i64 x.t.first,.int .i64 x.t.z,.int .i64 x.t.a,.int .i64 x.t.b,.int .i64 x.t.r,l]):=rfl
 rw [this,List.getElem?_append_right (by simp)]
 simp only [List.length_cons,List.length_nil,Nat.zero_add,Nat.add_sub_cancel_left]
 rw [List.getElem?_append_left hl]
 exact hj
theorem a1h {g:Nat} {T:TypeId} {xs:List Value} (h:Holds w g T xs) {j:Nat} {u:Value} (hj:xs[j]? = some u):w.cell? ⟨g,j,none⟩ = some u:=by
 obtain ⟨hl,rfl⟩:=gS hj
 exact h.cell j hl
theorem g0p {x y:Hld} (e1:x.limit = y.limit) (e2:x.window = y.window) (e3:x.bl.s = y.bl.s) (e4:x.bl.u = y.bl.u) (e5:x.bl.v = y.bl.v) (e6:x.t = y.t) (e7:x.attrs = y.attrs) (e8:x.bl.ys = y.bl.ys) (e9:x.links = y.links):x = y:=by
 obtain ⟨a,b,c,⟨d,e,f,g⟩,t,l⟩:=x
 obtain ⟨a',b',c',⟨d',e',f',g'⟩,t',l'⟩:=y
 simp only at *
 subst e1 e2 e3 e4 e5 e6 e7 e8 e9
 rfl
theorem c9c (x y:Hld) {av yv kv av2 yv2 kv2:Value} (hx:HldR w x av yv kv) (hy:HldR w y av2 yv2 kv2) (k:∀ w',Bw w w' → K (.bool (decide (x = y))) w'):a0a Tryz.prog 16 #[c5v x av yv kv,c5v y av2 yv2 kv2] K w:=by
 apply e7b
 unfold g3g
 obtain ⟨a1,n1,d1,a2,n2,d2,a3,n3,d3,rfl,rfl,rfl⟩:=a0m hx
 obtain ⟨a4,n4,d4,a5,n5,d5,a6,n6,d6,rfl,rfl,rfl⟩:=a0m hy
 refine a2n (cs:=a6o x (.slice a1 n1 d1) (.slice a2 n2 d2) (.slice a3 n3 d3)) rfl (fun b1 w1 h1 hb1 hB1=>?_)
 refine a2n (cs:=a6o y (.slice a4 n4 d4) (.slice a5 n5 d5) (.slice a6 n6 d6)) rfl (fun b2 w2 h2 hb2 hB2=>?_)
 have hB1:=hB1.next h2
 refine a8w ?_
 refine a1l (cs:=c2v x.bl (.slice a2 n2 d2)) (p:=3) (fun j u hj=>a1h hB1 (e3x hj)) e3w (by kernel_rfl) (by kernel_rfl) ?_
 refine a0j d1i (fun g1 w3 h3 hg1 hG1=>?_)
 refine a0h c0m (xs:=c2v x.bl (.slice a2 n2 d2)) rfl rfl (b8i _ _ _ _) hG1 rfl (fun w4 hg4 hG1=>?_)
 have h24:Bw w2 w4:=a0k h3 hg4 hg1
 have hB1:=hB1.next h24
 have hB2:=hB2.next h24
 refine a8w ?_
 refine a1l (cs:=c2v y.bl (.slice a5 n5 d5)) (p:=3) (fun j u hj=>a1h hB2 (e3x hj)) e3w (by kernel_rfl) (by kernel_rfl) ?_
 refine a0j d1i (fun g2 w5 h5 hg2 hG2=>?_)
 refine a0h c0m (xs:=c2v y.bl (.slice a5 n5 d5)) rfl rfl (b8i _ _ _ _) hG2 rfl (fun w6 hg6 hG2=>?_)
 have h46:Bw w4 w6:=a0k h5 hg6 hg2
 have hB1:=hB1.next h46
 have hB2:=hB2.next h46
 have hG1:=hG1.next h46
 have h06:=((h1.on h2).on h24).on h46
 have bad:x ≠ y → ∀ w',Bw w6 w' → K (.bool false) w':=fun e w' hn=>by
  have k:=k _ (h06.on hn)
  rwa [decide_eq_false e] at k
 have p0:=hB1.cell 0 (by simp)
 have p1:=hB1.cell 1 (by simp)
 have p2:=hB1.cell 2 (by simp)
 have p13:=hB1.cell 13 (by simp)
 have q0:=hB2.cell 0 (by simp)
 have q1:=hB2.cell 1 (by simp)
 have q2:=hB2.cell 2 (by simp)
 have q13:=hB2.cell 13 (by simp)
 simp only [List.getElem_cons_zero,List.getElem_cons_succ] at p0 p1 p2 p13 q0 q1 q2 q13
 have r1:=hG1.are
 have r2:=hG2.are
 by_cases e1:x.limit = y.limit
 case neg=>
  have bad:=bad (fun e=>e1 (by rw [e])) _ (bR)
  refine Xa (An3 @p0 @q0 @e1) ?_
  exact bad
 by_cases e2:x.window = y.window
 case neg=>
  have bad:=bad (fun e=>e2 (by rw [e])) _ (bR)
  refine Xa (An6 @p0 @q0 @e1 @p1 @q1 @e2) ?_
  exact bad
 by_cases e3:x.bl.s = y.bl.s
 case neg=>
  have bad:=bad (fun e=>e3 (by rw [e])) _ (bR)
  refine Xa (An9 @p0 @q0 @e1 @p1 @q1 @e2 @r1 @r2 @e3) ?_
  exact bad
 by_cases e4:x.bl.u = y.bl.u
 case neg=>
  have bad:=bad (fun e=>e4 (by rw [e])) _ (bR)
  refine Xa (h3z @p0 @q0 @e1 @p1 @q1 @e2 @r1 @r2 @e3 @e4) ?_
  exact bad
 by_cases e5:x.bl.v = y.bl.v
 case neg=>
  have bad:=bad (fun e=>e5 (by rw [e])) _ (bR)
  refine Xa (h4a @p0 @q0 @e1 @p1 @q1 @e2 @r1 @r2 @e3 @e4 @e5) ?_
  exact bad
 have t1:∀ j u,(b1p x.t)[j]? = some u → w6.cell? ⟨b1,7 + j,none⟩ = some u:=fun j u hj=>a1h hB1 (by
  have:a6o x (.slice a1 n1 d1) (.slice a2 n2 d2) (.slice a3 n3 d3) = [.int .i64 x.limit,.int .i64 x.window,.slice a1 n1 d1] ++ c2v x.bl (.slice a2 n2 d2) ++ (b1p x.t ++ [.slice a3 n3 d3]):=rfl
  rw [this,List.getElem?_append_right (by simp)]
  simp only [List.length_append,List.length_cons,List.length_nil,Nat.zero_add,Nat.add_sub_cancel_left]
  rw [List.getElem?_append_left (gS hj).1]
  exact hj)
 have t2:∀ j u,(b1p y.t)[j]? = some u → w6.cell? ⟨b2,7 + j,none⟩ = some u:=fun j u hj=>a1h hB2 (by
  have:a6o y (.slice a4 n4 d4) (.slice a5 n5 d5) (.slice a6 n6 d6) = [.int .i64 y.limit,.int .i64 y.window,.slice a4 n4 d4] ++ c2v y.bl (.slice a5 n5 d5) ++ (b1p y.t ++ [.slice a6 n6 d6]):=rfl
  rw [this,List.getElem?_append_right (by simp)]
  simp only [List.length_append,List.length_cons,List.length_nil,Nat.zero_add,Nat.add_sub_cancel_left]
  rw [List.getElem?_append_left (gS hj).1]
  exact hj)
 by_cases e6:x.t = y.t
 case neg=>
  have bad:=bad (fun e=>e6 (by rw [e])) _ (bR)
  refine Xa (h4d @p0 @q0 @e1 @p1 @q1 @e2 @r1 @r2 @e3 @e4 @e5 (t1 0 _ rfl) (t1 1 _ rfl) (t1 2 _ rfl) (t1 3 _ rfl) (t1 4 _ rfl) (t1 5 _ rfl) (t2 0 _ rfl) (t2 1 _ rfl) (t2 2 _ rfl) (t2 3 _ rfl) (t2 4 _ rfl) (t2 5 _ rfl) @e6) ?_
  exact bad
 refine Xa (h4e @p0 @q0 @e1 @p1 @q1 @e2 @r1 @r2 @e3 @e4 @e5 (t1 0 _ rfl) (t1 1 _ rfl) (t1 2 _ rfl) (t1 3 _ rfl) (t1 4 _ rfl) (t1 5 _ rfl) (t2 0 _ rfl) (t2 1 _ rfl) (t2 2 _ rfl) (t2 3 _ rfl) (t2 4 _ rfl) (t2 5 _ rfl) @e6 @p2 @q2) ?_
 have hx6:=hx.next h06
 have hy6:=hy.next h06
 refine a9c hx6.attrs hy6.attrs (fun w7 h7=>?_)
 by_cases e7:x.attrs = y.attrs
 case neg=>
  have bad:=bad (fun e=>e7 (by rw [e])) _ h7
  rw [decide_eq_false e7]
  refine Xa0 ?_
  exact bad
 rw [decide_eq_true e7]
 have r17:=(hG1.next h7).are
 have r27:=(hG2.next h7).are
 refine Xa (An2 @r17 @r27) ?_
 refine a9c (hx6.ys.next h7) (hy6.ys.next h7) (fun w8 h8=>?_)
 have h78:=h7.on h8
 by_cases e8:x.bl.ys = y.bl.ys
 case neg=>
  have bad:=bad (fun e=>e8 (by rw [e])) _ h78
  rw [decide_eq_false e8]
  refine Xa0 ?_
  exact bad
 rw [decide_eq_true e8]
 have p13:=(h78.cell hB1.lt).trans p13
 have q13:=(h78.cell hB2.lt).trans q13
 refine Xa (An2 @p13 @q13) ?_
 refine c6l (hx6.links.next (a0l a4i) h78) (hy6.links.next (a0l a4i) h78) (fun w9 h9=>?_)
 have k:=k _ (h06.on (h78.on h9))
 by_cases e9:x.links = y.links
 ·rw [decide_eq_true (g0p e1 e2 e3 e4 e5 e6 e7 e8 e9)] at k
  rw [decide_eq_true e9]
  refine Xa0 ?_
  exact k
 ·rw [decide_eq_false (fun e=>e9 (by rw [e]))] at k
  rw [decide_eq_false e9]
  refine Xa0 ?_
  exact k
end
def b8k (y:Lnk):Bool:=decide (y.spend.answers.length ≤ 8) && decide (y.terms.length ≤ 210)
def a9h (h:Hld):Bool:=(h.links.take 6).all b8k && (decide (h.attrs.length ≤ 8) && decide (h.bl.ys.length ≤ 8) && decide (h.links.length ≤ 5))
def b1q (l:List Hld):Bool:=(l.take 7).all a9h && decide (l.length ≤ 6)
section
variable {K:VK} {w w' w0 W W':World} {L:List (Addr × Value)} {rb b:Nat}
theorem c9d (s:Stp) (lims:List Lim) {v lv:Value} (hs:Ints w v s.bases) (hl:b9b w lv lims) (k:∀ w',Bw w w' → K (.bool (decide (s.bases.length ≤ 8) && decide (lims.length ≤ 18))) w'):a0a Tryz.prog 23 #[b1c s v,lv] K w:=by
 apply e7d
 unfold g3i
 obtain ⟨a1,c1,rfl⟩:=hs.isSlice
 obtain ⟨a2,c2,rfl⟩:=hl.isSlice
 refine a1t (cs:=b1o s (.slice a1 s.bases.length c1)) rfl (.start w) fun b1 W hk hb1 hbb=>?_
 have k:=k _ hk.below
 by_cases h:s.bases.length ≤ 8
 ·have hZ:(s.bases.length:Int) ≤ 8:=by omega
  by_cases h2:lims.length ≤ 18
  ·have h2Z:(lims.length:Int) ≤ 18:=by omega
   rw [decide_eq_true h,decide_eq_true h2] at k
   refine Xa (An3 hk.cells @hZ @h2Z) ?_
   exact k
  ·have h2Z:¬ (lims.length:Int) ≤ 18:=by omega
   rw [decide_eq_true h,decide_eq_false h2] at k
   refine Xa (An3 hk.cells @hZ @h2Z) ?_
   exact k
 ·have hZ:¬ (s.bases.length:Int) ≤ 8:=by omega
  rw [decide_eq_false h] at k
  refine Xa (An2 hk.cells @hZ) ?_
  exact k
theorem c0q (x:Hld) {av yv kv:Value} (hx:HldR w x av yv kv) (k:∀ w',Bw w w' → K (.bool (a9h x)) w'):a0a Tryz.prog 13 #[c5v x av yv kv] K w:=by
 apply e7c
 unfold g3h
 obtain ⟨a1,d1,rfl⟩:=hx.attrs.isSlice
 obtain ⟨a2,d2,rfl⟩:=hx.ys.isSlice
 obtain ⟨a3,d3,rfl⟩:=hx.links.isSlice
 have hll:=hx.links.len
 refine a2n (cs:=a6o x (.slice a1 x.attrs.length d1) (.slice a2 x.bl.ys.length d2) (.slice a3 x.links.length d3)) rfl (fun b1 w1 h1 hb1 hB1=>?_)
 have p2:=hB1.cell 2 (by simp)
 have p6:=hB1.cell 6 (by simp)
 have p13:=hB1.cell 13 (by simp)
 simp only [List.getElem_cons_zero,List.getElem_cons_succ] at p2 p6 p13
 refine ⟨fun vs W=>∃ (i:Nat),vs = [.bool false,.int .i64 (i:Int)] ∧ i ≤ x.links.length ∧ i ≤ 6 ∧ (x.links.take i).all b8k = true ∧ Nx w1 W,
  (fun vs _=>match vs with | [_,.int _ i]=>x.links.length - i.toNat | _=>0),⟨0,rfl,by omega,by omega,rfl,bR⟩,?_⟩
 rintro _ _ w2 ⟨i,rfl,hi,hi6,ha,h2⟩
 have p2:=(h2.cell hB1.lt).trans p2
 have p6:=(h2.cell hB1.lt).trans p6
 have p13:=(h2.cell hB1.lt).trans p13
 by_cases hil:i < x.links.length ∧ i < 6
 ·have hi1:(i:Int) < x.links.length:=by omega
  have hi2:(i:Int) ≤ 5:=by omega
  have hL:=hx.links.next (a0l a4i) (h1.on h2)
  obtain ⟨lb,lo,rfl,hlb,cs,hcl,hcc,yv,rfl,hA,hw⟩:=hL.at hil.1
  obtain ⟨e1,n1,rfl⟩:=hA.isSlice
  have hc:=a6d hcc
  have hnext:(x.links.take (i + 1)).all b8k = b8k x.links[i]:=by
   rw [List.take_succ_eq_append_getElem hil.1,List.all_append,ha]; simp
  have bad:b8k x.links[i] = false → K (.bool false) w2:=fun e=>by
   have k:=k _ (h1.on h2)
   have:a9h x = false:=by
    unfold a9h
    rw [Bool.and_eq_false_iff]
    left
    rw [List.all_eq_false]
    refine ⟨x.links[i],?_,by rw [e]; simp⟩
    rw [List.mem_take_iff_getElem]
    exact ⟨i,by omega,rfl⟩
   rwa [this] at k
  by_cases q1:x.links[i].spend.answers.length ≤ 8
  ·have q1Z:¬ (8:Int) < x.links[i].spend.answers.length:=by omega
   by_cases q2:x.links[i].terms.length ≤ 210
   ·have q2Z:¬ (210:Int) < x.links[i].terms.length:=by omega
    refine Xa (An7 @p13 @hi1 @hi2 hc.2.2.2.2.2.2.2.1 hc.2.2.2.2.2.2.2.2 @q1Z @q2Z) ?_
    exact ⟨⟨i + 1,rfl,by omega,by omega,by rw [hnext]; unfold b8k; rw [decide_eq_true q1,decide_eq_true q2]; rfl,h2⟩,by show x.links.length - (((i + 1:Nat):Int)).toNat < x.links.length - ((i:Nat):Int).toNat; omega⟩
   ·have q2Z:(210:Int) < x.links[i].terms.length:=by omega
    have bad:=bad (by unfold b8k; rw [decide_eq_false q2]; simp)
    refine Xa (An7 @p13 @hi1 @hi2 hc.2.2.2.2.2.2.2.1 hc.2.2.2.2.2.2.2.2 @q1Z @q2Z) ?_
    exact bad
  ·have q1Z:(8:Int) < x.links[i].spend.answers.length:=by omega
   have bad:=bad (by unfold b8k; rw [decide_eq_false q1]; rfl)
   refine Xa (An6 @p13 @hi1 @hi2 hc.2.2.2.2.2.2.2.1 hc.2.2.2.2.2.2.2.2 @q1Z) ?_
   exact bad
 ·have e6:(x.links.take 6).all b8k = true:=by
   by_cases h6:i = 6
   ·rw [← h6]; exact ha
   ·have:i = x.links.length:=by omega
    rw [this,List.take_length] at ha
    rw [List.take_of_length_le (by omega)]
    exact ha
  have k2:∀ r,(decide (x.attrs.length ≤ 8) && decide (x.bl.ys.length ≤ 8) && decide (x.links.length ≤ 5)) = r → K (.bool r) w2:=fun r e=>by
   have k:=k _ (h1.on h2)
   unfold a9h at k
   rw [e6,e] at k
   exact k
  have hend:∀ (P:Prop) (t:P) ,P:=fun _ t=>t
  by_cases q1:x.attrs.length ≤ 8
  ·have q1Z:(x.attrs.length:Int) ≤ 8:=by omega
   by_cases q2:x.bl.ys.length ≤ 8
   ·have q2Z:(x.bl.ys.length:Int) ≤ 8:=by omega
    by_cases q3:x.links.length ≤ 5
    ·have q3Z:(x.links.length:Int) ≤ 5:=by omega
     have hi1:¬ (i:Int) < x.links.length:=by omega
     have k2:=k2 _ (by rw [decide_eq_true q1,decide_eq_true q2,decide_eq_true q3])
     refine Xa (An7 @p13 @p2 @p6 @hi1 @q1Z @q2Z @q3Z) ?_
     exact k2
    ·have q3Z:¬ (x.links.length:Int) ≤ 5:=by omega
     have k2:=k2 _ (by rw [decide_eq_true q1,decide_eq_true q2,decide_eq_false q3])
     by_cases hi1:(i:Int) < x.links.length
     ·have hi2:¬ (i:Int) ≤ 5:=by omega
      refine Xa (An8 @p13 @p2 @p6 @hi1 @hi2 @q1Z @q2Z @q3Z) ?_
      exact k2
     ·refine Xa (An7 @p13 @p2 @p6 @hi1 @q1Z @q2Z @q3Z) ?_
      exact k2
   ·have q2Z:¬ (x.bl.ys.length:Int) ≤ 8:=by omega
    have k2:=k2 _ (by rw [decide_eq_true q1,decide_eq_false q2])
    by_cases hi1:(i:Int) < x.links.length
    ·have hi2:¬ (i:Int) ≤ 5:=by omega
     refine Xa (An7 @p13 @p2 @p6 @hi1 @hi2 @q1Z @q2Z) ?_
     exact k2
    ·refine Xa (An6 @p13 @p2 @p6 @hi1 @q1Z @q2Z) ?_
     exact k2
  ·have q1Z:¬ (x.attrs.length:Int) ≤ 8:=by omega
   have k2:=k2 _ (by rw [decide_eq_false q1])
   by_cases hi1:(i:Int) < x.links.length
   ·have hi2:¬ (i:Int) ≤ 5:=by omega
    refine Xa (An6 @p13 @p2 @p6 @hi1 @hi2 @q1Z) ?_
    exact k2
   ·refine Xa (An5 @p13 @p2 @p6 @hi1 @q1Z) ?_
    exact k2
theorem c9e (l:List Hld) {v:Value} (hr:SRow 14 (a9i 14 c2x) w v l) (k:∀ w',Bw w w' → K (.bool (b1q l)) w'):a0a Tryz.prog 24 #[v] K w:=by
 apply e7e
 unfold g3j
 obtain ⟨ad,d,rfl⟩:=hr.isSlice
 have hll:=hr.len
 refine ⟨fun vs W=>∃ (i:Nat),vs = [.bool false,.int .i64 (i:Int)] ∧ i ≤ l.length ∧ i ≤ 7 ∧ (l.take i).all a9h = true ∧ Nx w W,
  (fun vs _=>match vs with | [_,.int _ i]=>l.length - i.toNat | _=>0),⟨0,rfl,by omega,by omega,rfl,bR⟩,?_⟩
 rintro _ _ w2 ⟨i,rfl,hi,hi7,ha,h2⟩
 by_cases hil:i < l.length ∧ i < 7
 ·have hi1:(i:Int) < l.length:=by omega
  have hi2:(i:Int) ≤ 6:=by omega
  have hL:=hr.next (a0l b3t) h2
  obtain ⟨lb,lo,rfl,hlb,cs,hcl,hcc,av,yv,kv,rfl,hH⟩:=hL.at hil.1
  obtain ⟨a1,n1,d1,a2,n2,d2,a3,n3,d3,rfl,rfl,rfl⟩:=a0m hH
  have hnext:(l.take (i + 1)).all a9h = a9h l[i]:=by
   rw [List.take_succ_eq_append_getElem hil.1,List.all_append,ha]; simp
  refine Xa (An2 @hi1 @hi2) ?_
  refine a1l (cs:=a6o l[i] (.slice a1 n1 d1) (.slice a2 n2 d2) (.slice a3 n3 d3)) hcc a3n (by kernel_rfl) (by kernel_rfl) ?_
  refine c0q l[i] hH (fun w3 h3=>?_)
  cases hf:a9h l[i] with
  | true=>
   refine Xa0 ?_
   exact ⟨⟨i + 1,rfl,by omega,by omega,by rw [hnext,hf],h2.on h3⟩,by show l.length - (((i + 1:Nat):Int)).toNat < l.length - ((i:Nat):Int).toNat; omega⟩
  | false=>
   have k:=k _ (h2.on h3)
   have:b1q l = false:=by
    unfold b1q
    rw [Bool.and_eq_false_iff]
    left
    rw [List.all_eq_false]
    refine ⟨l[i],?_,by rw [hf]; simp⟩
    rw [List.mem_take_iff_getElem]
    exact ⟨i,by omega,rfl⟩
   rw [this] at k
   refine Xa0 ?_
   exact k
 ·have e6:(l.take 7).all a9h = true:=by
   by_cases h6:i = 7
   ·rw [← h6]; exact ha
   ·have:i = l.length:=by omega
    rw [this,List.take_length] at ha
    rw [List.take_of_length_le (by omega)]
    exact ha
  have k2:K (.bool (decide (l.length ≤ 6))) w2:=by
   have k:=k _ h2
   unfold b1q at k
   rw [e6] at k
   exact k
  by_cases q3:l.length ≤ 6
  ·have q3Z:(l.length:Int) ≤ 6:=by omega
   have hi1:¬ (i:Int) < l.length:=by omega
   rw [decide_eq_true q3] at k2
   refine Xa (An2 @hi1 @q3Z) ?_
   exact k2
  ·have q3Z:¬ (l.length:Int) ≤ 6:=by omega
   rw [decide_eq_false q3] at k2
   by_cases hi1:(i:Int) < l.length
   ·have hi2:¬ (i:Int) ≤ 6:=by omega
    refine Xa (An3 @hi1 @hi2 @q3Z) ?_
    exact k2
   ·refine Xa (An2 @hi1 @q3Z) ?_
    exact k2
theorem c6m {x:Hld} (h:a9h x = true):b3w x:=by
 unfold a9h at h
 simp only [bA,dE] at h
 obtain ⟨h1,⟨h2,h3⟩,h4⟩:=h
 rw [List.take_of_length_le (by omega),List.all_eq_true] at h1
 refine ⟨by omega,by omega,by omega,fun y hy=>?_⟩
 have:=h1 y hy
 simp only [b8k,bA,dE] at this
 omega
theorem b3x {l:List Hld} (h:b1q l = true):l.length ≤ 6 ∧ ∀ x ∈ l,a9h x = true:=by
 unfold b1q at h
 simp only [bA,dE] at h
 obtain ⟨h1,h2⟩:=h
 rw [List.take_of_length_le (by omega),List.all_eq_true] at h1
 exact ⟨h2,h1⟩
theorem b3y {b p:Nat} {x:Itm} {av yv lv:Value} (h:∀ j u,(b2h x av yv lv)[j]? = some u → w.cell? ⟨b,p + j,none⟩ = some u) :
  ∀ j u,(a6o x.held av yv lv)[j]? = some u → w.cell? ⟨b,p + j,none⟩ = some u:=fun j u hj=>h j u (by
 have:b2h x av yv lv = a6o x.held av yv lv ++ [.int .i64 x.status,.int .i64 x.dare,.bool x.lent,.bool x.back]:=rfl
 rw [this,List.getElem?_append_left (gS hj).1]
 exact hj)
theorem b3z {P:Program} {T T':TypeId} {b p:Nat} {cs:List Value} {d:TypeDesc} {C:WK} {KQ:Value → Prop} (hc:∀ W,C W → ∀ (j:Nat) (v:Value),cs[j]? = some v → W.cell? ⟨b,p + j,none⟩ = some v)
  (hu:P.underlying T = some d) (hd:(match d with | .struct _ | .array _ _=>true | _=>false) = true) (hi:(P.info? T).map (·.size) = some cs.length) (k:KQ (.agg cs.toArray)) :
  oH P (.load T (.tmp 0)) T' [.pointer (some ⟨b,p,none⟩)] C KQ:=
 a2f ⟨_,rfl⟩ (fun W h=>a1l (hc W h) hu hd hi ⟨rfl,rfl⟩) k
end
end Go.Proofs
namespace PuSpec
open FdSpec TkSpec CodeSpec DkSpec JnSpec
variable {s:Stp} {lims:List Lim} {A:Ab} {p:Pst} {all sure:List a0f} {n:Nat}
def a6v (items:List Itm):a0f:=((items.filter fun x=>decide (x.status = 0)).map fun x=>a0r (a4n x.held)).flatten
def a5x (lims:List Lim) (h:Hld):Int:=h.window * (lims.getD h.limit.toNat ⟨0,0,0⟩).length
def b5a (s:Stp) (lims:List Lim) (time:Int):List Hld → Ab → Pst → Int × Ab × Pst
 | [],A,p=>(0,A,p)
 | h :: hs,A,p=>if a5x lims h ≤ time then b5a s lims time hs A p else if (b1f s lims A p h).1 ≠ 0 then b1f s lims A p h else b5a s lims time hs (b1f s lims A p h).2.1 (b1f s lims A p h).2.2
theorem f8p (t:a0f):2 ≤ (a0r t).length:=by
 simp only [a0r,List.length_append,List.length_cons,List.length_nil]; omega
theorem c4c (l:List Hld):(l.map a1d).filter (fun x=>decide (x.status = 0)) = l.map a1d:=by
 rw [List.filter_eq_self]
 intro x hx
 obtain ⟨h,_,rfl⟩:=List.mem_map.1 hx
 rfl
def Apart (l:List Hld):Prop:=l.Pairwise fun a b=>a.t ≠ b.t
theorem d2m {l:List Hld} {t:Tkt} (h:∀ x ∈ l,x.t ≠ t):b6z (l.map a1d) t = false:=by
 simp only [b6z,List.any_map,List.any_eq_false,Function.comp_apply,decide_eq_true_eq]
 exact h
theorem b6q {time:Int}:∀ (hs:List Hld) {A:Ab} {p:Pst} {n:Nat} (l0:List Hld),Up s lims A p sure n → n + hs.length ≤ 50 → (∀ x ∈ hs,WHld x ∧ validM s lims x = true) → p.items = l0.map a1d → Apart (l0 ++ hs) →
  ∃ B q,b5a s lims time hs A p = (0,B,q) ∧ Up s lims B q sure (n + hs.length) ∧ q.items = (l0 ++ hs.filter fun h=>decide (time < a5x lims h)).map a1d
 | [],A,p,n,l0,h,_,_,hi,_=>⟨A,p,rfl,h,by simpa using hi⟩
 | x :: hs,A,p,n,l0,h,hn,hw,hi,ha=>by
  simp only [List.length_cons] at hn
  rw [b5a]
  by_cases ht:a5x lims x ≤ time
  ·rw [if_pos ht]
   have u':Up s lims A p sure (n + 1):={ h with cnt:=by have:=h.cnt; omega }
   have ha':Apart (l0 ++ hs):=ha.sublist ((List.Sublist.refl l0).append (List.sublist_cons_self x hs))
   obtain ⟨B,q,f1,f2,f3⟩:=b6q hs l0 u' (by omega) (fun y hy=>hw y (by simp [hy])) hi ha'
   refine ⟨B,q,f1,by rw [List.length_cons,show n + (hs.length + 1) = n + 1 + hs.length by omega]; exact f2,?_⟩
   rw [f3,List.filter_cons_of_neg (by simpa using Int.not_lt.mpr ht)]
  ·rw [if_neg ht]
   obtain ⟨wx,vx⟩:=hw x (by simp)
   have hne:∀ y ∈ l0,y.t ≠ x.t:=fun y hy=>by
    have:=List.pairwise_append.1 ha
    exact this.2.2 y hy x (by simp)
   rcases h.add (by omega) wx with ⟨e1,_,_⟩ | ⟨_,B,q,e2,e3,_,_,u⟩
   ·exfalso
    apply e1
    unfold a5h
    rw [if_neg (by simp [vx]),if_neg (by rw [hi,d2m hne]; simp),if_neg (by have:=h.items; have:=h.cnt; omega)]
   ·rw [e2,if_neg (by simp)]
    have ha':Apart ((l0 ++ [x]) ++ hs):=by rw [List.append_assoc]; exact ha
    obtain ⟨C,r,f1,f2,f3⟩:=b6q hs (l0 ++ [x]) u (by omega) (fun y hy=>hw y (by simp [hy])) (by rw [e3,hi]; simp) ha'
    refine ⟨C,r,f1,by rw [List.length_cons,show n + (hs.length + 1) = n + 1 + hs.length by omega]; exact f2,?_⟩
    rw [f3,List.filter_cons_of_pos (by simpa using Int.not_le.mp ht),List.append_assoc]
    rfl
theorem d2n {limit now:Int} {x:Itm} (hf:a3o lims limit now x = true) (hl:0 ≤ limit ∧ limit < lims.length) (hn:a2i now = true) (hv:a7m lims = true):a5x lims x.held ≤ now:=by
 simp only [a3o,Bool.and_eq_true,decide_eq_true_eq] at hf
 have hm:c1h (lims.getD limit.toNat ⟨0,0,0⟩) = true:=by
  simp only [a7m,Bool.and_eq_true,Bool.not_eq_true',List.any_eq_false,decide_eq_true_eq] at hv
  have hi:limit.toNat < lims.length:=by omega
  have:=hv.2 lims[limit.toNat] (List.getElem_mem hi)
  rw [List.getD_eq_getElem?_getD,List.getElem?_eq_getElem hi,Option.getD_some]
  simpa using this
 obtain ⟨n0,n1⟩:=(a2t now).1 hn
 have w:=c1c _ now now 0 hm n0 n1 (Int.le_refl _)
 unfold a5x
 rw [hf.1.2,hf.2]
 generalize lims.getD limit.toNat ⟨0,0,0⟩ = L at *
 rw [b0u hm hn] at *
 obtain ⟨l0,l1⟩:=b5r hm
 split
 ·omega
 ·rename_i hz
  exact Int.ediv_mul_le now hz
end PuSpec
namespace PuSpec
open FdSpec TkSpec CodeSpec DkSpec JnSpec
variable {s:Stp} {lims:List Lim} {A:Ab} {p:Pst} {all sure:List a0f} {n:Nat}
structure OpM where
 kind:Int
 a:Int
 b:Int
 c:Int
 held:Hld
 next:Tkt
 terms:a0f
 keep:List Int
def c2t (s:Stp) (lims:List Lim) (A:Ab) (p:Pst) (o:OpM):Int × Ab × Pst:=
 if o.kind = 1 then ((a0s s lims A p o.a o.b o.c).1.2,(a0s s lims A p o.a o.b o.c).2)
 else if o.kind = 2 then ((a4a s lims A p o.a o.b o.next o.terms).1.2.2,(a4a s lims A p o.a o.b o.next o.terms).2)
 else if o.kind = 3 then a2m A p o.a 2
 else if o.kind = 4 then a2m A p o.a 4
 else (0,A,p)
theorem d9t (h:Up s lims A p sure n) (hn:n ≤ 50) (limit now:Int) (next:Tkt) (terms:a0f) :
  (a4a s lims A p limit now next terms).1.2.2 ≠ 8 ∧ (a4a s lims A p limit now next terms).1.2.2 ≠ 9:=by
 by_cases h0:(a4a s lims A p limit now next terms).1.2.2 = 0
 ·rw [h0]; decide
 ·have hc:=b6y (lims:=lims) p.items limit now
  unfold a4a at h0 ⊢
  by_cases h2:(a0i lims p.items limit now).2 = 0
  ·rw [if_neg (by simp [h2])] at h0 ⊢
   obtain ⟨x,hx,hf,l1,l2,l3⟩:=a6w h2
   rw [hx] at h0 ⊢
   dsimp only at h0 ⊢
   split at h0
   ·rename_i h3; rw [if_pos h3]; exact ⟨show (2:Int) ≠ 8 by decide,show (2:Int) ≠ 9 by decide⟩
   ·rename_i h3
    rw [if_neg h3]
    split at h0
    ·rename_i h4; rw [if_pos h4]; exact ⟨show (6:Int) ≠ 8 by decide,show (6:Int) ≠ 9 by decide⟩
    ·rename_i h4
     have r:=b1v h.vs next terms
     have g:=(b3d h.vs).1
     obtain ⟨B,q,ek,ei,u⟩:=h.keep hn hx (b3b hf) (kind:=3) (.inr rfl) (dare:=a5f s next terms) r.1 r.2 ⟨by omega,by have:=g.q1; omega⟩
     rw [ek,if_neg (by simp)] at h0
     exact absurd rfl h0
  ·rw [if_pos h2]
   dsimp only
   rcases hc with e | e | e <;> rw [e] <;> decide
theorem c4d (h:Up s lims A p sure n) (hn:n ≤ 50) (limit now dare:Int) (hr:InR dare) :
  (a0s s lims A p limit now dare).1.2 ≠ 8 ∧ (a0s s lims A p limit now dare).1.2 ≠ 9:=by
 have hc:=b6y (lims:=lims) p.items limit now
 unfold a0s
 split
 ·exact ⟨show (1:Int) ≠ 8 by decide,show (1:Int) ≠ 9 by decide⟩
 ·rename_i h1
  by_cases h2:(a0i lims p.items limit now).2 = 0
  ·rw [if_neg (by simp [h2])]
   obtain ⟨x,hx,hf,l1,l2,l3⟩:=a6w h2
   obtain ⟨B,q,ek,ei,u⟩:=h.keep hn hx (b3b hf) (kind:=1) (.inl rfl) (dare:=dare) (by omega) (by omega) hr
   rw [ek,if_neg (by simp)]
   exact ⟨show (0:Int) ≠ 8 by decide,show (0:Int) ≠ 9 by decide⟩
  ·rw [if_pos h2]
   dsimp only
   rcases hc with e | e | e <;> rw [e] <;> decide
theorem c1d (h:Up s lims A p sure n) (hs:sure = p.j.recs) (nb:∀ x ∈ p.items,x.status ≠ 3):Dur s lims p sure:=by
 obtain ⟨rj,h1,h2,_⟩:=a7u h.inv
 exact ⟨⟨rj,by rw [hs]; exact h1,by rw [h2.1]; exact Nat.le_refl _⟩,nb⟩
theorem d9u {l:List Itm} (h:∀ x ∈ l,x.status ≠ 3) (i:Nat) {y:Itm} (hy:y.status ≠ 3):∀ x ∈ l.set i y,x.status ≠ 3:=by
 intro x hx
 rcases List.mem_or_eq_of_mem_set hx with hx | rfl
 ·exact h x hx
 ·exact hy
theorem d9v (h:Up s lims A p sure n) (hn:n ≤ 50) (d:Dur s lims p sure) (o:OpM) (hr:InR o.c) (ha:InR o.a) :
  (c2t s lims A p o).1 ≠ 8 ∧ (c2t s lims A p o).1 ≠ 9 ∧ (c2t s lims A p o).2.2.items.length = p.items.length ∧
   ∃ sure',Up s lims (c2t s lims A p o).2.1 (c2t s lims A p o).2.2 sure' (n + 1) ∧ Dur s lims (c2t s lims A p o).2.2 sure':=by
 have same:∃ sure',Up s lims A p sure' (n + 1) ∧ Dur s lims p sure':=⟨sure,{ h with cnt:=by have:=h.cnt; omega },d⟩
 unfold c2t
 split
 ·obtain ⟨r1,r2⟩:=c4d h hn o.a o.b o.c hr
  obtain ⟨_,k2,k3⟩:=d0k h hn o.a o.b o.c hr
  refine ⟨r1,r2,?_⟩
  dsimp only
  by_cases h0:(a0s s lims A p o.a o.b o.c).1.2 = 0
  ·obtain ⟨_,_,x,hx,hf,hs,hi,_,u⟩:=k3 h0
   refine ⟨by rw [hi]; simp,_,u,c1d u rfl ?_⟩
   rw [hi]
   exact d9u d.nb _ (show (1:Int) ≠ 3 by decide)
  ·rw [k2 h0]; exact ⟨rfl,same⟩
 ·split
  ·obtain ⟨r1,r2⟩:=d9t h hn o.a o.b o.next o.terms
   obtain ⟨k2,k3⟩:=d0l h hn o.a o.b o.next o.terms
   refine ⟨r1,r2,?_⟩
   dsimp only
   by_cases h0:(a4a s lims A p o.a o.b o.next o.terms).1.2.2 = 0
   ·obtain ⟨x,hx,hf,hs,_,_,_,_,_,hi,_,u⟩:=k3 h0
    refine ⟨by rw [hi]; simp,_,u,c1d u rfl ?_⟩
    rw [hi]
    exact d9u d.nb _ (show (1:Int) ≠ 3 by decide)
   ·rw [(k2 h0).2]; exact ⟨rfl,same⟩
  ·have note:∀ kind,kind = 2 ∨ kind = 4 → (a2m A p o.a kind).1 ≠ 8 ∧ (a2m A p o.a kind).1 ≠ 9 ∧ (a2m A p o.a kind).2.2.items.length = p.items.length ∧
     ∃ sure',Up s lims (a2m A p o.a kind).2.1 (a2m A p o.a kind).2.2 sure' (n + 1) ∧ Dur s lims (a2m A p o.a kind).2.2 sure':=by
    intro kind hk
    rcases h.note hn hk ha with ⟨e1,e2,e3⟩ | ⟨e1,_,x,y,hx,hy,hi,u⟩
    ·refine ⟨by omega,by omega,by rw [e2],by rw [e2]; exact same⟩
    ·refine ⟨by omega,by omega,by rw [hi]; simp,sure,u,?_,?_⟩
     ·obtain ⟨rs,h1,h2⟩:=d.many
      exact ⟨rs,h1,by rw [hi,List.length_set]; exact h2⟩
     ·rw [hi]
      refine d9u d.nb _ ?_
      have nx:=d.nb x (List.mem_of_getElem? hx)
      unfold a7t at hy
      split at hy
      ·cases hy; exact (show (2:Int) ≠ 3 by decide)
      ·split at hy
       ·cases hy; exact nx
       ·cases hy
   split
   ·exact note 2 (.inl rfl)
   ·split
    ·exact note 4 (.inr rfl)
    ·exact ⟨show (0:Int) ≠ 8 by decide,show (0:Int) ≠ 9 by decide,rfl,same⟩
theorem f8q (h:Up s lims A p sure n) (hn:n ≤ 50) {time:Int} (o:OpM) (hr:InR o.c) (hk:o.kind = 1 ∨ o.kind = 2) (hb:o.b ≤ time) :
  (c2t s lims A p o).2.2.items.length = p.items.length ∧ ∀ (i:Nat) (x:Itm),p.items[i]? = some x → (∃ y,(c2t s lims A p o).2.2.items[i]? = some y ∧ y.held = x.held ∧ (time < a5x lims x.held → y = x)):=by
 have key:∀ (k:Nat) (x y:Itm) (limit:Int),p.items[k]? = some x → a3o lims limit o.b x = true → 0 ≤ limit ∧ limit < lims.length → a2i o.b = true → y.held = x.held →
   ∀ (i:Nat) (z:Itm),p.items[i]? = some z → ∃ u,(p.items.set k y)[i]? = some u ∧ u.held = z.held ∧ (time < a5x lims z.held → u = z):=by
  intro k x y limit hx hf hl ht hy i z hz
  rw [List.getElem?_set]
  by_cases hi:k = i
  ·subst hi
   rw [hx] at hz
   cases hz
   have:=(List.getElem?_eq_some_iff.1 hx).1
   rw [if_pos rfl,if_pos this]
   refine ⟨y,rfl,hy,fun hst=>?_⟩
   have:=d2n hf hl ht h.vl
   omega
  ·rw [if_neg hi]
   exact ⟨z,hz,rfl,fun _=>rfl⟩
 have id':∀ (i:Nat) (x:Itm),p.items[i]? = some x → ∃ y,p.items[i]? = some y ∧ y.held = x.held ∧ (time < a5x lims x.held → y = x):=fun i x hx=>⟨x,hx,rfl,fun _=>rfl⟩
 have tb:∀ limit,(a0i lims p.items limit o.b).2 = 0 → a2i o.b = true:=fun limit hc=>by
  obtain ⟨_,_,_,_,_,t⟩:=a6w hc
  exact t
 unfold c2t
 rcases hk with hk | hk
 ·rw [if_pos hk]
  obtain ⟨k1,k2,k3⟩:=d0k h hn o.a o.b o.c hr
  dsimp only
  by_cases h0:(a0s s lims A p o.a o.b o.c).1.2 = 0
  ·obtain ⟨l1,l2,x,hx,hf,hs,hi,_,u⟩:=k3 h0
   rw [hi]
   have ht:=tb o.a ((b1w p.items o.a o.b).2.1 (k1.1 h0).1)
   exact ⟨by simp,key _ x _ o.a hx hf ⟨l1,l2⟩ ht rfl⟩
  ·rw [k2 h0]; exact ⟨rfl,id'⟩
 ·rw [if_neg (by omega),if_pos hk]
  obtain ⟨k2,k3⟩:=d0l h hn o.a o.b o.next o.terms
  dsimp only
  by_cases h0:(a4a s lims A p o.a o.b o.next o.terms).1.2.2 = 0
  ·obtain ⟨x,hx,hf,hs,l1,l2,_,_,_,hi,_,u⟩:=k3 h0
   rw [hi]
   have hpos:0 < a9t lims p.items o.a o.b:=by
    unfold a9t
    have ht:a2i o.b = true:=by
     cases ht:a2i o.b with
     | true=>rfl
     | false=>
      exfalso
      unfold a4a at h0
      have hc1:(a0i lims p.items o.a o.b).2 = 1:=by unfold a0i; rw [if_pos (by simp [ht])]
      rw [if_pos (by rw [hc1]; decide)] at h0
      dsimp only at h0
      omega
    rw [if_neg (by simp only [ht,Bool.not_true,Bool.or_false,Bool.or_eq_true,decide_eq_true_eq]; omega)]
    have:=List.length_pos_of_mem (List.mem_filter.2 ⟨List.mem_of_getElem? hx,hf⟩)
    omega
   have ht:=tb o.a ((b1w p.items o.a o.b).2.1 hpos)
   exact ⟨by simp,key _ x _ o.a hx hf ⟨l1,l2⟩ ht rfl⟩
  ·rw [(k2 h0).2]; exact ⟨rfl,id'⟩
end PuSpec
namespace PuSpec
open FdSpec TkSpec CodeSpec DkSpec JnSpec
variable {s:Stp} {lims:List Lim} {A:Ab} {p:Pst} {all sure:List a0f}
def e9q (s:Stp) (lims:List Lim) (A:Ab) (p:Pst) (o:OpM):(List Lnk × Int) × Ab × Pst:=
 if o.kind = 1 then (([],(a0s s lims A p o.a o.b o.c).1.2),(a0s s lims A p o.a o.b o.c).2)
 else if o.kind = 2 then ((a4a s lims A p o.a o.b o.next o.terms).1.2,(a4a s lims A p o.a o.b o.next o.terms).2)
 else if o.kind = 3 then (([],(a2m A p o.a 2).1),(a2m A p o.a 2).2)
 else if o.kind = 4 then (([],(a2m A p o.a 4).1),(a2m A p o.a 4).2)
 else if o.kind = 5 ∨ o.kind = 6 ∨ o.kind = 7 ∨ o.kind = 8 then (([],0),A,p)
 else (([],(b1f s lims A p o.held).1),(b1f s lims A p o.held).2)
end PuSpec
namespace PuSpec
open FdSpec TkSpec CodeSpec DkSpec JnSpec
variable {s:Stp} {lims:List Lim} {A:Ab} {p:Pst} {all sure:List a0f} {n:Nat}
theorem Up.dsync (h:Up s lims A p sure n):(a2r A 0).1 = 0 ∧ Up s lims (a2r A 0).2 p p.j.recs n:=by
 obtain ⟨B,e,u,l⟩:=h.u.sync_rec h.live b6v h.nb
 unfold a5n at e
 rw [if_neg (by rw [h.nb]; simp)] at e
 have e1:(a2r A 0).1 = 0:=congrArg (fun x=>x.1) e
 have e2:(a2r A 0).2 = B:=congrArg (fun x=>x.2.1) e
 rw [e2]
 obtain ⟨rj,h1,h2⟩:=h.inv.live
 exact ⟨e1,u,⟨.inl ⟨h.nb,l⟩,h.inv.all,⟨rj,h1,h2⟩,b9w h1 h2⟩,h.nb,h.cnt,h.vs,h.vl,h.items⟩
theorem d9x {l:List Hld} {t:Tkt} (h:b6z (l.map a1d) t = false):∀ x ∈ l,x.t ≠ t:=by
 simp only [b6z,List.any_map,List.any_eq_false,Function.comp_apply,decide_eq_true_eq] at h
 exact h
theorem b4g:∀ (hs:List Hld) {A:Ab} {p:Pst} {n:Nat} (l0:List Hld),Up s lims A p sure n → n + hs.length ≤ 50 → (∀ x ∈ hs,WHld x) → p.items = l0.map a1d → (∀ x ∈ l0,validM s lims x = true) → Apart l0 →
  ∃ B q l,b6w s lims hs A p = some (B,q) ∧ Up s lims B q sure (n + hs.length) ∧ q.items = l.map a1d ∧ (∀ x ∈ l,x ∈ hs ∨ x ∈ l0) ∧ (∀ x ∈ l,validM s lims x = true) ∧ Apart l
 | [],A,p,n,l0,h,_,_,hi,hv,ha=>⟨A,p,l0,rfl,h,hi,fun x hx=>.inr hx,hv,ha⟩
 | x :: hs,A,p,n,l0,h,hn,hw,hi,hv,ha=>by
  simp only [List.length_cons] at hn
  rcases h.add (by omega) (hw x (by simp)) with ⟨e1,e2,e3⟩ | ⟨e1,B,q,e2,e3,e4,e5,u⟩
  ·have u':Up s lims A p sure (n + 1):={ h with cnt:=by have:=h.cnt; omega }
   obtain ⟨B,q,l,f1,f2,f3,f4,f5,f6⟩:=b4g hs l0 u' (by omega) (fun y hy=>hw y (by simp [hy])) hi hv ha
   refine ⟨B,q,l,?_,?_,f3,fun y hy=>(f4 y hy).imp (fun h=>by simp [h]) id,f5,f6⟩
   ·rw [b6w,e2,if_pos (by rcases e3 with e | e <;> rw [e] <;> simp)]
    exact f1
   ·rw [List.length_cons,show n + (hs.length + 1) = n + 1 + hs.length by omega]; exact f2
  ·have hne:=d9x (by rw [← hi]; exact e5)
   obtain ⟨C,r,l,f1,f2,f3,f4,f5,f6⟩:=b4g hs (l0 ++ [x]) u (by omega) (fun y hy=>hw y (by simp [hy])) (by rw [e3,hi]; simp)
    (fun y hy=>(List.mem_append.1 hy).elim (hv y) (fun h=>by simp only [List.mem_singleton] at h; subst h; exact e4))
    (by
     refine List.pairwise_append.2 ⟨ha,by simp,fun y hy z hz=>?_⟩
     simp only [List.mem_singleton] at hz
     subst hz
     exact hne y hy)
   refine ⟨C,r,l,?_,?_,f3,fun y hy=>?_,f5,f6⟩
   ·rw [b6w,e2,if_pos (by simp)]
    exact f1
   ·rw [List.length_cons,show n + (hs.length + 1) = n + 1 + hs.length by omega]; exact f2
   ·rcases f4 y hy with h1 | h1
    ·exact .inl (by simp [h1])
    ·rcases List.mem_append.1 h1 with h1 | h1
     ·exact .inr h1
     ·simp only [List.mem_singleton] at h1
      exact .inl (by simp [h1])
structure Fresh0 (s:Stp) (lims:List Lim) (hs:List Hld) (p:Pst) (l:List Hld):Prop where
 items:p.items = l.map a1d
 mem:∀ x ∈ l,x ∈ hs
 valid:∀ x ∈ l,validM s lims x = true
 apart:Apart l
theorem c4m {hs:List Hld} (hv:a1o s = true) (hl:a7m lims = true) (hw:∀ x ∈ hs,WHld x) (hn:hs.length ≤ 6) :
  ∃ B0 B q l,a8j s lims b9h = (some ⟨⟨[],0,false⟩,[]⟩,0,B0) ∧ b6w s lims hs B0 ⟨⟨[],0,false⟩,[]⟩ = some (B,q) ∧ Up s lims (a2r B 0).2 q q.j.recs 6 ∧ Fresh0 s lims hs q l:=by
 obtain ⟨B0,e,u⟩:=b6x hv hl
 obtain ⟨B,q,l,f1,f2,f3,f4,f5,f6⟩:=b4g hs [] u (by omega) hw rfl (by simp) List.Pairwise.nil
 have f2':Up s lims B q [] 6:={ f2 with cnt:=by have:=f2.cnt; omega }
 exact ⟨B0,B,q,l,e,f1,f2'.dsync.2,f3,fun x hx=>(f4 x hx).elim id (fun h=>by cases h),f5,f6⟩
theorem d9y {A:Ab} (h:a1o s = false ∨ a7m lims = false):a8j s lims A = (none,1,A):=by
 unfold a8j
 rw [if_pos (by rcases h with h | h <;> simp [h])]
end PuSpec
namespace Go.Proofs
open Go Go.Sh Go.RowKit FdSpec TkSpec CodeSpec PuSpec DkSpec JnSpec
section
variable {K:VK} {w w' w0 W W':World} {L:List (Addr × Value)} {rb b:Nat} {s:Stp} {lims:List Lim} {p p':Ph} {A:Ab} {P:Pst}
theorem d1o {T:TypeId} (b:Nat) (k:K (.bool false) w):oM Tryz.prog (Go.Op.binOp Go.BinOp.eql 55 (.tmp 0) (.const (.pointer none)) 55) T [.pointer (some ⟨b,0,none⟩)] K w:=by
 refine Xa0 ?_
 exact k
theorem d4a {T:TypeId} (k:K (.bool true) w):oM Tryz.prog (Go.Op.binOp Go.BinOp.eql 56 (.tmp 0) (.const (.pointer none)) 56) T [.pointer none] K w:=by
 refine Xa0 ?_
 exact k
theorem PuR.dstep {A':Ab} {h':Dk} (hP:PuR s lims w0 w p A P) (d:IsDk w' p.b A' h') (t:Step w p.b p.h w' h') :
  PuR s lims w0 w' { p with h:=h',u:=p.u } A' P ∧ PuSt p w { p with h:=h',u:=p.u } w':=by
 have:=hP.jour (s':=hP.sys.step d t) (jn':=hP.jn.step t) (JSt.of_step t)
 exact this
theorem e3y {hs:List Hld} {v:Value} (hr:SRow 14 (a9i 14 c2x) w v hs) {i:Nat} (hi:i < hs.length):∃ b o d av yv kv,v = .slice (some ⟨b,o,none⟩) hs.length d ∧ b < w.heap.size ∧ (∀ j u,(a6o hs[i] av yv kv)[j]? = some u → w.cell? ⟨b,o + i * 14 + j,none⟩ = some u) ∧ HldR w hs[i] av yv kv:=by
 obtain ⟨ad,d,rfl⟩:=hr.isSlice
 obtain ⟨b,o,rfl,hb,cs,hcl,hcc,av,yv,kv,rfl,hH⟩:=hr.at hi
 exact ⟨b,o,d,av,yv,kv,rfl,hb,hcc,hH⟩
set_option maxHeartbeats 4000000 in
theorem e3z (hl:Cd.LaidE w) {bv lv v:Value} {hs:List Hld} (hset:SetR w s bv) (hlim:b9b w lv lims) (hr:SRow 14 (a9i 14 c2x) w v hs) (hfew:b1q hs = true) (hw:∀ x ∈ hs,WHld x)
  (k0:(a1o s = false ∨ a7m lims = false) → ∀ w' d,Bw w w' → K (.tuple #[dkP d,.pointer none]) w')
  (k1:∀ w' p A P l,PuR s lims w w' p A P → Up s lims A P P.j.recs 6 → Fresh0 s lims hs P l → K (.tuple #[dkP p.b,.pointer (some ⟨p.pb,0,none⟩)]) w') :
  a0a Tryz.prog 25 #[b1c s bv,lv,v] K w:=by
 apply e7f
 unfold g3k
 obtain ⟨hn,hall⟩:=b3x hfew
 obtain ⟨ad,c,rfl⟩:=hset.ints.isSlice
 obtain ⟨had,hc,rfl⟩:=hr.isSlice
 refine a2n (cs:=b1o s (.slice ad s.bases.length c)) rfl (fun b1 w1 h1 hb1 hB1=>?_)
 refine d8s (fun w2 d dk hd2 f2 ho2 hr2=>?_)
 have h2:Bw w1 w2:=⟨f2.os,f2.tape,f2.output,f2.size,fun i hi=>f2.block i hi id⟩
 have h02:=h1.on h2
 have hw8:=hl.size
 have s2:Sys w2 d b9h dk:=⟨hd2,hl.below h02 hl.size,fun i hi=>by have:=ho2 i hi; have:=h1.size; omega⟩
 have hB2:=hB1.next h2
 refine d1o d ?_
 refine a8w ?_
 refine a1s hB2 b8j (by kernel_rfl) (by kernel_rfl) ?_
 have hsl:FP (fun i=>i < w.heap.size) w2 (fun W=>SetR W s (.slice ad s.bases.length c) ∧ b9b W lv lims):=
  (FP.of_stay (p:=fun W=>SetR W s (.slice ad s.bases.length c) ∧ b9b W lv lims) ⟨hset,hlim⟩ (fun W hb h=>⟨h.1.next hb,h.2.next (a0l a2k) hb⟩)).next h02 (fun i hi=>hi)
 refine c2o (w0:=w) hl.size h02 s2 (fun i hi=>by
  rcases hi with hi | hi
  ·have:=ho2 i hi; have:=h1.size; omega
  ·exact absurd hi (hr2 i)) (fun i hi=>⟨by have:=h02.size; omega,fun e=>by have:=ho2 i e; have:=h1.size; omega⟩) hsl (fun w3 dk3 r3 s3 t3 o3=>?_)
 by_cases hbad:a1o s = false ∨ a7m lims = false
 ·have k0:=k0 hbad
  rw [d9y hbad] at o3 ⊢
  have hz:r3 = .pointer none:=o3
  subst hz
  have h03:Bw w w3:=h02.trans ⟨t3.fr.os,t3.fr.tape,t3.fr.output,t3.fr.size,fun i hi=>t3.fr.block i (by have:=h02.size; omega) (fun e=>by have:=ho2 i e; have:=h1.size; omega)⟩
  have k0:=k0 w3 d h03
  refine Xa0 ?_
  exact k0
 ·have hvs:a1o s = true:=by cases h:a1o s with | true=>rfl | false=>exact absurd (.inl h) hbad
  have hvl:a7m lims = true:=by cases h:a7m lims with | true=>rfl | false=>exact absurd (.inr h) hbad
  obtain ⟨B0,B,q,l,e0,e1,hup,hfr⟩:=c4m hvs hvl hw hn
  rw [e0] at s3 o3 ⊢
  obtain ⟨p0,hpb,hph,rfl,hP,-⟩:=o3
  refine Xa0 ?_
  refine b0k p0.pb ?_
  refine Xa0 ?_
  refine ⟨fun vs W=>∃ (e:Value) (i:Nat) (p:Ph) (A:Ab) (P:Pst),vs = [e,.pointer none,.pointer none,.int .i64 (i:Int)] ∧ i ≤ hs.length ∧ PuR s lims w W p A P ∧ p.pb = p0.pb ∧ p.b = p0.b ∧ b6w s lims (hs.drop i) A P = some (B,q),
   (fun vs _=>match vs with | [_,_,_,.int _ i]=>hs.length - i.toNat | _=>0),⟨_,0,p0,_,_,rfl,by omega,hP,rfl,rfl,e1⟩,?_⟩
  rintro _ _ w4 ⟨e,i,p,A,P,rfl,hi,hP4,epb,eb,hadd⟩
  by_cases hin:i = hs.length
  ·subst hin
   rw [List.drop_length] at hadd
   cases hadd
   refine Xa0 ?_
   have hd4:=hP4.sys.d
   rw [← hpb,← eb]
   refine c7g hd4 0 (fun w5 h5 d5 t5=>?_)
   obtain ⟨hP5,_⟩:=hP4.dstep d5 t5
   have k1:=k1 w5 _ _ _ l hP5 hup hfr
   rw [← epb]
   refine Xa0 ?_
   exact k1
  ·have hil:i < hs.length:=by omega
   have hiZ:(i:Int) < hs.length:=by omega
   obtain ⟨hb,ho,d',av,yv,kv,hv,hbl,hcc,hH⟩:=e3y hr hil
   cases hv
   have hcell:=fun j u (hj:(a6o hs[i] av yv kv)[j]? = some u)=>(hP4.bl.cell hbl).trans (hcc j u hj)
   have hFP:FP (fun j=>j < w.heap.size) w4 (fun W=>HldR W hs[i] av yv kv):=(FP.of_stay (p:=fun W=>HldR W hs[i] av yv kv) hH (fun W hb h=>h.next hb)).next hP4.bl (fun i hi=>hi)
   obtain ⟨a1,n1,d1,a2,n2,d2,a3,n3,d3,rfl,rfl,rfl⟩:=a0m hH
   refine Xa @hiZ ?_
   refine a1l (cs:=a6o hs[i] (.slice a1 n1 d1) (.slice a2 n2 d2) (.slice a3 n3 d3)) hcell a3n (by kernel_rfl) (by kernel_rfl) ?_
   rw [← epb]
   refine c2p hP4 hs[i] (D:=fun j=>j < w.heap.size) (fun j hj=>⟨by have:=hP4.bl.size; omega,fun e=>by have:=hP4.yg j e; omega⟩) hFP (fun w5 p5 hP5 t5 ⟨epb5,eb5⟩=>?_)
   rw [List.drop_eq_getElem_cons hil,b6w] at hadd
   by_cases hok:(b1f s lims A P hs[i]).1 = 0 ∨ (b1f s lims A P hs[i]).1 = 1 ∨ (b1f s lims A P hs[i]).1 = 5
   ·rw [if_pos hok] at hadd
    generalize b1f s lims A P hs[i] = r at *
    obtain ⟨re,rA,rP⟩:=r
    simp only at *
    rcases hok with rfl | rfl | rfl
    ·refine Xa0 ?_
     exact ⟨⟨_,i + 1,p5,rA,rP,rfl,by omega,hP5,epb5,eb5.trans eb,hadd⟩,by show hs.length - (((i + 1:Nat):Int)).toNat < hs.length - ((i:Nat):Int).toNat; omega⟩
    ·refine Xa0 ?_
     exact ⟨⟨_,i + 1,p5,rA,rP,rfl,by omega,hP5,epb5,eb5.trans eb,hadd⟩,by show hs.length - (((i + 1:Nat):Int)).toNat < hs.length - ((i:Nat):Int).toNat; omega⟩
    ·refine Xa0 ?_
     exact ⟨⟨_,i + 1,p5,rA,rP,rfl,by omega,hP5,epb5,eb5.trans eb,hadd⟩,by show hs.length - (((i + 1:Nat):Int)).toNat < hs.length - ((i:Nat):Int).toNat; omega⟩
   ·rw [if_neg hok] at hadd
    cases hadd
theorem g0q {hs:List Hld} {v:Value} (hr:SRow 14 (a9i 14 c2x) w v hs):∀ x ∈ hs,WHld x:=by
 intro x hx
 obtain ⟨i,hi,rfl⟩:=List.mem_iff_getElem.1 hx
 obtain ⟨_,_,_,_,_,_,_,_,_,hH⟩:=e3y hr hi
 exact hH.wf
theorem c6n {hs:List Hld} {l:List Hld} (hF:Fresh0 s lims hs P l) (hfew:b1q hs = true):∀ x ∈ P.items,b3w x.held:=by
 intro x hx
 rw [hF.items] at hx
 obtain ⟨y,hy,rfl⟩:=List.mem_map.1 hx
 exact c6m ((b3x hfew).2 y (hF.mem y hy))
end
end Go.Proofs
namespace Go.Proofs
open Go.Sh Tryz
variable {a0 a1 a2 a3 a4:Value} {K:VK} {w:World}
def g2j (a0 a1 a2:Value) (K:VK) (w:World):Prop:=
 a0a prog 107 #[a0,a1] (fun v14=>
 kE 0 187 v14 fun v15=>
 kE 1 4 v14 fun v16=>
 kU v16 fun v18=>
 kO v18 (K (.int .i64 4))
 (oM prog (.nilCheck (.tmp 0)) 0 [v15] fun v20=>
 kL 67 v20 fun v21=>
 kA 67 fun v9=>
 kS 67 v9 v21 fun _=>
 oM prog (.nilCheck (.tmp 0)) 0 [a0] fun v23=>
 kF 136 0 v23 fun v24=>
 a0a prog 134 #[v24,v9,a2,(.int .i64 0)] fun v26=>
 kU v26 fun v27=>
 kO v27 (K (.int .i64 7))
 (kH fun C_12 w=>(((true:Bool) = true) ∧ (a0d a0 C_12 fun v28=>
 oH prog (.nilCheck (.tmp 0)) 0 [v28] C_12 fun v29=>
 jF 136 1 v29 C_12 fun v30=>
 jL 134 v30 C_12 fun v31=>
 a0d a2 C_12 fun v32=>
 a0d a1 C_12 fun v33=>
 ∃ S_19:World → WK,xR S_19 fun R_20=>
 (∀ w,C_12 w → (oM prog (.buildSlice 22 2 #[(0,(.tmp 0)),(1,(.tmp 1))]) 22 [v32,v33] (xK C_12 S_19 R_20 w) w)) ∧
 (xR S_19 fun R_21=>
 (∀ w,C_12 w → ∀ v34,R_20 v34 w → (a0a prog 61 #[v34] (xK C_12 S_19 R_21 w) w)) ∧
 (∀ w,C_12 w → ∀ v34,R_20 v34 w → ∀ v35,R_21 v35 w → (
 a0a prog 106 #[v31,v35] (fun v36=>
 kC .neq 62 0 4 v36 fun v38=>
 kO v38 (K v36)
 (kL 67 v9 fun v41=>
 oM prog (.nilCheck (.tmp 0)) 0 [v15] fun v42=>
 kS 67 v42 v41 fun _=>
 K (.int .i64 0))) w)))))))) w
theorem e6e (h:g2j a0 a1 a2 K w):a0a prog 95 #[a0,a1,a2] K w:=
 cZ (fun _=>(fz 6 2 2)) func95 h
def g2k (a0 a1:Value) (K:VK) (w:World):Prop:=
 a0a prog 95 #[a0,a1,(.int .i64 4)] (fun v7=>
 K v7) w
theorem e6f (h:g2k a0 a1 K w):a0a prog 46 #[a0,a1] K w:=
 cZ (fun _=>0) func46 h
def g2l (a0 a1:Value) (K:VK) (w:World):Prop:=
 a0a prog 95 #[a0,a1,(.int .i64 2)] (fun v7=>
 K v7) w
theorem e6g (h:g2l a0 a1 K w):a0a prog 75 #[a0,a1] K w:=
 cZ (fun _=>0) func75 h
def g2m (a0 a1 a2 a3 a4:Value) (K:VK) (w:World):Prop:=
 oM prog (.box 26 (.tmp 0)) 0 [a3] (fun v8=>
 a0a prog 73 #[a0,a1,a2] fun v25=>
 kE 0 3 v25 fun v26=>
 kE 1 62 v25 fun v27=>
 kC .neq 62 0 4 v27 fun v29=>
 kO v29 (K (.tuple #[(.int .i64 0),(.slice none 0 0),v27]))
 (oM prog (.nilCheck (.tmp 0)) 0 [a0] fun v32=>
 kF 136 0 v32 fun v33=>
 kF 133 2 v33 fun v34=>
 kL 59 v34 fun v35=>
 kI 59 v35 v26 fun v37=>
 kF 67 0 v37 fun v38=>
 kL 29 v38 fun v39=>
 a0a prog 71 #[v39] fun v40=>
 kA 29 fun v15=>
 kS 29 v15 v40 fun _=>
 a0a prog 18 #[a4] fun v43=>
 kE 0 3 v43 fun v44=>
 kE 1 9 v43 fun v45=>
 kE 2 4 v43 fun v46 w=>
 a4h (fun M_19=>(kF 29 5 v15 (fun v47=>
 kL 27 v47 fun v48=>
 kN 27 v48 fun v49=>
 kB .gtr 3 4 v49 (.int .i64 0) fun v51=>
 kO v51 (gT v46 (a0c a4) fun v54 w=>
 gT v46 (kF 29 5 v15) (fun v55 w=>
 gT v46 (kL 27 v55) (fun v56 w=>
 gT v46 (a0c v49) (fun v57 w=>
 gT v46 (kB .sub 3 3 v57 (.int .i64 1)) (fun v58 w=>
 gT v46 (kI 27 v56 v58) (fun v59 w=>
 gT v46 (kF 86 2 v59) (fun v60 w=>
 gT v46 (kL 9 v60) (fun v61 w=>
 gT v46 (a0a prog 22 #[v54,v61]) (fun v62=>
 kP v46 v62 (.bool false) fun v63=>
 M_19 [v49,v63]) w) w) w) w) w) w) w) w)
 (M_19 [v49,v46])) w))
 fun l_20 u_l_20 w=>(kU (l_20.getD 1 undef) (fun v66=>
 kO v66 (K (.tuple #[(.int .i64 0),(.slice none 0 0),(.int .i64 2)]))
 (kF 29 5 v15 fun v68=>
 kL 27 v68 fun v69=>
 kN 27 v69 fun v70=>
 kB .geq 3 4 v70 (.int .i64 4) fun v71=>
 kO v71 (K (.tuple #[(.int .i64 0),(.slice none 0 0),(.int .i64 6)]))
 (kH fun C_40 w=>(((true:Bool) = true) ∧ (a0d a0 C_40 fun v72=>
 a0d v26 C_40 fun v73=>
 a0d a0 C_40 fun v74=>
 oH prog (.nilCheck (.tmp 0)) 0 [v74] C_40 fun v75=>
 jF 136 0 v75 C_40 fun v76=>
 jF 133 0 v76 C_40 fun v77=>
 jL 50 v77 C_40 fun v78=>
 jL 26 v8 C_40 fun v79=>
 a0d a4 C_40 fun v80=>
 ∃ S_50:World → WK,xR S_50 fun R_51=>
 (∀ w,C_40 w → (a0a prog 43 #[v78,v79,v80] (xK C_40 S_50 R_51 w) w)) ∧
 (∀ w,C_40 w → ∀ v81,R_51 v81 w → (
 a0a prog 74 #[v72,v73,(.int .i64 3),v81] (fun v82=>
 kC .neq 62 0 4 v82 fun v84=>
 kO v84 (K (.tuple #[(.int .i64 0),(.slice none 0 0),v82]))
 (kH fun C_55 w=>(a0d v26 C_55 fun v86=>
 jF 29 5 v15 C_55 fun v87=>
 jL 27 v87 C_55 fun v88=>
 jF 29 4 v15 C_55 fun v89=>
 jL 26 v89 C_55 fun v90=>
 a0d a0 C_55 fun v91=>
 a0d v26 C_55 fun v92=>
 a0d a4 C_55 fun v94=>
 a0a prog 91 #[v91,v92] (fun v93 w=>C_55 w ∧ (
 oM prog (.build 86 #[(0,(.tmp 0)),(1,(.tmp 1)),(2,(.tmp 2))]) 86 [v90,v93,v94] (fun v95 w=>C_55 w ∧ (
 oM prog (.buildSlice 27 1 #[(0,(.tmp 0))]) 27 [v95] (fun v96 w=>C_55 w ∧ (
 oM prog (.call (Go.Call.mk (.builtin .append) #[(.tmp 0),(.tmp 1)] #[27,27])) 27 [v88,v96] (fun v97 w=>C_55 w ∧ (
 C_55 w ∧ (C_55 w ∧ (C_55 w ∧ (K (.tuple #[v86,v97,(.int .i64 0)]) w))))) w)) w)) w)) w))) w))))))) w))) w
theorem e6h (h:g2m a0 a1 a2 a3 a4 K w):a0a prog 41 #[a0,a1,a2,a3,a4] K w:=
 cZ (mz [(13,fz 9 1 2),(16,.tree (.look 0 (.look 1 (.look 2 (.look 3 (.look 4 (.look 5 (.look 6 (.look 8 (.only 7 (.only 9 (.only 10 (.only 11 (.only 12 (.only 13 (.only 14 (.done)))))))))))))))))]) func41 h
end Go.Proofs
namespace Go.Proofs
open Go Go.Sh Go.RowKit FdSpec TkSpec CodeSpec PuSpec DkSpec JnSpec
section
variable {K:VK} {w w' w0 W W':World} {L:List (Addr × Value)} {rb b:Nat} {s:Stp} {lims:List Lim} {p p':Ph} {items items':List Itm} {A:Ab} {P:Pst} {h:Dk}
set_option maxHeartbeats 2000000 in
theorem StR.put18 (h:StR s lims w p items) {i g c:Nat} {x y:Itm} {a1 a2 a3:Option Addr} {n1 n2 n3 d1 d2 d3:Nat} {T':TypeId} (hx:items[i]? = some x) (hg:p.iv = .slice (some ⟨g,0,none⟩) items.length c)
  (hc:∀ (j:Nat) (u:Value),(b2h x (.slice a1 n1 d1) (.slice a2 n2 d2) (.slice a3 n3 d3))[j]? = some u → w.cell? ⟨g,i * 18 + j,none⟩ = some u) (hh:y.held = x.held) (hI:I64 y.status ∧ I64 y.dare)
  (k:∀ W,StR s lims W p (items.set i y) → PuIt p w p W → K undef W) :
  oM Tryz.prog (.store 67 (.tmp 0) (.tmp 1)) T' [.pointer (some ⟨g,i * 18,none⟩),g0g y (.slice a1 n1 d1) (.slice a2 n2 d2) (.slice a3 n3 d3)] K w:=by
 have hG:=h.itm
 rw [hg] at hG
 have hgo:p.iv.ownBlock = some g:=by rw [hg]; rfl
 refine GRow.put (n:=18) (i:=i) (g:=g) (off:=0) (m:=18) (x0:=x) (x:=g0g y (.slice a1 n1 d1) (.slice a2 n2 d2) (.slice a3 n3 d3)) (xs:=b2h y (.slice a1 n1 d1) (.slice a2 n2 d2) (.slice a3 n3 d3)) (y:=y) hG hx (by omega) c0p rfl rfl (b0j _ _ _ _ _ _ _ _ _ _ _ _ _ _ _ _ _ _ _ _ _ _ _ _) (fun j hj=>⟨hj.1,fun e=>hj.2.1 (.inr (.inr (.inr (.inr (by rw [e]; exact hgo)))))⟩) (fun cs hcl hcc hf=>hf.imp (fun W=>?_)) (fun W hgr hG2=>?_)
 ·rintro ⟨av,yv,lv,rfl,h2,h3⟩
  have key:∀ j u v,(b2h x av yv lv)[j]? = some u → (b2h x (.slice a1 n1 d1) (.slice a2 n2 d2) (.slice a3 n3 d3))[j]? = some v → u = v:=fun j u v e1 e2=>oI ((hcc j u e1).symm.trans (hc j v e2))
  have e2:=key 2 _ _ rfl rfl
  have e6:=key 6 _ _ rfl rfl
  have e13:=key 13 _ _ rfl rfl
  subst e2 e6 e13
  refine ⟨_,_,_,?_,by rw [hh]; exact h2,hI⟩
  rw [List.take_zero,List.drop_eq_nil_of_le (by rw [hcl]; omega),List.append_nil,List.nil_append]
 ·have hf:Fr (fun i=>i = p.pb ∨ p.iv.ownBlock = some i) w W:=(Fr.of_by hgr).mono (fun j _ hj=>.inr (by rw [hj]; exact hgo))
  have t:PuIt p w p W:=⟨hf,fun j hj=>.inl hj,rfl⟩
  refine k W ⟨?_,?_,c2l h.rd t.st,by rw [List.length_set]; exact h.cnt,h.sp,h.si,fun i hi=>lL (h.xl i hi) hf.size⟩ t
  ·exact h.pur.other hgr (fun e=>(h.si g hgo).2.2.2 e.symm)
  ·rw [hg]
   exact hG2.mono (Im.mono hf.size (fun j hj=>.inl hj) rfl)
theorem f2v {x:Itm} {g:Nat} {a1 a2 a3:Option Addr} {n1 n2 n3 d1 d2 d3 pb:Nat} (hB:Holds w g 67 (b2h x (.slice a1 n1 d1) (.slice a2 n2 d2) (.slice a3 n3 d3))) (kind z:Int) (k0:a7t kind x = none → K (.bool false) w)
  (k1:∀ y,a7t kind x = some y → ∀ w',Holds w' g 67 (b2h y (.slice a1 n1 d1) (.slice a2 n2 d2) (.slice a3 n3 d3)) → w.grownBy w' (some g) → K (.bool true) w'):a0a Tryz.prog 134 #[.pointer (some ⟨pb,0,none⟩),.pointer (some ⟨g,0,none⟩),.int .i64 kind,.int .i64 z] K w:=by
 apply c3n
 unfold d7b
 have c14:=a1h hB (j:=14) rfl
 have c16:=a1h hB (j:=16) rfl
 have c17:=a1h hB (j:=17) rfl
 refine ⟨fun _ W=>K (.bool true) W,?_,fun l u w2 h2=>h2⟩
 unfold a7t at k0 k1
 by_cases h2:kind = 2
 ·by_cases hs:x.status = 1
  ·have k1:=k1 _ (if_pos ⟨h2,hs⟩)
   refine Xa (An3 @c14 @h2 @hs) ?_
   refine a3m (i:=14) a7q rfl rfl hB (by simp) (fun w2 hg2 hB2=>?_)
   refine Xa0 ?_
   exact k1 _ hB2 hg2
  ·have k0:=k0 (by rw [if_neg (fun h=>hs h.2),if_neg (fun h=>by omega)])
   refine Xa (An3 @c14 @h2 @hs) ?_
   exact k0
 ·by_cases h4:kind = 4
  ·cases hl:x.lent with
   | false=>
    have k0:=k0 (by rw [if_neg (fun h=>h2 h.1),if_neg (fun h=>by rw [hl] at h; exact absurd h.2.1 (by simp))])
    rw [hl] at c16
    refine Xa (An3 @c16 @h2 @h4) ?_
    exact k0
   | true=>
    rw [hl] at c16
    cases hb:x.back with
    | true=>
     rw [hb] at c17
     have k0:=k0 (by rw [if_neg (fun h=>h2 h.1),if_neg (fun h=>by rw [hb] at h; exact absurd h.2.2 (by simp))])
     refine Xa (An4 @c16 @c17 @h2 @h4) ?_
     exact k0
    | false=>
     rw [hb] at c17
     have k1:=k1 _ (by rw [if_neg (fun h=>h2 h.1),if_pos ⟨h4,hl,hb⟩])
     refine Xa (An4 @c16 @c17 @h2 @h4) ?_
     refine a3m (i:=17) b4v rfl rfl hB (by simp) (fun w2 hg2 hB2=>?_)
     refine Xa0 ?_
     exact k1 _ hB2 hg2
  ·have k0:=k0 (by rw [if_neg (fun h=>h2 h.1),if_neg (fun h=>h4 h.1)])
   refine Xa (An2 @h2 @h4) ?_
   exact k0
theorem e4a {kind:Int} {x y:Itm} (h:a7t kind x = some y) (hI:I64 x.status ∧ I64 x.dare):y.held = x.held ∧ I64 y.status ∧ I64 y.dare:=by
 unfold a7t at h
 split at h
 ·cases h; exact ⟨rfl,b9g 2 (by omega),hI.2⟩
 ·split at h
  ·cases h; exact ⟨rfl,hI⟩
  ·cases h
set_option maxHeartbeats 4000000 in
theorem e4b (hP:PuR s lims w0 w p A P) (i kind:Int) (hk:kind = 2 ∨ kind = 4) (hi:InR i)
  (k:∀ w' p',PuR s lims w0 w' p' (a2m A P i kind).2.1 (a2m A P i kind).2.2 → PuSt p w p' w' → (p'.pb = p.pb ∧ p'.b = p.b) → K (.int .i64 (a2m A P i kind).1) w') :
  a0a Tryz.prog 95 #[.pointer (some ⟨p.pb,0,none⟩),.int .i64 i,.int .i64 kind] K w:=by
 apply e6e
 unfold g2j
 have hkr:InR kind:=by rcases hk with rfl | rfl <;> exact ⟨by decide,by decide⟩
 have hall:∀ n ∈ [kind,i],InR n:=by
  intro n hn
  simp only [List.mem_cons,List.not_mem_nil,or_false] at hn
  rcases hn with rfl | rfl
  ·exact hkr
  ·exact hi
 have hrl:=a8k hall (by simp)
 refine e3t hP.st i (fun hb=>?_) (fun g c h0 hl hgv=>?_)
 ·have e:a2m A P i kind = (4,A,P):=by
   unfold a2m
   by_cases h:i < 0
   ·rw [if_pos h]
   ·rw [if_neg h,List.getElem?_eq_none (by omega)]
  rw [e] at k
  have k:=k w p hP (PuSt.refl _ _) ⟨rfl,rfl⟩
  refine Xa0 ?_
  exact k
 have hil:i.toNat < P.items.length:=by omega
 have hx:=gE hil
 have eN:a2m A P i kind = match a7t kind P.items[i.toNat] with
   | none=>(7,A,P)
   | some y=>if (a0g A 0 P.j (a0u [kind,i])).1 ≠ 0 then ((a0g A 0 P.j (a0u [kind,i])).1,(a0g A 0 P.j (a0u [kind,i])).2.1,⟨(a0g A 0 P.j (a0u [kind,i])).2.2,P.items⟩)
    else (0,(a0g A 0 P.j (a0u [kind,i])).2.1,⟨(a0g A 0 P.j (a0u [kind,i])).2.2,P.items.set i.toNat y⟩):=by
  unfold a2m
  rw [if_neg (by omega),hx]
  dsimp only
  cases a7t kind P.items[i.toNat] <;> rfl
 obtain ⟨g',c',av,yv,kv,hgv',hgl,hH,hI,hJ,hc⟩:=hP.st.at hx
 rw [hgv] at hgv'
 cases hgv'
 obtain ⟨a1,n1,d1,a2,n2,d2,a3,n3,d3,rfl,rfl,rfl⟩:=a0m hH
 generalize P.items[i.toNat] = x at *
 refine Xa0 ?_
 refine a1l (cs:=b2h x (.slice a1 n1 d1) (.slice a2 n2 d2) (.slice a3 n3 d3)) hc b3u (by kernel_rfl) (by kernel_rfl) ?_
 refine a0j c6h (fun g5 w5 h5 hg5 hH5=>?_)
 refine a0h (xs:=b2h x (.slice a1 n1 d1) (.slice a2 n2 d2) (.slice a3 n3 d3)) c0p rfl rfl (b0j _ _ _ _ _ _ _ _ _ _ _ _ _ _ _ _ _ _ _ _ _ _ _ _) hH5 rfl (fun w6 hg6 hH6=>?_)
 have h6:Bw w w6:=a0k h5 hg6 hg5
 refine Xa0 ?_
 refine f2v hH6 kind 0 (fun hm=>?_) (fun y hm w7 hH7 hg7=>?_)
 ·rw [hm] at eN
  rw [eN] at k
  have k:=k w6 p (hP.next h6) (PuSt.below h6) ⟨rfl,rfl⟩
  refine Xa0 ?_
  exact k
 rw [hm] at eN
 simp only at eN
 have h7:Bw w w7:=h6.grown hg7 h6.size (fun j e=>by cases e; exact hg5)
 obtain ⟨hyh,hyI⟩:=e4a hm ⟨hI,hJ⟩
 refine Xa0 ?_
 have hPd:=(hP.next h7).next (.drawn (B:=w7.heap.size))
 have hHd:=hH7.next (.drawn (B:=w7.heap.size))
 have hw0:=h7.on (.drawn (B:=w7.heap.size))
 refine ⟨Nx { w7 with drawn:=w7.drawn + 1 },bR,rfl,?_⟩
 generalize ({ w7 with drawn:=w7.drawn + 1 }:World) = W1 at hPd hHd hw0 ⊢
 have C:=hPd.st.pur
 have f7:∀ W0,Nx W1 W0 → W0.cell? ⟨p.pb,7,none⟩ = some (jnP p.q):=fun W0 h=>(h.cell C.lt).trans (C.cell 7 (by simp))
 refine Xc (fun W0 hW0=>f7 _ hW0) ?_
 refine ⟨Nx,?_⟩
 refine b3m (fun v w'=>Ints w' v [kind,i]) (fun v w w1 hS h=>h.next hS) ?_ ?_
 ·intro w2 h2
  exact g8j _ _ (a1k hkr) (a1k hi) (fun ad c w3 h3 hi=>⟨h2.on h3,h3,hi.here⟩)
 apply a7y
 ·intro w2 h2 v hv
  exact Cd.pNums_ok _ v (hPd.next h2).sys.l.toLaid (a6s hv) hall (by unfold a0u a0o at hrl; omega) (fun w3 h3=>⟨h2.on h3,h3,rfl⟩)
 rintro w8 h8 v1 - _ rfl
 have hP8:=hPd.next h8
 have hH8:=hHd.next h8
 refine b6g hP8.sys hP8.jn ⟨by omega,by omega⟩ (a0u [kind,i]) (by omega) (fun w9 h9 v9 s9 j9 t9=>?_)
 obtain ⟨hP9,ta⟩:=hP8.jour s9 j9 t9
 generalize a0g A 0 P.j (a0u [kind,i]) = a at *
 by_cases he:a.1 = 0
 ·rw [if_neg (by rw [he]; simp)] at eN
  rw [eN] at k
  have hg5n:¬ Mu p g5:=fun e=>by have:=hP.mu_lt g5 e; omega
  have hH9:Holds w9 g5 67 (b2h y (.slice a1 n1 d1) (.slice a2 n2 d2) (.slice a3 n3 d3)):=(ta.fr.block g5 hH8.lt hg5n).trans hH8
  refine Xa @he ?_
  refine a1s hH9 b3u (by kernel_rfl) (by kernel_rfl) ?_
  refine Xa0 ?_
  have hgo:p.iv.ownBlock = some g:=by rw [hgv]; rfl
  have hsi:=hP8.st.si g hgo
  have hcell:∀ (j:Nat) (u:Value),(b2h x (.slice a1 n1 d1) (.slice a2 n2 d2) (.slice a3 n3 d3))[j]? = some u → w9.cell? ⟨g,i.toNat * 18 + j,none⟩ = some u:=fun j u hj=>by
   have e8:=((hw0.on h8).cell hgl).trans (hc j u hj)
   rw [World.cell?_of_block (t9.fr.block g (by have:=(hw0.on h8).size; omega) (fun e=>by rcases e with e | e; exact hsi.1 e; exact hsi.2.2.1 e))]
   exact e8
  refine hP9.st.put18 (y:=y) hx hgv hcell hyh hyI (fun w10 st10 t10=>?_)
  have hP10:=hP9.it st10 t10
  have k:=k w10 _ hP10 (((PuSt.below (hw0.on h8)).trans ta).trans t10.st) ⟨rfl,rfl⟩
  refine Xa0 ?_
  exact k
 ·rw [if_pos he] at eN
  rw [eN] at k
  have k:=k w9 _ hP9 ((PuSt.below (hw0.on h8)).trans ta) ⟨rfl,rfl⟩
  refine Xa @he ?_
  exact k
end
end Go.Proofs
namespace PuSpec
open FdSpec TkSpec CodeSpec DkSpec JnSpec
variable {s:Stp} {lims:List Lim} {A:Ab} {p:Pst} {all sure:List a0f} {n:Nat}
end PuSpec
namespace Go.Proofs
open Go Go.Sh Go.RowKit FdSpec TkSpec CodeSpec PuSpec DkSpec JnSpec
end Go.Proofs
namespace Go.Proofs
open Go.Sh Tryz
variable {a0 a1:Value} {K:VK} {w:World}
def f5i (a0:Value) (K:VK) (w:World):Prop:=
 oM prog (.convert 9 202 (.tmp 0)) 202 [a0] (fun v10=>
 oM prog (.buildSlice 202 1 #[(0,(.tmp 0))]) 202 [(.int .u8 128)] fun v11=>
 oM prog (.call (Go.Call.mk (.builtin .append) #[(.tmp 0),(.tmp 1)] #[202,202])) 202 [v10,v11] fun v12=>
 kQ [v12] fun J_4 m_5 l_6 u_l_6 w0_l_6=>(fun w=>(
 kN 202 (l_6.getD 0 undef) (fun v14=>
 kB .rem 3 3 v14 (.int .i64 64) fun v15=>
 kC .neq 3 56 4 v15 fun v16=>
 kO v16 (oM prog (.buildSlice 202 1 #[(0,(.tmp 0))]) 202 [(.int .u8 0)] fun v18=>
 oM prog (.call (Go.Call.mk (.builtin .append) #[(.tmp 0),(.tmp 1)] #[202,202])) 202 [(l_6.getD 0 undef),v18] fun v19=>
 kJ J_4 m_5 l_6 w0_l_6 [v19])
 (kQ [(l_6.getD 0 undef),(.int .i64 56)] fun J_12 m_13 l_14 u_l_14 w0_l_14=>(fun w=>(
 kB .geq 3 4 (l_14.getD 1 undef) (.int .i64 0) (fun v21=>
 kO v21 (kN 9 a0 fun v26=>
 oM prog (.convert 3 249 (.tmp 0)) 249 [v26] fun v27=>
 kB .mul 249 249 (.int .u64 8) v27 fun v28=>
 oM prog (.binOp .shr 249 (.tmp 0) (.tmp 1) 3) 249 [v28,(l_14.getD 1 undef)] fun v30=>
 oM prog (.convert 249 5 (.tmp 0)) 5 [v30] fun v31=>
 oM prog (.buildSlice 202 1 #[(0,(.tmp 0))]) 202 [v31] fun v32=>
 oM prog (.call (Go.Call.mk (.builtin .append) #[(.tmp 0),(.tmp 1)] #[202,202])) 202 [(l_14.getD 0 undef),v32] fun v33=>
 kB .sub 3 3 (l_14.getD 1 undef) (.int .i64 8) fun v23=>
 kJ J_12 m_13 l_14 w0_l_14 [v33,v23])
 (a0a prog 181 #[] fun v34=>
 kA 257 fun v5=>
 kS 257 v5 v34 fun _=>
 kQ [(l_14.getD 0 undef)] fun J_26 m_27 l_28 u_l_28 w0_l_28=>(fun w=>(
 kN 202 (l_28.getD 0 undef) (fun v36=>
 kB .gtr 3 4 v36 (.int .i64 0) fun v37 w=>
 a1q v37
 (a3u w fun C_31 w=>(jL 257 v5 (a0n C_31 0) fun v40=>
 a0d (l_28.getD 0 undef) (a0n C_31 0) fun v41=>
 oH prog (.slice 202 (.tmp 0) none (some (.tmp 1)) none) 202 [v41,(.int .i64 64)] (a0n C_31 0) fun v42=>
 a0a prog 182 #[v40,v42] (fun v43 w=>C_31 1 w ∧ (
 kS 257 v5 v43 (fun _ w=>C_31 2 w ∧ (
 oM prog (.slice 202 (.tmp 0) (some (.tmp 1)) none none) 202 [(l_28.getD 0 undef),(.int .i64 64)] (fun v39=>
 kJ J_26 m_27 l_28 w0_l_28 [v39]) w)) w)) w))
 (kL 257 v5 (fun v44=>
 kQ [undef,(.slice none 0 0),(.int .i64 0)] fun J_38 m_39 l_40 u_l_40 w0_l_40=>(fun w=>(
 kB .lss 3 0 (l_40.getD 2 undef) (.int .i64 8) (fun v46=>
 kO v46 (oM prog (.index 257 (.tmp 0) (.tmp 1)) 255 [v44,(l_40.getD 2 undef)] fun v47=>
 oM prog (.binOp .shr 255 (.tmp 0) (.tmp 1) 231) 255 [v47,(.int .u64 24)] fun v50=>
 oM prog (.convert 255 5 (.tmp 0)) 5 [v50] fun v51=>
 oM prog (.binOp .shr 255 (.tmp 0) (.tmp 1) 231) 255 [v47,(.int .u64 16)] fun v53=>
 oM prog (.convert 255 5 (.tmp 0)) 5 [v53] fun v54=>
 oM prog (.binOp .shr 255 (.tmp 0) (.tmp 1) 231) 255 [v47,(.int .u64 8)] fun v56=>
 oM prog (.convert 255 5 (.tmp 0)) 5 [v56] fun v57=>
 oM prog (.convert 255 5 (.tmp 0)) 5 [v47] fun v59=>
 oM prog (.buildSlice 202 4 #[(0,(.tmp 0)),(1,(.tmp 1)),(2,(.tmp 2)),(3,(.tmp 3))]) 202 [v51,v54,v57,v59] fun v60=>
 oM prog (.call (Go.Call.mk (.builtin .append) #[(.tmp 0),(.tmp 1)] #[202,202])) 202 [(l_40.getD 1 undef),v60] fun v61=>
 kB .add 3 3 (l_40.getD 2 undef) (.int .i64 1) fun v62=>
 kJ J_38 m_39 l_40 w0_l_40 [v47,v61,v62])
 (oM prog (.convert 202 9 (.tmp 0)) 9 [(l_40.getD 1 undef)] fun v64=>
 K v64)) w)) w0_l_40) w)) w)) w0_l_28)) w)) w0_l_14)) w)) w0_l_6) w
theorem d7e (h:f5i a0 K w):a0a prog 143 #[a0] K w:=
 cZ (fun _=>3) func143 h
def f5j (K:VK) (w:World):Prop:=
 kA 257 (fun v0=>
 oM prog (.build 257 #[(0,(.tmp 0)),(1,(.tmp 1)),(2,(.tmp 2)),(3,(.tmp 3)),(4,(.tmp 4)),(5,(.tmp 5)),(6,(.tmp 6)),(7,(.tmp 7))]) 257 [(.int .u32 1779033703),(.int .u32 3144134277),(.int .u32 1013904242),(.int .u32 2773480762),(.int .u32 1359893119),(.int .u32 2600822924),(.int .u32 528734635),(.int .u32 1541459225)] fun v1=>
 kS 257 v0 v1 fun _=>
 kR 257 v0 K) w
theorem d7f (h:f5j K w):a0a prog 181 #[] K w:=
 cZ (fun _=>0) func181 h
def f5k (a0 a1:Value) (K:VK) (w:World):Prop:=
 oM prog (.box 257 (.tmp 0)) 0 [a0] (fun v2=>
 kA 257 fun v4=>
 a0a prog 209 #[a1] fun v15=>
 a0a prog 210 #[] fun v16=>
 kA 279 fun v5=>
 kA 279 fun v6=>
 kS 279 v5 v15 fun _=>
 kS 279 v6 v16 fun _=>
 kL 257 v2 fun v17=>
 kA 257 fun v7=>
 kS 257 v7 v17 fun _=>
 kQ [undef,undef,undef,undef,undef,(.int .i64 0)] fun J_9 m_10 l_11 u_l_11 w0_l_11=>(fun w=>(
 kB .lss 3 0 (l_11.getD 5 undef) (.int .i64 64) (fun v19 w=>
 a1q v19
 (a9x w fun C_13=>(oQ prog (.indexAddr 257 (.tmp 0) (.tmp 1)) 0 [v7,(.int .i64 4)] C_13 fun v21=>
 oQ prog (.load 255 (.tmp 0)) 255 [v21] C_13 fun v22=>
 a7w prog 211 #[v22,(.int .i64 (-6))] C_13 fun v23=>
 oQ prog (.indexAddr 257 (.tmp 0) (.tmp 1)) 0 [v7,(.int .i64 4)] C_13 fun v24=>
 oQ prog (.load 255 (.tmp 0)) 255 [v24] C_13 fun v25=>
 a7w prog 211 #[v25,(.int .i64 (-11))] C_13 fun v26=>
 oQ prog (.binOp .xor 255 (.tmp 0) (.tmp 1) 255) 255 [v23,v26] C_13 fun v27=>
 oQ prog (.indexAddr 257 (.tmp 0) (.tmp 1)) 0 [v7,(.int .i64 4)] C_13 fun v28=>
 oQ prog (.load 255 (.tmp 0)) 255 [v28] C_13 fun v29=>
 a7w prog 211 #[v29,(.int .i64 (-25))] C_13 fun v30=>
 oQ prog (.binOp .xor 255 (.tmp 0) (.tmp 1) 255) 255 [v27,v30] C_13 fun v31=>
 ∀ w,C_13 w → (a9x w fun C_25=>(oQ prog (.indexAddr 257 (.tmp 0) (.tmp 1)) 0 [v7,(.int .i64 7)] C_25 fun v32=>
 oQ prog (.load 255 (.tmp 0)) 255 [v32] C_25 fun v33=>
 oQ prog (.binOp .add 255 (.tmp 0) (.tmp 1) 255) 255 [v33,v31] C_25 fun v35=>
 oQ prog (.indexAddr 257 (.tmp 0) (.tmp 1)) 0 [v7,(.int .i64 6)] C_25 fun v36=>
 oQ prog (.load 255 (.tmp 0)) 255 [v36] C_25 fun v37=>
 oQ prog (.indexAddr 257 (.tmp 0) (.tmp 1)) 0 [v7,(.int .i64 4)] C_25 fun v38=>
 oQ prog (.load 255 (.tmp 0)) 255 [v38] C_25 fun v39=>
 oQ prog (.indexAddr 257 (.tmp 0) (.tmp 1)) 0 [v7,(.int .i64 5)] C_25 fun v40=>
 oQ prog (.load 255 (.tmp 0)) 255 [v40] C_25 fun v41=>
 oQ prog (.indexAddr 257 (.tmp 0) (.tmp 1)) 0 [v7,(.int .i64 6)] C_25 fun v42=>
 oQ prog (.load 255 (.tmp 0)) 255 [v42] C_25 fun v43=>
 oQ prog (.binOp .xor 255 (.tmp 0) (.tmp 1) 255) 255 [v41,v43] C_25 fun v44=>
 oQ prog (.binOp .and 255 (.tmp 0) (.tmp 1) 255) 255 [v39,v44] C_25 fun v45=>
 oQ prog (.binOp .xor 255 (.tmp 0) (.tmp 1) 255) 255 [v37,v45] C_25 fun v46=>
 oQ prog (.binOp .add 255 (.tmp 0) (.tmp 1) 255) 255 [v35,v46] C_25 fun v47=>
 oQ prog (.indexAddr 279 (.tmp 0) (.tmp 1)) 0 [v6,(l_11.getD 5 undef)] C_25 fun v49=>
 oQ prog (.load 255 (.tmp 0)) 255 [v49] C_25 fun v50=>
 oQ prog (.binOp .add 255 (.tmp 0) (.tmp 1) 255) 255 [v47,v50] C_25 fun v51=>
 oQ prog (.indexAddr 279 (.tmp 0) (.tmp 1)) 0 [v5,(l_11.getD 5 undef)] C_25 fun v53=>
 oQ prog (.load 255 (.tmp 0)) 255 [v53] C_25 fun v54=>
 oQ prog (.binOp .add 255 (.tmp 0) (.tmp 1) 255) 255 [v51,v54] C_25 fun v55=>
 ∀ w,C_25 w → (a9x w fun C_47=>(oQ prog (.indexAddr 257 (.tmp 0) (.tmp 1)) 0 [v7,(.int .i64 0)] C_47 fun v56=>
 oQ prog (.load 255 (.tmp 0)) 255 [v56] C_47 fun v57=>
 a7w prog 211 #[v57,(.int .i64 (-2))] C_47 fun v58=>
 oQ prog (.indexAddr 257 (.tmp 0) (.tmp 1)) 0 [v7,(.int .i64 0)] C_47 fun v59=>
 oQ prog (.load 255 (.tmp 0)) 255 [v59] C_47 fun v60=>
 a7w prog 211 #[v60,(.int .i64 (-13))] C_47 fun v61=>
 oQ prog (.binOp .xor 255 (.tmp 0) (.tmp 1) 255) 255 [v58,v61] C_47 fun v62=>
 oQ prog (.indexAddr 257 (.tmp 0) (.tmp 1)) 0 [v7,(.int .i64 0)] C_47 fun v63=>
 oQ prog (.load 255 (.tmp 0)) 255 [v63] C_47 fun v64=>
 a7w prog 211 #[v64,(.int .i64 (-22))] C_47 fun v65=>
 oQ prog (.binOp .xor 255 (.tmp 0) (.tmp 1) 255) 255 [v62,v65] C_47 fun v66=>
 ∀ w,C_47 w → (kI 257 v7 (.int .i64 0) (fun v67=>
 kL 255 v67 fun v68=>
 kI 257 v7 (.int .i64 1) fun v69=>
 kL 255 v69 fun v70=>
 kB .and 255 255 v68 v70 fun v71=>
 kI 257 v7 (.int .i64 2) fun v72=>
 kL 255 v72 fun v73=>
 kI 257 v7 (.int .i64 0) fun v74=>
 kL 255 v74 fun v75=>
 kI 257 v7 (.int .i64 1) fun v76=>
 kL 255 v76 fun v77=>
 kB .or 255 255 v75 v77 fun v78=>
 kB .and 255 255 v73 v78 fun v79=>
 kB .or 255 255 v71 v79 fun v80=>
 kB .add 255 255 v55 v66 fun v83=>
 kB .add 255 255 v83 v80 fun v85=>
 kI 257 v7 (.int .i64 0) fun v86=>
 kL 255 v86 fun v87=>
 kI 257 v7 (.int .i64 1) fun v88=>
 kL 255 v88 fun v89=>
 kI 257 v7 (.int .i64 2) fun v90=>
 kL 255 v90 fun v91=>
 kI 257 v7 (.int .i64 3) fun v92=>
 kL 255 v92 fun v93=>
 kB .add 255 255 v93 v55 fun v95=>
 kI 257 v7 (.int .i64 4) fun v96=>
 kL 255 v96 fun v97=>
 kI 257 v7 (.int .i64 5) fun v98=>
 kL 255 v98 fun v99=>
 kI 257 v7 (.int .i64 6) fun v100=>
 kL 255 v100 fun v101=>
 oM prog (.build 257 #[(0,(.tmp 0)),(1,(.tmp 1)),(2,(.tmp 2)),(3,(.tmp 3)),(4,(.tmp 4)),(5,(.tmp 5)),(6,(.tmp 6)),(7,(.tmp 7))]) 257 [v85,v87,v89,v91,v95,v97,v99,v101] fun v102=>
 kS 257 v7 v102 fun _=>
 kB .add 3 3 (l_11.getD 5 undef) (.int .i64 1) fun v103=>
 kJ J_9 m_10 l_11 w0_l_11 [(l_11.getD 5 undef),v31,v55,v66,v80,v103]) w)))))))
 (kQ [undef,(.int .i64 0)] (fun J_92 m_93 l_94 u_l_94 w0_l_94=>(fun w=>(
 kB .lss 3 0 (l_94.getD 1 undef) (.int .i64 8) (fun v105 w=>
 a1q v105
 (a3u w fun C_96 w=>(a0d (l_94.getD 1 undef) (a0n C_96 0) fun v107=>
 jI 257 v7 v107 (a0n C_96 0) fun v108=>
 jL 255 v108 (a0n C_96 0) fun v109=>
 a0d (l_94.getD 1 undef) (a0n C_96 0) fun v110=>
 jI 257 v2 v110 (a0n C_96 0) fun v111=>
 jL 255 v111 (a0n C_96 0) fun v112=>
 jB .add 255 255 v109 v112 (a0n C_96 0) fun v113=>
 jI 257 v7 v107 (a0n C_96 0) fun v114=>
 kS 255 v114 v113 (fun _ w=>C_96 1 w ∧ (
 kB .add 3 3 (l_94.getD 1 undef) (.int .i64 1) (fun v115=>
 kJ J_92 m_93 l_94 w0_l_94 [(l_94.getD 1 undef),v115]) w)) w))
 (kL 257 v7 (fun v116=>
 kS 257 v4 v116 fun _=>
 kR 257 v4 K) w)) w)) w0_l_94) w)) w)) w0_l_11) w
theorem d7g (h:f5k a0 a1 K w):a0a prog 182 #[a0,a1] K w:=
 cZ (mz [(15,3)]) func182 h
def f5l (a0:Value) (K:VK) (w:World):Prop:=
 kA 279 (fun v2=>
 kQ [undef,undef,undef,undef,undef,(.int .i64 0)] fun J_2 m_3 l_4 u_l_4 w0_l_4=>(fun w=>(
 kB .lss 3 0 (l_4.getD 5 undef) (.int .i64 64) (fun v9 w=>
 a1q v9
 (a4h (fun M_6=>(kB .lss 3 4 (l_4.getD 5 undef) (.int .i64 16) (fun v12 w=>
 a1q v12
 (kH (fun C_9 w=>(a0d (l_4.getD 5 undef) C_9 fun v13=>
 a0d a0 C_9 fun v14=>
 a0d (l_4.getD 5 undef) C_9 fun v15=>
 jB .mul 3 3 (.int .i64 4) v15 C_9 fun v16=>
 jI 202 v14 v16 C_9 fun v17=>
 jL 5 v17 C_9 fun v18=>
 oH prog (.convert 5 255 (.tmp 0)) 255 [v18] C_9 fun v19=>
 oH prog (.binOp .shl 255 (.tmp 0) (.tmp 1) 231) 255 [v19,(.int .u64 24)] C_9 fun v20=>
 a0d a0 C_9 fun v21=>
 a0d (l_4.getD 5 undef) C_9 fun v22=>
 jB .mul 3 3 (.int .i64 4) v22 C_9 fun v23=>
 jB .add 3 3 v23 (.int .i64 1) C_9 fun v24=>
 jI 202 v21 v24 C_9 fun v25=>
 jL 5 v25 C_9 fun v26=>
 oH prog (.convert 5 255 (.tmp 0)) 255 [v26] C_9 fun v27=>
 oH prog (.binOp .shl 255 (.tmp 0) (.tmp 1) 231) 255 [v27,(.int .u64 16)] C_9 fun v28=>
 jB .or 255 255 v20 v28 C_9 fun v29=>
 a0d a0 C_9 fun v30=>
 a0d (l_4.getD 5 undef) C_9 fun v31=>
 jB .mul 3 3 (.int .i64 4) v31 C_9 fun v32=>
 jB .add 3 3 v32 (.int .i64 2) C_9 fun v33=>
 jI 202 v30 v33 C_9 fun v34=>
 jL 5 v34 C_9 fun v35=>
 oH prog (.convert 5 255 (.tmp 0)) 255 [v35] C_9 fun v36=>
 oH prog (.binOp .shl 255 (.tmp 0) (.tmp 1) 231) 255 [v36,(.int .u64 8)] C_9 fun v37=>
 jB .or 255 255 v29 v37 C_9 fun v38=>
 a0d a0 C_9 fun v39=>
 a0d (l_4.getD 5 undef) C_9 fun v40=>
 jB .mul 3 3 (.int .i64 4) v40 C_9 fun v41=>
 jB .add 3 3 v41 (.int .i64 3) C_9 fun v42=>
 jI 202 v39 v42 C_9 fun v43=>
 jL 5 v43 C_9 fun v44=>
 oH prog (.convert 5 255 (.tmp 0)) 255 [v44] C_9 fun v45=>
 jB .or 255 255 v38 v45 C_9 fun v46=>
 jI 279 v2 v13 C_9 fun v47=>
 kS 255 v47 v46 (fun _ w=>C_9 w ∧ (
 M_6 [(l_4.getD 5 undef),(l_4.getD 1 undef),(l_4.getD 2 undef),(l_4.getD 3 undef),(l_4.getD 4 undef)] w)) w)) w)
 (a9x w fun C_45=>(oQ prog (.binOp .sub 3 (.tmp 0) (.tmp 1) 3) 3 [(l_4.getD 5 undef),(.int .i64 15)] C_45 fun v49=>
 oQ prog (.indexAddr 279 (.tmp 0) (.tmp 1)) 0 [v2,v49] C_45 fun v50=>
 oQ prog (.load 255 (.tmp 0)) 255 [v50] C_45 fun v51=>
 oQ prog (.binOp .sub 3 (.tmp 0) (.tmp 1) 3) 3 [(l_4.getD 5 undef),(.int .i64 2)] C_45 fun v53=>
 oQ prog (.indexAddr 279 (.tmp 0) (.tmp 1)) 0 [v2,v53] C_45 fun v54=>
 oQ prog (.load 255 (.tmp 0)) 255 [v54] C_45 fun v55=>
 ∀ w,C_45 w → (a0a prog 211 #[v51,(.int .i64 (-7))] (fun v57=>
 a0a prog 211 #[v51,(.int .i64 (-18))] fun v59=>
 kB .xor 255 255 v57 v59 fun v60=>
 oM prog (.binOp .shr 255 (.tmp 0) (.tmp 1) 231) 255 [v51,(.int .u64 3)] fun v62=>
 kB .xor 255 255 v60 v62 fun v63=>
 a0a prog 211 #[v55,(.int .i64 (-17))] fun v65=>
 a0a prog 211 #[v55,(.int .i64 (-19))] fun v67=>
 kB .xor 255 255 v65 v67 fun v68=>
 oM prog (.binOp .shr 255 (.tmp 0) (.tmp 1) 231) 255 [v55,(.int .u64 10)] fun v70=>
 kB .xor 255 255 v68 v70 fun v71=>
 kH fun C_62 w=>(a0d (l_4.getD 5 undef) C_62 fun v72=>
 a0d (l_4.getD 5 undef) C_62 fun v73=>
 jB .sub 3 3 v73 (.int .i64 16) C_62 fun v74=>
 jI 279 v2 v74 C_62 fun v75=>
 jL 255 v75 C_62 fun v76=>
 a0d v63 C_62 fun v77=>
 jB .add 255 255 v76 v77 C_62 fun v78=>
 a0d (l_4.getD 5 undef) C_62 fun v79=>
 jB .sub 3 3 v79 (.int .i64 7) C_62 fun v80=>
 jI 279 v2 v80 C_62 fun v81=>
 jL 255 v81 C_62 fun v82=>
 jB .add 255 255 v78 v82 C_62 fun v83=>
 a0d v71 C_62 fun v84=>
 jB .add 255 255 v83 v84 C_62 fun v85=>
 jI 279 v2 v72 C_62 fun v86=>
 kS 255 v86 v85 (fun _ w=>C_62 w ∧ (
 M_6 [(l_4.getD 5 undef),v51,v55,v63,v71] w)) w)) w)))) w))
 fun l_7 u_l_7 w=>(kB .add 3 3 (l_4.getD 5 undef) (.int .i64 1) (fun v87=>
 kJ J_2 m_3 l_4 w0_l_4 [(l_7.getD 0 undef),(l_7.getD 1 undef),(l_7.getD 2 undef),(l_7.getD 3 undef),(l_7.getD 4 undef),v87]) w))
 (kL 279 v2 (fun v88=>
 kS 279 v2 v88 fun _=>
 kR 279 v2 K) w)) w)) w0_l_4) w
theorem d7h (h:f5l a0 K w):a0a prog 209 #[a0] K w:=
 cZ (mz [(5,.tree (.look 0 (.look 1 (.look 2 (.look 3 (.look 4 (.look 5 (.look 6 (.look 7 (.look 8 (.look 9 (.look 10 (.look 11 (.look 12 (.look 13 (.look 14 (.look 15 (.look 16 (.look 17 (.look 18 (.look 19 (.look 20 (.look 21 (.look 22 (.look 23 (.look 24 (.look 25 (.look 26 (.look 27 (.look 28 (.look 29 (.look 30 (.look 31 (.look 32 (.look 33 (.look 34 (.only 35 (.done)))))))))))))))))))))))))))))))))))))),(9,2)]) func209 h
def f5m (K:VK) (w:World):Prop:=
 kA 279 (fun v0=>
 oM prog (.build 279 #[(0,(.tmp 0)),(1,(.tmp 1)),(2,(.tmp 2)),(3,(.tmp 3)),(4,(.tmp 4)),(5,(.tmp 5)),(6,(.tmp 6)),(7,(.tmp 7)),(8,(.tmp 8)),(9,(.tmp 9)),(10,(.tmp 10)),(11,(.tmp 11)),(12,(.tmp 12)),(13,(.tmp 13)),(14,(.tmp 14)),(15,(.tmp 15)),(16,(.tmp 16)),(17,(.tmp 17)),(18,(.tmp 18)),(19,(.tmp 19)),(20,(.tmp 20)),(21,(.tmp 21)),(22,(.tmp 22)),(23,(.tmp 23)),(24,(.tmp 24)),(25,(.tmp 25)),(26,(.tmp 26)),(27,(.tmp 27)),(28,(.tmp 28)),(29,(.tmp 29)),(30,(.tmp 30)),(31,(.tmp 31)),(32,(.tmp 32)),(33,(.tmp 33)),(34,(.tmp 34)),(35,(.tmp 35)),(36,(.tmp 36)),(37,(.tmp 37)),(38,(.tmp 38)),(39,(.tmp 39)),(40,(.tmp 40)),(41,(.tmp 41)),(42,(.tmp 42)),(43,(.tmp 43)),(44,(.tmp 44)),(45,(.tmp 45)),(46,(.tmp 46)),(47,(.tmp 47)),(48,(.tmp 48)),(49,(.tmp 49)),(50,(.tmp 50)),(51,(.tmp 51)),(52,(.tmp 52)),(53,(.tmp 53)),(54,(.tmp 54)),(55,(.tmp 55)),(56,(.tmp 56)),(57,(.tmp 57)),(58,(.tmp 58)),(59,(.tmp 59)),(60,(.tmp 60)),(61,(.tmp 61)),(62,(.tmp 62)),(63,(.tmp 63))]) 279 [(.int .u32 1116352408),(.int .u32 1899447441),(.int .u32 3049323471),(.int .u32 3921009573),(.int .u32 961987163),(.int .u32 1508970993),(.int .u32 2453635748),(.int .u32 2870763221),(.int .u32 3624381080),(.int .u32 310598401),(.int .u32 607225278),(.int .u32 1426881987),(.int .u32 1925078388),(.int .u32 2162078206),(.int .u32 2614888103),(.int .u32 3248222580),(.int .u32 3835390401),(.int .u32 4022224774),(.int .u32 264347078),(.int .u32 604807628),(.int .u32 770255983),(.int .u32 1249150122),(.int .u32 1555081692),(.int .u32 1996064986),(.int .u32 2554220882),(.int .u32 2821834349),(.int .u32 2952996808),(.int .u32 3210313671),(.int .u32 3336571891),(.int .u32 3584528711),(.int .u32 113926993),(.int .u32 338241895),(.int .u32 666307205),(.int .u32 773529912),(.int .u32 1294757372),(.int .u32 1396182291),(.int .u32 1695183700),(.int .u32 1986661051),(.int .u32 2177026350),(.int .u32 2456956037),(.int .u32 2730485921),(.int .u32 2820302411),(.int .u32 3259730800),(.int .u32 3345764771),(.int .u32 3516065817),(.int .u32 3600352804),(.int .u32 4094571909),(.int .u32 275423344),(.int .u32 430227734),(.int .u32 506948616),(.int .u32 659060556),(.int .u32 883997877),(.int .u32 958139571),(.int .u32 1322822218),(.int .u32 1537002063),(.int .u32 1747873779),(.int .u32 1955562222),(.int .u32 2024104815),(.int .u32 2227730452),(.int .u32 2361852424),(.int .u32 2428436474),(.int .u32 2756734187),(.int .u32 3204031479),(.int .u32 3329325298)] fun v1=>
 kS 279 v0 v1 fun _=>
 kR 279 v0 K) w
theorem d7i (h:f5m K w):a0a prog 210 #[] K w:=
 cZ (fun _=>0) func210 h
def f5n (a0 a1:Value) (K:VK) (w:World):Prop:=
 oM prog (.convert 3 231 (.tmp 0)) 231 [a1] (fun v7=>
 kB .and 231 231 v7 (.int .u64 31) fun v8=>
 oM prog (.binOp .shl 255 (.tmp 0) (.tmp 1) 231) 255 [a0,v8] fun v11=>
 kB .sub 231 231 (.int .u64 32) v8 fun v14=>
 oM prog (.binOp .shr 255 (.tmp 0) (.tmp 1) 231) 255 [a0,v14] fun v15=>
 kB .or 255 255 v11 v15 fun v16=>
 K v16) w
theorem d7j (h:f5n a0 a1 K w):a0a prog 211 #[a0,a1] K w:=
 cZ (fun _=>0) func211 h
end Go.Proofs
namespace Go.Sh
open Go Go.RowKit
def w32 (x:BitVec 32):Value:=.int .u32 (x.toNat:Int)
theorem b5y (n:Nat):IntKind.u32.wrap (n:Int) = ((BitVec.ofNat 32 n).toNat:Int):=by
 rw [IntKind.wrap_u32,BitVec.toNat_ofNat]; omega
theorem a8b (x:BitVec 32):BitVec.ofInt 32 (x.toNat:Int) = x:=by
 rw [BitVec.ofInt_natCast,BitVec.ofNat_toNat,BitVec.setWidth_eq]
theorem d3h (x y:BitVec 32):bits .and .u32 (x.toNat:Int) (y.toNat:Int) = ((x &&& y).toNat:Int):=by
 show IntKind.u32.wrap (((BitVec.ofInt 32 (x.toNat:Int) &&& BitVec.ofInt 32 (y.toNat:Int)).toNat:Nat):Int) = _
 rw [a8b,a8b,b5y,BitVec.ofNat_toNat,BitVec.setWidth_eq]
theorem e2a (x y:BitVec 32):bits .or .u32 (x.toNat:Int) (y.toNat:Int) = ((x ||| y).toNat:Int):=by
 show IntKind.u32.wrap (((BitVec.ofInt 32 (x.toNat:Int) ||| BitVec.ofInt 32 (y.toNat:Int)).toNat:Nat):Int) = _
 rw [a8b,a8b,b5y,BitVec.ofNat_toNat,BitVec.setWidth_eq]
theorem d3i (x y:BitVec 32):bits .xor .u32 (x.toNat:Int) (y.toNat:Int) = ((x ^^^ y).toNat:Int):=by
 show IntKind.u32.wrap (((BitVec.ofInt 32 (x.toNat:Int) ^^^ BitVec.ofInt 32 (y.toNat:Int)).toNat:Nat):Int) = _
 rw [a8b,a8b,b5y,BitVec.ofNat_toNat,BitVec.setWidth_eq]
section
variable {P:Program} {K:VK} {w:World}
theorem g8e (t t' T:TypeId) (x y:BitVec 32):oM P (.binOp .add t (.tmp 0) (.tmp 1) t') T [w32 x,w32 y] = a0c (w32 (x + y)):=by
 have e:IntKind.u32.wrap ((x.toNat:Int) + (y.toNat:Int)) = ((x + y).toNat:Int):=by
  rw [← Int.natCast_add,b5y]
  congr 1
 unfold w32
 rw [f9r,e]
theorem h2w (t t' T:TypeId) (x y:BitVec 32):oM P (.binOp .and t (.tmp 0) (.tmp 1) t') T [w32 x,w32 y] = a0c (w32 (x &&& y)):=by
 funext K w
 unfold w32
 rw [← d3h]
 simp [oM,opM,xop,execOp,a0w,evE,binOp,go_sem]
theorem wor (t t' T:TypeId) (x y:BitVec 32):oM P (.binOp .or t (.tmp 0) (.tmp 1) t') T [w32 x,w32 y] = a0c (w32 (x ||| y)):=by
 funext K w
 unfold w32
 rw [← e2a]
 simp [oM,opM,xop,execOp,a0w,evE,binOp,go_sem]
theorem g8f (t t' T:TypeId) (x y:BitVec 32):oM P (.binOp .xor t (.tmp 0) (.tmp 1) t') T [w32 x,w32 y] = a0c (w32 (x ^^^ y)):=by
 funext K w
 unfold w32
 rw [← d3i]
 simp [oM,opM,xop,execOp,a0w,evE,binOp,go_sem]
theorem g1g (t t' T:TypeId) (yk:IntKind) (x:BitVec 32) (n:Nat) (h:n ≤ 32):oM P (.binOp .shr t (.tmp 0) (.tmp 1) t') T [w32 x,.int yk (n:Int)] = a0c (w32 (x >>> n)):=by
 unfold w32
 rw [f0m t t' T yk _ _ (by omega) (by omega)]
 congr 2
 rw [BitVec.toNat_ushiftRight,Nat.shiftRight_eq_div_pow,Int.toNat_natCast,Int.natCast_ediv,Int.natCast_pow]
 rfl
theorem g8g (t t' T:TypeId) (yk:IntKind) (x:BitVec 32) (n:Nat) (h:n ≤ 32):oM P (.binOp .shl t (.tmp 0) (.tmp 1) t') T [w32 x,.int yk (n:Int)] = a0c (w32 (x <<< n)):=by
 unfold w32
 rw [f0n t t' T yk _ _ (by omega) (by omega)]
 congr 2
 rw [BitVec.toNat_shiftLeft,Nat.shiftLeft_eq,Int.toNat_natCast,Int.natCast_emod,Int.natCast_mul,Int.natCast_pow]
 rfl
end
end Go.Sh
namespace Go.Proofs
open Go Go.Sh Go.RowKit ShaSpec
section
variable {K:VK} {w:World}
theorem a7n (x:W) (r:Nat) (h0:0 < r) (h1:r < 32) (h:K (w32 (b1b x r)) w):a0a Tryz.prog 211 #[w32 x,.int .i64 (-(r:Int))] K w:=by
 apply d7j
 unfold f5n
 have e1:IntKind.u64.wrap (-(r:Int)) = 18446744073709551616 - (r:Int):=by rw [IntKind.wrap_u64]; omega
 have e2:bits .and .u64 (18446744073709551616 - (r:Int)) 31 = ((32 - r:Nat):Int):=by
  rw [c4u 5 _ 31 (by omega) (by decide) (by omega)]; omega
 have e3:IntKind.u64.wrap (32 - ((32 - r:Nat):Int)) = (r:Int):=by rw [IntKind.wrap_u64]; omega
 have s1:=fun t t' T=>g8g (P:=Tryz.prog) t t' T .u64 x (32 - r) (by omega)
 have s2:=fun t t' T=>g1g (P:=Tryz.prog) t t' T .u64 x r (by omega)
 rw [← e2b] at h
 obtain ⟨m,hm⟩:∃ m,m = 32 - r:=⟨_,rfl⟩
 rw [← hm] at e2 e3 s1 h
 refine Xa (An6 @e1 @e2 @e3 @s1 @s2 @wor) ?_
 exact h
@[reducible] def ws (l:List W):List Value:=l.map w32
theorem b1m (l:List W):∀ u ∈ ws l,u.oneCell' = true:=by
 intro u hu
 obtain ⟨x,_,rfl⟩:=List.mem_map.1 hu
 rfl
@[reducible] def stV (s:St):Value:=.agg (ws s.list).toArray
theorem b0w (w:World):(sizeOf 257).run Tryz.prog w = .ok 8 w:=by kernel_rfl
theorem e9x (w:World):(sizeOf 279).run Tryz.prog w = .ok 64 w:=by kernel_rfl
theorem e0a (w:World):(sizeOf 255).run Tryz.prog w = .ok 1 w:=by kernel_rfl
theorem b5t (w:World):(Instr.alloc 257 true (.tuple #[])).run Tryz.prog w = .ok (.pointer (some ⟨w.heap.size,0,none⟩)) (w.alloc (.cells (ws (List.replicate 8 0)).toArray 257)):=by kernel_rfl
theorem e9y (w:World):(Instr.alloc 279 true (.tuple #[])).run Tryz.prog w = .ok (.pointer (some ⟨w.heap.size,0,none⟩)) (w.alloc (.cells (ws (List.replicate 64 0)).toArray 279)):=by kernel_rfl
theorem a8l:Tryz.prog.underlying 257 = some (.array (Tryz.prog.arrayLen 257) (Tryz.prog.elem 257)):=by kernel_rfl
theorem e9z:Tryz.prog.underlying 279 = some (.array (Tryz.prog.arrayLen 279) (Tryz.prog.elem 279)):=by kernel_rfl
@[go_sem] theorem g5e (T:TypeId) (b o:Nat) (x:Int):oM Tryz.prog (.indexAddr 257 (.tmp 0) (.tmp 1)) T [.pointer (some ⟨b,o,none⟩),.int .i64 x] = onM (0 ≤ x ∧ x < (8:Nat)) (.pointer (some ⟨b,o + x.toNat,none⟩)):=
 c0b _ a8l (by kernel_rfl) (by decide) (fun w=>by kernel_rfl) T b o x
@[go_sem] theorem h2i (T:TypeId) (b o:Nat) (x:Int):oM Tryz.prog (.indexAddr 279 (.tmp 0) (.tmp 1)) T [.pointer (some ⟨b,o,none⟩),.int .i64 x] = onM (0 ≤ x ∧ x < (64:Nat)) (.pointer (some ⟨b,o + x.toNat,none⟩)):=
 c0b _ e9z (by kernel_rfl) (by decide) (fun w=>by kernel_rfl) T b o x
theorem c7s:oM Tryz.prog (Go.Op.build 257 #[(0,(.tmp 0)),(1,(.tmp 1)),(2,(.tmp 2)),(3,(.tmp 3)),(4,(.tmp 4)),(5,(.tmp 5)),(6,(.tmp 6)),(7,(.tmp 7))]) 257 [(.int .u32 1779033703),(.int .u32 3144134277),(.int .u32 1013904242),(.int .u32 2773480762),(.int .u32 1359893119),(.int .u32 2600822924),(.int .u32 528734635),(.int .u32 1541459225)] = a0c (stV first):=by
 funext K w
 kernel_rfl
theorem f0a (k:∀ w',Bw w w' → K (stV first) w'):a0a Tryz.prog 181 #[] K w:=by
 apply d7f
 unfold f5j
 refine a0j b5t fun g W hb hg hh=>?_
 rw [c7s]
 refine a1g ?_
 refine a0h b0w (xs:=ws first.list) rfl rfl (b1m _) hh rfl (fun W2 hg2 hh=>?_)
 exact a4z hh a8l rfl (by kernel_rfl) (k _ (a0k hb hg2 hg))
theorem c7t:∀ K w,oM Tryz.prog (Go.Op.build 279 ((List.range 64).map fun i=>(i,Operand.tmp i)).toArray) 279 (ws consts) K w = a0c (.agg (ws consts).toArray) K w:=by
 intro K w
 kernel_rfl
theorem f0b (k:∀ w',Bw w w' → K (.agg (ws consts).toArray) w'):a0a Tryz.prog 210 #[] K w:=by
 apply d7i
 unfold f5m
 refine a0j e9y fun g W hb hg hh=>?_
 refine (c7t _ W).symm ▸ ?_
 refine a1g ?_
 refine a0h e9x (xs:=ws consts) rfl rfl (b1m _) hh rfl (fun W2 hg2 hh=>?_)
 exact a4z hh e9z rfl (by kernel_rfl) (k _ (a0k hb hg2 hg))
def ByR (w:World) (b o:Nat) (l:List UInt8):Prop:=b < w.heap.size ∧ ∀ i,i < l.length → w.cell? ⟨b,o + i,none⟩ = some (.int .u8 ((l.getD i 0).toNat:Int))
theorem ByR.next {w w':World} {b o:Nat} {l:List UInt8} (h:ByR w b o l) (hb:Bw w w'):ByR w' b o l:=
 ⟨lL h.1 hb.size,fun i hi=>by rw [hb.cell h.1]; exact h.2 i hi⟩
theorem f8w (T:TypeId) (x:UInt8):oM Tryz.prog (.convert 5 255 (.tmp 0)) T [.int .u8 (x.toNat:Int)] = a0c (w32 (w8 x)):=by
 funext K w
 have e:IntKind.u32.wrap (x.toNat:Int) = ((w8 x).toNat:Int):=by
  have:=x.toNat_lt
  rw [IntKind.wrap_u32]
  unfold w8
  rw [BitVec.toNat_ofNat]
  omega
 have e2:(convert 5 255 (.int .u8 (x.toNat:Int))).run Tryz.prog w = .ok (.int .u32 (IntKind.u32.wrap (x.toNat:Int))) w:=by kernel_rfl
 rw [c0i,e2,e]
 rfl
@[go_sem] theorem g5f (T:TypeId) (b o n c:Nat) (x:Int):oM Tryz.prog (.indexAddr 202 (.tmp 0) (.tmp 1)) T [.slice (some ⟨b,o,none⟩) n c,.int .i64 x] = onM (0 ≤ x ∧ x < n) (.pointer (some ⟨b,o + x.toNat,none⟩)):=by
 funext K w
 rw [a1n,run_indexAt_slice (h:=by kernel_rfl)]
 have hs:(sizeOf (Tryz.prog.elem 202)).run Tryz.prog w = .ok 1 w:=by kernel_rfl
 by_cases hi:0 ≤ x ∧ x < n
 ·rw [if_pos hi,hs]
  simp only [Result.andThen,a2j,Nat.mul_one,c5g]
  exact propext ⟨fun h=>⟨hi,h⟩,fun h=>h.2⟩
 ·rw [if_neg hi]
  obtain ⟨e',w',he⟩:=b8y Value Tryz.prog .i64 x n .index w
  rw [he]
  exact propext ⟨fun h=>h.elim,fun h=>hi h.1⟩
theorem g8t (t t' T:TypeId) (x:W):oM Tryz.prog (.binOp .shl t (.tmp 0) (.tmp 1) t') T [w32 x,.int .u64 24] = a0c (w32 (x <<< 24)):=g8g t t' T .u64 x 24 (by omega)
theorem g8u (t t' T:TypeId) (x:W):oM Tryz.prog (.binOp .shl t (.tmp 0) (.tmp 1) t') T [w32 x,.int .u64 16] = a0c (w32 (x <<< 16)):=g8g t t' T .u64 x 16 (by omega)
theorem h3i (t t' T:TypeId) (x:W):oM Tryz.prog (.binOp .shl t (.tmp 0) (.tmp 1) t') T [w32 x,.int .u64 8] = a0c (w32 (x <<< 8)):=g8g t t' T .u64 x 8 (by omega)
theorem h3j (t t' T:TypeId) (x:W):oM Tryz.prog (.binOp .shr t (.tmp 0) (.tmp 1) t') T [w32 x,.int .u64 3] = a0c (w32 (x >>> 3)):=g1g t t' T .u64 x 3 (by omega)
theorem g8v (t t' T:TypeId) (x:W):oM Tryz.prog (.binOp .shr t (.tmp 0) (.tmp 1) t') T [w32 x,.int .u64 10] = a0c (w32 (x >>> 10)):=g1g t t' T .u64 x 10 (by omega)
theorem g8w (t t' T:TypeId) (x:W):oM Tryz.prog (.binOp .shr t (.tmp 0) (.tmp 1) t') T [w32 x,.int .u64 24] = a0c (w32 (x >>> 24)):=g1g t t' T .u64 x 24 (by omega)
theorem g8x (t t' T:TypeId) (x:W):oM Tryz.prog (.binOp .shr t (.tmp 0) (.tmp 1) t') T [w32 x,.int .u64 16] = a0c (w32 (x >>> 16)):=g1g t t' T .u64 x 16 (by omega)
theorem h3k (t t' T:TypeId) (x:W):oM Tryz.prog (.binOp .shr t (.tmp 0) (.tmp 1) t') T [w32 x,.int .u64 8] = a0c (w32 (x >>> 8)):=g1g t t' T .u64 x 8 (by omega)
theorem h3l (x:W) (h:K (w32 (b1b x 6)) w):a0a Tryz.prog 211 #[w32 x,.int .i64 (-6)] K w:=a7n x 6 (by omega) (by omega) h
theorem g8y (x:W) (h:K (w32 (b1b x 11)) w):a0a Tryz.prog 211 #[w32 x,.int .i64 (-11)] K w:=a7n x 11 (by omega) (by omega) h
theorem g8z (x:W) (h:K (w32 (b1b x 25)) w):a0a Tryz.prog 211 #[w32 x,.int .i64 (-25)] K w:=a7n x 25 (by omega) (by omega) h
theorem h3m (x:W) (h:K (w32 (b1b x 2)) w):a0a Tryz.prog 211 #[w32 x,.int .i64 (-2)] K w:=a7n x 2 (by omega) (by omega) h
theorem g9a (x:W) (h:K (w32 (b1b x 13)) w):a0a Tryz.prog 211 #[w32 x,.int .i64 (-13)] K w:=a7n x 13 (by omega) (by omega) h
theorem g9b (x:W) (h:K (w32 (b1b x 22)) w):a0a Tryz.prog 211 #[w32 x,.int .i64 (-22)] K w:=a7n x 22 (by omega) (by omega) h
theorem h3n (x:W) (h:K (w32 (b1b x 7)) w):a0a Tryz.prog 211 #[w32 x,.int .i64 (-7)] K w:=a7n x 7 (by omega) (by omega) h
theorem g9c (x:W) (h:K (w32 (b1b x 18)) w):a0a Tryz.prog 211 #[w32 x,.int .i64 (-18)] K w:=a7n x 18 (by omega) (by omega) h
theorem g9d (x:W) (h:K (w32 (b1b x 17)) w):a0a Tryz.prog 211 #[w32 x,.int .i64 (-17)] K w:=a7n x 17 (by omega) (by omega) h
theorem g9e (x:W) (h:K (w32 (b1b x 19)) w):a0a Tryz.prog 211 #[w32 x,.int .i64 (-19)] K w:=a7n x 19 (by omega) (by omega) h
def e0b (b:List UInt8) (k:Nat):List W:=a6c b k ++ List.replicate (64 - k) 0
theorem b1z (b:List UInt8) (k:Nat) (hk:k ≤ 64):(e0b b k).length = 64:=by simp [e0b,a3y]; omega
theorem e0c (b:List UInt8) (k:Nat) (hk:k < 64):(e0b b k).set k (c5k b (a6c b k) k) = e0b b (k + 1):=by
 unfold e0b
 rw [List.set_append_right _ _ (by rw [a3y]; omega),a3y,Nat.sub_self]
 obtain ⟨m,hm⟩:∃ m,64 - k = m + 1:=⟨63 - k,by omega⟩
 rw [hm,List.replicate_succ,List.set_cons_zero,show 64 - (k + 1) = m by omega]
 simp [a6c]
structure SchI (b:List UInt8) (g:Nat) (w0:World) (k:Nat) (w':World):Prop where
 below:Bw w0 w'
 holds:Holds w' g 279 (ws (e0b b k))
structure SchC (b:List UInt8) (g:Nat) (w0:World) (k:Nat) (w':World):Prop where
 one:Bw w0 w'
 two:∀ j,j < k → w'.cell? ⟨g,j,none⟩ = some (w32 (at' (a6c b k) j))
theorem SchC.less {b:List UInt8} {g:Nat} {w0 w':World} {k:Nat} (h:SchC b g w0 (k + 1) w'):SchC b g w0 k w':=by
 refine ⟨h.one,fun j hj=>?_⟩
 rw [h.two j (by omega)]
 have e:at' (a6c b (k + 1)) j = at' (a6c b k) j:=by
  show (a6c b k ++ [c5k b (a6c b k) k]).getD j 0 = (a6c b k).getD j 0
  rw [List.getD_eq_getElem?_getD,List.getElem?_append_left (by rw [a3y]; omega),← List.getD_eq_getElem?_getD]
 rw [e]
theorem f8x (b:List UInt8) (k j:Nat) (hj:j < k):(e0b b k).getD j 0 = at' (a6c b k) j:=by
 unfold e0b at'
 rw [List.getD_eq_getElem?_getD,List.getElem?_append_left (by rw [a3y]; omega),← List.getD_eq_getElem?_getD]
theorem SchI.c {b:List UInt8} {g:Nat} {w0 w':World} {k:Nat} (hk:k ≤ 64) (h:SchI b g w0 k w'):SchC b g w0 k w':=by
 refine ⟨h.below,fun j hj=>?_⟩
 have hl:=b1z b k hk
 rw [h.holds.cell j (by simp [hl]; omega),← f8x b k j hj]
 simp [List.getD_eq_getElem?_getD,hl,show j < 64 by omega]
def h3o (b:List UInt8) (g:Nat) (w0:World) (l:List Value) (w':World):Prop:=∃ (v0 v1 v2 v3 v4:Value) (k:Nat),l = [v0,v1,v2,v3,v4,.int .i64 (k:Int)] ∧ k ≤ 64 ∧ SchI b g w0 k w'
def f8y (l:List Value) (_:World):Nat:=match l with | [_,_,_,_,_,.int _ i]=>64 - i.toNat | _=>0
theorem d0o (a b c d e:Value) (q:IntKind) (i:Int) (w:World):f8y [a,b,c,d,e,.int q i] w = 64 - i.toNat:=rfl
theorem SchI.drew {b:List UInt8} {g:Nat} {w0 w':World} {k:Nat} (h:SchI b g w0 k w'):SchI b g w0 k { w' with drawn:=w'.drawn + 1 }:=
 ⟨h.below.on .drawn,h.holds.next .drawn⟩
theorem SchI.set {b:List UInt8} {g:Nat} {w0 w' W:World} {k:Nat} (h:SchI b g w0 k w') (h0:w0.heap.size ≤ g) (hk:k < 64) (hg:w'.grownBy W (some g)) (hh:Holds W g 279 ((ws (e0b b k)).set k (w32 (c5k b (a6c b k) k)))):SchI b g w0 (k + 1) W:=by
 refine ⟨a0k h.below hg h0,?_⟩
 rw [← e0c b k hk]
 unfold ws at hh ⊢
 rw [List.map_set]
 exact hh
theorem c7u (b:List UInt8) {B o c:Nat} (hl:b.length = 64) (hb:ByR w B o b) (k:∀ w',Bw w w' → K (.agg (ws (a6c b 64)).toArray) w'):a0a Tryz.prog 209 #[.slice (some ⟨B,o,none⟩) 64 c] K w:=by
 apply d7h
 unfold f5l
 refine a0j e9y fun g W hbW hgW hh=>?_
 refine ⟨h3o b g w,f8y,⟨_,_,_,_,_,0,rfl,by omega,hbW,hh⟩,?_⟩
 clear hh hbW W
 rintro _ _ w1 ⟨v0,v1,v2,v3,v4,i,rfl,hi,hI⟩
 have hc:=(hI.c hi)
 by_cases hi64:i < 64
 ·refine Xa0 ?_
  refine ⟨fun _ w'=>SchI b g w (i + 1) w',?_,?_⟩
  ·by_cases h16:i < 16
   ·refine Xa0 ?_
    refine ⟨fun w'=>Bw w w',hI.drew.below,?_⟩
    have hI:=hI.drew
    have cb:∀ j,j < 64 → ∀ w',Bw w w' → w'.cell? ⟨B,o + j,none⟩ = some (.int .u8 ((b.getD j 0).toNat:Int)):=fun j hj w' hw=>(hb.next hw).2 j (by omega)
    have t1:(4 * (i:Int)).toNat = 4 * i:=by omega
    have t2:(4 * (i:Int) + 1).toNat = 4 * i + 1:=by omega
    have t3:(4 * (i:Int) + 2).toNat = 4 * i + 2:=by omega
    have t4:(4 * (i:Int) + 3).toNat = 4 * i + 3:=by omega
    have c1:=cb (4 * i) (by omega)
    have c2:=cb (4 * i + 1) (by omega)
    have c3:=cb (4 * i + 2) (by omega)
    have c4:=cb (4 * i + 3) (by omega)
    have w1:IntKind.i64.wrap (4 * (i:Int)) = 4 * i:=a0p _ (by omega) (by omega)
    have w2:IntKind.i64.wrap (4 * (i:Int) + 1) = 4 * i + 1:=a0p _ (by omega) (by omega)
    have w3:IntKind.i64.wrap (4 * (i:Int) + 2) = 4 * i + 2:=a0p _ (by omega) (by omega)
    have w4:IntKind.i64.wrap (4 * (i:Int) + 3) = 4 * i + 3:=a0p _ (by omega) (by omega)
    refine Xf (fun W0 hW0=>An4 (c1 _ hW0) (c2 _ hW0) (c3 _ hW0) (c4 _ hW0)) (h4b @w1 @w2 @w3 @w4 @t1 @t2 @t3 @t4 @f8w @g8t @g8u @h3i @wor) ?_
    have en:c5k b (a6c b i) i = w8 (b[4 * i]?.getD 0) <<< 24 ||| w8 (b[4 * i + 1]?.getD 0) <<< 16 ||| w8 (b[4 * i + 2]?.getD 0) <<< 8 ||| w8 (b[4 * i + 3]?.getD 0):=by
     unfold c5k h2x
     rw [if_pos h16]
     simp only [List.getD_eq_getElem?_getD]
    rw [← en]
    refine a3m e0a rfl rfl hI.holds (by simp [b1z b i hi,hi64]) (fun W hg2 hh=>?_)
    have hI2:=hI.set hgW hi64 hg2 hh
    exact ⟨hI2.below,hI2⟩
   ·refine Xa0 ?_
    have hI:=hI.drew
    refine ⟨fun w'=>w' = { w1 with drawn:=w1.drawn + 1 },rfl,?_⟩
    generalize ({ w1 with drawn:=w1.drawn + 1 }:World) = w2 at hI ⊢
    have hc:=hI.c hi
    have w1:IntKind.i64.wrap ((i:Int) - 15) = (i:Int) - 15:=a0p _ (by omega) (by omega)
    have w2:IntKind.i64.wrap ((i:Int) - 2) = (i:Int) - 2:=a0p _ (by omega) (by omega)
    have w3:IntKind.i64.wrap ((i:Int) - 16) = (i:Int) - 16:=a0p _ (by omega) (by omega)
    have w4:IntKind.i64.wrap ((i:Int) - 7) = (i:Int) - 7:=a0p _ (by omega) (by omega)
    have t1:((i:Int) - 15).toNat = i - 15:=by omega
    have t2:((i:Int) - 2).toNat = i - 2:=by omega
    have t3:((i:Int) - 16).toNat = i - 16:=by omega
    have t4:((i:Int) - 7).toNat = i - 7:=by omega
    have c1:=hc.two (i - 15) (by omega)
    have c2:=hc.two (i - 2) (by omega)
    refine Xg (An4 @t1 @t2 @c1 @c2) ?_
    repeat (any_goals (first
    | (with_reducible refine h3n _ ?_) | (with_reducible refine g9c _ ?_) | (with_reducible refine g9d _ ?_) | (with_reducible refine g9e _ ?_)
    | ((with_reducible refine oG fun X Y=>?_); simp [go_sem,h3j,g8v,g8f]; apply Y; clear Y X)))
    refine ⟨SchC b g w i,hI.drew.c hi,?_⟩
    have hI:=hI.drew
    repeat (any_goals (first
    | (with_reducible refine pX ?_)
    | ((with_reducible refine b2p ?_); (with_reducible refine a2f ⟨_,rfl⟩ (fun W0 hW0=>by (refine oG (fun X Y=>?_)); simp [go_sem,w3,w4,t3,t4,hW0.two (i - 16) (by omega),hW0.two (i - 7) (by omega),g8e]; (first | exact Y _ _ ⟨rfl,rfl⟩ | exact ⟨by omega,Y _ _ ⟨rfl,rfl⟩⟩)) ?_))))
    have en:c5k b (a6c b i) i = at' (a6c b i) (i - 16) + h1b (at' (a6c b i) (i - 15)) + at' (a6c b i) (i - 7) + h1c (at' (a6c b i) (i - 2)):=by
     unfold c5k
     rw [if_neg h16]
    unfold h1b h1c at en
    rw [← en]
    refine a3m e0a rfl rfl hI.holds (by simp [b1z b i hi,hi64]) (fun W hg2 hh=>?_)
    have hI2:=hI.set hgW hi64 hg2 hh
    exact ⟨(hI2.c hi64).less,hI2⟩
  ·rintro l u w2 hI2
   refine Xa0 ?_
   refine ⟨⟨_,_,_,_,_,i + 1,rfl,hi64,hI2⟩,?_⟩
   simp only [d0o]; omega
 ·obtain rfl:i = 64:=by omega
  refine Xa0 ?_
  have hh:=hI.holds
  have e64:e0b b 64 = a6c b 64:=by simp [e0b]
  rw [e64] at hh
  have hl64:=a3y b 64
  generalize a6c b 64 = sl at *
  refine a1s hh e9z rfl (by rw [List.length_map,hl64]; kernel_rfl) ?_
  refine a0h e9x (xs:=ws sl) rfl (by rw [List.length_map,hl64]) (b1m _) hh (by rw [List.length_map,hl64]) (fun W hg2 hh=>?_)
  exact a4z hh e9z rfl (by rw [List.length_map,hl64]; kernel_rfl) (k _ (a0k hI.below hg2 hgW))
theorem g5g (T:TypeId) (a b c d e f g h:W):oM Tryz.prog (Go.Op.build 257 #[(0,(.tmp 0)),(1,(.tmp 1)),(2,(.tmp 2)),(3,(.tmp 3)),(4,(.tmp 4)),(5,(.tmp 5)),(6,(.tmp 6)),(7,(.tmp 7))]) T [w32 a,w32 b,w32 c,w32 d,w32 e,w32 f,w32 g,w32 h] = a0c (stV ⟨a,b,c,d,e,f,g,h⟩):=by
 funext K w
 kernel_rfl
structure MixI (w0:World) (gh gr gs gt gv:Nat) (s:St) (sl:List W) (v:List W) (w':World):Prop where
 below:Bw w0 w'
 h:Holds w' gh 257 (ws s.list)
 r:∃ zs,zs.length = 8 ∧ Holds w' gr 257 zs
 sch:Holds w' gs 279 (ws sl)
 tab:Holds w' gt 279 (ws consts)
 v:Holds w' gv 257 (ws v)
variable {w0 w':World} {gh gr gs gt gv:Nat} {s:St} {sl v:List W}
theorem MixI.next {w2:World} (h:MixI w0 gh gr gs gt gv s sl v w') (hb:Bw w' w2):MixI w0 gh gr gs gt gv s sl v w2:=
 ⟨h.below.on hb,h.h.next hb,h.r.imp fun _ h=>⟨h.1,h.2.next hb⟩,h.sch.next hb,h.tab.next hb,h.v.next hb⟩
theorem MixI.drew (h:MixI w0 gh gr gs gt gv s sl v w'):MixI w0 gh gr gs gt gv s sl v { w' with drawn:=w'.drawn + 1 }:=h.next .drawn
structure Apart (n gh gr gs gt gv:Nat):Prop where
 h:gh ≠ gv
 r:gr ≠ gv
 s:gs ≠ gv
 t:gt ≠ gv
 v:n ≤ gv
 r0:n ≤ gr
theorem MixI.wrote {W2:World} {u:List W} (ha:Apart w0.heap.size gh gr gs gt gv) (h:MixI w0 gh gr gs gt gv s sl v w') (hg:w'.grownBy W2 (some gv)) (hh:Holds W2 gv 257 (ws u)):MixI w0 gh gr gs gt gv s sl u W2:=
 ⟨a0k h.below hg ha.v,h.h.other hg ha.h,h.r.imp fun _ h=>⟨h.1,h.2.other hg ha.r⟩,h.sch.other hg ha.s,h.tab.other hg ha.t,hh⟩
theorem a2b {g:Nat} {T:TypeId} {l:List W} (h:Holds w' g T (ws l)) (i:Nat) (hi:i < l.length):w'.cell? ⟨g,i,none⟩ = some (w32 (at' l i)):=by
 rw [h.cell i (by simpa using hi)]
 simp [at',List.getD_eq_getElem?_getD,hi]
def h3p (w0:World) (gh gr gs gt gv:Nat) (s:St) (b:List UInt8) (sl:List W) (l:List Value) (w':World):Prop:=∃ (v0 v1 v2 v3 v4:Value) (k:Nat),l = [v0,v1,v2,v3,v4,.int .i64 (k:Int)] ∧ k ≤ 64 ∧ MixI w0 gh gr gs gt gv s sl (b3n b s k).list w'
def Zr (St:WK) (j:Nat) (w':World):Prop:=j = 0 → St w'
theorem g9f {St:WK} {w':World} (h:a0n (Zr St) 0 w'):St w':=by
 obtain ⟨s,hs,hc⟩:=h
 exact hc (by omega)
def adL (v s:St) (i:Nat):List W:=(List.range 8).map fun j=>if j < i then at' v.list j + at' s.list j else at' v.list j
theorem d2u (v s:St) (i:Nat):(adL v s i).length = 8:=by simp [adL]
theorem g5h (v s:St) {i:Nat} (hi:i < 8):at' (adL v s i) i = at' v.list i:=by
 unfold adL
 conv=>lhs; unfold at'
 rw [List.getD_eq_getElem?_getD,List.getElem?_map,List.getElem?_range hi]
 simp [at',List.getD_eq_getElem?_getD]
theorem f8z (v s:St) {i:Nat} (hi:i < 8):(adL v s i).set i (at' v.list i + at' s.list i) = adL v s (i + 1):=by
 unfold adL
 apply List.ext_getElem
 ·simp
 ·intro j h1 h2
  rw [List.getElem_set]
  simp only [List.getElem_map,List.getElem_range]
  by_cases hji:i = j
  ·subst hji; simp
  ·rw [if_neg hji]
   by_cases hlt:j < i
   ·rw [if_pos hlt,if_pos (by omega)]
   ·rw [if_neg hlt,if_neg (by omega)]
def AdJ (w0:World) (gh gr gs gt gv:Nat) (s:St) (sl:List W) (v:St) (l:List Value) (w':World):Prop:=∃ (v0:Value) (k:Nat),l = [v0,.int .i64 (k:Int)] ∧ k ≤ 8 ∧ MixI w0 gh gr gs gt gv s sl (adL v s k) w'
def h2j (l:List Value) (_:World):Nat:=match l with | [_,.int _ i]=>8 - i.toNat | _=>0
theorem f9a (a:Value) (q:IntKind) (i:Int) (w:World):h2j [a,.int q i] w = 8 - i.toNat:=rfl
theorem g5i {C:WK} {KQ:Value → Prop} (x:W) (u:Unit) (k:KQ (w32 (b1b x 6))):a7w Tryz.prog 211 #[w32 x,.int .i64 (-6)] C KQ:=a4l (v:=w32 (b1b x 6)) (fun w hw=>h3l x ⟨rfl,hw⟩) k
theorem f6o {C:WK} {KQ:Value → Prop} (x:W) (u:Unit) (k:KQ (w32 (b1b x 11))):a7w Tryz.prog 211 #[w32 x,.int .i64 (-11)] C KQ:=a4l (v:=w32 (b1b x 11)) (fun w hw=>g8y x ⟨rfl,hw⟩) k
theorem f6p {C:WK} {KQ:Value → Prop} (x:W) (u:Unit) (k:KQ (w32 (b1b x 25))):a7w Tryz.prog 211 #[w32 x,.int .i64 (-25)] C KQ:=a4l (v:=w32 (b1b x 25)) (fun w hw=>g8z x ⟨rfl,hw⟩) k
theorem g5j {C:WK} {KQ:Value → Prop} (x:W) (u:Unit) (k:KQ (w32 (b1b x 2))):a7w Tryz.prog 211 #[w32 x,.int .i64 (-2)] C KQ:=a4l (v:=w32 (b1b x 2)) (fun w hw=>h3m x ⟨rfl,hw⟩) k
theorem f6q {C:WK} {KQ:Value → Prop} (x:W) (u:Unit) (k:KQ (w32 (b1b x 13))):a7w Tryz.prog 211 #[w32 x,.int .i64 (-13)] C KQ:=a4l (v:=w32 (b1b x 13)) (fun w hw=>g9a x ⟨rfl,hw⟩) k
theorem f6r {C:WK} {KQ:Value → Prop} (x:W) (u:Unit) (k:KQ (w32 (b1b x 22))):a7w Tryz.prog 211 #[w32 x,.int .i64 (-22)] C KQ:=a4l (v:=w32 (b1b x 22)) (fun w hw=>g9b x ⟨rfl,hw⟩) k
theorem c4q (b:List UInt8) {B o c:Nat} (hl:b.length = 64) (hb:ByR w B o b) (k:∀ sl w',sl = a6c b 64 → Bw w w' → K (.agg (ws sl).toArray) w'):a0a Tryz.prog 209 #[.slice (some ⟨B,o,none⟩) 64 c] K w:=
 c7u b hl hb fun w' h=>k _ w' rfl h
theorem g5k (s:St) (b:List UInt8) {B o c:Nat} (hl:b.length = 64) (hb:ByR w B o b) (k:∀ w',Bw w w' → K (stV (mix s b)) w'):a0a Tryz.prog 182 #[stV s,.slice (some ⟨B,o,none⟩) 64 c] K w:=by
 apply d7g
 unfold f5k
 refine a2n (cs:=ws s.list) rfl fun gh w1 hb1 hg1 h1=>?_
 refine a0j b5t fun gr w2 hb2 hg2 h2=>?_
 refine c4q b hl ((hb.next hb1).next hb2) fun sl w3 hsl hb3=>?_
 refine f0b fun w4 hb4=>?_
 refine a0j e9y fun gs w5 hb5 hg5 h5=>?_
 refine a0j e9y fun gt w6 hb6 hg6 h6=>?_
 have hl64:sl.length = 64:=by rw [hsl]; exact a3y b 64
 refine a0h e9x (xs:=ws (sl)) rfl (by rw [List.length_map,hl64]) (b1m _) (h5.next hb6) rfl (fun w7 hg7 h7=>?_)
 have l5:=h5.lt
 have l2:=h2.lt
 have l1:=h1.lt
 have z2:=hb2.size
 have z3:=hb3.size
 have z4:=hb4.size
 have z5:=hb5.size
 have z6:=hb6.size
 have h6':=h6.other hg7 (show gt ≠ gs by omega)
 have z7:=hg7.size
 have l6:=h6.lt
 refine a0h e9x (xs:=ws consts) rfl rfl (b1m _) h6' rfl (fun w8 hg8 h8=>?_)
 have z8:=hg8.size
 have h7':=h7.other hg8 (show gs ≠ gt by omega)
 have q1:Holds w8 gh 257 (ws s.list):=(((((((h1.next hb2).next hb3).next hb4).next hb5).next hb6).other hg7 (by omega)).other hg8 (by omega))
 have q2:Holds w8 gr 257 (ws (List.replicate 8 0)):=((((((h2.next hb3).next hb4).next hb5).next hb6).other hg7 (by omega)).other hg8 (by omega))
 have qb:Bw w w8:=a0k (a0k (((((hb1.on hb2).on hb3).on hb4).on hb5).on hb6) hg7 (by have:=hb1.size; omega)) hg8 (by have:=hb1.size; omega)
 refine a1s q1 a8l rfl (by kernel_rfl) ?_
 refine a0j b5t fun gv w9 hb9 hg9 h9=>?_
 refine a0h b0w (xs:=ws s.list) rfl rfl (b1m _) h9 rfl (fun w10 hg10 h10=>?_)
 have hA:Apart w.heap.size gh gr gs gt gv:=by
  have:=hb1.size
  constructor <;> omega
 have hI:MixI w gh gr gs gt gv s (sl) s.list w10:=
  ⟨a0k (qb.on hb9) hg10 hA.v,(q1.next hb9).other hg10 hA.h,⟨_,rfl,(q2.next hb9).other hg10 hA.r⟩,(h7'.next hb9).other hg10 hA.s,(h8.next hb9).other hg10 hA.t,h10⟩
 refine ⟨h3p w gh gr gs gt gv s b sl,f8y,⟨_,_,_,_,_,0,rfl,by omega,hI⟩,?_⟩
 clear hI h10 hg10 h9 hb9 qb q2 q1 h7' z8 h8 hg8 l6 z7 h6' z6 z5 z4 z3 z2 l1 l2 l5 h7 hg7 h6 hb6 h5 hb5 hb4 hb3 h2 hb2 h1 hb1
 rintro _ _ w1 ⟨v0,v1,v2,v3,v4,i,rfl,hi,hI⟩
 by_cases hi64:i < 64
 ·have e1:b3n b s (i + 1) = g7e (b3n b s i) (at' consts i) (at' sl i):=by rw [hsl]; rfl
  obtain ⟨v',e2⟩:∃ v',v' = b3n b s (i + 1):=⟨_,rfl⟩
  rw [← e2] at e1
  generalize b3n b s i = v at *
  refine Xa0 ?_
  refine ⟨fun w'=>w' = { w1 with drawn:=w1.drawn + 1 },rfl,?_⟩
  have hI:=hI.drew
  generalize ({ w1 with drawn:=w1.drawn + 1 }:World) = w2 at hI ⊢
  have c4:w2.cell? ⟨gv,4,none⟩ = some (w32 v.e):=a2b hI.v 4 (show (4:Nat) < 8 by decide)
  repeat (any_goals (first
  | (with_reducible refine g5i _ () ?_) | (with_reducible refine f6o _ () ?_) | (with_reducible refine f6p _ () ?_) | (with_reducible refine g5j _ () ?_) | (with_reducible refine f6q _ () ?_) | (with_reducible refine f6r _ () ?_)
  | (with_reducible first|refine And.intro (Eq.refl (α:=World) _) ?_|refine b0z ?_)
  | ((with_reducible refine f9l ?_); ((with_reducible refine d0z ?_ ?_); exact ⟨_,rfl⟩))
  | ((with_reducible refine oG fun X Y=>?_); simp [go_sem,c4,g8f]; apply Y; clear Y X)))
  have hI:=hI.drew
  clear c4
  refine ⟨fun w'=>w' = { w2 with drawn:=w2.drawn + 1 },rfl,?_⟩
  generalize ({ w2 with drawn:=w2.drawn + 1 }:World) = w3 at hI ⊢
  have c4:w3.cell? ⟨gv,4,none⟩ = some (w32 v.e):=a2b hI.v 4 (show (4:Nat) < 8 by decide)
  have c5:w3.cell? ⟨gv,5,none⟩ = some (w32 v.f):=a2b hI.v 5 (show (5:Nat) < 8 by decide)
  have c6:w3.cell? ⟨gv,6,none⟩ = some (w32 v.g):=a2b hI.v 6 (show (6:Nat) < 8 by decide)
  have c7:w3.cell? ⟨gv,7,none⟩ = some (w32 v.h):=a2b hI.v 7 (show (7:Nat) < 8 by decide)
  have ck:=a2b hI.tab i (by rw [c2b]; exact hi64)
  have cs:=a2b hI.sch i (by rw [hl64]; exact hi64)
  refine Xg (An9 @c4 @c5 @c6 @c7 @ck @cs @g8f @g8e @h2w) ?_
  clear c4 c5 c6 c7 ck cs
  have hI:=hI.drew
  refine ⟨fun w'=>w' = { w3 with drawn:=w3.drawn + 1 },rfl,?_⟩
  generalize ({ w3 with drawn:=w3.drawn + 1 }:World) = w4 at hI ⊢
  have c0:w4.cell? ⟨gv,0,none⟩ = some (w32 v.a):=a2b hI.v 0 (show (0:Nat) < 8 by decide)
  have c1:w4.cell? ⟨gv,1,none⟩ = some (w32 v.b):=a2b hI.v 1 (show (1:Nat) < 8 by decide)
  have c2:w4.cell? ⟨gv,2,none⟩ = some (w32 v.c):=a2b hI.v 2 (show (2:Nat) < 8 by decide)
  have c3:w4.cell? ⟨gv,3,none⟩ = some (w32 v.d):=a2b hI.v 3 (show (3:Nat) < 8 by decide)
  have c4:w4.cell? ⟨gv,4,none⟩ = some (w32 v.e):=a2b hI.v 4 (show (4:Nat) < 8 by decide)
  have c5:w4.cell? ⟨gv,5,none⟩ = some (w32 v.f):=a2b hI.v 5 (show (5:Nat) < 8 by decide)
  have c6:w4.cell? ⟨gv,6,none⟩ = some (w32 v.g):=a2b hI.v 6 (show (6:Nat) < 8 by decide)
  repeat (any_goals (first
  | (with_reducible refine g5i _ () ?_) | (with_reducible refine f6o _ () ?_) | (with_reducible refine f6p _ () ?_) | (with_reducible refine g5j _ () ?_) | (with_reducible refine f6q _ () ?_) | (with_reducible refine f6r _ () ?_)
  | (with_reducible first|refine And.intro (Eq.refl (α:=World) _) ?_|refine b0z ?_)
  | ((with_reducible refine f9l ?_); ((with_reducible refine d0z ?_ ?_); exact ⟨_,rfl⟩))
  | ((with_reducible refine oG fun X Y=>?_); simp [go_sem,c0,c1,c2,c3,c4,c5,c6,g8f,g8e,h2w,wor,g5g]; apply Y; clear Y X)))
  refine a0h b0w (xs:=ws v'.list) (by rw [e1]; rfl) rfl (b1m _) hI.v rfl (fun w5 hg5 h5=>?_)
  have hI:=hI.wrote hA hg5 h5
  refine Xa0 ?_
  refine ⟨⟨_,_,_,_,_,i + 1,rfl,hi64,by rw [← e2]; exact hI⟩,?_⟩
  simp only [d0o]; omega
 ·obtain rfl:i = 64:=by omega
  have em:stV (mix s b) = .agg (ws (adL (b3n b s 64) s 8)).toArray:=rfl
  rw [em] at k
  clear em
  generalize b3n b s 64 = v at *
  refine Xa0 ?_
  refine ⟨AdJ w gh gr gs gt gv s sl v,h2j,⟨_,0,rfl,by omega,hI⟩,?_⟩
  clear hI
  rintro _ _ w2 ⟨v0,j,rfl,hj,hI⟩
  by_cases hj8:j < 8
  ·refine Xa0 ?_
   have hI:=hI.drew
   have cv:=a2b hI.v j (by rw [d2u]; exact hj8)
   have ch:=a2b hI.h j (show j < 8 from hj8)
   rw [g5h v s hj8] at cv
   refine ⟨Zr (fun w'=>w'.cell? ⟨gv,j,none⟩ = some (w32 (at' v.list j)) ∧ w'.cell? ⟨gh,j,none⟩ = some (w32 (at' s.list j))),fun _=>⟨cv,ch⟩,?_⟩
   repeat (any_goals (first
   | (with_reducible refine pX ?_)
   | ((with_reducible refine b2p ?_); (with_reducible refine a2f ⟨_,rfl⟩ (fun W0 hW0=>by (refine oG (fun X Y=>?_)); simp [go_sem,(g9f hW0).1,(g9f hW0).2,g8e]; (first | exact Y _ _ ⟨rfl,rfl⟩ | exact ⟨by omega,Y _ _ ⟨rfl,rfl⟩⟩)) ?_))))
   refine a3m e0a rfl rfl hI.v (by simp [adL,hj8]) (fun W hg2 hh=>?_)
   refine ⟨fun h=>by omega,?_⟩
   have hI:=hI.wrote hA hg2 (u:=adL v s (j + 1)) (by rw [← f8z v s hj8]; unfold ws at hh ⊢; rw [List.map_set]; exact hh)
   refine Xa0 ?_
   refine ⟨⟨_,j + 1,rfl,hj8,hI⟩,?_⟩
   simp only [f9a]; omega
  ·obtain rfl:j = 8:=by omega
   refine Xa0 ?_
   refine a1s hI.v a8l rfl (by kernel_rfl) ?_
   obtain ⟨zs,hz,hr⟩:=hI.r
   refine a0h b0w (xs:=ws (adL v s 8)) rfl rfl (b1m _) hr hz (fun W hg2 hh=>?_)
   exact a4z hh a8l rfl (by kernel_rfl) (k _ (a0k hI.below hg2 hA.r0))
end
section
variable {K:VK} {w w0:World}
structure Buf (w0:World) (v:Value) (l:List UInt8) (w:World):Prop where
 below:Bw w0 w
 row:BufM w 5 v l
 own:∀ i,v.ownBlock = some i → w0.heap.size ≤ i
theorem Buf.next {v:Value} {l:List UInt8} {w':World} (h:Buf w0 v l w) (hb:Bw w w'):Buf w0 v l w':=by
 refine ⟨h.below.on hb,h.row.keep (fun i hi=>?_),h.own⟩
 obtain ⟨g,c,rfl,hlt⟩:=h.row.shape
 cases hi
 exact hb.block g hlt
def lo8 (x:W):UInt8:=UInt8.ofNat x.toNat
theorem f9b (T:TypeId) (x:W):oM Tryz.prog (.convert 255 5 (.tmp 0)) T [w32 x] = a0c (.int .u8 ((lo8 x).toNat:Int)):=by
 unfold lo8
 funext K w
 have e:IntKind.u8.wrap (x.toNat:Int) = ((UInt8.ofNat x.toNat).toNat:Int):=by
  rw [IntKind.wrap_u8,UInt8.toNat_ofNat']
  omega
 have e2:(convert 255 5 (w32 x)).run Tryz.prog w = .ok (.int .u8 (IntKind.u8.wrap (x.toNat:Int))) w:=by kernel_rfl
 rw [c0i,e2,e]
 rfl
theorem g5l (T:TypeId) (s:St) (i:Nat) (hi:i < 8):oM Tryz.prog (.index 257 (.tmp 0) (.tmp 1)) T [stV s,.int .i64 (i:Int)] = a0c (w32 (at' s.list i)):=by
 have e:∀ w,(Instr.index 257 (stV s) (.int .i64 (i:Int))).run Tryz.prog w = .ok (w32 (at' s.list i)) w:=by
  intro w
  rcases i with _ | _ | _ | _ | _ | _ | _ | _ | i
  all_goals first | omega | kernel_rfl
 funext K w
 rw [a5a (S:=Instr.index 257 (stV s) (.int .i64 (i:Int))) rfl,e]
 rfl
theorem h3q {T:TypeId} (a b c d:UInt8) (k:∀ g W,Bw w W → (∀ j u,(Lib.byteCells [a,b,c,d])[j]? = some u → W.cell? ⟨g,j,none⟩ = some u) → K (.slice (some ⟨g,0,none⟩) 4 4) W) :
  oM Tryz.prog (.buildSlice 202 4 #[(0,.tmp 0),(1,.tmp 1),(2,.tmp 2),(3,.tmp 3)]) T [.int .u8 (a.toNat:Int),.int .u8 (b.toNat:Int),.int .u8 (c.toNat:Int),.int .u8 (d.toNat:Int)] K w:=by
 have e:(Instr.buildSlice 202 4 #[(0,.int .u8 (a.toNat:Int)),(1,.int .u8 (b.toNat:Int)),(2,.int .u8 (c.toNat:Int)),(3,.int .u8 (d.toNat:Int))]).run Tryz.prog w = .ok (.slice (some ⟨w.heap.size,0,none⟩) 4 4) (w.alloc (.cells (Lib.byteCells [a,b,c,d]).toArray 5)):=by kernel_rfl
 rw [a5a (S:=Instr.buildSlice 202 4 #[(0,.int .u8 (a.toNat:Int)),(1,.int .u8 (b.toNat:Int)),(2,.int .u8 (c.toNat:Int)),(3,.int .u8 (d.toNat:Int))]) (by simp [xop,execOp,a0w,evE]),e]
 refine k _ _ ((Below.refl _ w).alloc (rL) _) (fun j u hj=>?_)
 have:=World.cell?_alloc_at (w:=w) (Lib.byteCells [a,b,c,d]).toArray 5 w.heap.size j rfl
 rw [this]
 simpa using hj
abbrev g5m (w:World) (B:Nat) (v:Value) (l:List UInt8):Prop:=w.ownsRow B 5 1 v l.length (Lib.byteCells l)
theorem g9g {B:Nat} {T T':TypeId} {v:Value} {l:List UInt8} (a b c d:UInt8) (ho:g5m w B v l) (hB:B ≤ w.heap.size) (hl:l.length < 1099511627776) (k:∀ v' w',g5m w' B v' (l ++ [a,b,c,d]) → Below B w w' → K v' w') :
  oM Tryz.prog (.buildSlice 202 4 #[(0,.tmp 0),(1,.tmp 1),(2,.tmp 2),(3,.tmp 3)]) T [.int .u8 (a.toNat:Int),.int .u8 (b.toNat:Int),.int .u8 (c.toNat:Int),.int .u8 (d.toNat:Int)] (fun u w=>oM Tryz.prog (.call { callee:=.builtin .append,args:=#[.tmp 0,.tmp 1],argTypes:=#[202,202] }) T' [v,u] K w) w:=by
 refine h3q a b c d fun g W hb hc=>?_
 have ho2:g5m W B v l:=a1a ho (fun i hi=>hb.block i (a0t ho hi).1)
 refine a8a 202 T' 5 ((Tryz.prog.info? 5).getD default) (.int .u8 0) 1 1 (by kernel_rfl) (by kernel_rfl) (by kernel_rfl) (by kernel_rfl) (by kernel_rfl) (by kernel_rfl) (by omega) (a7z ho2 (Nat.zero_le _)) (Lib.byteCells [a,b,c,d]) rfl (by simp) ?_ ?_ (by simp only [maxLen]; omega) (by omega) ?_
 ·rintro ad ha j u hj
  cases ha
  rw [a2j,Nat.zero_add]
  exact hc j u hj
 ·intro u hu
  simp only [Lib.byteCells,List.mem_map] at hu
  obtain ⟨x,_,rfl⟩:=hu
  rfl
 ·intro v' w' ho' hg hv
  have hbl:∀ i,v.ownBlock = some i → B ≤ i:=fun i hi=>(a0t ho hi).2.1
  have hBW:=Nat.le_trans hB hb.size
  refine k v' w' ?_ ((hb.mono hB).grown hg hBW hbl)
  have e2:Lib.byteCells (l ++ [a,b,c,d]) = Lib.byteCells l ++ Lib.byteCells [a,b,c,d]:=by simp [Lib.byteCells]
  show w'.ownsRow B 5 1 v' (l ++ [a,b,c,d]).length (Lib.byteCells (l ++ [a,b,c,d]))
  rw [List.length_append,e2]
  refine ⟨ho'.1,ho'.2.imp id ?_⟩
  rintro ⟨g,cap,cur,rfl,hb',hr⟩
  exact ⟨g,cap,cur,rfl,(hv g rfl).elim (hbl g) (fun h=>Nat.le_trans hBW h),hr⟩
theorem g5n {B:Nat} {T:TypeId} {v:Value} {l:List UInt8} (ho:g5m w B v l) (hne:0 < l.length) (k:K (.string ⟨l.toArray⟩) w):oM Tryz.prog (.convert 202 9 (.tmp 0)) T [v] K w:=by
 obtain ⟨g,cap,cur,rfl,hlt,_,_,_,_,hc⟩:=a3a ho hne
 have:=run_convert_bytes_back (P:=Tryz.prog) w 202 9 5 ⟨g,0,none⟩ cap l (by kernel_rfl) (by kernel_rfl) (by kernel_rfl) (fun j hj=>by
  rw [a2j,Nat.zero_add]
  exact hc j _ (by simp [Lib.byteCells,hj]))
 rw [a5a (S:=convert 202 9 (.slice (some ⟨g,0,none⟩) l.length cap)) rfl,this]
 exact k
theorem e0d {T:TypeId} {a:Option Addr} {n c:Nat} (hc:64 ≤ c) (k:K (.slice a 64 c) w):oM Tryz.prog (.slice 202 (.tmp 0) none (some (.tmp 1)) none) T [.slice a n c,.int .i64 64] K w:=
 c0e (by kernel_rfl) (sz:=1) (fun w=>by kernel_rfl) 64 hc k
theorem c7v {T:TypeId} {g o n c:Nat} (hn:64 ≤ n) (hc:n ≤ c) (k:∀ ad,(64 < c → ad = some ⟨g,o + 64,none⟩) → K (.slice ad (n - 64) (c - 64)) w):oM Tryz.prog (.slice 202 (.tmp 0) (some (.tmp 1)) none none) T [.slice (some ⟨g,o,none⟩) n c,.int .i64 64] K w:=by
 have hs:∀ w,(sizeOf (Tryz.prog.elem 202)).run Tryz.prog w = .ok 1 w:=fun w=>by kernel_rfl
 rw [b5f,run_sliceAt_slice w 202 _ _ _ _ (by kernel_rfl),run_slice_l w 202 _ n c (by kernel_rfl) .i64 64 (by omega) (by omega),hs]
 simp only [Result.andThen_ok,sliced]
 refine k _ (fun h=>?_)
 rw [if_neg (show ¬ c = (64:Int).toNat by show ¬ c = 64; omega)]
 rfl
theorem g5o (l:List UInt8) {T:TypeId} (k:∀ v w',Buf w v l w' → K v w'):oM Tryz.prog (.convert 9 202 (.tmp 0)) T [.string ⟨l.toArray⟩] K w:=by
 refine f0r (e:=5) (by kernel_rfl) (by kernel_rfl) (by kernel_rfl) l (fun v w' hb hg ho hs=>k v w' ⟨(bR).grown hg (rL) (fun i hi=>by cases hi),hb,fun i hi=>?_⟩)
 rw [ho] at hi
 cases hi
 exact rL
theorem h3r {T:TypeId} (x:UInt8) (k:∀ g W,Bw w W → W.cell? ⟨g,0,none⟩ = some (.int .u8 (x.toNat:Int)) → K (.slice (some ⟨g,0,none⟩) 1 1) W):oM Tryz.prog (.buildSlice 202 1 #[(0,.tmp 0)]) T [.int .u8 (x.toNat:Int)] K w:=by
 rw [a2o]
 have e:(Instr.buildSlice 202 1 #[(0,.int .u8 (x.toNat:Int))]).run Tryz.prog w = .ok (.slice (some ⟨w.heap.size,0,none⟩) 1 1) (w.alloc (.cells #[.int .u8 (x.toNat:Int)] 5)):=by kernel_rfl
 rw [e]
 refine k _ _ ((Below.refl _ w).alloc (rL) _) ?_
 have:=World.cell?_alloc_at (w:=w) #[.int .u8 (x.toNat:Int)] 5 w.heap.size 0 rfl
 rw [this]
 rfl
theorem push {T T':TypeId} {v:Value} {l:List UInt8} (x:UInt8) {n:Int} (hx:n = (x.toNat:Int)) (h:Buf w0 v l w) (hl:l.length + 1 ≤ 1099511627776) (k:∀ v' w',Buf w0 v' (l ++ [x]) w' → K v' w') :
  oM Tryz.prog (.buildSlice 202 1 #[(0,.tmp 0)]) T [.int .u8 n] (fun u w=>oM Tryz.prog (.call { callee:=.builtin .append,args:=#[.tmp 0,.tmp 1],argTypes:=#[202,202] }) T' [v,u] K w) w:=by
 subst hx
 refine h3r x fun g W hb hc=>?_
 have h:=h.next hb
 refine f0s (e:=5) (i:=(Tryz.prog.info? 5).getD default) (by kernel_rfl) (by kernel_rfl) (by kernel_rfl) (by kernel_rfl) (by kernel_rfl) h.row hc hl (fun v' w' hb' hg hv=>k v' w' ⟨h.below.grown hg h.below.size h.own,hb',fun i hi=>?_⟩)
 rcases hv with hv | ⟨g',hv,hlt⟩
 ·exact h.own i (by rw [← hv]; exact hi)
 ·rw [hv] at hi
  cases hi
  exact Nat.le_trans h.below.size hlt
theorem f6s {g n c:Nat} {l:List UInt8} (h:BufM w 5 (.slice (some ⟨g,0,none⟩) n c) l):ByR w g 0 l:=by
 obtain ⟨g',cap,cur,fz,hv,hg,hfz,hcs,hlc,hcell⟩:=h
 cases hv
 refine ⟨(Array.getElem?_eq_some_iff.1 hg).1,fun i hi=>?_⟩
 rw [Nat.zero_add,a0b hg,hcell i hi]
 simp [List.getD_eq_getElem?_getD,hi]
theorem g5p {g n c:Nat} {l:List UInt8} {v:Value} (h:BufM w 5 v l) (e:v = .slice (some ⟨g,0,none⟩) n c):l.length ≤ c:=by
 obtain ⟨g',cap,cur,fz,hv,hg,hfz,hcs,hlc,hcell⟩:=h
 rw [e] at hv
 cases hv
 exact hlc
theorem ByR.other {b o g:Nat} {l:List UInt8} {w':World} (h:ByR w b o l) (hg:w.grownBy w' (some g)) (hne:b ≠ g):ByR w' b o l:=
 ⟨lL h.1 hg.size,fun i hi=>by
  rw [← h.2 i hi]
  unfold World.cell?
  rw [hg.block b h.1 (fun e=>hne (by cases e; rfl))]⟩
theorem ByR.part {b o:Nat} {l:List UInt8} (h:ByR w b o l) (i n:Nat) (hn:i + n ≤ l.length):ByR w b (o + i) ((l.drop i).take n):=by
 refine ⟨h.1,fun j hj=>?_⟩
 have hj':j < n:=by rw [List.length_take,List.length_drop] at hj; omega
 rw [Nat.add_assoc,h.2 (i + j) (by omega)]
 congr 3
 rw [List.getD_eq_getElem?_getD,List.getD_eq_getElem?_getD,List.getElem?_take_of_lt hj',List.getElem?_drop]
def BkJ (w0:World) (g gb:Nat) (p:List UInt8) (m:Nat) (R:St) (l:List Value) (w':World):Prop:=
 ∃ (ad:Option Addr) (c t:Nat) (st:St),l = [.slice ad (64 * (m - t)) c] ∧ t ≤ m ∧ 64 * (m - t) ≤ c ∧ (t < m → ad = some ⟨gb,64 * t,none⟩) ∧ Bw w0 w' ∧ ByR w' gb 0 p ∧ Holds w' g 257 (ws st.list) ∧ b7z (m - t) st (p.drop (64 * t)) = R
def h2k (l:List Value) (_:World):Nat:=match l with | [.slice _ m _]=>m | _=>0
theorem f9c (m c:Nat) (a:Option Addr) (w:World):h2k [.slice a m c] w = m:=rfl
def f9d (st:St) (i:Nat):List UInt8:=((st.list.take i).map g1h).flatten
theorem b7a (st:St) (i:Nat) (hi:i ≤ 8):(f9d st i).length = 4 * i:=by
 unfold f9d St.list
 rcases i with _ | _ | _ | _ | _ | _ | _ | _ | _ | i
 all_goals first | omega | rfl
theorem f9e (x:W):g1h x = [lo8 (x >>> 24),lo8 (x >>> 16),lo8 (x >>> 8),lo8 x]:=by
 simp only [g1h,lo8,BitVec.toNat_ushiftRight,Nat.shiftRight_eq_div_pow]
theorem e0e (st:St) (i:Nat) (hi:i < 8):f9d st (i + 1) = f9d st i ++ [lo8 (at' st.list i >>> 24),lo8 (at' st.list i >>> 16),lo8 (at' st.list i >>> 8),lo8 (at' st.list i)]:=by
 rw [← f9e]
 unfold f9d
 have hl:i < st.list.length:=hi
 rw [List.take_add_one,gE hl,List.map_append,List.flatten_append]
 simp [at',List.getD_eq_getElem?_getD,hl]
def h3s (w0:World) (st:St) (l:List Value) (w':World):Prop:=∃ (u v:Value) (i:Nat),l = [u,v,.int .i64 (i:Int)] ∧ i ≤ 8 ∧ g5m w' w0.heap.size v (f9d st i) ∧ Bw w0 w'
def g5q (l:List Value) (_:World):Nat:=match l with | [_,_,.int _ i]=>8 - i.toNat | _=>0
theorem f0c (a b:Value) (q:IntKind) (i:Int) (w:World):g5q [a,b,.int q i] w = 8 - i.toNat:=rfl
def ZeJ (w0:World) (s:List UInt8) (l:List Value) (w':World):Prop:=∃ v j,l = [v] ∧ j ≤ b2d s.length ∧ Buf w0 v (s ++ [128] ++ List.replicate j 0) w'
theorem b7b (s:List UInt8) (j:Nat):(s ++ [(128:UInt8)] ++ List.replicate j 0).length = s.length + 1 + j:=by simp; omega
def h2l (n:Nat) (l:List Value) (_:World):Nat:=match l with | [.slice _ m _]=>n - m | _=>0
theorem f9f (n m c:Nat) (a:Option Addr) (w:World):h2l n [.slice a m c] w = n - m:=rfl
def LeJ (w0:World) (s:List UInt8) (l:List Value) (w':World):Prop:=∃ (v:Value) (j:Nat),l = [v,.int .i64 (56 - 8 * (j:Int))] ∧ j ≤ 8 ∧ Buf w0 v (s ++ [128] ++ List.replicate (b2d s.length) 0 ++ (a6m s.length).take j) w'
def h2m (l:List Value) (_:World):Nat:=match l with | [_,.int _ i]=>(i + 8).toNat | _=>0
theorem f9g (a:Value) (q:IntKind) (i:Int) (w:World):h2m [a,.int q i] w = (i + 8).toNat:=rfl
theorem f9h (n j:Nat) (hj:j < 8) (hn:n < 1099511627776):(IntKind.u8.wrap (8 * (n:Int) / 2 ^ (56 - 8 * (j:Int)).toNat)) = (((a6m n).getD j 0).toNat:Int):=by
 have e1:8 * (n:Int) = ((8 * n:Nat):Int):=by omega
 have e2:(56 - 8 * (j:Int)).toNat = 8 * (7 - j):=by omega
 have e3:(a6m n).getD j 0 = UInt8.ofNat (8 * n / 2 ^ (8 * (7 - j))):=by
  unfold a6m
  rcases j with _ | _ | _ | _ | _ | _ | _ | _ | j <;> first | rfl | omega
 rw [e1,e2,e3,IntKind.wrap_u8,UInt8.toNat_ofNat']
 generalize 8 * (7 - j) = q
 have:((8 * n:Nat):Int) / 2 ^ q = ((8 * n / 2 ^ q:Nat):Int):=by
  rw [Int.natCast_ediv,Int.natCast_pow]; rfl
 rw [this]
 omega
theorem e0f (l:List UInt8) (j:Nat) (hj:j < l.length):l.take (j + 1) = l.take j ++ [l.getD j 0]:=by
 rw [List.take_add_one,List.getD_eq_getElem?_getD,gE hj]
 rfl
theorem g5r (s:List UInt8) (hs:s.length ≤ 1000000000) (k:∀ w',Bw w w' → K (.string ⟨(sha s).toArray⟩) w'):a0a Tryz.prog 143 #[.string ⟨s.toArray⟩] K w:=by
 apply d7e
 unfold f5i
 refine g5o s fun v1 w1 h1=>?_
 refine push 128 rfl h1 (by omega) (fun v2 w2 h2=>?_)
 refine ⟨ZeJ w s,h2l (s.length + 1 + b2d s.length),⟨_,0,rfl,by omega,by simpa using h2⟩,?_⟩
 clear h2 w2 v2 h1 w1 v1
 rintro _ _ w1 ⟨v1,j,rfl,hj,h1⟩
 obtain ⟨g1,c1,rfl,hlt1⟩:=h1.row.shape
 have hz:b2d s.length < 64:=by unfold b2d; omega
 by_cases hjz:j < b2d s.length
 ·have hm:¬ ((s.length:Int) + 1 + (j:Int)).tmod 64 = 56:=by
   rw [Int.tmod_eq_emod_of_nonneg (by omega)]; unfold b2d at hjz; omega
  rw [b7b] at *
  repeat (any_goals (first
  | ((with_reducible refine push 0 rfl h1 (by rw [b7b]; omega) ?_); intro v2 w2 h2)
  | (with_reducible refine yL ?_)
  | ((with_reducible refine oG fun X Y=>?_); simp [go_sem,hm]; apply Y; clear Y X)))
  have e:s ++ [(128:UInt8)] ++ List.replicate j 0 ++ [0] = s ++ [128] ++ List.replicate (j + 1) 0:=by
   simp [List.replicate_succ',List.append_assoc]
  rw [e] at h2
  obtain ⟨g2,c2,rfl,hlt2⟩:=h2.row.shape
  refine ⟨⟨_,j + 1,rfl,hjz,h2⟩,?_⟩
  rw [b7b]
  simp only [f9f]; omega
 ·obtain rfl:j = b2d s.length:=by omega
  have hm:((s.length:Int) + 1 + (b2d s.length:Int)).tmod 64 = 56:=by
   rw [Int.tmod_eq_emod_of_nonneg (by omega)]; unfold b2d; omega
  rw [b7b] at *
  refine Xa @hm ?_
  refine ⟨LeJ w s,h2m,⟨_,0,rfl,by omega,by simpa using h1⟩,?_⟩
  clear h1 hlt1 hm
  rintro _ _ w1 ⟨v1,j,rfl,hj,h1⟩
  have hle:(s ++ [(128:UInt8)] ++ List.replicate (b2d s.length) 0 ++ (a6m s.length).take j).length = s.length + 1 + b2d s.length + j:=by
   rw [List.length_append,b7b,List.length_take,a5b]; omega
  by_cases hj8:j < 8
  ·have hq:IntKind.u64.wrap (s.length:Int) = (s.length:Int):=a1p _ (by omega) (by omega)
   have hsh:=fun t t' T x=>b5u (P:=Tryz.prog) t t' T .i64 x (56 - 8 * (j:Int)) (by omega) (by omega)
   repeat (any_goals (first
   | ((with_reducible refine push ((a6m s.length).getD j 0) (f9h _ _ hj8 (by omega)) h1 (by omega) ?_); intro v2 w2 h2)
   | (with_reducible refine yN ?_)
   | ((with_reducible refine oG fun X Y=>?_); simp [go_sem,hq,hsh]; (try simp (disch:=omega) only [a0p,a3g,a1p]); apply Y; clear Y X)))
   refine ⟨⟨_,j + 1,by rw [show 56 - 8 * (j:Int) - 8 = 56 - 8 * ((j + 1:Nat):Int) by omega],hj8,?_⟩,?_⟩
   ·rw [e0f _ _ (by rw [a5b]; exact hj8),← List.append_assoc]
    exact h2
   ·simp only [f9g]; omega
  ·obtain rfl:j = 8:=by omega
   rw [List.take_of_length_le (by rw [a5b]; omega)] at h1 hle
   have hpad:s ++ [(128:UInt8)] ++ List.replicate (b2d s.length) 0 ++ a6m s.length = a8c s:=rfl
   rw [hpad] at h1 hle
   have hp64:=c2c s
   obtain ⟨m,hm⟩:∃ m,(a8c s).length = 64 * m:=⟨(a8c s).length / 64,by omega⟩
   refine Xa0 ?_
   refine f0a fun w2 hb2=>?_
   have h2:=h1.next hb2
   refine a0j b5t fun g w3 hb3 hg3 h3=>?_
   have h4:=h2.next hb3
   obtain ⟨gb,c,rfl,hlt⟩:=h2.row.shape
   refine a0h b0w (xs:=ws first.list) rfl rfl (b1m _) h3 rfl (fun w4 hg4 hh=>?_)
   have zb:=h1.below.size
   have hby:=(f6s h4.row).other hg4 (by omega)
   have hbw:Bw w w4:=a0k h4.below hg4 (by have:=hb2.size; have:=h2.below.size; omega)
   have ef:sha s = ((b7z m first (a8c s)).list.map g1h).flatten:=by
    unfold sha
    rw [hm,Nat.mul_div_cancel_left m (by omega)]
   refine ⟨BkJ w g gb (a8c s) m (b7z m first (a8c s)),h2k,⟨_,_,0,first,by rw [hm]; rfl,by omega,by have:=g5p h4.row rfl; omega,fun _=>rfl,hbw,hby,hh,rfl⟩,?_⟩
   have hgw:w.heap.size ≤ g:=Nat.le_trans h2.below.size hg3
   have hgb:gb ≠ g:=by omega
   clear hh hby hbw hg4 h4 hlt h3 hg3 hb3 h2 hb2 h1 zb w4 w3 w2
   rintro _ _ w2 ⟨ad,c,t,st,rfl,ht,hc,had,hbw,hby,hh,hbl⟩
   by_cases htm:t < m
   ·obtain ⟨r,hr⟩:∃ r,m - t = r + 1:=⟨m - t - 1,by omega⟩
    obtain rfl:=had htm
    rw [hr] at hbl hc ⊢
    refine Xa0 ?_
    refine ⟨Zr (fun w'=>w' = { w2 with drawn:=w2.drawn + 1 }),fun _=>rfl,?_⟩
    have hh:=hh.next (.drawn (B:=w2.heap.size))
    have hby:=hby.next (.drawn (B:=w2.heap.size))
    have hbw:=hbw.on (.drawn (B:=w2.heap.size))
    generalize ({ w2 with drawn:=w2.drawn + 1 }:World) = w3 at hh hby hbw ⊢
    refine a2f (v:=stV st) ⟨_,rfl⟩ (fun W0 hW0=>by
     obtain rfl:=g9f hW0
     exact a1s hh a8l rfl (by kernel_rfl) ⟨rfl,rfl⟩) ?_
    refine pX ?_
    refine a2f (v:=.slice (some ⟨gb,64 * t,none⟩) 64 c) ⟨_,rfl⟩ (fun W0 hW0=>e0d (by omega) ⟨rfl,rfl⟩) ?_
    have hpart:=hby.part (64 * t) 64 (by omega)
    rw [Nat.zero_add] at hpart
    refine g5k st _ (by rw [List.length_take,List.length_drop]; omega) hpart (fun w4 hb4=>?_)
    refine ⟨fun h=>by omega,?_⟩
    refine a0h b0w (xs:=ws (mix st _).list) rfl rfl (b1m _) (hh.next hb4) rfl (fun w5 hg5 hh5=>?_)
    refine ⟨fun h=>by omega,?_⟩
    refine c7v (by omega) (by omega) (fun ad' had'=>?_)
    have e1:64 * (r + 1) - 64 = 64 * (m - (t + 1)):=by omega
    rw [e1]
    refine ⟨⟨ad',c - 64,t + 1,_,rfl,by omega,by omega,fun h=>had' (by omega),a0k (hbw.on hb4) hg5 hgw,(hby.next hb4).other hg5 hgb,hh5,?_⟩,?_⟩
    ·rw [show m - (t + 1) = r by omega,← hbl]
     show _ = b7z r (mix st ((List.drop (64 * t) (a8c s)).take 64)) ((List.drop (64 * t) (a8c s)).drop 64)
     rw [List.drop_drop,show 64 * t + 64 = 64 * (t + 1) by omega]
    ·simp only [f9c]; omega
   ·obtain rfl:t = m:=by omega
    rw [Nat.sub_self] at hbl ⊢
    refine Xa0 ?_
    refine a1s hh a8l rfl (by kernel_rfl) ?_
    have hst:st = b7z t first (a8c s):=hbl
    rw [← hst] at ef
    refine ⟨h3s w st,g5q,⟨_,_,0,rfl,by omega,⟨rfl,.inl ⟨rfl,rfl⟩⟩,hbw⟩,?_⟩
    rintro _ _ w3 ⟨u3,v3,i,rfl,hi,ho,hb3⟩
    by_cases hi8:i < 8
    ·have hix:=fun T=>g5l T st i hi8
     repeat (any_goals (first
     | ((with_reducible refine g9g _ _ _ _ ho hb3.size (by have:=b7a st i hi; omega) ?_); intro v4 w4 ho4 hb4)
     | (with_reducible refine yN ?_)
     | ((with_reducible refine oG fun X Y=>?_); simp [go_sem,hix,g8w,g8x,h3k,f9b]; (try simp (disch:=omega) only [a0p,a3g,a1p]); apply Y; clear Y X)))
     rw [← e0e st i hi8] at ho4
     refine ⟨⟨_,_,i + 1,rfl,hi8,ho4,hb3.trans hb4⟩,?_⟩
     simp only [f0c]; omega
    ·obtain rfl:i = 8:=by omega
     have e8:f9d st 8 = sha s:=by rw [ef]; rfl
     repeat (any_goals (first
     | ((with_reducible refine g5n ho (by rw [b7a st 8 (by omega)]; omega) ?_))
     | (with_reducible refine yM ?_)
     | ((with_reducible refine oG fun X Y=>?_); simp [go_sem]; apply Y; clear Y X)))
     rw [e8]
     exact k _ hb3
end
end Go.Proofs
namespace Go.Proofs
open Go.Sh Tryz
variable {a0 a1 a2:Value} {K:VK} {w:World}
def g2b (a0 a1:Value) (K:VK) (w:World):Prop:=
 a0a prog 142 #[a1] (fun v9=>
 kU v9 fun v10=>
 kO v10 (K (.int .i64 0))
 (a0a prog 143 #[a0] fun v12=>
 oM prog (.convert 9 202 (.tmp 0)) 202 [v12] fun v13=>
 kN 202 v13 fun v14=>
 kQ [undef,(.int .i64 0),(.int .i64 0)] fun J_6 m_7 l_8 u_l_8 w0_l_8=>(fun w=>(
 kB .lss 3 0 (l_8.getD 2 undef) v14 (fun v16=>
 kO v16 (kI 202 v13 (l_8.getD 2 undef) fun v17=>
 kL 5 v17 fun v18=>
 a0a prog 145 #[a1,(l_8.getD 1 undef),(.int .i64 256)] fun v22=>
 oM prog (.convert 5 3 (.tmp 0)) 3 [v18] fun v24=>
 a0a prog 144 #[a1,v22,v24] fun v25=>
 kB .add 3 3 (l_8.getD 2 undef) (.int .i64 1) fun v26=>
 kJ J_6 m_7 l_8 w0_l_8 [v18,v25,v26])
 (K (l_8.getD 1 undef))) w)) w0_l_8)) w
theorem e5w (h:g2b a0 a1 K w):a0a prog 93 #[a0,a1] K w:=
 cZ (fun _=>0) func93 h
def g2c (a0:Value) (K:VK) (w:World):Prop:=
 oM prog (.box 26 (.tmp 0)) 0 [a0] (fun v1=>
 kF 26 0 v1 fun v3=>
 kL 3 v3 fun v4=>
 kF 26 1 v1 fun v5=>
 kL 3 v5 fun v6=>
 kF 26 2 v1 fun v7=>
 kL 3 v7 fun v8=>
 kF 26 3 v1 fun v9=>
 kL 3 v9 fun v10=>
 kF 26 4 v1 fun v11=>
 kL 3 v11 fun v12=>
 kF 26 5 v1 fun v13=>
 kL 3 v13 fun v14=>
 oM prog (.buildSlice 22 6 #[(0,(.tmp 0)),(1,(.tmp 1)),(2,(.tmp 2)),(3,(.tmp 3)),(4,(.tmp 4)),(5,(.tmp 5))]) 22 [v4,v6,v8,v10,v12,v14] fun v15=>
 a0a prog 61 #[v15] fun v16=>
 K v16) w
theorem e5x (h:g2c a0 K w):a0a prog 94 #[a0] K w:=
 cZ (fun _=>0) func94 h
def g2d (a0 a1 a2:Value) (K:VK) (w:World):Prop:=
 oM prog (.box 50 (.tmp 0)) 0 [a0] (fun v3=>
 oM prog (.box 26 (.tmp 0)) 0 [a1] fun v4=>
 kL 50 v3 fun v11=>
 a0a prog 92 #[v11] fun v12=>
 kE 0 164 v12 fun v13=>
 kE 1 4 v12 fun v14=>
 kA 164 fun v7=>
 kS 164 v7 v13 fun _=>
 kU v14 fun v16=>
 kO v16 (K (.int .i64 0))
 (kF 50 0 v3 fun v17=>
 kF 48 1 v17 fun v18=>
 kL 3 v18 fun v19=>
 kB .quo 3 3 v19 (.int .i64 2) fun v20=>
 kH fun C_13 w=>(a0d v20 C_13 fun v21=>
 jB .add 3 3 v21 (.int .i64 1) C_13 fun v22=>
 jL 26 v4 C_13 fun v23=>
 a0d a2 C_13 fun v25=>
 jF 50 0 v3 C_13 fun v28=>
 jF 48 1 v28 C_13 fun v29=>
 jL 3 v29 C_13 fun v30=>
 jB .sub 3 3 v30 (.int .i64 1) C_13 fun v31=>
 a0d v20 C_13 fun v32=>
 jB .sub 3 3 v31 v32 C_13 fun v33=>
 a0a prog 94 #[v23] (fun v24 w=>C_13 w ∧ (
 a0a prog 64 #[v25] (fun v26 w=>C_13 w ∧ (
 kB .add 9 9 v24 v26 (fun v27 w=>C_13 w ∧ (
 a0a prog 93 #[v27,v33] (fun v34 w=>C_13 w ∧ (
 kB .add 3 3 v22 v34 (fun v35 w=>C_13 w ∧ (
 C_13 w ∧ (K v35 w))) w)) w)) w)) w)) w))) w
theorem e5y (h:g2d a0 a1 a2 K w):a0a prog 43 #[a0,a1,a2] K w:=
 cZ (fun _=>2) func43 h
end Go.Proofs
namespace Go.Proofs
open Go Go.Sh Go.RowKit FdSpec TkSpec CodeSpec PuSpec
section
variable {K:VK} {w w0 w1:World} {L:List (Addr × Value)}
def NuJ (n R:Int) (d:List UInt8) (w0:World) (l:List Value) (w':World):Prop:=Bw w0 w' ∧ ∃ (v:Value) (o:Int) (i:Nat),l = [v,.int .i64 o,.int .i64 (i:Int)] ∧ i ≤ d.length ∧ (d.drop i).foldl (b2f n) o = R
theorem d9d (s:List UInt8) (n:Int) (hs:s.length ≤ 1000000000) (k:∀ w',Bw w w' → K (.int .i64 (a7c s n)) w'):a0a Tryz.prog 93 #[.string ⟨s.toArray⟩,.int .i64 n] K w:=by
 apply e5w
 unfold g2b
 unfold a7c at k
 refine a4j n ?_
 by_cases hn:okN n
 ·rw [if_pos hn] at k
  refine Xa0 ?_
  refine g5r s hs (fun w1 h1=>?_)
  have hl:=ShaSpec.sha_length s
  generalize ShaSpec.sha s = d at *
  refine g5o d fun v w2 h2=>?_
  obtain ⟨g,c,rfl,hlt⟩:=h2.row.shape
  have hby:=f6s h2.row
  have hb:=h1.on h2.below
  refine Xa0 ?_
  refine ⟨NuJ n (d.foldl (b2f n) 0) d w2,e2f d.length,⟨bR,_,_,0,rfl,by omega,rfl⟩,?_⟩
  rintro _ _ w3 ⟨h3,v,o,i,rfl,hi,hf⟩
  by_cases hin:i < d.length
  ·have hc:=(hby.next h3).2 i hin
   rw [Nat.zero_add] at hc
   have e1:d[i]?.getD 0 = d[i]:=by simp [hin]
   have hu:=(d[i]).toNat_lt
   rw [List.getD_eq_getElem?_getD,e1] at hc
   refine Xa @hc ?_
   refine c9l n o 256 (fun w4 h4=>?_)
   refine Xa0 ?_
   refine f2z n _ _ ?_
   refine Xa0 ?_
   rw [List.drop_eq_getElem_cons hin,List.foldl_cons] at hf
   refine ⟨⟨h3.on h4,_,_,i + 1,rfl,by omega,hf⟩,?_⟩
   simp only [a8x]; omega
  ·rw [List.drop_of_length_le (by omega),List.foldl_nil] at hf
   refine Xa0 ?_
   rw [hf]
   exact k _ (hb.on h3)
 ·rw [if_neg hn] at k
  refine Xa0 ?_
  exact k _ (bR)
theorem c0z {t:Tkt} (h:TktR t):∀ n ∈ PuSpec.tktL t,I64 n:=by
 intro n hn
 simp only [PuSpec.tktL,List.mem_cons,List.not_mem_nil,or_false] at hn
 rcases hn with rfl | rfl | rfl | rfl | rfl | rfl
 ·exact h.mark
 ·exact h.first
 ·exact h.z
 ·exact h.a
 ·exact h.b
 ·exact h.r
theorem d0f (n:Int):InR n ↔ I64 n:=by unfold InR I64; omega
theorem d0g {t:Tkt} (h:TktR t):(f2h t).length ≤ 200:=by
 have:=a3i (l:=PuSpec.tktL t) (fun n hn=>(d0f n).2 (c0z h n hn)) (by simp [PuSpec.tktL])
 have e:(PuSpec.tktL t).length = 6:=rfl
 rw [e] at this
 exact Nat.le_trans this (by omega)
theorem h3g {T:TypeId} (t:Tkt) (ht:TktR t) (k:∀ v W,Bw w W → Ints W v (PuSpec.tktL t) → K v W):oM Tryz.prog (.buildSlice 22 6 #[(0,.tmp 0),(1,.tmp 1),(2,.tmp 2),(3,.tmp 3),(4,.tmp 4),(5,.tmp 5)]) T [.int .i64 t.mark,.int .i64 t.first,.int .i64 t.z,.int .i64 t.a,.int .i64 t.b,.int .i64 t.r] K w:=by
 rw [a5a (S:=Instr.buildSlice 22 6 #[(0,.int .i64 t.mark),(1,.int .i64 t.first),(2,.int .i64 t.z),(3,.int .i64 t.a),(4,.int .i64 t.b),(5,.int .i64 t.r)]) (by simp [xop,execOp,a0w,evE])]
 have e:(Instr.buildSlice 22 6 #[(0,.int .i64 t.mark),(1,.int .i64 t.first),(2,.int .i64 t.z),(3,.int .i64 t.a),(4,.int .i64 t.b),(5,.int .i64 t.r)]).run Tryz.prog w = .ok (.slice (some ⟨w.heap.size,0,none⟩) 6 6) (w.alloc (.cells #[.int .i64 t.mark,.int .i64 t.first,.int .i64 t.z,.int .i64 t.a,.int .i64 t.b,.int .i64 t.r] 3)):=by kernel_rfl
 rw [e]
 exact k _ _ ((Below.refl _ w).alloc (rL) _) (a4r w (PuSpec.tktL t) _ 6 (c0z ht) (by simp [PuSpec.tktL]))
theorem d2i (t:Tkt) (ht:TktR t) (hl:Cd.Laid w) (k:∀ w',Bw w w' → K (.string ⟨(f2h t).toArray⟩) w'):a0a Tryz.prog 94 #[b5k t] K w:=by
 apply e5x
 unfold g2c
 refine a1t (cs:=b1p t) rfl (.start w) fun b W hk hb1 hb=>?_
 repeat (any_goals (first
 | ((with_reducible refine h3g t ht ?_); intro v8 W8 hb8 hi)
 | ((with_reducible refine oG fun X Y=>?_); simp [go_sem,hk.cells]; apply Y; clear Y X)))
 have hk:=hk.next hb8
 refine Cd.pNums_ok (PuSpec.tktL t) v8 (hl.below hk.below hl.size) (a6s hi) (fun x hx=>(d0f x).2 (c0z ht x hx)) (by have:=d0g ht; unfold f2h a0o at this; unfold PuSpec.tktL; omega) (fun w' hb'=>?_)
 exact k _ (hk.next hb').below
theorem c1a (s:List UInt8) (n:Int) (hn:okN n):0 ≤ a7c s n ∧ a7c s n < n:=by
 unfold a7c
 rw [if_pos hn]
 have h:∀ (l:List UInt8) (o:Int),0 ≤ o ∧ o < n → 0 ≤ l.foldl (b2f n) o ∧ l.foldl (b2f n) o < n:=by
  intro l
  induction l with
  | nil=>intro o h; exact h
  | cons a l ih=>intro o h; exact ih _ (b0q n _ _ hn)
 exact h _ 0 (by unfold okN at hn; omega)
theorem d9e {q:Int} (h:5 ≤ q) (h2:q < 1152921504606846976):okN (q - 1 - q / 2):=by unfold okN; omega
theorem d9f {s:Stp} (h:a1o s = true):5 ≤ s.g.Q ∧ s.g.Q < 1152921504606846976:=by
 unfold a1o at h
 simp only [bA] at h
 have hg:=h.1.1.1.1
 by_cases hc:s.g.Q < 5 ∨ 1152921504606846976 ≤ s.g.Q ∨ s.g.P ≠ 2 * s.g.Q + 1 ∨ s.g.G < 2 ∨ s.g.P ≤ s.g.G
 ·rw [b9l hc] at hg; cases hg
 ·omega
theorem c7l (s:Stp) (t:Tkt) (m:List UInt8) {v:Value} (hm:m.length ≤ 100000000) (ht:TktR t) (hs:SetR w s v) (hL:Cd.Laid w) (k:∀ w',Bw w w' → K (.int .i64 (a5f s t m)) w'):a0a Tryz.prog 43 #[b1c s v,b5k t,.string ⟨m.toArray⟩] K w:=by
 apply e5y
 unfold g2d
 obtain ⟨ad,c,rfl⟩:=hs.ints.isSlice
 refine a1t (cs:=b1o s (.slice ad s.bases.length c)) rfl (.start w) fun b W hk hb1 hb=>?_
 refine a1t (cs:=b1p t) rfl hk fun b2 W2 hk hb2 hbb=>?_
 unfold a5f at k
 refine Xa hk.cells ?_
 refine open_ok s (hs.next hk.below) (fun w2 h=>?_)
 have hk:=hk.next h
 clear h hb1 hb2
 refine c8k ?_
 refine b2e s ad s.bases.length c hk (fun b7 W7 hk hb7 hg7=>?_)
 cases hv:a1o s with
 | false=>
  rw [hv,if_neg (by decide)] at k
  refine Xa0 ?_
  exact k _ hk.below
 | true=>
 rw [hv,if_pos rfl] at k
 obtain ⟨hq1,hq2⟩:=d9f hv
 have hr:=c1a (f2h t ++ a0r m) _ (d9e hq1 hq2)
 have ed:s.g.Q.tdiv 2 = s.g.Q / 2:=Int.tdiv_eq_ediv_of_nonneg (by omega)
 have e0:IntKind.i64.wrap (s.g.Q / 2) = s.g.Q / 2:=a0p _ (by omega) (by omega)
 have e1:IntKind.i64.wrap (s.g.Q / 2 + 1) = s.g.Q / 2 + 1:=a0p _ (by omega) (by omega)
 have e2:IntKind.i64.wrap (s.g.Q - 1) = s.g.Q - 1:=a0p _ (by omega) (by omega)
 have e3:IntKind.i64.wrap (s.g.Q - 1 - s.g.Q / 2) = s.g.Q - 1 - s.g.Q / 2:=a0p _ (by omega) (by omega)
 have e4:IntKind.i64.wrap (s.g.Q / 2 + 1 + a7c (f2h t ++ a0r m) (s.g.Q - 1 - s.g.Q / 2)) = s.g.Q / 2 + 1 + a7c (f2h t ++ a0r m) (s.g.Q - 1 - s.g.Q / 2):=a0p _ (by omega) (by omega)
 refine Xa (An3 hk.cells @ed @e0) ?_
 have hk:=hk.drew
 refine ⟨Kn w _,hk,?_⟩
 repeat (any_goals (first
 | (with_reducible refine And.intro hk ?_)
 | (with_reducible refine pX ?_)
 | ((with_reducible refine b2p ?_); (with_reducible refine a2f ⟨_,rfl⟩ (fun W0 hW0=>by (refine oG (fun X Y=>?_)); simp [go_sem,hW0.cells,e1,e2,e3]; (first | exact Y _ _ ⟨rfl,rfl⟩ | exact ⟨by omega,Y _ _ ⟨rfl,rfl⟩⟩)) ?_))))
 refine d2i t ht (hL.below hk.below hL.size) (fun w3 h3=>?_)
 have hk:=hk.next h3
 refine ⟨hk,?_⟩
 clear h3
 refine Cd.pText_ok m (by omega) (hL.below hk.below hL.size) (fun w4 h4=>?_)
 have hk:=hk.next h4
 refine ⟨hk,?_⟩
 clear h4
 have hl1:=d0g ht
 have hl2:=Cd.encText_len m (by omega)
 repeat (any_goals (first
 | (with_reducible refine And.intro hk ?_)
 | ((with_reducible refine oG fun X Y=>?_); simp [go_sem]; refine And.intro (by omega) (Y _ _ ?_); clear Y X)))
 refine d9d (f2h t ++ a0r m) _ (by rw [List.length_append]; omega) (fun w5 h5=>?_)
 have hk:=hk.next h5
 clear h5
 refine ⟨hk,?_⟩
 repeat (any_goals (first
 | (with_reducible refine And.intro hk ?_)
 | ((with_reducible refine oG fun X Y=>?_); simp [go_sem,e4]; apply Y; clear Y X)))
 exact k _ hk.below
end
end Go.Proofs
namespace Go.Proofs
open Go Go.Sh Go.RowKit FdSpec TkSpec CodeSpec PuSpec DkSpec JnSpec
section
variable {K:VK} {w w' w0 W W':World} {L:List (Addr × Value)} {rb b:Nat} {s:Stp} {lims:List Lim} {p p':Ph} {items items':List Itm} {A:Ab} {P:Pst} {h:Dk}
theorem PuR.hide (h:PuR s lims w0 w p A P) (hb:Bw w w'):PuR s lims w0 w' { p with x:=fun i=>p.x i ∨ (w.heap.size ≤ i ∧ i < w'.heap.size) } A P:=by
 have hn:=h.next hb
 have hz:=h.bl.size
 have him:∀ i,Im p w i → Im { p with x:=fun i=>p.x i ∨ (w.heap.size ≤ i ∧ i < w'.heap.size) } w' i:=fun i hi=>⟨by have:=hi.1; have:=hb.size; omega,hi.2.1,fun e=>e.elim hi.2.2 (fun e=>by have:=hi.1; omega)⟩
 have st:StR s lims w' { p with x:=fun i=>p.x i ∨ (w.heap.size ≤ i ∧ i < w'.heap.size) } P.items:=
  ⟨hn.st.pur,(h.st.itm.next hb (fun i hi=>hi.1)).mono him,(h.st.rd.next hb (fun i hi=>hi.1)).mono him,h.st.cnt,h.st.sp,h.st.si,fun i hi=>hi.elim (fun e=>by have:=h.st.xl i e; have:=hb.size; omega) (fun e=>e.2)⟩
 exact ⟨hn.sys,hn.jn,st,h.yg,hn.bl,h.low⟩
theorem PuR.unhide (h:PuR s lims w0 w p A P) {x:Nat → Prop} (hx:∀ i,x i → p.x i):PuR s lims w0 w { p with x:=x } A P:=by
 have him:∀ i,Im p w i → Im { p with x:=x } w i:=fun i hi=>⟨hi.1,hi.2.1,fun e=>hi.2.2 (hx i e)⟩
 exact ⟨h.sys,h.jn,⟨h.st.pur,h.st.itm.mono him,h.st.rd.mono him,h.st.cnt,h.st.sp,h.st.si,fun i hi=>h.st.xl i (hx i hi)⟩,h.yg,h.bl,h.low⟩
theorem PuR.wrote (h:PuR s lims w0 w p A P) {S:Nat → Prop} (hf:Fr S w w') (hS:∀ i,S i → p.x i ∧ ¬ Mu p i ∧ w0.heap.size ≤ i):PuR s lims w0 w' p A P:=by
 have h8:=h.low
 refine ⟨h.sys.fresh hf (fun i hi=>⟨fun e=>(hS i hi).2.1 (e.imp id .inl),by have:=(hS i hi).2.2; omega⟩),h.jn.keep (h':=p.h) hf (fun i hi e=>(hS i hi).2.1 (.inr (.inr (.inl e)))) (fun i hi=>hi.elim .inl (fun h=>.inr (.inl h))),?_,h.yg,h.bl.trans ⟨hf.os,hf.tape,hf.output,hf.size,fun i hi=>hf.block i (by have:=h.bl.size; omega) (fun e=>by have:=(hS i e).2.2; omega)⟩,h.low⟩
 have him:∀ i,Im p w i → Im p w' i:=fun i hi=>⟨by have:=hi.1; have:=hf.size; omega,hi.2⟩
 refine ⟨(hf.block p.pb h.st.pur.lt (fun e=>(hS _ e).2.1 (.inr (.inr (.inr (.inl rfl)))))).trans h.st.pur,(h.st.itm.keep hf (fun i hi=>⟨hi.1,fun e=>hi.2.2 (hS i e).1⟩) (fun i hi e=>(hS i e).2.1 (.inr (.inr (.inr (.inr hi)))))).mono him,(h.st.rd.fr hf (fun i hi=>⟨hi.1,fun e=>hi.2.2 (hS i e).1⟩)).mono him,h.st.cnt,h.st.sp,h.st.si,fun i hi=>by have:=h.st.xl i hi; have:=hf.size; omega⟩
theorem f2w {α:Type} {n:Nat} {e:TypeId} {V:World → List Value → α → Prop} {B:Nat} {D:Nat → Prop} {v:Value} {l:List α} (h:GRow n e V B D w v l) {ad:Option Addr} {m c:Nat} (hv:v = .slice ad m c):m ≤ c:=by
 obtain ⟨cs,ho,_⟩:=h.ex
 rcases ho.2 with ⟨h1,h2⟩ | ⟨g,cap,cur,h1,hb,hg,hc,hm,hs,ht⟩
 ·rw [h1] at hv; cases hv; omega
 ·rw [h1] at hv; cases hv; omega
theorem e4c {x:Hld} {a y l:Value} {j:Nat} {u:Value} (hj:(b1p x.t)[j]? = some u):(a6o x a y l)[7 + j]? = some u:=by
 have hl:=(gS hj).1
 have:a6o x a y l = [.int .i64 x.limit,.int .i64 x.window,a] ++ c2v x.bl y ++ (b1p x.t ++ [l]):=rfl
 rw [this,List.getElem?_append_right (by simp)]
 simp only [List.length_append,List.length_cons,List.length_nil,Nat.zero_add,Nat.add_sub_cancel_left]
 rw [List.getElem?_append_left hl]
 exact hj
theorem g0r (s:Stp) (lims:List Lim) (A:Ab) (P:Pst) (limit now:Int) (next:Tkt) (terms:a0f):a4a s lims A P limit now next terms =
  if (a0i lims P.items limit now).2 ≠ 0 then ((0,[],(a0i lims P.items limit now).2),A,P)
  else match P.items[(a0i lims P.items limit now).1]? with
  | none=>((0,[],15),A,P)
  | some x=>
   if !b5b terms x.held.links then ((0,[],2),A,P)
   else if 4 ≤ x.held.links.length then ((0,[],6),A,P)
   else if (a4t A P (a0i lims P.items limit now).1 3 (a5f s next terms)).1 ≠ 0 then ((0,[],(a4t A P (a0i lims P.items limit now).1 3 (a5f s next terms)).1),(a4t A P (a0i lims P.items limit now).1 3 (a5f s next terms)).2)
    else (((a0i lims P.items limit now).1,x.held.links ++ [⟨x.held.t,(c2w s x.held.attrs x.held.bl (a5f s next terms)).1,terms⟩],0),(a4t A P (a0i lims P.items limit now).1 3 (a5f s next terms)).2):=rfl
theorem d4b (T:TypeId) (t:Tkt) (d:Int) (ad:Option Addr) (n c:Nat) (ts:a0f):oM Tryz.prog (Go.Op.build 86 #[(0,(.tmp 0)),(1,(.tmp 1)),(2,(.tmp 2))]) T [b5k t,.agg #[.int .i64 d,.slice ad n c],.string ⟨ts.toArray⟩] = a0c (lkV ⟨t,⟨d,[]⟩,ts⟩ (.slice ad n c)):=by
 funext K w
 kernel_rfl
theorem d4c (A:Ab) (P:Pst) {i:Nat} {x:Itm} (hx:P.items[i]? = some x) (d:Int) (h:(a4t A P i 3 d).1 = 0):(a4t A P i 3 d).2.2.items = P.items.set i { x with dare:=d,status:=1,lent:=true }:=by
 unfold a4t at h ⊢
 dsimp only at h ⊢
 split at h
 ·rename_i h1; exact absurd h h1
 ·rename_i h1
  rw [if_neg h1]
  split at h
  ·rename_i h2; exact absurd h h2
  ·rename_i h2
   rw [if_neg h2]
   exact PuSpec.modify_set hx _
set_option maxHeartbeats 4000000 in
theorem g0s (hP:PuR s lims w0 w p A P) (limit now:Int) (next:Tkt) (hnx:TktR next) (terms:a0f) (htl:terms.length ≤ 1000000) (hsm:∀ x ∈ P.items,b3w x.held) (hst:∀ x ∈ P.items,∀ y ∈ x.held.links,y.terms.length ≤ 1000000)
  (k:∀ w' p' v,PuR s lims w0 w' p' (a4a s lims A P limit now next terms).2.1 (a4a s lims A P limit now next terms).2.2 → PuSt p w p' w' → (p'.pb = p.pb ∧ p'.b = p.b) →
   FP (fun i=>w.heap.size ≤ i ∧ i < w'.heap.size ∧ ¬ Mu p' i) w' (fun W=>b4u W v (a4a s lims A P limit now next terms).1.2.1) → (∀ ad n c,v = .slice ad n c → n ≤ c) → K (.tuple #[.int .i64 (a4a s lims A P limit now next terms).1.1,v,.int .i64 (a4a s lims A P limit now next terms).1.2.2]) w') :
  a0a Tryz.prog 41 #[.pointer (some ⟨p.pb,0,none⟩),.int .i64 limit,.int .i64 now,b5k next,.string ⟨terms.toArray⟩] K w:=by
 apply e6h
 unfold g2m
 have hnil:∀ W q,FP (fun i=>w.heap.size ≤ i ∧ i < W.heap.size ∧ ¬ Mu q i) W (fun W=>b4u W (.slice none 0 0) []):=fun W q _ _ _ _ _ _=>SRow.nil
 have hcz:∀ ad n c,(Value.slice none 0 0) = .slice ad n c → n ≤ c:=fun ad n c e=>by cases e; exact rL
 refine a2n (cs:=b1p next) rfl (fun b1 w1 h1 hb1 hB1=>?_)
 have hP1:=hP.next h1
 refine c6g hP1.st limit now (fun w2 h2=>?_)
 have hP2:=hP1.next h2
 have h02:=h1.on h2
 have hcv:=c0o lims P.items limit now
 have eL:=g0r s lims A P limit now next terms
 generalize a0i lims P.items limit now = c at *
 obtain ⟨i,e⟩:=c
 simp only at *
 by_cases he:e = 0
 case neg=>
  rw [if_pos he] at eL
  rw [eL] at k
  have k:=k w2 p _ hP2 (PuSt.below h02) ⟨rfl,rfl⟩ (hnil _ _) hcz
  refine Xa @he ?_
  exact k
 subst he
 rw [if_neg (by simp)] at eL
 have hi:i < P.items.length:=by omega
 have hiZ:(i:Int) < P.items.length:=by omega
 have hx:=gE hi
 rw [hx] at eL
 have hsx:=hsm _ (List.getElem_mem hi)
 have hstx:=hst _ (List.getElem_mem hi)
 generalize P.items[i] = x at *
 simp only at eL
 obtain ⟨g,gc,av,yv,kv,hgv,hgl,hH,hI,hJ,hc⟩:=hP2.st.at hx
 obtain ⟨a1,n1,d1,a2,n2,d2,a3,n3,d3,rfl,rfl,rfl⟩:=a0m hH
 have c6:=hP2.st.pur.cell 6 (by simp)
 simp only [List.getElem_cons_zero,List.getElem_cons_succ] at c6
 rw [hgv] at c6
 refine Xa (An2 @c6 @hiZ) ?_
 refine a1l (cs:=a6o x.held (.slice a1 n1 d1) (.slice a2 n2 d2) (.slice a3 n3 d3)) (b3y hc) a3n (by kernel_rfl) (by kernel_rfl) ?_
 refine c6c x.held hH hsx.1 hsx.2.1 hsx.2.2.1 hsx.2.2.2 (fun w3 av3 yv3 kv3 h3 hF3 hG3=>?_)
 obtain ⟨a4,n4,d4,a5,n5,d5,a6,n6,d6,rfl,rfl,rfl⟩:=a0m hF3.here
 refine a0j a9e (fun b4 w4 h4 hb4 hH4=>?_)
 refine a0h (xs:=a6o x.held (.slice a4 n4 d4) (.slice a5 n5 d5) (.slice a6 n6 d6)) a8f rfl rfl (a5e _ _ _ _ _ _ _ _ _ _ _ _ _ _ _ _ _ _ _ _) hH4 rfl (fun w5 hg5 hH5=>?_)
 have h35:Bw w3 w5:=a0k h4 hg5 hb4
 have hP5:=(hP2.next h3).next h35
 have hG5:=hG3.next h35 (fun j hj=>hj.2.1)
 have h05:=h02.on (h3.on h35)
 refine b0g terms (by omega) hP5.sys.l (fun w6 h6=>?_)
 have hLk:=hF3.here.links
 obtain ⟨a7,d7,hv7⟩:=hLk.isSlice
 cases hv7
 have hP3:=hP2.hide h3
 have h56:=h35.on h6
 have hP6:=hP3.next h56
 have hH6:=hH5.next h6
 have hLk6:=(hLk.next (a0l a4i) h56)
 have h06:=h05.on h6
 have hB6:=(hB1.next h2).next ((h3.on h35).on h6)
 have c13:=a1h hH6 (j:=13) rfl
 have eO:b5b terms x.held.links = ((a1m terms).2 && (match x.held.links.getLast? with | none=>true | some l=>b0v terms l.terms)):=rfl
 have hll:=hLk.len
 refine Xa0 ?_
 refine ⟨fun l W=>l.getD 1 undef = .bool (b5b terms x.held.links) ∧ Nx w6 W,?_,?_⟩
 ·by_cases hl0:x.held.links = []
  ·have hl0Z:¬ (0:Int) < x.held.links.length:=by rw [hl0]; simp
   have:b5b terms x.held.links = (a1m terms).2:=by rw [eO,hl0]; simp
   rw [this]
   refine Xa (An2 @c13 @hl0Z) ?_
   exact ⟨rfl,bR⟩
  ·have hlp:0 < x.held.links.length:=List.length_pos_iff.2 hl0
   have hl0Z:(0:Int) < x.held.links.length:=by omega
   have hgl:x.held.links.getLast? = some x.held.links[x.held.links.length - 1]:=by
    rw [List.getLast?_eq_getElem?,gE]
   rw [eO,hgl]
   cases hrt:(a1m terms).2 with
   | false=>
    refine Xa (An2 @c13 @hl0Z) ?_
    exact ⟨rfl,bR⟩
   | true=>
    obtain ⟨lb,lo,rfl,hlb,lcs,hlcl,hlcc,lav,rfl,-,-⟩:=hLk6.at (i:=x.held.links.length - 1) (by omega)
    have hc8:=(a6d hlcc).2.2.2.2.2.2.2.2
    have hsub:((x.held.links.length:Int) - 1).toNat = x.held.links.length - 1:=by omega
    have hb1:0 ≤ (x.held.links.length:Int) - 1:=by omega
    have hb2:(x.held.links.length:Int) - 1 < x.held.links.length:=by omega
    refine Xa (An6 @c13 @hl0Z @hb1 @hb2 @hsub @hc8) ?_
    refine b4t terms _ (by omega) (by have:=hstx _ (List.getElem_mem (show x.held.links.length - 1 < x.held.links.length by omega)); omega) hP6.sys.l (fun w7 h7=>?_)
    refine Xa0 ?_
    exact ⟨by rw [bT]; rfl,h7⟩
 rintro lv u7 w7 ⟨hlv,h7⟩
 rw [hlv]
 have hP7:=hP6.next h7
 have h07:=h06.on h7
 have hun:∀ W,PuR s lims w0 W { p with x:=fun i=>p.x i ∨ (w2.heap.size ≤ i ∧ i < w3.heap.size) } A P → PuR s lims w0 W p A P:=fun W hq=>PuR.unhide hq (x:=p.x) (fun i hi=>.inl hi)
 have c13:=(h7.cell hH6.lt).trans c13
 cases hok:b5b terms x.held.links with
 | false=>
  rw [hok,if_pos (by rfl)] at eL
  rw [eL] at k
  have k:=k w7 p _ (hun _ hP7) (PuSt.below h07) ⟨rfl,rfl⟩ (hnil _ _) hcz
  refine Xa0 ?_
  exact k
 | true=>
 rw [hok,if_neg (by simp)] at eL
 by_cases h4:4 ≤ x.held.links.length
 ·have h4Z:(4:Int) ≤ x.held.links.length:=by omega
  rw [if_pos h4] at eL
  rw [eL] at k
  have k:=k w7 p _ (hun _ hP7) (PuSt.below h07) ⟨rfl,rfl⟩ (hnil _ _) hcz
  refine Xa (An2 @c13 @h4Z) ?_
  exact k
 have h4Z:¬ (4:Int) ≤ x.held.links.length:=by omega
 rw [if_neg h4] at eL
 refine Xa (An2 @c13 @h4Z) ?_
 have hPd:=hP7.next (.drawn (B:=w7.heap.size))
 have h0d:=h07.on (.drawn (B:=w7.heap.size))
 have hBd:=(hB6.next h7).next (.drawn (B:=w7.heap.size))
 have hHd:=(hH6.next h7).next (.drawn (B:=w7.heap.size))
 have h5d:=(h6.on h7).on (.drawn (B:=w7.heap.size))
 refine ⟨Nx { w7 with drawn:=w7.drawn + 1 },bR,trivial,?_⟩
 generalize ({ w7 with drawn:=w7.drawn + 1 }:World) = W8 at hPd h0d hBd hHd h5d ⊢
 have hSet:=hPd.st.set
 obtain ⟨bvad,bvc,hbv⟩:=hSet.ints.isSlice
 have C:=hPd.st.pur
 unfold puC at C
 simp only at hbv C hSet
 rw [hbv] at C hSet
 refine Xc (fun W0 hW0=>An2 ((C.next hW0).are) ((hBd.next hW0).are)) ?_
 refine ⟨Nx,?_⟩
 apply a7y
 ·intro w9 h9
  exact c7l s next terms (by omega) hnx (hSet.next h9) (hPd.next h9).sys.l.toLaid (fun w10 h10=>⟨h9.on h10,h10,rfl⟩)
 rintro w9 h9 _ rfl
 have hP9:=hPd.next h9
 have h09:=h0d.on h9
 have hlr:InR (a5f s next terms):=by
  cases hv:a1o s with
  | true=>
   have:=b1v hv next terms
   have:=hSet.grp
   exact ⟨by omega,by have:=(b3d hv).1.q1; omega⟩
  | false=>
   have:a5f s next terms = 0:=by unfold a5f; rw [hv]; rfl
   rw [this]
   exact ⟨by decide,by decide⟩
 refine e3s hP9 hi 3 (a5f s next terms) ⟨by omega,by omega⟩ hlr (fun w10 p10 hP10 t10 ⟨epb,eb⟩=>?_)
 have ki:=d4c A P hx (a5f s next terms)
 generalize a4t A P i 3 (a5f s next terms) = kp at *
 obtain ⟨ke,kA,kP⟩:=kp
 simp only at *
 have T:PuSt p w { p10 with x:=p.x } w10:=⟨(Fr.of_below (S:=Mu p) h09).trans t10.fr (fun i hi=>.inl hi),fun i hi=>(t10.mu i hi).imp id (fun h=>by have:=h09.size; omega),rfl⟩
 have hU10:PuR s lims w0 w10 { p10 with x:=p.x } kA kP:=PuR.unhide hP10 (x:=p.x) (fun i hi=>by rw [t10.x]; exact .inl hi)
 by_cases hk:ke = 0
 case neg=>
  rw [if_pos hk] at eL
  rw [eL] at k
  have k:=k w10 _ _ hU10 T ⟨epb,eb⟩ (hnil _ _) hcz
  refine Xa @hk ?_
  exact k
 subst hk
 rw [if_neg (by simp)] at eL
 have ki:=ki rfl
 have hx10:kP.items[i]? = some { x with dare:=a5f s next terms,status:=1,lent:=true }:=by rw [ki]; exact List.getElem?_set_self hi
 refine Xa0 ?_
 have m0:=hP.mu_lt
 have z02:=h02.size
 have z3:=h3.size
 have z35:=h35.size
 have z5d:=h5d.size
 have z9:=h9.size
 have z10:=t10.fr.size
 have hHn:=hHd.next h9
 have hH10:Holds w10 b4 29 (a6o x.held (.slice a4 n4 d4) (.slice a5 n5 d5) (.slice a6 x.held.links.length d6)):=(t10.fr.block b4 hHn.lt (fun e=>by have:=m0 b4 e; omega)).trans hHn
 have G9:=(hG5.next h5d (fun j hj=>by have:=hj.2.1; omega)).next h9 (fun j hj=>by have:=hj.2.1; omega)
 have hgo3:∀ j,(Value.slice a6 x.held.links.length d6).ownBlock = some j → w2.heap.size ≤ j ∧ j < w3.heap.size:=fun j hj=>by have:=hG3.own hj; omega
 have G10:=G9.keep t10.fr (fun j hj=>⟨by have:=hj.2.1; omega,fun e=>by have:=m0 j e; have:=hj.1; omega⟩) (fun j hj e=>by have:=m0 j e; have:=hgo3 j hj; omega)
 have hPd10:=hP10.next (.drawn (B:=w10.heap.size))
 have hHd10:=hH10.next (.drawn (B:=w10.heap.size))
 have Gd10:=G10.next (.drawn (B:=w10.heap.size)) (fun j hj=>by have:=hj.2.1; omega)
 have hd10:Below w10.heap.size w10 { w10 with drawn:=w10.drawn + 1 }:=.drawn
 have zd10:w10.heap.size ≤ ({ w10 with drawn:=w10.drawn + 1 }:World).heap.size:=rL
 refine ⟨fun W=>Fr (fun j=>(Value.slice a6 x.held.links.length d6).ownBlock = some j) { w10 with drawn:=w10.drawn + 1 } W,Fr.refl _ _,?_⟩
 generalize ({ w10 with drawn:=w10.drawn + 1 }:World) = W11 at hPd10 hHd10 Gd10 hd10 zd10 ⊢
 have fH:∀ W0,Fr (fun j=>(Value.slice a6 x.held.links.length d6).ownBlock = some j) W11 W0 → Holds W0 b4 29 (a6o x.held (.slice a4 n4 d4) (.slice a5 n5 d5) (.slice a6 x.held.links.length d6)):=fun W0 h=>(h.block b4 hHd10.lt (fun e=>by have:=hgo3 b4 e; omega)).trans hHd10
 repeat (any_goals (first
 | (with_reducible refine pX ?_)
 | ((with_reducible refine b2p ?_); (with_reducible refine a2f ⟨_,rfl⟩ (fun W0 hW0=>by (refine oG (fun Kv hK=>?_)); simp [go_sem,(fH _ hW0).are]; (first | exact hK _ _ ⟨rfl,rfl⟩ | exact ⟨by omega,hK _ _ ⟨rfl,rfl⟩⟩)) ?_))))
 rw [← epb]
 refine f7m hPd10.st hx10 (fun w12 ov h12 hov=>⟨Fr.of_below' h12,?_⟩)
 obtain ⟨oad,oc,hov'⟩:=hov.here.isSlice
 subst hov'
 have hus:(d1m s { x with dare:=a5f s next terms,status:=1,lent:=true }).1 = (c2w s x.held.attrs x.held.bl (a5f s next terms)).1:=rfl
 rw [hus] at hov ⊢
 have hdr:InR (c2w s x.held.attrs x.held.bl (a5f s next terms)).1.dare:=by
  unfold c2w
  split
  ·exact hlr
  ·exact ⟨by decide,by decide⟩
 generalize hY:(⟨x.held.t,(c2w s x.held.attrs x.held.bl (a5f s next terms)).1,terms⟩:Lnk) = Y at eL
 have hY1:Y.ticket = x.held.t:=by rw [← hY]
 have hY2:Y.spend = (c2w s x.held.attrs x.held.bl (a5f s next terms)).1:=by rw [← hY]
 have hY3:Y.terms = terms:=by rw [← hY]
 rw [← hY2] at hov hdr ⊢
 rw [← hY1,← hY3]
 have hlit:∀ {T:TypeId} {K:VK} {w:World},K (lkV Y (.slice oad Y.spend.answers.length oc)) w → oM Tryz.prog (Go.Op.build 86 #[(0,(.tmp 0)),(1,(.tmp 1)),(2,(.tmp 2))]) T [b5k Y.ticket,.agg #[.int .i64 Y.spend.dare,.slice oad Y.spend.answers.length oc],.string ⟨Y.terms.toArray⟩] K w:=fun h=>by
  rw [d4b]
  exact h
 refine hlit ⟨Fr.of_below' h12,?_⟩
 refine e3d Y oad Y.spend.answers.length oc (fun g13 w13 h13 hg13 hH13=>⟨Fr.of_below' (h12.on h13),?_⟩)
 have hwY:WLnk Y:=by
  have hwf:=hF3.here.wf
  exact ⟨by rw [hY1]; exact hwf.t,hdr,fun v hv=>⟨(hov.here.rng v hv).1,by have:=(hov.here.rng v hv).2; omega⟩,by have:=hov.here.len; show (Y.spend.answers.length:Int) ≤ _; omega,by rw [hY3]; show (terms.length:Int) ≤ _; omega⟩
 have h1113:=h12.on h13
 have z12:=h12.size
 have z13:=h13.size
 have mu10:∀ j,w2.heap.size ≤ j → j < w3.heap.size → ¬ Mu p10 j:=fun j h1 h2 e=>by
  rcases t10.mu j e with e | e
  ·have:=m0 j e; omega
  ·omega
 have mu11:=hPd10.mu_lt
 have mu10':=hP10.mu_lt
 have G13:=((Gd10.next h1113 (fun j hj=>by have:=hj.2.1; omega)).mono (E:=fun j=>w2.heap.size ≤ j ∧ j < w13.heap.size ∧ (Value.slice a6 x.held.links.length d6).ownBlock ≠ some j ∧ ¬ Mu p10 j) (fun j hj=>⟨hj.1,by have:=hj.2.1; omega,hj.2.2,mu10 j hj.1 (by have:=hj.2.1; omega)⟩))
 refine c5x (x:=Y) G13 (by omega) hH13 ?_ (fun j hj=>⟨hj.2.1,hj.2.2.1⟩) (by have:=hsx.2.2.1; omega) (fun v14 w14 hG14 hg14 hv14=>?_)
 ·exact ((hov.next h13).imp (fun W hW=>⟨_,rfl,hW,hwY⟩)).mono (fun j hj=>⟨by omega,hj.2,fun e=>by have:=hgo3 j e; omega,fun e=>by have:=mu10' j e; omega⟩)
 have z14:=hg14.size
 have hP13:=hPd10.next h1113
 have fS:Fr (fun j=>(Value.slice a6 x.held.links.length d6).ownBlock = some j) w13 w14:=Fr.of_by' hg14
 have fA:Fr (fun j=>(Value.slice a6 x.held.links.length d6).ownBlock = some j) W11 w14:=(Fr.of_below' h1113).trans fS (fun j hj=>.inl hj)
 refine ⟨fA,fA,fA,fA,?_⟩
 have zb:=hP.bl.size
 have hP14:PuR s lims w0 w14 p10 kA kP:=hP13.wrote fS (fun j hj=>by
  have hj2:=hgo3 j hj
  exact ⟨by rw [t10.x]; exact .inr hj2,mu10 j hj2.1 hj2.2,by omega⟩)
 have hU14:PuR s lims w0 w14 { p10 with x:=p.x } kA kP:=PuR.unhide hP14 (x:=p.x) (fun i hi=>by rw [t10.x]; exact .inl hi)
 have T14:PuSt p w { p10 with x:=p.x } w14:=⟨(T.fr.trans (Fr.of_below (S:=fun _=>False) hd10) (fun _ h=>h.elim)).trans fA (fun j hj=>.inr (by have:=hgo3 j hj; omega)),T.mu,rfl⟩
 rw [eL] at k
 refine k w14 _ v14 hU14 T14 ⟨epb,eb⟩ ?_ (fun ad n c e=>f2w hG14 e)
 exact (hG14.fp (by omega) (by rw [List.length_append]; have:=hsx.2.2.1; simp; omega)).mono (fun j hj=>by
  rcases hj with hj | hj
  ·exact ⟨by omega,by omega,hj.2.2.2⟩
  ·have hl14:=(hG14.own hj)
   rcases hv14 j hj with e | e
   ·have:=hgo3 j e
    exact ⟨by omega,by omega,mu10 j this.1 this.2⟩
   ·exact ⟨by omega,by omega,fun e2=>by have:=mu10' j e2; omega⟩)
theorem e4d {x:Hld} (h:a9h x = true):∀ y ∈ x.links,y.terms.length ≤ 210:=by
 unfold a9h at h
 simp only [bA,dE] at h
 obtain ⟨h1,⟨h2,h3⟩,h4⟩:=h
 rw [List.take_of_length_le (by omega),List.all_eq_true] at h1
 intro y hy
 have:=h1 y hy
 simp only [b8k,bA,dE] at this
 exact this.2
theorem g0t (hP:PuR s lims w0 w p A P) (i:Int) (hi:InR i)
  (k:∀ w' p',PuR s lims w0 w' p' (a2m A P i 4).2.1 (a2m A P i 4).2.2 → PuSt p w p' w' → (p'.pb = p.pb ∧ p'.b = p.b) → K (.int .i64 (a2m A P i 4).1) w') :
  a0a Tryz.prog 46 #[.pointer (some ⟨p.pb,0,none⟩),.int .i64 i] K w:=by
 apply e6f
 unfold g2k
 exact e4b hP i 4 (.inr rfl) hi (fun w' p' a b c=>k w' p' a b c)
theorem c9f:Tryz.prog.underlying 26 = some ((Tryz.prog.underlying 26).getD default):=by kernel_rfl
end
end Go.Proofs
namespace Go.Proofs
open Go.Sh Tryz
variable {a0 a1:Value} {K:VK} {w:World}
def g2n (a0 a1:Value) (K:VK) (w:World):Prop:=
 kQ [(.bool false),(.int .i64 0)] (fun J_1 m_2 l_3 u_l_3 w0_l_3=>(fun w=>(
 kN 69 a0 (fun v8=>
 kB .lss 3 4 (l_3.getD 1 undef) v8 fun v9 w=>
 gT v9 (a0c (l_3.getD 1 undef)) (fun v11 w=>
 gT v9 (a0c a1) (fun v12 w=>
 gT v9 (kB .leq 3 4 v11 v12) (fun v13=>
 kP v9 v13 (.bool false) fun v14=>
 kO v14 (kI 69 a0 (l_3.getD 1 undef) fun v19=>
 kF 72 4 v19 fun v20=>
 kL 29 v20 fun v21=>
 a0a prog 13 #[v21] fun v22=>
 kU v22 fun v23 w=>
 gF v23 (a0c a0) (fun v25 w=>
 gF v23 (a0c (l_3.getD 1 undef)) (fun v26 w=>
 gF v23 (kI 69 v25 v26) (fun v27 w=>
 gF v23 (kF 72 6 v27) (fun v28 w=>
 gF v23 (kL 9 v28) (fun v29 w=>
 gF v23 (kN 9 v29) (fun v30 w=>
 gF v23 (kB .gtr 3 4 v30 (.int .i64 210)) (fun v31=>
 kP v23 (.bool true) v31 fun v32 w=>
 gF v32 (a0c a0) (fun v34 w=>
 gF v32 (a0c (l_3.getD 1 undef)) (fun v35 w=>
 gF v32 (kI 69 v34 v35) (fun v36 w=>
 gF v32 (kF 72 7 v36) (fun v37 w=>
 gF v32 (kL 22 v37) (fun v38 w=>
 gF v32 (kN 22 v38) (fun v39 w=>
 gF v32 (kB .gtr 3 4 v39 (.int .i64 20)) (fun v40=>
 kP v32 (.bool true) v40 fun v41=>
 kO v41 (K (.bool false))
 (kB .add 3 3 (l_3.getD 1 undef) (.int .i64 1) fun v16=>
 kJ J_1 m_2 l_3 w0_l_3 [(l_3.getD 0 undef),v16])) w) w) w) w) w) w) w) w) w) w) w) w) w) w)
 (kN 69 a0 fun v43=>
 kB .leq 3 4 v43 a1 fun v45=>
 K v45)) w) w) w) w)) w0_l_3) w
theorem e6i (h:g2n a0 a1 K w):a0a prog 30 #[a0,a1] K w:=
 cZ (fun _=>0) func30 h
def g2o (a0 a1:Value) (K:VK) (w:World):Prop:=
 oM prog (.box 72 (.tmp 0)) 0 [a1] (fun v3 w=>
 a4h (fun M_2=>(kF 72 0 v3 (fun v8=>
 kL 3 v8 fun v9=>
 kC .eql 3 1 4 v9 fun v15=>
 kO v15 (kF 72 1 v3 fun v18=>
 kL 3 v18 fun v19=>
 kF 72 2 v3 fun v20=>
 kL 3 v20 fun v21=>
 kF 72 3 v3 fun v22=>
 kL 3 v22 fun v23=>
 a0a prog 28 #[a0,v19,v21,v23] fun v24=>
 kE 0 3 v24 fun v25=>
 kE 1 62 v24 fun v26=>
 M_2 [v15,v26,undef,(.slice none 0 0),undef,undef,undef])
 (kC .eql 3 2 4 v9 fun v28=>
 kO v28 (kF 72 1 v3 fun v31=>
 kL 3 v31 fun v32=>
 kF 72 2 v3 fun v33=>
 kL 3 v33 fun v34=>
 kF 72 5 v3 fun v35=>
 kL 26 v35 fun v36=>
 kF 72 6 v3 fun v37=>
 kL 9 v37 fun v38=>
 a0a prog 41 #[a0,v32,v34,v36,v38] fun v39=>
 kE 0 3 v39 fun v40=>
 kE 1 27 v39 fun v41=>
 kE 2 62 v39 fun v42=>
 M_2 [v15,v42,v28,v41,undef,undef,undef])
 (kC .eql 3 3 4 v9 fun v44=>
 kO v44 (kF 72 1 v3 fun v46=>
 kL 3 v46 fun v47=>
 a0a prog 75 #[a0,v47] fun v48=>
 M_2 [v15,v48,v28,(.slice none 0 0),v44,undef,undef])
 (kC .eql 3 4 4 v9 fun v50 w=>
 a1q v50
 (kF 72 1 v3 (fun v52=>
 kL 3 v52 fun v53=>
 a0a prog 46 #[a0,v53] fun v54=>
 M_2 [v15,v54,v28,(.slice none 0 0),v44,v50,undef]) w)
 (a4h (fun M_37=>(kC .eql 3 5 4 v9 (fun v56=>
 kO v56 (M_37 [v56])
 (kC .eql 3 6 4 v9 fun v57=>
 kO v57 (M_37 [v57])
 (kC .eql 3 7 4 v9 fun v58=>
 kO v58 (M_37 [v58])
 (kC .eql 3 8 4 v9 fun v59=>
 M_37 [v59])))) w))
 fun l_38 u_l_38 w=>(kO (l_38.getD 0 undef) (M_2 [v15,(.int .i64 0),v28,(.slice none 0 0),v44,v50,(l_38.getD 0 undef)])
 (kF 72 4 v3 fun v11=>
 kL 29 v11 fun v12=>
 a0a prog 53 #[a0,v12] fun v13=>
 M_2 [v15,v13,v28,(.slice none 0 0),v44,v50,(l_38.getD 0 undef)]) w)))))) w))
 fun l_3 u_l_3 w=>(K (.tuple #[(l_3.getD 3 undef),(l_3.getD 1 undef)]) w)) w
theorem e6j (h:g2o a0 a1 K w):a0a prog 31 #[a0,a1] K w:=
 cZ (fun _=>0) func31 h
end Go.Proofs
namespace Go.Proofs
open Go Go.Sh Go.RowKit FdSpec TkSpec CodeSpec PuSpec DkSpec JnSpec
def b1r (o:OpM):Bool:=a9h o.held && (decide (o.terms.length ≤ 210) && decide (o.keep.length ≤ 20))
def b2n (l:List OpM) (most:Nat):Bool:=(l.take (most + 1)).all b1r && decide (l.length ≤ most)
@[reducible] def opC (o:OpM) (av yv kv qv:Value):List Value:=[.int .i64 o.kind,.int .i64 o.a,.int .i64 o.b,.int .i64 o.c,.int .i64 o.held.limit,.int .i64 o.held.window,av,.int .i64 o.held.bl.s,.int .i64 o.held.bl.u,.int .i64 o.held.bl.v,yv,.int .i64 o.held.t.mark,.int .i64 o.held.t.first,.int .i64 o.held.t.z,.int .i64 o.held.t.a,.int .i64 o.held.t.b,.int .i64 o.held.t.r,kv,.int .i64 o.next.mark,.int .i64 o.next.first,.int .i64 o.next.z,.int .i64 o.next.a,.int .i64 o.next.b,.int .i64 o.next.r,.string ⟨o.terms.toArray⟩,qv]
@[reducible] def opV (o:OpM) (av yv kv qv:Value):Value:=.agg #[.int .i64 o.kind,.int .i64 o.a,.int .i64 o.b,.int .i64 o.c,.int .i64 o.held.limit,.int .i64 o.held.window,av,.int .i64 o.held.bl.s,.int .i64 o.held.bl.u,.int .i64 o.held.bl.v,yv,.int .i64 o.held.t.mark,.int .i64 o.held.t.first,.int .i64 o.held.t.z,.int .i64 o.held.t.a,.int .i64 o.held.t.b,.int .i64 o.held.t.r,kv,.int .i64 o.next.mark,.int .i64 o.next.first,.int .i64 o.next.z,.int .i64 o.next.a,.int .i64 o.next.b,.int .i64 o.next.r,.string ⟨o.terms.toArray⟩,qv]
structure OpR (w:World) (o:OpM) (av yv kv qv:Value):Prop where
 kind:InR o.kind
 a:InR o.a
 b:InR o.b
 c:InR o.c
 held:HldR w o.held av yv kv
 next:WTkt o.next
 terms:Len o.terms.length
 keep:Ints w qv o.keep
def VOp (w:World) (c:List Value) (o:OpM):Prop:=∃ av yv kv qv,c = opC o av yv kv qv ∧ OpR w o av yv kv qv
section
variable {K:VK} {w w' w0 W W':World} {L:List (Addr × Value)} {rb b:Nat} {s:Stp} {lims:List Lim} {p p':Ph} {items items':List Itm} {A:Ab} {P:Pst} {h:Dk}
theorem OpR.nx {o:OpM} {av yv kv qv:Value} (h:OpR w o av yv kv qv) (hb:Bw w w'):OpR w' o av yv kv qv:=⟨h.kind,h.a,h.b,h.c,h.held.next hb,h.next,h.terms,h.keep.next hb⟩
theorem d1p:c8a VOp:=fun _ _ _ _ ⟨av,yv,kv,qv,h1,h2⟩ hb=>⟨av,yv,kv,qv,h1,h2.nx hb⟩
theorem g7t:Tryz.prog.underlying 72 = some ((Tryz.prog.underlying 72).getD default):=by kernel_rfl
@[go_sem] theorem h1w (T:TypeId) (b o n c:Nat) (x:Int):oM Tryz.prog (.indexAddr 69 (.tmp 0) (.tmp 1)) T [.slice (some ⟨b,o,none⟩) n c,.int .i64 x] = onM (0 ≤ x ∧ x < n) (.pointer (some ⟨b,o + x.toNat * 26,none⟩)):=
 b2j (K:=fun _ _=>True) (P:=Tryz.prog) (n:=26) 69 T (by kernel_rfl) (fun w=>by kernel_rfl) b o n c x
theorem e4e {b q:Nat} {o:OpM} {av yv kv qv:Value} (h:∀ j u,(opC o av yv kv qv)[j]? = some u → w.cell? ⟨b,q + j,none⟩ = some u):∀ j u,(a6o o.held av yv kv)[j]? = some u → w.cell? ⟨b,q + 4 + j,none⟩ = some u:=fun j u hj=>by
 rw [Nat.add_assoc]
 refine h (4 + j) u ?_
 have e:opC o av yv kv qv = [.int .i64 o.kind,.int .i64 o.a,.int .i64 o.b,.int .i64 o.c] ++ (a6o o.held av yv kv ++ (b1p o.next ++ [.string ⟨o.terms.toArray⟩,qv])):=rfl
 rw [e,List.getElem?_append_right (by simp)]
 simp only [List.length_cons,List.length_nil,Nat.zero_add,Nat.add_sub_cancel_left]
 rw [List.getElem?_append_left (gS hj).1]
 exact hj
theorem g0u {b q:Nat} {o:OpM} {av yv kv qv:Value} (h:∀ j u,(opC o av yv kv qv)[j]? = some u → w.cell? ⟨b,q + j,none⟩ = some u):∀ j u,(b1p o.next)[j]? = some u → w.cell? ⟨b,q + 18 + j,none⟩ = some u:=fun j u hj=>by
 rw [Nat.add_assoc]
 refine h (18 + j) u ?_
 have e:opC o av yv kv qv = ([.int .i64 o.kind,.int .i64 o.a,.int .i64 o.b,.int .i64 o.c] ++ a6o o.held av yv kv) ++ (b1p o.next ++ [.string ⟨o.terms.toArray⟩,qv]):=rfl
 rw [e,List.getElem?_append_right (by simp)]
 simp only [List.length_append,List.length_cons,List.length_nil,Nat.zero_add,Nat.add_sub_cancel_left]
 rw [List.getElem?_append_left (gS hj).1]
 exact hj
theorem d1q {b q:Nat} {o:OpM} {av yv kv qv:Value} (h:∀ j u,(opC o av yv kv qv)[j]? = some u → w.cell? ⟨b,q + j,none⟩ = some u) :
  w.cell? ⟨b,q,none⟩ = some (.int .i64 o.kind) ∧ w.cell? ⟨b,q + 1,none⟩ = some (.int .i64 o.a) ∧ w.cell? ⟨b,q + 2,none⟩ = some (.int .i64 o.b) ∧ w.cell? ⟨b,q + 3,none⟩ = some (.int .i64 o.c) ∧ w.cell? ⟨b,q + 24,none⟩ = some (.string ⟨o.terms.toArray⟩) ∧ w.cell? ⟨b,q + 25,none⟩ = some qv:=
 ⟨h 0 _ rfl,h 1 _ rfl,h 2 _ rfl,h 3 _ rfl,h 24 _ rfl,h 25 _ rfl⟩
theorem e4f (l:List OpM) (most:Nat) (hmost:most ≤ 1000) {v:Value} (hr:SRow 26 (a9i 26 VOp) w v l) (k:∀ w',Bw w w' → K (.bool (b2n l most)) w'):a0a Tryz.prog 30 #[v,.int .i64 (most:Int)] K w:=by
 apply e6i
 unfold g2n
 obtain ⟨ad,d,rfl⟩:=hr.isSlice
 have hll:=hr.len
 refine ⟨fun vs W=>∃ (i:Nat),vs = [.bool false,.int .i64 (i:Int)] ∧ i ≤ l.length ∧ i ≤ most + 1 ∧ (l.take i).all b1r = true ∧ Nx w W,
  (fun vs _=>match vs with | [_,.int _ i]=>l.length - i.toNat | _=>0),⟨0,rfl,by omega,by omega,rfl,bR⟩,?_⟩
 rintro _ _ w2 ⟨i,rfl,hi,hi7,ha,h2⟩
 by_cases hil:i < l.length ∧ i < most + 1
 ·have hi1:(i:Int) < l.length:=by omega
  have hi2:(i:Int) ≤ most:=by omega
  have hL:=hr.next (a0l d1p) h2
  obtain ⟨lb,lo,rfl,hlb,cs,hcl,hcc,av,yv,kv,qv,rfl,hO⟩:=hL.at hil.1
  obtain ⟨a1,n1,d1,a2,n2,d2,a3,n3,d3,rfl,rfl,rfl⟩:=a0m hO.held
  obtain ⟨q1,c1,rfl⟩:=hO.keep.isSlice
  have hnext:(l.take (i + 1)).all b1r = b1r l[i]:=by
   rw [List.take_succ_eq_append_getElem hil.1,List.all_append,ha]; simp
  have bad:b1r l[i] = false → ∀ w',Nx w2 w' → K (.bool false) w':=fun e w' hw=>by
   have k:=k _ (h2.on hw)
   have:b2n l most = false:=by
    unfold b2n
    rw [Bool.and_eq_false_iff]
    left
    rw [List.all_eq_false]
    refine ⟨l[i],?_,by rw [e]; simp⟩
    rw [List.mem_take_iff_getElem]
    exact ⟨i,by omega,rfl⟩
   rwa [this] at k
  refine Xa (An2 @hi1 @hi2) ?_
  refine a1l (cs:=a6o l[i].held (.slice a1 n1 d1) (.slice a2 n2 d2) (.slice a3 n3 d3)) (e4e hcc) a3n (by kernel_rfl) (by kernel_rfl) ?_
  refine c0q l[i].held hO.held (fun w3 h3=>?_)
  have hfo:b1r l[i] = (a9h l[i].held && (decide (l[i].terms.length ≤ 210) && decide (l[i].keep.length ≤ 20))):=rfl
  have hcc3:∀ j u,(opC l[i] (.slice a1 n1 d1) (.slice a2 n2 d2) (.slice a3 n3 d3) (.slice q1 l[i].keep.length c1))[j]? = some u → w3.cell? ⟨lb,lo + i * 26 + j,none⟩ = some u:=fun j u hj=>(h3.cell hlb).trans (hcc j u hj)
  have hc:=d1q hcc3
  cases hf:a9h l[i].held with
  | false=>
   have bad:=bad (by rw [hfo,hf]; rfl) _ h3
   refine Xa0 ?_
   exact bad
  | true=>
   by_cases ht:l[i].terms.length ≤ 210
   ·have htZ:¬ (210:Int) < l[i].terms.length:=by omega
    by_cases hk:l[i].keep.length ≤ 20
    ·have hkZ:¬ (20:Int) < l[i].keep.length:=by omega
     refine Xa (An4 @hi1 @hc @htZ @hkZ) ?_
     exact ⟨⟨i + 1,rfl,by omega,by omega,by rw [hnext,hfo,hf,decide_eq_true ht,decide_eq_true hk]; rfl,h2.on h3⟩,by show l.length - (((i + 1:Nat):Int)).toNat < l.length - ((i:Nat):Int).toNat; omega⟩
    ·have hkZ:(20:Int) < l[i].keep.length:=by omega
     have bad:=bad (by rw [hfo,hf,decide_eq_true ht,decide_eq_false hk]; rfl) _ h3
     refine Xa (An4 @hi1 @hc @htZ @hkZ) ?_
     exact bad
   ·have htZ:(210:Int) < l[i].terms.length:=by omega
    have bad:=bad (by rw [hfo,hf,decide_eq_false ht]; rfl) _ h3
    refine Xa (An3 @hi1 @hc @htZ) ?_
    exact bad
 ·have e6:(l.take (most + 1)).all b1r = true:=by
   by_cases h6:i = most + 1
   ·rw [← h6]; exact ha
   ·have:i = l.length:=by omega
    rw [this,List.take_length] at ha
    rw [List.take_of_length_le (by omega)]
    exact ha
  have k2:K (.bool (decide (l.length ≤ most))) w2:=by
   have k:=k _ h2
   unfold b2n at k
   rw [e6] at k
   exact k
  by_cases q3:l.length ≤ most
  ·have q3Z:(l.length:Int) ≤ most:=by omega
   have hi1:¬ (i:Int) < l.length:=by omega
   rw [decide_eq_true q3] at k2
   refine Xa (An2 @hi1 @q3Z) ?_
   exact k2
  ·have q3Z:¬ (l.length:Int) ≤ most:=by omega
   rw [decide_eq_false q3] at k2
   by_cases hi1:(i:Int) < l.length
   ·have hi2:¬ (i:Int) ≤ most:=by omega
    refine Xa (An3 @hi1 @hi2 @q3Z) ?_
    exact k2
   ·refine Xa (An2 @hi1 @q3Z) ?_
    exact k2
theorem d4d {l:List OpM} {most:Nat} (h:b2n l most = true):l.length ≤ most ∧ ∀ o ∈ l,b1r o = true:=by
 unfold b2n at h
 simp only [bA,dE] at h
 obtain ⟨h1,h2⟩:=h
 rw [List.take_of_length_le (by omega),List.all_eq_true] at h1
 exact ⟨h2,h1⟩
end
end Go.Proofs
namespace Go.Proofs
open Go Go.Sh Go.RowKit Go.Lib CodeSpec TkSpec FdSpec PuSpec Go.ChangeShapes Go.WideShapes Go.ChangeAt Go.Deep
section
variable {H:Type} {enc:TypeId × Value → H} {w:World} {sp:Nat → Bool} {hd:Bool}
theorem e9n:Tryz.prog.cellsOf 72 = 26:=by kernel_rfl
theorem e9o {v:Value} {n:Nat} {D:DataW H × List MemPlace} (h:DataW.trod enc Tryz.prog w 0 sp hd n 69 [v] = some D):∃ l,SRow 26 (a9i 26 VOp) w v l:=
 b5q Tryz.underlying69 e9n (by decide) (fun cs b p m D hl hc ht=>by
  obtain ⟨xs,m,_,_,hcl,hxl,hf⟩:=DataW.trod_struct Tryz.underlying72 ht
  have hxl:xs.length = 8:=hxl
  match cs,hl,xs,hxl with
  | [x0,x1,x2,x3,x4,x5,x6,x7,x8,x9,x10,x11,x12,x13,x14,x15,x16,x17,x18,x19,x20,x21,x22,x23,x24,x25],_,[y0,y1,y2,y3,y4,y5,y6,y7],_=>
   have f0:DataW.trod enc Tryz.prog w 0 sp hd m 3 (([x0,x1,x2,x3,x4,x5,x6,x7,x8,x9,x10,x11,x12,x13,x14,x15,x16,x17,x18,x19,x20,x21,x22,x23,x24,x25].drop 0).take (Tryz.prog.cellsOf 3)) = some y0:=hf 0 _ rfl
   have f1:DataW.trod enc Tryz.prog w 0 sp hd m 3 (([x0,x1,x2,x3,x4,x5,x6,x7,x8,x9,x10,x11,x12,x13,x14,x15,x16,x17,x18,x19,x20,x21,x22,x23,x24,x25].drop 1).take (Tryz.prog.cellsOf 3)) = some y1:=hf 1 _ rfl
   have f2:DataW.trod enc Tryz.prog w 0 sp hd m 3 (([x0,x1,x2,x3,x4,x5,x6,x7,x8,x9,x10,x11,x12,x13,x14,x15,x16,x17,x18,x19,x20,x21,x22,x23,x24,x25].drop 2).take (Tryz.prog.cellsOf 3)) = some y2:=hf 2 _ rfl
   have f3:DataW.trod enc Tryz.prog w 0 sp hd m 3 (([x0,x1,x2,x3,x4,x5,x6,x7,x8,x9,x10,x11,x12,x13,x14,x15,x16,x17,x18,x19,x20,x21,x22,x23,x24,x25].drop 3).take (Tryz.prog.cellsOf 3)) = some y3:=hf 3 _ rfl
   have f4:DataW.trod enc Tryz.prog w 0 sp hd m 29 (([x0,x1,x2,x3,x4,x5,x6,x7,x8,x9,x10,x11,x12,x13,x14,x15,x16,x17,x18,x19,x20,x21,x22,x23,x24,x25].drop 4).take (Tryz.prog.cellsOf 29)) = some y4:=hf 4 _ rfl
   have f5:DataW.trod enc Tryz.prog w 0 sp hd m 26 (([x0,x1,x2,x3,x4,x5,x6,x7,x8,x9,x10,x11,x12,x13,x14,x15,x16,x17,x18,x19,x20,x21,x22,x23,x24,x25].drop 18).take (Tryz.prog.cellsOf 26)) = some y5:=hf 5 _ rfl
   have f6:DataW.trod enc Tryz.prog w 0 sp hd m 9 (([x0,x1,x2,x3,x4,x5,x6,x7,x8,x9,x10,x11,x12,x13,x14,x15,x16,x17,x18,x19,x20,x21,x22,x23,x24,x25].drop 24).take (Tryz.prog.cellsOf 9)) = some y6:=hf 6 _ rfl
   have f7:DataW.trod enc Tryz.prog w 0 sp hd m 22 (([x0,x1,x2,x3,x4,x5,x6,x7,x8,x9,x10,x11,x12,x13,x14,x15,x16,x17,x18,x19,x20,x21,x22,x23,x24,x25].drop 25).take (Tryz.prog.cellsOf 22)) = some y7:=hf 7 _ rfl
   rw [b6m] at f0 f1 f2 f3
   rw [b6p] at f4
   rw [b6o] at f5
   rw [c3w] at f6
   rw [b4f] at f7
   obtain ⟨k0,e0,_,w0⟩:=DataW.trod_int Tryz.underlying3 f0
   obtain ⟨k1,e1,_,w1⟩:=DataW.trod_int Tryz.underlying3 f1
   obtain ⟨k2,e2,_,w2⟩:=DataW.trod_int Tryz.underlying3 f2
   obtain ⟨k3,e3,_,w3⟩:=DataW.trod_int Tryz.underlying3 f3
   obtain ⟨hld,av,yv,kv,eh,hH⟩:=c3x f4
   obtain ⟨t,et,ht⟩:=b6n f5
   obtain ⟨s,ess,_,hs⟩:=DataW.trod_string Tryz.underlying9 f6
   obtain ⟨kl,hkl⟩:=a9q f7
   simp only [List.drop_zero,List.take_succ_cons,List.take_zero,List.drop_succ_cons,List.cons.injEq,and_true,b1p,a6o] at e0 e1 e2 e3 eh et ess
   obtain ⟨h0,h1,h2,h3,h4,h5,h6,h7,h8,h9,h10,h11,h12,h13⟩:=eh
   obtain ⟨t0,t1,t2,t3,t4,t5⟩:=et
   refine ⟨⟨k0,k1,k2,k3,hld,t,s.data.toList,kl⟩,_,rfl,hc,av,yv,kv,x25,?_,⟨a6f w0,a6f w1,a6f w2,a6f w3,hH,ht,?_,hkl⟩⟩
   ·rw [e0,e1,e2,e3,h0,h1,h2,h3,h4,h5,h6,h7,h8,h9,h10,h11,h12,h13,t0,t1,t2,t3,t4,t5,ess,g5c s]
   ·show ((s.data.toList.length:Nat):Int) ≤ _
    have:s.data.toList.length = s.size:=by simp
    rw [this]
    have:maxLen = 9223372036854775807:=rfl
    omega) h
theorem c7o {b0:Nat} {v:Value} {d:DataW H} {ps:List MemPlace} (hval:Value.okWide Tryz.prog w .any b0 69 v) (h:DataW.Trod enc Tryz.prog w 0 sp hd 69 v d ps):∃ l,SRow 26 (a9i 26 VOp) w v l:=by
 obtain ⟨a,n,c,rfl⟩:=okWide_slice Tryz.underlying69 hval
 obtain ⟨fu,hf⟩:=h
 exact e9o hf
end
end Go.Proofs
namespace Go.Proofs
open Go Go.Sh Go.RowKit FdSpec TkSpec CodeSpec PuSpec DkSpec JnSpec
section
variable {K:VK} {w w' w0 W W':World} {L:List (Addr × Value)} {rb b:Nat} {s:Stp} {lims:List Lim} {p p':Ph} {items items':List Itm} {A:Ab} {P:Pst} {h:Dk}
theorem g0v (hP:PuR s lims w0 w p A P) (i:Int) (hi:InR i)
  (k:∀ w' p',PuR s lims w0 w' p' (a2m A P i 2).2.1 (a2m A P i 2).2.2 → PuSt p w p' w' → (p'.pb = p.pb ∧ p'.b = p.b) → K (.int .i64 (a2m A P i 2).1) w') :
  a0a Tryz.prog 75 #[.pointer (some ⟨p.pb,0,none⟩),.int .i64 i] K w:=by
 apply e6g
 unfold g2l
 exact e4b hP i 2 (.inl rfl) hi (fun w' p' a b c=>k w' p' a b c)
theorem g7u (s:Stp) (lims:List Lim) (A:Ab) (p:Pst) (o:OpM):e9q s lims A p o = if o.kind = 1 then (([],(a0s s lims A p o.a o.b o.c).1.2),(a0s s lims A p o.a o.b o.c).2)
 else if o.kind = 2 then ((a4a s lims A p o.a o.b o.next o.terms).1.2,(a4a s lims A p o.a o.b o.next o.terms).2)
 else if o.kind = 3 then (([],(a2m A p o.a 2).1),(a2m A p o.a 2).2)
 else if o.kind = 4 then (([],(a2m A p o.a 4).1),(a2m A p o.a 4).2)
 else if o.kind = 5 ∨ o.kind = 6 ∨ o.kind = 7 ∨ o.kind = 8 then (([],0),A,p)
 else (([],(b1f s lims A p o.held).1),(b1f s lims A p o.held).2):=rfl
set_option maxHeartbeats 4000000 in
theorem f7o (hP:PuR s lims w0 w p A P) (o:OpM) {av yv kv qv:Value} {D:Nat → Prop} (hD:∀ i,D i → i < w.heap.size ∧ ¬ Mu p i) (hx:FP D w (fun W=>HldR W o.held av yv kv)) (ho:OpR w o av yv kv qv) (htl:o.kind = 2 → o.terms.length ≤ 1000000)
  (hsm:∀ x ∈ P.items,b3w x.held) (hst:∀ x ∈ P.items,∀ y ∈ x.held.links,y.terms.length ≤ 1000000)
  (k:∀ w' p' v,PuR s lims w0 w' p' (e9q s lims A P o).2.1 (e9q s lims A P o).2.2 → PuSt p w p' w' → (p'.pb = p.pb ∧ p'.b = p.b) →
   FP (fun i=>w.heap.size ≤ i ∧ i < w'.heap.size ∧ ¬ Mu p' i) w' (fun W=>b4u W v (e9q s lims A P o).1.1) → (∀ ad n c,v = .slice ad n c → n ≤ c) → K (.tuple #[v,.int .i64 (e9q s lims A P o).1.2]) w') :
  a0a Tryz.prog 31 #[.pointer (some ⟨p.pb,0,none⟩),opV o av yv kv qv] K w:=by
 apply e6j
 unfold g2o
 obtain ⟨a1,n1,d1,a2,n2,d2,a3,n3,d3,rfl,rfl,rfl⟩:=a0m ho.held
 obtain ⟨q1,c1,rfl⟩:=ho.keep.isSlice
 have hnil:∀ W q,FP (fun i=>w.heap.size ≤ i ∧ i < W.heap.size ∧ ¬ Mu q i) W (fun W=>b4u W (.slice none 0 0) []):=fun W q _ _ _ _ _ _=>SRow.nil
 have hcz:∀ ad n c,(Value.slice none 0 0) = .slice ad n c → n ≤ c:=fun ad n c e=>by cases e; exact rL
 have k2:∀ r,e9q s lims A P o = r → ∀ w' p' v,PuR s lims w0 w' p' r.2.1 r.2.2 → PuSt p w p' w' → (p'.pb = p.pb ∧ p'.b = p.b) →
   FP (fun i=>w.heap.size ≤ i ∧ i < w'.heap.size ∧ ¬ Mu p' i) w' (fun W=>b4u W v r.1.1) → (∀ ad n c,v = .slice ad n c → n ≤ c) → K (.tuple #[v,.int .i64 r.1.2]) w':=fun r e=>by rw [← e]; exact k
 rw [g7u] at k2
 clear k
 refine a2n (cs:=opC o (.slice a1 n1 d1) (.slice a2 n2 d2) (.slice a3 n3 d3) (.slice q1 o.keep.length c1)) rfl (fun b1 w1 h1 hb1 hB1=>?_)
 have hP1:=hP.next h1
 have S1:PuSt p w p w1:=PuSt.below h1
 have hbc:∀ j u,(opC o (.slice a1 n1 d1) (.slice a2 n2 d2) (.slice a3 n3 d3) (.slice q1 o.keep.length c1))[j]? = some u → w1.cell? ⟨b1,0 + j,none⟩ = some u:=fun j u hj=>by rw [Nat.zero_add]; exact a1h hB1 hj
 have e0:w1.cell? ⟨b1,0,none⟩ = some (.int .i64 o.kind):=a1h hB1 (j:=0) rfl
 have e1:w1.cell? ⟨b1,1,none⟩ = some (.int .i64 o.a):=a1h hB1 (j:=1) rfl
 have e2:w1.cell? ⟨b1,2,none⟩ = some (.int .i64 o.b):=a1h hB1 (j:=2) rfl
 have e3:w1.cell? ⟨b1,3,none⟩ = some (.int .i64 o.c):=a1h hB1 (j:=3) rfl
 have e24:w1.cell? ⟨b1,24,none⟩ = some (.string ⟨o.terms.toArray⟩):=a1h hB1 (j:=24) rfl
 refine ⟨fun l W=>K (.tuple #[l.getD 3 undef,l.getD 1 undef]) W,?_,?_⟩
 case refine_2=>
  intro l u W h
  exact h
 by_cases g1:o.kind = 1
 ·rw [if_pos g1] at k2
  refine Xa (An5 @e0 @e1 @e2 @e3 @g1) ?_
  refine b2k hP1 o.a o.b o.c ho.c (fun w2 p2 hP2 t2 e=>?_)
  have k2:=k2 _ rfl w2 p2 _ hP2 (S1.trans t2) e (hnil _ _) hcz
  refine Xa0 ?_
  exact k2
 rw [if_neg g1] at k2
 by_cases g2:o.kind = 2
 ·rw [if_pos g2] at k2
  refine Xa (An4 @e0 @e1 @e2 @g2) ?_
  refine a1l (cs:=b1p o.next) (p:=18) (fun j u hj=>by have:=g0u hbc j u hj; rwa [Nat.zero_add] at this) c9f (by kernel_rfl) (by kernel_rfl) ?_
  refine Xa @e24 ?_
  refine g0s hP1 o.a o.b o.next (f7i ho.next) o.terms (htl g2) hsm hst (fun w2 p2 v2 hP2 t2 e hL hc=>?_)
  have z1:=h1.size
  have k2:=k2 _ rfl w2 p2 v2 hP2 (S1.trans t2) e (hL.mono (fun i hi=>⟨by omega,hi.2⟩)) hc
  refine Xa0 ?_
  exact k2
 rw [if_neg g2] at k2
 by_cases g3:o.kind = 3
 ·rw [if_pos g3] at k2
  refine Xa (An3 @e0 @e1 @g3) ?_
  refine g0v hP1 o.a ho.a (fun w2 p2 hP2 t2 e=>?_)
  have k2:=k2 _ rfl w2 p2 _ hP2 (S1.trans t2) e (hnil _ _) hcz
  refine Xa0 ?_
  exact k2
 rw [if_neg g3] at k2
 by_cases g4:o.kind = 4
 ·rw [if_pos g4] at k2
  refine Xa (An3 @e0 @e1 @g4) ?_
  refine g0t hP1 o.a ho.a (fun w2 p2 hP2 t2 e=>?_)
  have k2:=k2 _ rfl w2 p2 _ hP2 (S1.trans t2) e (hnil _ _) hcz
  refine Xa0 ?_
  exact k2
 rw [if_neg g4] at k2
 refine Xa (An5 @e0 @g1 @g2 @g3 @g4) ?_
 refine ⟨fun l W=>l.getD 0 undef = .bool (decide (o.kind = 5 ∨ o.kind = 6 ∨ o.kind = 7 ∨ o.kind = 8)) ∧ W = w1,?_,?_⟩
 ·by_cases g5:o.kind = 5
  ·rw [decide_eq_true (.inl g5)]
   refine Xa @g5 ?_
   exact ⟨rfl,rfl⟩
  by_cases g6:o.kind = 6
  ·rw [decide_eq_true (.inr (.inl g6))]
   refine Xa @g6 ?_
   exact ⟨rfl,rfl⟩
  by_cases g7:o.kind = 7
  ·rw [decide_eq_true (.inr (.inr (.inl g7)))]
   refine Xa @g7 ?_
   exact ⟨rfl,rfl⟩
  by_cases g8:o.kind = 8
  ·rw [decide_eq_true (.inr (.inr (.inr g8)))]
   refine Xa (An4 @g5 @g6 @g7 @g8) ?_
   exact ⟨rfl,rfl⟩
  ·rw [decide_eq_false (by rintro (e | e | e | e); exact g5 e; exact g6 e; exact g7 e; exact g8 e)]
   refine Xa (An4 @g5 @g6 @g7 @g8) ?_
   exact ⟨rfl,rfl⟩
 rintro lv u8 _ ⟨hlv,rfl⟩
 rw [hlv]
 by_cases g:o.kind = 5 ∨ o.kind = 6 ∨ o.kind = 7 ∨ o.kind = 8
 ·rw [if_pos g] at k2
  have k2:=k2 _ rfl _ p _ hP1 S1 ⟨rfl,rfl⟩ (hnil _ _) hcz
  rw [decide_eq_true g]
  refine Xa0 ?_
  exact k2
 ·rw [if_neg g] at k2
  rw [decide_eq_false g]
  refine Xa0 ?_
  refine a1l (cs:=a6o o.held (.slice a1 n1 d1) (.slice a2 n2 d2) (.slice a3 n3 d3)) (p:=4) (fun j u hj=>by have:=e4e hbc j u hj; rwa [Nat.zero_add] at this) a3n (by kernel_rfl) (by kernel_rfl) ?_
  refine c2p hP1 o.held (D:=D) (fun i hi=>⟨by have:=hD i hi; have:=h1.size; omega,(hD i hi).2⟩) (hx.next h1 (fun i hi=>(hD i hi).1)) (fun w2 p2 hP2 t2 e=>?_)
  have k2:=k2 _ rfl w2 p2 _ hP2 (S1.trans t2) e (hnil _ _) hcz
  refine Xa0 ?_
  exact k2
end
end Go.Proofs
namespace PuSpec
open FdSpec TkSpec CodeSpec DkSpec JnSpec
variable {s:Stp} {lims:List Lim} {A:Ab} {p:Pst} {all sure:List a0f} {n:Nat}
def HeldIn (l m:List Itm):Prop:=∀ x ∈ m,∃ y ∈ l,x.held = y.held
theorem HeldIn.refl (l:List Itm):HeldIn l l:=fun x hx=>⟨x,hx,rfl⟩
theorem HeldIn.trans {l m k:List Itm} (a:HeldIn l m) (b:HeldIn m k):HeldIn l k:=fun x hx=>by
 obtain ⟨y,hy,e⟩:=b x hx
 obtain ⟨z,hz,e2⟩:=a y hy
 exact ⟨z,hz,e.trans e2⟩
theorem HeldIn.set {l:List Itm} {i:Nat} {x y:Itm} (hx:l[i]? = some x) (hy:y.held = x.held):HeldIn l (l.set i y):=fun z hz=>by
 rcases List.mem_or_eq_of_mem_set hz with hz | rfl
 ·exact ⟨z,hz,rfl⟩
 ·exact ⟨x,List.mem_of_getElem? hx,hy⟩
theorem HeldIn.modify (l:List Itm) (i:Nat) {f:Itm → Itm} (hf:∀ x,(f x).held = x.held):HeldIn l (l.modify i f):=by
 intro x hx
 obtain ⟨k,hk,rfl⟩:=List.mem_iff_getElem.1 hx
 have h1:(l.modify i f)[k]? = some (l.modify i f)[k]:=List.getElem?_eq_getElem hk
 rw [List.getElem?_modify] at h1
 rw [List.length_modify] at hk
 rw [List.getElem?_eq_getElem hk] at h1
 refine ⟨l[k],List.getElem_mem hk,?_⟩
 by_cases hik:i = k
 ·subst hik
  simp only [if_true,Option.map_eq_map,Option.map_some,Option.some.injEq] at h1
  rw [← h1]; exact hf _
 ·simp only [hik,if_false,Option.map_eq_map,Option.map_some,Option.some.injEq] at h1
  rw [← h1]
theorem b2z (A:Ab) (p:Pst) (i:Nat) (kind dare:Int):HeldIn p.items (a4t A p i kind dare).2.2.items:=by
 unfold a4t
 dsimp only
 split
 ·exact .refl _
 ·split
  ·exact .modify _ _ fun _=>rfl
  ·exact .modify _ _ fun _=>rfl
theorem c3y (A:Ab) (p:Pst) (limit now dare:Int):HeldIn p.items (a0s s lims A p limit now dare).2.2.items:=by
 unfold a0s
 split
 ·exact .refl _
 ·split
  ·exact .refl _
  ·split
   ·exact b2z A p _ 1 dare
   ·exact b2z A p _ 1 dare
theorem d9r (A:Ab) (p:Pst) (limit now:Int) (next:Tkt) (terms:a0f):HeldIn p.items (a4a s lims A p limit now next terms).2.2.items:=by
 unfold a4a
 split
 ·exact .refl _
 ·split
  ·exact .refl _
  ·split
   ·exact .refl _
   ·split
    ·exact .refl _
    ·dsimp only
     split
     ·exact b2z A p _ 3 _
     ·exact b2z A p _ 3 _
theorem c3z (A:Ab) (p:Pst) (i kind:Int):HeldIn p.items (a2m A p i kind).2.2.items:=by
 unfold a2m
 split
 ·exact .refl _
 ·split
  ·exact .refl _
  ·rename_i x hx
   split
   ·exact .refl _
   ·rename_i y hy
    dsimp only
    split
    ·exact .refl _
    ·refine .set hx ?_
     unfold a7t at hy
     split at hy
     ·cases hy; rfl
     ·split at hy
      ·cases hy; rfl
      ·cases hy
theorem c4a (A:Ab) (p:Pst) (o:OpM):HeldIn p.items (c2t s lims A p o).2.2.items:=by
 unfold c2t
 split
 ·exact c3y A p _ _ _
 ·split
  ·exact d9r A p _ _ _ _
  ·split
   ·exact c3z A p _ _
   ·split
    ·exact c3z A p _ _
    ·exact .refl _
theorem c4b (A:Ab) (p:Pst) {o:OpM} (h:1 ≤ o.kind ∧ o.kind ≤ 4):(e9q s lims A p o).1.2 = (c2t s lims A p o).1 ∧ (e9q s lims A p o).2 = (c2t s lims A p o).2:=by
 unfold e9q c2t
 by_cases g1:o.kind = 1
 ·rw [if_pos g1,if_pos g1]; exact ⟨rfl,rfl⟩
 rw [if_neg g1,if_neg g1]
 by_cases g2:o.kind = 2
 ·rw [if_pos g2,if_pos g2]; exact ⟨rfl,rfl⟩
 rw [if_neg g2,if_neg g2]
 by_cases g3:o.kind = 3
 ·rw [if_pos g3,if_pos g3]; exact ⟨rfl,rfl⟩
 rw [if_neg g3,if_neg g3]
 rw [if_pos (by omega),if_pos (by omega)]
 exact ⟨rfl,rfl⟩
theorem e9p {l:List Hld}:∀ x ∈ l.map a1d,x.status ≠ 3:=by
 intro x hx
 obtain ⟨y,_,rfl⟩:=List.mem_map.1 hx
 exact (show (0:Int) ≠ 3 by decide)
end PuSpec
namespace Go.Proofs
open Go Go.Sh Go.RowKit FdSpec TkSpec CodeSpec PuSpec DkSpec JnSpec
section
variable {K:VK} {w w' w0 W W':World} {L:List (Addr × Value)} {rb b:Nat} {s:Stp} {lims:List Lim} {p p':Ph} {items items':List Itm} {A:Ab} {P:Pst} {h:Dk}
theorem g0w {m:(VK) → WK} (h:m K w):gdM (gd (.bool true) true) m K w:=h
theorem b4x {l m:List Itm} (h:HeldIn l m) (hs:∀ x ∈ l,b3w x.held):∀ x ∈ m,b3w x.held:=fun x hx=>by
 obtain ⟨y,hy,e⟩:=h x hx
 rw [e]; exact hs y hy
theorem c0r {l m:List Itm} (h:HeldIn l m) (hs:∀ x ∈ l,∀ y ∈ x.held.links,y.terms.length ≤ 1000000):∀ x ∈ m,∀ y ∈ x.held.links,y.terms.length ≤ 1000000:=fun x hx=>by
 obtain ⟨y,hy,e⟩:=h x hx
 rw [e]; exact hs y hy
theorem c6o {hs l:List Hld} (hF:Fresh0 s lims hs P l) (hfew:b1q hs = true):∀ x ∈ P.items,∀ y ∈ x.held.links,y.terms.length ≤ 1000000:=by
 intro x hx y hy
 rw [hF.items] at hx
 obtain ⟨z,hz,rfl⟩:=List.mem_map.1 hx
 have:=e4d ((b3x hfew).2 z (hF.mem z hz)) y hy
 omega
theorem h1y {ops:List OpM} {v:Value} (hr:SRow 26 (a9i 26 VOp) w v ops) {i:Nat} (hi:i < ops.length):∃ b o d av yv kv qv,v = .slice (some ⟨b,o,none⟩) ops.length d ∧ b < w.heap.size ∧ (∀ j u,(opC ops[i] av yv kv qv)[j]? = some u → w.cell? ⟨b,o + i * 26 + j,none⟩ = some u) ∧ OpR w ops[i] av yv kv qv:=by
 obtain ⟨ad,d,rfl⟩:=hr.isSlice
 obtain ⟨b,o,rfl,hb,cs,hcl,hcc,av,yv,kv,qv,rfl,hH⟩:=hr.at hi
 exact ⟨b,o,d,av,yv,kv,qv,rfl,hb,hcc,hH⟩
end
end Go.Proofs
namespace Go.Proofs
open Go.Sh Tryz
variable {a0 a1 a2 a3 a4:Value} {K:VK} {w:World}
def g2e (a0:Value) (K:VK) (w:World):Prop:=
 oM prog (.nilCheck (.tmp 0)) 0 [a0] (fun v7=>
 kF 136 0 v7 fun v8=>
 kF 133 2 v8 fun v9=>
 kL 59 v9 fun v10=>
 kN 59 v10 fun v11=>
 kQ [(.string ⟨#[]⟩),(.int .i64 0)] fun J_6 m_7 l_8 u_l_8 w0_l_8=>(fun w=>(
 kB .lss 3 0 (l_8.getD 1 undef) v11 (fun v13 w=>
 a1q v13
 (a4h (fun M_10=>(kI 59 v10 (l_8.getD 1 undef) (fun v14=>
 kL 67 v14 fun v15=>
 kA 67 fun v5=>
 kS 67 v5 v15 fun _=>
 kF 67 1 v5 fun v16=>
 kL 3 v16 fun v17=>
 kC .eql 3 0 4 v17 fun v18=>
 kO v18 (kF 67 0 v5 fun v20=>
 kL 29 v20 fun v21=>
 a0a prog 15 #[v21] fun v22=>
 a0a prog 64 #[v22] fun v23=>
 kB .add 9 9 (l_8.getD 0 undef) v23 fun v24=>
 M_10 [v24])
 (M_10 [(l_8.getD 0 undef)])) w))
 fun l_11 u_l_11 w=>(kB .add 3 3 (l_8.getD 1 undef) (.int .i64 1) (fun v25=>
 kJ J_6 m_7 l_8 w0_l_8 [(l_11.getD 0 undef),v25]) w))
 (K (l_8.getD 0 undef) w)) w)) w0_l_8) w
theorem e5z (h:g2e a0 K w):a0a prog 47 #[a0] K w:=
 cZ (fun _=>0) func47 h
def g2f (a0:Value) (K:VK) (w:World):Prop:=
 a0a prog 57 #[a0] (fun v9=>
 kQ [undef,(.slice none 0 0),(.bool false),(.slice none 0 0)] fun J_2 m_3 l_4 u_l_4 w0_l_4=>(fun w=>(
 a0a prog 59 #[v9] (fun v11=>
 kU v11 fun v12=>
 kO v12 (a0a prog 67 #[v9] fun v15=>
 a0a prog 14 #[v15] fun v16=>
 kE 0 29 v16 fun v17=>
 kE 1 4 v16 fun v18=>
 kA 29 fun v6=>
 kS 29 v6 v17 fun _=>
 kU v18 fun v20=>
 kO v20 (K (.tuple #[(.slice none 0 0),(.bool false)]))
 (kL 29 v6 fun v22=>
 oM prog (.buildSlice 52 1 #[(0,(.tmp 0))]) 52 [v22] fun v23=>
 oM prog (.call (Go.Call.mk (.builtin .append) #[(.tmp 0),(.tmp 1)] #[52,52])) 52 [(l_4.getD 3 undef),v23] fun v24=>
 kJ J_2 m_3 l_4 w0_l_4 [v18,(l_4.getD 1 undef),(l_4.getD 2 undef),v24]))
 (K (.tuple #[(l_4.getD 3 undef),(.bool true)]))) w)) w0_l_4) w
theorem e6a (h:g2f a0 K w):a0a prog 96 #[a0] K w:=
 cZ (fun _=>0) func96 h
def g2g (a0 a1 a2:Value) (K:VK) (w:World):Prop:=
 oM prog (.box 29 (.tmp 0)) 0 [a0] (fun v3=>
 kL 50 a1 fun v5=>
 kL 51 a2 fun v6=>
 kL 29 v3 fun v7=>
 a0a prog 99 #[v5,v6,v7] fun v8=>
 kU v8 fun v9=>
 K v9) w
theorem e6b (h:g2g a0 a1 a2 K w):a0a prog 98 #[a0,a1,a2] K w:=
 cZ (fun _=>0) func98 h
def g2h (a0 a1 a2 a3 a4:Value) (K:VK) (w:World):Prop:=
 oM prog (.box 50 (.tmp 0)) 0 [a1] (fun v6=>
 oM prog (.box 51 (.tmp 0)) 0 [a2] fun v7=>
 a0a prog 96 #[a3] fun v22=>
 kE 0 52 v22 fun v23=>
 kE 1 4 v22 fun v24=>
 kU v24 fun v26=>
 kO v26 (K (.tuple #[(.pointer none),(.int .i64 2)]))
 (a0a prog 65 #[a4] fun v28=>
 kU v28 fun v29 w=>
 gF v29 (a0c v23) (fun v31 w=>
 gF v29 (oM prog (.makeFunc (Go.Fn.func 98) #[] #[(.tmp 0),(.tmp 1)]) 31 [v6,v7]) (fun v32 w=>
 gF v29 (a0a prog 97 #[v31,v32]) (fun v33=>
 kP v29 (.bool true) v33 fun v34=>
 kO v34 (K (.tuple #[(.pointer none),(.int .i64 1)]))
 (kL 50 v6 fun v37=>
 kL 51 v7 fun v38=>
 a0a prog 34 #[a0,v37,v38] fun v39=>
 kE 0 56 v39 fun v40=>
 kE 1 62 v39 fun v41=>
 kC .neq 62 0 4 v41 fun v44=>
 kO v44 (K (.tuple #[(.pointer none),v41]))
 (oM prog (.nilCheck (.tmp 0)) 0 [v40] fun v48=>
 kF 136 0 v48 fun v49=>
 kF 133 2 v49 fun v50=>
 kL 59 v50 fun v51=>
 kN 59 v51 fun v52=>
 kB .gtr 3 4 v52 (.int .i64 0) fun v53=>
 kO v53 (K (.tuple #[(.pointer none),(.int .i64 7)]))
 (kN 52 v23 fun v55=>
 kQ [undef,(.pointer none),(.int .i64 0),(.int .i64 0)] fun J_26 m_27 l_28 u_l_28 w0_l_28=>(fun w=>(
 kB .lss 3 0 (l_28.getD 3 undef) v55 (fun v57 w=>
 a1q v57
 (a4h (fun M_30=>(kI 52 v23 (l_28.getD 3 undef) (fun v58=>
 kL 29 v58 fun v59=>
 kA 29 fun v17=>
 kS 29 v17 v59 fun _=>
 kH fun C_35 w=>(((true:Bool) = true) ∧ (jF 29 1 v17 C_35 fun v60=>
 jL 3 v60 C_35 fun v61=>
 jL 51 v7 C_35 fun v62=>
 jF 29 0 v17 C_35 fun v63=>
 jL 3 v63 C_35 fun v64=>
 jI 51 v62 v64 C_35 fun v65=>
 jF 41 1 v65 C_35 fun v66=>
 jL 3 v66 C_35 fun v67=>
 jB .mul 3 3 v61 v67 C_35 fun v68=>
 a0d a4 C_35 fun v69=>
 jB .leq 3 4 v68 v69 C_35 fun v70=>
 ∃ S_47:World → WK,∀ w,C_35 w → (kO v70 (M_30 [(l_28.getD 0 undef),(l_28.getD 1 undef),(l_28.getD 2 undef)])
 (kL 29 v17 fun v72=>
 a0a prog 53 #[v40,v72] fun v73=>
 kC .neq 62 0 4 v73 fun v75=>
 kO v75 (K (.tuple #[(.pointer none),v73]))
 (M_30 [v73,(l_28.getD 1 undef),(l_28.getD 2 undef)])) w)))) w))
 fun l_31 u_l_31 w=>(kB .add 3 3 (l_28.getD 3 undef) (.int .i64 1) (fun v77=>
 kJ J_26 m_27 l_28 w0_l_28 [(l_31.getD 0 undef),(l_31.getD 1 undef),(l_31.getD 2 undef),v77]) w))
 (oM prog (.nilCheck (.tmp 0)) 0 [v40] (fun v79=>
 kF 136 1 v79 fun v80=>
 kL 134 v80 fun v81=>
 a0a prog 100 #[v81] fun v82=>
 kC .neq 62 0 4 v82 fun v84=>
 kO v84 (K (.tuple #[(.pointer none),v82]))
 (K (.tuple #[v40,(.int .i64 0)]))) w)) w)) w0_l_28)))) w) w) w)) w
theorem e6c (h:g2h a0 a1 a2 a3 a4 K w):a0a prog 48 #[a0,a1,a2,a3,a4] K w:=
 cZ (fun _=>(fz 11 0 0)) func48 h
def g2i (a0 a1 a2 a3 a4:Value) (K:VK) (w:World):Prop:=
 oM prog (.box 50 (.tmp 0)) 0 [a0] (fun v5=>
 a0a prog 12 #[] fun v27=>
 kL 50 v5 fun v28=>
 a0a prog 23 #[v28,a1] fun v30=>
 kU v30 fun v31 w=>
 gF v31 (a0c a2) (fun v33 w=>
 gF v31 (a0a prog 24 #[v33]) (fun v34 w=>
 gF v31 (kU v34) (fun v35=>
 kP v31 (.bool true) v35 fun v36 w=>
 gF v36 (a0c a3) (fun v38 w=>
 gF v36 (a0a prog 30 #[v38,(.int .i64 6)]) (fun v39 w=>
 gF v36 (kU v39) (fun v40=>
 kP v36 (.bool true) v40 fun v41 w=>
 gF v41 (a0c a4) (fun v43 w=>
 gF v41 (kB .lss 3 4 v43 (.int .i64 0)) (fun v44=>
 kP v41 (.bool true) v44 fun v45 w=>
 gF v45 (a0c a4) (fun v47 w=>
 gF v45 (kB .gtr 3 4 v47 (.int .i64 2147483648)) (fun v48=>
 kP v45 (.bool true) v48 fun v49=>
 kO v49 (K v27)
 (kL 50 v5 fun v52=>
 a0a prog 25 #[v52,a1,a2] fun v55=>
 kE 0 55 v55 fun v56=>
 kE 1 56 v55 fun v57=>
 oM prog (.binOp .eql 56 (.tmp 0) (.const (.pointer none)) 56) 4 [v57] fun v59=>
 kO v59 (K v27)
 (a0a prog 47 #[v57] fun v62=>
 kQ [undef,undef,(.bool false),(.int .i64 0)] fun J_26 m_27 l_28 u_l_28 w0_l_28=>(fun w=>(
 kN 69 a3 (fun v65=>
 kB .lss 3 4 (l_28.getD 3 undef) v65 fun v66 w=>
 a1q v66
 (a4h (fun M_31=>(kI 69 a3 (l_28.getD 3 undef) (fun v71=>
 kF 72 0 v71 fun v72=>
 kL 3 v72 fun v73=>
 kC .eql 3 1 4 v73 fun v74 w=>
 gF v74 (a0c a3) (fun v76 w=>
 gF v74 (a0c (l_28.getD 3 undef)) (fun v77 w=>
 gF v74 (kI 69 v76 v77) (fun v78 w=>
 gF v74 (kF 72 0 v78) (fun v79 w=>
 gF v74 (kL 3 v79) (fun v80 w=>
 gF v74 (kC .eql 3 2 4 v80) (fun v81=>
 kP v74 (.bool true) v81 fun v82 w=>
 gT v82 (a0c a3) (fun v84 w=>
 gT v82 (a0c (l_28.getD 3 undef)) (fun v85 w=>
 gT v82 (kI 69 v84 v85) (fun v86 w=>
 gT v82 (kF 72 2 v86) (fun v87 w=>
 gT v82 (kL 3 v87) (fun v88 w=>
 gT v82 (a0c a4) (fun v89 w=>
 gT v82 (kB .leq 3 4 v88 v89) (fun v90=>
 kP v82 v90 (.bool false) fun v91=>
 kO v91 (kI 69 a3 (l_28.getD 3 undef) fun v96=>
 kL 72 v96 fun v97=>
 a0a prog 31 #[v57,v97] fun v98=>
 kE 0 27 v98 fun v99=>
 kE 1 62 v98 fun v100=>
 kC .eql 62 8 4 v100 fun v102 w=>
 gF v102 (a0c v100) (fun v104 w=>
 gF v102 (kC .eql 62 9 4 v104) (fun v105=>
 kP v102 (.bool true) v105 fun v106=>
 kO v106 (K (.bool false))
 (M_31 [v99,v100,(l_28.getD 2 undef)])) w) w)
 (M_31 [(l_28.getD 0 undef),(l_28.getD 1 undef),(l_28.getD 2 undef)])) w) w) w) w) w) w) w) w) w) w) w) w) w) w))
 fun l_32 u_l_32 w=>(kB .add 3 3 (l_28.getD 3 undef) (.int .i64 1) (fun v68=>
 kJ J_26 m_27 l_28 w0_l_28 [(l_32.getD 0 undef),(l_32.getD 1 undef),(l_32.getD 2 undef),v68]) w))
 (a0a prog 35 #[] (fun v107=>
 oM prog (.binOp .eql 55 (.tmp 0) (.const (.pointer none)) 55) 4 [v107] fun v109=>
 kO v109 (K (.bool false))
 (kL 50 v5 fun v112=>
 a0a prog 48 #[v107,v112,a1,v62,a4] fun v116=>
 kE 0 56 v116 fun v117=>
 kE 1 62 v116 fun v118=>
 kC .neq 62 0 4 v118 fun v120 w=>
 gF v120 (a0c v117) (fun v122 w=>
 gF v120 (oM prog (.binOp .eql 56 (.tmp 0) (.const (.pointer none)) 56) 4 [v122]) (fun v123=>
 kP v120 (.bool true) v123 fun v124=>
 kO v124 (K (.bool false))
 (a0a prog 26 #[v57] fun v126=>
 a0a prog 26 #[v117] fun v128=>
 kQ [undef,undef,(l_28.getD 2 undef),(.int .i64 0)] fun J_74 m_75 l_76 u_l_76 w0_l_76=>(fun w=>(
 kN 59 v128 (fun v131=>
 kB .lss 3 4 (l_76.getD 3 undef) v131 fun v132=>
 kO v132 (kI 59 v128 (l_76.getD 3 undef) fun v137=>
 kF 67 0 v137 fun v138=>
 kL 29 v138 fun v139=>
 kA 29 fun v24=>
 kS 29 v24 v139 fun _=>
 kQ [(.bool false),(.int .i64 0)] fun J_83 m_84 l_85 u_l_85 w0_l_85=>(fun w=>(
 kN 59 v126 (fun v142=>
 kB .lss 3 4 (l_85.getD 1 undef) v142 fun v143 w=>
 a1q v143
 (a4h (fun M_88=>(kH (fun C_90 w=>(((true:Bool) = true) ∧ (a0d v126 C_90 fun v146=>
 a0d (l_85.getD 1 undef) C_90 fun v147=>
 jI 59 v146 v147 C_90 fun v148=>
 jF 67 0 v148 C_90 fun v149=>
 jF 29 4 v149 C_90 fun v150=>
 jL 26 v150 C_90 fun v151=>
 jF 29 4 v24 C_90 fun v152=>
 jL 26 v152 C_90 fun v153=>
 ∃ S_99:World → WK,∀ w,C_90 w → (
 a0a prog 42 #[v151,v153] (fun v154=>
 kO v154 (kH fun C_101 w=>(((true:Bool) = true) ∧ (a0d v126 C_101 fun v155=>
 a0d (l_85.getD 1 undef) C_101 fun v156=>
 jI 59 v155 v156 C_101 fun v157=>
 jF 67 1 v157 C_101 fun v158=>
 jL 3 v158 C_101 fun v159=>
 jC .eql 3 0 4 v159 C_101 fun v160=>
 a0d v160 C_101 fun v161=>
 jT v161 (a0d v126) C_101 fun v162=>
 jT v161 (a0d (l_85.getD 1 undef)) C_101 fun v163=>
 jT v161 (jI 59 v162 v163) C_101 fun v164=>
 jT v161 (jF 67 0 v164) C_101 fun v165=>
 jT v161 (jL 29 v165) C_101 fun v166=>
 jT v161 (jL 29 v24) C_101 fun v167=>
 ∃ S_115:World → WK,∀ w,C_101 w → (
 gT v161 (a0a prog 16 #[v166,v167]) (fun v168=>
 kP v161 v168 (.bool false) fun v169=>
 M_88 [v169]) w))))
 (M_88 [(l_85.getD 0 undef)])) w)))) w))
 fun l_89 u_l_89 w=>(kB .add 3 3 (l_85.getD 1 undef) (.int .i64 1) (fun v145=>
 kJ J_83 m_84 l_85 w0_l_85 [(l_89.getD 0 undef),v145]) w))
 (kU (l_85.getD 0 undef) (fun v171 w=>
 gF v171 (a0c v128) (fun v173 w=>
 gF v171 (a0c (l_76.getD 3 undef)) (fun v174 w=>
 gF v171 (kI 59 v173 v174) (fun v175 w=>
 gF v171 (kF 67 1 v175) (fun v176 w=>
 gF v171 (kL 3 v176) (fun v177 w=>
 gF v171 (kC .neq 3 0 4 v177) (fun v178=>
 kP v171 (.bool true) v178 fun v179 w=>
 gF v179 (kF 29 0 v24) (fun v181 w=>
 gF v179 (kL 3 v181) (fun v182 w=>
 gF v179 (kB .lss 3 4 v182 (.int .i64 0)) (fun v183=>
 kP v179 (.bool true) v183 fun v184 w=>
 gF v184 (kF 29 0 v24) (fun v186 w=>
 gF v184 (kL 3 v186) (fun v187 w=>
 gF v184 (a0c a1) (fun v188 w=>
 gF v184 (kN 51 v188) (fun v189 w=>
 gF v184 (kB .geq 3 4 v187 v189) (fun v190=>
 kP v184 (.bool true) v190 fun v191=>
 kO v191 (K (.bool false))
 (kH fun C_137 w=>(((true:Bool) = true) ∧ (a0d a1 C_137 fun v192=>
 jF 29 0 v24 C_137 fun v193=>
 jL 3 v193 C_137 fun v194=>
 jI 51 v192 v194 C_137 fun v195=>
 jL 41 v195 C_137 fun v196=>
 a0d a4 C_137 fun v197=>
 jF 29 1 v24 C_137 fun v199=>
 jL 3 v199 C_137 fun v200=>
 ∃ S_146:World → WK,xR S_146 fun R_147=>
 (∀ w,C_137 w → (a0a prog 20 #[v196,v197] (xK C_137 S_146 R_147 w) w)) ∧
 (∀ w,C_137 w → ∀ v198,R_147 v198 w → (
 kB .geq 3 4 v198 v200 (fun v201=>
 kO v201 (K (.bool false))
 (kB .add 3 3 (l_76.getD 3 undef) (.int .i64 1) fun v134=>
 kJ J_74 m_75 l_76 w0_l_76 [(l_85.getD 0 undef),(l_85.getD 1 undef),(l_76.getD 2 undef),v134])) w)))))) w) w) w) w) w) w) w) w) w) w) w) w) w) w) w)) w)) w0_l_85)
 (K v27)) w)) w0_l_76)) w) w)) w)) w)) w0_l_28))) w) w) w) w) w) w) w) w) w) w) w
theorem e6d (h:g2i a0 a1 a2 a3 a4 K w):a0a prog 10 #[a0,a1,a2,a3,a4] K w:=
 cZ (mz [(31,fz 8 0 1),(32,fz 13 0 3),(35,.free [0,1,2,3,4,5,7,8] [6] [9])]) func10 h
end Go.Proofs
namespace Go.Proofs
open Go Go.Sh Go.RowKit FdSpec TkSpec CodeSpec PuSpec DkSpec JnSpec
section
variable {K:VK} {w w' w0 W W':World} {L:List (Addr × Value)} {rb b:Nat} {s:Stp} {lims:List Lim} {p p':Ph} {items items':List Itm} {A:Ab} {P:Pst} {h:Dk}
theorem c9g {i:Nat} (hil:i < items.length):a6v (items.take (i + 1)) = a6v (items.take i) ++ (if items[i].status = 0 then a0r (a4n items[i].held) else []):=by
 unfold a6v
 rw [List.take_succ_eq_append_getElem hil,List.filter_append,List.map_append,List.flatten_append]
 by_cases hs:items[i].status = 0
 ·simp [hs]
 ·simp [hs]
theorem b0l {t:a0f} (h:t.length ≤ 100000):(a0r t).length ≤ 100030:=by
 have:=a5t (t.length:Int) ⟨by omega,by omega⟩
 simp only [a0r,List.length_append,List.length_cons,List.length_nil]
 omega
theorem d4e (l:List Itm) (h:∀ x ∈ l,(a4n x.held).length ≤ 100000):(a6v l).length ≤ l.length * 100030:=by
 unfold a6v
 refine Nat.le_trans (b3c (fun x:Itm=>a0r (a4n x.held)) 100030 _ (fun x hx=>b0l (h x ((List.mem_filter.1 hx).1)))) ?_
 exact Nat.mul_le_mul_right _ (List.length_filter_le _ _)
theorem e4g (hP:StR s lims w p items) (hl:Cd.LaidE w) (hsz:∀ x ∈ items,(a4n x.held).length ≤ 100000) (k:∀ w',Bw w w' → K (.string ⟨(a6v items).toArray⟩) w') :
  a0a Tryz.prog 47 #[.pointer (some ⟨p.pb,0,none⟩)] K w:=by
 apply e5z
 unfold g2e
 obtain ⟨iad,ic,hiv⟩:=hP.items.isSlice
 have c6:=hP.pur.cell 6 (by simp)
 simp only [List.getElem_cons_zero,List.getElem_cons_succ] at c6
 rw [hiv] at c6
 have hcn:=hP.cnt
 refine Xa @c6 ?_
 refine ⟨fun vs W=>∃ (i:Nat),vs = [.string ⟨(a6v (items.take i)).toArray⟩,.int .i64 (i:Int)] ∧ i ≤ items.length ∧ Nx w W,
  (fun vs _=>match vs with | [_,.int _ i]=>items.length - i.toNat | _=>0),⟨0,rfl,by omega,bR⟩,?_⟩
 rintro _ _ w2 ⟨i,rfl,hi,h2⟩
 by_cases hin:i = items.length
 ·subst hin
  rw [List.take_length]
  have k:=k _ h2
  refine Xa0 ?_
  exact k
 ·have hil:i < items.length:=by omega
  have hiZ:(i:Int) < items.length:=by omega
  have hx:=gE hil
  have hbn:=c9g hil
  obtain ⟨g,c,av,yv,kv,hgv,hgl,hH,hI,hJ,hc⟩:=(hP.next h2).at hx
  obtain ⟨a1,n1,d1,a2,n2,d2,a3,n3,d3,rfl,rfl,rfl⟩:=a0m hH
  rw [hiv] at hgv
  cases hgv
  have hszx:=hsz _ (List.getElem_mem hil)
  have hl2:=hl.below h2 hl.size
  generalize items[i] = x at *
  refine Xa @hiZ ?_
  refine ⟨fun l W=>l.getD 0 undef = .string ⟨(a6v (items.take (i + 1))).toArray⟩ ∧ Nx w W,?_,?_⟩
  ·refine Xa @hiZ ?_
   refine a1l (cs:=b2h x (.slice a1 n1 d1) (.slice a2 n2 d2) (.slice a3 n3 d3)) hc b3u (by kernel_rfl) (by kernel_rfl) ?_
   refine a0j c6h (fun g5 w5 h5 hg5 hH5=>?_)
   refine a0h (xs:=b2h x (.slice a1 n1 d1) (.slice a2 n2 d2) (.slice a3 n3 d3)) c0p rfl rfl (b0j _ _ _ _ _ _ _ _ _ _ _ _ _ _ _ _ _ _ _ _ _ _ _ _) hH5 rfl (fun w6 hg6 hH6=>?_)
   have h26:Bw w2 w6:=a0k h5 hg6 hg5
   have c14:w6.cell? ⟨g5,14,none⟩ = some (.int .i64 x.status):=a1h hH6 (j:=14) rfl
   by_cases hs:x.status = 0
   ·rw [if_pos hs] at hbn
    refine Xa (An2 @c14 @hs) ?_
    refine a1l (cs:=a6o x.held (.slice a1 n1 d1) (.slice a2 n2 d2) (.slice a3 n3 d3)) (p:=0) (b3y (fun j u hj=>by rw [Nat.zero_add]; exact a1h hH6 hj)) a3n (by kernel_rfl) (by kernel_rfl) ?_
    refine c0n x.held (hH.next h26) (by omega) (hl2.below h26 hl2.size) (fun w7 h7=>?_)
    have h27:=h26.on h7
    refine Cd.pText_ok (a4n x.held) (by omega) (hl2.below h27 hl2.size).toLaid (fun w8 h8=>?_)
    simp only [List.getD_cons_zero]
    have hb1:=d4e (items.take i) (fun y hy=>hsz y (List.mem_of_mem_take hy))
    have hb2:=b0l hszx
    rw [List.length_take] at hb1
    have hb3:min i items.length * 100030 ≤ 400 * 100030:=Nat.mul_le_mul_right _ (by omega)
    have hb4:(a6v (items.take i)).length ≤ 40012000:=by omega
    refine Xa0 ?_
    rw [hbn]
    exact ⟨rfl,h2.on (h27.on h8)⟩
   ·rw [if_neg hs,List.append_nil] at hbn
    refine Xa (An2 @c14 @hs) ?_
    rw [hbn]
    exact ⟨rfl,h2.on h26⟩
  ·rintro l u W ⟨hl0,hW⟩
   rw [hl0]
   refine Xa0 ?_
   exact ⟨⟨i + 1,rfl,by omega,hW⟩,by show items.length - (((i + 1:Nat):Int)).toNat < items.length - ((i:Nat):Int).toNat; omega⟩
end
@[reducible] def b1j (hs:List Hld):a0f:=(hs.map fun x=>a0r (a4n x)).flatten
section
variable {K:VK} {w w' w0 W W':World} {L:List (Addr × Value)} {rb b:Nat} {s:Stp} {lims:List Lim} {p p':Ph} {items items':List Itm} {A:Ab} {P:Pst} {h:Dk}
theorem g0x {T:TypeId} (x:Hld) {a1 a2 a3:Option Addr} {n1 n2 n3 c1 c2 c3:Nat} (k:∀ g W,Bw w W → w.heap.size ≤ g → Holds W g 29 (a6o x (.slice a1 n1 c1) (.slice a2 n2 c2) (.slice a3 n3 c3)) → K (.slice (some ⟨g,0,none⟩) 1 1) W):oM Tryz.prog (.buildSlice 52 1 #[(0,.tmp 0)]) T [c5v x (.slice a1 n1 c1) (.slice a2 n2 c2) (.slice a3 n3 c3)] K w:=by
 rw [a2o]; exact b7n (by kernel_rfl) k
theorem e4h {B:Nat} {D:Nat → Prop} {v:Value} {l:List Hld} {x:Hld} {T:TypeId} {a1 a2 a3:Option Addr} {n1 n2 n3 c1 c2 c3:Nat} {q:Nat} (h:GRow 14 29 c2x B D w v l) (hB:B ≤ w.heap.size) (hq:Holds w q 29 (a6o x (.slice a1 n1 c1) (.slice a2 n2 c2) (.slice a3 n3 c3)))
  (hx:FP D w (fun w=>c2x w (a6o x (.slice a1 n1 c1) (.slice a2 n2 c2) (.slice a3 n3 c3)) x)) (hD:∀ i,D i → i < w.heap.size ∧ v.ownBlock ≠ some i) (hl:l.length < 1000)
  (k:∀ v' w',GRow 14 29 c2x B D w' v' (l ++ [x]) → w.grownBy w' v.ownBlock → (∀ i,v'.ownBlock = some i → v.ownBlock = some i ∨ w.heap.size ≤ i) → K v' w') :
  oM Tryz.prog (.call { callee:=.builtin .append,args:=#[.tmp 0,.tmp 1],argTypes:=#[52,52] }) T [v,.slice (some ⟨q,0,none⟩) 1 1] K w:=
 a9y 52 T ((Tryz.prog.info? 29).getD default) (.agg hldZ.toArray) 160 (by kernel_rfl) (by kernel_rfl) (by kernel_rfl) (by kernel_rfl) (by kernel_rfl) (by kernel_rfl) (by omega) (by omega) h hB (x:=x) (xs:=a6o x (.slice a1 n1 c1) (.slice a2 n2 c2) (.slice a3 n3 c3)) rfl
  (fun j u hj=>by rw [Nat.zero_add]; exact a1h hq hj) (a5e _ _ _ _ _ _ _ _ _ _ _ _ _ _ _ _ _ _ _ _) hx hD (by omega) (fun v' w' a b c _=>k v' w' a b c)
theorem c0s {hs:List Hld} {i:Nat} (hi:i < hs.length):b1j (hs.drop i) = a0r (a4n hs[i]) ++ b1j (hs.drop (i + 1)):=by
 unfold b1j
 rw [List.drop_eq_getElem_cons hi,List.map_cons,List.flatten_cons]
theorem e4i (l:List Hld) (h:∀ x ∈ l,(a4n x).length ≤ 100000):(b1j l).length ≤ l.length * 100030:=
 b3c (fun x:Hld=>a0r (a4n x)) 100030 _ (fun x hx=>b0l (h x hx))
set_option maxHeartbeats 4000000 in
theorem f2x (hs:List Hld) (hn:hs.length ≤ 100) (hw:∀ x ∈ hs,WHld x ∧ x.links.length ≤ 4 ∧ (a4n x).length ≤ 100000) (hl:Cd.LaidE w)
  (k:∀ w' v,Bw w w' → GRow 14 29 c2x w.heap.size (fun j=>w.heap.size ≤ j ∧ j < w'.heap.size ∧ v.ownBlock ≠ some j) w' v hs → K (.tuple #[v,.bool true]) w'):a0a Tryz.prog 96 #[.string ⟨(b1j hs).toArray⟩] K w:=by
 apply e6a
 unfold g2f
 refine Cd.open_ok (b1j hs) (fun w1 hr1 h1=>?_)
 have z1:=h1.size
 have hb1:=hr1.lt
 refine ⟨fun vs W=>∃ (u v:Value) (i:Nat),vs = [u,.slice none 0 0,.bool false,v] ∧ i ≤ hs.length ∧ Cd.IsRd W w.heap.size ⟨b1j (hs.drop i),false⟩ ∧ Bw w W ∧ w1.heap.size ≤ W.heap.size ∧ GRow 14 29 c2x w1.heap.size (fun j=>w1.heap.size ≤ j ∧ j < W.heap.size ∧ v.ownBlock ≠ some j) W v (hs.take i),
  (fun vs _=>match vs with | [_,_,_,.slice _ n _]=>hs.length - n | _=>0),⟨_,_,0,rfl,by omega,hr1,h1,rL,.nil⟩,?_⟩
 rintro _ _ w2 ⟨u,v,i,rfl,hi,hr2,h2,hs12,hG⟩
 obtain ⟨vad,vc,hv⟩:=hG.isSlice
 have htl:(hs.take i).length = i:=by rw [List.length_take]; omega
 rw [htl] at hv
 refine Cd.done_ok _ _ hr2 ?_
 by_cases hin:i = hs.length
 ·subst hin
  rw [List.drop_length]
  rw [List.take_length] at hG
  have k:=k w2 v h2 ((hG.base (by omega)).mono (fun j hj=>⟨by omega,hj.2⟩))
  have e:Cd.rdDone ⟨b1j ([]:List Hld),false⟩ = true:=rfl
  rw [e]
  refine Xa0 ?_
  exact k
 ·have hil:i < hs.length:=by omega
  obtain ⟨hwf,hlk,hsz⟩:=hw _ (List.getElem_mem hil)
  have e:Cd.rdDone ⟨b1j (hs.drop i),false⟩ = false:=by
   unfold Cd.rdDone
   rw [c0s hil]
   have:=f8p (a4n hs[i])
   have hne:¬ (a0r (a4n hs[i]) ++ b1j (hs.drop (i + 1)) = []):=fun e=>by rw [(List.append_eq_nil_iff.1 e).1] at this; simp at this
   simp only [hne,decide_false,Bool.and_false]
  rw [e]
  have hl2:=hl.below h2 hl.size
  have hdl:=e4i (hs.drop i) (fun x hx=>(hw x (List.mem_of_mem_drop hx)).2.2)
  rw [List.length_drop] at hdl
  have hdl2:(hs.length - i) * 100030 ≤ 100 * 100030:=Nat.mul_le_mul_right _ (by omega)
  have hrt:=b4a (a4n hs[i]) (b1j (hs.drop (i + 1))) (by omega)
  rw [c0s hil] at hr2 hdl
  refine Xa0 ?_
  refine Cd.rtext_ok _ _ hl2 (by show (a0r (a4n hs[i]) ++ b1j (hs.drop (i + 1))).length < _; omega) hr2 (fun w3 hr3 hg3=>?_)
  rw [hrt] at hr3 ⊢
  have z3:=hg3.size
  have h3:Bw w w3:=h2.grown hg3 (by omega) (fun j e=>by cases e; exact rL)
  have hl3:=hl.below h3 hl.size
  have G3:=hG.keep (Fr.of_by hg3) (fun j hj=>⟨hj.2.1,fun e=>by omega⟩) (fun j hj e=>by have:=hG.own hj; omega)
  refine c5y (a4n hs[i]) (by omega) hl3 (fun w4 av yv kv h4 hF4=>?_)
  rw [b9t _ hwf hlk] at hF4 ⊢
  simp only at hF4 ⊢
  have hr4:=Cd.IsRd.below hr3 h4 (Cd.IsRd.lt hr3)
  have z4:=h4.size
  have G4:=G3.next h4 (fun j hj=>by omega)
  obtain ⟨a1,n1,d1,a2,n2,d2,a3,n3,d3,rfl,rfl,rfl⟩:=a0m hF4.here
  refine c8k ?_
  refine a0j a9e (fun b5 w5 h5 hb5 hH5=>?_)
  refine a0h (xs:=a6o hs[i] (.slice a1 n1 d1) (.slice a2 n2 d2) (.slice a3 n3 d3)) a8f rfl rfl (a5e _ _ _ _ _ _ _ _ _ _ _ _ _ _ _ _ _ _ _ _) hH5 rfl (fun w6 hg6 hH6=>?_)
  have h46:Bw w4 w6:=a0k h5 hg6 hb5
  have z6:=h46.size
  refine Xa0 ?_
  refine a1s hH6 a3n (by kernel_rfl) (by kernel_rfl) ?_
  refine g0x hs[i] (fun g7 w7 h7 hg7 hH7=>?_)
  have z7:=h7.size
  have h47:=h46.on h7
  have hown:∀ j,v.ownBlock = some j → j < w2.heap.size ∧ w1.heap.size ≤ j:=fun j hj=>hG.own hj
  have G7:=(G4.next h47 (fun j hj=>by omega)).mono (E:=fun j=>w1.heap.size ≤ j ∧ j < w7.heap.size ∧ v.ownBlock ≠ some j) (fun j hj=>⟨hj.1,by omega,hj.2.2⟩)
  refine e4h (x:=hs[i]) G7 (by omega) hH7 (((hF4.next h47).imp (fun W hW=>⟨_,_,_,rfl,hW⟩)).mono (fun j hj=>⟨by omega,hj.2,fun e=>by have:=hown j e; omega⟩)) (fun j hj=>⟨hj.2.1,hj.2.2⟩) (by rw [htl]; omega) (fun v8 w8 hG8 hg8 hv8=>?_)
  have z8:=hg8.size
  have hr8:Cd.IsRd w8 w.heap.size ⟨b1j (hs.drop (i + 1)),false⟩:=by
   have hr7:=Cd.IsRd.below hr4 h47 (Cd.IsRd.lt hr4)
   exact (hg8.block w.heap.size (Cd.IsRd.lt hr7) (fun e=>by have:=hown _ e.symm; omega)).trans hr7
  have h8:Bw w w8:=((h3.trans (h4.mono (by omega))).trans (h47.mono (by omega))).grown hg8 (by omega) (fun j e=>by have:=hown _ e; omega)
  have hnx:hs.take (i + 1) = hs.take i ++ [hs[i]]:=List.take_succ_eq_append_getElem hil
  have G8:GRow 14 29 c2x w1.heap.size (fun j=>w1.heap.size ≤ j ∧ j < w8.heap.size ∧ v8.ownBlock ≠ some j) w8 v8 (hs.take (i + 1)):=by
   rw [hnx]
   exact hG8.mono (fun j hj=>⟨hj.1,by omega,fun e=>by rcases hv8 j e with e | e; exact hj.2.2 e; omega⟩)
  obtain ⟨vad8,vc8,hv8'⟩:=hG8.isSlice
  have htl8:(hs.take i ++ [hs[i]]).length = i + 1:=by rw [List.length_append,htl]; rfl
  rw [htl8] at hv8'
  refine Xa0 ?_
  refine ⟨⟨_,v8,i + 1,rfl,by omega,hr8,h8,by omega,G8⟩,?_⟩
  subst hv hv8'
  show hs.length - (i + 1) < hs.length - i
  omega
end
end Go.Proofs
namespace PuSpec
open FdSpec TkSpec CodeSpec DkSpec JnSpec
variable {s:Stp} {lims:List Lim} {A:Ab} {p:Pst} {all sure:List a0f} {n:Nat}
theorem c1g {l:List Hld} (hv:a1o s = true) (hlm:a7m lims = true) (h:∀ x ∈ l,WHld x ∧ validM s lims x = true) (ha:Apart l) (hn:l.length ≤ 50) (time:Int) :
  ∃ B C q D,a8j s lims b9h = (some ⟨⟨[],0,false⟩,[]⟩,0,B) ∧ b5a s lims time l B ⟨⟨[],0,false⟩,[]⟩ = (0,C,q) ∧ q.items = (l.filter fun h=>decide (time < a5x lims h)).map a1d ∧ a5n C 0 q.j = (0,D,q.j):=by
 obtain ⟨B,e,u⟩:=b6x hv hlm
 obtain ⟨C,q,f1,f2,f3⟩:=b6q (time:=time) l [] u (by omega) h rfl ha
 obtain ⟨D,e2,u2,l2⟩:=f2.u.sync_rec f2.live b6v f2.nb
 exact ⟨B,C,q,D,e,f1,by rw [f3]; rfl,e2⟩
theorem b1x {h:Hld} (v:validM s lims h = true) (hl:a7m lims = true):0 ≤ h.limit ∧ h.limit < lims.length ∧ 0 ≤ h.window ∧ h.window ≤ 2147483648 ∧ ∀ (hi:h.limit.toNat < lims.length),0 ≤ (lims[h.limit.toNat]).length ∧ (lims[h.limit.toNat]).length ≤ 2147483648:=by
 simp only [validM,Bool.and_eq_true,decide_eq_true_eq] at v
 have hw:=v.1.1.1.1.1.1.1.1.1.1.1.1.1.2
 have h1:=v.1.1.1.1.1.1.1.1.1.1.1.1.1.1.2
 have h0:=v.1.1.1.1.1.1.1.1.1.1.1.1.1.1.1.2
 have hw:=(a2t _).1 hw
 refine ⟨h0,h1,hw.1,hw.2,fun hi=>?_⟩
 simp only [a7m,Bool.and_eq_true,Bool.not_eq_true',List.any_eq_false] at hl
 have:=hl.2 _ (List.getElem_mem hi)
 simp only [Bool.not_eq_true',Bool.not_eq_false] at this
 simp only [c1h,Bool.and_eq_true] at this
 exact (a2t _).1 this.1.2
theorem start_eq {h:Hld} (hi:h.limit.toNat < lims.length):a5x lims h = h.window * (lims[h.limit.toNat]).length:=by
 unfold a5x
 rw [List.getD_eq_getElem?_getD,List.getElem?_eq_getElem hi]
 rfl
end PuSpec
namespace Go.Proofs
open Go Go.Sh Go.RowKit FdSpec TkSpec CodeSpec PuSpec DkSpec JnSpec
section
variable {K:VK} {w w' w0 W W':World} {L:List (Addr × Value)} {rb b:Nat} {s:Stp} {lims:List Lim} {p p':Ph} {items items':List Itm} {A:Ab} {P:Pst} {h:Dk}
theorem c9h (x:Hld) {av yv kv bv lv:Value} {b1 b2:Nat} (hx:HldR w x av yv kv) (hset:SetR w s bv) (hlim:b9b w lv lims) (h1:Holds w b1 50 (b1o s bv)) (h2:w.cell? ⟨b2,0,none⟩ = some lv) (k:∀ w',Bw w w' → K (.bool (!PuSpec.validM s lims x)) w') :
  a0a Tryz.prog 98 #[c5v x av yv kv,.pointer (some ⟨b1,0,none⟩),.pointer (some ⟨b2,0,none⟩)] K w:=by
 apply e6b
 unfold g2g
 obtain ⟨a1,n1,d1,a2,n2,d2,a3,n3,d3,rfl,rfl,rfl⟩:=a0m hx
 obtain ⟨ad,c,rfl⟩:=hset.ints.isSlice
 obtain ⟨lad,lc,rfl⟩:=hlim.isSlice
 refine a2n (cs:=a6o x (.slice a1 n1 d1) (.slice a2 n2 d2) (.slice a3 n3 d3)) rfl (fun b4 W hb1 hbb hB=>?_)
 refine a1s (h1.next hb1) b8j (by kernel_rfl) (by kernel_rfl) ?_
 have e2:=(hb1.cell (cell_lt h2)).trans h2
 refine Xa @e2 ?_
 refine a1s hB a3n (by kernel_rfl) (by kernel_rfl) ?_
 refine c2m s lims x (hset.next hb1) (hlim.next (a0l a2k) hb1) (hx.next hb1) (fun w2 h2=>?_)
 have k:=k _ (hb1.on h2)
 cases hv:PuSpec.validM s lims x with
 | false=>
  rw [hv] at k
  refine Xa0 ?_
  exact k
 | true=>
  rw [hv] at k
  refine Xa0 ?_
  exact k
set_option maxHeartbeats 8000000 in
theorem d4f (hw0:8 ≤ w0.heap.size) (hbl:Bw w0 w) {d:Nat} {dk:Dk} (sy:Sys w d b9h dk) (hy:∀ i,Own d dk i ∨ Rdb dk i → w0.heap.size ≤ i) {bv lv:Value} (hset:SetR w0 s bv) (hlim:b9b w0 lv lims) {l:List Hld}
  (hv:a1o s = true) (hlm:a7m lims = true) (hl:∀ x ∈ l,WHld x ∧ PuSpec.validM s lims x = true) (ha:PuSpec.Apart l) (hn:l.length ≤ 50) {time:Int} (ht:a2i time = true)
  (k:∀ w' p A P,PuR s lims w0 w' p A P → P.items = (l.filter fun h=>decide (time < a5x lims h)).map a1d → K (.tuple #[.pointer (some ⟨p.pb,0,none⟩),.int .i64 0]) w') :
  a0a Tryz.prog 48 #[dkP d,b1c s bv,lv,.string ⟨(b1j l).toArray⟩,.int .i64 time] K w:=by
 apply e6c
 unfold g2h
 obtain ⟨ad,c,rfl⟩:=hset.ints.isSlice
 obtain ⟨lad,lc,rfl⟩:=hlim.isSlice
 obtain ⟨B,C,q,D,e0,e1,e2,e3⟩:=c1g hv hlm hl ha hn time
 have hsl0:FP (fun i=>i < w0.heap.size) w (fun W=>SetR W s (.slice ad s.bases.length c) ∧ b9b W (.slice lad lims.length lc) lims):=
  (FP.of_stay (p:=fun W=>SetR W s (.slice ad s.bases.length c) ∧ b9b W (.slice lad lims.length lc) lims) ⟨hset,hlim⟩ (fun W hb h=>⟨h.1.next hb,h.2.next (a0l a2k) hb⟩)).next hbl (fun i hi=>hi)
 have z0:=hbl.size
 refine a2n (cs:=b1o s (.slice ad s.bases.length c)) rfl (fun b6 w1 h1 hb6 hB6=>?_)
 refine a2n (cs:=[.slice lad lims.length lc]) rfl (fun b7 w2 h2 hb7 hB7=>?_)
 have hB6:=hB6.next h2
 have h02:=h1.on h2
 have sy2:=sy.below h02
 refine f2x l (by omega) (fun x hx=>?_) sy2.l (fun w3 v3 h3 hG3=>?_)
 ·obtain ⟨a,b⟩:=hl x hx
  refine ⟨a,?_,by have:=b5s a b; omega⟩
  simp only [PuSpec.validM,a9r,bA,dE] at b
  omega
 obtain ⟨vad,vc,hv3⟩:=hG3.isSlice
 subst hv3
 refine Xa0 ?_
 refine a5d time ?_
 rw [ht]
 have h03:=h02.on h3
 have hB6:=hB6.next h3
 have hB7:=hB7.next h3
 have hsl3:=hsl0.next h03 (fun i hi=>by omega)
 refine Xa0 ?_
 refine b9e (fun x=>!PuSpec.validM s lims x) (hG3.srow (by omega) (by omega)) ?_ (fun w4 h4=>?_)
 ·rintro w' x cs K' T hb hx ⟨av,yv,kv,rfl,hH⟩ h'
  refine a2z (by kernel_rfl) ?_
  exact c9h x hH (hsl3.here.1.next hb) (hsl3.here.2.next (a0l a2k) hb) (hB6.next hb) (a1h (hB7.next hb) (j:=0) rfl) h'
 have hany:(l.any fun x=>!PuSpec.validM s lims x) = false:=by
  rw [List.any_eq_false]
  intro x hx
  simp [(hl x hx).2]
 rw [hany]
 have hB6:=hB6.next h4
 have hB7:=hB7.next h4
 have h04:=h03.on h4
 have sy4:=sy.below h04
 refine Xa0 ?_
 refine a1s hB6 b8j (by kernel_rfl) (by kernel_rfl) ?_
 have c7:w4.cell? ⟨b7,0,none⟩ = some (.slice lad lims.length lc):=a1h hB7 (j:=0) rfl
 refine Xa @c7 ?_
 have olt:∀ i,Own d dk i ∨ Rdb dk i → i < w.heap.size:=fun i hi=>sy.d.lt hi
 refine c2o (w0:=w0) hw0 (hbl.trans (h04.mono z0)) sy4 hy (fun i hi=>⟨by have:=h04.size; omega,fun e=>by have:=hy i (.inl e); omega⟩) (hsl0.next h04 (fun i hi=>by omega)) (fun w5 dk5 r5 s5 t5 o5=>?_)
 rw [e0] at s5 o5 ⊢
 obtain ⟨p0,hpb,hph,rfl,hP,hMu⟩:=o5
 obtain ⟨iad,ic,hiv⟩:=hP.st.items.isSlice
 have c6:=hP.st.pur.cell 6 (by simp)
 simp only [List.getElem_cons_zero,List.getElem_cons_succ] at c6
 rw [hiv] at c6
 refine Xa @c6 ?_
 have z1:=h1.size
 have z2:=h2.size
 have z3:=h3.size
 have z4:=h4.size
 have z5:=t5.fr.size
 have m0:∀ i,w.heap.size ≤ i → i < w4.heap.size → ¬ Mu p0 i:=fun i hi1 hi2 hm=>by
  rcases hMu i hm with e | e | e
  ·rcases t5.own i e with e | e
   ·have:=olt i (.inl e); omega
   ·omega
  ·rcases t5.rd i e with e | e
   ·have:=olt i (.inr e); omega
   ·omega
  ·omega
 have G5:=(hG3.next h4 (fun j hj=>hj.2.1)).keep t5.fr (fun j hj=>⟨by omega,fun e=>by have:=olt j (.inl e); omega⟩) (fun j hj e=>by have:=hG3.own hj; have:=olt j (.inl e); omega)
 have hB75:Holds w5 b7 _ _:=(t5.fr.block b7 hB7.lt (fun e=>by have:=olt b7 (.inl e); omega)).trans hB7
 refine ⟨fun vs W=>∃ (u:Value) (i:Nat) (p:Ph) (A:Ab) (P:Pst),vs = [u,.pointer none,.int .i64 0,.int .i64 (i:Int)] ∧ i ≤ l.length ∧ PuR s lims w0 W p A P ∧ p.pb = p0.pb ∧ b5a s lims time (l.drop i) A P = (0,C,q) ∧ PuSt p0 w5 p W,
  (fun vs _=>match vs with | [_,_,_,.int _ i]=>l.length - i.toNat | _=>0),⟨_,0,p0,_,_,rfl,by omega,hP,rfl,e1,PuSt.refl _ _⟩,?_⟩
 rintro _ _ w6 ⟨u,i,p,A,P,rfl,hi,hP6,epb,hadd,t6⟩
 by_cases hin:i = l.length
 ·subst hin
  rw [List.drop_length] at hadd
  cases hadd
  have c7:=hP6.st.pur.cell 7 (by simp)
  simp only [List.getElem_cons_zero,List.getElem_cons_succ] at c7
  refine Xa0 ?_
  rw [← epb]
  refine Xa @c7 ?_
  refine c9q hP6.sys hP6.jn (fun w7 h7 s7 j7 t7=>?_)
  rw [e3] at s7 j7 ⊢
  obtain ⟨hP7,-⟩:=hP6.jour s7 j7 t7
  have k:=k w7 _ _ _ hP7 e2
  refine Xa0 ?_
  exact k
 ·have hil:i < l.length:=by omega
  have hiZ:(i:Int) < l.length:=by omega
  have z6:=t6.fr.size
  have hown3:∀ j,(Value.slice vad l.length vc).ownBlock = some j → w2.heap.size ≤ j ∧ j < w3.heap.size:=fun j hj=>by have:=hG3.own hj; omega
  have G6:=G5.keep t6.fr (fun j hj=>⟨by omega,m0 j (by omega) (by omega)⟩) (fun j hj=>by have:=hown3 j hj; exact m0 j (by omega) (by omega))
  obtain ⟨g6,cc6,cs6,hvg6,hgl6,hgB6,hcl6,hcc6,hV6⟩:=G6.elem (gE hil)
  cases hvg6
  obtain ⟨av,yv,kv,rfl,-⟩:=hV6.here
  have hFx:FP (fun j=>w2.heap.size ≤ j ∧ j < w3.heap.size ∧ (Value.slice (some ⟨g6,0,none⟩) l.length vc).ownBlock ≠ some j) w6 (fun W=>HldR W l[i] av yv kv):=hV6.imp (fun W hW=>by
   obtain ⟨av',yv',kv',e,hH⟩:=hW
   have e2:=congrArg (fun l=>l[2]?) e
   have e6:=congrArg (fun l=>l[6]?) e
   have e13:=congrArg (fun l=>l[13]?) e
   simp only [a6o,List.getElem?_cons_zero,List.getElem?_cons_succ,Option.some.injEq] at e2 e6 e13
   subst e2 e6 e13
   exact hH)
  obtain ⟨hlw,hlv⟩:=hl _ (List.getElem_mem hil)
  obtain ⟨x1,x2,x3,x4,x5⟩:=b1x hlv hlm
  have hdrop:=hadd
  rw [List.drop_eq_getElem_cons hil,b5a] at hdrop
  have hB76:Holds w6 b7 _ _:=(t6.fr.block b7 hB75.lt (m0 b7 (by omega) (by have:=hB7.lt; omega))).trans hB75
  have hli:l[i].limit.toNat < lims.length:=by omega
  have hst:=PuSpec.start_eq hli
  obtain ⟨x7,x6⟩:=x5 hli
  clear x5
  have hlim6:=hlim.next (a0l a2k) hP6.bl
  obtain ⟨lb,lo,rfl,hlb,lcs,hlcl,hlcc,hlV⟩:=hlim6.at hli
  obtain ⟨rfl,hlI⟩:=hlV
  generalize lims[l[i].limit.toNat] = lm at *
  obtain ⟨a1,n1,d1,a2,n2,d2,a3,n3,d3,rfl,rfl,rfl⟩:=a0m hFx.here
  generalize l[i] = x at *
  refine Xa @hiZ ?_
  refine ⟨fun lv W=>lv.getD 1 undef = .pointer none ∧ lv.getD 2 undef = .int .i64 0 ∧ ∃ (p:Ph) (A:Ab) (P:Pst),PuR s lims w0 W p A P ∧ p.pb = p0.pb ∧ b5a s lims time (l.drop (i + 1)) A P = (0,C,q) ∧ PuSt p0 w5 p W,?_,?_⟩
  ·refine Xa @hiZ ?_
   refine a1l (cs:=a6o x (.slice a1 n1 d1) (.slice a2 n2 d2) (.slice a3 n3 d3)) hcc6 a3n (by kernel_rfl) (by kernel_rfl) ?_
   refine a0j a9e (fun b17 w7 h7 hb17 hH7=>?_)
   refine a0h (xs:=a6o x (.slice a1 n1 d1) (.slice a2 n2 d2) (.slice a3 n3 d3)) a8f rfl rfl (a5e _ _ _ _ _ _ _ _ _ _ _ _ _ _ _ _ _ _ _ _) hH7 rfl (fun w8 hg8 hH8=>?_)
   have h68:Bw w6 w8:=a0k h7 hg8 hb17
   have h69:=h68.on (.drawn (B:=w8.heap.size))
   have hH9:=hH8.next (.drawn (B:=w8.heap.size))
   refine ⟨Nx { w8 with drawn:=w8.drawn + 1 },bR,rfl,?_⟩
   generalize ({ w8 with drawn:=w8.drawn + 1 }:World) = W9 at h69 hH9 ⊢
   have y0:∀ W0,Nx W9 W0 → W0.cell? ⟨b17,0,none⟩ = some (.int .i64 x.limit):=fun W0 h=>a1h (hH9.next h) (j:=0) rfl
   have y1:∀ W0,Nx W9 W0 → W0.cell? ⟨b17,1,none⟩ = some (.int .i64 x.window):=fun W0 h=>a1h (hH9.next h) (j:=1) rfl
   have y7:∀ W0,Nx W9 W0 → W0.cell? ⟨b7,0,none⟩ = some (.slice (some ⟨lb,lo,none⟩) lims.length lc):=fun W0 h=>a1h (hB76.next (h69.on h)) (j:=0) rfl
   have yl:∀ W0,Nx W9 W0 → W0.cell? ⟨lb,lo + x.limit.toNat * 3 + 1,none⟩ = some (.int .i64 lm.length):=fun W0 h=>((h69.on h).cell hlb).trans (hlcc 1 _ rfl)
   have hp0:0 ≤ x.window * lm.length:=Int.mul_nonneg x3 x7
   have hp1:x.window * lm.length ≤ 2147483648 * 2147483648:=Int.mul_le_mul x4 x6 x7 (by decide)
   have hmul:IntKind.i64.wrap (x.window * lm.length) = x.window * lm.length:=a0p _ (by omega) (by omega)
   have hP8:=hP6.next h68
   by_cases hs:x.window * lm.length ≤ time
   ·rw [hst,if_pos hs] at hdrop
    refine Xf (fun W0 hW0=>An4 (y0 _ hW0) (y1 _ hW0) (y7 _ hW0) (yl _ hW0)) (An4 @x1 @x2 @hmul @hs) ?_
    refine ⟨Nx,fun w10 h10=>?_⟩
    refine Xa0 ?_
    exact ⟨rfl,rfl,p,A,P,hP6.next (h69.on h10),epb,hdrop,t6.trans (PuSt.below (h69.on h10))⟩
   ·rw [hst,if_neg hs] at hdrop
    refine Xf (fun W0 hW0=>An4 (y0 _ hW0) (y1 _ hW0) (y7 _ hW0) (yl _ hW0)) (An4 @x1 @x2 @hmul @hs) ?_
    refine ⟨Nx,fun w10 h10=>?_⟩
    refine Xa0 ?_
    refine a1s (hH9.next h10) a3n (by kernel_rfl) (by kernel_rfl) ?_
    rw [← epb]
    have h610:=h69.on h10
    refine c2p (hP6.next h610) x (D:=fun j=>w2.heap.size ≤ j ∧ j < w3.heap.size ∧ (Value.slice (some ⟨g6,0,none⟩) l.length vc).ownBlock ≠ some j) (fun j hj=>⟨by have:=h610.size; omega,fun e=>by
     rcases t6.mu j e with e | e
     ·exact m0 j (by omega) (by omega) e
     ·omega⟩) (hFx.next h610 (fun j hj=>by omega)) (fun w11 p11 hP11 t11 ⟨epb11,eb11⟩=>?_)
    by_cases hz:(b1f s lims A P x).1 = 0
    ·rw [if_neg (by rw [hz]; simp)] at hdrop
     rw [hz]
     refine Xa0 ?_
     exact ⟨rfl,rfl,p11,_,_,hP11,epb11,hdrop,(t6.trans (PuSt.below h610)).trans t11⟩
    ·rw [if_pos hz] at hdrop
     exact absurd (congrArg (fun r=>r.1) hdrop) hz
  ·rintro lv u7 w7 ⟨hl1,hl2,p7,A7,P7,q1,q2,q3,q4⟩
   rw [hl1,hl2]
   refine Xa0 ?_
   exact ⟨⟨_,i + 1,p7,A7,P7,rfl,by omega,q1,q2,q3,q4⟩,by show l.length - (((i + 1:Nat):Int)).toNat < l.length - ((i:Nat):Int).toNat; omega⟩
end
end Go.Proofs
namespace PuSpec
open FdSpec TkSpec CodeSpec DkSpec JnSpec
variable {s:Stp} {lims:List Lim} {A:Ab} {p:Pst} {all sure:List a0f} {n:Nat}
def OldR (lims:List Lim) (time:Int) (l m:List Itm):Prop:=l.length = m.length ∧ ∀ (i:Nat) (x:Itm),l[i]? = some x → ∃ y,m[i]? = some y ∧ y.held = x.held ∧ (time < a5x lims x.held → y = x)
theorem OldR.refl (time:Int) (l:List Itm):OldR lims time l l:=⟨rfl,fun i x hx=>⟨x,hx,rfl,fun _=>rfl⟩⟩
theorem OldR.step {time:Int} {l:List Itm} (h0:OldR lims time l p.items) (h:Up s lims A p sure n) (hn:n ≤ 50) (o:OpM) (hr:InR o.c) (hk:o.kind = 1 ∨ o.kind = 2) (hb:o.b ≤ time):OldR lims time l (c2t s lims A p o).2.2.items:=by
 obtain ⟨r1,r2⟩:=f8q h hn o hr hk hb
 refine ⟨h0.1.trans r1.symm,fun i x hx=>?_⟩
 obtain ⟨y,hy,e1,e2⟩:=h0.2 i x hx
 obtain ⟨z,hz,e3,e4⟩:=r2 i y hy
 exact ⟨z,hz,e3.trans e1,fun ht=>by
  have:=e2 ht
  subst this
  exact e4 ht⟩
theorem d9z {x:Hld} {time:Int} (v:validM s lims x = true) (hlm:a7m lims = true) (ht:a2i time = true) (hs:time < a5x lims x) (hi:x.limit.toNat < lims.length):a2u lims[x.limit.toNat] time < x.window:=by
 obtain ⟨x1,x2,x3,x4,x5⟩:=b1x v hlm
 obtain ⟨y1,y2⟩:=x5 hi
 have ht':=(a2t _).1 ht
 rw [start_eq hi] at hs
 have hl:c1h lims[x.limit.toNat] = true:=by
  simp only [a7m,Bool.and_eq_true,Bool.not_eq_true',List.any_eq_false] at hlm
  have:=hlm.2 _ (List.getElem_mem hi)
  simpa using this
 generalize lims[x.limit.toNat] = lm at *
 unfold a2u
 rw [if_neg (by simp [hl,ht])]
 by_cases h0:lm.length = 0
 ·rw [h0] at hs; omega
 ·rw [if_neg h0]
  exact Int.ediv_lt_of_lt_mul (by omega) hs
theorem e9v {hs l:List Hld} {P0:Pst} (hF:Fresh0 s lims hs P0 l) {time:Int} {m:List Itm} (ho:OldR lims time P0.items m) {x:Hld} (hx:x ∈ l) (ht:time < a5x lims x) :
  ∃ k,m[k]? = some (a1d x) ∧ ∀ (j:Nat) (y:Itm),m[j]? = some y → y.held.t = x.t → j = k:=by
 obtain ⟨k,hk,rfl⟩:=List.mem_iff_getElem.1 hx
 have h0:P0.items[k]? = some (a1d l[k]):=by rw [hF.items,List.getElem?_map,List.getElem?_eq_getElem hk]; rfl
 obtain ⟨y,hy,e1,e2⟩:=ho.2 k _ h0
 refine ⟨k,by rw [hy,e2 ht],fun j z hz e=>?_⟩
 have hj:j < l.length:=by
  have:=(List.getElem?_eq_some_iff.1 hz).1
  rw [← ho.1,hF.items,List.length_map] at this
  exact this
 have hj0:P0.items[j]? = some (a1d l[j]):=by rw [hF.items,List.getElem?_map,List.getElem?_eq_getElem hj]; rfl
 obtain ⟨z',hz',e3,_⟩:=ho.2 j _ hj0
 rw [hz] at hz'
 cases hz'
 have et:l[j].t = l[k].t:=by rw [e3] at e; exact e
 rcases Nat.lt_trichotomy j k with hlt | heq | hgt
 ·exact absurd et (List.pairwise_iff_getElem.1 hF.apart j k hj hk hlt)
 ·exact heq
 ·exact absurd et.symm (List.pairwise_iff_getElem.1 hF.apart k j hk hj hgt)
end PuSpec
