/- Parts of the proof of the seat's statements (LawKit, OpenKit, OpenKit2, RKq, PrEnc, GrH, RK2q, GrI, GrJ, ShGr2, GrK, PrDec, GrM, HLs, GrN, GrO, HL10, GrQ, GrR, PrShape, PrPlace, CtA, CtB, CtC, CtD, CtE, CtF, CtG, CtH, PrFits, CtI, CtJ, CtK, CtL, CtM, CtN, CtO, CtP, HFl, PrPts, HL9, GrP, HL8, PrOpen, GrV, CtQ, PrVer, CtR, CtS, CtT, CtU, CtV): lemmas about the given translation and plain laws. No condition of their own. -/
import Derived.Test.YtlmhhgemiknhdaaGreatDoorPtlc
import Derived.ProofKit
import Derived.LaidMore
import Derived.OpenShut
import Derived.Carry
import Derived.SizedLaws
import Derived.Stop.Joined
import Derived.Deep.Slices
import Derived.Deep.Fields
import Derived.LaidSub
import Derived.Test.YtlmhhgemiknhdaaGreatDoorRows
import Derived.Test.YtlmhhgemiknhdaaGreatDoorCards
import Derived.Test.YtlmhhgemiknhdaaGreatDoorTie
import Derived.SevenTiedAt
import Derived.Test.YtlmhhgemiknhdaaGreatDoorProg
set_option linter.all false
set_option maxRecDepth 100000
namespace Go.Sh
open Go Go.ChangeShapes Go.WideShapes Go.ChangeAt Go.RowKit
section
variable {H:Type} {enc:TypeId × Value → H} {P:Program}
theorem b3b (hl:laidOutB P = true) {W W':World} (hb:Below W.heap.size W W') :
  ∀ (ts:List TypeId) (vs:List Value) (ds:List (DataW H)) (ps:List MemPlace),(ts.all fun t=>P.readableRec t && decide (t < P.types.size)) = true →
  DataW.TrodAll enc P W 0 (fun _=>true) true ts vs ds ps → (∀ x ∈ ps,x.block < W.heap.size) → DataW.TrodAll enc P W' 0 (fun b=>decide (b < W.heap.size)) true ts vs ds ps
 | [],[],[],_,_,h,_=>h
 | t :: ts,v :: vs,d :: ds,ps,ht,h,hlt=>by
  obtain ⟨p,q,h1,h2,rfl⟩:=h
  simp only [List.all_cons,bA,dE] at ht
  exact ⟨p,q,Below.trod hl ht.1.1 ht.1.2 h1 hb (fun x hx=>hlt x (by simp [hx])),b3b hl hb ts vs ds q ht.2 h2 (fun x hx=>hlt x (by simp [hx])),rfl⟩
 | [],_ :: _,_,_,_,h,_=>h.elim
 | [],[],_ :: _,_,_,h,_=>h.elim
 | _ :: _,[],_,_,_,h,_=>h.elim
 | _ :: _,_ :: _,[],_,_,h,_=>h.elim
theorem b1f {W:World} {b:Nat} {sp:Nat → Bool} {hd:Bool}:∀ (ts:List TypeId) (vs:List Value) (ds:List (DataW H)) (ps:List MemPlace),DataW.TrodAll enc P W b sp hd ts vs ds ps → ds.length = ts.length ∧ vs.length = ts.length
 | [],[],[],_,_=>⟨rfl,rfl⟩
 | t :: ts,v :: vs,d :: ds,ps,h=>by
  obtain ⟨p,q,h1,h2,rfl⟩:=h
  have:=b1f ts vs ds q h2
  simp [this]
 | [],_ :: _,_,_,h=>h.elim
 | [],[],_ :: _,_,h=>h.elim
 | _ :: _,[],_,_,h=>h.elim
 | _ :: _,_ :: _,[],_,h=>h.elim
theorem a6k {W:World} {b:Nat} {sp:Nat → Bool} {hd:Bool} {t:TypeId} {ts:List TypeId} {vs:List Value} {ds:List (DataW H)} {ps:List MemPlace} (h:DataW.TrodAll enc P W b sp hd (t :: ts) vs ds ps) :
  ∃ v d vs' ds' p q,vs = v :: vs' ∧ ds = d :: ds' ∧ DataW.Trod enc P W b sp hd t v d p ∧ DataW.TrodAll enc P W b sp hd ts vs' ds' q ∧ ps = p ++ q:=by
 match vs,ds,h with
 | v :: vs,d :: ds,h=>
  obtain ⟨p,q,h1,h2,rfl⟩:=h
  exact ⟨v,d,vs,ds,p,q,rfl,rfl,h1,h2,rfl⟩
 | [],_,h=>exact h.elim
 | _ :: _,[],h=>exact h.elim
theorem g0t {W:World} {b:Nat} {sp:Nat → Bool} {hd:Bool} {vs:List Value} {ds:List (DataW H)} {ps:List MemPlace} (h:DataW.TrodAll enc P W b sp hd [] vs ds ps):vs = [] ∧ ds = [] ∧ ps = []:=by
 match vs,ds,h with
 | [],[],h=>exact ⟨rfl,rfl,h⟩
theorem d0b {fn:Func} {s:ChangeSpec} {tb:TypeId} {apart:Bool} {W W':World} {args:Array Value} {ds gs:List (DataW H)} {before:List MemPlace} (hl:laidOutB P = true)
  (hrt:fn.resultTypes = #[tb]) (hub:P.underlying tb = some .bool) (hpar:(fn.params.toList.all fun t=>P.readableRec t && decide (t < P.types.size)) = true) (hvars:s.vars = [])
  (hspec:∀ ds:List (DataW H),ds.length = fn.params.toList.length → s.fn H ds = { results:=[.lit (.bool true)],args:=ds })
  (hW:DataW.Whole enc P fn.params.toList s.vars apart W args.toList ds gs before) (hb:Below W.heap.size W W'):s.post enc P fn apart true false false W args (.bool true) W':=by
 have hW0:=hW
 have hlt:=hW.lt
 obtain ⟨p,q,hA,hV,rfl,_,_⟩:=hW
 rw [hvars] at hV
 obtain ⟨rfl,rfl⟩:=trodVars_none hV
 have hlen:=(b1f _ _ _ _ hA).1
 have hs:=hspec ds hlen
 rw [List.append_nil] at hlt hW0
 refine ⟨ds,[],p,[],p,[],hW0,?_,?_,?_,hb.frame _,fun h=>by cases h⟩
 ·rw [List.append_nil,hs,hrt]
  exact trodAll_mk1 (shut_bool hub true)
 ·rw [List.append_nil,hs]
  exact b3b hl hb _ _ _ _ hpar hA hlt
 ·rw [hvars,List.append_nil,hs]
  rfl
theorem law_lifted {C:Checked} {os:Os} {f:FuncId} {fn:Func} {s:ChangeSpec} {tb:TypeId} (own:ownKnob C.prog.godebug = none) (started:os.Started) (noInit:C.prog.inits.idxOf? f = none) (hfn:C.prog.funcs[f]? = some fn)
  (hl:laidOutB C.prog = true) (hrt:fn.resultTypes = #[tb]) (hub:C.prog.underlying tb = some .bool) (hpar:(fn.params.toList.all fun t=>C.prog.readableRec t && decide (t < C.prog.types.size)) = true) (hvars:s.vars = [])
  (hspec:∀ ds:List (DataW H),ds.length = fn.params.toList.length → s.fn H ds = { results:=[.lit (.bool true)],args:=ds })
  (witness:∃ (w:World) (tape:Tape) (i:Input),w.os = os ∧ (w.forCall tape i).Shaped C.prog ∧ i.vars = [] ∧ Input.okWide C.prog (w.forCall tape i) .any w.heap.size f i ∧
   s.pre6 enc C.prog fn [] false (w.forCall tape i).memory i.args ∧ ({}:Assume).holds C.prog (lone (Frame.enter C.prog f i.args .normal) [] (w.forCall tape i)))
  (contract:∀ (W:World) (base:Nat) (args:List Value) (ds:List (DataW H)) (p:List MemPlace),(∀ (j:Nat) t v,fn.params.toList[j]? = some t → args[j]? = some v → Value.okWide C.prog W .any base t v) →
   DataW.TrodAll enc C.prog W 0 (fun _=>true) true fn.params.toList args ds p → (DataW.weightsEach C.prog fn.params.toList ds).all (· ≤ reachBytes) = true → (∀ x ∈ p,x.block < W.heap.size) →
   a0a C.prog f args.toArray (fun v W'=>v = .bool true ∧ Below W.heap.size W W') W) :
  ReturnsInHanded {} C os f .any (s.pre6 enc C.prog fn [] false) (s.post enc C.prog fn false true false false):=by
 refine returnsInHanded_of_change_sized own started noInit hfn witness ?_
 intro W base args ds gs before hval hW _ hsz _
 have hW0:=hW
 have hlt:=hW.lt
 obtain ⟨p,q,hA,hV,rfl,_,_⟩:=hW
 rw [hvars] at hV
 obtain ⟨rfl,rfl⟩:=trodVars_none hV
 have hsz':(DataW.weightsEach C.prog fn.params.toList ds).all (· ≤ reachBytes) = true:=by
  simpa [hvars,ChangeSpec.plain,DataSpec.varTypes] using hsz
 have hc:=contract W base args.toList ds p (fun j t v h1 h2=>hval j t v (by simpa using h1) (by simpa using h2)) hA hsz' (fun x hx=>hlt x (by simp [hx]))
 refine hc.mono fun e W' h=>?_
 obtain ⟨v,rfl,rfl,hb⟩:=h
 exact ⟨_,rfl,d0b hl hrt hub hpar hvars hspec hW0 hb⟩
theorem b8a {C:Checked} {os:Os} {f:FuncId} {fn:Func} {s:ChangeSpec} {tb:TypeId} {L:List (String × DataW Unit)} (own:ownKnob C.prog.godebug = none) (started:os.Started) (noInit:C.prog.inits.idxOf? f = none) (hfn:C.prog.funcs[f]? = some fn)
  (hl:laidOutB C.prog = true) (hrt:fn.resultTypes = #[tb]) (hub:C.prog.underlying tb = some .bool) (hpar:(fn.params.toList.all fun t=>C.prog.readableRec t && decide (t < C.prog.types.size)) = true) (hvars:s.vars = [])
  (hspec:∀ ds:List (DataW H),ds.length = fn.params.toList.length → s.fn H ds = { results:=[.lit (.bool true)],args:=ds })
  (witness:∃ (w:World) (tape:Tape) (i:Input),w.os = os ∧ (w.forCall tape i).Shaped C.prog ∧ i.vars = [] ∧ Input.okWide C.prog (w.forCall tape i) .any w.heap.size f i ∧
   ((s.pre enc C.prog fn [] false (w.forCall tape i).memory i.args ∧ laidMetH C.prog L (w.forCall tape i).memory) ∧ sizedMet enc C.prog fn (OpenSpec.ofChange s) false (w.forCall tape i).memory i.args) ∧ ({}:Assume).holds C.prog (lone (Frame.enter C.prog f i.args .normal) [] (w.forCall tape i)))
  (contract:∀ (W:World) (base:Nat) (args:List Value) (ds:List (DataW H)) (p:List MemPlace),(∀ (j:Nat) t v,fn.params.toList[j]? = some t → args[j]? = some v → Value.okWide C.prog W .any base t v) →
   DataW.TrodAll enc C.prog W 0 (fun _=>true) true fn.params.toList args ds p → (DataW.weightsEach C.prog fn.params.toList ds).all (· ≤ reachBytes) = true → (∀ x ∈ p,x.block < W.heap.size) →
   laidMetH C.prog L W →
   a0a C.prog f args.toArray (fun v W'=>v = .bool true ∧ Below W.heap.size W W') W) :
  ReturnsInHanded {} C os f .any (fun w args=>(s.pre enc C.prog fn [] false w args ∧ laidMetH C.prog L w) ∧ sizedMet enc C.prog fn (OpenSpec.ofChange s) false w args)
   (s.post enc C.prog fn false true false false):=by
 refine returnsInHanded_of_change_and (X:=fun w _=>laidMetH C.prog L w) (fun _ _ _ hh h=>h.of_heap hh) own started noInit hfn witness ?_
 intro W base args ds gs before hval hW _ hsz hX _
 have hW0:=hW
 have hlt:=hW.lt
 obtain ⟨p,q,hA,hV,rfl,_,_⟩:=hW
 rw [hvars] at hV
 obtain ⟨rfl,rfl⟩:=trodVars_none hV
 have hsz':(DataW.weightsEach C.prog fn.params.toList ds).all (· ≤ reachBytes) = true:=by
  simpa [hvars,ChangeSpec.plain,DataSpec.varTypes] using hsz
 have hc:=contract W base args.toList ds p (fun j t v h1 h2=>hval j t v (by simpa using h1) (by simpa using h2)) hA hsz' (fun x hx=>hlt x (by simp [hx])) hX
 refine hc.mono fun e W' h=>?_
 obtain ⟨v,rfl,rfl,hb⟩:=h
 exact ⟨_,rfl,d0b hl hrt hub hpar hvars hspec hW0 hb⟩
end
end Go.Sh
namespace Go.Sh
open Go Go.ChangeShapes Go.WideShapes Go.ChangeAt Go.RowKit Go.Deep
section
variable {H:Type} {enc:TypeId × Value → H} {P:Program} {w:World} {sp:Nat → Bool} {hd:Bool}
theorem b8b (b o k:Nat):(⟨b,o,none⟩:Addr).add k = ⟨b,o + k,none⟩:=by
 unfold Addr.add
 split
 ·rename_i h; rw [h]; rfl
 ·rfl
theorem d9a {a:Addr} {v:Value} (h:w.cell? a = some v):a.block < w.heap.size ∧ a.spot = none:=by
 unfold World.cell? at h
 split at h
 ·rename_i c t f hh
  refine ⟨(Array.getElem?_eq_some_iff.1 hh).1,?_⟩
  split at h
  ·cases h
  ·rename_i hs
   cases hsp:a.spot with
   | none=>rfl
   | some x=>rw [hsp] at hs; exact absurd rfl hs
 ·cases h
theorem a3n {e:TypeId} {fs:Array Field} {n:Nat} {cs:List Value} {D:DataW H × List MemPlace} (he:P.underlying e = some (.struct fs)) (hone:oneCellFields P fs = true) (hC:P.cellsOf e = fs.size)
  (h:DataW.trod enc P w 0 sp hd n e cs = some D) :
  cs.length = fs.size ∧ ∀ (j:Nat) (f:Field),fs[j]? = some f → ∃ (v:Value) (y:DataW H × List MemPlace) (m:Nat),cs[j]? = some v ∧ DataW.trod enc P w 0 sp hd m f.type [v] = some y:=by
 obtain ⟨xs,m,_,_,hcl,hxl,hf⟩:=DataW.trod_struct he h
 rw [hC] at hcl
 refine ⟨hcl,fun j f hj=>?_⟩
 obtain ⟨ho,hk⟩:=hone_of hone j f hj
 have hjl:j < fs.size:=(Array.getElem?_eq_some_iff.1 hj).1
 have h1:=hf j f hj
 rw [ho,hk,List.drop_eq_getElem_cons (by omega),gE (by omega:j < xs.length)] at h1
 exact ⟨_,_,m,gE (by omega),h1⟩
end
end Go.Sh
namespace Go.Sh
open Go Go.ChangeShapes Go.WideShapes Go.ChangeAt Go.RowKit Go.Deep
section
variable {H:Type} {enc:TypeId × Value → H} {P:Program} {w:World} {sp:Nat → Bool} {hd:Bool}
theorem f5j {α:Type} (mk:α → Value) (Q:α → Prop) {t e:TypeId} {v:Value} {n:Nat} {D:DataW H × List MemPlace} (ht:P.underlying t = some (.slice e)) (hC:P.cellsOf e = 1)
  (hrd:∀ (V:Value) (n:Nat) (D:DataW H × List MemPlace),DataW.trod enc P w 0 sp hd n e [V] = some D → ∃ x,V = mk x ∧ Q x) (h:DataW.trod enc P w 0 sp hd n t [v] = some D) :
  ∃ l:List α,(∃ ad c,v = .slice ad l.length c ∧ (l = [] ∨ ∃ b o,ad = some ⟨b,o,none⟩ ∧ b < w.heap.size ∧ ∀ (i:Nat) (h:i < l.length),w.cell? ⟨b,o + i,none⟩ = some (mk l[i]))) ∧ l.length ≤ maxLen ∧ ∀ x ∈ l,Q x:=by
 rcases open_slice1 ht hC h with ⟨hcs,_⟩ | ⟨a',len,cap,m,n',V,D',Pl,hcs,_,hl,hm,hmm,_,hi⟩
 ·simp only [List.cons.injEq,and_true] at hcs
  subst hcs
  exact ⟨[],⟨none,0,rfl,.inl rfl⟩,by simp,by simp⟩
 ·simp only [List.cons.injEq,and_true] at hcs
  subst hcs
  have hml:len ≤ m:=by rw [hmm]; split <;> omega
  have key:∀ i:Fin len,∃ x,V i = mk x ∧ Q x:=fun i=>hrd _ _ _ (hi i (by have:=i.2; omega)).2
  refine ⟨List.ofFn (fun i=>(key i).choose),⟨some a',cap,by rw [List.length_ofFn],?_⟩,by rw [List.length_ofFn]; omega,?_⟩
  ·by_cases h0:len = 0
   ·left; subst h0; rfl
   ·right
    have h00:=(hi 0 (by omega)).1
    have e0:a'.add 0 = a':=by simp [Addr.add]
    rw [e0] at h00
    obtain ⟨hb,hs⟩:=d9a h00
    obtain ⟨b,o,s⟩:=a'
    simp only at hs hb
    subst hs
    refine ⟨b,o,rfl,hb,fun i hil=>?_⟩
    rw [List.length_ofFn] at hil
    have h1:=(hi i (by omega)).1
    rw [b8b] at h1
    rw [h1,List.getElem_ofFn]
    have:=(key ⟨i,hil⟩).choose_spec.1
    exact congrArg some this
  ·intro x hx
   rw [List.mem_ofFn] at hx
   obtain ⟨i,rfl⟩:=hx
   exact (key i).choose_spec.2
end
end Go.Sh
namespace Go.Proofs
open Go Go.Sh Go.RowKit Go.Lib CodeSpec TkSpec FdSpec PrSpec Go.ChangeShapes Go.WideShapes Go.ChangeAt Go.Deep
abbrev laidList:List (String × DataW Unit):=YtlmhhgemiknhdaaGreatDoor.Rows.proofEqualRow.laid
abbrev e6j (i:Nat):String:=(laidList.map (·.1)).getD i default
theorem b2c {W:World} {nm:String} {d:DataW Unit} (hf:(laidList.filter fun x=>x.1 == nm) = [(nm,d)]) (h:laidMetH Tryz.prog laidList W):laidMet Tryz.prog [(nm,d)] W:=by
 rw [MakeChecks.laidMetH_plain _ _ _ (by kernel_rfl)] at h
 have:=h.filter (fun x=>x.1 == nm)
 rwa [hf] at this
theorem e6k {W:World} (h:laidMetH Tryz.prog laidList W):TabIs Tryz.prog W c4k .u64 pow10Tab:=
 tabIs_of_head (rest:=[]) (t:=261) (e:=150) (n:=20) Cd.gTab (by kernel_rfl) Tryz.underlying261 Tryz.underlying150 (by kernel_rfl) (by kernel_rfl)
  (b2c (d:=tabData .u64 pow10Tab) (by kernel_rfl) h)
theorem gDb:Tryz.prog.globalNamed (e6j 1) = some 2:=by kernel_rfl
theorem f5l {W:World} (h:laidMetH Tryz.prog laidList W):TabIs Tryz.prog W (e6j 1) .u8 (Lib.deBruijn64tab.map (fun n:Nat=>(n:Int))):=
 tabIs_of_head (rest:=[]) (t:=244) (e:=5) (n:=64) gDb (by kernel_rfl) Tryz.underlying244 Tryz.underlying5 (by kernel_rfl) (by kernel_rfl)
  (b2c (d:=tabData .u8 (Lib.deBruijn64tab.map (fun n:Nat=>(n:Int)))) (by kernel_rfl) h)
theorem g4n {W:World} (h:laidMetH Tryz.prog laidList W):DbT W:=by
 have ht:=f5l h
 have hl:(Lib.deBruijn64tab.map (fun n:Nat=>(n:Int))).length = 64:=by decide +kernel
 have hc:∀ j,j < 64 → W.cell? ⟨2,j,none⟩ = some (.int .u8 (Lib.deBruijn64tab.getD j 0:Nat)):=fun j hj=>by
  rw [ht.cell gDb j (by omega)]
  have:(Lib.deBruijn64tab.map (fun n:Nat=>(n:Int))).getD j 0 = ((Lib.deBruijn64tab.getD j 0:Nat):Int):=by
   rw [List.getD_eq_getElem?_getD,List.getD_eq_getElem?_getD,List.getElem?_map]
   cases Lib.deBruijn64tab[j]? <;> rfl
  rw [this]
 refine ⟨?_,hc⟩
 have h0:=hc 0 (by omega)
 by_cases hlt:2 < W.heap.size
 ·exact hlt
 ·unfold World.cell? at h0
  rw [Array.getElem?_eq_none (by show W.heap.size ≤ 2; omega)] at h0
  simp at h0
theorem g4o {W:World} (h:laidMetH Tryz.prog laidList W):8 ≤ W.heap.size:=by
 obtain ⟨ps,⟨g0,t0,cs0,f0,p0,q0,hg0,ht0,hv0,hd0,_,_⟩,_,_⟩:=b2c (nm:=e6j 0) (d:=YtlmhhgemiknhdaaGreatDoor.Rows.laid_math_bits_deBruijn32tab) (by kernel_rfl) h
 have hg:Tryz.prog.globalNamed (e6j 0) = some 7:=by kernel_rfl
 unfold World.var? at hv0
 rw [hg] at hv0
 simp only [Option.bind_some] at hv0
 split at hv0
 ·rename_i cs t f hh
  have:=(Array.getElem?_eq_some_iff.1 hh).1
  omega
 ·cases hv0
theorem f5m {W:World} (h:laidMetH Tryz.prog laidList W):Cd.Laid W:=⟨e6k h,g4o h⟩
theorem g0x (s:ByteArray):s = ⟨s.data.toList.toArray⟩:=by cases s; rfl
theorem g0y (s:ByteArray):s.data.toList.length = s.size:=by simp
theorem own:ownKnob Tryz.prog.godebug = none:=by kernel_rfl
theorem f5n:laidOutB Tryz.prog = true:=by kernel_rfl
theorem e6l (os:Os) (args:Array Value):laidMetH Tryz.prog laidList ((World.doorLaid Tryz.prog 400 os).forCall (fun _ _=>0) ⟨#[],args,[]⟩).memory:=
 laidMetH_of_parts3 (fuel:=8) (laidMet_of_run' 8 (by kernel_rfl) (by kernel_rfl)) (by kernel_rfl) (by kernel_rfl)
theorem e2v {n:Int} (h:(Lit.int .i64 n).wf = true):I64 n:=by
 simp only [Lit.wf,bA,dE] at h
 exact (a7l n).1 h
section
variable {H:Type} {enc:TypeId × Value → H} {w:World} {sp:Nat → Bool} {hd:Bool}
theorem c8k {v:Value} {l:List Int} (h:∃ ad c,v = .slice ad l.length c ∧ (l = [] ∨ ∃ b o,ad = some ⟨b,o,none⟩ ∧ b < w.heap.size ∧ ∀ (i:Nat) (h:i < l.length),w.cell? ⟨b,o + i,none⟩ = some (Value.int .i64 l[i]))) (h0:∀ c,v = .slice none l.length c → l.length = 0 ∧ c = 0) (hl:l.length ≤ maxLen) (hr:∀ x ∈ l,I64 x):Ints w v l:=by
 obtain ⟨ad,c,rfl,h⟩:=h
 refine ⟨⟨ad,c,rfl,fun e=>?_,?_⟩,hr,hl⟩
 ·subst e
  exact h0 c rfl
 ·rcases h with h | ⟨b,o,rfl,hlt,hc⟩
  ·exact .inl h
  ·refine .inr ⟨b,o,rfl,hlt,fun k x hk=>?_⟩
   rw [a3z] at hk
   obtain ⟨hk1,hk2⟩:=gS hk
   have hk1:k < l.length:=by rw [List.length_map] at hk1; exact hk1
   rw [hc k hk1,← hk2,List.getElem_map]
theorem f5o {t:TypeId} {n m:Nat} {c:Nat} {D:DataW H × List MemPlace} (ht:Tryz.prog.underlying t = some (.slice 3)) (h:DataW.trod enc Tryz.prog w 0 sp hd n t [.slice none m c] = some D):m = 0 ∧ c = 0:=by
 rcases open_slice1 ht (by kernel_rfl) h with ⟨hcs,_⟩ | ⟨a',len,cap,m,n',V,D',Pl,hcs,_⟩
 ·simp only [List.cons.injEq,and_true,Value.slice.injEq] at hcs
  exact hcs.2
 ·simp only [List.cons.injEq,and_true,Value.slice.injEq] at hcs
  exact absurd hcs.1 (by simp)
theorem b8j {v:Value} {n:Nat} {D:DataW H × List MemPlace} (h:DataW.trod enc Tryz.prog w 0 sp hd n 24 [v] = some D):∃ l,Ints w v l:=by
 have h':=h
 obtain ⟨l,h1,h2,h3⟩:=f5j (Value.int .i64) I64 Tryz.underlying24 (by kernel_rfl) (fun V n D h=>by
  obtain ⟨k,e,_,hw⟩:=DataW.trod_int Tryz.underlying3 h
  simp only [List.cons.injEq,and_true] at e
  exact ⟨k,e,e2v hw⟩) h
 exact ⟨l,c8k h1 (fun c e=>by subst e; exact f5o Tryz.underlying24 h') h2 h3⟩
theorem e6m {cs:List Value} {n:Nat} {D:DataW H × List MemPlace} (h:DataW.trod enc Tryz.prog w 0 sp hd n 23 cs = some D):∃ g:Grp,cs = [.int .i64 g.P,.int .i64 g.Q,.int .i64 g.G] ∧ f4z g:=by
 obtain ⟨hcl,hf⟩:=a3n Tryz.underlying23 (by kernel_rfl) (by kernel_rfl) h
 obtain ⟨v0,y0,m0,c0,f0⟩:=hf 0 _ rfl
 obtain ⟨v1,y1,m1,c1,f1⟩:=hf 1 _ rfl
 obtain ⟨v2,y2,m2,c2,f2⟩:=hf 2 _ rfl
 obtain ⟨k0,e0,_,w0⟩:=DataW.trod_int Tryz.underlying3 f0
 obtain ⟨k1,e1,_,w1⟩:=DataW.trod_int Tryz.underlying3 f1
 obtain ⟨k2,e2,_,w2⟩:=DataW.trod_int Tryz.underlying3 f2
 simp only [List.cons.injEq,and_true] at e0 e1 e2
 have h6:cs.length = 3:=hcl
 refine ⟨⟨k0,k1,k2⟩,?_,⟨e2v w0,e2v w1,e2v w2⟩⟩
 match cs,h6 with
 | [x0,x1,x2],_=>
  simp only [List.getElem?_cons_zero,List.getElem?_cons_succ,Option.some.injEq] at c0 c1 c2
  rw [c0,c1,c2,e0,e1,e2]
theorem d9u:Tryz.prog.cellsOf 26 = 5:=by kernel_rfl
theorem d9v:Tryz.prog.cellsOf 23 = 3:=by kernel_rfl
theorem d2m:Tryz.prog.cellsOf 24 = 1:=by kernel_rfl
theorem d9w:Tryz.prog.cellsOf 3 = 1:=by kernel_rfl
theorem e6n {b0:Nat} {v:Value} {d:DataW H} {ps:List MemPlace} (hT:DbT w) (hval:Value.okWide Tryz.prog w .any b0 26 v) (h:DataW.Trod enc Tryz.prog w 0 sp hd 26 v d ps):∃ s x,v = a6b s x ∧ SetR w s x:=by
 obtain ⟨cs,rfl,hs⟩:=okWide_struct Tryz.underlying26 hval
 obtain ⟨fuel,hf⟩:=h
 have hf:DataW.trod enc Tryz.prog w 0 sp hd fuel 26 cs.toList = some (d,ps):=hf
 obtain ⟨xs,m,_,_,hcl,hxl,hf⟩:=DataW.trod_struct Tryz.underlying26 hf
 rw [d9u] at hcl
 have hcs:cs = cs.toList.toArray:=by simp
 rw [hcs]
 clear hs hcs
 generalize cs.toList = l at *
 have hxl:xs.length = 3:=hxl
 match l,hcl,xs,hxl with
 | [x0,x1,x2,x3,x4],_,[y0,y1,y2],_=>
  have f0:DataW.trod enc Tryz.prog w 0 sp hd m 23 (([x0,x1,x2,x3,x4].drop 0).take (Tryz.prog.cellsOf 23)) = some y0:=hf 0 _ rfl
  have f1:DataW.trod enc Tryz.prog w 0 sp hd m 24 (([x0,x1,x2,x3,x4].drop 3).take (Tryz.prog.cellsOf 24)) = some y1:=hf 1 _ rfl
  have f2:DataW.trod enc Tryz.prog w 0 sp hd m 3 (([x0,x1,x2,x3,x4].drop 4).take (Tryz.prog.cellsOf 3)) = some y2:=hf 2 _ rfl
  rw [d9v] at f0
  rw [d2m] at f1
  rw [d9w] at f2
  obtain ⟨g,eg,hg⟩:=e6m f0
  obtain ⟨l3,h3⟩:=b8j f1
  obtain ⟨k4,e4,_,w4⟩:=DataW.trod_int Tryz.underlying3 f2
  simp only [List.drop_zero,List.take_succ_cons,List.take_zero,List.drop_succ_cons,List.cons.injEq,and_true] at eg e4
  obtain ⟨e0,e1,e2⟩:=eg
  exact ⟨⟨g,l3,k4⟩,x3,by rw [e0,e1,e2,e4],⟨hg,h3,e2v w4,hT⟩⟩
end
end Go.Proofs
namespace PrSpec
open FdSpec TkSpec CodeSpec FdPoly GrLaw
end PrSpec
namespace PrSpec
open FdSpec TkSpec CodeSpec FdPoly GrLaw
end PrSpec
namespace Go.Proofs
open Go Go.Sh Go.RowKit FdSpec TkSpec CodeSpec PrSpec
section
variable {K:VK} {w w' w0 W:World} {L:List (Addr × Value)}
theorem _root_.Go.Proofs.SRow.one {α:Type} {R:World → Value → α → Prop} {ad:Option Addr} {m c:Nat} {l:List α} (h:SRow 1 (c4b 1 (c8y R)) w (.slice ad m c) l) {i:Nat} (hi:i < l.length):∃ b o v,ad = some ⟨b,o,none⟩ ∧ b < w.heap.size ∧ w.cell? ⟨b,o + i,none⟩ = some v ∧ R w v l[i]:=by
 obtain ⟨b,o,rfl,hlt,cs,hc,h1,v,rfl,h2⟩:=h.at hi
 refine ⟨b,o,v,rfl,hlt,?_,h2⟩
 have:=h1 0 v rfl
 rwa [Nat.mul_one,Nat.add_zero] at this
theorem a7a {B:Nat} {T:TypeId} {v xv:Value} {l m:List Int} (ho:OwnI w B v l) (hB:B ≤ w.heap.size) (hx:Ints w xv m) (hl:l.length + m.length < 1099511627776)
  (k:∀ v' w',OwnI w' B v' (l ++ m) → w.grownBy w' v.ownBlock → (∀ i,v'.ownBlock = some i → v.ownBlock = some i ∨ w.heap.size ≤ i) → K v' w'):oM Tryz.prog (.call { callee:=.builtin .append,args:=#[.tmp 0,.tmp 1],argTypes:=#[24,24] }) T [v,xv] K w:=by
 obtain ⟨⟨ad,c,rfl,h0,hc⟩,hr,_⟩:=hx
 have hfl:(a9b c7g m).length = m.length:=by rw [a3z]; simp
 refine a5a 24 T 3 ((Tryz.prog.info? 3).getD default) (.int .i64 0) 1 8 (by kernel_rfl) (by kernel_rfl) (by kernel_rfl) (by kernel_rfl) (by kernel_rfl) (by kernel_rfl) (by omega) (a2v ho (Nat.zero_le _)) (a9b c7g m) (by rw [hfl]; omega) h0 ?_ ?_ (by simp only [maxLen]; omega) (by omega) ?_
 ·rintro a ha j u hj
  rcases hc with hc | ⟨b,o,e,hlt,hcell⟩
  ·subst hc; simp [a9b] at hj
  ·rw [e] at ha
   cases ha
   rw [a1w]
   exact hcell j u hj
 ·intro u hu
  rw [a3z] at hu
  obtain ⟨n,_,rfl⟩:=List.mem_map.1 hu
  rfl
 ·intro v' w' ho' hg hv
  refine k v' w' ?_ hg hv
  show w'.ownsRow B 3 1 v' (l ++ m).length (a9b c7g (l ++ m))
  rw [List.length_append,c9f]
  exact a2b ho' (fun i hi=>(hv i hi).elim (fun h=>(a0d ho h).2.1) (fun h=>Nat.le_trans hB h))
theorem e3z {T:TypeId} (x:Int) (k:∀ v W,Bw w W → OwnI W w.heap.size v [x] → K v W):oM Tryz.prog (.buildSlice 24 1 #[(0,.tmp 0)]) T [.int .i64 x] K w:=by
 rw [a1a]
 have e:(Instr.buildSlice 24 1 #[(0,.int .i64 x)]).run Tryz.prog w = .ok (.slice (some ⟨w.heap.size,0,none⟩) 1 1) (w.alloc (.cells #[.int .i64 x] 3)):=by kernel_rfl
 rw [e]
 exact k _ _ ((Below.refl _ w).alloc (rL) _) (World.ownsRow_lit w #[.int .i64 x] 1 (rL) (by decide) rfl)
@[go_sem] theorem f8u (T:TypeId) (b o n c:Nat) (x:Int):oM Tryz.prog (.indexAddr 30 (.tmp 0) (.tmp 1)) T [.slice (some ⟨b,o,none⟩) n c,.int .i64 x] = onM (0 ≤ x ∧ x < n) (.pointer (some ⟨b,o + x.toNat,none⟩)):=by
 have:=a7k (K:=fun _ _=>True) (P:=Tryz.prog) (n:=1) 30 T (by kernel_rfl) (fun w=>by kernel_rfl) b o n c x
 rwa [Nat.mul_one] at this
@[go_sem] theorem g3h (T:TypeId) (b o n c:Nat) (x:Int):oM Tryz.prog (.indexAddr 29 (.tmp 0) (.tmp 1)) T [.slice (some ⟨b,o,none⟩) n c,.int .i64 x] = onM (0 ≤ x ∧ x < n) (.pointer (some ⟨b,o + x.toNat,none⟩)):=by
 have:=a7k (K:=fun _ _=>True) (P:=Tryz.prog) (n:=1) 29 T (by kernel_rfl) (fun w=>by kernel_rfl) b o n c x
 rwa [Nat.mul_one] at this
@[reducible] def a5n (dv av:Value):List Value:=[dv,av]
@[reducible] def b5m (dv av:Value):Value:=.agg #[dv,av]
theorem a6j {l:List Int} (h:∀ x ∈ l,InR x) (hl:l.length ≤ 10000000000):(a4e (l.map a1b)).length ≤ 22 * l.length + 30:=by
 have h3:(Lib.itoa (l.length:Int)).length ≤ 20:=b0g _ (by unfold InR; omega)
 have h4:∀ l:List Int,(∀ x ∈ l,InR x) → ((l.map a1b).flatten).length ≤ 22 * l.length:=by
  intro l
  induction l with
  | nil=>simp
  | cons a l ih=>
   intro h
   have h1:=Cd.encInt_len a (h a (by simp))
   have h2:=ih (fun x hx=>h x (by simp [hx]))
   simp only [List.map_cons,List.flatten_cons,List.length_append,List.length_cons]
   omega
 have h5:=h4 l h
 simp only [a4e,List.length_append,List.length_cons,List.length_nil,List.length_map] at *
 omega
end
end Go.Proofs
namespace Go.Proofs
open Go Go.Sh Go.RowKit Go.Lib CodeSpec TkSpec FdSpec PrSpec Go.ChangeShapes Go.WideShapes Go.ChangeAt Go.Deep
section
variable {H:Type} {enc:TypeId × Value → H} {w:World} {sp:Nat → Bool} {hd:Bool}
theorem a7e {P:Program} {α:Type} {n:Nat} {At:World → Nat → Nat → α → Prop} {t e:TypeId} {v:Value} {m0:Nat} {D:DataW H × List MemPlace} (ht:P.underlying t = some (.slice e)) (hC:P.cellsOf e = n) (hn:0 < n)
  (hrd:∀ (cs:List Value) (b p m:Nat) (D:DataW H × List MemPlace),cs.length = n → (∀ (j:Nat) (u:Value),cs[j]? = some u → w.cell? ⟨b,p + j,none⟩ = some u) → DataW.trod enc P w 0 sp hd m e cs = some D → ∃ x,At w b p x)
  (h:DataW.trod enc P w 0 sp hd m0 t [v] = some D):∃ l:List α,SRow n At w v l:=by
 rcases open_slice ht h with ⟨hcs,_⟩ | ⟨a',len,cap,m,n',D',Pl,hcs,_,hl,hm,hmm,_,hi⟩
 ·simp only [List.cons.injEq,and_true] at hcs
  subst hcs
  exact ⟨[],⟨none,0,rfl,.inl rfl⟩,by simp⟩
 ·simp only [List.cons.injEq,and_true] at hcs
  subst hcs
  subst hC
  have hml:len ≤ m:=by rw [hmm]; split <;> omega
  by_cases h0:len = 0
  ·subst h0
   exact ⟨[],⟨some a',cap,rfl,.inl rfl⟩,by simp⟩
  obtain ⟨cs0,hc0,_⟩:=hi 0 (by omega)
  obtain ⟨_,hl0,h00⟩:=World.cells?_some hc0
  have h00:=h00 0 hn
  rw [Nat.zero_mul] at h00
  have e0:(a'.add 0).add 0 = a':=by simp [Addr.add]
  rw [e0,gE (by omega)] at h00
  obtain ⟨hb,hs⟩:=d9a h00
  obtain ⟨b,o,s⟩:=a'
  simp only at hs hb
  subst hs
  have key:∀ i:Fin len,∃ x,At w b (o + i * P.cellsOf e) x:=fun i=>by
   obtain ⟨cs,hc,ht2⟩:=hi i (by have:=i.2; omega)
   obtain ⟨_,hcl,hat⟩:=World.cells?_some hc
   refine hrd cs b (o + i * P.cellsOf e) _ _ hcl (fun j u hj=>?_) ht2
   have hjl:=(gS hj).1
   have:=hat j (by omega)
   rw [b8b,b8b] at this
   rw [this,hj]
  refine ⟨List.ofFn (fun i=>(key i).choose),⟨some ⟨b,o,none⟩,cap,by rw [List.length_ofFn],.inr ⟨b,o,rfl,hb,fun i hil=>?_⟩⟩,by rw [List.length_ofFn]; simp only [maxLen] at hm; omega⟩
  rw [List.length_ofFn] at hil
  rw [List.getElem_ofFn]
  exact (key ⟨i,hil⟩).choose_spec
theorem b4w {v:Value} {n:Nat} {D:DataW H × List MemPlace} (h:DataW.trod enc Tryz.prog w 0 sp hd n 30 [v] = some D):∃ l,a0s w v l:=
 a7e Tryz.underlying30 (by kernel_rfl) (by decide) (fun cs b p m D hl hc ht=>by
  match cs,hl with
  | [u],_=>
   obtain ⟨l,hl⟩:=b8j ht
   exact ⟨l,[u],rfl,hc,u,rfl,hl⟩) h
theorem c6n {v:Value} {n:Nat} {D:DataW H × List MemPlace} (h:DataW.trod enc Tryz.prog w 0 sp hd n 29 [v] = some D):∃ l,a2j w v l:=
 a7e Tryz.underlying29 (by kernel_rfl) (by decide) (fun cs b p m D hl hc ht=>by
  match cs,hl with
  | [u],_=>
   obtain ⟨l,hl⟩:=b4w ht
   exact ⟨l,[u],rfl,hc,u,rfl,hl⟩) h
theorem e6h {b0:Nat} {v:Value} {d:DataW H} {ps:List MemPlace} (hval:Value.okWide Tryz.prog w .any b0 34 v) (h:DataW.Trod enc Tryz.prog w 0 sp hd 34 v d ps):∃ dv av ds al,v = b5m dv av ∧ a0s w dv ds ∧ a2j w av al:=by
 obtain ⟨cs,rfl,hs⟩:=okWide_struct Tryz.underlying34 hval
 obtain ⟨fuel,hf⟩:=h
 obtain ⟨hcl,hf⟩:=a3n Tryz.underlying34 (by kernel_rfl) (by kernel_rfl) hf
 obtain ⟨v0,y0,m0,c0,f0⟩:=hf 0 _ rfl
 obtain ⟨v1,y1,m1,c1,f1⟩:=hf 1 _ rfl
 obtain ⟨ds,hd⟩:=b4w f0
 obtain ⟨al,ha⟩:=c6n f1
 refine ⟨v0,v1,ds,al,?_,hd,ha⟩
 have h6:cs.toList.length = 2:=hcl
 have c0:cs.toList[0]? = some v0:=c0
 have c1:cs.toList[1]? = some v1:=c1
 have hcs:cs = cs.toList.toArray:=by simp
 rw [hcs]
 clear hs hcs
 generalize cs.toList = l at *
 match l,h6 with
 | [x0,x1],_=>
  simp only [List.getElem?_cons_zero,List.getElem?_cons_succ,Option.some.injEq] at c0 c1
  rw [c0,c1]
theorem d9n {v:Value} {n:Nat} {D:DataW H × List MemPlace} (h:DataW.trod enc Tryz.prog w 0 sp hd n 142 [v] = some D):∃ l,SRow 2 c4p w v l:=
 a7e Tryz.underlying142 (by kernel_rfl) (by decide) (fun cs b p m D hl hc ht=>by
  match cs,hl with
  | [x0,x1],_=>
   obtain ⟨_,hf⟩:=a3n Tryz.underlying146 (by kernel_rfl) (by kernel_rfl) ht
   obtain ⟨v0,y0,m0,c0,f0⟩:=hf 0 _ rfl
   obtain ⟨v1,y1,m1,c1,f1⟩:=hf 1 _ rfl
   obtain ⟨k0,e0,_,w0⟩:=DataW.trod_int Tryz.underlying3 f0
   obtain ⟨k1,e1,_,w1⟩:=DataW.trod_int Tryz.underlying3 f1
   simp only [List.cons.injEq,and_true] at e0 e1
   simp only [List.getElem?_cons_zero,List.getElem?_cons_succ,Option.some.injEq] at c0 c1
   subst c0; subst c1; subst e0; subst e1
   exact ⟨⟨k0,k1⟩,hc 0 _ rfl,hc 1 _ rfl,e2v w0,e2v w1⟩) h
theorem d9o {v:Value} {n:Nat} {D:DataW H × List MemPlace} (h:DataW.trod enc Tryz.prog w 0 sp hd n 67 [v] = some D):∃ l,SRow 2 d3h w v l:=
 a7e Tryz.underlying67 (by kernel_rfl) (by decide) (fun cs b p m D hl hc ht=>by
  match cs,hl with
  | [x0,x1],_=>
   obtain ⟨_,hf⟩:=a3n Tryz.underlying144 (by kernel_rfl) (by kernel_rfl) ht
   obtain ⟨v0,y0,m0,c0,f0⟩:=hf 0 _ rfl
   obtain ⟨v1,y1,m1,c1,f1⟩:=hf 1 _ rfl
   obtain ⟨k0,e0,_,w0⟩:=DataW.trod_int Tryz.underlying3 f0
   obtain ⟨l1,h1⟩:=d9n f1
   simp only [List.cons.injEq,and_true] at e0
   simp only [List.getElem?_cons_zero,List.getElem?_cons_succ,Option.some.injEq] at c0 c1
   subst c0; subst c1; subst e0
   exact ⟨⟨k0,l1⟩,x1,hc 0 _ rfl,hc 1 _ rfl,h1,e2v w0⟩) h
theorem d9p {v:Value} {n:Nat} {D:DataW H × List MemPlace} (h:DataW.trod enc Tryz.prog w 0 sp hd n 63 [v] = some D):∃ l,SRow 2 (c4b 2 f8r) w v l:=
 a7e Tryz.underlying63 (by kernel_rfl) (by decide) (fun cs b p m D hl hc ht=>by
  match cs,hl with
  | [x0,x1],_=>
   obtain ⟨_,hf⟩:=a3n Tryz.underlying69 (by kernel_rfl) (by kernel_rfl) ht
   obtain ⟨v0,y0,m0,c0,f0⟩:=hf 0 _ rfl
   obtain ⟨v1,y1,m1,c1,f1⟩:=hf 1 _ rfl
   obtain ⟨k0,e0,_,w0⟩:=DataW.trod_int Tryz.underlying3 f0
   obtain ⟨l1,h1⟩:=d9o f1
   simp only [List.cons.injEq,and_true] at e0
   simp only [List.getElem?_cons_zero,List.getElem?_cons_succ,Option.some.injEq] at c0 c1
   subst c0; subst c1; subst e0
   exact ⟨⟨k0,l1⟩,[.int .i64 k0,x1],rfl,hc,x1,rfl,⟨e2v w0,h1⟩⟩) h
theorem d9q {v:Value} {n:Nat} {D:DataW H × List MemPlace} (h:DataW.trod enc Tryz.prog w 0 sp hd n 27 [v] = some D):∃ l,a4f w v l:=
 a7e Tryz.underlying27 (by kernel_rfl) (by decide) (fun cs b p m D hl hc ht=>by
  match cs,hl with
  | [x0,x1],_=>
   obtain ⟨_,hf⟩:=a3n Tryz.underlying65 (by kernel_rfl) (by kernel_rfl) ht
   obtain ⟨v0,y0,m0,c0,f0⟩:=hf 0 _ rfl
   obtain ⟨v1,y1,m1,c1,f1⟩:=hf 1 _ rfl
   obtain ⟨k0,e0,_,w0⟩:=DataW.trod_int Tryz.underlying3 f0
   obtain ⟨l1,h1⟩:=d9p f1
   simp only [List.cons.injEq,and_true] at e0
   simp only [List.getElem?_cons_zero,List.getElem?_cons_succ,Option.some.injEq] at c0 c1
   subst c0; subst c1; subst e0
   exact ⟨⟨k0,l1⟩,[.int .i64 k0,x1],rfl,hc,x1,rfl,e2v w0,h1⟩) h
theorem d9r {b0:Nat} {v:Value} {d:DataW H} {ps:List MemPlace} (hval:Value.okWide Tryz.prog w .any b0 27 v) (h:DataW.Trod enc Tryz.prog w 0 sp hd 27 v d ps):∃ l,a4f w v l:=by
 obtain ⟨a,n,c,rfl⟩:=okWide_slice Tryz.underlying27 hval
 obtain ⟨fu,hf⟩:=h
 exact d9q hf
end
end Go.Proofs
namespace Go.Proofs
open Go Go.Sh Go.RowKit FdSpec TkSpec CodeSpec PrSpec
section
variable {K:VK} {w w' w0 W:World} {L:List (Addr × Value)}
abbrev b0x (B:Nat) (D:Nat → Prop) (w:World) (v:Value) (l:L2):Prop:=GRow 1 24 (c8y Ints) B D w v l
abbrev d2a (B:Nat) (D:Nat → Prop) (w:World) (v:Value) (l:L3):Prop:=GRow 1 30 (c8y a0s) B D w v l
theorem a8n {T:TypeId} (ad:Option Addr) (n c:Nat) (k:∀ g W,Bw w W → w.heap.size ≤ g → Holds W g 24 [.slice ad n c] → K (.slice (some ⟨g,0,none⟩) 1 1) W):oM Tryz.prog (.buildSlice 30 1 #[(0,.tmp 0)]) T [.slice ad n c] K w:=by
 rw [a1a]; exact a7s (by kernel_rfl) k
theorem b2y {T:TypeId} (ad:Option Addr) (n c:Nat) (k:∀ g W,Bw w W → w.heap.size ≤ g → Holds W g 30 [.slice ad n c] → K (.slice (some ⟨g,0,none⟩) 1 1) W):oM Tryz.prog (.buildSlice 29 1 #[(0,.tmp 0)]) T [.slice ad n c] K w:=by
 rw [a1a]; exact a7s (by kernel_rfl) k
theorem b1p {B g c n:Nat} {D:Nat → Prop} {v:Value} {l:L2} {x:List Int} {T:TypeId} (h:b0x B D w v l) (hB:B ≤ w.heap.size) {b:Nat} {ad:Option Addr} (hh:Holds w b 24 [.slice ad n c])
  (hx:FP D w (fun w=>Ints w (.slice ad n c) x)) (hD:Off D w v) (hl:l.length < 1099511627776)
  (k:∀ v' w',b0x B D w' v' (l ++ [x]) → w.grownBy w' v.ownBlock → (∀ i,v'.ownBlock = some i → v.ownBlock = some i ∨ w.heap.size ≤ i) → Off D w' v' → K v' w') :
  oM Tryz.prog (.call { callee:=.builtin .append,args:=#[.tmp 0,.tmp 1],argTypes:=#[30,30] }) T [v,.slice (some ⟨b,0,none⟩) 1 g] K w:=by
 refine b2i 30 T ((Tryz.prog.info? 24).getD default) (.slice none 0 0) 24 (by kernel_rfl) (by kernel_rfl) (by kernel_rfl) (by kernel_rfl) (by kernel_rfl) (by kernel_rfl) (by decide) (by decide)
  h hB (xs:=[.slice ad n c]) rfl ?_ (b7f _ _ _) (hx.imp fun w h=>⟨_,rfl,h⟩) hD hl k
 intro j u hj
 rw [a0r hh]
 simpa using hj
theorem c5n {B g c n:Nat} {D:Nat → Prop} {v:Value} {l:L3} {x:L2} {T:TypeId} (h:d2a B D w v l) (hB:B ≤ w.heap.size) {b:Nat} {ad:Option Addr} (hh:Holds w b 30 [.slice ad n c])
  (hx:FP D w (fun w=>a0s w (.slice ad n c) x)) (hD:Off D w v) (hl:l.length < 1099511627776)
  (k:∀ v' w',d2a B D w' v' (l ++ [x]) → w.grownBy w' v.ownBlock → (∀ i,v'.ownBlock = some i → v.ownBlock = some i ∨ w.heap.size ≤ i) → Off D w' v' → K v' w') :
  oM Tryz.prog (.call { callee:=.builtin .append,args:=#[.tmp 0,.tmp 1],argTypes:=#[29,29] }) T [v,.slice (some ⟨b,0,none⟩) 1 g] K w:=by
 refine b2i 29 T ((Tryz.prog.info? 30).getD default) (.slice none 0 0) 24 (by kernel_rfl) (by kernel_rfl) (by kernel_rfl) (by kernel_rfl) (by kernel_rfl) (by kernel_rfl) (by decide) (by decide)
  h hB (xs:=[.slice ad n c]) rfl ?_ (b7f _ _ _) (hx.imp fun w h=>⟨_,rfl,h⟩) hD hl k
 intro j u hj
 rw [a0r hh]
 simpa using hj
structure Duo (B:Nat) (D:Nat → Prop) (W:World) (v0 u0:Value) (w:World) (v u:Value) (l:L2) (m:L3):Prop where
 fr:Fr (fun i=>v0.ownBlock = some i ∨ u0.ownBlock = some i) W w
 a:b0x B D w v l
 b:d2a B D w u m
 oa:Off D w v
 ob:Off D w u
 ap:apart v u
 la:∀ i,v.ownBlock = some i → v0.ownBlock = some i ∨ W.heap.size ≤ i
 lb:∀ i,u.ownBlock = some i → u0.ownBlock = some i ∨ W.heap.size ≤ i
 B:B ≤ W.heap.size
theorem Duo.start {B:Nat} {D:Nat → Prop} {v u:Value} {l:L2} {m:L3} (a:b0x B D w v l) (b:d2a B D w u m) (oa:Off D w v) (ob:Off D w u) (ap:apart v u) (hB:B ≤ w.heap.size):Duo B D w v u w v u l m:=
 ⟨Fr.refl _ _,a,b,oa,ob,ap,fun _ h=>.inl h,fun _ h=>.inl h,hB⟩
section
variable {B:Nat} {D:Nat → Prop} {v0 u0 v u:Value} {l:L2} {m:L3}
theorem Duo.next (h:Duo B D W v0 u0 w v u l m) (hb:Bw w w'):Duo B D W v0 u0 w' v u l m:=
 ⟨h.fr.trans (S':=fun _=>False) (Fr.of_below hb) (fun _ h=>h.elim),h.a.next hb (fun i hi=>(h.oa i hi).1),h.b.next hb (fun i hi=>(h.oa i hi).1),h.oa.next hb.size,h.ob.next hb.size,h.ap,h.la,h.lb,h.B⟩
theorem Duo.addA {b g n c:Nat} {ad:Option Addr} {x:List Int} {T:TypeId} (h:Duo B D W v0 u0 w v u l m) (hh:Holds w b 24 [.slice ad n c]) (hx:FP D W (fun w=>Ints w (.slice ad n c) x)) (hD0:∀ i,D i → i < W.heap.size ∧ v0.ownBlock ≠ some i ∧ u0.ownBlock ≠ some i) (hl:l.length < 1099511627776)
  (k:∀ v' w',Duo B D W v0 u0 w' v' u (l ++ [x]) m → w.grownBy w' v.ownBlock → K v' w') :
  oM Tryz.prog (.call { callee:=.builtin .append,args:=#[.tmp 0,.tmp 1],argTypes:=#[30,30] }) T [v,.slice (some ⟨b,0,none⟩) 1 g] K w:=by
 have hx':=hx.fr h.fr (fun i hi=>⟨(hD0 i hi).1,fun e=>e.elim (hD0 i hi).2.1 (hD0 i hi).2.2⟩)
 refine b1p h.a (Nat.le_trans h.B h.fr.size) hh hx' h.oa hl (fun v' w' hg hb hv ho=>k v' w' ⟨h.fr.by hb (fun i e=>(h.la i e).imp .inl id),hg,?_,ho,h.ob.next hb.size,?_,?_,h.lb,h.B⟩ hb)
 ·exact h.b.keep (Fr.of_by' hb) (fun i hi=>⟨(h.oa i hi).1,(h.oa i hi).2⟩) (fun i hi e=>h.ap i e hi)
 ·intro i e1 e2
  rcases hv i e1 with h1 | h1
  ·exact h.ap i h1 e2
  ·have:=(h.b.own e2).1; omega
 ·intro i e1
  rcases hv i e1 with h1 | h1
  ·exact h.la i h1
  ·exact .inr (Nat.le_trans h.fr.size h1)
theorem Duo.addB {b g n c:Nat} {ad:Option Addr} {x:L2} {T:TypeId} (h:Duo B D W v0 u0 w v u l m) (hh:Holds w b 30 [.slice ad n c]) (hx:FP D W (fun w=>a0s w (.slice ad n c) x)) (hD0:∀ i,D i → i < W.heap.size ∧ v0.ownBlock ≠ some i ∧ u0.ownBlock ≠ some i) (hl:m.length < 1099511627776)
  (k:∀ u' w',Duo B D W v0 u0 w' v u' l (m ++ [x]) → w.grownBy w' u.ownBlock → K u' w') :
  oM Tryz.prog (.call { callee:=.builtin .append,args:=#[.tmp 0,.tmp 1],argTypes:=#[29,29] }) T [u,.slice (some ⟨b,0,none⟩) 1 g] K w:=by
 have hx':=hx.fr h.fr (fun i hi=>⟨(hD0 i hi).1,fun e=>e.elim (hD0 i hi).2.1 (hD0 i hi).2.2⟩)
 refine c5n h.b (Nat.le_trans h.B h.fr.size) hh hx' h.ob hl (fun u' w' hg hb hv ho=>k u' w' ⟨h.fr.by hb (fun i e=>(h.lb i e).imp .inr id),?_,hg,h.oa.next hb.size,ho,?_,h.la,?_,h.B⟩ hb)
 ·exact h.a.keep (Fr.of_by' hb) (fun i hi=>⟨(h.ob i hi).1,(h.ob i hi).2⟩) (fun i hi e=>h.ap i hi e)
 ·intro i e1 e2
  rcases hv i e2 with h1 | h1
  ·exact h.ap i e1 h1
  ·have:=(h.a.own e1).1; omega
 ·intro i e1
  rcases hv i e1 with h1 | h1
  ·exact h.lb i h1
  ·exact .inr (Nat.le_trans h.fr.size h1)
end
end
section
variable {K:VK} {w w' w0 W:World} {L:List (Addr × Value)}
theorem a6e (w:World):(sizeOf 24).run Tryz.prog w = .ok 1 w:=by kernel_rfl
theorem e4a (w:World):(sizeOf 4).run Tryz.prog w = .ok 1 w:=by kernel_rfl
theorem c5o {w1 w2:World} {b:Option Nat} (h:w.grownBy w1 b) (k:w1.grownBy w2 b):w.grownBy w2 b:=
 ⟨k.os.trans h.os,k.tape.trans h.tape,k.output.trans h.output,Nat.le_trans h.size k.size,fun i hi hn=>(k.block i (lL hi h.size) hn).trans (h.block i hi hn)⟩
end
end Go.Proofs
namespace Go.Sh
open Go Go.RowKit
section
variable {P:Program} {w w':World} {K:VK}
theorem a5q (h:w.grownBy w' none):Bw w w':=⟨h.os,h.tape,h.output,h.size,fun i hi=>h.block i hi (fun e=>by cases e)⟩
theorem d2v (t T e:TypeId) (i:TypeInfo) (z:Value) (size bytes:Nat) (ht:P.underlying t = some (.slice e)) (hi:P.info? e = some i) (hz:i.zero = some z)
  (hsize:i.size = size) (hby:i.bytes = bytes) (hzs:z.cells.size = size) (hsz:0 < size)
  {v:Value} {n:Nat} {xs:List Value} (hown:w.ownsRow 0 e size v n xs)
  {a:Addr} {m c:Nat} (news:List Value) (hl:news.length = m * size) (hnews:∀ j u,news[j]? = some u → w.cell? (a.add j) = some u) (h1:∀ u ∈ news,u.oneCell' = true)
  (h63:n + m ≤ maxLen) (hbytes:(n + m) * bytes ≤ 140737488355328)
  (k:∀ v' w',w'.ownsRow 0 e size v' (n + m) (xs ++ news) → w.grownBy w' v.ownBlock → (∀ i,v'.ownBlock = some i → v.ownBlock = some i ∨ w.heap.size ≤ i) →
   (Bw w w' ∨ ∃ g cap,v = .slice (some ⟨g,0,none⟩) n cap ∧ v' = .slice (some ⟨g,0,none⟩) (n + m) cap) → K v' w') :
  oM P (.call { callee:=.builtin .append,args:=#[.tmp 0,.tmp 1],argTypes:=#[t,t] }) T [v,.slice (some a) m c] K w:=by
 rw [b9g]
 rcases hown.2 with ⟨hv,hn⟩ | ⟨g,cap,cur,hv,hb,hg,hnc,hm,hcs,htk⟩
 ·have h':w.ownsRow w.heap.size e size v n xs:=⟨hown.1,.inl ⟨hv,hn⟩⟩
  obtain ⟨v',w',hr,ho,hgr,_⟩:=run_append_own (P:=P) (w:=w) w.heap.size t T e i z size bytes ht hi hz hsize hby hzs hsz v n xs h' a m c news hl hnews h1 h63 hbytes (rL)
  rw [hr]
  refine k v' w' (a2v ho (Nat.zero_le _)) hgr (fun j hj=>.inr (a0d ho hj).2.1) (.inl ?_)
  subst hv
  exact a5q hgr
 ·by_cases hroom:n + m ≤ cap
  ·subst hv
   obtain ⟨w',hr,ho,hgr⟩:=run_append_fits (P:=P) (w:=w) 0 t T e i size ht hi hsize g n cap xs hown a m c news hl hnews h1 hroom
   rw [hr]
   exact k _ w' ho hgr (fun j hj=>.inl hj) (.inr ⟨g,cap,rfl,rfl⟩)
  ·obtain ⟨v',w',hr,ho,hgr,_⟩:=run_append_own (P:=P) (w:=w) 0 t T e i z size bytes ht hi hz hsize hby hzs hsz v n xs hown a m c news hl hnews h1 h63 hbytes (Nat.zero_le _)
   subst hsize
   subst hv
   have holds:∀ j u,xs[j]? = some u → w.cell? ((⟨g,0,none⟩:Addr).add j) = some u:=hown.cells (g:=g) rfl
   have hr2:=run_append_grow (P:=P) (w:=w) t T e i z ht hi hz ⟨g,0,none⟩ n cap xs hown.1 holds a m c news hl hnews (by omega) (by simp only [maxLen] at h63; omega) (growslice_fits (by omega) (by rw [hby]; exact hbytes))
   rw [hr] at hr2
   rw [hr]
   cases hr2
   exact k _ _ ho hgr (fun j hj=>by cases hj; exact .inr (rL)) (.inl (((Below.refl _ w).drew).alloc (rL) _))
end
section
variable {α:Type} {n:Nat} {e:TypeId} {V:World → List Value → α → Prop} {B:Nat} {D:Nat → Prop} {w w':World} {v:Value} {l:List α}
theorem e1m {B:Nat} {e:TypeId} {sz:Nat} {g n m cap:Nat} {xs ys:List Value} (h:w.ownsRow B e sz (.slice (some ⟨g,0,none⟩) (n + m) cap) (n + m) (xs ++ ys)) (hx:xs.length = n * sz):w.ownsRow B e sz (.slice (some ⟨g,0,none⟩) n cap) n xs:=by
 rcases h.2 with ⟨h,_⟩ | ⟨g1,cap1,cur1,hv,hb,hg1,hc,hm,hs1,ht⟩
 ·cases h
 cases hv
 refine ⟨hx,.inr ⟨g,cap,cur1,rfl,hb,hg1,by omega,by omega,hs1,?_⟩⟩
 have h2:=congrArg (List.take (n * sz)) ht
 rw [List.take_take,List.take_left' hx,Nat.min_eq_left (Nat.mul_le_mul_right _ (by omega))] at h2
 exact h2
theorem b5w {P:Program} {K:VK} (t T:TypeId) (i:TypeInfo) (z:Value) (bytes:Nat) (ht:P.underlying t = some (.slice e)) (hi:P.info? e = some i) (hz:i.zero = some z)
  (hsize:i.size = n) (hby:i.bytes = bytes) (hzs:z.cells.size = n) (hn:0 < n) (hbb:bytes ≤ 64)
  (h:GRow n e V B D w v l) (hB:B ≤ w.heap.size) {b o c:Nat} {x:α} {xs:List Value} (hxl:xs.length = n) (hcell:∀ (j:Nat) (u:Value),xs[j]? = some u → w.cell? ⟨b,o + j,none⟩ = some u) (h1:∀ u ∈ xs,u.oneCell' = true)
  (hx:FP D w (fun w=>V w xs x)) (hD:∀ i,D i → i < w.heap.size ∧ v.ownBlock ≠ some i) (hl:l.length < 1099511627776)
  (k:∀ v' w',GRow n e V B D w' v' (l ++ [x]) → w.grownBy w' v.ownBlock → (∀ i,v'.ownBlock = some i → v.ownBlock = some i ∨ w.heap.size ≤ i) → (∀ i,D i → i < w'.heap.size ∧ v'.ownBlock ≠ some i) →
   GRow n e V B D w' v l → (∀ u,GRow n e V B D w u (l ++ [x]) → GRow n e V B D w' u (l ++ [x])) → K v' w') :
  oM P (.call { callee:=.builtin .append,args:=#[.tmp 0,.tmp 1],argTypes:=#[t,t] }) T [v,.slice (some ⟨b,o,none⟩) 1 c] K w:=by
 obtain ⟨cs,ho,hf⟩:=h.ex
 have hlx:(a9b Cl.cs cs).length = l.length * n:=ho.1
 refine d2v t T e i z n bytes ht hi hz hsize hby hzs hn (a2v ho (Nat.zero_le _)) xs (by omega) ?_ h1 (by simp only [maxLen]; omega) (by have:(l.length + 1) * bytes ≤ 1099511627776 * 64:=Nat.mul_le_mul (by omega) hbb; omega) ?_
 ·intro j u hj
  rw [a1w]
  exact hcell j u hj
 ·intro v' w' ho' hg hv hor
  have hf':=hf.by hg hD
  have hDw:∀ i,D i → i < w.heap.size:=fun i hi=>(hD i hi).1
  have hnew:GRow n e V B D w' v' (l ++ [x]):=by
   refine ⟨cs ++ [⟨xs,hxl⟩],?_,?_⟩
   ·have e2:a9b Cl.cs (cs ++ [(⟨xs,hxl⟩:Cl n)]) = a9b Cl.cs cs ++ xs:=by rw [a6x]; rfl
    have e1:(l ++ [x]).length = l.length + 1:=by simp
    rw [e1,e2]
    exact a2b ho' (fun i hi=>(hv i hi).elim (fun h=>(a0d ho h).2.1) (fun h=>Nat.le_trans hB h))
   ·have hx':=hx.by hg hD
    refine (hf'.both hx').imp ?_
    rintro w2 ⟨⟨hc1,hc2⟩,hx2⟩
    refine ⟨by simp [hc1],fun i c y hi hy=>?_⟩
    by_cases hlt:i < cs.length
    ·rw [List.getElem?_append_left hlt] at hi
     rw [List.getElem?_append_left (by omega)] at hy
     exact hc2 i c y hi hy
    ·rw [List.getElem?_append_right (by omega)] at hi
     rw [List.getElem?_append_right (by omega)] at hy
     have:i - cs.length = 0:=by
      have:=(gS hi).1
      simp at this
      omega
     rw [this] at hi
     rw [show i - l.length = 0 by omega] at hy
     simp at hi hy
     subst hi; subst hy
     exact hx2
  refine k v' w' hnew hg hv ?_ ?_ ?_
  ·intro i hi
   obtain ⟨h2,h3⟩:=hD i hi
   refine ⟨lL h2 hg.size,fun e=>?_⟩
   rcases hv i e with h4 | h4
   ·exact h3 h4
   ·omega
  ·rcases hor with hb | ⟨g,cap,e1,e2⟩
   ·exact h.next hb hDw
   ·subst e1; subst e2
    exact ⟨cs,a2b (e1m ho' hlx) (fun i hi=>(a0d ho hi).2.1),hf'⟩
  ·intro u hu
   rcases hor with hb | ⟨g,cap,e1,e2⟩
   ·exact hu.next hb hDw
   ·obtain ⟨cu,hou,hfu⟩:=hu.ex
    by_cases hug:u.ownBlock = v.ownBlock
    ·obtain ⟨gv,hgv⟩:∃ gv,v.ownBlock = some gv:=⟨g,by rw [e1]; rfl⟩
     have hug':u = v':=by
      rcases hou.2 with ⟨_,h0⟩ | ⟨g1,cap1,cur1,hu1,_,hg1,_,_,hs1,_⟩
      ·simp at h0
      rcases ho.2 with ⟨hv1,_⟩ | ⟨g2,cap2,cur2,hv2,_,hg2,_,_,hs2,_⟩
      ·rw [hv1] at hgv; cases hgv
      rw [hv2] at e1
      cases e1
      have e3:g1 = g:=by
       rw [hu1,hv2] at hug
       exact oI hug
      subst e3
      rw [hg1] at hg2
      cases hg2
      rw [hs1] at hs2
      rw [hu1,e2,Nat.eq_of_mul_eq_mul_right hn hs2]
      simp
     rw [hug']
     exact hnew
    ·exact hu.keep (Fr.of_by' hg) (fun i hi=>⟨hDw i hi,(hD i hi).2⟩) (fun i hi e=>hug (hi.trans e.symm))
end
end Go.Sh
namespace Go.Proofs
open Go Go.Sh Go.RowKit FdSpec TkSpec CodeSpec PrSpec
section
variable {K:VK} {w w' w0 W:World} {L:List (Addr × Value)}
theorem c5p {B g c n:Nat} {D:Nat → Prop} {v:Value} {l:L2} {x:List Int} {T:TypeId} (h:b0x B D w v l) (hB:B ≤ w.heap.size) {b:Nat} {ad:Option Addr} (hh:Holds w b 24 [.slice ad n c])
  (hx:FP D w (fun w=>Ints w (.slice ad n c) x)) (hD:Off D w v) (hl:l.length < 1099511627776)
  (k:∀ v' w',b0x B D w' v' (l ++ [x]) → w.grownBy w' v.ownBlock → (∀ i,v'.ownBlock = some i → v.ownBlock = some i ∨ w.heap.size ≤ i) → Off D w' v' → b0x B D w' v l → (∀ u,b0x B D w u (l ++ [x]) → b0x B D w' u (l ++ [x])) → K v' w') :
  oM Tryz.prog (.call { callee:=.builtin .append,args:=#[.tmp 0,.tmp 1],argTypes:=#[30,30] }) T [v,.slice (some ⟨b,0,none⟩) 1 g] K w:=by
 refine b5w 30 T ((Tryz.prog.info? 24).getD default) (.slice none 0 0) 24 (by kernel_rfl) (by kernel_rfl) (by kernel_rfl) (by kernel_rfl) (by kernel_rfl) (by kernel_rfl) (by decide) (by decide)
  h hB (xs:=[.slice ad n c]) rfl ?_ (b7f _ _ _) (hx.imp fun w h=>⟨_,rfl,h⟩) hD hl k
 intro j u hj
 rw [a0r hh]
 simpa using hj
theorem c3b {B g c n:Nat} {D:Nat → Prop} {v:Value} {l:L3} {x:L2} {T:TypeId} (h:d2a B D w v l) (hB:B ≤ w.heap.size) {b:Nat} {ad:Option Addr} (hh:Holds w b 30 [.slice ad n c])
  (hx:FP D w (fun w=>a0s w (.slice ad n c) x)) (hD:Off D w v) (hl:l.length < 1099511627776)
  (k:∀ v' w',d2a B D w' v' (l ++ [x]) → w.grownBy w' v.ownBlock → (∀ i,v'.ownBlock = some i → v.ownBlock = some i ∨ w.heap.size ≤ i) → Off D w' v' → d2a B D w' v l → (∀ u,d2a B D w u (l ++ [x]) → d2a B D w' u (l ++ [x])) → K v' w') :
  oM Tryz.prog (.call { callee:=.builtin .append,args:=#[.tmp 0,.tmp 1],argTypes:=#[29,29] }) T [v,.slice (some ⟨b,0,none⟩) 1 g] K w:=by
 refine b5w 29 T ((Tryz.prog.info? 30).getD default) (.slice none 0 0) 24 (by kernel_rfl) (by kernel_rfl) (by kernel_rfl) (by kernel_rfl) (by kernel_rfl) (by kernel_rfl) (by decide) (by decide)
  h hB (xs:=[.slice ad n c]) rfl ?_ (b7f _ _ _) (hx.imp fun w h=>⟨_,rfl,h⟩) hD hl k
 intro j u hj
 rw [a0r hh]
 simpa using hj
structure DuoI (B:Nat) (D:Nat → Prop) (W:World) (v0 u0 xv yv:Value) (l:L2) (m:L3) (x:List Int) (y:L2):Prop where
 a:b0x B D W v0 l
 b:d2a B D W u0 m
 oa:Off D W v0
 ob:Off D W u0
 ap:apart v0 u0
 B:B ≤ W.heap.size
 x:FP D W (fun w=>Ints w xv x)
 y:FP D W (fun w=>a0s w yv y)
 l:l.length < 1099511627776
 m:m.length < 1099511627776
def c5q (B:Nat) (D:Nat → Prop) (W:World) (v0 u0:Value) (l:L2) (m:L3) (w:World):Prop:=Fr (fun i=>v0.ownBlock = some i ∨ u0.ownBlock = some i) W w ∧ b0x B D w v0 l ∧ d2a B D w u0 m
def g3i (B:Nat) (D:Nat → Prop) (W:World) (v0:Value) (l:L2) (v:Value) (w:World):Prop:=b0x B D w v l ∧ Off D w v ∧ ∀ i,v.ownBlock = some i → v0.ownBlock = some i ∨ W.heap.size ≤ i
def g3j (B:Nat) (D:Nat → Prop) (W:World) (u0:Value) (m:L3) (u:Value) (w:World):Prop:=d2a B D w u m ∧ Off D w u ∧ ∀ i,u.ownBlock = some i → u0.ownBlock = some i ∨ W.heap.size ≤ i
def g4g (B:Nat) (D:Nat → Prop) (W:World) (v0 u0:Value) (l:L2) (m:L3) (w w1:World):Prop:=Fr (fun i=>v0.ownBlock = some i ∨ u0.ownBlock = some i) w w1 ∧ (∀ v,g3i B D W v0 l v w → g3i B D W v0 l v w1) ∧ (∀ u,g3j B D W u0 m u w → g3j B D W u0 m u w1)
def g3k (W:World) (T:TypeId) (x:Value) (v:Value) (w:World):Prop:=∃ g,v = .slice (some ⟨g,0,none⟩) 1 1 ∧ W.heap.size ≤ g ∧ Holds w g T [x]
theorem b7g {B:Nat} {D:Nat → Prop} {v0 u0:Value} {l l2:L2} {m m2:L3} (h:c5q B D W v0 u0 l m w) (hD:∀ i,D i → i < W.heap.size) (hb:Bw w w'):c5q B D W v0 u0 l m w' ∧ g4g B D W v0 u0 l2 m2 w w':=by
 have hDw:∀ i,D i → i < w.heap.size:=fun i hi=>lL (hD i hi) h.1.size
 exact ⟨⟨h.1.trans (S':=fun _=>False) (Fr.of_below hb) (fun _ h=>h.elim),h.2.1.next hb hDw,h.2.2.next hb hDw⟩,Fr.of_below hb,
  fun v hv=>⟨hv.1.next hb hDw,hv.2.1.next hb.size,hv.2.2⟩,fun v hv=>⟨hv.1.next hb hDw,hv.2.1.next hb.size,hv.2.2⟩⟩
theorem d4x {e e':TypeId} (hne:e ≠ e') {B B' n n' m m':Nat} {v u:Value} {xs ys:List Value} (h:w.ownsRow B e n v m xs) (k:w.ownsRow B' e' n' u m' ys):apart v u:=by
 intro i h1 h2
 obtain ⟨_,_,c1,e1⟩:=a0d h h1
 obtain ⟨_,_,c2,e2⟩:=a0d k h2
 rw [e1] at e2
 injection e2 with e2
 injection e2 with _ e3
 exact hne e3
theorem d0a {Tail:Value → Value → VK} {B b6 i1:Nat} {D:Nat → Prop} {v0 u0:Value} {adx ady:Option Addr} {nx cx ny cy:Nat} {l:L2} {m:L3} {x':List Int} {y:L2} {T6 T1 T2 T3 T4 T5:TypeId}
  (h:DuoI B D W v0 u0 (.slice adx nx cx) (.slice ady ny cy) l m x' y)
  (hfa:∀ (K':VK) (w:World),K' (.pointer (some ⟨b6,i1,none⟩)) w → oM Tryz.prog (.fieldAddr T6 (.tmp 0) i1) T5 [.pointer (some ⟨b6,0,none⟩)] K' w)
  (k:∀ w v u,Fr (fun i=>v0.ownBlock = some i ∨ u0.ownBlock = some i) W w → g3i B D W v0 (l ++ [x']) v w → g3j B D W u0 (m ++ [y]) u w → apart v u → Tail v u (.pointer (some ⟨b6,i1,none⟩)) w) :
  ∃ S:World → WK,∃ R1:VK,(∀ v w w1,S w w1 → R1 v w → R1 v w1) ∧
   (∀ w,c5q B D W v0 u0 l m w → oM Tryz.prog (.buildSlice 30 1 #[(0,.tmp 0)]) T1 [.slice adx nx cx] (fun v w1=>c5q B D W v0 u0 l m w1 ∧ S w w1 ∧ R1 v w1) w) ∧
   (∃ R2:VK,(∀ v w w1,S w w1 → R2 v w → R2 v w1) ∧
   (∀ w,c5q B D W v0 u0 l m w → ∀ v1,R1 v1 w → oM Tryz.prog (.call { callee:=.builtin .append,args:=#[.tmp 0,.tmp 1],argTypes:=#[30,30] }) T2 [v0,v1] (fun v w1=>c5q B D W v0 u0 l m w1 ∧ S w w1 ∧ R2 v w1) w) ∧
   (∃ R3:VK,(∀ v w w1,S w w1 → R3 v w → R3 v w1) ∧
   (∀ w,c5q B D W v0 u0 l m w → oM Tryz.prog (.buildSlice 29 1 #[(0,.tmp 0)]) T3 [.slice ady ny cy] (fun v w1=>c5q B D W v0 u0 l m w1 ∧ S w w1 ∧ R3 v w1) w) ∧
   (∃ R4:VK,(∀ v w w1,S w w1 → R4 v w → R4 v w1) ∧
   (∀ w,c5q B D W v0 u0 l m w → ∀ v1,R3 v1 w → oM Tryz.prog (.call { callee:=.builtin .append,args:=#[.tmp 0,.tmp 1],argTypes:=#[29,29] }) T4 [u0,v1] (fun v w1=>c5q B D W v0 u0 l m w1 ∧ S w w1 ∧ R4 v w1) w) ∧
   (∃ R5:VK,(∀ v w w1,S w w1 → R5 v w → R5 v w1) ∧
   (∀ w,c5q B D W v0 u0 l m w → oM Tryz.prog (.fieldAddr T6 (.tmp 0) i1) T5 [.pointer (some ⟨b6,0,none⟩)] (fun v w1=>c5q B D W v0 u0 l m w1 ∧ S w w1 ∧ R5 v w1) w) ∧
   (∀ w,c5q B D W v0 u0 l m w → ∀ v1,R1 v1 w → ∀ v2,R2 v2 w → ∀ v3,R3 v3 w → ∀ v4,R4 v4 w → ∀ v5,R5 v5 w → Tail v2 v4 v5 w))))):=by
 have hD:∀ i,D i → i < W.heap.size:=fun i hi=>(h.oa i hi).1
 have hDo:∀ i,D i → i < W.heap.size ∧ ¬ (v0.ownBlock = some i ∨ u0.ownBlock = some i):=fun i hi=>⟨hD i hi,fun e=>e.elim (h.oa i hi).2 (h.ob i hi).2⟩
 have hv0:∀ i,v0.ownBlock = some i → i < W.heap.size:=fun i hi=>(h.a.own hi).1
 have hu0:∀ i,u0.ownBlock = some i → i < W.heap.size:=fun i hi=>(h.b.own hi).1
 have hlit:∀ (T:TypeId) (x v:Value) (w w1:World),g4g B D W v0 u0 (l ++ [x']) (m ++ [y]) w w1 → g3k W T x v w → g3k W T x v w1:=by
  rintro T x v w w1 hS ⟨g,rfl,hg,hh⟩
  refine ⟨g,rfl,hg,(hS.1.block g hh.lt (fun e=>?_)).trans hh⟩
  rcases e with e | e
  ·have:=hv0 g e; omega
  ·have:=hu0 g e; omega
 refine ⟨g4g B D W v0 u0 (l ++ [x']) (m ++ [y]),g3k W 24 (.slice adx nx cx),fun v w w1=>hlit _ _ v w w1,?_,g3i B D W v0 (l ++ [x']),fun v w w1 hS hv=>hS.2.1 v hv,?_,
  g3k W 30 (.slice ady ny cy),fun v w w1=>hlit _ _ v w w1,?_,g3j B D W u0 (m ++ [y]),fun v w w1 hS hv=>hS.2.2 v hv,?_,fun v _=>v = .pointer (some ⟨b6,i1,none⟩),fun _ _ _ _ h=>h,?_,?_⟩
 ·intro w hC
  refine a8n _ _ _ (fun g w1 hb hg hh=>?_)
  have h2:=b7g hC hD hb (l2:=l ++ [x']) (m2:=m ++ [y])
  exact ⟨h2.1,h2.2,g,rfl,Nat.le_trans hC.1.size hg,hh⟩
 ·rintro w hC _ ⟨g,rfl,hg,hh⟩
  have hws:=hC.1.size
  refine c5p hC.2.1 (Nat.le_trans h.B hws) hh (h.x.fr hC.1 hDo) (fun i hi=>⟨lL (hD i hi) hws,(h.oa i hi).2⟩) h.l (fun v' w' hg' hb hv ho hold hst=>?_)
  have hDv:∀ i,D i → i < w.heap.size ∧ ¬ v0.ownBlock = some i:=fun i hi=>⟨lL (hD i hi) hws,(h.oa i hi).2⟩
  refine ⟨⟨hC.1.by hb (fun i e=>.inl (.inl e)),hold,hC.2.2.keep (Fr.of_by' hb) hDv (fun i hi e=>h.ap i e hi)⟩,⟨(Fr.of_by' hb).mono (fun i _ e=>.inl e),fun v hv=>⟨hst v hv.1,hv.2.1.next hb.size,hv.2.2⟩,fun u hu=>⟨hu.1.keep (Fr.of_by' hb) hDv (fun i hi e=>?_),hu.2.1.next hb.size,hu.2.2⟩⟩,
   hg',ho,fun i hi=>(hv i hi).imp id (fun e=>Nat.le_trans hws e)⟩
  rcases hu.2.2 i hi with e2 | e2
  ·exact h.ap i e e2
  ·have:=hv0 i e; omega
 ·intro w hC
  refine b2y _ _ _ (fun g w1 hb hg hh=>?_)
  have h2:=b7g hC hD hb (l2:=l ++ [x']) (m2:=m ++ [y])
  exact ⟨h2.1,h2.2,g,rfl,Nat.le_trans hC.1.size hg,hh⟩
 ·rintro w hC _ ⟨g,rfl,hg,hh⟩
  have hws:=hC.1.size
  refine c3b hC.2.2 (Nat.le_trans h.B hws) hh (h.y.fr hC.1 hDo) (fun i hi=>⟨lL (hD i hi) hws,(h.ob i hi).2⟩) h.m (fun v' w' hg' hb hv ho hold hst=>?_)
  have hDv:∀ i,D i → i < w.heap.size ∧ ¬ u0.ownBlock = some i:=fun i hi=>⟨lL (hD i hi) hws,(h.ob i hi).2⟩
  refine ⟨⟨hC.1.by hb (fun i e=>.inl (.inr e)),hC.2.1.keep (Fr.of_by' hb) hDv (fun i hi e=>h.ap i hi e),hold⟩,⟨(Fr.of_by' hb).mono (fun i _ e=>.inr e),fun v hv=>⟨hv.1.keep (Fr.of_by' hb) hDv (fun i hi e=>?_),hv.2.1.next hb.size,hv.2.2⟩,fun u hu=>⟨hst u hu.1,hu.2.1.next hb.size,hu.2.2⟩⟩,
   hg',ho,fun i hi=>(hv i hi).imp id (fun e=>Nat.le_trans hws e)⟩
  rcases hv.2.2 i hi with e2 | e2
  ·exact h.ap i e2 e
  ·have:=hu0 i e; omega
 ·intro w hC
  refine hfa _ _ ?_
  have h2:=b7g hC hD (bR) (l2:=l ++ [x']) (m2:=m ++ [y])
  exact ⟨h2.1,h2.2,rfl⟩
 ·rintro w hC _ _ v hv _ _ u hu _ rfl
  refine k w v u hC.1 hv hu ?_
  obtain ⟨_,o1,_⟩:=hv.1.ex
  obtain ⟨_,o2,_⟩:=hu.1.ex
  exact d4x (by decide) o1 o2
end
end Go.Proofs
namespace PrSpec
open FdSpec TkSpec CodeSpec FdPoly GrLaw
end PrSpec
namespace Go.Proofs
open Go Go.Sh Go.RowKit FdSpec TkSpec CodeSpec PrSpec
section
variable {K:VK} {w w' w0 W:World} {L:List (Addr × Value)}
theorem c5r (w:World):(Instr.alloc 34 true (.tuple #[])).run Tryz.prog w = .ok (.pointer (some ⟨w.heap.size,0,none⟩)) (w.alloc (.cells [.slice none 0 0,.slice none 0 0].toArray 34)):=by kernel_rfl
theorem c0g (w:World):(sizeOf 34).run Tryz.prog w = .ok 2 w:=by kernel_rfl
theorem a5f (ad ad2:Option Addr) (n c n2 c2:Nat):∀ u ∈ a5n (.slice ad n c) (.slice ad2 n2 c2),u.oneCell' = true:=by
 intro u hu
 simp only [a5n,List.mem_cons,List.not_mem_nil,or_false] at hu
 rcases hu with rfl | rfl <;> rfl
theorem a7m {B:Nat} {v:Value} {l:List Int} (h:OwnI w B v l) {i:Nat} (hi:Value.inBlock v = some i):v.ownBlock = some i:=by
 rcases h.2 with ⟨rfl,_⟩ | ⟨g,cap,cur,rfl,_⟩
 ·cases hi
 ·exact hi
end
end Go.Proofs
namespace Go.Proofs
open Go Go.Sh Tryz
variable {a0 a1:Value} {K:VK} {w:World}
def f9h (a0 a1:Value) (K:VK) (w:World):Prop:=
 kN 24 a0 (fun v7=>
 kN 24 a1 fun v9=>
 kB .neq 3 4 v7 v9 fun v10=>
 kO v10 (K (.bool false))
 (kQ [(.bool false),(.int .i64 0)] fun J_4 m_5 l_6 u_l_6 w0_l_6=>(fun w=>(
 kN 24 a0 (fun v13=>
 kB .lss 3 4 (l_6.getD 1 undef) v13 fun v14 w=>
 a0v v14
 (a4o w fun C_9=>(oQ prog (.indexAddr 24 (.tmp 0) (.tmp 1)) 0 [a0,(l_6.getD 1 undef)] C_9 fun v19=>
 oQ prog (.load 3 (.tmp 0)) 3 [v19] C_9 fun v20=>
 oQ prog (.indexAddr 24 (.tmp 0) (.tmp 1)) 0 [a1,(l_6.getD 1 undef)] C_9 fun v23=>
 oQ prog (.load 3 (.tmp 0)) 3 [v23] C_9 fun v24=>
 oQ prog (.binOp .neq 3 (.tmp 0) (.tmp 1) 3) 4 [v20,v24] C_9 fun v25=>
 ∀ w,C_9 w → (kO v25 (K (.bool false))
 (kB .add 3 3 (l_6.getD 1 undef) (.int .i64 1) fun v16=>
 kJ J_4 m_5 l_6 w0_l_6 [(l_6.getD 0 undef),v16]) w)))
 (K (.bool true) w)) w)) w0_l_6)) w
theorem e4l (h:f9h a0 a1 K w):a0a prog 62 #[a0,a1] K w:=
 cZ (fun _=>0) func62 h
def f0g (a0 a1:Value) (K:VK) (w:World):Prop:=
 kN 30 a0 (fun v7=>
 kN 30 a1 fun v9=>
 kB .neq 3 4 v7 v9 fun v10=>
 kO v10 (K (.bool false))
 (kQ [(.bool false),(.int .i64 0)] fun J_4 m_5 l_6 u_l_6 w0_l_6=>(fun w=>(
 kN 30 a0 (fun v13=>
 kB .lss 3 4 (l_6.getD 1 undef) v13 fun v14 w=>
 a0v v14
 (a4o w fun C_9=>(oQ prog (.indexAddr 30 (.tmp 0) (.tmp 1)) 0 [a0,(l_6.getD 1 undef)] C_9 fun v19=>
 oQ prog (.load 24 (.tmp 0)) 24 [v19] C_9 fun v20=>
 oQ prog (.indexAddr 30 (.tmp 0) (.tmp 1)) 0 [a1,(l_6.getD 1 undef)] C_9 fun v23=>
 oQ prog (.load 24 (.tmp 0)) 24 [v23] C_9 fun v24=>
 a3h prog 62 #[v20,v24] C_9 fun v25=>
 oQ prog (.unOp .not 4 (.tmp 0)) 4 [v25] C_9 fun v26=>
 ∀ w,C_9 w → (kO v26 (K (.bool false))
 (kB .add 3 3 (l_6.getD 1 undef) (.int .i64 1) fun v16=>
 kJ J_4 m_5 l_6 w0_l_6 [(l_6.getD 0 undef),v16]) w)))
 (K (.bool true) w)) w)) w0_l_6)) w
theorem d5t (h:f0g a0 a1 K w):a0a prog 105 #[a0,a1] K w:=
 cZ (fun _=>0) func105 h
def f0h (a0 a1:Value) (K:VK) (w:World):Prop:=
 kN 29 a0 (fun v7=>
 kN 29 a1 fun v9=>
 kB .neq 3 4 v7 v9 fun v10=>
 kO v10 (K (.bool false))
 (kQ [(.bool false),(.int .i64 0)] fun J_4 m_5 l_6 u_l_6 w0_l_6=>(fun w=>(
 kN 29 a0 (fun v13=>
 kB .lss 3 4 (l_6.getD 1 undef) v13 fun v14 w=>
 a0v v14
 (a4o w fun C_9=>(oQ prog (.indexAddr 29 (.tmp 0) (.tmp 1)) 0 [a0,(l_6.getD 1 undef)] C_9 fun v19=>
 oQ prog (.load 30 (.tmp 0)) 30 [v19] C_9 fun v20=>
 oQ prog (.indexAddr 29 (.tmp 0) (.tmp 1)) 0 [a1,(l_6.getD 1 undef)] C_9 fun v23=>
 oQ prog (.load 30 (.tmp 0)) 30 [v23] C_9 fun v24=>
 a3h prog 105 #[v20,v24] C_9 fun v25=>
 oQ prog (.unOp .not 4 (.tmp 0)) 4 [v25] C_9 fun v26=>
 ∀ w,C_9 w → (kO v26 (K (.bool false))
 (kB .add 3 3 (l_6.getD 1 undef) (.int .i64 1) fun v16=>
 kJ J_4 m_5 l_6 w0_l_6 [(l_6.getD 0 undef),v16]) w)))
 (K (.bool true) w)) w)) w0_l_6)) w
theorem d5u (h:f0h a0 a1 K w):a0a prog 106 #[a0,a1] K w:=
 cZ (fun _=>0) func106 h
def f9i (a0 a1:Value) (K:VK) (w:World):Prop:=
 oM prog (.box 34 (.tmp 0)) 0 [a0] (fun v2=>
 oM prog (.box 34 (.tmp 0)) 0 [a1] fun v3=>
 kF 34 0 v2 fun v5=>
 kL 30 v5 fun v6=>
 kF 34 0 v3 fun v7=>
 kL 30 v7 fun v8=>
 a0a prog 105 #[v6,v8] fun v9 w=>
 gT v9 (kF 34 1 v2) (fun v11 w=>
 gT v9 (kL 29 v11) (fun v12 w=>
 gT v9 (kF 34 1 v3) (fun v13 w=>
 gT v9 (kL 29 v13) (fun v14 w=>
 gT v9 (a0a prog 106 #[v12,v14]) (fun v15=>
 kP v9 v15 (.bool false) fun v16=>
 K v16) w) w) w) w) w) w
theorem e4m (h:f9i a0 a1 K w):a0a prog 20 #[a0,a1] K w:=
 cZ (fun _=>0) func20 h
def f9j (K:VK) (w:World):Prop:=
 kA 26 (fun v0=>
 oM prog (.build 23 #[(0,(.tmp 0)),(1,(.tmp 1)),(2,(.tmp 2))]) 23 [(.int .i64 23),(.int .i64 11),(.int .i64 4)] fun v1=>
 oM prog (.buildSlice 24 2 #[(0,(.tmp 0)),(1,(.tmp 1))]) 24 [(.int .i64 16),(.int .i64 18)] fun v2=>
 oM prog (.build 26 #[(0,(.tmp 0)),(1,(.tmp 1)),(2,(.tmp 2))]) 26 [v1,v2,(.int .i64 12)] fun v3=>
 kS 26 v0 v3 fun _=>
 kR 26 v0 K) w
theorem e4n (h:f9j K w):a0a prog 86 #[] K w:=
 cZ (fun _=>0) func86 h
def f9k (a0:Value) (K:VK) (w:World):Prop:=
 oM prog (.box 26 (.tmp 0)) 0 [a0] (fun v1=>
 kF 26 1 v1 fun v3=>
 kL 24 v3 fun v4=>
 kN 24 v4 fun v5=>
 kB .leq 3 4 v5 (.int .i64 9) fun v6=>
 K v6) w
theorem e4o (h:f9k a0 K w):a0a prog 39 #[a0] K w:=
 cZ (fun _=>0) func39 h
def f9l (a0 a1:Value) (K:VK) (w:World):Prop:=
 oM prog (.box 26 (.tmp 0)) 0 [a0] (fun v2=>
 kB .geq 3 4 a1 (.int .i64 0) fun v6 w=>
 gT v6 (a0j a1) (fun v8 w=>
 gT v6 (kF 26 0 v2) (fun v9 w=>
 gT v6 (kF 23 1 v9) (fun v10 w=>
 gT v6 (kL 3 v10) (fun v11 w=>
 gT v6 (kB .lss 3 4 v8 v11) (fun v12=>
 kP v6 v12 (.bool false) fun v13=>
 K v13) w) w) w) w) w) w
theorem e4p (h:f9l a0 a1 K w):a0a prog 85 #[a0,a1] K w:=
 cZ (fun _=>0) func85 h
end Go.Proofs
namespace Go.Proofs
open Go Go.Sh Go.RowKit FdSpec TkSpec CodeSpec PrSpec
section
variable {K:VK} {w w' w0 W:World} {L:List (Addr × Value)}
def SmJ {α:Type} (a b:List α) (w0:World) (vs:List Value) (w':World):Prop:=Bw w0 w' ∧ ∃ (u:Value) (i:Nat),vs = [u,.int .i64 (i:Int)] ∧ i ≤ a.length ∧ a.take i = b.take i
theorem b1q {v u:Value} {a b:List Int} (ha:Ints w v a) (hb:Ints w u b) (k:∀ w',Bw w w' → K (.bool (decide (a = b))) w'):a0a Tryz.prog 62 #[v,u] K w:=by
 apply e4l
 unfold f9h
 obtain ⟨ad1,c1,rfl⟩:=ha.isSlice
 obtain ⟨ad2,c2,rfl⟩:=hb.isSlice
 have l1:=ha.len
 have l2:=hb.len
 by_cases hl:¬ a.length = b.length
 ·have hl':¬ (a.length:Int) = b.length:=by omega
  have k:=k _ (bR)
  rw [decide_eq_false (by rintro rfl; exact hl rfl)] at k
  refine Xa @hl' ?_
  exact k
 have hl:a.length = b.length:=by omega
 have hl':(a.length:Int) = b.length:=by omega
 refine Xa @hl' ?_
 refine ⟨SmJ a b w,fun vs _=>match vs with | [_,.int _ i]=>a.length - i.toNat | _=>0,⟨bR,_,0,rfl,by omega,rfl⟩,?_⟩
 rintro _ _ w1 ⟨h1,u1,i,rfl,hi,he⟩
 by_cases hin:i = a.length
 ·have e:a = b:=by
   rw [List.take_of_length_le (by omega),List.take_of_length_le (by omega)] at he
   exact he
  have k:=k _ h1
  rw [decide_eq_true e] at k
  refine Xa @hl' ?_
  exact k
 obtain ⟨b1,o1,rfl,hb1,ca,ra,_⟩:=ha.at (i:=i) (by omega)
 obtain ⟨b2,o2,rfl,hb2,cb,rb,_⟩:=hb.at (i:=i) (by omega)
 have hib:(i:Int) < b.length:=by omega
 refine Xa @hl' ?_
 refine ⟨Below w.heap.size w,h1.trans .drawn,?_⟩
 by_cases hx:a[i] = b[i]
 ·refine Xf (fun W0 hW0=>An2 (ca _ hW0) (cb _ hW0)) (An2 @hl' @hx) ?_
  intro w2 h2
  refine Xa @hx ?_
  refine ⟨⟨h2,_,i + 1,rfl,by omega,?_⟩,by show a.length - (((i + 1:Nat):Int)).toNat < a.length - ((i:Nat):Int).toNat; omega⟩
  rw [List.take_succ_eq_append_getElem (by omega),List.take_succ_eq_append_getElem (by omega),he,hx]
 ·refine Xf (fun W0 hW0=>An2 (ca _ hW0) (cb _ hW0)) (An2 @hl' @hx) ?_
  intro w2 h2
  have k:=k _ h2
  rw [decide_eq_false (by rintro rfl; exact hx rfl)] at k
  refine Xa @hx ?_
  exact k
theorem a9r {v u:Value} {a b:L2} (ha:a0s w v a) (hb:a0s w u b) (k:∀ w',Bw w w' → K (.bool (decide (a = b))) w'):a0a Tryz.prog 105 #[v,u] K w:=by
 apply d5t
 unfold f0g
 obtain ⟨ad1,c1,rfl⟩:=ha.isSlice
 obtain ⟨ad2,c2,rfl⟩:=hb.isSlice
 have l1:=ha.len
 have l2:=hb.len
 by_cases hl:¬ a.length = b.length
 ·have hl':¬ (a.length:Int) = b.length:=by omega
  have k:=k _ (bR)
  rw [decide_eq_false (by rintro rfl; exact hl rfl)] at k
  refine Xa @hl' ?_
  exact k
 have hl:a.length = b.length:=by omega
 have hl':(a.length:Int) = b.length:=by omega
 refine Xa @hl' ?_
 refine ⟨SmJ a b w,fun vs _=>match vs with | [_,.int _ i]=>a.length - i.toNat | _=>0,⟨bR,_,0,rfl,by omega,rfl⟩,?_⟩
 rintro _ _ w1 ⟨h1,u1,i,rfl,hi,he⟩
 by_cases hin:i = a.length
 ·have e:a = b:=by
   rw [List.take_of_length_le (by omega),List.take_of_length_le (by omega)] at he
   exact he
  have k:=k _ h1
  rw [decide_eq_true e] at k
  refine Xa @hl' ?_
  exact k
 obtain ⟨b1,o1,v1,rfl,hb1,ca,ia⟩:=ha.one (i:=i) (by omega)
 obtain ⟨b2,o2,v2,rfl,hb2,cb,ib⟩:=hb.one (i:=i) (by omega)
 have hib:(i:Int) < b.length:=by omega
 refine Xa @hl' ?_
 refine ⟨Below w.heap.size w,h1.trans .drawn,?_⟩
 refine Xf (fun W0 hW0=>An2 ((hW0.cell hb1).trans ca) ((hW0.cell hb2).trans cb)) @hl' ?_
 refine a1j (fun W hW=>b1q (ia.next hW) (ib.next hW) (fun w' hb=>⟨rfl,hW.on hb⟩)) ?_
 by_cases hx:a[i] = b[i]
 ·rw [decide_eq_true hx]
  refine Xg (An2 @hl' @hx) ?_
  intro w2 h2
  refine Xa @hx ?_
  refine ⟨⟨h2,_,i + 1,rfl,by omega,?_⟩,by show a.length - (((i + 1:Nat):Int)).toNat < a.length - ((i:Nat):Int).toNat; omega⟩
  rw [List.take_succ_eq_append_getElem (by omega),List.take_succ_eq_append_getElem (by omega),he,hx]
 ·rw [decide_eq_false hx]
  refine Xg (An2 @hl' @hx) ?_
  intro w2 h2
  have k:=k _ h2
  rw [decide_eq_false (by rintro rfl; exact hx rfl)] at k
  refine Xa @hx ?_
  exact k
theorem b7h {v u:Value} {a b:L3} (ha:a2j w v a) (hb:a2j w u b) (k:∀ w',Bw w w' → K (.bool (decide (a = b))) w'):a0a Tryz.prog 106 #[v,u] K w:=by
 apply d5u
 unfold f0h
 obtain ⟨ad1,c1,rfl⟩:=ha.isSlice
 obtain ⟨ad2,c2,rfl⟩:=hb.isSlice
 have l1:=ha.len
 have l2:=hb.len
 by_cases hl:¬ a.length = b.length
 ·have hl':¬ (a.length:Int) = b.length:=by omega
  have k:=k _ (bR)
  rw [decide_eq_false (by rintro rfl; exact hl rfl)] at k
  refine Xa @hl' ?_
  exact k
 have hl:a.length = b.length:=by omega
 have hl':(a.length:Int) = b.length:=by omega
 refine Xa @hl' ?_
 refine ⟨SmJ a b w,fun vs _=>match vs with | [_,.int _ i]=>a.length - i.toNat | _=>0,⟨bR,_,0,rfl,by omega,rfl⟩,?_⟩
 rintro _ _ w1 ⟨h1,u1,i,rfl,hi,he⟩
 by_cases hin:i = a.length
 ·have e:a = b:=by
   rw [List.take_of_length_le (by omega),List.take_of_length_le (by omega)] at he
   exact he
  have k:=k _ h1
  rw [decide_eq_true e] at k
  refine Xa @hl' ?_
  exact k
 obtain ⟨b1,o1,v1,rfl,hb1,ca,ia⟩:=ha.one (i:=i) (by omega)
 obtain ⟨b2,o2,v2,rfl,hb2,cb,ib⟩:=hb.one (i:=i) (by omega)
 have hib:(i:Int) < b.length:=by omega
 refine Xa @hl' ?_
 refine ⟨Below w.heap.size w,h1.trans .drawn,?_⟩
 refine Xf (fun W0 hW0=>An2 ((hW0.cell hb1).trans ca) ((hW0.cell hb2).trans cb)) @hl' ?_
 refine a1j (fun W hW=>a9r (ia.next (a0b a0k) hW) (ib.next (a0b a0k) hW) (fun w' hb=>⟨rfl,hW.on hb⟩)) ?_
 by_cases hx:a[i] = b[i]
 ·rw [decide_eq_true hx]
  refine Xg (An2 @hl' @hx) ?_
  intro w2 h2
  refine Xa @hx ?_
  refine ⟨⟨h2,_,i + 1,rfl,by omega,?_⟩,by show a.length - (((i + 1:Nat):Int)).toNat < a.length - ((i:Nat):Int).toNat; omega⟩
  rw [List.take_succ_eq_append_getElem (by omega),List.take_succ_eq_append_getElem (by omega),he,hx]
 ·rw [decide_eq_false hx]
  refine Xg (An2 @hl' @hx) ?_
  intro w2 h2
  have k:=k _ h2
  rw [decide_eq_false (by rintro rfl; exact hx rfl)] at k
  refine Xa @hx ?_
  exact k
theorem c5s {dv av dv2 av2:Value} {d d2:L2} {a a2:L3} (hd:a0s w dv d) (ha:a2j w av a) (hd2:a0s w dv2 d2) (ha2:a2j w av2 a2) (k:∀ w',Bw w w' → K (.bool (decide (d = d2) && decide (a = a2))) w'):a0a Tryz.prog 20 #[b5m dv av,b5m dv2 av2] K w:=by
 apply e4m
 unfold f9i
 have hd':=hd
 have ha':=ha
 have hd2':=hd2
 have ha2':=ha2
 obtain ⟨ad1,c1,rfl⟩:=hd.isSlice
 obtain ⟨ad2,c2,rfl⟩:=ha.isSlice
 obtain ⟨ad3,c3,rfl⟩:=hd2.isSlice
 obtain ⟨ad4,c4,rfl⟩:=ha2.isSlice
 refine a0l (cs:=a5n (.slice ad1 d.length c1) (.slice ad2 a.length c2)) rfl (.start w) fun b1 W hk hb1 hbb=>?_
 refine a0l (cs:=a5n (.slice ad3 d2.length c3) (.slice ad4 a2.length c4)) rfl hk fun b2 W2 hk hb2 hbb=>?_
 clear hb1 hb2 hbb
 refine Xa hk.cells ?_
 refine a9r (hd'.next (a0b a0k) hk.below) (hd2'.next (a0b a0k) hk.below) (fun w3 h3=>?_)
 have hk:=hk.next h3
 by_cases hx:d = d2
 ·rw [decide_eq_true hx]
  rw [decide_eq_true hx,bT] at k
  refine Xa hk.cells ?_
  refine b7h (ha'.next (a0b a0f) hk.below) (ha2'.next (a0b a0f) hk.below) (fun w4 h4=>?_)
  have hk:=hk.next h4
  have k:=k _ hk.below
  generalize decide (a = a2) = q at *
  refine Xa0 ?_
  exact k
 ·rw [decide_eq_false hx]
  rw [decide_eq_false hx,bF] at k
  refine Xa hk.cells ?_
  exact k _ hk.below
theorem g8e {v:Value} (hi:Ints w v [16,18]) (hT:DbT w):SetR w ex v:=⟨⟨by constructor <;> decide,by constructor <;> decide,by constructor <;> decide⟩,hi,by constructor <;> decide,hT⟩
theorem g8f {T:TypeId} (x y:Int) (hx:I64 x) (hy:I64 y) (k:∀ v W,Bw w W → Ints W v [x,y] → Value.inBlock v = some w.heap.size → K v W):oM Tryz.prog (.buildSlice 24 2 #[(0,.tmp 0),(1,.tmp 1)]) T [.int .i64 x,.int .i64 y] K w:=by
 rw [a3e]
 have e:(Instr.buildSlice 24 2 #[(0,.int .i64 x),(1,.int .i64 y)]).run Tryz.prog w = .ok (.slice (some ⟨w.heap.size,0,none⟩) 2 2) (w.alloc (.cells #[.int .i64 x,.int .i64 y] 3)):=by kernel_rfl
 rw [e]
 exact k _ _ ((Below.refl _ w).alloc (rL) _) (a8g w [x,y] _ 2 (by simp; exact ⟨hx,hy⟩) (by simp)) rfl
theorem d2b (hT:DbT w) (k:∀ w' v,Bw w w' → SetR w' ex v → K (a6b ex v) w'):a0a Tryz.prog 86 #[] K w:=by
 apply e4n
 unfold f9j
 refine a6l (n:=5) f3i rfl (.start w) fun g0 W3 hk hb3 hg0=>?_
 repeat (any_goals (first
 | ((with_reducible refine g8f 16 18 a1n a1n ?_); intro v9 W9 hb9 hi9 hv9)
 | ((with_reducible refine oG fun X Y=>?_); simp [go_sem]; apply Y; clear Y X)))
 have hlt:=a5l hk.mine
 have hk:=hk.next hb9
 obtain ⟨ad,c,rfl⟩:=hi9.isSlice
 refine Xa0 ?_
 refine d9m ex ad 2 c hk (fun W3 hk hc hg3=>⟨_,by simp [go_sem,hc],k W3 _ hk.below (g8e (a6h hi9 hg3 (fun i e1 e2=>?_)) (hT.next hk.below))⟩)
 rw [hv9] at e1
 cases e1
 have:=oI e2
 omega
theorem e9k (w:World):(sizeOf 65).run Tryz.prog w = .ok 2 w:=by kernel_rfl
theorem e9l (w:World):(Instr.alloc 65 true (.tuple #[])).run Tryz.prog w = .ok (.pointer (some ⟨w.heap.size,0,none⟩)) (w.alloc (.cells [.int .i64 0,.slice none 0 0].toArray 65)):=by kernel_rfl
theorem b2z {T' T2:TypeId} (a:Int) (ad:Option Addr) (n c:Nat) (hk:Kn w0 L w)
  (k:∀ b W,Kn w0 (cellsOf L b 0 [.int .i64 a,.slice ad n c]) W → Bw w W → w.heap.size ≤ b → K (.pointer (some ⟨b,0,none⟩)) W) :
  oM Tryz.prog (.alloc 65) T' [] (fun v w=>oM Tryz.prog (.store 65 (.tmp 0) (.tmp 1)) T2 [v,.agg #[.int .i64 a,.slice ad n c]] (fun _ w=>K v w) w) w:=
 a5r e9l rfl e9k rfl rfl (c3a a ad n c) hk k
theorem b3a {T' T2:TypeId} (ad ad2:Option Addr) (n c n2 c2:Nat) (hk:Kn w0 L w)
  (k:∀ b W,Kn w0 (cellsOf L b 0 (a5n (.slice ad n c) (.slice ad2 n2 c2))) W → Bw w W → w.heap.size ≤ b → K (.pointer (some ⟨b,0,none⟩)) W) :
  oM Tryz.prog (.alloc 34) T' [] (fun v w=>oM Tryz.prog (.store 34 (.tmp 0) (.tmp 1)) T2 [v,b5m (.slice ad n c) (.slice ad2 n2 c2)] (fun _ w=>K v w) w) w:=
 a5r c5r rfl c0g rfl rfl (a5f ad ad2 n c n2 c2) hk k
@[go_sem] theorem g4i (T:TypeId) (b o n c:Nat) (x:Int):oM Tryz.prog (.indexAddr 27 (.tmp 0) (.tmp 1)) T [.slice (some ⟨b,o,none⟩) n c,.int .i64 x] = onM (0 ≤ x ∧ x < n) (.pointer (some ⟨b,o + x.toNat * 2,none⟩)):=
 a7k (K:=fun _ _=>True) _ T (by kernel_rfl) (fun w=>by kernel_rfl) b o n c x
@[go_sem] theorem g4j (T:TypeId) (b o n c:Nat) (x:Int):oM Tryz.prog (.indexAddr 63 (.tmp 0) (.tmp 1)) T [.slice (some ⟨b,o,none⟩) n c,.int .i64 x] = onM (0 ≤ x ∧ x < n) (.pointer (some ⟨b,o + x.toNat * 2,none⟩)):=
 a7k (K:=fun _ _=>True) _ T (by kernel_rfl) (fun w=>by kernel_rfl) b o n c x
@[go_sem] theorem g3l (T:TypeId) (b o n c:Nat) (x:Int):oM Tryz.prog (.indexAddr 114 (.tmp 0) (.tmp 1)) T [.slice (some ⟨b,o,none⟩) n c,.int .i64 x] = onM (0 ≤ x ∧ x < n) (.pointer (some ⟨b,o + x.toNat * 2,none⟩)):=f5g T b o n c x
@[go_sem] theorem g3m (T:TypeId) (b o n c:Nat) (x:Int):oM Tryz.prog (.indexAddr 28 (.tmp 0) (.tmp 1)) T [.slice (some ⟨b,o,none⟩) n c,.int .i64 x] = onM (0 ≤ x ∧ x < n) (.pointer (some ⟨b,o + x.toNat,none⟩)):=by
 have:=a7k (K:=fun _ _=>True) (P:=Tryz.prog) (n:=1) 28 T (by kernel_rfl) (fun w=>by kernel_rfl) b o n c x
 rwa [Nat.mul_one] at this
end
end Go.Proofs
namespace Go.Proofs
open Go Go.Sh Tryz
variable {a0 a1:Value} {K:VK} {w:World}
def f9c (a0:Value) (K:VK) (w:World):Prop:=
 oM prog (.box 34 (.tmp 0)) 0 [a0] (fun v1=>
 kF 34 1 v1 fun v3=>
 kL 29 v3 fun v4=>
 a0a prog 88 #[v4] fun v5 w=>
 gT v5 (kF 34 0 v1) (fun v7 w=>
 gT v5 (kL 30 v7) (fun v8 w=>
 gT v5 (a0a prog 89 #[v8]) (fun v9=>
 kP v5 v9 (.bool false) fun v10=>
 K v10) w) w) w) w
theorem e4g (h:f9c a0 K w):a0a prog 17 #[a0] K w:=
 cZ (fun _=>0) func17 h
def f9d (a0:Value) (K:VK) (w:World):Prop:=
 kQ [(.bool false),undef,(.int .i64 0)] (fun J_1 m_2 l_3 u_l_3 w0_l_3=>(fun w=>(
 kN 29 a0 (fun v7=>
 kB .lss 3 4 (l_3.getD 2 undef) v7 fun v8 w=>
 gT v8 (a0j (l_3.getD 2 undef)) (fun v10 w=>
 gT v8 (kB .lss 3 4 v10 (.int .i64 7)) (fun v11=>
 kP v8 v11 (.bool false) fun v12=>
 kO v12 (kI 29 a0 (l_3.getD 2 undef) fun v17=>
 kL 30 v17 fun v18=>
 kN 30 v18 fun v19=>
 kB .gtr 3 4 v19 (.int .i64 6) fun v20=>
 kO v20 (K (.bool false))
 (kQ [(l_3.getD 0 undef),(.int .i64 0)] fun J_13 m_14 l_15 u_l_15 w0_l_15=>(fun w=>(
 kI 29 a0 (l_3.getD 2 undef) (fun v24=>
 kL 30 v24 fun v25=>
 kN 30 v25 fun v26=>
 kB .lss 3 4 (l_15.getD 1 undef) v26 fun v27=>
 kO v27 (kI 29 a0 (l_3.getD 2 undef) fun v32=>
 kL 30 v32 fun v33=>
 kI 30 v33 (l_15.getD 1 undef) fun v35=>
 kL 24 v35 fun v36=>
 kN 24 v36 fun v37=>
 kB .gtr 3 4 v37 (.int .i64 8) fun v38=>
 kO v38 (K (.bool false))
 (kB .add 3 3 (l_15.getD 1 undef) (.int .i64 1) fun v29=>
 kJ J_13 m_14 l_15 w0_l_15 [(l_15.getD 0 undef),v29]))
 (kB .add 3 3 (l_3.getD 2 undef) (.int .i64 1) fun v14=>
 kJ J_1 m_2 l_3 w0_l_3 [(l_15.getD 0 undef),(l_15.getD 1 undef),v14])) w)) w0_l_15))
 (kN 29 a0 fun v40=>
 kB .leq 3 4 v40 (.int .i64 6) fun v41=>
 K v41)) w) w) w)) w0_l_3) w
theorem e4h (h:f9d a0 K w):a0a prog 88 #[a0] K w:=
 cZ (fun _=>0) func88 h
def f9e (a0:Value) (K:VK) (w:World):Prop:=
 kQ [(.bool false),(.int .i64 0)] (fun J_1 m_2 l_3 u_l_3 w0_l_3=>(fun w=>(
 kN 30 a0 (fun v6=>
 kB .lss 3 4 (l_3.getD 1 undef) v6 fun v7 w=>
 gT v7 (a0j (l_3.getD 1 undef)) (fun v9 w=>
 gT v7 (kB .lss 3 4 v9 (.int .i64 7)) (fun v10=>
 kP v7 v10 (.bool false) fun v11=>
 kO v11 (kI 30 a0 (l_3.getD 1 undef) fun v16=>
 kL 24 v16 fun v17=>
 kN 24 v17 fun v18=>
 kB .gtr 3 4 v18 (.int .i64 8) fun v19=>
 kO v19 (K (.bool false))
 (kB .add 3 3 (l_3.getD 1 undef) (.int .i64 1) fun v13=>
 kJ J_1 m_2 l_3 w0_l_3 [(l_3.getD 0 undef),v13]))
 (kN 30 a0 fun v21=>
 kB .leq 3 4 v21 (.int .i64 6) fun v22=>
 K v22)) w) w) w)) w0_l_3) w
theorem e4i (h:f9e a0 K w):a0a prog 89 #[a0] K w:=
 cZ (fun _=>0) func89 h
def f9f (a0:Value) (K:VK) (w:World):Prop:=
 oM prog (.box 69 (.tmp 0)) 0 [a0] (fun v1=>
 kQ [(.bool false),(.int .i64 0)] fun J_2 m_3 l_4 u_l_4 w0_l_4=>(fun w=>(
 kF 69 1 v1 (fun v5=>
 kL 67 v5 fun v6=>
 kN 67 v6 fun v7=>
 kB .lss 3 4 (l_4.getD 1 undef) v7 fun v8 w=>
 gT v8 (a0j (l_4.getD 1 undef)) (fun v10 w=>
 gT v8 (kB .lss 3 4 v10 (.int .i64 5)) (fun v11=>
 kP v8 v11 (.bool false) fun v12=>
 kO v12 (kF 69 1 v1 fun v15=>
 kL 67 v15 fun v16=>
 kI 67 v16 (l_4.getD 1 undef) fun v18=>
 kF 144 1 v18 fun v19=>
 kL 142 v19 fun v20=>
 kN 142 v20 fun v21=>
 kB .gtr 3 4 v21 (.int .i64 6) fun v22=>
 kO v22 (K (.bool false))
 (kB .add 3 3 (l_4.getD 1 undef) (.int .i64 1) fun v14=>
 kJ J_2 m_3 l_4 w0_l_4 [(l_4.getD 0 undef),v14]))
 (kF 69 1 v1 fun v23=>
 kL 67 v23 fun v24=>
 kN 67 v24 fun v25=>
 kB .leq 3 4 v25 (.int .i64 4) fun v26 w=>
 gT v26 (kF 69 0 v1) (fun v28 w=>
 gT v26 (kL 3 v28) (fun v29 w=>
 gT v26 (kB .leq 3 4 v29 (.int .i64 6)) (fun v30 w=>
 gT v26 (a0j v30) (fun v31 w=>
 gF v31 (kF 69 0 v1) (fun v32 w=>
 gF v31 (kL 3 v32) (fun v33 w=>
 gF v31 (kB .gtr 3 4 v33 (.int .i64 120)) (fun v34 w=>
 gF v31 (a0j v34) (fun v35 w=>
 gT v35 (kF 69 0 v1) (fun v36 w=>
 gT v35 (kL 3 v36) (fun v37 w=>
 gT v35 (kB .leq 3 4 v37 (.int .i64 130)) (fun v38 w=>
 gF v31 (kP v35 v38 (.bool false)) (fun v39 w=>
 gT v26 (kP v31 (.bool true) v39) (fun v40=>
 kP v26 v40 (.bool false) fun v41=>
 K v41) w) w) w) w) w) w) w) w) w) w) w) w) w)) w) w) w)) w0_l_4) w
theorem e4j (h:f9f a0 K w):a0a prog 54 #[a0] K w:=
 cZ (fun _=>0) func54 h
def f9g (a0 a1:Value) (K:VK) (w:World):Prop:=
 oM prog (.box 26 (.tmp 0)) 0 [a0] (fun v2=>
 kQ [(.bool false),undef,(.int .i64 0)] fun J_2 m_3 l_4 u_l_4 w0_l_4=>(fun w=>(
 kN 27 a1 (fun v9=>
 kB .lss 3 4 (l_4.getD 2 undef) v9 fun v10 w=>
 gT v10 (a0j (l_4.getD 2 undef)) (fun v12 w=>
 gT v10 (kB .lss 3 4 v12 (.int .i64 6)) (fun v13=>
 kP v10 v13 (.bool false) fun v14=>
 kO v14 (kI 27 a1 (l_4.getD 2 undef) fun v19=>
 kF 65 1 v19 fun v20=>
 kL 63 v20 fun v21=>
 kN 63 v21 fun v22=>
 kB .gtr 3 4 v22 (.int .i64 5) fun v23=>
 kO v23 (K (.bool false))
 (kQ [(l_4.getD 0 undef),(.int .i64 0)] fun J_15 m_16 l_17 u_l_17 w0_l_17=>(fun w=>(
 kI 27 a1 (l_4.getD 2 undef) (fun v27=>
 kF 65 1 v27 fun v28=>
 kL 63 v28 fun v29=>
 kN 63 v29 fun v30=>
 kB .lss 3 4 (l_17.getD 1 undef) v30 fun v31=>
 kO v31 (kI 27 a1 (l_4.getD 2 undef) fun v36=>
 kF 65 1 v36 fun v37=>
 kL 63 v37 fun v38=>
 kI 63 v38 (l_17.getD 1 undef) fun v40=>
 kL 69 v40 fun v41=>
 a0a prog 54 #[v41] fun v42=>
 kU v42 fun v43=>
 kO v43 (K (.bool false))
 (kB .add 3 3 (l_17.getD 1 undef) (.int .i64 1) fun v33=>
 kJ J_15 m_16 l_17 w0_l_17 [(l_17.getD 0 undef),v33]))
 (kB .add 3 3 (l_4.getD 2 undef) (.int .i64 1) fun v16=>
 kJ J_2 m_3 l_4 w0_l_4 [(l_17.getD 0 undef),(l_17.getD 1 undef),v16])) w)) w0_l_17))
 (kN 27 a1 fun v45=>
 kB .leq 3 4 v45 (.int .i64 5) fun v46 w=>
 gT v46 (kL 26 v2) (fun v48 w=>
 gT v46 (a0a prog 39 #[v48]) (fun v49=>
 kP v46 v49 (.bool false) fun v50=>
 K v50) w) w)) w) w) w)) w0_l_4) w
theorem e4k (h:f9g a0 a1 K w):a0a prog 50 #[a0,a1] K w:=
 cZ (fun _=>0) func50 h
end Go.Proofs
namespace Go.Proofs
open Go Go.Sh Go.RowKit FdSpec TkSpec CodeSpec PrSpec
section
variable {K:VK} {w w' w0 W:World} {L:List (Addr × Value)}
def g4k (l:L2):Prop:=l.length ≤ 6 ∧ ∀ y ∈ l,y.length ≤ 8
def g4l (l:L3):Prop:=l.length ≤ 6 ∧ ∀ z ∈ l,z.length ≤ 6 ∧ ∀ y ∈ z,y.length ≤ 8
def FlJ (l:L2) (w0:World) (vs:List Value) (w':World):Prop:=Bw w0 w' ∧ ∃ (u:Value) (i:Nat),vs = [u,.int .i64 (i:Int)] ∧ i ≤ l.length ∧ i ≤ 7 ∧ ∀ (j:Nat) (y:List Int),j < i → l[j]? = some y → y.length ≤ 8
theorem b7i {v:Value} {l:L2} (hl:a0s w v l) (k:∀ w' q,Bw w w' → (q = true → g4k l) → K (.bool q) w'):a0a Tryz.prog 89 #[v] K w:=by
 apply e4i
 unfold f9e
 obtain ⟨ad,c,rfl⟩:=hl.isSlice
 have hll:=hl.len
 refine ⟨FlJ l w,(fun vs _=>match vs with | [_,.int _ i]=>l.length - i.toNat | _=>0),⟨bR,_,0,rfl,by omega,by omega,fun j y h=>by omega⟩,?_⟩
 rintro _ _ w1 ⟨h1,u,i,rfl,hi,hi7,hy⟩
 by_cases hin:¬ (i:Int) < l.length
 ·have k:=fun q h=>k w1 q h1 h
  by_cases h6:(l.length:Int) ≤ 6
  ·refine Xa (An2 @hin @h6) ?_
   refine k _ (fun _=>⟨by omega,fun y hm=>?_⟩)
   obtain ⟨j,hj,rfl⟩:=List.getElem_of_mem hm
   exact hy j _ (by omega) (gE hj)
  ·refine Xa (An2 @hin @h6) ?_
   exact k _ (fun h=>by cases h)
 have hin:(i:Int) < l.length:=by omega
 by_cases h7:¬ (i:Int) < 7
 ·have h6:¬ (l.length:Int) ≤ 6:=by omega
  refine Xa (An3 @hin @h7 @h6) ?_
  exact k w1 _ h1 (fun h=>by cases h)
 have h7:(i:Int) < 7:=by omega
 obtain ⟨b5,o5,v5,rfl,hb5,c5,i5⟩:=hl.one (i:=i) (by omega)
 have e5:l[i]? = some l[i]:=gE (by omega)
 generalize l[i] = d at *
 obtain ⟨ad5,cp5,rfl⟩:=i5.isSlice
 by_cases h8:(8:Int) < d.length
 ·refine Xa (An4 @hin @h7 ((h1.cell hb5).trans c5) @h8) ?_
  exact k w1 _ h1 (fun h=>by cases h)
 refine Xa (An4 @hin @h7 ((h1.cell hb5).trans c5) @h8) ?_
 refine ⟨⟨h1,_,i + 1,rfl,by omega,by omega,fun j y hj e=>?_⟩,by show l.length - (((i + 1:Nat):Int)).toNat < l.length - ((i:Nat):Int).toNat; omega⟩
 by_cases h:j = i
 ·subst h; rw [e5] at e; cases e; omega
 ·exact hy j y (by omega) e
def FnJ (l:L3) (w0:World) (vs:List Value) (w':World):Prop:=Bw w0 w' ∧ ∃ (u u2:Value) (i:Nat),vs = [u,u2,.int .i64 (i:Int)] ∧ i ≤ l.length ∧ i ≤ 7 ∧ ∀ (j:Nat) (z:L2),j < i → l[j]? = some z → z.length ≤ 6 ∧ ∀ y ∈ z,y.length ≤ 8
def FiJ (l:L2) (w0:World) (vs:List Value) (w':World):Prop:=Bw w0 w' ∧ ∃ (u:Value) (i:Nat),vs = [u,.int .i64 (i:Int)] ∧ i ≤ l.length ∧ ∀ (j:Nat) (y:List Int),j < i → l[j]? = some y → y.length ≤ 8
theorem c0h {v:Value} {l:L3} (hl:a2j w v l) (k:∀ w' q,Bw w w' → (q = true → g4l l) → K (.bool q) w'):a0a Tryz.prog 88 #[v] K w:=by
 apply e4h
 unfold f9d
 obtain ⟨ad,c,rfl⟩:=hl.isSlice
 have hll:=hl.len
 refine ⟨FnJ l w,(fun vs _=>match vs with | [_,_,.int _ i]=>l.length - i.toNat | _=>0),⟨bR,_,_,0,rfl,by omega,by omega,fun j y h=>by omega⟩,?_⟩
 rintro _ _ w1 ⟨h1,u,u2,i,rfl,hi,hi7,hy⟩
 by_cases hin:¬ (i:Int) < l.length
 ·have k:=fun q h=>k w1 q h1 h
  by_cases h6:(l.length:Int) ≤ 6
  ·refine Xa (An2 @hin @h6) ?_
   refine k _ (fun _=>⟨by omega,fun y hm=>?_⟩)
   obtain ⟨j,hj,rfl⟩:=List.getElem_of_mem hm
   exact hy j _ (by omega) (gE hj)
  ·refine Xa (An2 @hin @h6) ?_
   exact k _ (fun h=>by cases h)
 have hin:(i:Int) < l.length:=by omega
 by_cases h7:¬ (i:Int) < 7
 ·have h6:¬ (l.length:Int) ≤ 6:=by omega
  refine Xa (An3 @hin @h7 @h6) ?_
  exact k w1 _ h1 (fun h=>by cases h)
 have h7:(i:Int) < 7:=by omega
 obtain ⟨b5,o5,v5,rfl,hb5,c5,i5⟩:=hl.one (i:=i) (by omega)
 have e5:l[i]? = some l[i]:=gE (by omega)
 generalize l[i] = d at *
 obtain ⟨ad5,cp5,rfl⟩:=i5.isSlice
 have hdl:=i5.len
 by_cases h8:(6:Int) < d.length
 ·refine Xa (An4 @hin @h7 ((h1.cell hb5).trans c5) @h8) ?_
  exact k w1 _ h1 (fun h=>by cases h)
 refine Xa (An4 @hin @h7 ((h1.cell hb5).trans c5) @h8) ?_
 refine ⟨FiJ d w,(fun vs _=>match vs with | [_,.int _ i]=>d.length - i.toNat | _=>0),⟨h1,_,0,rfl,by omega,fun j y h=>by omega⟩,?_⟩
 rintro _ _ w2 ⟨h2,u3,j,rfl,hj,hyj⟩
 by_cases hjn:¬ (j:Int) < d.length
 ·refine Xa (An4 @hin @h7 ((h2.cell hb5).trans c5) @hjn) ?_
  refine ⟨⟨h2,_,_,i + 1,rfl,by omega,by omega,fun j' z hj' e=>?_⟩,by show l.length - (((i + 1:Nat):Int)).toNat < l.length - ((i:Nat):Int).toNat; omega⟩
  by_cases h:j' = i
  ·subst h; rw [e5] at e; cases e
   refine ⟨by omega,fun y hm=>?_⟩
   obtain ⟨j',hj',rfl⟩:=List.getElem_of_mem hm
   exact hyj j' _ (by omega) (gE hj')
  ·exact hy j' z (by omega) e
 have hjn:(j:Int) < d.length:=by omega
 obtain ⟨b6,o6,v6,rfl,hb6,c6,i6⟩:=i5.one (i:=j) (by omega)
 have e6:d[j]? = some d[j]:=gE (by omega)
 generalize d[j] = y at *
 obtain ⟨ad6,cp6,rfl⟩:=i6.isSlice
 by_cases h8:(8:Int) < y.length
 ·refine Xa (An6 @hin @h7 ((h2.cell hb5).trans c5) ((h2.cell hb6).trans c6) @hjn @h8) ?_
  exact k w2 _ h2 (fun h=>by cases h)
 refine Xa (An6 @hin @h7 ((h2.cell hb5).trans c5) ((h2.cell hb6).trans c6) @hjn @h8) ?_
 refine ⟨⟨h2,_,j + 1,rfl,by omega,fun j' y' hj' e=>?_⟩,by show d.length - (((j + 1:Nat):Int)).toNat < d.length - ((j:Nat):Int).toNat; omega⟩
 by_cases h:j' = j
 ·subst h; rw [e6] at e; cases e; omega
 ·exact hyj j' y' (by omega) e
theorem c7z {dv av:Value} {ds:L2} {al:L3} (hd:a0s w dv ds) (ha:a2j w av al) (k:∀ w' q,Bw w w' → (q = true → g4k ds ∧ g4l al) → K (.bool q) w'):a0a Tryz.prog 17 #[b5m dv av] K w:=by
 apply e4g
 unfold f9c
 have hd':=hd
 have ha':=ha
 obtain ⟨ad1,c1,rfl⟩:=hd.isSlice
 obtain ⟨ad2,c2,rfl⟩:=ha.isSlice
 refine a0l (cs:=a5n (.slice ad1 ds.length c1) (.slice ad2 al.length c2)) rfl (.start w) fun b1 W hk hb1 hbb=>?_
 clear hb1 hbb
 refine Xa hk.cells ?_
 refine c0h (ha'.next (a0b a0f) hk.below) (fun w3 q h3 hq=>?_)
 have hk:=hk.next h3
 cases q with
 | false=>
  refine Xa0 ?_
  exact k _ _ hk.below (fun h=>by cases h)
 | true=>
 refine Xa hk.cells ?_
 refine b7i (hd'.next (a0b a0k) hk.below) (fun w4 q h4 hq2=>?_)
 have hk:=hk.next h4
 cases q with
 | false=>
  refine Xa0 ?_
  exact k _ _ hk.below (fun h=>by cases h)
 | true=>
  refine Xa0 ?_
  exact k _ _ hk.below (fun _=>⟨hq2 rfl,hq rfl⟩)
theorem a1o {α:Type} (f:α → List Int):∀ (l:List α) (i:Nat) (x:α),l[i]? = some x → (l.take (i + 1)).flatMap f = (l.take i).flatMap f ++ f x
 | [],i,x,h=>by simp at h
 | a :: l,0,x,h=>by simp at h; subst h; simp
 | a :: l,i + 1,x,h=>by
  have:=a1o f l i x (by simpa using h)
  simp only [List.take_succ_cons,List.flatMap_cons,this,List.append_assoc]
theorem a2k {α:Type} (f:α → List Int):∀ (l:List α) (i:Nat) (x:α),l[i]? = some x → ((l.take i).flatMap f).length + (f x).length ≤ (l.flatMap f).length
 | [],i,x,h=>by simp at h
 | a :: l,0,x,h=>by simp at h; subst h; simp
 | a :: l,i + 1,x,h=>by
  have:=a2k f l i x (by simpa using h)
  simp only [List.take_succ_cons,List.flatMap_cons,List.length_append]
  omega
def TxJ {α:Type} (f:α → List Int) (pre:List Int) (l:List α) (w0:World) (vs:List Value) (w':World):Prop:=Bw w0 w' ∧ ∃ (ov:Value) (i:Nat),vs = [ov,.int .i64 (i:Int)] ∧ i ≤ l.length ∧ OwnI w' w0.heap.size ov (pre ++ (l.take i).flatMap f)
theorem a4u {T' T2:TypeId} (a:Int) (ad:Option Addr) (n c:Nat) (hk:Kn w0 L w)
  (k:∀ b W,Kn w0 (cellsOf L b 0 [.int .i64 a,.slice ad n c]) W → Bw w W → w.heap.size ≤ b → K (.pointer (some ⟨b,0,none⟩)) W) :
  oM Tryz.prog (.alloc 69) T' [] (fun v w=>oM Tryz.prog (.store 69 (.tmp 0) (.tmp 1)) T2 [v,.agg #[.int .i64 a,.slice ad n c]] (fun _ w=>K v w) w) w:=
 a5r e9j rfl e9i rfl rfl (c3a a ad n c) hk k
theorem b1r {b:Nat} {cs:List Value} {ov:Value} {B:Nat} {l:List Int} {w1 w2:World} (h:a0n w1 (cellsOf [] b 0 cs)) (hg:w1.grownBy w2 ov.ownBlock) (ho:∀ i,ov.ownBlock = some i → i < b):a0n w2 (cellsOf [] b 0 cs):=
 a6c h (Fr.of_by' hg) (fun p hp=>⟨a2q h p hp,fun e=>by
  rcases a6u _ _ _ hp with h1 | h1
  ·have:=ho _ e; omega
  ·cases h1⟩)
theorem c3c {goal:List Cls} {gv:Value} (hg:a4f w gv goal):∀ x ∈ a6r goal,InR x:=by
 intro x hx
 have hlen:=hg.len
 obtain ⟨gad,gc,rfl⟩:=id hg.isSlice
 rcases List.mem_cons.1 hx with rfl | hx
 ·unfold InR; omega
 obtain ⟨c,hc,hx⟩:=List.mem_flatMap.1 hx
 obtain ⟨i,hi,rfl⟩:=List.getElem_of_mem hc
 obtain ⟨_,_,_,_,_,_,_,cv,_,hI,hrow⟩:=hg.at (i:=i) hi
 generalize goal[i] = c at *
 have hlen:=hrow.len
 obtain ⟨_,_,rfl⟩:=id hrow.isSlice
 simp only [a9j,List.mem_cons] at hx
 rcases hx with rfl | rfl | hx
 ·exact (a7l _).2 hI
 ·unfold InR; omega
 obtain ⟨m,hm,hx⟩:=List.mem_flatMap.1 hx
 obtain ⟨i,hi,rfl⟩:=List.getElem_of_mem hm
 obtain ⟨_,_,_,_,_,_,_,mv,_,hmr⟩:=hrow.at (i:=i) hi
 generalize c.claims[i] = m at *
 have hrow:=hmr.eqs
 have hlen:=hrow.len
 obtain ⟨_,_,rfl⟩:=id hrow.isSlice
 simp only [b1z,List.mem_cons] at hx
 rcases hx with rfl | rfl | hx
 ·exact (a7l _).2 hmr.vars
 ·unfold InR; omega
 obtain ⟨e,he,hx⟩:=List.mem_flatMap.1 hx
 obtain ⟨i,hi,rfl⟩:=List.getElem_of_mem he
 obtain ⟨_,_,_,_,ev,_,_,hrow,hI⟩:=hrow.at (i:=i) hi
 generalize m.eqs[i] = e at *
 have hlen:=hrow.len
 obtain ⟨_,_,rfl⟩:=id hrow.isSlice
 simp only [b4t,List.mem_cons] at hx
 rcases hx with rfl | rfl | hx
 ·exact (a7l _).2 hI
 ·unfold InR; omega
 obtain ⟨t,ht,hx⟩:=List.mem_flatMap.1 hx
 obtain ⟨i,hi,rfl⟩:=List.getElem_of_mem ht
 obtain ⟨_,_,_,_,_,_,i0,i1⟩:=hrow.at (i:=i) hi
 simp only [c3m,List.mem_cons,List.not_mem_nil,or_false] at hx
 rcases hx with rfl | rfl
 ·exact (a7l _).2 i0
 ·exact (a7l _).2 i1
theorem d4y (goal:List Cls) {gv:Value} (hg:a4f w gv goal) (hN:(a6r goal).length ≤ 1000000) (hl:Cd.Laid w) (k:∀ w',Bw w w' → K (.string ⟨(b4u goal).toArray⟩) w'):a0a Tryz.prog 25 #[gv] K w:=by
 apply e4x
 unfold f9t
 have hg':=hg
 obtain ⟨gad,gc,rfl⟩:=hg.isSlice
 have hgl:=hg'.len
 have hNN:1 + (goal.flatMap a9j).length ≤ 1000000:=by unfold a6r at hN; simp only [List.length_cons] at hN; omega
 refine a9i ?_
 refine e3z _ (fun v1 w1 h1 ho1=>?_)
 refine Xa0 ?_
 refine ⟨TxJ a9j [(goal.length:Int)] goal w,b2m goal.length,⟨h1,_,0,rfl,by omega,by simpa using ho1⟩,?_⟩
 have hpre0:[(goal.length:Int)].length + (goal.flatMap a9j).length ≤ 1000000:=by simp only [List.length_cons,List.length_nil]; omega
 rintro _ _ wA ⟨hbA,ovA,iA,rfl,hiA,hoA⟩
 by_cases hin:iA = goal.length
 ·rw [List.take_of_length_le (by omega)] at hoA
  have hoA:OwnI wA w.heap.size ovA (a6r goal):=hoA
  have hinr:∀ x ∈ a6r goal,InR x:=c3c hg'
  have hle:=a6j hinr (by omega)
  refine Xa0 ?_
  refine Cd.pNums_ok _ _ (hl.below hbA hl.size) (Ints.rowOf (hoA.ints (fun x hx=>(a7l x).1 (hinr x hx)) (by omega))) hinr (by omega) (fun w4 h4=>?_)
  exact k _ (hbA.on h4)
 have eA:goal[iA]? = some goal[iA]:=gE (by omega)
 have hstA:=a1o a9j _ _ _ eA
 have hleA:=a2k a9j _ _ _ eA
 obtain ⟨cbA,coA,rfl,hltA,csA,_,hcellA,cvA,rfl,hIA,hrowA⟩:=hg'.at (i:=iA) (by omega)
 have c0A:=hcellA 0 _ rfl
 have c1A:=hcellA 1 _ rfl
 simp only [Nat.add_zero] at c0A
 generalize goal[iA] = c at *
 obtain ⟨cadA,ccA,rfl⟩:=hrowA.isSlice
 have hlenA:=hrowA.len
 have hllA:(iA:Int) < goal.length:=by omega
 refine Xb4 (An3 ((hbA.cell hltA).trans c0A) ((hbA.cell hltA).trans c1A) @hllA) ?_
 refine b2z _ _ _ _ (.start wA) (fun bA WA hkA hbbA hgbA=>?_)
 refine Xb5 hkA.cells ?_
 refine mk2 _ _ hIA (by unfold I64; omega) (fun v2 w3 h3 hi3=>?_)
 have hb3:=(hbA.on hbbA).on h3
 have ho3:=(hoA.keep hbbA).keep h3
 have hfxA:(a9j c).length = 2 + (c.claims.flatMap b1z).length:=by simp only [a9j,List.length_cons]; omega
 refine a7a ho3 hb3.size hi3 (by simp only [List.length_append,List.length_cons,List.length_nil] at hpre0 ⊢; omega) (fun v4 w4 ho4 hg4 hv4=>?_)
 have hb4:=hb3.grown hg4 hb3.size (fun j hj=>(a0d ho3 hj).2.1)
 have hc4:=b1r (B:=0) (l:=[]) (hkA.next h3).cells hg4 (fun i e=>by have:=(a0d hoA e).1; omega)
 refine Xb3 @hc4 ?_
 refine ⟨TxJ b1z ([(goal.length:Int)] ++ (goal.take iA).flatMap a9j ++ [c.need,(c.claims.length:Int)]) c.claims w,b2m c.claims.length,⟨hb4,_,0,rfl,by omega,by simpa using ho4⟩,?_⟩
 have hpreA:([(goal.length:Int)] ++ (goal.take iA).flatMap a9j ++ [c.need,(c.claims.length:Int)]).length + (c.claims.flatMap b1z).length ≤ 1000000:=by simp only [List.length_append,List.length_cons,List.length_nil] at hpre0 ⊢; omega
 clear hc4 ho4 hb4 hg4 hv4 ho3 hb3 hi3 h3 hkA hbbA hgbA
 rintro _ _ wB ⟨hbB,ovB,iB,rfl,hiB,hoB⟩
 by_cases hinB:iB = c.claims.length
 ·rw [List.take_of_length_le (l:=c.claims) (by omega)] at hoB
  refine Xa0 ?_
  refine ⟨⟨hbB,_,iA + 1,rfl,by omega,?_⟩,by simp only [a1u]; omega⟩
  rw [hstA]
  simpa [a9j] using hoB
 have eB:c.claims[iB]? = some c.claims[iB]:=gE (by omega)
 have hstB:=a1o b1z _ _ _ eB
 have hleB:=a2k b1z _ _ _ eB
 obtain ⟨cbB,coB,rfl,hltB,csB,_,hcellB,cvB,rfl,hmB⟩:=hrowA.at (i:=iB) (by omega)
 have hIB:=hmB.vars
 have hrowB:=hmB.eqs
 have c0B:=hcellB 0 _ rfl
 have c1B:=hcellB 1 _ rfl
 simp only [Nat.add_zero] at c0B
 generalize c.claims[iB] = m at *
 obtain ⟨cadB,ccB,rfl⟩:=hrowB.isSlice
 have hlenB:=hrowB.len
 have hllB:(iB:Int) < c.claims.length:=by omega
 refine Xb4 (An3 ((hbB.cell hltB).trans c0B) ((hbB.cell hltB).trans c1B) @hllB) ?_
 refine a4u _ _ _ _ (.start wB) (fun bB WB hkB hbbB hgbB=>?_)
 refine Xb5 hkB.cells ?_
 refine mk2 _ _ hIB (by unfold I64; omega) (fun v2 w3 h3 hi3=>?_)
 have hb3:=(hbB.on hbbB).on h3
 have ho3:=(hoB.keep hbbB).keep h3
 have hfxB:(b1z m).length = 2 + (m.eqs.flatMap b4t).length:=by simp only [b1z,List.length_cons]; omega
 refine a7a ho3 hb3.size hi3 (by simp only [List.length_append,List.length_cons,List.length_nil] at hpreA ⊢; omega) (fun v4 w4 ho4 hg4 hv4=>?_)
 have hb4:=hb3.grown hg4 hb3.size (fun j hj=>(a0d ho3 hj).2.1)
 have hc4:=b1r (B:=0) (l:=[]) (hkB.next h3).cells hg4 (fun i e=>by have:=(a0d hoB e).1; omega)
 refine Xb3 @hc4 ?_
 refine ⟨TxJ b4t (([(goal.length:Int)] ++ (goal.take iA).flatMap a9j ++ [c.need,(c.claims.length:Int)]) ++ (c.claims.take iB).flatMap b1z ++ [m.vars,(m.eqs.length:Int)]) m.eqs w,b2m m.eqs.length,⟨hb4,_,0,rfl,by omega,by simpa using ho4⟩,?_⟩
 have hpreB:(([(goal.length:Int)] ++ (goal.take iA).flatMap a9j ++ [c.need,(c.claims.length:Int)]) ++ (c.claims.take iB).flatMap b1z ++ [m.vars,(m.eqs.length:Int)]).length + (m.eqs.flatMap b4t).length ≤ 1000000:=by simp only [List.length_append,List.length_cons,List.length_nil] at hpreA ⊢; omega
 clear hc4 ho4 hb4 hg4 hv4 ho3 hb3 hi3 h3 hkB hbbB hgbB
 rintro _ _ wC ⟨hbC,ovC,iC,rfl,hiC,hoC⟩
 by_cases hinC:iC = m.eqs.length
 ·rw [List.take_of_length_le (l:=m.eqs) (by omega)] at hoC
  refine Xa0 ?_
  refine ⟨⟨hbC,_,iB + 1,rfl,by omega,?_⟩,by simp only [a1u]; omega⟩
  rw [hstB]
  simpa [b1z] using hoC
 have eC:m.eqs[iC]? = some m.eqs[iC]:=gE (by omega)
 have hstC:=a1o b4t _ _ _ eC
 have hleC:=a2k b4t _ _ _ eC
 obtain ⟨cbC,coC,rfl,hltC,cvC,c0C,c1C,hrowC,hIC⟩:=hrowB.at (i:=iC) (by omega)
 generalize m.eqs[iC] = e at *
 obtain ⟨cadC,ccC,rfl⟩:=hrowC.isSlice
 have hlenC:=hrowC.len
 have hllC:(iC:Int) < m.eqs.length:=by omega
 refine Xb4 (An3 ((hbC.cell hltC).trans c0C) ((hbC.cell hltC).trans c1C) @hllC) ?_
 refine b2n e _ _ _ (.start wC) (fun bC WC hkC hbbC hgbC=>?_)
 refine Xb5 hkC.cells ?_
 refine mk2 _ _ hIC (by unfold I64; omega) (fun v2 w3 h3 hi3=>?_)
 have hb3:=(hbC.on hbbC).on h3
 have ho3:=(hoC.keep hbbC).keep h3
 have hfxC:(b4t e).length = 2 + (e.terms.flatMap c3m).length:=by simp only [b4t,List.length_cons]; omega
 refine a7a ho3 hb3.size hi3 (by simp only [List.length_append,List.length_cons,List.length_nil] at hpreB ⊢; omega) (fun v4 w4 ho4 hg4 hv4=>?_)
 have hb4:=hb3.grown hg4 hb3.size (fun j hj=>(a0d ho3 hj).2.1)
 have hc4:=b1r (B:=0) (l:=[]) (hkC.next h3).cells hg4 (fun i e=>by have:=(a0d hoC e).1; omega)
 refine Xb3 @hc4 ?_
 refine ⟨TxJ c3m ((([(goal.length:Int)] ++ (goal.take iA).flatMap a9j ++ [c.need,(c.claims.length:Int)]) ++ (c.claims.take iB).flatMap b1z ++ [m.vars,(m.eqs.length:Int)]) ++ (m.eqs.take iC).flatMap b4t ++ [e.target,(e.terms.length:Int)]) e.terms w,b2m e.terms.length,⟨hb4,_,0,rfl,by omega,by simpa using ho4⟩,?_⟩
 have hpreC:((([(goal.length:Int)] ++ (goal.take iA).flatMap a9j ++ [c.need,(c.claims.length:Int)]) ++ (c.claims.take iB).flatMap b1z ++ [m.vars,(m.eqs.length:Int)]) ++ (m.eqs.take iC).flatMap b4t ++ [e.target,(e.terms.length:Int)]).length + (e.terms.flatMap c3m).length ≤ 1000000:=by simp only [List.length_append,List.length_cons,List.length_nil] at hpreB ⊢; omega
 clear hc4 ho4 hb4 hg4 hv4 ho3 hb3 hi3 h3 hkC hbbC hgbC
 rintro _ _ wD ⟨hbD,ovD,iD,rfl,hiD,hoD⟩
 by_cases hinD:iD = e.terms.length
 ·rw [List.take_of_length_le (l:=e.terms) (by omega)] at hoD
  refine Xa0 ?_
  refine ⟨⟨hbD,_,iC + 1,rfl,by omega,?_⟩,by simp only [a1u]; omega⟩
  rw [hstC]
  simpa [b4t] using hoD
 have eD:e.terms[iD]? = some e.terms[iD]:=gE (by omega)
 have hstD:=a1o c3m _ _ _ eD
 have hleD:=a2k c3m _ _ _ eD
 obtain ⟨cbD,coD,rfl,hltD,c0D,c1D,i0D,i1D⟩:=hrowC.at (i:=iD) (by omega)
 generalize e.terms[iD] = t at *
 have hllD:(iD:Int) < e.terms.length:=by omega
 refine Xb4 (An3 ((hbD.cell hltD).trans c0D) ((hbD.cell hltD).trans c1D) @hllD) ?_
 refine b6r t (.start wD) (fun bD WD hkD hbbD hgbD=>?_)
 refine Xb4 hkD.cells ?_
 refine mk2 _ _ i0D i1D (fun v2 w3 h3 hi3=>?_)
 have hb3:=(hbD.on hbbD).on h3
 have ho3:=(hoD.keep hbbD).keep h3
 have hfxD:(c3m t).length = 2:=rfl
 refine a7a ho3 hb3.size hi3 (by simp only [List.length_append,List.length_cons,List.length_nil] at hpreC ⊢; omega) (fun v4 w4 ho4 hg4 hv4=>?_)
 have hb4:=hb3.grown hg4 hb3.size (fun j hj=>(a0d ho3 hj).2.1)
 refine Xa0 ?_
 refine ⟨⟨hb4,_,iD + 1,rfl,by omega,?_⟩,by simp only [a1u]; omega⟩
 rw [hstD]
 simpa [c3m] using ho4
end
end Go.Proofs
namespace Go.Proofs
open FdSpec TkSpec CodeSpec PrSpec
theorem c1s {s:Stp}:∀ {cs:List Clm} {n:List (List Int)},n.length = cs.length → (∀ (k:Nat) (c:Clm) (l:List Int),cs[k]? = some c → n[k]? = some l → a0g s l c.vars = true) → a8q s cs n = true
 | [],_,_,_=>rfl
 | c :: cs,[],h,_=>by simp at h
 | c :: cs,l :: ls,h,hp=>by
  have h1:=hp 0 c l rfl rfl
  have h2:=c1s (cs:=cs) (n:=ls) (by simpa using h) (fun k c' l' a b=>hp (k + 1) c' l' (by simpa using a) (by simpa using b))
  simp [a8q,h1,h2]
theorem a8a {s:Stp}:∀ {cs:List Clm} {n:List (List Int)} {k:Nat} {c:Clm} {l:List Int},a8q s cs n = true → cs[k]? = some c → n[k]? = some l → a0g s l c.vars = true
 | [],_,k,_,_,_,h,_=>by simp at h
 | c :: cs,[],k,_,_,h,_,_=>by simp [a8q] at h
 | c :: cs,l :: ls,0,c',l',h,a,b=>by
  simp only [a8q,Bool.and_eq_true] at h
  simp at a b
  rw [← a,← b]; exact h.1
 | c :: cs,l :: ls,k + 1,c',l',h,a,b=>by
  simp only [a8q,Bool.and_eq_true] at h
  exact a8a h.2 (by simpa using a) (by simpa using b)
def a2z (s:Stp) (c:Cls) (d:List Int) (n:List (List Int)):Bool:=a0g s d c.claims.length && decide (n.length = c.claims.length)
theorem b4s {s:Stp}:∀ {goal:List Cls} {ds:List (List Int)} {ns:List (List (List Int))},ds.length = goal.length → ns.length = goal.length →
  (∀ (i:Nat) (c:Cls) (d:List Int) (n:List (List Int)),goal[i]? = some c → ds[i]? = some d → ns[i]? = some n → a2z s c d n = true ∧ ∀ (k:Nat) (x:Clm) (l:List Int),c.claims[k]? = some x → n[k]? = some l → a0g s l x.vars = true) → a8r s goal ds ns = true
 | [],_,_,_,_,_=>rfl
 | c :: cs,[],_,h,_,_=>by simp at h
 | c :: cs,_ :: _,[],_,h,_=>by simp at h
 | c :: cs,d :: ds,n :: ns,h1,h2,hp=>by
  obtain ⟨a,b⟩:=hp 0 c d n rfl rfl rfl
  simp only [a2z,Bool.and_eq_true,decide_eq_true_eq] at a
  have h3:=b4s (goal:=cs) (ds:=ds) (ns:=ns) (by simpa using h1) (by simpa using h2) (fun i c' d' n' a1 a2 a3=>hp (i + 1) c' d' n' (by simpa using a1) (by simpa using a2) (by simpa using a3))
  simp [a8r,a.1,a.2,c1s a.2 b,h3]
theorem a3d {s:Stp}:∀ {goal:List Cls} {ds:List (List Int)} {ns:List (List (List Int))} {i:Nat} {c:Cls} {d:List Int} {n:List (List Int)},a8r s goal ds ns = true → goal[i]? = some c → ds[i]? = some d → ns[i]? = some n →
  a2z s c d n = true ∧ a8q s c.claims n = true
 | [],_,_,i,_,_,_,_,h,_,_=>by simp at h
 | c :: cs,[],_,i,_,_,_,h,_,_,_=>by simp [a8r] at h
 | c :: cs,_ :: _,[],i,_,_,_,h,_,_,_=>by simp [a8r] at h
 | c :: cs,d :: ds,n :: ns,0,c',d',n',h,a1,a2,a3=>by
  simp only [a8r,Bool.and_eq_true,decide_eq_true_eq] at h
  simp at a1 a2 a3
  subst a1 a2 a3
  simp [a2z,h]
 | c :: cs,d :: ds,n :: ns,i + 1,c',d',n',h,a1,a2,a3=>by
  simp only [a8r,Bool.and_eq_true,decide_eq_true_eq] at h
  exact a3d h.2 (by simpa using a1) (by simpa using a2) (by simpa using a3)
def b0y (i k:Nat) (l:List Clm):List (Nat × Nat × Clm):=(l.zipIdx k).map fun p=>(i,p.2,p.1)
def a1c (o:Nat) (goal:List Cls):List (Nat × Nat × Clm):=(goal.zipIdx o).flatMap fun p=>b0y p.2 0 p.1.claims
theorem a9s (i k:Nat) (c:Clm) (l:List Clm):b0y i k (c :: l) = (i,k,c) :: b0y i (k + 1) l:=by
 unfold b0y; simp [List.zipIdx_cons]
theorem a8p (o:Nat) (c:Cls) (l:List Cls):a1c o (c :: l) = b0y o 0 c.claims ++ a1c (o + 1) l:=by
 unfold a1c; simp [List.zipIdx_cons]
theorem c1r (i k:Nat):∀ l:List Clm,b0y i (k + 1) l = (b0y i k l).map fun p=>(p.1,p.2.1 + 1,p.2.2)
 | []=>rfl
 | c :: l=>by rw [a9s,a9s,c1r i (k + 1) l]; rfl
theorem d9e (i k:Nat):∀ l:List Clm,b0y (i + 1) k l = (b0y i k l).map fun p=>(p.1 + 1,p.2)
 | []=>rfl
 | c :: l=>by rw [a9s,a9s,d9e i (k + 1) l]; rfl
theorem b5q (o:Nat):∀ l:List Cls,a1c (o + 1) l = (a1c o l).map fun p=>(p.1 + 1,p.2)
 | []=>rfl
 | c :: l=>by rw [a8p,a8p,b5q (o + 1) l,d9e,List.map_append]
def f3f (ds:List (List Int)) (i k:Nat):Int:=(ds.getD i []).getD k 0
def f3g (ns:List (List (List Int))) (i k:Nat):List Int:=(ns.getD i []).getD k []
def b5y (s:Stp) (ds:List (List Int)) (ns:List (List (List Int))) (p:Nat × Nat × Clm):List Int:=a0p s p.2.2 (f3f ds p.1 p.2.1) (f3g ns p.1 p.2.1)
theorem b8e {s:Stp}:∀ (l:List Clm) (d:List Int) (n:List (List Int)) (i:Nat),d.length = l.length → n.length = l.length → (b0y i 0 l).flatMap (fun p=>a0p s p.2.2 (d.getD p.2.1 0) (n.getD p.2.1 [])) = a1e s l d n
 | [],_,_,_,_,_=>by simp [b0y,a1e]
 | c :: l,[],_,_,h,_=>by simp at h
 | c :: l,_ :: _,[],_,_,h=>by simp at h
 | c :: l,d :: ds,n :: ns,i,h1,h2=>by
  rw [a9s,Nat.zero_add,c1r i 0 l,List.flatMap_cons,List.flatMap_map]
  simp only [List.getD_cons_succ,List.getD_cons_zero]
  rw [b8e l ds ns i (by simpa using h1) (by simpa using h2)]
  rfl
theorem b8f {s:Stp}:∀ (goal:List Cls) (ds:List (List Int)) (ns:List (List (List Int))),ds.length = goal.length → ns.length = goal.length →
  (∀ (i:Nat) (c:Cls) (d:List Int) (n:List (List Int)),goal[i]? = some c → ds[i]? = some d → ns[i]? = some n → d.length = c.claims.length ∧ n.length = c.claims.length) → (a1c 0 goal).flatMap (b5y s ds ns) = a0t s goal ds ns
 | [],_,_,_,_,_=>by simp [a1c,a0t]
 | c :: l,[],_,h,_,_=>by simp at h
 | c :: l,_ :: _,[],_,h,_=>by simp at h
 | c :: l,d :: ds,n :: ns,h1,h2,hp=>by
  obtain ⟨a,b⟩:=hp 0 c d n rfl rfl rfl
  have ih:=b8f (s:=s) l ds ns (by simpa using h1) (by simpa using h2) (fun i c' d' n' a1 a2 a3=>hp (i + 1) c' d' n' (by simpa using a1) (by simpa using a2) (by simpa using a3))
  rw [a8p,Nat.zero_add,b5q 0 l,List.flatMap_append,List.flatMap_map]
  have e1:(b0y 0 0 c.claims).flatMap (b5y s (d :: ds) (n :: ns)) = a1e s c.claims d n:=by
   rw [← b8e c.claims d n 0 a b]
   have:∀ p ∈ b0y 0 0 c.claims,b5y s (d :: ds) (n :: ns) p = a0p s p.2.2 (d.getD p.2.1 0) (n.getD p.2.1 []):=by
    intro p hp
    unfold b0y at hp
    obtain ⟨q,_,rfl⟩:=List.mem_map.1 hp
    rfl
   rw [List.flatMap_def,List.flatMap_def,List.map_congr_left this]
  rw [e1]
  show _ = a1e s c.claims d n ++ a0t s l ds ns
  rw [← ih]
  rfl
end Go.Proofs
namespace Go.Proofs
open Go Go.Sh Go.RowKit FdSpec TkSpec CodeSpec PrSpec
theorem b6t (i k:Nat) (a b:List Clm):b0y i k (a ++ b) = b0y i k a ++ b0y i (k + a.length) b:=by
 unfold b0y; rw [List.zipIdx_append,List.map_append]
theorem b2o (o:Nat) (a b:List Cls):a1c o (a ++ b) = a1c o a ++ a1c (o + a.length) b:=by
 unfold a1c; rw [List.zipIdx_append,List.flatMap_append]
theorem d1l (o:Nat) (c:Cls):a1c o [c] = b0y o 0 c.claims:=by
 unfold a1c; simp
theorem e3d (i k:Nat) (c:Clm):b0y i k [c] = [(i,k,c)]:=by
 unfold b0y; simp
theorem b6u {goal:List Cls} {i:Nat} {c:Cls} (h:goal[i]? = some c):a1c 0 (goal.take (i + 1)) = a1c 0 (goal.take i) ++ b0y i 0 c.claims:=by
 have hi:i < goal.length:=(gS h).1
 rw [List.take_add_one,h,b2o]
 simp only [Option.toList,d1l]
 rw [List.length_take,Nat.min_eq_left (by omega),Nat.zero_add]
theorem d3j {i k:Nat} {l:List Clm} {c:Clm} (h:l[k]? = some c):b0y i 0 (l.take (k + 1)) = b0y i 0 (l.take k) ++ [(i,k,c)]:=by
 have hi:k < l.length:=(gS h).1
 rw [List.take_add_one,h,b6t]
 simp only [Option.toList,e3d]
 rw [List.length_take,Nat.min_eq_left (by omega),Nat.zero_add]
theorem b6v {goal:List Cls} {i k:Nat} {c:Cls} (h:goal[i]? = some c):a1c 0 (goal.take i) ++ b0y i 0 (c.claims.take k) <+: a1c 0 goal:=by
 have h1:a1c 0 (goal.take (i + 1)) <+: a1c 0 goal:=by
  refine ⟨a1c (0 + (goal.take (i + 1)).length) (goal.drop (i + 1)),?_⟩
  rw [← b2o,List.take_append_drop]
 rw [b6u h] at h1
 refine List.IsPrefix.trans ?_ h1
 refine ⟨b0y i (0 + (c.claims.take k).length) (c.claims.drop k),?_⟩
 rw [List.append_assoc,← b6t,List.take_append_drop]
theorem b0h {goal:List Cls} {i k:Nat} {cl:Cls} {c:Clm} (h:goal[i]? = some cl) (hk:cl.claims[k]? = some c):(i,k,c) ∈ a1c 0 goal:=by
 unfold a1c b0y
 simp only [List.mem_flatMap,List.mem_map,Prod.mk.injEq,Prod.exists]
 exact ⟨cl,i,by rw [List.mem_zipIdx_iff_getElem?]; simpa using h,c,k,by rw [List.mem_zipIdx_iff_getElem?]; simpa using hk,rfl,rfl,rfl⟩
structure Itm (goal:List Cls) (w:World) where
 i:Nat
 k:Nat
 cl:Cls
 c:Clm
 v:Value
 hi:goal[i]? = some cl
 hk:cl.claims[k]? = some c
 hv:ClmR w c v
@[reducible] def g7r (i k:Int):Value:=.agg #[.int .i64 i,.int .i64 k]
def Itm.enc {goal:List Cls} {w:World} (x:Itm goal w):Array Value:=#[g7r x.i x.k,d1j x.c x.v]
def Itm.at {goal:List Cls} {w:World} (x:Itm goal w):Nat × Nat × Clm:=(x.i,x.k,x.c)
section
variable {K:VK} {w w' w0 W:World} {L:List (Addr × Value)}
theorem b9x {F:Fence} {m:Nat} {P:Program} {l:Nat} {args:Array Value} {W:World} {R R':Ending → WK} (h:YieldAt F m P l args W R) (hr:∀ e w,R e w → R' e w):YieldAt F m P l args W R':=by
 obtain ⟨fn,tmps,a,b,h1,h2⟩:=h
 exact ⟨fn,tmps,a,b,h1,h2.mono hr⟩
def PrePl (goal:List Cls) (w:World) (J:List (Itm goal w) → WK) (l:List (Nat × Nat × Clm)) (W:World):Prop:=Bw w W ∧ ∃ pre,pre.map Itm.at = l ∧ J pre W
theorem PrePl.next {goal:List Cls} {w:World} {J:List (Itm goal w) → WK} {l:List (Nat × Nat × Clm)} {W W':World} {B:Nat} (hJ:AbidesFrom B J) (h:PrePl goal w J l W) (hb:Bw W W'):PrePl goal w J l W':=by
 obtain ⟨h1,pre,h2,h3⟩:=h
 exact ⟨h1.on hb,pre,h2,hJ pre W W' none h3 ⟨hb.os,hb.tape,hb.output,hb.size,fun k hk _=>hb.block k hk⟩ (fun r e=>by cases e)⟩
def g7s (goal:List Cls) (w:World) (J:List (Itm goal w) → WK) (vs:List Value) (W:World):Prop:=∃ (u0 u1:Value) (i:Nat),vs = [u0,u1,.int .i64 (i:Int)] ∧ i ≤ goal.length ∧ PrePl goal w J (a1c 0 (goal.take i)) W
def g7t (goal:List Cls) (w:World) (J:List (Itm goal w) → WK) (i:Nat) (c:Cls) (vs:List Value) (W:World):Prop:=∃ (u0:Value) (k:Nat),vs = [u0,.int .i64 (k:Int)] ∧ k ≤ c.claims.length ∧ PrePl goal w J (a1c 0 (goal.take i) ++ b0y i 0 (c.claims.take k)) W
theorem d1m {goal:List Cls} {gv:Value} {g:Nat} (hg:a4f w gv goal) (hww:Bw w w') (hlt:g < w'.heap.size) (hc:w'.cell? ⟨g,0,none⟩ = some gv) :
  SeqStopsK Fence.wide 9 Tryz.prog 158 #[.pointer (some ⟨g,0,none⟩)] (Itm.enc (goal:=goal) (w:=w)) (Below w.heap.size) (fun xs=>xs.map Itm.at = a1c 0 goal) (fun pre=>pre.map Itm.at <+: a1c 0 goal) (a1c 0 goal).length w':=by
 intro l J Jx W hb hJ hJx hY h0
 refine CallsIn.mono (d6a (m:=0) (a0:=.func (.yield l) #[] #[]) (a1:=.pointer (some ⟨g,0,none⟩)) (w:=W) (K:=fun _ W'=>(∃ xs:List (Itm goal w),xs.map Itm.at = a1c 0 goal ∧ J xs W') ∨ (∃ pre:List (Itm goal w),pre.map Itm.at <+: a1c 0 goal ∧ Jx pre W')) ?_) (fun e W' h=>by obtain ⟨v,h1,h2⟩:=h; exact ⟨⟨v,h1⟩,h2⟩)
 unfold d5y
 obtain ⟨ad,cap,rfl⟩:=hg.isSlice
 have hln:=hg.len
 have hc0:=(hb.cell hlt).trans hc
 have hb:=hww.on hb
 refine Xa @hc0 ?_
 refine ⟨g7s goal w J,(fun vs _=>match vs with | [_,_,.int _ i]=>goal.length - i.toNat | _=>0),⟨_,_,0,rfl,by omega,hb,[],rfl,h0⟩,?_⟩
 rintro _ _ W1 ⟨u0,u1,i,rfl,hi,hp⟩
 by_cases hin:i = goal.length
 ·refine Xa @hc0 ?_
  obtain ⟨h1,pre,h2,h3⟩:=hp
  rw [hin,List.take_length] at h2
  exact .inl ⟨pre,h2,h3⟩
 have e1:goal[i]? = some goal[i]:=gE (by omega)
 obtain ⟨b1,o1,rfl,hlt1,cs1,_,hcell1,v1,rfl,hI1,hrow1⟩:=hg.at (i:=i) (by omega)
 have c01:=hcell1 0 _ rfl
 have c11:=hcell1 1 _ rfl
 simp only [Nat.add_zero] at c01
 generalize goal[i] = c at *
 obtain ⟨ad1,cp1,rfl⟩:=hrow1.isSlice
 have hln1:=hrow1.len
 have hll1:(i:Int) < goal.length:=by omega
 have hW1:=hp.1
 refine Xb4 (An3 ((hW1.cell hlt1).trans c01) ((hW1.cell hlt1).trans c11) @hll1) ?_
 refine b2z _ _ _ _ (.start W1) (fun b2 W2 hk2 hb2 hg2=>?_)
 have hp:=hp.next hJ hb2
 refine Xb3 hk2.cells ?_
 refine ⟨g7t goal w J i c,(fun vs _=>match vs with | [_,.int _ k]=>c.claims.length - k.toNat | _=>0),⟨_,0,rfl,by omega,by simpa [b0y] using hp⟩,?_⟩
 clear hp hk2 hb2 hg2 hW1
 rintro _ _ W3 ⟨u2,k,rfl,hk,hp⟩
 by_cases hkn:k = c.claims.length
 ·rw [hkn,List.take_length,← b6u e1] at hp
  refine Xa0 ?_
  refine ⟨⟨_,_,i + 1,rfl,by omega,hp⟩,by show goal.length - (((i + 1:Nat):Int)).toNat < goal.length - ((i:Nat):Int).toNat; omega⟩
 have e3:c.claims[k]? = some c.claims[k]:=gE (by omega)
 obtain ⟨b3,o3,rfl,hlt3,cs3,_,hcell3,v3,rfl,hm3⟩:=hrow1.at (i:=k) (by omega)
 have c03:=hcell3 0 _ rfl
 have c13:=hcell3 1 _ rfl
 simp only [Nat.add_zero] at c03
 generalize c.claims[k] = m at *
 obtain ⟨ad3,cp3,hv3⟩:=hm3.eqs.isSlice
 subst hv3
 have hll3:(k:Int) < c.claims.length:=by omega
 have hW3:=hp.1
 refine Xb4 (An3 ((hW3.cell hlt3).trans c03) ((hW3.cell hlt3).trans c13) @hll3) ?_
 refine a4u _ _ _ _ (.start W3) (fun b4 W4 hk4 hb4 hg4=>?_)
 have hp:=hp.next hJ hb4
 refine Xb2 hk4.cells ?_
 obtain ⟨hW4,pre,hpre,hJp⟩:=hp
 have hst:=d3j (i:=i) e3
 have hpt:a1c 0 (goal.take i) ++ b0y i 0 (c.claims.take (k + 1)) <+: a1c 0 goal:=b6v e1
 rw [hst,← List.append_assoc,← hpre] at hpt
 have hlen:pre.length < (a1c 0 goal).length:=by
  have:=hpt.length_le
  simp only [List.length_append,List.length_map,List.length_cons,List.length_nil] at this
  omega
 have hx:∃ x:Itm goal w,x = ⟨i,k,c,m,_,e1,e3,hm3⟩:=⟨_,rfl⟩
 obtain ⟨x,hx⟩:=hx
 have hat:(pre ++ [x]).map Itm.at = a1c 0 (goal.take i) ++ b0y i 0 (c.claims.take (k + 1)):=by
  rw [List.map_append,hpre,hst,List.append_assoc,hx]
  rfl
 refine ⟨l,rfl,b9x (by have h:=hY pre x W4 hJp hlen; rw [hx] at h; exact h) ?_⟩
 rintro e W5 (⟨rfl,h5,hk5⟩ | ⟨rfl,h5⟩)
 ·refine ⟨_,rfl,?_⟩
  refine Xa0 ?_
  refine ⟨⟨_,k + 1,rfl,by omega,hW4.trans hk5,pre ++ [x],hat,by rw [hx]; exact h5⟩,by show c.claims.length - (((k + 1:Nat):Int)).toNat < c.claims.length - ((k:Nat):Int).toNat; omega⟩
 ·refine ⟨_,rfl,?_⟩
  refine Xa0 ?_
  refine .inr ⟨pre ++ [x],?_,by rw [hx]; exact h5⟩
  rw [hat]
  exact b6v e1
end
section
variable {K:VK} {w w' w0 W W':World} {L:List (Addr × Value)} {g n B:Nat} {row:Option Nat}
def c4q (B:Nat) (W:World):Nat → Prop:=fun i=>B ≤ i ∧ ∃ o:Obj,W.heap[i]? = some o ∧ o.isCells = false
theorem b9y (hg:W.grownBy W' row) (hr:∀ r,row = some r → B ≤ r ∧ ∃ o:Obj,W.heap[r]? = some o ∧ o.isCells = false):Fr (c4q B W) W W':=by
 refine ⟨hg.os,hg.tape,hg.output,hg.size,fun i hi hn=>hg.block i hi (fun e=>hn ?_)⟩
 exact hr i (by first | exact e | exact e.symm)
theorem a9m {D:Nat} {o:Obj} (o':Obj) (hD:B ≤ D) (hl:W.heap[D]? = some o) (ho:o.isCells = false):Fr (c4q B W) W (W.putObj D o'):=
 b9y (grownBy_putObj' W D o') (fun r e=>by cases e; exact ⟨hD,o,hl,ho⟩)
theorem c2o {a:Addr} {u:Value} (h:W.cell? a = some u):∃ o,W.heap[a.block]? = some o ∧ o.isCells = true:=by
 unfold World.cell? at h
 cases e:W.heap[a.block]? with
 | none=>rw [e] at h; simp at h
 | some o=>
  refine ⟨o,rfl,?_⟩
  rw [e] at h
  cases o <;> first | rfl | (simp at h)
theorem b5l {L:List (Addr × Value)} (h:a0n W L):∀ p ∈ L,W.cell? p.1 = some p.2:=by
 induction L with
 | nil=>intro p hp; cases hp
 | cons a l ih=>
  intro p hp
  rcases List.mem_cons.1 hp with rfl | hp
  ·exact h.1
  ·exact ih h.2 p hp
theorem b6w {i:Nat} {o:Obj} (h:W.heap[i]? = some o) (ho:o.isCells = true):¬ c4q B W i:=by
 rintro ⟨_,o',h1,h2⟩
 rw [h] at h1
 cases h1
 rw [ho] at h2
 cases h2
theorem a1z (h:Bw w0 W) (hB:w0.heap.size ≤ B) (hf:Fr (c4q B W) W W'):Bw w0 W':=
 ⟨hf.os.trans h.os,hf.tape.trans h.tape,hf.output.trans h.output,Nat.le_trans h.size hf.size,fun k hk=>(hf.block k (lL hk h.size) (fun x=>by have:=x.1; omega)).trans (h.block k hk)⟩
theorem e8w (h:Kn w0 L W) (hB:w0.heap.size ≤ B) (hf:Fr (c4q B W) W W'):Kn w0 L W':=
 ⟨a1z h.below hB hf,a6c h.cells hf fun p hp=>⟨a2q h.cells p hp,by
  obtain ⟨o,h1,h2⟩:=c2o (b5l h.cells p hp)
  exact b6w h1 h2⟩⟩
theorem e3e (h:Mine W g n) (hf:Fr (c4q B W) W W'):Mine W' g n:=by
 obtain ⟨cur,T,h1,h2⟩:=h
 refine ⟨cur,T,?_,h2⟩
 rw [hf.block g (Array.getElem?_eq_some_iff.1 h1).1 (b6w h1 rfl)]
 exact h1
theorem b6x (h:KnM w0 L g n W) (hB:w0.heap.size ≤ B) (hf:Fr (c4q B W) W W'):KnM w0 L g n W':=⟨e8w h.kn hB hf,e3e h.mine hf,h.base,h.off⟩
theorem a0y (h:Bw W W'):KeepsFrom B W W':=⟨h.size,fun k o _ hk _=>by rw [h.block k (Array.getElem?_eq_some_iff.1 hk).1]; exact hk⟩
theorem a7u {g:Nat} (hg:W.grownBy W' (some g)) (hm:Mine W g n):KeepsFrom B W W':=⟨hg.size,fun k o _ hk ho=>by
 obtain ⟨cur,T,h1,_⟩:=hm
 rw [hg.block k (Array.getElem?_eq_some_iff.1 hk).1 (fun e=>by cases e; rw [h1] at hk; cases hk; cases ho)]
 exact hk⟩
theorem a6d {b:Bool} (hc:W.cell? ⟨g,0,none⟩ = some (.bool b)) (k:K (.bool b) W):∃ r,(do loadVar 4 (← asAddr (.pointer (some ⟨g,0,none⟩))):Sem Value).run Tryz.prog W = .ok r W ∧ K r W:=by
 refine ⟨.bool b,?_,k⟩
 show (Instr.loadAt 4 (.pointer (some ⟨g,0,none⟩))).run Tryz.prog W = _
 simp [go_sem,hc]
theorem c7j (w:World):(Instr.alloc 4 true (.tuple #[])).run Tryz.prog w = .ok (.pointer (some ⟨w.heap.size,0,none⟩)) (w.alloc (.cells [.bool false].toArray 4)):=by kernel_rfl
theorem d3k (w:World):(sizeOf 4).run Tryz.prog w = .ok 1 w:=by kernel_rfl
theorem a3w {T':TypeId} {b:Bool} (hk:KnM w0 L g 1 w) (k:∀ W,KnM w0 L g 1 W → w.grownBy W (some g) → W.cell? ⟨g,0,none⟩ = some (.bool b) → K undef W) :
  oM Tryz.prog (.store 4 (.tmp 0) (.tmp 1)) T' [.pointer (some ⟨g,0,none⟩),.bool b] K w:=by
 obtain ⟨W,e,hg,hm,hc⟩:=b0b (P:=Tryz.prog) (w:=w) (W:=w) (T:=4) (x:=.bool b) (xs:=[.bool b]) d3k rfl rfl (by intro u hu; rw [List.mem_singleton] at hu; subst hu; rfl) hk.mine
 rw [b0w,e]
 exact k W ⟨hk.kn.wrote hg hk.base hk.off,hm,hk.base,hk.off⟩ hg hc.1
theorem a9n {gv:Value} {goal:List Cls} (hg:a4f w gv goal) (k:∀ g W,Bw w W → w.heap.size ≤ g → g < W.heap.size → W.cell? ⟨g,0,none⟩ = some gv → K (.func (.func 158) #[] #[.pointer (some ⟨g,0,none⟩)]) W):a0a Tryz.prog 93 #[gv] K w:=by
 apply e5f
 unfold g0b
 obtain ⟨ad,c,rfl⟩:=hg.isSlice
 refine a0l (cs:=[.slice ad goal.length c]) rfl (.start w) fun b1 W hk hb1 hbb=>?_
 have h1:=a2q hk.cells _ (List.mem_singleton.2 rfl)
 have h2:=hk.cells.1
 refine Xa0 ?_
 exact k _ _ hb1 hbb h1 h2
theorem a5t {goal:List Cls} {gv:Value} {A:Array Value → (List Value → World → Prop) → WK} {Bd:Array Value → List Value → Env → (WK) → (WK) → WK} {Kd Kr:Nat → WK}
  (hg:a4f w gv goal) (hww:Bw w w') (hlt:g < w'.heap.size) (hc:w'.cell? ⟨g,0,none⟩ = some gv)
  (I Ix:List (Itm goal w) → WK) (M:Itm goal w → List Value → World → Prop)
  (hI:∀ pre W W',I pre W → Fr (c4q w'.heap.size W) W W' → I pre W') (hIx:∀ pre W W',Ix pre W → Fr (c4q w'.heap.size W) W W' → Ix pre W') (hM:∀ x l W W',M x l W → Fr (c4q w'.heap.size W) W W' → M x l W') (h0:I [] w')
  (hA:∀ pre x W,I pre W → A x.enc (fun l W1=>KeepsFrom w'.heap.size W W1 ∧ Below w.heap.size W W1 ∧ I pre W1 ∧ M x l W1) W)
  (hB:∀ pre x l u W,I pre W → M x l W → pre.length < (a1c 0 goal).length → Bd x.enc l u (fun W2=>KeepsFrom w'.heap.size W W2 ∧ Below w.heap.size W W2 ∧ I (pre ++ [x]) W2) (fun W2=>KeepsFrom w'.heap.size W W2 ∧ Ix (pre ++ [x]) W2) W)
  (hd:∀ D xs W,w'.heap.size ≤ D → xs.map Itm.at = a1c 0 goal → I xs W → W.heap[D]? = some (.deferred (some [])) → Kd D W)
  (hs:∀ D pre W,w'.heap.size ≤ D → pre.map Itm.at <+: a1c 0 goal → Ix pre W → W.heap[D]? = some (.deferred (some [])) → Kr D W) :
  Go.Sh.rangeM Tryz.prog (.func (.func 158) #[] #[.pointer (some ⟨g,0,none⟩)]) 2 w' A Bd Kd Kr:=
 ⟨158,_,Itm goal w,Itm.enc,Below w.heap.size,_,_,_,rfl,by kernel_rfl,d1m hg hww hlt hc,fun _=>rfl,fun h k=>h.trans k,fun X l o o' hl h _ _=>(belowK_b (n₀:=w.heap.size) hww.size X l o o' hl h (by assumption) (by assumption)),
  I,Ix,M,fun s X Y row h1 h2 h3=>hI _ _ _ h1 (b9y h2 h3),fun s X Y row h1 h2 h3=>hIx _ _ _ h1 (b9y h2 h3),fun x l s X Y row h1 h2 h3=>hM _ _ _ _ h1 (b9y h2 h3),h0,hA,hB,hd,hs⟩
theorem a7v (h:a0n W L) (hf:Fr (c4q B W) W W'):a0n W' L:=
 a6c h hf fun p hp=>⟨a2q h p hp,by
  obtain ⟨o,h1,h2⟩:=c2o (b5l h p hp)
  exact b6w h1 h2⟩
theorem a4t {a:Addr} {u:Value} (h:W.cell? a = some u) (hf:Fr (c4q B W) W W'):W'.cell? a = some u:=(a7v (L:=[(a,u)]) ⟨h,trivial⟩ hf).1
theorem b3z {T' T2:TypeId} (a:Int) (ad:Option Addr) (m c:Nat) (hk:KnM w0 L g n w)
  (k:∀ b W,KnM w0 (cellsOf L b 0 [.int .i64 a,.slice ad m c]) g n W → Bw w W → w.heap.size ≤ b → K (.pointer (some ⟨b,0,none⟩)) W) :
  oM Tryz.prog (.alloc 65) T' [] (fun v w=>oM Tryz.prog (.store 65 (.tmp 0) (.tmp 1)) T2 [v,.agg #[.int .i64 a,.slice ad m c]] (fun _ w=>K v w) w) w:=
 e1p e9l rfl e9k rfl rfl (c3a a ad m c) hk k
theorem d1n {f:Clm → Bool} {goal:List Cls}:(∀ p ∈ a1c 0 goal,f p.2.2 = true) → (goal.all fun c=>c.claims.all f) = true:=by
 intro h
 rw [List.all_eq_true]
 intro cl hcl
 rw [List.all_eq_true]
 intro c hc
 obtain ⟨i,hi,rfl⟩:=List.getElem_of_mem hcl
 obtain ⟨k,hk,rfl⟩:=List.getElem_of_mem hc
 exact h _ (b0h (gE hi) (gE hk))
theorem f4j {goal:List Cls} {w:World} (x:Itm goal w) {f:Clm → Bool} (h:f x.c = false):(goal.all fun c=>c.claims.all f) = false:=by
 rw [Bool.eq_false_iff]
 intro h2
 have h3:=List.all_eq_true.1 (List.all_eq_true.1 h2 x.cl (List.mem_of_getElem? x.hi)) x.c (List.mem_of_getElem? x.hk)
 rw [h] at h3
 cases h3
theorem d3l {goal:List Cls} {w:World} {xs:List (Itm goal w)} {f:Clm → Bool} (h:xs.map Itm.at = a1c 0 goal) (ha:∀ x ∈ xs,f x.c = true):(goal.all fun c=>c.claims.all f) = true:=by
 refine d1n fun p hp=>?_
 rw [← h,List.mem_map] at hp
 obtain ⟨x,hx,rfl⟩:=hp
 exact ha x hx
def VgJ (s:Stp) (goal:List Cls) (w0:World) (L:List (Addr × Value)) (rb:Nat) (vs:List Value) (W:World):Prop:=KnM w0 L rb 1 W ∧ ∃ (u0:Value) (i:Nat),vs = [u0,.int .i64 (i:Int)] ∧ i ≤ goal.length ∧ (goal.take i).all (a0z s) = true
theorem a9o (s:Stp) {sv gv:Value} {goal:List Cls} (hs:SetR w s sv) (hg:a4f w gv goal) (k:∀ w',Bw w w' → K (.bool (a1p s goal)) w'):a0a Tryz.prog 23 #[a6b s sv,gv] K w:=by
 apply e4w
 unfold f9s
 have hs':=hs
 have hg':=hg
 obtain ⟨ad,c,rfl⟩:=hs.ints.isSlice
 obtain ⟨gad,gc,rfl⟩:=hg.isSlice
 have hln:=hg.len
 refine a0l (cs:=a2r s (.slice ad s.bases.length c)) rfl (.start w) fun b1 W hk hb1 hbb=>?_
 refine a6l (zs:=[.bool false]) c7j rfl hk fun rb W hk hb2 hgb=>?_
 clear hb1 hb2
 have no:a1p s goal = false → ∀ {L:List (Addr × Value)} {W:World} {T:TypeId},KnM w L rb 1 W → oM Tryz.prog (.store 4 (.tmp 0) (.tmp 1)) T [.pointer (some ⟨rb,0,none⟩),.bool false] (fun _ w=>∃ r,(do loadVar 4 (← asAddr (.pointer (some ⟨rb,0,none⟩))):Sem Value).run Tryz.prog w = .ok r w ∧ K r w) W:=by
  intro hf L W T hk
  refine a3w hk fun W hk hgr hc=>a6d hc ?_
  have k:=k _ hk.below
  rwa [hf] at k
 refine Xa hk.cells ?_
 refine a4c s (hs'.next hk.below) (fun w2 h2=>?_)
 have hk:=hk.next h2
 cases hvs:a1x s with
 | false=>
  refine Xa0 ?_
  exact no (by simp [a1p,hvs]) hk
 | true=>
 by_cases h1:goal.length < 1
 ·have h1':(goal.length:Int) < 1:=by omega
  refine Xa @h1' ?_
  exact no (by simp [a1p,show ¬ 1 ≤ goal.length by omega]) hk
 by_cases h3:300 < goal.length
 ·have h3':(300:Int) < goal.length:=by omega
  have h1':¬ (goal.length:Int) < 1:=by omega
  refine Xa (An2 @h1' @h3') ?_
  exact no (by simp [a1p,show ¬ goal.length ≤ 300 by omega]) hk
 have h1':¬ (goal.length:Int) < 1:=by omega
 have h3':¬ (300:Int) < goal.length:=by omega
 refine Xa (An2 @h1' @h3') ?_
 refine ⟨VgJ s goal w _ rb,b2m goal.length,⟨hk,_,0,rfl,by omega,rfl⟩,?_⟩
 clear hk h2
 rintro _ _ W1 ⟨hk,u0,i,rfl,hi,hall⟩
 by_cases hin:i = goal.length
 ·rw [hin,List.take_length] at hall
  refine Xa0 ?_
  refine a9n (hg'.next (a0b a0i) hk.below) (fun cb W2 hb2 hcb hlt hcell=>?_)
  have hk:=hk.next hb2
  refine a5t (w:=w) hg' hk.below hlt hcell
   (fun pre W=>KnM w (cellsOf [] b1 0 (a2r s (.slice ad s.bases.length c))) rb 1 W ∧ ∀ x ∈ pre,a1q s x.c = true)
   (fun pre W=>Bw w W ∧ W.cell? ⟨rb,0,none⟩ = some (.bool false) ∧ ∃ x ∈ pre,a1q s x.c = false)
   (fun x l W=>∃ b,l = [.pointer (some ⟨b,0,none⟩)] ∧ a0n W (cellsOf [] b 0 (c9j x.c x.v)))
   (fun pre W W' h hf=>⟨b6x h.1 hk.below.size hf,h.2⟩)
   (fun pre W W' h hf=>⟨a1z h.1 hk.below.size hf,a4t h.2.1 hf,h.2.2⟩)
   (fun x l W W' h hf=>by obtain ⟨b,e,h⟩:=h; exact ⟨b,e,a7v h hf⟩)
   ⟨hk,fun x hx=>by cases hx⟩ ?_ ?_ ?_ ?_
  ·rintro pre x W ⟨hk,hp⟩
   obtain ⟨xad,xc,hxv⟩:=x.hv.eqs.isSlice
   have e:x.enc.getD 1 undef = .agg #[.int .i64 x.c.vars,.slice xad x.c.eqs.length xc]:=by rw [← hxv]; rfl
   try dsimp only
   rw [e]
   refine a4u _ _ _ _ (.start W) (fun b W' hk' hb hgb=>?_)
   exact ⟨a0y hb,hb.mono hk.below.size,⟨hk.next hb,hp⟩,b,rfl,by rw [hxv]; exact hk'.cells⟩
  ·rintro pre x l u W ⟨hk,hp⟩ ⟨b,rfl,hm⟩ hlen
   obtain ⟨xad,xc,hxv⟩:=x.hv.eqs.isSlice
   rw [hxv] at hm
   try dsimp only
   refine Xa (An2 hk.cells @hm) ?_
   have hx':=x.hv.next hk.below
   rw [hxv] at hx'
   refine a8h s x.c (hs'.next hk.below) hx' (fun W' hb=>?_)
   have hk2:=hk.next hb
   cases hcl:a1q s x.c with
   | false=>
    refine Xa0 ?_
    refine a3w hk2 fun W'' hk3 hgr hc=>?_
    exact ⟨(a0y hb).trans (a7u hgr hk2.mine),hk3.below,hc,x,by simp,hcl⟩
   | true=>
    refine Xa0 ?_
    refine ⟨a0y hb,hb.mono hk.below.size,hk2,fun y hy=>?_⟩
    rcases List.mem_append.1 hy with hy | hy
    ·exact hp y hy
    ·rw [List.mem_singleton.1 hy]; exact hcl
  ·rintro D xs W hD hxs ⟨hk2,hp⟩ hh
   have hgD:rb < D:=lL (lL (a5l hk.mine) (rL)) hD
   refine a3w hk2 fun W'' hk3 hgr hc=>?_
   have hh2:W''.heap[D]? = some (.deferred (some [])):=by
    rw [hgr.block D (Array.getElem?_eq_some_iff.1 hh).1 (fun e=>by cases e; omega)]; exact hh
   have hf:=a9m (B:=W2.heap.size) (.deferred none) hD hh2 rfl
   refine ⟨hh2,a6d (a4t hc hf) ?_⟩
   have k:=k _ (a1z hk3.below hk.below.size hf)
   have e:a1p s goal = true:=by
    unfold a1p
    rw [hvs,hall,d3l hxs hp]
    simp
    omega
   rwa [e] at k
  ·rintro D pre W hD hpre ⟨hk3,hc,x,hx,hcl⟩ hh
   have hf:=a9m (B:=W2.heap.size) (.deferred none) hD hh rfl
   refine ⟨hh,a6d (a4t hc hf) ?_⟩
   have k:=k _ (a1z hk3 hk.below.size hf)
   have e:a1p s goal = false:=by
    unfold a1p
    rw [f4j x hcl]
    simp
   rwa [e] at k
 have e1:goal[i]? = some goal[i]:=gE (by omega)
 obtain ⟨b1,o1,rfl,hlt1,cs1,_,hcell1,v1,rfl,hI1,hrow1⟩:=hg'.at (i:=i) (by omega)
 have c01:=hcell1 0 _ rfl
 have c11:=hcell1 1 _ rfl
 simp only [Nat.add_zero] at c01
 have bad:a0z s goal[i] = false → a1p s goal = false:=by
  intro h
  have:goal.all (a0z s) = false:=by
   rw [Bool.eq_false_iff]
   intro h2
   have:=List.all_eq_true.1 h2 goal[i] (List.getElem_mem _)
   rw [h] at this
   cases this
  simp [a1p,this]
 have hst:a0z s goal[i] = true → (goal.take (i + 1)).all (a0z s) = true:=by
  intro h
  rw [List.take_add_one,List.all_append,hall,e1]
  simp [h]
 generalize goal[i] = cl at *
 obtain ⟨ad1,cp1,rfl⟩:=hrow1.isSlice
 have hln1:=hrow1.len
 have hll1:(i:Int) < goal.length:=by omega
 refine Xb4 (An3 ((hk.below.cell hlt1).trans c01) ((hk.below.cell hlt1).trans c11) @hll1) ?_
 refine b3z _ _ _ _ hk (fun b2 W2 hk2 hb2 hg2=>?_)
 have hk3:=hk.next hb2
 by_cases a1:cl.claims.length < 1
 ·have a1':(cl.claims.length:Int) < 1:=by omega
  refine Xa (An2 hk2.cells @a1') ?_
  exact no (bad (by simp [a0z,show ¬ 1 ≤ cl.claims.length by omega])) hk3
 have a1':¬ (cl.claims.length:Int) < 1:=by omega
 by_cases a2:16 < cl.claims.length
 ·have a2':(16:Int) < cl.claims.length:=by omega
  refine Xa (An3 hk2.cells @a1' @a2') ?_
  exact no (bad (by simp [a0z,show ¬ cl.claims.length ≤ 16 by omega])) hk3
 have a2':¬ (16:Int) < cl.claims.length:=by omega
 by_cases a3:¬ (cl.claims.length:Int) < s.g.Q
 ·have a3':s.g.Q ≤ (cl.claims.length:Int):=by omega
  refine Xa (An4 hk2.cells @a1' @a2' @a3') ?_
  exact no (bad (by simp [a0z,a3])) hk3
 have a3':¬ s.g.Q ≤ (cl.claims.length:Int):=by omega
 by_cases a4:cl.need < 1
 ·refine Xa (An5 hk2.cells @a1' @a2' @a3' @a4) ?_
  exact no (bad (by simp [a0z,show ¬ 1 ≤ cl.need by omega])) hk3
 by_cases a5:(cl.claims.length:Int) < cl.need
 ·refine Xa (An6 hk2.cells @a1' @a2' @a3' @a4 @a5) ?_
  exact no (bad (by simp [a0z,show ¬ cl.need ≤ cl.claims.length by omega])) hk3
 refine Xa (An6 hk2.cells @a1' @a2' @a3' @a4 @a5) ?_
 refine ⟨⟨hk3,_,i + 1,rfl,by omega,hst ?_⟩,by simp only [a1u]; omega⟩
 unfold a0z
 simp
 omega
theorem f8b (w:World):(Instr.alloc 127 true (.tuple #[])).run Tryz.prog w = .ok (.pointer (some ⟨w.heap.size,0,none⟩)) (w.alloc (.cells [.int .i64 0,.int .i64 0].toArray 127)):=by kernel_rfl
theorem f8c (w:World):(sizeOf 127).run Tryz.prog w = .ok 2 w:=by kernel_rfl
theorem f4k (a b:Int):∀ u ∈ ([.int .i64 a,.int .i64 b]:List Value),u.oneCell' = true:=by
 intro u hu
 simp only [List.mem_cons,List.not_mem_nil,or_false] at hu
 rcases hu with rfl | rfl <;> rfl
theorem b2p {T' T2:TypeId} (a b:Int) (hk:Kn w0 L w)
  (k:∀ p W,Kn w0 (cellsOf L p 0 [.int .i64 a,.int .i64 b]) W → Bw w W → w.heap.size ≤ p → K (.pointer (some ⟨p,0,none⟩)) W) :
  oM Tryz.prog (.alloc 127) T' [] (fun v w=>oM Tryz.prog (.store 127 (.tmp 0) (.tmp 1)) T2 [v,.agg #[.int .i64 a,.int .i64 b]] (fun _ w=>K v w) w) w:=
 a5r f8b rfl f8c rfl rfl (f4k a b) hk k
theorem g3g {goal:List Cls} (x:Itm goal w):x.enc.getD 0 undef = .agg #[.int .i64 x.i,.int .i64 x.k]:=rfl
theorem g3y {goal:List Cls} (x:Itm goal w):x.enc.getD 1 undef = .agg #[.int .i64 x.c.vars,x.v]:=rfl
def PcM {goal:List Cls} (x:Itm goal w) (l:List Value) (W:World):Prop:=∃ p b,l = [.pointer (some ⟨p,0,none⟩),.pointer (some ⟨b,0,none⟩)] ∧ a0n W (cellsOf (cellsOf [] p 0 [.int .i64 x.i,.int .i64 x.k]) b 0 (c9j x.c x.v))
def ShJ (s:Stp) (goal:List Cls) (ds:L2) (ns:L3) (w0:World) (L:List (Addr × Value)) (rb:Nat) (vs:List Value) (W:World):Prop:=KnM w0 L rb 1 W ∧ ∃ (u0:Value) (i:Nat),vs = [u0,.int .i64 (i:Int)] ∧ i ≤ goal.length ∧
 ∀ (j:Nat) (c:Cls) (d:List Int) (n:L2),j < i → goal[j]? = some c → ds[j]? = some d → ns[j]? = some n → a2z s c d n = true
theorem c4r (s:Stp) {sv gv dv nv:Value} {goal:List Cls} {ds:L2} {ns:L3} (hs:SetR w s sv) (hg:a4f w gv goal) (hd:a0s w dv ds) (hn:a2j w nv ns)
  (k:∀ w',Bw w w' → K (.bool (a0u s goal ds ns)) w'):a0a Tryz.prog 91 #[a6b s sv,gv,dv,nv] K w:=by
 apply e4z
 unfold f9v
 have hs':=hs
 have hg':=hg
 obtain ⟨ad,c,rfl⟩:=hs.ints.isSlice
 obtain ⟨gad,gc,rfl⟩:=hg.isSlice
 obtain ⟨dad,dc,rfl⟩:=hd.isSlice
 obtain ⟨nad,nc,rfl⟩:=hn.isSlice
 have hlg:=hg.len
 have hld:=hd.len
 have hln:=hn.len
 refine a0l (cs:=a2r s (.slice ad s.bases.length c)) rfl (.start w) fun b1 W hk hb1 hbb=>?_
 refine a0l (cs:=[.slice nad ns.length nc]) rfl hk fun b2 W hk hb2 hbb2=>?_
 refine a6l (zs:=[.bool false]) c7j rfl hk fun rb W hk hb3 hgb=>?_
 clear hb1 hb2 hb3
 have no:a0u s goal ds ns = false → ∀ {L:List (Addr × Value)} {W:World} {T:TypeId},KnM w L rb 1 W → oM Tryz.prog (.store 4 (.tmp 0) (.tmp 1)) T [.pointer (some ⟨rb,0,none⟩),.bool false] (fun _ w=>∃ r,(do loadVar 4 (← asAddr (.pointer (some ⟨rb,0,none⟩))):Sem Value).run Tryz.prog w = .ok r w ∧ K r w) W:=by
  intro hf L W T hk
  refine a3w hk fun W hk hgr hc=>a6d hc ?_
  have k:=k _ hk.below
  rwa [hf] at k
 by_cases e1:¬ ds.length = goal.length
 ·have e1':¬ (ds.length:Int) = goal.length:=by omega
  refine Xa (An2 hk.cells @e1') ?_
  exact no (by simp [a0u,e1]) hk
 have e1:ds.length = goal.length:=by omega
 have e1':(ds.length:Int) = goal.length:=by omega
 by_cases e2:¬ ns.length = goal.length
 ·have e2':¬ (ns.length:Int) = goal.length:=by omega
  refine Xa (An3 hk.cells @e1' @e2') ?_
  exact no (by simp [a0u,e2]) hk
 have e2:ns.length = goal.length:=by omega
 have e2':(ns.length:Int) = goal.length:=by omega
 refine Xa (An3 hk.cells @e1' @e2') ?_
 refine ⟨ShJ s goal ds ns w _ rb,b2m goal.length,⟨hk,_,0,rfl,by omega,fun j c d n hj=>by omega⟩,?_⟩
 clear hk
 rintro _ _ W1 ⟨hk,u0,i,rfl,hi,hall⟩
 by_cases hin:i = goal.length
 ·subst hin
  have hall':∀ (j:Nat) (c:Cls) (d:List Int) (n:L2),goal[j]? = some c → ds[j]? = some d → ns[j]? = some n → a2z s c d n = true:=fun j c d n h1 h2 h3=>hall j c d n (gS h1).1 h1 h2 h3
  refine Xa0 ?_
  refine a9n (hg'.next (a0b a0i) hk.below) (fun cb W2 hb2 hcb hlt hcell=>?_)
  have hk:=hk.next hb2
  refine a5t (w:=w) hg' hk.below hlt hcell
   (fun pre W=>KnM w (cellsOf (cellsOf [] b1 0 (a2r s (.slice ad s.bases.length c))) b2 0 [.slice nad ns.length nc]) rb 1 W ∧ ∀ x ∈ pre,∀ n l,ns[x.i]? = some n → n[x.k]? = some l → a0g s l x.c.vars = true)
   (fun pre W=>Bw w W ∧ W.cell? ⟨rb,0,none⟩ = some (.bool false) ∧ a0u s goal ds ns = false)
   PcM
   (fun pre W W' h hf=>⟨b6x h.1 hk.below.size hf,h.2⟩)
   (fun pre W W' h hf=>⟨a1z h.1 hk.below.size hf,a4t h.2.1 hf,h.2.2⟩)
   (fun x l W W' h hf=>by obtain ⟨p,b,e,h⟩:=h; exact ⟨p,b,e,a7v h hf⟩)
   ⟨hk,fun x hx=>by cases hx⟩ ?_ ?_ ?_ ?_
  ·rintro pre x W ⟨hk,hp⟩
   obtain ⟨xad,xc,hxv⟩:=x.hv.eqs.isSlice
   try dsimp only
   rw [g3g,g3y,hxv]
   refine b2p _ _ (.start W) (fun p W1 hk1 hb1 hgp=>?_)
   refine a4u _ _ _ _ hk1 (fun b W2 hk2 hb2 hgb=>?_)
   have hb:=hk2.below
   exact ⟨a0y hb,hb.mono hk.below.size,⟨hk.next hb,hp⟩,p,b,rfl,by rw [hxv]; exact hk2.cells⟩
  ·rintro pre x l u W ⟨hk,hp⟩ ⟨p,b,rfl,hm⟩ hlen
   obtain ⟨xad,xc,hxv⟩:=x.hv.eqs.isSlice
   rw [hxv] at hm
   have hi:=(gS x.hi).1
   have hki:=(gS x.hk).1
   have en:ns[x.i]? = some ns[x.i]:=gE (by omega)
   have ed:ds[x.i]? = some ds[x.i]:=gE (by omega)
   have hsh:=hall' _ _ _ _ x.hi ed en
   simp only [a2z,bA,dE] at hsh
   obtain ⟨bn,on,rfl,hltn,csn,_,hcelln,vn,rfl,hrown⟩:=hn.at (i:=x.i) (by omega)
   have cn:=hcelln 0 _ rfl
   simp only [Nat.add_zero,Nat.mul_one] at cn
   have en':∃ n,ns[x.i] = n:=⟨_,rfl⟩
   obtain ⟨n,en'⟩:=en'
   rw [en'] at hrown en hsh
   have hkn:x.k < n.length:=by omega
   obtain ⟨had,hc',rfl⟩:=hrown.isSlice
   have el:n[x.k]? = some n[x.k]:=gE hkn
   obtain ⟨bl,ol,rfl,hltl,csl,_,hcelll,vl,rfl,hrowl⟩:=hrown.at (i:=x.k) hkn
   have cl:=hcelll 0 _ rfl
   simp only [Nat.add_zero,Nat.mul_one] at cl
   have hi1:(x.i:Int) < ns.length:=by omega
   have hi2:(x.k:Int) < n.length:=by omega
   generalize n[x.k] = l at *
   try dsimp only
   have hk9:=hk.drew
   have hb9:Below W.heap.size W { W with drawn:=W.drawn + 1 }:=.drawn
   have hm:=a0q hm (fun a ha=>hb9.cell ha)
   refine ⟨Nx { W with drawn:=W.drawn + 1 },bR,rfl,?_⟩
   generalize ({ W with drawn:=W.drawn + 1 }:World) = W9 at hk9 hb9 hm ⊢
   refine Xf (fun W0 hW0=>An4 ((hk9.next hW0).cells) (a0q hm (fun a ha=>hW0.cell ha)) (((hk9.next hW0).below.cell hltn).trans cn) (((hk9.next hW0).below.cell hltl).trans cl)) (An2 @hi1 @hi2) ?_
   refine ⟨Nx,fun W3 h3=>?_⟩
   have hk3:=hk9.next h3
   refine a4l s x.c.vars (hs'.next hk3.below) (hrowl.next hk3.below) (fun W4 hb4=>?_)
   have hk4:=hk3.next hb4
   have hb:=(hb9.on h3).on hb4
   cases hcl:a0g s l x.c.vars with
   | false=>
    refine Xa0 ?_
    refine a3w hk4 fun W'' hk5 hgr hc=>?_
    refine ⟨(a0y hb).trans (a7u hgr hk4.mine),hk5.below,hc,?_⟩
    rw [Bool.eq_false_iff]
    intro hsm
    unfold a0u at hsm
    simp only [bA] at hsm
    have:=a8a (a3d hsm.2 x.hi ed en).2 x.hk el
    rw [hcl] at this
    cases this
   | true=>
    refine Xa0 ?_
    refine ⟨a0y hb,hb.mono hk.below.size,hk4,fun y hy=>?_⟩
    rcases List.mem_append.1 hy with hy | hy
    ·exact hp y hy
    ·rw [List.mem_singleton.1 hy]
     intro n' l' h1 h2
     rw [en] at h1
     cases h1
     rw [el] at h2
     cases h2
     exact hcl
  ·rintro D xs W hD hxs ⟨hk2,hp⟩ hh
   have hgD:rb < D:=lL (a5l hk.mine) hD
   refine a3w hk2 fun W'' hk3 hgr hc=>?_
   have hh2:W''.heap[D]? = some (.deferred (some [])):=by
    rw [hgr.block D (Array.getElem?_eq_some_iff.1 hh).1 (fun e=>by cases e; omega)]; exact hh
   have hf:=a9m (B:=W2.heap.size) (.deferred none) hD hh2 rfl
   refine ⟨hh2,a6d (a4t hc hf) ?_⟩
   have k:=k _ (a1z hk3.below hk.below.size hf)
   have e:a0u s goal ds ns = true:=by
    unfold a0u
    rw [decide_eq_true e1,decide_eq_true e2,b4s e1 e2 (fun i c d n h1 h2 h3=>⟨hall' i c d n h1 h2 h3,fun k' x l h4 h5=>?_⟩)]
    ·rfl
    ·have hm:=b0h h1 h4
     rw [← hxs,List.mem_map] at hm
     obtain ⟨y,hy,hye⟩:=hm
     simp only [Itm.at,Prod.mk.injEq] at hye
     obtain ⟨rfl,rfl,rfl⟩:=hye
     exact hp y hy n l h3 h5
   rwa [e] at k
  ·rintro D pre W hD hpre ⟨hk3,hc,hcl⟩ hh
   have hf:=a9m (B:=W2.heap.size) (.deferred none) hD hh rfl
   refine ⟨hh,a6d (a4t hc hf) ?_⟩
   have k:=k _ (a1z hk3 hk.below.size hf)
   rwa [hcl] at k
 have eg:goal[i]? = some goal[i]:=gE (by omega)
 have ed:ds[i]? = some ds[i]:=gE (by omega)
 have en:ns[i]? = some ns[i]:=gE (by omega)
 obtain ⟨b1',o1,rfl,hlt1,cs1,_,hcell1,v1,rfl,hI1,hrow1⟩:=hg'.at (i:=i) (by omega)
 obtain ⟨bd,od,rfl,hltd,csd,_,hcelld,vd,rfl,hrowd⟩:=hd.at (i:=i) (by omega)
 obtain ⟨bn,on,rfl,hltn,csn,_,hcelln,vn,rfl,hrown⟩:=hn.at (i:=i) (by omega)
 have c01:=hcell1 0 _ rfl
 have c11:=hcell1 1 _ rfl
 have cd:=hcelld 0 _ rfl
 have cn:=hcelln 0 _ rfl
 simp only [Nat.add_zero,Nat.mul_one] at c01 cd cn
 generalize goal[i] = cl at *
 generalize ds[i] = d at *
 generalize ns[i] = nn at *
 have bad:a2z s cl d nn = false → a0u s goal ds ns = false:=by
  intro h
  rw [Bool.eq_false_iff]
  intro hsm
  unfold a0u at hsm
  simp only [bA] at hsm
  have:=(a3d hsm.2 eg ed en).1
  rw [h] at this
  cases this
 obtain ⟨ad1,cp1,rfl⟩:=hrow1.isSlice
 obtain ⟨ad2,cp2,rfl⟩:=hrown.isSlice
 have hln1:=hrow1.len
 have hln2:=hrown.len
 have hll1:(i:Int) < goal.length:=by omega
 have hll2:(i:Int) < ds.length:=by omega
 have hll3:(i:Int) < ns.length:=by omega
 refine Xb4 (An3 ((hk.below.cell hlt1).trans c01) ((hk.below.cell hlt1).trans c11) @hll1) ?_
 refine b3z _ _ _ _ hk (fun b4 W4 hk4 hb4 hg4=>?_)
 have hk:=(hk.next hb4).drew
 have hk4:=hk4.drew
 refine ⟨Nx { W4 with drawn:=W4.drawn + 1 },bR,rfl,?_⟩
 generalize ({ W4 with drawn:=W4.drawn + 1 }:World) = W5 at hk hk4 ⊢
 refine Xf (fun W0 hW0=>An2 ((hk4.next hW0).cells) (((hk4.next hW0).below.cell hltd).trans cd)) @hll2 ?_
 refine ⟨Nx,?_⟩
 cases hex:a0g s d cl.claims.length with
 | false=>
  apply a1i (x:=.bool false)
  ·intro w1 h1
   exact a4l s _ (hs'.next (hk.next h1).below) (hrowd.next (hk.next h1).below) (fun w2 h2=>by rw [hex]; exact ⟨h1.on h2,h2,rfl⟩)
  refine Xd0 ?_
  (intro w9 h9; repeat (intro v9 e9; try (obtain rfl:=e9)))
  refine Xa0 ?_
  exact no (bad (by simp [a2z,hex])) (hk.next h9)
 | true=>
  apply a1i (x:=.bool true)
  ·intro w1 h1
   exact a4l s _ (hs'.next (hk.next h1).below) (hrowd.next (hk.next h1).below) (fun w2 h2=>by rw [hex]; exact ⟨h1.on h2,h2,rfl⟩)
  refine Xh (fun w9 h9=>An2 ((hk4.next h9).cells) (((hk4.next h9).below.cell hltn).trans cn)) @hll3 ?_
  by_cases e5:¬ nn.length = cl.claims.length
  ·have e5':¬ (nn.length:Int) = cl.claims.length:=by omega
   (intro w9 h9; repeat (intro v9 e9; try (obtain rfl:=e9)))
   refine Xa @e5' ?_
   exact no (bad (by simp [a2z,e5])) (hk.next h9)
  ·have e5:nn.length = cl.claims.length:=by omega
   have e5':(nn.length:Int) = cl.claims.length:=by omega
   (intro w9 h9; repeat (intro v9 e9; try (obtain rfl:=e9)))
   refine Xa @e5' ?_
   refine ⟨⟨hk.next h9,_,i + 1,rfl,by omega,fun j c' d' n' hj h1 h2 h3=>?_⟩,by simp only [a1u]; omega⟩
   by_cases hji:j < i
   ·exact hall j c' d' n' hji h1 h2 h3
   ·obtain rfl:j = i:=by omega
    rw [eg] at h1
    rw [ed] at h2
    rw [en] at h3
    cases h1; cases h2; cases h3
    simp [a2z,hex,e5]
def CmJ (l:List Int) (w0:World) (vs:List Value) (W:World):Prop:=Bw w0 W ∧ ∃ (v:Value) (i:Nat),vs = [v,.int .i64 (i:Int)] ∧ i ≤ l.length ∧ OwnI W w0.heap.size v (l.take i)
theorem b1a (s:Stp) (c:Clm) (dare:Int) (an:List Int) {sv cv av:Value} (hs:SetR w s sv) (hc:ClmR w c cv) (hd:I64 dare) (ha:Ints w av an) (hlen:c.eqs.length < 1000) (hfit:∀ e ∈ c.eqs,e.terms.length < 1000 ∧ ∀ t ∈ e.terms,0 ≤ t.var ∧ t.var < an.length)
  (k:∀ v w',Bw w w' → OwnI w' w.heap.size v (a0p s c dare an) → K v w'):a0a Tryz.prog 141 #[a6b s sv,d1j c cv,.int .i64 dare,av] K w:=by
 apply d5x
 unfold f0k
 have hs':=hs
 obtain ⟨ad,cc,rfl⟩:=hs.ints.isSlice
 obtain ⟨ead,ec,rfl⟩:=hc.eqs.isSlice
 have hle:=hc.eqs.len
 refine a0l (cs:=a2r s (.slice ad s.bases.length cc)) rfl (.start w) fun b1 W hk hb1 hbb=>?_
 refine a0l (cs:=c9j c (.slice ead c.eqs.length ec)) rfl hk fun b2 W hk hb2 hbb2=>?_
 clear hb1 hb2
 have hcl:(a0p s c dare an).length = c.eqs.length:=by simp [a0p]
 refine Xa hk.cells ?_
 refine ⟨CmJ (a0p s c dare an) W,b2m c.eqs.length,⟨bR,_,0,rfl,by omega,a3u⟩,?_⟩
 rintro _ _ w1 ⟨h1,v,i,rfl,hi,ho⟩
 rw [hcl] at hi
 have hk1:=hk.next h1
 by_cases hin:i = c.eqs.length
 ·refine Xa0 ?_
  rw [List.take_of_length_le (by omega)] at ho
  exact k _ _ hk1.below (a2b ho (fun j hj=>Nat.le_trans hk.below.size (a0d ho hj).2.1))
 have ee:c.eqs[i]? = some c.eqs[i]:=gE (by omega)
 have hfe:=hfit _ (List.getElem_mem (by omega:i < c.eqs.length))
 have hst:(a0p s c dare an)[i]? = some (b9q s.g (a8b s c.eqs[i] an) (a5u s.g c.eqs[i].target dare)):=by
  unfold a0p
  rw [List.getElem?_map,ee]
  rfl
 obtain ⟨bC,oC,rfl,hltC,cvC,c0C,c1C,hrowC,hIC⟩:=hc.eqs.at (i:=i) (by omega)
 generalize c.eqs[i] = e at *
 obtain ⟨cadC,ccC,rfl⟩:=hrowC.isSlice
 have hllC:(i:Int) < c.eqs.length:=by omega
 refine Xb4 (An3 ((hk1.below.cell hltC).trans c0C) ((hk1.below.cell hltC).trans c1C) @hllC) ?_
 refine b2n e _ _ _ hk1 (fun b3 W3 hk3 hb3 hg3=>?_)
 have ho:=(ho.keep hb3).keep .drawn
 have h3:=(h1.on hb3).on (.drawn (B:=W3.heap.size))
 have hk:=hk3.drew
 refine ⟨Nx { W3 with drawn:=W3.drawn + 1 },bR,rfl,?_⟩
 generalize ({ W3 with drawn:=W3.drawn + 1 }:World) = W4 at hk ho h3 ⊢
 refine Xc (fun W0 hW0=>(hk.next hW0).cells) ?_
 refine ⟨Nx,?_⟩
 apply a1i
 ·intro w5 h5
  exact d3i s e an (hs'.next (hk.next h5).below) (hrowC.next a2y (hk.next h5).below) hIC (ha.next (hk.next h5).below) hfe.1 (fun t ht=>by have:=hfe.2 t ht; omega) (fun w6 h6=>⟨h5.on h6,h6,rfl⟩)
 apply a1i
 ·intro w5 h5
  exact c9v _ _ _ (fun w6 h6=>⟨h5.on h6,h6,rfl⟩)
 apply a1i
 ·rintro w5 h5 _ rfl _ rfl
  exact f5d _ _ _ (fun w6 h6=>⟨h5.on h6,h6,rfl⟩)
 refine a3i (fun v w'=>Ints w' v [b9q s.g (a8b s e an) (a5u s.g e.target dare)]) (fun v w w1 hS h=>h.next hS) ?_ ?_
 ·rintro w5 h5 _ rfl
  exact mk1 _ (a6o _ _ _) (fun v w6 h6 hi=>⟨h5.on h6,h6,hi⟩)
 rintro w9 h9 _ rfl _ rfl _ rfl v9 hi9
 refine a9u (ho.keep h9) (Nat.le_trans h3.size h9.size) hi9 (by simp only [List.length_take]; omega) (fun v10 w10 ho10 h10=>?_)
 refine Xa0 ?_
 refine ⟨⟨(h3.on h9).trans h10,_,i + 1,rfl,by omega,?_⟩,by simp only [a1u]; omega⟩
 rw [← a2s hst]
 exact ho10
theorem e3f {b:Option Nat} (hg:W.grownBy W' b) (hb:∀ i,b = some i → ∃ cur T,W.heap[i]? = some (.cells cur T (0,0))):KeepsFrom B W W':=⟨hg.size,fun k o _ hk ho=>by
 rw [hg.block k (Array.getElem?_eq_some_iff.1 hk).1 (fun e=>by
  obtain ⟨cur,T,h1⟩:=hb k (by first | exact e | exact e.symm)
  rw [h1] at hk; cases hk; cases ho)]
 exact hk⟩
theorem f8d {b:Option Nat} (h:KnM w0 L g n W) (hg:W.grownBy W' b) (hb:∀ i,b = some i → B ≤ i) (h1:g < B) (h2:∀ p ∈ L,p.1.block < B) (h3:w0.heap.size ≤ B):KnM w0 L g n W':=by
 have hf:=Fr.of_by' hg
 refine ⟨⟨h.below.grown hg h.below.size (fun k hk=>by have:=hb k (by first | exact hk | exact hk.symm); omega),a6c h.cells hf (fun p hp=>⟨a2q h.cells p hp,fun e=>by have:=hb _ e; have:=h2 p hp; omega⟩)⟩,?_,h.base,h.off⟩
 obtain ⟨cur,T,h4,h5⟩:=h.mine
 exact ⟨cur,T,by rw [hf.block g (Array.getElem?_eq_some_iff.1 h4).1 (fun e=>by have:=hb _ e; omega)]; exact h4,h5⟩
structure VarI (w0:World) (L:List (Addr × Value)) (cb B:Nat) (l:List Int) (W:World):Prop where
 knm:KnM w0 L cb 1 W
 ex:∃ ad c,W.cell? ⟨cb,0,none⟩ = some (.slice ad l.length c) ∧ OwnI W B (.slice ad l.length c) l
 b1:cb < B
 b2:∀ p ∈ L,p.1.block < B
 b3:w0.heap.size ≤ B
 b4:B ≤ W.heap.size
variable {cb:Nat} {l m:List Int}
theorem VarI.next (h:VarI w0 L cb B l W) (hb:Bw W W'):VarI w0 L cb B l W':=by
 obtain ⟨ad,c,h1,h2⟩:=h.ex
 exact ⟨h.knm.next hb,⟨ad,c,(hb.cell (a5l h.knm.mine)).trans h1,h2.keep hb⟩,h.b1,h.b2,h.b3,Nat.le_trans h.b4 hb.size⟩
theorem VarI.own {C:Nat} (h:VarI w0 L cb B l W) (hC:w0.heap.size ≤ C) (hf:Fr (c4q C W) W W'):VarI w0 L cb B l W':=by
 obtain ⟨ad,c,h1,h2⟩:=h.ex
 refine ⟨b6x h.knm hC hf,⟨ad,c,a4t h1 hf,a3r h2 (fun i hi=>?_)⟩,h.b1,h.b2,h.b3,Nat.le_trans h.b4 hf.size⟩
 obtain ⟨h3,_,cur,h4⟩:=a0d h2 hi
 exact hf.block i h3 (b6w h4 rfl)
theorem f4l (w:World):(Instr.alloc 24 true (.tuple #[])).run Tryz.prog w = .ok (.pointer (some ⟨w.heap.size,0,none⟩)) (w.alloc (.cells [.slice none 0 0].toArray 24)):=by kernel_rfl
theorem VarI.add {C:Nat} {ad:Option Addr} {c:Nat} {xv:Value} {T T2:TypeId} {Q:WK} (h:VarI w0 L cb B l W) (ho:OwnI W B (.slice ad l.length c) l) (hx:Ints W xv m) (hl:l.length + m.length < 1099511627776)
  (k:∀ W2,VarI w0 L cb B (l ++ m) W2 → KeepsFrom C W W2 → Below w0.heap.size W W2 → Q W2) :
  oM Tryz.prog (.call { callee:=.builtin .append,args:=#[.tmp 0,.tmp 1],argTypes:=#[24,24] }) T [.slice ad l.length c,xv] (fun v' w=>oM Tryz.prog (.store 24 (.tmp 0) (.tmp 1)) T2 [.pointer (some ⟨cb,0,none⟩),v'] (fun _ w=>Q w) w) W:=by
 refine a7a ho h.b4 hx hl (fun v' w1 ho1 hg1 hv1=>?_)
 obtain ⟨ad',c',rfl⟩:=a2m ho1
 have hbB:∀ i,(Value.slice ad l.length c).ownBlock = some i → B ≤ i:=fun i e=>(a0d ho e).2.1
 have hk1:=f8d h.knm hg1 hbB h.b1 h.b2 h.b3
 obtain ⟨W2,e,hg2,hm2,hc2⟩:=b0b (P:=Tryz.prog) (w:=w1) (W:=w1) (T:=24) (x:=.slice ad' (l ++ m).length c') (xs:=[.slice ad' (l ++ m).length c']) f5k rfl rfl (by intro u hu; rw [List.mem_singleton] at hu; subst hu; rfl) hk1.mine
 rw [b0w,e]
 have hk2:KnM w0 L cb 1 W2:=⟨hk1.kn.wrote hg2 hk1.base hk1.off,hm2,hk1.base,hk1.off⟩
 have hB1:Below w0.heap.size W w1:=(Below.refl w0.heap.size W).grown hg1 h.knm.below.size (fun k hk=>by have:=hbB k (by first | exact hk | exact hk.symm); have:=h.b3; omega)
 refine k W2 ⟨hk2,⟨ad',c',hc2.1,a3r ho1 (fun i hi=>hg2.block i (a0d ho1 hi).1 (fun e=>by cases e; have:=(a0d ho1 hi).2.1; have:=h.b1; omega))⟩,h.b1,h.b2,h.b3,Nat.le_trans h.b4 (Nat.le_trans hg1.size hg2.size)⟩ ?_ ?_
 ·exact (e3f hg1 (fun i e=>by obtain ⟨_,_,cur,h4⟩:=a0d ho e; exact ⟨cur,_,h4⟩)).trans (a7u hg2 hk1.mine)
 ·exact hB1.grown hg2 (Nat.le_trans h.knm.below.size hB1.size) (fun k hk=>by have:=hk1.base; cases hk; omega)
end
section
variable {K:VK} {w w' w0 W W':World} {L:List (Addr × Value)} {g n B:Nat} {row:Option Nat}
theorem d1o {T':TypeId} (hk:Kn w0 L w) (k:∀ cb W,VarI w0 L cb W.heap.size [] W → Bw w W → K (.pointer (some ⟨cb,0,none⟩)) W):oM Tryz.prog (.alloc 24) T' [] K w:=by
 refine a1d f4l (fun g W hb hg hh=>k g W ⟨⟨hk.next hb,⟨_,_,hh,rfl⟩,Nat.le_trans hk.below.size hg,fun p hp=>?_⟩,⟨none,0,hh.cell 0 (by simp),a3u⟩,hh.lt,fun p hp=>?_,?_,rL⟩ hb)
 ·have:=a2q hk.cells p hp; omega
 ·have:=a2q hk.cells p hp; have:=hb.size; omega
 ·exact Nat.le_trans hk.below.size hb.size
theorem c2p {t t' T:TypeId} (a b:a5e) (h:a.length + b.length ≤ 1099511627776) (k:K (.string ⟨(a ++ b).toArray⟩) w):oM Tryz.prog (.binOp .add t (.tmp 0) (.tmp 1) t') T [.string ⟨a.toArray⟩,.string ⟨b.toArray⟩] K w:=by
 rw [f7h]
 refine ⟨?_,?_⟩
 ·have e1:(ByteArray.mk a.toArray).size = a.length:=by simp [ByteArray.size]
  have e2:(ByteArray.mk b.toArray).size = b.length:=by simp [ByteArray.size]
  rw [e1,e2]
  omega
 ·have:(Value.string (ByteArray.mk a.toArray ++ ByteArray.mk b.toArray)) = .string ⟨(a ++ b).toArray⟩:=by
   refine congrArg Value.string ?_
   apply ByteArray.ext
   simp
  rw [this]
  exact k
theorem c4s (m:Nat):∀ (goal:List Cls) (o:Nat),(∀ c ∈ goal,c.claims.length ≤ m) → (a1c o goal).length ≤ m * goal.length
 | [],_,_=>by simp [a1c]
 | c :: l,o,h=>by
  have ih:=c4s m l (o + 1) (fun c' h'=>h c' (by simp [h']))
  have h1:=h c (by simp)
  rw [a8p,List.length_append,List.length_cons]
  have e:(b0y o 0 c.claims).length = c.claims.length:=by simp [b0y]
  rw [e,Nat.mul_add,Nat.mul_one]
  omega
theorem c7k {s:Stp} {goal:List Cls} (h:a1p s goal = true):(a1c 0 goal).length ≤ 4800:=by
 unfold a1p at h
 simp only [bA,dE] at h
 have:=c4s 16 goal 0 (fun c hc=>by
  have:=List.all_eq_true.1 h.1.2 c hc
  unfold a0z at this
  simp only [bA,dE] at this
  omega)
 omega
theorem b4a {s:Stp} {goal:List Cls} (h:a1p s goal = true) {i k:Nat} {cl:Cls} {c:Clm} (hi:goal[i]? = some cl) (hk:cl.claims[k]? = some c):a1q s c = true:=by
 unfold a1p at h
 simp only [bA,dE] at h
 exact List.all_eq_true.1 (List.all_eq_true.1 h.2 cl (List.mem_of_getElem? hi)) c (List.mem_of_getElem? hk)
theorem b2q {s:Stp} {c:Clm} (h:a1q s c = true):c.eqs.length ≤ 60:=by
 unfold a1q at h
 simp only [bA,dE] at h
 omega
def b1l {goal:List Cls} {w:World} (s:Stp) (ds:L2) (ns:L3) (xs:List (Itm goal w)):List Int:=(xs.map Itm.at).flatMap (b5y s ds ns)
theorem d1p {goal:List Cls} {w:World} {s:Stp} {ds:L2} {ns:L3} (xs:List (Itm goal w)) (x:Itm goal w):b1l s ds ns (xs ++ [x]) = b1l s ds ns xs ++ b5y s ds ns x.at:=by
 simp [b1l]
theorem c4t {s:Stp} {goal:List Cls} {w:World} (h:a1p s goal = true) (ds:L2) (ns:L3) (x:Itm goal w):(b5y s ds ns x.at).length ≤ 60:=by
 have:=b2q (b4a h x.hi x.hk)
 simpa [b5y,a0p,Itm.at] using this
theorem b6y {s:Stp} {goal:List Cls} {w:World} (h:a1p s goal = true) (ds:L2) (ns:L3):∀ xs:List (Itm goal w),(b1l s ds ns xs).length ≤ 60 * xs.length
 | []=>by simp [b1l]
 | x :: xs=>by
  have h1:=c4t h ds ns x
  have h2:=b6y h ds ns xs
  have e:(b1l s ds ns (x :: xs)).length = (b5y s ds ns x.at).length + (b1l s ds ns xs).length:=by simp [b1l]
  rw [e,List.length_cons]
  omega
theorem c4u {s:Stp} {goal:List Cls} {w:World} (ds:L2) (ns:L3) (xs:List (Itm goal w)):∀ y ∈ b1l s ds ns xs,I64 y:=by
 intro y hy
 unfold b1l at hy
 obtain ⟨p,_,hp⟩:=List.mem_flatMap.1 hy
 unfold b5y a0p at hp
 obtain ⟨e,_,rfl⟩:=List.mem_map.1 hp
 exact a6o _ _ _
theorem d3m (s:Stp) (goal:List Cls) (ctx:a5e) (ds:L2) (ns:L3) {sv gv dv nv:Value} (hs:SetR w s sv) (hg:a4f w gv goal) (hd:a0s w dv ds) (hn:a2j w nv ns) (hl:Cd.Laid w)
  (hgm:a1p s goal = true) (hsm:a0u s goal ds ns = true) (hN:(a6r goal).length ≤ 1000000) (hctx:ctx.length ≤ 1000000)
  (k:∀ w',Bw w w' → K (.int .i64 (a8s s goal ctx ds ns)) w'):a0a Tryz.prog 94 #[a6b s sv,gv,.string ⟨ctx.toArray⟩,dv,nv] K w:=by
 apply e5a
 unfold f9w
 have hs':=hs
 have hg':=hg
 obtain ⟨ad,c,rfl⟩:=hs.ints.isSlice
 obtain ⟨gad,gc,rfl⟩:=hg.isSlice
 obtain ⟨dad,dc,rfl⟩:=hd.isSlice
 obtain ⟨nad,nc,rfl⟩:=hn.isSlice
 have hsm':=hsm
 unfold a0u at hsm'
 simp only [bA,dE] at hsm'
 obtain ⟨⟨e1,e2⟩,hsl⟩:=hsm'
 have hpl:=c7k hgm
 refine a0l (cs:=a2r s (.slice ad s.bases.length c)) rfl (.start w) fun b1 W hk hb1 hbb=>?_
 refine a0l (cs:=[.slice dad ds.length dc]) rfl hk fun b2 W hk hb2 hbb2=>?_
 refine a0l (cs:=[.slice nad ns.length nc]) rfl hk fun b3 W hk hb3 hbb3=>?_
 refine d1o hk fun cb W hv hb4=>?_
 clear hb1 hb2 hb3 hk hb4
 refine a9n (hg'.next (a0b a0i) hv.knm.below) (fun gb W2 hb2 hcb hlt hcell=>?_)
 generalize hB:W.heap.size = B at hv
 have hv:=hv.next hb2
 have hWW:=hv.knm.below.size
 refine a5t (w:=w) hg' hv.knm.below hlt hcell
  (fun pre W=>VarI w (cellsOf (cellsOf (cellsOf [] b1 0 (a2r s (.slice ad s.bases.length c))) b2 0 [.slice dad ds.length dc]) b3 0 [.slice nad ns.length nc]) cb B (b1l s ds ns pre) W)
  (fun pre W=>False) PcM
  (fun pre W W' h hf=>h.own hWW hf) (fun pre W W' h hf=>h)
  (fun x l W W' h hf=>by obtain ⟨p,b,e,h⟩:=h; exact ⟨p,b,e,a7v h hf⟩)
  hv ?_ ?_ ?_ ?_
 ·intro pre x W hv
  obtain ⟨xad,xc,hxv⟩:=x.hv.eqs.isSlice
  try dsimp only
  rw [g3g,g3y,hxv]
  refine b2p _ _ (.start W) (fun p W1 hk1 hb1 hgp=>?_)
  refine a4u _ _ _ _ hk1 (fun b W2 hk2 hb2 hgb=>?_)
  have hb:=hk2.below
  exact ⟨a0y hb,hb.mono hv.knm.below.size,hv.next hb,p,b,rfl,by rw [hxv]; exact hk2.cells⟩
 ·rintro pre x l u W hv ⟨p,b,rfl,hm⟩ hlen
  obtain ⟨xad,xc,hxv⟩:=x.hv.eqs.isSlice
  rw [hxv] at hm
  have hxr:=x.hv
  rw [hxv] at hxr
  have hxc:=b4a hgm x.hi x.hk
  have hi:=(gS x.hi).1
  have hki:=(gS x.hk).1
  have en:ns[x.i]? = some ns[x.i]:=gE (by omega)
  have ed:ds[x.i]? = some ds[x.i]:=gE (by omega)
  obtain ⟨hsh,hshc⟩:=a3d hsl x.hi ed en
  simp only [a2z,bA,dE] at hsh
  obtain ⟨bn,on,rfl,hltn,csn,_,hcelln,vn,rfl,hrown⟩:=hn.at (i:=x.i) (by omega)
  obtain ⟨bd,od,rfl,hltd,csd,_,hcelld,vd,rfl,hrowd⟩:=hd.at (i:=x.i) (by omega)
  have cn:=hcelln 0 _ rfl
  have cd:=hcelld 0 _ rfl
  simp only [Nat.add_zero,Nat.mul_one] at cn cd
  have en':∃ n,ns[x.i] = n:=⟨_,rfl⟩
  obtain ⟨n,en'⟩:=en'
  have ed':∃ d,ds[x.i] = d:=⟨_,rfl⟩
  obtain ⟨d,ed'⟩:=ed'
  rw [en'] at hrown en hsh hshc
  rw [ed'] at hrowd ed hsh
  have hdl:d.length = x.cl.claims.length:=by
   have:=hsh.1
   unfold a0g at this
   simp only [bA,dE] at this
   omega
  have hkn:x.k < n.length:=by omega
  have hkd:x.k < d.length:=by omega
  obtain ⟨had,hc',rfl⟩:=hrown.isSlice
  obtain ⟨had2,hc2,rfl⟩:=hrowd.isSlice
  have el:n[x.k]? = some n[x.k]:=gE hkn
  have hex:=a8a hshc x.hk el
  have eat:b5y s ds ns x.at = a0p s x.c d[x.k] n[x.k]:=by
   unfold b5y f3f f3g Itm.at
   try dsimp only
   rw [List.getD_eq_getElem?_getD,List.getD_eq_getElem?_getD,List.getD_eq_getElem?_getD,List.getD_eq_getElem?_getD,ed,en]
   simp [gE hkd,el]
  obtain ⟨bl,ol,rfl,hltl,csl,_,hcelll,vl,rfl,hrowl⟩:=hrown.at (i:=x.k) hkn
  obtain ⟨b5,o5,rfl,hlt5,hc5,hr5,_⟩:=hrowd.at (i:=x.k) hkd
  have cl:=hcelll 0 _ rfl
  simp only [Nat.add_zero,Nat.mul_one] at cl
  have hi1:(x.i:Int) < ns.length:=by omega
  have hi2:(x.k:Int) < n.length:=by omega
  have hi3:(x.i:Int) < ds.length:=by omega
  have hi4:(x.k:Int) < d.length:=by omega
  generalize hlx:n[x.k] = lx at *
  generalize hdx:d[x.k] = dx at *
  obtain ⟨vad,vc,hvc,hvo⟩:=hv.ex
  have hCl:=b6y hgm ds ns pre
  have hAl:=c4t hgm ds ns x
  have hfit:=a7t hxc
  have hlxl:(lx.length:Int) = x.c.vars:=by
   unfold a0g at hex
   simp only [bA,dE] at hex
   exact hex.1
  try dsimp only
  have hb9:Below W.heap.size W { W with drawn:=W.drawn + 1 }:=.drawn
  have hv9:=hv.next hb9
  have hvc:=(hb9.cell (a5l hv.knm.mine)).trans hvc
  have hvo:=hvo.keep hb9
  have hm:=a0q hm (fun a ha=>hb9.cell ha)
  have hcw:=a5l hv9.knm.mine
  have hk9:=hv9.knm
  refine ⟨Nx { W with drawn:=W.drawn + 1 },bR,rfl,?_⟩
  generalize ({ W with drawn:=W.drawn + 1 }:World) = W9 at hv9 hk9 hb9 hm hvc hvo hcw ⊢
  refine Xf (fun W0 hW0=>An7 ((hk9.next hW0).cells) (a0q hm (fun a ha=>hW0.cell ha)) (((hk9.next hW0).below.cell hltn).trans cn) (((hk9.next hW0).below.cell hltd).trans cd) (((hk9.next hW0).below.cell hltl).trans cl) (hc5 _ (hk9.next hW0).below) ((hW0.cell hcw).trans hvc)) (An4 @hi1 @hi2 @hi3 @hi4) ?_
  refine ⟨Nx,?_⟩
  refine a3i (fun v w'=>Ints w' v (b5y s ds ns x.at)) (fun v w w1 hS h=>h.next hS) ?_ ?_
  ·intro w5 h5
   rw [eat]
   exact b1a s x.c dx lx (hs'.next (hk9.next h5).below) (hxr.next (hk9.next h5).below) hr5 (hrowl.next (hk9.next h5).below) (by have:=b2q hxc; omega) (fun e he=>⟨(hfit e he).1,fun t ht=>by have:=(hfit e he).2 t ht; omega⟩)
    (fun v w6 h6 ho6=>⟨h5.on h6,h6,ho6.ints (fun y hy=>by unfold a0p at hy; obtain ⟨e,_,rfl⟩:=List.mem_map.1 hy; exact a6o _ _ _) (by rw [eat] at hAl; omega)⟩)
  rintro w7 h7 v7 hi7
  refine VarI.add (C:=W2.heap.size) (hv9.next h7) (hvo.keep h7) hi7 (by omega) (fun W8 hv8 hkf hbf=>?_)
  have h97:=hb9.on h7
  refine ⟨(a0y h97).trans hkf,(h97.mono hv.knm.below.size).trans hbf,?_⟩
  rw [d1p]
  exact hv8
 ·rintro D xs W hD hxs hv hh
  obtain ⟨vad,vc,hvc,hvo⟩:=hv.ex
  have hCl:=b6y hgm ds ns xs
  have hxl:xs.length = (a1c 0 goal).length:=by rw [← hxs,List.length_map]
  have hvi:=hvo.ints (c4u ds ns xs) (by omega)
  have hb9:Below W.heap.size W { W with drawn:=W.drawn + 1 }:=.drawn
  have hv9:=hv.next hb9
  have hvc:=(hb9.cell (a5l hv.knm.mine)).trans hvc
  have hvi:=hvi.next hb9
  have hcw:=a5l hv9.knm.mine
  have hk9:=hv9.knm
  have hl9:=hl.below hk9.below hl.size
  refine ⟨Nx { W with drawn:=W.drawn + 1 },bR,rfl,?_⟩
  have hh:({ W with drawn:=W.drawn + 1 }:World).heap[D]? = some (.deferred (some [])):=hh
  generalize ({ W with drawn:=W.drawn + 1 }:World) = W9 at hv9 hk9 hvc hvi hcw hl9 hh ⊢
  clear hb9
  have hCI:∀ y ∈ b1l s ds ns xs,InR y:=fun y hy=>(a7l y).2 (c4u ds ns xs y hy)
  have hCe:=a6j hCI (by omega)
  have hTe:=a6j (c3c hg') (by omega)
  have hTe':(b4u goal).length ≤ 22 * (a6r goal).length + 30:=hTe
  have hT1:=Cd.encText_len (b4u goal) (by omega)
  have hT2:=Cd.encText_len ctx (by omega)
  have hcom:b1l s ds ns xs = a0t s goal ds ns:=by
   unfold b1l
   rw [hxs]
   refine b8f goal ds ns e1 e2 (fun i c d n h1 h2 h3=>?_)
   have:=(a3d hsl h1 h2 h3).1
   simp only [a2z,bA,dE] at this
   refine ⟨?_,this.2⟩
   have:=this.1
   unfold a0g at this
   simp only [bA,dE] at this
   omega
  generalize b1l s ds ns xs = cm at *
  refine Xc (fun W0 hW0=>An2 ((hk9.next hW0).cells) ((hW0.cell hcw).trans hvc)) ?_
  refine ⟨Nx,?_⟩
  apply a1i
  ·intro w5 h5
   exact d4y goal (hg'.next (a0b a0i) (hk9.next h5).below) hN (hl9.below h5 hl9.size) (fun w6 h6=>⟨h5.on h6,h6,rfl⟩)
  apply a1i
  ·rintro w5 h5 _ rfl
   exact Cd.pText_ok _ (by omega) (hl9.below h5 hl9.size) (fun w6 h6=>⟨h5.on h6,h6,rfl⟩)
  apply a1i
  ·intro w5 h5
   exact Cd.pText_ok ctx (by omega) (hl9.below h5 hl9.size) (fun w6 h6=>⟨h5.on h6,h6,rfl⟩)
  apply a1i
  ·rintro w5 h5 _ rfl _ rfl
   exact c2p _ _ (by omega) ⟨h5,bR,rfl⟩
  apply a1i
  ·intro w5 h5
   exact Cd.pNums_ok cm _ (hl9.below h5 hl9.size) (Ints.rowOf (hvi.next h5)) hCI (by omega) (fun w6 h6=>⟨h5.on h6,h6,rfl⟩)
  apply a1i
  ·rintro w5 h5 _ rfl _ rfl
   exact c2p _ _ (by simp only [List.length_append]; omega) ⟨h5,bR,rfl⟩
  (intro w9 h9; repeat (intro v9 e9; try (obtain rfl:=e9)))
  refine d9l _ _ (by simp only [List.length_append]; omega) (fun w10 h10=>?_)
  have hb:=h9.on h10
  have hh2:w10.heap[D]? = some (.deferred (some [])):=by rw [hb.block D (Array.getElem?_eq_some_iff.1 hh).1]; exact hh
  have hf:=a9m (B:=W2.heap.size) (.deferred none) hD hh2 rfl
  refine ⟨hh2,?_⟩
  rw [hcom]
  exact k _ (a1z ((hk9.next hb).below) hWW hf)
 ·rintro D pre W hD hpre hf
  exact hf.elim
end
end Go.Proofs
namespace Go.Proofs
open FdSpec TkSpec CodeSpec PrSpec
def c8e (s:Stp) (c:Clm) (k:Knw):Bool:=!k.has || a0g s k.values c.vars
theorem d0e {s:Stp}:∀ {cs:List Clm} {n:List Knw},n.length = cs.length → (∀ (k:Nat) (c:Clm) (l:Knw),cs[k]? = some c → n[k]? = some l → c8e s c l = true) → c3n s cs n = true
 | [],_,_,_=>rfl
 | c :: cs,[],h,_=>by simp at h
 | c :: cs,l :: ls,h,hp=>by
  have h1:=hp 0 c l rfl rfl
  have h2:=d0e (cs:=cs) (n:=ls) (by simpa using h) (fun k c' l' a b=>hp (k + 1) c' l' (by simpa using a) (by simpa using b))
  unfold c8e at h1
  simp only [c3n,h1,h2,Bool.and_self]
theorem b6m {s:Stp}:∀ {cs:List Clm} {n:List Knw} {k:Nat} {c:Clm} {l:Knw},c3n s cs n = true → cs[k]? = some c → n[k]? = some l → c8e s c l = true
 | [],_,k,_,_,_,h,_=>by simp at h
 | c :: cs,[],k,_,_,h,_,_=>by simp [c3n] at h
 | c :: cs,l :: ls,0,c',l',h,a,b=>by
  unfold c3n at h
  rw [Bool.and_eq_true] at h
  simp at a b
  rw [← a,← b]; exact h.1
 | c :: cs,l :: ls,k + 1,c',l',h,a,b=>by
  unfold c3n at h
  rw [Bool.and_eq_true] at h
  exact b6m h.2 (by simpa using a) (by simpa using b)
theorem c3e {s:Stp}:∀ {goal:List Cls} {ks:List (List Knw)},ks.length = goal.length →
  (∀ (i:Nat) (c:Cls) (n:List Knw),goal[i]? = some c → ks[i]? = some n → n.length = c.claims.length ∧ ∀ (k:Nat) (x:Clm) (l:Knw),c.claims[k]? = some x → n[k]? = some l → c8e s x l = true) → c6i s goal ks = true
 | [],_,_,_=>rfl
 | c :: cs,[],h,_=>by simp at h
 | c :: cs,n :: ns,h1,hp=>by
  obtain ⟨a,b⟩:=hp 0 c n rfl rfl
  have h3:=c3e (goal:=cs) (ks:=ns) (by simpa using h1) (fun i c' n' a1 a2=>hp (i + 1) c' n' (by simpa using a1) (by simpa using a2))
  simp only [c6i,decide_eq_true a,d0e a b,h3,Bool.and_self]
theorem a5o {s:Stp}:∀ {goal:List Cls} {ks:List (List Knw)} {i:Nat} {c:Cls} {n:List Knw},c6i s goal ks = true → goal[i]? = some c → ks[i]? = some n → n.length = c.claims.length ∧ c3n s c.claims n = true
 | [],_,i,_,_,_,h,_=>by simp at h
 | c :: cs,[],i,_,_,h,_,_=>by simp [c6i] at h
 | c :: cs,n :: ns,0,c',n',h,a1,a2=>by
  simp only [c6i,Bool.and_eq_true,decide_eq_true_eq] at h
  simp at a1 a2
  subst a1 a2
  exact h.1
 | c :: cs,n :: ns,i + 1,c',n',h,a1,a2=>by
  simp only [c6i,Bool.and_eq_true,decide_eq_true_eq] at h
  exact a5o h.2 (by simpa using a1) (by simpa using a2)
end Go.Proofs
namespace Go.Proofs
open Go Go.Sh Go.RowKit FdSpec TkSpec CodeSpec PrSpec
section
variable {K:VK} {w w' w0 W W':World} {L:List (Addr × Value)} {g n B:Nat} {row:Option Nat}
theorem f8e (w:World):(Instr.alloc 113 true (.tuple #[])).run Tryz.prog w = .ok (.pointer (some ⟨w.heap.size,0,none⟩)) (w.alloc (.cells [.bool false,.slice none 0 0].toArray 113)):=by kernel_rfl
def FtJ (goal:List Cls) (ks:List (List Knw)) (w0:World) (L:List (Addr × Value)) (rb:Nat) (vs:List Value) (W:World):Prop:=KnM w0 L rb 1 W ∧ ∃ (u0:Value) (i:Nat),vs = [u0,.int .i64 (i:Int)] ∧ i ≤ goal.length ∧
 ∀ (j:Nat) (c:Cls) (n:List Knw),j < i → goal[j]? = some c → ks[j]? = some n → n.length = c.claims.length
theorem d3n (s:Stp) {sv gv kv:Value} {goal:List Cls} {ks:List (List Knw)} (hs:SetR w s sv) (hg:a4f w gv goal) (hk0:a5v w kv ks)
  (k:∀ w',Bw w w' → K (.bool (a3a s goal ks)) w'):a0a Tryz.prog 90 #[a6b s sv,gv,kv] K w:=by
 apply e5b
 unfold f9x
 have hs':=hs
 have hg':=hg
 obtain ⟨ad,c,rfl⟩:=hs.ints.isSlice
 obtain ⟨gad,gc,rfl⟩:=hg.isSlice
 obtain ⟨kad,kc,rfl⟩:=hk0.isSlice
 have hlg:=hg.len
 have hlk:=hk0.len
 refine a0l (cs:=a2r s (.slice ad s.bases.length c)) rfl (.start w) fun b1 W hk hb1 hbb=>?_
 refine a0l (cs:=[.slice kad ks.length kc]) rfl hk fun b2 W hk hb2 hbb2=>?_
 refine a6l (zs:=[.bool false]) c7j rfl hk fun rb W hk hb3 hgb=>?_
 clear hb1 hb2 hb3
 have no:a3a s goal ks = false → ∀ {L:List (Addr × Value)} {W:World} {T:TypeId},KnM w L rb 1 W → oM Tryz.prog (.store 4 (.tmp 0) (.tmp 1)) T [.pointer (some ⟨rb,0,none⟩),.bool false] (fun _ w=>∃ r,(do loadVar 4 (← asAddr (.pointer (some ⟨rb,0,none⟩))):Sem Value).run Tryz.prog w = .ok r w ∧ K r w) W:=by
  intro hf L W T hk
  refine a3w hk fun W hk hgr hc=>a6d hc ?_
  have k:=k _ hk.below
  rwa [hf] at k
 by_cases e1:¬ ks.length = goal.length
 ·have e1':¬ (ks.length:Int) = goal.length:=by omega
  refine Xa (An2 hk.cells @e1') ?_
  exact no (by simp [a3a,e1]) hk
 have e1:ks.length = goal.length:=by omega
 have e1':(ks.length:Int) = goal.length:=by omega
 refine Xa (An2 hk.cells @e1') ?_
 refine ⟨FtJ goal ks w _ rb,b2m goal.length,⟨hk,_,0,rfl,by omega,fun j c n hj=>by omega⟩,?_⟩
 clear hk
 rintro _ _ W1 ⟨hk,u0,i,rfl,hi,hall⟩
 by_cases hin:i = goal.length
 ·subst hin
  have hall':∀ (j:Nat) (c:Cls) (n:List Knw),goal[j]? = some c → ks[j]? = some n → n.length = c.claims.length:=fun j c n h1 h3=>hall j c n (gS h1).1 h1 h3
  refine Xa0 ?_
  refine a9n (hg'.next (a0b a0i) hk.below) (fun cb W2 hb2 hcb hlt hcell=>?_)
  have hk:=hk.next hb2
  refine a5t (w:=w) hg' hk.below hlt hcell
   (fun pre W=>KnM w (cellsOf (cellsOf [] b1 0 (a2r s (.slice ad s.bases.length c))) b2 0 [.slice kad ks.length kc]) rb 1 W ∧ ∀ x ∈ pre,∀ n l,ks[x.i]? = some n → n[x.k]? = some l → c8e s x.c l = true)
   (fun pre W=>Bw w W ∧ W.cell? ⟨rb,0,none⟩ = some (.bool false) ∧ a3a s goal ks = false)
   PcM
   (fun pre W W' h hf=>⟨b6x h.1 hk.below.size hf,h.2⟩)
   (fun pre W W' h hf=>⟨a1z h.1 hk.below.size hf,a4t h.2.1 hf,h.2.2⟩)
   (fun x l W W' h hf=>by obtain ⟨p,b,e,h⟩:=h; exact ⟨p,b,e,a7v h hf⟩)
   ⟨hk,fun x hx=>by cases hx⟩ ?_ ?_ ?_ ?_
  ·rintro pre x W ⟨hk,hp⟩
   obtain ⟨xad,xc,hxv⟩:=x.hv.eqs.isSlice
   try dsimp only
   rw [g3g,g3y,hxv]
   refine b2p _ _ (.start W) (fun p W1 hk1 hb1 hgp=>?_)
   refine a4u _ _ _ _ hk1 (fun b W2 hk2 hb2 hgb=>?_)
   have hb:=hk2.below
   exact ⟨a0y hb,hb.mono hk.below.size,⟨hk.next hb,hp⟩,p,b,rfl,by rw [hxv]; exact hk2.cells⟩
  ·rintro pre x l u W ⟨hk,hp⟩ ⟨p,b,rfl,hm⟩ hlen
   obtain ⟨xad,xc,hxv⟩:=x.hv.eqs.isSlice
   rw [hxv] at hm
   have hi:=(gS x.hi).1
   have hki:=(gS x.hk).1
   have en:ks[x.i]? = some ks[x.i]:=gE (by omega)
   have hsh:=hall' _ _ _ x.hi en
   obtain ⟨bn,on,rfl,hltn,csn,_,hcelln,vn,rfl,hrown⟩:=hk0.at (i:=x.i) (by omega)
   have cn:=hcelln 0 _ rfl
   simp only [Nat.add_zero,Nat.mul_one] at cn
   have en':∃ n,ks[x.i] = n:=⟨_,rfl⟩
   obtain ⟨n,en'⟩:=en'
   rw [en'] at hrown en hsh
   have hkn:x.k < n.length:=by omega
   obtain ⟨had,hc',rfl⟩:=hrown.isSlice
   have el:n[x.k]? = some n[x.k]:=gE hkn
   obtain ⟨bl,ol,rfl,hltl,csl,_,hcelll,vl,rfl,hrowl⟩:=hrown.at (i:=x.k) hkn
   have c0:=hcelll 0 _ rfl
   have c1:=hcelll 1 _ rfl
   simp only [Nat.add_zero] at c0
   have hi1:(x.i:Int) < ks.length:=by omega
   have hi2:(x.k:Int) < n.length:=by omega
   generalize n[x.k] = kn at *
   obtain ⟨vad,vc,rfl⟩:=hrowl.isSlice
   try dsimp only
   have hk9:=hk.drew
   have hb9:Below W.heap.size W { W with drawn:=W.drawn + 1 }:=.drawn
   have hm:=a0q hm (fun a ha=>hb9.cell ha)
   refine ⟨Nx { W with drawn:=W.drawn + 1 },bR,rfl,?_⟩
   generalize ({ W with drawn:=W.drawn + 1 }:World) = W9 at hk9 hb9 hm ⊢
   refine Xf (fun W0 hW0=>An5 ((hk9.next hW0).cells) (a0q hm (fun a ha=>hW0.cell ha)) (((hk9.next hW0).below.cell hltn).trans cn) (((hk9.next hW0).below.cell hltl).trans c0) (((hk9.next hW0).below.cell hltl).trans c1)) (An2 @hi1 @hi2) ?_
   refine ⟨Nx,?_⟩
   refine a3i (fun v w'=>∃ g2,v = ptr g2 0 ∧ W9.heap.size ≤ g2 ∧ Holds w' g2 113 [.bool false,.slice none 0 0]) (fun v w w1 hS h=>h.imp fun g2 h=>⟨h.1,h.2.1,h.2.2.next hS⟩) ?_ ?_
   ·intro w1 h1
    exact a1d f8e (fun g2 w2 h2 hg2 hh=>⟨h1.on h2,h2,g2,rfl,Nat.le_trans h1.size hg2,hh⟩)
   rintro w5 h5 _ ⟨g5,rfl,hg5,hh5⟩
   refine a0x f8t (xs:=g6j kn (.slice vad kn.values.length vc)) rfl rfl (f5h _ _ _ _) hh5 rfl (fun w6 hg6 hh6=>?_)
   have hh6:Holds w6 g5 113 [.bool kn.has,.slice vad kn.values.length vc]:=hh6
   have h6:Bw W9 w6:=a0m h5 hg6 hg5
   have hk6:=hk9.next h6
   have hm6:=a0q hm (fun a ha=>h6.cell ha)
   have hb6:=hb9.on h6
   have fin:∀ w7,Bw W w7 → KnM w (cellsOf (cellsOf [] b1 0 (a2r s (.slice ad s.bases.length c))) b2 0 [.slice (some ⟨bn,on,none⟩) ks.length kc]) rb 1 w7 → c8e s x.c kn = true →
     KeepsFrom W2.heap.size W w7 ∧ Below w.heap.size W w7 ∧ KnM w (cellsOf (cellsOf [] b1 0 (a2r s (.slice ad s.bases.length c))) b2 0 [.slice (some ⟨bn,on,none⟩) ks.length kc]) rb 1 w7 ∧ ∀ y ∈ pre ++ [x],∀ n l,ks[y.i]? = some n → n[y.k]? = some l → c8e s y.c l = true:=by
    intro w7 hb7 hk7 hcl
    refine ⟨a0y hb7,hb7.mono hk.below.size,hk7,fun y hy=>?_⟩
    rcases List.mem_append.1 hy with hy | hy
    ·exact hp y hy
    ·rw [List.mem_singleton.1 hy]
     intro n' l' h1 h2
     rw [en] at h1
     cases h1
     rw [el] at h2
     cases h2
     exact hcl
   cases hhas:kn.has with
   | false=>
    rw [hhas] at hh6
    refine Xa (An3 hk6.cells @hm6 hh6.are) ?_
    exact fin _ hb6 hk6 (by simp [c8e,hhas])
   | true=>
    rw [hhas] at hh6
    refine Xa (An3 hk6.cells @hm6 hh6.are) ?_
    refine a4l s x.c.vars (hs'.next hk6.below) (hrowl.next hk6.below) (fun W4 hb4=>?_)
    have hk4:=hk6.next hb4
    have hb:=hb6.on hb4
    cases hcl:a0g s kn.values x.c.vars with
    | false=>
     refine Xa0 ?_
     refine a3w hk4 fun W'' hk5 hgr hc=>?_
     refine ⟨(a0y hb).trans (a7u hgr hk4.mine),hk5.below,hc,?_⟩
     rw [Bool.eq_false_iff]
     intro hsm
     unfold a3a at hsm
     simp only [bA] at hsm
     have:=b6m (a5o hsm.2 x.hi en).2 x.hk el
     unfold c8e at this
     rw [hcl,hhas] at this
     cases this
    | true=>
     refine Xa0 ?_
     exact fin _ hb hk4 (by simp [c8e,hcl])
  ·rintro D xs W hD hxs ⟨hk2,hp⟩ hh
   have hgD:rb < D:=lL (a5l hk.mine) hD
   refine a3w hk2 fun W'' hk3 hgr hc=>?_
   have hh2:W''.heap[D]? = some (.deferred (some [])):=by
    rw [hgr.block D (Array.getElem?_eq_some_iff.1 hh).1 (fun e=>by cases e; omega)]; exact hh
   have hf:=a9m (B:=W2.heap.size) (.deferred none) hD hh2 rfl
   refine ⟨hh2,a6d (a4t hc hf) ?_⟩
   have k:=k _ (a1z hk3.below hk.below.size hf)
   have e:a3a s goal ks = true:=by
    unfold a3a
    rw [decide_eq_true e1,c3e e1 (fun i c n h1 h3=>⟨hall' i c n h1 h3,fun k' x l h4 h5=>?_⟩)]
    ·rfl
    ·have hm:=b0h h1 h4
     rw [← hxs,List.mem_map] at hm
     obtain ⟨y,hy,hye⟩:=hm
     simp only [Itm.at,Prod.mk.injEq] at hye
     obtain ⟨rfl,rfl,rfl⟩:=hye
     exact hp y hy n l h3 h5
   rwa [e] at k
  ·rintro D pre W hD hpre ⟨hk3,hc,hcl⟩ hh
   have hf:=a9m (B:=W2.heap.size) (.deferred none) hD hh rfl
   refine ⟨hh,a6d (a4t hc hf) ?_⟩
   have k:=k _ (a1z hk3 hk.below.size hf)
   rwa [hcl] at k
 have eg:goal[i]? = some goal[i]:=gE (by omega)
 have en:ks[i]? = some ks[i]:=gE (by omega)
 obtain ⟨b1',o1,rfl,hlt1,cs1,_,hcell1,v1,rfl,hI1,hrow1⟩:=hg'.at (i:=i) (by omega)
 obtain ⟨bn,on,rfl,hltn,csn,_,hcelln,vn,rfl,hrown⟩:=hk0.at (i:=i) (by omega)
 have c01:=hcell1 0 _ rfl
 have c11:=hcell1 1 _ rfl
 have cn:=hcelln 0 _ rfl
 simp only [Nat.add_zero,Nat.mul_one] at c01 cn
 generalize goal[i] = cl at *
 generalize ks[i] = nn at *
 obtain ⟨ad1,cp1,rfl⟩:=hrow1.isSlice
 obtain ⟨ad2,cp2,rfl⟩:=hrown.isSlice
 have hln1:=hrow1.len
 have hln2:=hrown.len
 have hll1:(i:Int) < goal.length:=by omega
 have hll3:(i:Int) < ks.length:=by omega
 refine Xb4 (An3 ((hk.below.cell hlt1).trans c01) ((hk.below.cell hlt1).trans c11) @hll1) ?_
 refine b3z _ _ _ _ hk (fun b4 W4 hk4 hb4 hg4=>?_)
 have hk:=(hk.next hb4).drew
 have hk4:=hk4.drew
 refine ⟨Nx { W4 with drawn:=W4.drawn + 1 },bR,rfl,?_⟩
 generalize ({ W4 with drawn:=W4.drawn + 1 }:World) = W5 at hk hk4 ⊢
 by_cases e5:¬ nn.length = cl.claims.length
 ·have e5':¬ (nn.length:Int) = cl.claims.length:=by omega
  refine Xf (fun W0 hW0=>An2 ((hk4.next hW0).cells) (((hk4.next hW0).below.cell hltn).trans cn)) (An2 @hll3 @e5') ?_
  refine ⟨Nx,fun w9 h9=>?_⟩
  refine Xa0 ?_
  refine no ?_ (hk.next h9)
  rw [Bool.eq_false_iff]
  intro hsm
  unfold a3a at hsm
  simp only [bA] at hsm
  exact e5 (a5o hsm.2 eg en).1
 ·have e5:nn.length = cl.claims.length:=by omega
  have e5':(nn.length:Int) = cl.claims.length:=by omega
  refine Xf (fun W0 hW0=>An2 ((hk4.next hW0).cells) (((hk4.next hW0).below.cell hltn).trans cn)) (An2 @hll3 @e5') ?_
  refine ⟨Nx,fun w9 h9=>?_⟩
  refine Xa0 ?_
  refine ⟨⟨hk.next h9,_,i + 1,rfl,by omega,fun j c' n' hj h1 h3=>?_⟩,by simp only [a1u]; omega⟩
  by_cases hji:j < i
  ·exact hall j c' n' hji h1 h3
  ·obtain rfl:j = i:=by omega
   rw [eg] at h1
   rw [en] at h3
   cases h1; cases h3
   exact e5
end
structure Bit (l:List Int) where
 i:Nat
 c:Int
 h:l[i]? = some c
def Bit.enc {l:List Int} (x:Bit l):Array Value:=#[.int .i64 x.i,.int .i64 x.c]
section
variable {K:VK} {w w' w0 W W':World} {L:List (Addr × Value)} {g n B:Nat} {row:Option Nat}
def KpB (n g:Nat) (A B:World):Prop:=Below n A B ∧ ∀ o,A.heap[g]? = some o → B.heap[g]? = some o
theorem KpB.trans {n g:Nat} {A B C:World} (h:KpB n g A B) (k:KpB n g B C):KpB n g A C:=⟨h.1.trans k.1,fun o ho=>k.2 o (h.2 o ho)⟩
theorem KpB.cell {n g:Nat} {A B:World} {u:Value} (h:KpB n g A B) (hc:A.cell? ⟨g,0,none⟩ = some u):B.cell? ⟨g,0,none⟩ = some u:=by
 obtain ⟨o,h1,_⟩:=c2o hc
 have h1:A.heap[g]? = some o:=h1
 rw [← hc]
 unfold World.cell?
 rw [h1,h.2 o h1]
def BwJ (l:List Int) (lv:Value) (w:World) (g:Nat) (J:List (Bit l) → WK) (vs:List Value) (W:World):Prop:=∃ pre:List (Bit l),vs = [.int .i64 ((l.length:Int) - 1 - pre.length)] ∧ pre.length ≤ l.length ∧ pre.map Bit.c = l.reverse.take pre.length ∧ J pre W ∧ Bw w W ∧ W.cell? ⟨g,0,none⟩ = some lv
theorem e3g {l:List Int} {lv:Value} {g:Nat} (hi:Ints w lv l) (hww:Bw w w') (hlt:g < w'.heap.size) (hc:w'.cell? ⟨g,0,none⟩ = some lv) :
  SeqStopsK Fence.wide 9 Tryz.prog 216 #[.pointer (some ⟨g,0,none⟩)] (Bit.enc (l:=l)) (KpB w.heap.size g) (fun xs=>xs.map Bit.c = l.reverse) (fun pre=>True) l.length w':=by
 intro ll J Jx W hb hJ hJx hY h0
 refine CallsIn.mono (d6e (m:=0) (a0:=.func (.yield ll) #[] #[]) (a1:=.pointer (some ⟨g,0,none⟩)) (w:=W) (K:=fun _ W'=>(∃ xs:List (Bit l),xs.map Bit.c = l.reverse ∧ J xs W') ∨ (∃ pre:List (Bit l),True ∧ Jx pre W')) ?_) (fun e W' h=>by obtain ⟨v,h1,h2⟩:=h; exact ⟨⟨v,h1⟩,h2⟩)
 unfold d6c
 obtain ⟨ad,cap,rfl⟩:=hi.isSlice
 have hln:=hi.len
 have hc0:=(hb.cell hlt).trans hc
 have hb:=hww.on hb
 refine Xa @hc0 ?_
 refine ⟨BwJ l (.slice ad l.length cap) w g J,(fun vs _=>match vs with | [.int _ i]=>(i + 1).toNat | _=>0),⟨[],by simp,by simp,by simp,h0,hb,hc0⟩,?_⟩
 rintro _ _ W1 ⟨pre,rfl,hpl,hpm,hJp,hb1,hc1⟩
 by_cases hin:pre.length = l.length
 ·have hneg:¬ (0:Int) ≤ (l.length:Int) - 1 - pre.length:=by omega
  refine Xa @hneg ?_
  refine .inl ⟨pre,?_,hJp⟩
  rw [hpm,List.take_of_length_le (by simp; omega)]
 have hpos:(0:Int) ≤ (l.length:Int) - 1 - pre.length:=by omega
 obtain ⟨i,hii⟩:∃ i:Nat,i = l.length - 1 - pre.length:=⟨_,rfl⟩
 have ei:(l.length:Int) - 1 - pre.length = (i:Int):=by omega
 have hx:l[i]? = some l[i]:=gE (by omega)
 have hrev:l.reverse[pre.length]? = some l[i]:=by
  rw [List.getElem?_reverse (by omega),← hii]
  exact hx
 obtain ⟨b,o,rfl,hlb,hcell,hrng,_⟩:=hi.at (i:=i) (by omega)
 generalize l[i] = xv at *
 rw [ei] at hpos ⊢
 have hil:(i:Int) < l.length:=by omega
 refine Xa (An4 @hc1 (hcell _ hb1) @hil @hpos) ?_
 refine ⟨ll,rfl,b9x (hY pre ⟨i,xv,hx⟩ W1 hJp (by omega)) ?_⟩
 rintro e W5 (⟨rfl,h5,hk5⟩ | ⟨rfl,h5⟩)
 ·refine ⟨_,rfl,?_⟩
  refine Xa0 ?_
  refine ⟨⟨pre ++ [⟨i,xv,hx⟩],?_,by simp; omega,?_,h5,hb1.trans hk5.1,hk5.cell hc1⟩,?_⟩
  ·simp only [List.length_append,List.length_cons,List.length_nil]
   have:(i:Int) - 1 = (l.length:Int) - 1 - ((pre.length + (0 + 1):Nat):Int):=by omega
   rw [this]
  ·rw [List.map_append,hpm,List.length_append]
   show _ = l.reverse.take (pre.length + 1)
   rw [List.take_add_one,hrev]
   rfl
  ·show ((i:Int) - 1 + 1).toNat < ((i:Int) + 1).toNat
   omega
 ·refine ⟨_,rfl,?_⟩
  refine Xa0 ?_
  exact .inr ⟨_,trivial,h5⟩
theorem c7l {lv:Value} {l:List Int} (hi:Ints w lv l) (k:∀ g W,Bw w W → w.heap.size ≤ g → g < W.heap.size → W.cell? ⟨g,0,none⟩ = some lv → K (.func (.func 216) #[] #[.pointer (some ⟨g,0,none⟩)]) W):a0a Tryz.prog 198 #[lv] K w:=by
 apply d6b
 unfold f0l
 obtain ⟨ad,c,rfl⟩:=hi.isSlice
 refine a0l (cs:=[.slice ad l.length c]) rfl (.start w) fun b1 W hk hb1 hbb=>?_
 have h1:=a2q hk.cells _ (List.mem_singleton.2 rfl)
 have h2:=hk.cells.1
 refine Xa0 ?_
 exact k _ _ hb1 hbb h1 h2
theorem d1q {l:List Int} {lv:Value} {A:Array Value → (List Value → World → Prop) → WK} {Bd:Array Value → List Value → Env → (WK) → (WK) → WK} {Kd Kr:Nat → WK}
  (hi:Ints w lv l) (hww:Bw w w') (hlt:g < w'.heap.size) (hc:w'.cell? ⟨g,0,none⟩ = some lv)
  (I:List (Bit l) → WK) (M:Bit l → List Value → World → Prop)
  (hI:∀ pre W W',I pre W → Fr (c4q w'.heap.size W) W W' → I pre W') (hM:∀ x l W W',M x l W → Fr (c4q w'.heap.size W) W W' → M x l W') (h0:I [] w')
  (hA:∀ pre x W,I pre W → A x.enc (fun l W1=>KeepsFrom w'.heap.size W W1 ∧ KpB w.heap.size g W W1 ∧ I pre W1 ∧ M x l W1) W)
  (hB:∀ pre x l u W,I pre W → M x l W → Bd x.enc l u (fun W2=>KeepsFrom w'.heap.size W W2 ∧ KpB w.heap.size g W W2 ∧ I (pre ++ [x]) W2) (fun W2=>KeepsFrom w'.heap.size W W2 ∧ False) W)
  (hd:∀ D xs W,w'.heap.size ≤ D → xs.map Bit.c = l.reverse → I xs W → W.heap[D]? = some (.deferred (some [])) → Kd D W) :
  Go.Sh.rangeM Tryz.prog (.func (.func 216) #[] #[.pointer (some ⟨g,0,none⟩)]) 2 w' A Bd Kd Kr:=
 ⟨216,_,Bit l,Bit.enc,KpB w.heap.size g,_,_,_,rfl,by kernel_rfl,e3g hi hww hlt hc,fun _=>rfl,fun h k=>h.trans k,
  fun X m o o' hl h1 h2 h3=>⟨belowK_b (n₀:=w.heap.size) hww.size X m o o' hl h1 h2 h3,fun q hq=>by
   have hf:=a9m (B:=w'.heap.size) o' hl h1 h2
   rw [hf.block g (Array.getElem?_eq_some_iff.1 hq).1 (fun x=>by have:=x.1; omega)]
   exact hq⟩,
  I,fun _ _=>False,M,fun s X Y row h1 h2 h3=>hI _ _ _ h1 (b9y h2 h3),fun s X Y row h1 h2 h3=>h1,fun x l s X Y row h1 h2 h3=>hM _ _ _ _ h1 (b9y h2 h3),h0,hA,fun pre x l u W h1 h2 _=>hB pre x l u W h1 h2,hd,fun _ _ _ _ _ h _=>h.elim⟩
end
end Go.Proofs
namespace Go.Proofs
open Go Go.Sh Go.RowKit FdSpec TkSpec CodeSpec PrSpec FdPoly
section
variable {K:VK} {w w' w0 W W':World} {L:List (Addr × Value)} {g n B:Nat} {row:Option Nat}
theorem f8f (w:World):(Instr.alloc 3 true (.tuple #[])).run Tryz.prog w = .ok (.pointer (some ⟨w.heap.size,0,none⟩)) (w.alloc (.cells [.int .i64 0].toArray 3)):=by kernel_rfl
theorem d3o (w:World):(sizeOf 3).run Tryz.prog w = .ok 1 w:=by kernel_rfl
theorem c4v {T':TypeId} {x:Int} (hk:KnM w0 L g 1 w) (k:∀ W,KnM w0 L g 1 W → w.grownBy W (some g) → W.cell? ⟨g,0,none⟩ = some (.int .i64 x) → K undef W) :
  oM Tryz.prog (.store 3 (.tmp 0) (.tmp 1)) T' [.pointer (some ⟨g,0,none⟩),.int .i64 x] K w:=by
 obtain ⟨W,e,hg,hm,hc⟩:=b0b (P:=Tryz.prog) (w:=w) (W:=w) (T:=3) (x:=.int .i64 x) (xs:=[.int .i64 x]) d3o rfl rfl (by intro u hu; rw [List.mem_singleton] at hu; subst hu; rfl) hk.mine
 rw [b0w,e]
 exact k W ⟨hk.kn.wrote hg hk.base hk.off,hm,hk.base,hk.off⟩ hg hc.1
def atF (q x:Int) (l:List Int):Int:=l.foldl (fun out c=>a6i q (a2n q out x) c) 0
theorem f4m (q x:Int) (p:List Int):atF q x p.reverse = atM q p x:=by
 unfold atF atM
 rw [List.foldl_reverse]
theorem g3z (q x:Int) (p:List Int) {pv:Value} (hi:Ints w pv p) (k:∀ w',Bw w w' → K (.int .i64 (atM q p x)) w'):a0a Tryz.prog 162 #[.int .i64 q,pv,.int .i64 x] K w:=by
 apply d6f
 unfold f0m
 refine a0l (cs:=[.int .i64 q]) rfl (.start w) fun b1 W hk hb1 hbb=>?_
 refine a0l (cs:=[.int .i64 x]) rfl hk fun b2 W hk hb2 hbb2=>?_
 refine a6l (zs:=[.int .i64 0]) f8f rfl hk fun cb W hk hb3 hgb=>?_
 clear hb1 hb2 hb3
 refine c4v hk fun W hk _ hcc=>?_
 refine c7l (hi.next hk.below) (fun g W2 hb2 hgg hlt hcell=>?_)
 have hcb:=a5l hk.mine
 have hcc:=(hb2.cell hcb).trans hcc
 have hk:=hk.next hb2
 have hgc:g ≠ cb:=by omega
 have hbg:∀ p ∈ cellsOf (cellsOf [] b1 0 [.int .i64 q]) b2 0 [.int .i64 x],True:=fun _ _=>trivial
 refine d1q (w:=w) hi hk.below hlt hcell
  (fun pre W=>KnM w (cellsOf (cellsOf [] b1 0 [.int .i64 q]) b2 0 [.int .i64 x]) cb 1 W ∧ g < W.heap.size ∧ W.cell? ⟨cb,0,none⟩ = some (.int .i64 (atF q x (pre.map Bit.c))))
  (fun y l W=>l = [.int .i64 y.c])
  (fun pre W W' h hf=>⟨b6x h.1 hk.below.size hf,lL h.2.1 hf.size,a4t h.2.2 hf⟩)
  (fun y l W W' h hf=>h) ⟨hk,hlt,hcc⟩ ?_ ?_ ?_
 ·rintro pre y W h
  exact ⟨KeepsFrom.refl _ _,⟨bR,fun o ho=>ho⟩,h,rfl⟩
 ·rintro pre y l u W ⟨hk,hgW,hc⟩ rfl
  try dsimp only
  have hb9:Below W.heap.size W { W with drawn:=W.drawn + 1 }:=.drawn
  have hk9:=hk.drew
  have hcw:=a5l hk9.mine
  have hc:=(hb9.cell (a5l hk.mine)).trans hc
  refine ⟨Nx { W with drawn:=W.drawn + 1 },bR,rfl,?_⟩
  generalize ({ W with drawn:=W.drawn + 1 }:World) = W9 at hk9 hb9 hc hcw ⊢
  refine Xc (fun W0 hW0=>An2 ((hk9.next hW0).cells) ((hW0.cell hcw).trans hc)) ?_
  refine ⟨Nx,?_⟩
  apply a1i
  ·intro w5 h5
   exact b2s _ _ _ (fun w6 h6=>⟨h5.on h6,h6,rfl⟩)
  (intro w9 h9; repeat (intro v9 e9; try (obtain rfl:=e9)))
  refine c5e _ _ _ ?_
  have hk7:=hk9.next h9
  refine c4v hk7 fun W8 hk8 hgr hc8=>?_
  have h97:=hb9.on h9
  refine ⟨(a0y h97).trans (a7u hgr hk7.mine),⟨?_,fun o ho=>?_⟩,hk8,?_,?_⟩
  ·exact (h97.mono hk.below.size).grown hgr (Nat.le_trans hk.below.size h97.size) (fun j hj=>by cases hj; exact hk.base)
  ·have hgw:g < w9.heap.size:=lL hgW h97.size
   rw [hgr.block g hgw (fun e=>hgc (by cases e; rfl)),h97.block g hgW]
   exact ho
  ·exact lL hgW (Nat.le_trans h97.size hgr.size)
  ·rw [hc8]
   simp [atF]
 ·rintro D xs W hD hxs ⟨hk2,hgW,hc⟩ hh
  refine Xa @hc ?_
  have hf:=a9m (B:=W2.heap.size) (.deferred none) hD hh rfl
  refine ⟨hh,?_⟩
  rw [hxs,f4m]
  exact k _ (a1z hk2.below hk.below.size hf)
end
end Go.Proofs
namespace Go.Proofs
open Go Go.Sh Go.RowKit FdSpec TkSpec CodeSpec PrSpec
section
variable {K:VK} {w w' w0 W W':World} {L:List (Addr × Value)} {g n B:Nat} {row:Option Nat}
@[reducible] def uqV (n:Int):Value:=.int .u64 n
theorem g7u:KeyOK Tryz.prog 150 uqV:=g2c (by kernel_rfl)
structure Met (q:Int) (pre:List Int) (l:List (Int × Value)):Prop where
 nd:(l.map (·.1)).Nodup
 mem:∀ k,k ∈ l.map (·.1) ↔ k ∈ pre.map (fun x=>x % q)
 le:l.length ≤ pre.length
 len:l.length = pre.length ↔ (pre.map fun x=>x % q).Nodup
theorem Met.put {q:Int} {pre:List Int} {l:List (Int × Value)} (h:Met q pre l) (x:Int) (v:Value):Met q (pre ++ [x]) (e2y l (x % q) v):=by
 have hk:=d1e l (x % q) v
 have hlen:(e2y l (x % q) v).length = ((e2y l (x % q) v).map (·.1)).length:=by simp
 by_cases hs:(b5c l (x % q)).isSome
 ·rw [if_pos hs] at hk
  have hm:=(a7i l (x % q)).1 hs
  have hm':=(h.mem _).1 hm
  refine ⟨b3r l _ v h.nd,fun k=>?_,?_,?_⟩
  ·rw [hk,h.mem k,List.map_append,List.mem_append]
   refine ⟨.inl,fun e=>e.elim id fun e=>?_⟩
   simp only [List.map_cons,List.map_nil,List.mem_singleton] at e
   rw [e]; exact hm'
  ·rw [hlen,hk,List.length_map,List.length_append]
   have:=h.le
   omega
  ·rw [hlen,hk,List.length_map,List.length_append]
   have:=h.le
   refine ⟨fun e=>by simp only [List.length_cons,List.length_nil] at e; omega,fun e=>?_⟩
   rw [List.map_append,List.nodup_append] at e
   exact (e.2.2 _ hm' _ (by simp) rfl).elim
 ·rw [if_neg hs] at hk
  have hm:x % q ∉ l.map (·.1):=fun e=>hs ((a7i l (x % q)).2 e)
  have hm':x % q ∉ pre.map (fun x=>x % q):=fun e=>hm ((h.mem _).2 e)
  refine ⟨b3r l _ v h.nd,fun k=>?_,?_,?_⟩
  ·rw [hk,List.mem_append,h.mem k,List.map_append,List.mem_append]
   simp
  ·rw [hlen,hk,List.length_append,List.length_map,List.length_append]
   have:=h.le
   simp only [List.length_cons,List.length_nil]
   omega
  ·rw [hlen,hk,List.length_append,List.length_map,List.length_append,List.map_append,List.nodup_append]
   simp only [List.length_cons,List.length_nil]
   rw [show l.length + (0 + 1) = pre.length + (0 + 1) ↔ l.length = pre.length by omega,h.len]
   refine ⟨fun e=>⟨e,by simp,fun a ha b hb=>?_⟩,fun e=>e.1⟩
   simp only [List.map_cons,List.map_nil,List.mem_singleton] at hb
   rw [hb]
   rintro rfl
   exact hm' ha
theorem b6z {q:Int} (h:a3b q = true):okN q:=by
 unfold a3b at h
 by_cases h1:q < 2 ∨ 2305843009213693952 ≤ q
 ·rw [if_pos h1] at h
  cases h
 ·unfold okN
  omega
def PtJ (q:Int) (xs:List Int) (w0:World) (b:Nat) (vs:List Value) (W:World):Prop:=Bw w0 W ∧ w0.heap.size ≤ b ∧ ∃ (u:Value) (i:Nat) (l:List (Int × Value)),vs = [u,.int .i64 (i:Int)] ∧ i ≤ xs.length ∧ c9a uqV W b l ∧ Met q (xs.take i) l
theorem f4n {T:TypeId} {b:Nat} {l:List (Int × Value)} (h:c9a uqV w b l) (k:K (.int .i64 l.length) w):oM Tryz.prog (.call { callee:=.builtin .len,args:=#[.tmp 0],argTypes:=#[228] }) T [.map (some b)] K w:=by
 obtain ⟨es,clock,hb,he,_⟩:=h
 have e:es.size = l.length:=by
  have:=congrArg List.length he
  simpa using this
 have hr:(Builtin.len_ #[228] T #[.map (some b)]).run Tryz.prog w = .ok (goInt es.size) w:=run_len_map _ _ _ b es clock (by kernel_rfl) hb
 have e2:oM Tryz.prog (.call { callee:=.builtin .len,args:=#[.tmp 0],argTypes:=#[228] }) T [.map (some b)] K w = K (.int .i64 es.size) w:=by
  refine a6v (w':=w) ?_
  simp [xop,a1h,evE,go_sem]
  rw [hr]
  rfl
 rw [e2,e]
 exact k
theorem f4o {T:TypeId} {b:Nat} {l:List (Int × Value)} {x:Int} {v:Value} (h:c9a uqV w b l) (k:∀ w',c9a uqV w' b (e2y l x v) → w.grownBy w' (some b) → K undef w'):oM Tryz.prog (.mapUpdate 228 (.tmp 0) (.tmp 1) (.tmp 2)) T [.map (some b),.int .u64 x,v] K w:=by
 obtain ⟨w',hr,hm,hg,_⟩:=d2x (P:=Tryz.prog) (t:=228) (et:=4) g7u (by kernel_rfl) h x v
 rw [e1y (S:=Instr.mapUpdate 228 (.map (some b)) (.int .u64 x) v) rfl,hr]
 exact k w' hm hg
theorem d3p (q:Int) (xs:List Int) {xv:Value} (hx:Ints w xv xs) (hT:DbT w) (k:∀ w',Bw w w' → K (.bool (a3b q && decide (xs.length ≤ 64) && PrSpec.distinct q xs)) w'):a0a Tryz.prog 197 #[.int .i64 q,xv] K w:=by
 apply d6h
 unfold f0o
 obtain ⟨ad,c,rfl⟩:=hx.isSlice
 have hln:=hx.len
 refine c2w q hT (fun w1 h1=>?_)
 cases hp:a3b q with
 | false=>
  rw [hp] at k
  refine Xa0 ?_
  exact k _ h1
 | true=>
 rw [hp] at k
 have hq:=b6z hp
 by_cases h64:64 < xs.length
 ·have h64':(64:Int) < xs.length:=by omega
  rw [decide_eq_false (by omega)] at k
  refine Xa @h64' ?_
  exact k _ h1
 have h64':¬ (64:Int) < xs.length:=by omega
 rw [decide_eq_true (by omega)] at k
 refine Xa @h64' ?_
 have hal:Below w1.heap.size w1 (w1.alloc (.map #[] 0)):=(Below.refl _ w1).alloc (rL) _
 have hb0:Below w.heap.size w (w1.alloc (.map #[] 0)):=h1.on hal
 refine ⟨PtJ q xs w w1.heap.size,b2m xs.length,⟨hb0,h1.size,_,0,[],rfl,by omega,e1t w1,⟨by simp,by simp,by simp,by simp⟩⟩,?_⟩
 rintro _ _ w2 ⟨h2,hbb,u,i,l,rfl,hi,hm,hme⟩
 by_cases hin:i = xs.length
 ·subst hin
  rw [List.take_length] at hme
  refine Xa0 ?_
  refine f4n hm ?_
  have k:=k _ h2
  by_cases hl:l.length = xs.length
  ·have hl':(l.length:Int) = xs.length:=by omega
   have e:PrSpec.distinct q xs = true:=decide_eq_true (hme.len.1 hl)
   rw [e] at k
   refine Xa @hl' ?_
   exact k
  ·have hl':¬ (l.length:Int) = xs.length:=by omega
   have e:PrSpec.distinct q xs = false:=decide_eq_false (fun e=>hl (hme.len.2 e))
   rw [e] at k
   refine Xa @hl' ?_
   exact k
 ·obtain ⟨b,o,rfl,hlb,hcell,hrng,_⟩:=hx.at (i:=i) (by omega)
  have ex:xs[i]? = some xs[i]:=gE (by omega)
  generalize xs[i] = x at *
  have hil:(i:Int) < xs.length:=by omega
  refine Xa (An2 (hcell _ h2) @hil) ?_
  refine a2h q x hq ?_
  refine f4o hm (fun w3 hm3 hg3=>?_)
  refine Xa0 ?_
  refine ⟨⟨h2.grown hg3 h2.size (fun j hj=>by cases hj; exact hbb),hbb,_,i + 1,_,rfl,by omega,hm3,?_⟩,by simp only [a1u]; omega⟩
  rw [← a2s ex]
  exact hme.put x _
end
end Go.Proofs
namespace Go.Proofs
open Go Go.Sh Go.RowKit FdSpec TkSpec CodeSpec PrSpec FdPoly
section
variable {K:VK} {w w' w0 W W':World} {L:List (Addr × Value)} {g n B:Nat} {row:Option Nat}
structure RowP (W:World) (B g c:Nat) (l:List Int):Prop where
 cells:∃ cur,W.heap[g]? = some (.cells cur 3 (0,0)) ∧ cur.size = c ∧ cur.toList.take l.length = l.map (Value.int .i64)
 le:l.length ≤ c
 base:B ≤ g
 max:c ≤ maxLen
theorem RowP.of {ad:Option Addr} {c:Nat} {l:List Int} (h:OwnI W B (.slice ad l.length c) l) (hl:l ≠ []):∃ g,ad = some ⟨g,0,none⟩ ∧ RowP W B g c l:=by
 rcases h.2 with ⟨h1,h2⟩ | ⟨g,cap,cur,h1,hb,hg,hc,hm,hs,ht⟩
 ·exact absurd (List.length_eq_zero_iff.1 h2) hl
 ·cases h1
  refine ⟨g,rfl,⟨cur,hg,by simpa using hs,?_⟩,hc,hb,hm⟩
  rw [Nat.mul_one,a3z] at ht
  exact ht
theorem RowP.owns {c:Nat} {l:List Int} (h:RowP W B g c l):OwnI W B (.slice (some ⟨g,0,none⟩) l.length c) l:=by
 obtain ⟨cur,hg,hs,ht⟩:=h.cells
 refine ⟨by rw [a3z]; simp,.inr ⟨g,c,cur,rfl,h.base,hg,h.le,h.max,by simpa using hs,?_⟩⟩
 rw [Nat.mul_one,a3z]
 exact ht
theorem RowP.lt {c:Nat} {l:List Int} (h:RowP W B g c l):g < W.heap.size:=by
 obtain ⟨cur,hg,_⟩:=h.cells
 exact (Array.getElem?_eq_some_iff.1 hg).1
theorem RowP.next {c:Nat} {l:List Int} (h:RowP W B g c l) (hb:Bw W W'):RowP W' B g c l:=by
 obtain ⟨cur,hg,hr⟩:=h.cells
 exact ⟨⟨cur,by rw [hb.block g h.lt]; exact hg,hr⟩,h.le,h.base,h.max⟩
theorem RowP.cell {c:Nat} {l:List Int} (h:RowP W B g c l) {i:Nat} {x:Int} (hx:l[i]? = some x):W.cell? ⟨g,i,none⟩ = some (.int .i64 x):=by
 obtain ⟨cur,hg,hs,ht⟩:=h.cells
 have hi:=(gS hx).1
 have h1:(cur.toList.take l.length)[i]? = some (.int .i64 x):=by rw [ht,List.getElem?_map,hx]; rfl
 rw [List.getElem?_take_of_lt hi] at h1
 unfold World.cell?
 rw [hg]
 simpa using h1
theorem RowP.set {c:Nat} {l:List Int} {i:Nat} {x:Int} {T':TypeId} (h:RowP W B g c l) (hi:i < l.length) (k:∀ W',W.grownBy W' (some g) → RowP W' B g c (l.set i x) → K undef W') :
  oM Tryz.prog (.store 3 (.tmp 0) (.tmp 1)) T' [.pointer (some ⟨g,i,none⟩),.int .i64 x] K W:=by
 obtain ⟨cur,hg,hs,ht⟩:=h.cells
 have hh:Holds W g 3 cur.toList:=by
  unfold Holds
  simpa using hg
 have hle:=h.le
 refine a3q (w:=W) (T:=3) d3o rfl rfl hh (by simpa [hs] using lL hi hle) (fun W2 h2 h3=>k W2 h2 ⟨⟨(cur.toList.set i (.int .i64 x)).toArray,h3,by simpa using hs,?_⟩,by simpa using hle,h.base,h.max⟩)
 simp only [List.length_set]
 show (cur.toList.set i (.int .i64 x)).take l.length = _
 rw [List.take_set,ht,List.map_set]
theorem RowP.other {b:Option Nat} {c:Nat} {l:List Int} (h:RowP W B g c l) (hg:W.grownBy W' b) (hb:b ≠ some g):RowP W' B g c l:=by
 obtain ⟨cur,h1,hr⟩:=h.cells
 exact ⟨⟨cur,by rw [hg.block g h.lt (fun e=>hb (by first | exact e | exact e.symm))]; exact h1,hr⟩,h.le,h.base,h.max⟩
theorem f4p {T:TypeId} {x q:Int} (hq:okN q) (k:K (.int .i64 (x % q)) w):oM Tryz.prog (.convert 150 3 (.tmp 0)) T [.int .u64 (x % q)] K w:=by
 have h1:=Int.emod_nonneg x (show q ≠ 0 by unfold okN at hq; omega)
 have h2:=Int.emod_lt_of_pos x (show 0 < q by unfold okN at hq; omega)
 unfold okN at hq
 generalize x % q = y at *
 have hw:IntKind.i64.wrap y = y:=a0o _ (by omega) (by omega)
 rw [b5f]
 have e:(convert 150 3 (.int .u64 y)).run Tryz.prog w = .ok (.int .i64 (IntKind.i64.wrap y)) w:=by kernel_rfl
 rw [e,hw]
 exact k
theorem b7a {T:TypeId} {n:Nat} (hn:n ≤ 65536) (k:∀ g W,Bw w W → w.heap.size ≤ g → RowP W w.heap.size g n (List.replicate n 0) → K (.slice (some ⟨g,0,none⟩) n n) W):oM Tryz.prog (.makeSlice 24 (.tmp 0) (.tmp 1)) T [.int .i64 n,.int .i64 n] K w:=by
 obtain ⟨w',hr,ho,hg⟩:=run_makeSlice_full (P:=Tryz.prog) (w:=w) w.heap.size 24 3 ((Tryz.prog.info? 3).getD default) (.int .i64 0) 1 (by kernel_rfl) (by kernel_rfl) (by kernel_rfl) (by kernel_rfl) .i64 .i64 n (by omega) (by
  have:((Tryz.prog.info? 3).getD default).bytes = 8:=by kernel_rfl
  rw [this]; omega) (by simp only [maxLen]; omega) (rL)
 rw [a7j,hr]
 have hb:Bw w w':=⟨hg.os,hg.tape,hg.output,hg.size,fun k hk=>hg.block k hk (by simp)⟩
 have hcells:(madeCells (Value.int .i64 0).cells (n * 1)).toList = List.replicate n (.int .i64 0):=by
  rw [Nat.mul_one]
  apply List.ext_getElem?
  intro i
  unfold madeCells
  simp [Value.cells,List.getElem?_replicate,Array.getElem?_ofFn]
  try (split <;> simp_all [Nat.mod_one])
 refine k _ _ hb (rL) ?_
 rcases ho.2 with ⟨h1,h2⟩ | ⟨g,cap,cur,h1,hb2,hg2,hc,hm,hs,ht⟩
 ·cases h1
 ·cases h1
  refine ⟨⟨cur,hg2,by simpa using hs,?_⟩,by simp,rL,hm⟩
  rw [hcells,Nat.mul_one] at ht
  rw [List.length_replicate,ht,List.map_replicate]
theorem getD_some {l:List Int} {i:Nat} (h:i < l.length):l[i]? = some (l.getD i 0):=by
 rw [List.getD_eq_getElem?_getD,gE h]; rfl
def f7o (q x:Int) (o:List Int) (i:Nat):Int:=if i = 0 then a3g q 0 (a2n q (o.getD 0 0) x) else a6i q (a3g q 0 (a2n q (o.getD i 0) x)) (o.getD (i - 1) 0)
theorem d3q {q x d:Int} {o o':List Int} (hl:o'.length = o.length) (h0:0 < o.length) (h:∀ i,i < o.length → o'.getD i 0 = f7o q x o i):o'.set 0 (a6i q (o'.getD 0 0) d) = b4i q x d o:=by
 apply List.ext_getElem?
 intro i
 unfold b4i
 rw [List.getElem?_map]
 by_cases hi:i < o.length
 ·rw [List.getElem?_range hi]
  show _ = some (f5b q x d o i)
  have h1:=getD_some (l:=o'.set 0 (a6i q (o'.getD 0 0) d)) (i:=i) (by rw [List.length_set]; omega)
  rw [h1,a8m _ _ _ _ (by omega)]
  unfold f5b
  by_cases hz:i = 0
  ·rw [if_pos hz,if_pos hz,h 0 h0]; rfl
  ·rw [if_neg hz,if_neg hz,h i hi]
   unfold f7o
   rw [if_neg hz]
 ·rw [List.getElem?_eq_none (by rw [List.length_set]; omega),List.getElem?_eq_none (by simp; omega)]
  rfl
def TaJ (l:List Int) (w0:World) (vs:List Value) (W:World):Prop:=Bw w0 W ∧ ∃ (u v:Value) (i:Nat),vs = [u,v,.int .i64 (i:Int)] ∧ i ≤ l.length ∧ OwnI W w0.heap.size v (l.take i)
def TbJ (q:Int) (xs d:List Int) (w0:World) (g c:Nat) (vs:List Value) (W:World):Prop:=Bw w0 W ∧ ∃ (u0 u1 u2:Value) (j:Nat),vs = [u0,u1,u2,.int .i64 ((j + 1:Nat):Int)] ∧ j + 1 ≤ xs.length ∧ RowP W w0.heap.size g c (b1o q xs j d)
def TcJ (q:Int) (xs T:List Int) (k:Nat) (w0:World) (g c:Nat) (vs:List Value) (W:World):Prop:=Bw w0 W ∧ ∃ (u0 u1:Value) (m:Nat) (d:List Int),vs = [u0,u1,.int .i64 ((k:Int) + m - 1)] ∧ k + m ≤ xs.length ∧ d.length = xs.length ∧ dIn q xs k m d = T ∧ RowP W w0.heap.size g c d
def TdJ (q:Int) (xs d T:List Int) (w0:World) (g c g2 n:Nat) (vs:List Value) (W:World):Prop:=Bw w0 W ∧ RowP W w0.heap.size g c d ∧ ∃ (u:Value) (m:Nat) (o:List Int),vs = [u,.int .i64 ((m:Int) - 1)] ∧ m ≤ n ∧ o.length = n ∧ d4t q xs d m o = T ∧ RowP W w0.heap.size g2 n o
def TeJ (q x:Int) (o d:List Int) (w0:World) (g c g2 n:Nat) (vs:List Value) (W:World):Prop:=Bw w0 W ∧ RowP W w0.heap.size g c d ∧ ∃ (m:Nat) (o':List Int),vs = [.int .i64 ((m:Int) - 1)] ∧ m ≤ n ∧ o'.length = n ∧ (∀ i,i < n → o'.getD i 0 = if i < m then o.getD i 0 else f7o q x o i) ∧ RowP W w0.heap.size g2 n o'
theorem d1r (q:Int) (xs ys:List Int) {xv yv:Value} (hx:Ints w xv xs) (hy:Ints w yv ys) (hT:DbT w) (h0:0 < xs.length)
  (k:∀ w' v b,Bw w w' → OwnI w' w.heap.size v (a4h q xs ys) → K (.tuple #[v,.bool b]) w'):a0a Tryz.prog 161 #[.int .i64 q,xv,yv] K w:=by
 apply d6g
 unfold f0n
 obtain ⟨xad,xc,rfl⟩:=hx.isSlice
 obtain ⟨yad,yc,rfl⟩:=hy.isSlice
 have hlx:=hx.len
 have hly:=hy.len
 refine d3p q xs hx hT (fun w1 h1=>?_)
 unfold a4h at k
 have bad:(a3b q && decide (xs.length ≤ 64) && PrSpec.distinct q xs && decide (xs.length = ys.length)) = false → ∀ w',Bw w w' → K (.tuple #[.slice none 0 0,.bool false]) w':=by
  intro hf w' h
  have:=k w' (.slice none 0 0) false h
  rw [hf] at this
  exact this a3u
 cases hp:(a3b q && decide (xs.length ≤ 64) && PrSpec.distinct q xs) with
 | false=>
  refine Xa0 ?_
  exact bad (by rw [hp]; rfl) _ h1
 | true=>
 by_cases hlen:¬ xs.length = ys.length
 ·have hlen':¬ (xs.length:Int) = ys.length:=by omega
  refine Xa @hlen' ?_
  exact bad (by rw [hp,decide_eq_false hlen]; rfl) _ h1
 have hlen:xs.length = ys.length:=by omega
 have hlen':(xs.length:Int) = ys.length:=by omega
 rw [hp,decide_eq_true hlen] at k
 simp only [Bool.and_self,if_true] at k
 simp only [bA,dE] at hp
 have hq:=b6z hp.1.1
 have h64:=hp.1.2
 clear bad hp
 have hX:∃ b o,xad = some ⟨b,o,none⟩ ∧ ∀ i x,xs[i]? = some x → ∀ w',Bw w w' → w'.cell? ⟨b,o + i,none⟩ = some (.int .i64 x):=by
  obtain ⟨b,o,e,_,_⟩:=hx.at (i:=0) h0
  refine ⟨b,o,e,fun i x hi w' hb=>?_⟩
  obtain ⟨hi1,rfl⟩:=gS hi
  obtain ⟨b2,o2,e2,_,hc,_⟩:=hx.at (i:=i) hi1
  rw [e] at e2
  cases e2
  exact hc _ hb
 obtain ⟨xb,xo,rfl,hXc⟩:=hX
 have hd0:(d0 q ys).length = ys.length:=by simp [d0]
 refine Xa @hlen' ?_
 refine ⟨TaJ (d0 q ys) w,(fun vs _=>match vs with | [_,_,.int _ i]=>ys.length - i.toNat | _=>0),⟨h1,_,_,0,rfl,by omega,a3u⟩,?_⟩
 rintro _ _ w2 ⟨h2,u,v,i,rfl,hi,ho⟩
 by_cases hin:¬ i = ys.length
 ·obtain ⟨b,o,rfl,hlb,hcell,hrng,_⟩:=hy.at (i:=i) (by omega)
  have ey:ys[i]? = some ys[i]:=gE (by omega)
  have ed:(d0 q ys)[i]? = some (ys[i] % q):=by unfold d0; rw [List.getElem?_map,ey]; rfl
  generalize ys[i] = y at *
  have hil:(i:Int) < ys.length:=by omega
  refine Xa (An2 (hcell _ h2) @hil) ?_
  refine a2h q y hq ?_
  refine f4p hq ?_
  refine mk1 _ (by have a:=Int.emod_nonneg y (show q ≠ 0 by unfold okN at hq; omega); have b:=Int.emod_lt_of_pos y (show 0 < q by unfold okN at hq; omega); unfold okN at hq; unfold I64; omega) (fun v3 w3 h3 hi3=>?_)
  refine a9u (ho.keep h3) (Nat.le_trans h2.size h3.size) hi3 (by simp only [List.length_take]; omega) (fun v4 w4 ho4 h4=>?_)
  refine Xa0 ?_
  refine ⟨⟨(h2.on h3).trans h4,_,_,i + 1,rfl,by omega,?_⟩,by show ys.length - (((i + 1:Nat):Int)).toNat < ys.length - ((i:Nat):Int).toNat; omega⟩
  rw [← a2s ed]
  exact ho4
 have hin:i = ys.length:=by omega
 rw [List.take_of_length_le (by omega)] at ho
 obtain ⟨dad,dc,rfl⟩:=a2m ho
 obtain ⟨g,rfl,hR⟩:=RowP.of ho (by intro e; rw [e] at hd0; simp at hd0; omega)
 rw [hd0] at *
 clear ho hi
 refine Xa @hin ?_
 refine ⟨TbJ q xs (d0 q ys) w g dc,(fun vs _=>match vs with | [_,_,_,.int _ k]=>xs.length - k.toNat | _=>0),⟨h2,_,_,_,0,rfl,by omega,hR⟩,?_⟩
 clear hR h2
 rintro _ _ w3 ⟨h3,u0,u1,u2,j,rfl,hj,hR⟩
 have hdl:(b1o q xs j (d0 q ys)).length = xs.length:=by rw [b6l]; simp [d0,hlen]
 obtain ⟨kk,hkk⟩:∃ kk:Nat,j + 1 = kk:=⟨_,rfl⟩
 rw [hkk] at hj ⊢
 by_cases hjn:kk < xs.length
 ·have hjn':(kk:Int) < xs.length:=by omega
  refine Xa @hjn' ?_
  refine ⟨TcJ q xs (b1o q xs kk (d0 q ys)) kk w g dc,(fun vs _=>match vs with | [_,_,.int _ i]=>(i + 1).toNat | _=>0),⟨h3,u1,u2,xs.length - kk,_,?_,by omega,hdl,by rw [← hkk]; rfl,hR⟩,?_⟩
  ·have:(xs.length:Int) - 1 = (kk:Int) + ((xs.length - kk:Nat):Int) - 1:=by omega
   rw [this]
   rfl
  clear hR h3
  rintro _ _ w4 ⟨h4,u3,u4,m,d,rfl,hm,hdlen,hdT,hR⟩
  cases m with
  | zero=>
   have hneg:¬ (kk:Int) ≤ (kk:Int) + ((0:Nat):Int) - 1:=by omega
   refine Xa @hneg ?_
   rw [show d = b1o q xs kk (d0 q ys) from hdT] at hR
   refine ⟨⟨h4,_,_,_,kk,rfl,by omega,hR⟩,by show xs.length - (((kk + 1:Nat):Int)).toNat < xs.length - ((kk:Nat):Int).toNat; omega⟩
  | succ m=>
   obtain ⟨i,hi⟩:∃ i:Nat,i = kk + m:=⟨_,rfl⟩
   have ei:(kk:Int) + ((m + 1:Nat):Int) - 1 = (i:Int):=by omega
   rw [ei]
   have hki:(kk:Int) ≤ (i:Int):=by omega
   obtain ⟨a,ha⟩:∃ a:Nat,a = i - kk:=⟨_,rfl⟩
   obtain ⟨b,hb⟩:∃ b:Nat,b = i - 1:=⟨_,rfl⟩
   have hsub:(i:Int) - (kk:Int) = (a:Int):=by omega
   have hsub1:(i:Int) - 1 = (b:Int):=by omega
   have hix:(i:Int) < xs.length:=by omega
   have hix2:(a:Int) < xs.length:=by omega
   have hix3:(b:Int) < xs.length:=by omega
   have x1:=getD_some (l:=xs) (i:=i) (by omega)
   have x2:=getD_some (l:=xs) (i:=a) (by omega)
   have y1:=getD_some (l:=d) (i:=i) (by omega)
   have y2:=getD_some (l:=d) (i:=b) (by omega)
   have hdn:e3w q xs kk d i = a2n q (a3g q (d.getD i 0) (d.getD b 0)) (c5h q (a3g q (xs.getD i 0) (xs.getD a 0))):=by unfold e3w; rw [hb,ha]
   have hwa:IntKind.i64.wrap (a:Int) = a:=a0o _ (by omega) (by omega)
   have hwb:IntKind.i64.wrap (b:Int) = b:=a0o _ (by omega) (by omega)
   refine Xa @hki ?_
   have hb9:Below w4.heap.size w4 { w4 with drawn:=w4.drawn + 1 }:=.drawn
   have hR9:=hR.next hb9
   have h9':=h4.on hb9
   refine ⟨Nx { w4 with drawn:=w4.drawn + 1 },bR,rfl,?_⟩
   generalize ({ w4 with drawn:=w4.drawn + 1 }:World) = W9 at hR9 h9' ⊢
   clear hR hb9
   refine Xf (fun W0 hW0=>An2 (hXc _ _ x1 _ (h9'.on hW0)) (hXc _ _ x2 _ (h9'.on hW0))) (An4 @hsub @hwa @hix @hix2) ?_
   refine ⟨Nx,?_⟩
   apply a1i
   ·intro w5 h5
    exact c0b _ _ _ ⟨h5,bR,rfl⟩
   apply a1i
   ·rintro w5 h5 _ rfl
    exact d3z _ _ (fun w6 h6=>⟨h5.on h6,h6,rfl⟩)
   refine Xd0 ?_
   (intro w9 h9; repeat (intro v9 e9; try (obtain rfl:=e9)))
   have hg0:w.heap.size ≤ g:=hR9.base
   have hb9:Below w9.heap.size w9 { w9 with drawn:=w9.drawn + 1 }:=.drawn
   have hR8:=(hR9.next h9).next hb9
   have h8':=(h9'.on h9).on hb9
   have hdd:(i:Int) < d.length:=by omega
   have hbd:(b:Int) < d.length:=by omega
   have hdl2:d.length = ys.length:=by omega
   refine ⟨Nx { w9 with drawn:=w9.drawn + 1 },bR,rfl,?_⟩
   generalize ({ w9 with drawn:=w9.drawn + 1 }:World) = W8 at hR8 h8' ⊢
   clear hR9 hb9 h9'
   have hiy:(i:Int) < ys.length:=by omega
   have hby:(b:Int) < ys.length:=by omega
   refine Xf (fun W0 hW0=>An2 ((hR8.next hW0).cell y1) ((hR8.next hW0).cell y2)) (An4 @hsub1 @hwb @hiy @hby) ?_
   refine ⟨Nx,?_⟩
   apply a1i
   ·intro w5 h5
    exact c0b _ _ _ ⟨h5,bR,rfl⟩
   apply a1i
   ·rintro w5 h5 _ rfl
    exact b2s _ _ _ (fun w6 h6=>⟨h5.on h6,h6,rfl⟩)
   rintro w10 h10 _ rfl _ rfl
   refine Xa @hiy ?_
   have hv:a2n q (a3g q (d[i]?.getD 0) (d[b]?.getD 0)) ((b4g q (a3g q (xs[i]?.getD 0) (xs[a]?.getD 0))).getD 0) = e3w q xs kk d i:=by
    rw [hdn]
    simp [c5h,List.getD_eq_getElem?_getD]
   rw [hv]
   refine (hR8.next h10).set (i:=i) (by omega) (fun W12 hg12 hR12=>?_)
   have h12:=(h8'.on h10).grown hg12 (Nat.le_trans h8'.size h10.size) (fun jj hjj=>by cases hjj; exact hg0)
   refine Xa (An2 @hsub1 @hwb) ?_
   have ec:(b:Int) = (kk:Int) + m - 1:=by omega
   rw [ec]
   refine ⟨⟨h12,_,_,m,d.set i (e3w q xs kk d i),rfl,by omega,by rw [List.length_set]; exact hdlen,by rw [← hdT,hi]; rfl,hR12⟩,?_⟩
   show ((kk:Int) + m - 1 + 1).toNat < ((i:Int) + 1).toNat
   omega
 have hkn:kk = xs.length:=by omega
 rw [show j = xs.length - 1 by omega] at hR
 generalize hD:b1o q xs (xs.length - 1) (d0 q ys) = D at *
 have hDl:D.length = xs.length:=by rw [← hD,b6l]; simp [d0,hlen]
 have hjn':¬ (kk:Int) < xs.length:=by omega
 refine Xa @hjn' ?_
 refine b7a (by omega) (fun g2 w5 h5 hg2 hO=>?_)
 have hne:g ≠ g2:=by have:=hR.lt; omega
 have hR:=hR.next h5
 have h5':=h3.on h5
 have hO:RowP w5 w.heap.size g2 xs.length (List.replicate xs.length 0):=⟨hO.cells,hO.le,Nat.le_trans h3.size hO.base,hO.max⟩
 have hg0:w.heap.size ≤ g2:=hO.base
 refine Xa0 ?_
 refine ⟨TdJ q xs D (d4t q xs D xs.length (List.replicate xs.length 0)) w g dc g2 xs.length,(fun vs _=>match vs with | [_,.int _ i]=>(i + 1).toNat | _=>0),⟨h5',hR,_,xs.length,_,rfl,rL,by simp,rfl,hO⟩,?_⟩
 clear hR hO h5' h5 h3 hg2
 rintro _ _ w6 ⟨h6,hR6,u,m,o,rfl,hm,hol,hoT,hO6⟩
 cases m with
 | zero=>
  have hneg:¬ (0:Int) ≤ ((0:Nat):Int) - 1:=by omega
  refine Xa @hneg ?_
  have hoo:=hO6.owns
  rw [hol,show o = thr q xs ys by unfold thr; rw [hD]; exact hoT] at hoo
  exact k _ _ _ h6 hoo
 | succ m=>
  have ei:((m + 1:Nat):Int) - 1 = (m:Int):=by omega
  rw [ei]
  have hpos:(0:Int) ≤ (m:Int):=by omega
  refine Xa @hpos ?_
  refine ⟨TeJ q (xs.getD m 0) o D w g dc g2 xs.length,(fun vs _=>match vs with | [.int _ i]=>(i + 1).toNat | _=>0),⟨h6,hR6,xs.length,o,rfl,rL,hol,fun i hi=>by rw [if_pos hi],hO6⟩,?_⟩
  clear hR6 hO6 h6
  rintro _ _ w7 ⟨h7,hR7,m2,o',rfl,hm2,hol',hval,hO7⟩
  have hb9:Below w7.heap.size w7 { w7 with drawn:=w7.drawn + 1 }:=.drawn
  have hmx:(m:Int) < xs.length:=by omega
  have hmy:(m:Int) < ys.length:=by omega
  have x1:=getD_some (l:=xs) (i:=m) (by omega)
  cases m2 with
  | zero=>
   have hneg:¬ (0:Int) ≤ ((0:Nat):Int) - 1:=by omega
   have h0x:(0:Int) < xs.length:=by omega
   refine Xa @hneg ?_
   have hR8:=hR7.next hb9
   have hO8:=hO7.next hb9
   have h8:=h7.on hb9
   refine ⟨Nx { w7 with drawn:=w7.drawn + 1 },bR,rfl,?_⟩
   generalize ({ w7 with drawn:=w7.drawn + 1 }:World) = W8 at hR8 hO8 h8 ⊢
   have y1:=getD_some (l:=D) (i:=m) (by omega)
   have y2:=getD_some (l:=o') (i:=0) (by omega)
   refine Xf (fun W0 hW0=>An2 ((hR8.next hW0).cell y1) ((hO8.next hW0).cell y2)) (An2 @hmy @h0x) ?_
   refine ⟨Nx,?_⟩
   apply a1i
   ·intro w9 h9
    exact c5e _ _ _ ⟨h9,bR,rfl⟩
   rintro w10 h10 _ rfl
   refine Xa @h0x ?_
   have hv:a6i q (o'[0]?.getD 0) (D[m]?.getD 0) = a6i q (o'.getD 0 0) (D.getD m 0):=by simp [List.getD_eq_getElem?_getD]
   rw [hv]
   refine (hO8.next h10).set (i:=0) (by omega) (fun W12 hg12 hO12=>?_)
   rw [d3q (x:=xs.getD m 0) (o:=o) (by omega) (by omega) (fun i hi=>by have:=hval i (by omega); rw [if_neg (by omega)] at this; exact this)] at hO12
   have h12:=(h8.on h10).grown hg12 (Nat.le_trans h8.size h10.size) (fun jj hjj=>by cases hjj; exact hg0)
   have hR12:=(hR8.next h10).other hg12 (by intro e; cases e; exact hne rfl)
   refine Xa0 ?_
   refine ⟨⟨h12,hR12,_,m,_,rfl,by omega,by simp [b4i]; omega,hoT,hO12⟩,?_⟩
   show ((m:Int) - 1 + 1).toNat < ((m:Int) + 1).toNat
   omega
  | succ m2=>
   have ei2:((m2 + 1:Nat):Int) - 1 = (m2:Int):=by omega
   rw [ei2]
   have hpos2:(0:Int) ≤ (m2:Int):=by omega
   have hm2x:(m2:Int) < xs.length:=by omega
   refine Xa @hpos2 ?_
   refine ⟨fun _ W=>Bw w W ∧ RowP W w.heap.size g dc D ∧ RowP W w.heap.size g2 xs.length (o'.set m2 (f7o q (xs.getD m 0) o m2)),?_,?_⟩
   ·have hR8:=hR7.next hb9
    have hO8:=hO7.next hb9
    have h8:=h7.on hb9
    refine ⟨Nx { w7 with drawn:=w7.drawn + 1 },bR,rfl,?_⟩
    generalize ({ w7 with drawn:=w7.drawn + 1 }:World) = W8 at hR8 hO8 h8 ⊢
    have y2:=getD_some (l:=o') (i:=m2) (by omega)
    refine Xf (fun W0 hW0=>An2 (hXc _ _ x1 _ (h8.on hW0)) ((hO8.next hW0).cell y2)) (An2 @hmx @hm2x) ?_
    refine ⟨Nx,?_⟩
    apply a1i
    ·intro w9 h9
     exact b2s _ _ _ (fun w6 h6=>⟨h9.on h6,h6,rfl⟩)
    apply a1i
    ·rintro w9 h9 _ rfl
     exact c0b _ _ _ ⟨h9,bR,rfl⟩
    rintro w10 h10 _ rfl _ rfl
    refine Xa @hm2x ?_
    have hv2:=hval m2 (by omega)
    rw [if_pos (by omega)] at hv2
    have hv:a3g q 0 (a2n q (o'[m2]?.getD 0) (xs[m]?.getD 0)) = a3g q 0 (a2n q (o.getD m2 0) (xs.getD m 0)):=by rw [← hv2]; simp [List.getD_eq_getElem?_getD]
    rw [hv]
    refine (hO8.next h10).set (i:=m2) (by omega) (fun W12 hg12 hO12=>?_)
    have h12:=(h8.on h10).grown hg12 (Nat.le_trans h8.size h10.size) (fun jj hjj=>by cases hjj; exact hg0)
    have hR12:=(hR8.next h10).other hg12 (by intro e; cases e; exact hne rfl)
    by_cases hz:m2 = 0
    ·have hz':¬ (0:Int) < (m2:Int):=by omega
     refine Xa @hz' ?_
     refine ⟨h12,hR12,?_⟩
     unfold f7o
     rw [if_pos hz,hz]
     rw [hz] at hO12
     exact hO12
    ·have hz':(0:Int) < (m2:Int):=by omega
     refine Xa @hz' ?_
     obtain ⟨b,hb⟩:∃ b:Nat,b = m2 - 1:=⟨_,rfl⟩
     have hsub1:(m2:Int) - 1 = (b:Int):=by omega
     have hwb:IntKind.i64.wrap (b:Int) = b:=a0o _ (by omega) (by omega)
     have hbx:(b:Int) < xs.length:=by omega
     have hbl:Below W12.heap.size W12 { W12 with drawn:=W12.drawn + 1 }:=.drawn
     have hR13:=hR12.next hbl
     have hO13:=hO12.next hbl
     have h13:=h12.on hbl
     have y3:=getD_some (l:=o'.set m2 (a3g q 0 (a2n q (o.getD m2 0) (xs.getD m 0)))) (i:=m2) (by rw [List.length_set]; omega)
     have y4:=getD_some (l:=o'.set m2 (a3g q 0 (a2n q (o.getD m2 0) (xs.getD m 0)))) (i:=b) (by rw [List.length_set]; omega)
     rw [a8m _ _ _ _ (by omega),if_pos rfl] at y3
     have hvb:=hval b (by omega)
     rw [if_pos (by omega)] at hvb
     rw [a8m _ _ _ _ (by omega),if_neg (by omega),hvb] at y4
     refine ⟨Nx { W12 with drawn:=W12.drawn + 1 },bR,rfl,?_⟩
     generalize ({ W12 with drawn:=W12.drawn + 1 }:World) = W13 at hR13 hO13 h13 ⊢
     refine Xf (fun W0 hW0=>An2 ((hO13.next hW0).cell y3) ((hO13.next hW0).cell y4)) (An4 @hsub1 @hwb @hbx @hm2x) ?_
     refine ⟨Nx,?_⟩
     apply a1i
     ·intro w9 h9
      exact c5e _ _ _ ⟨h9,bR,rfl⟩
     rintro w14 h14 _ rfl
     refine Xa @hm2x ?_
     refine (hO13.next h14).set (i:=m2) (by rw [List.length_set]; omega) (fun W15 hg15 hO15=>?_)
     rw [List.set_set] at hO15
     refine Xa0 ?_
     refine ⟨(h13.on h14).grown hg15 (Nat.le_trans h13.size h14.size) (fun jj hjj=>by cases hjj; exact hg0),(hR13.next h14).other hg15 (by intro e; cases e; exact hne rfl),?_⟩
     unfold f7o
     rw [if_neg hz,← hb]
     simpa [List.getD_eq_getElem?_getD] using hO15
   ·rintro _ _ w9 ⟨h9,hR9,hO9⟩
    refine Xa0 ?_
    refine ⟨⟨h9,hR9,m2,_,rfl,by omega,by rw [List.length_set]; exact hol',fun i hi=>?_,hO9⟩,?_⟩
    ·rw [a8m _ _ _ _ (by omega)]
     by_cases him:i = m2
     ·rw [if_pos him,if_neg (by omega),him]
     ·rw [if_neg him,hval i hi]
      by_cases hlt:i < m2
      ·rw [if_pos (by omega),if_pos hlt]
      ·rw [if_neg (by omega),if_neg hlt]
    ·show ((m2:Int) - 1 + 1).toNat < ((m2:Int) + 1).toNat
     omega
def b7b (T l:List Int) (i:Nat):List Int:=T.take i ++ l.drop i
theorem b6b {T l:List Int} {i:Nat} (h:T.length = l.length) (hi:i ≤ l.length):(b7b T l i).length = l.length:=by
 unfold b7b; rw [List.length_append,List.length_take,List.length_drop]; omega
theorem c7m {T l:List Int} {i:Nat} (h:T.length = l.length) (hi:i < l.length):(b7b T l i)[i]? = l[i]?:=by
 unfold b7b
 rw [List.getElem?_append_right (by rw [List.length_take]; omega),List.length_take,Nat.min_eq_left (by omega),Nat.sub_self,List.getElem?_drop,Nat.add_zero]
theorem c2q {T l:List Int} {i:Nat} {x:Int} (h:T.length = l.length) (hi:i < l.length) (hx:T[i]? = some x):(b7b T l i).set i x = b7b T l (i + 1):=by
 unfold b7b
 rw [List.set_append,if_neg (by rw [List.length_take]; omega),List.length_take,Nat.min_eq_left (by omega),Nat.sub_self,List.drop_eq_getElem_cons hi,List.set_cons_zero,List.take_add_one,hx,List.append_assoc]
 rfl
def SfJ (T l:List Int) (v:Value) (w0:World) (vs:List Value) (W:World):Prop:=Bw w0 W ∧ ∃ (u0 u1:Value) (i:Nat),vs = [u0,u1,.int .i64 (i:Int)] ∧ i ≤ l.length ∧ OwnI W w0.heap.size v (b7b T l i)
theorem c9m (q f:Int) (nums vals:List Int) {nv vv:Value} (hn:Ints w nv nums) (hv:Ints w vv vals) (hlen:vals.length = nums.length) (hmax:nums.length < 100000)
  (k:∀ v w',Bw w w' → OwnI w' w.heap.size v (a2l q nums f vals) → K v w'):a0a Tryz.prog 97 #[.int .i64 q,nv,.int .i64 f,vv] K w:=by
 apply e5d
 unfold f9z
 obtain ⟨vad,vc,rfl⟩:=hv.isSlice
 have hlv:=hv.len
 refine b6n hn (by omega) (fun v' w1 ho1 h1 hb1=>?_)
 have ho:OwnI w1 w.heap.size v' nums:=a2b ho1 hb1
 have hTl:(a2l q nums f vals).length = nums.length:=by unfold a2l; rw [List.length_map,List.length_zip]; omega
 obtain ⟨oad,oc,rfl⟩:=a2m ho
 refine Xa0 ?_
 refine ⟨SfJ (a2l q nums f vals) nums (.slice oad nums.length oc) w,(fun vs _=>match vs with | [_,_,.int _ i]=>nums.length - i.toNat | _=>0),⟨h1,_,_,0,rfl,by omega,by simpa [b7b] using ho⟩,?_⟩
 clear ho ho1 hb1 h1
 rintro _ _ w2 ⟨h2,u0,u1,i,rfl,hi,ho⟩
 by_cases hin:¬ i = nums.length
 ·have hil:i < nums.length:=by omega
  obtain ⟨b,o,rfl,hlb,hcell,hrng,_⟩:=hv.at (i:=i) (by omega)
  have ev:vals[i]? = some vals[i]:=gE (by omega)
  have en:nums[i]? = some nums[i]:=gE hil
  have eT:(a2l q nums f vals)[i]? = some (a6i q nums[i] (a2n q f vals[i])):=by
   unfold a2l
   rw [List.getElem?_map,List.getElem?_zip_eq_some (z:=(nums[i],vals[i])) |>.2 ⟨en,ev⟩]
   rfl
  have hrl:=b6b (i:=i) hTl (by omega)
  have hra:=c7m hTl hil
  have hset:=c2q hTl hil eT
  rw [en] at hra
  generalize vals[i] = y at *
  generalize nums[i] = x at *
  generalize b7b (a2l q nums f vals) nums i = r at *
  have hne:r ≠ []:=by intro e; rw [e] at hrl; simp at hrl; omega
  have ho:OwnI w2 w.heap.size (.slice oad r.length oc) r:=by rw [hrl]; exact ho
  obtain ⟨g,rfl,hR⟩:=RowP.of ho hne
  have hg0:=hR.base
  have hiv:(i:Int) < vals.length:=by omega
  have hin':(i:Int) < nums.length:=by omega
  refine Xa (An2 (hcell _ h2) @hiv) ?_
  have hb9:Below w2.heap.size w2 { w2 with drawn:=w2.drawn + 1 }:=.drawn
  have hR9:=hR.next hb9
  have h9':=h2.on hb9
  refine ⟨Nx { w2 with drawn:=w2.drawn + 1 },bR,rfl,?_⟩
  generalize ({ w2 with drawn:=w2.drawn + 1 }:World) = W9 at hR9 h9' ⊢
  refine Xf (fun W0 hW0=>(hR9.next hW0).cell hra) @hin' ?_
  refine ⟨Nx,?_⟩
  apply a1i
  ·intro w5 h5
   exact b2s _ _ _ (fun w6 h6=>⟨h5.on h6,h6,rfl⟩)
  apply a1i
  ·rintro w5 h5 _ rfl
   exact c5e _ _ _ ⟨h5,bR,rfl⟩
  rintro w10 h10 _ rfl _ rfl
  refine Xa @hin' ?_
  refine (hR9.next h10).set (i:=i) (by omega) (fun W12 hg12 hR12=>?_)
  have h12:=(h9'.on h10).grown hg12 (Nat.le_trans h9'.size h10.size) (fun jj hjj=>by cases hjj; exact hg0)
  refine Xa0 ?_
  rw [hset] at hR12
  have hoo:=hR12.owns
  rw [b6b (i:=i + 1) hTl (by omega)] at hoo
  exact ⟨⟨h12,_,_,i + 1,rfl,by omega,hoo⟩,by show nums.length - (((i + 1:Nat):Int)).toNat < nums.length - ((i:Nat):Int).toNat; omega⟩
 have hin:i = nums.length:=by omega
 have hiv:¬ (i:Int) < vals.length:=by omega
 refine Xa @hiv ?_
 have e:b7b (a2l q nums f vals) nums i = a2l q nums f vals:=by
  unfold b7b
  rw [List.take_of_length_le (by omega),List.drop_of_length_le (by omega),List.append_nil]
 rw [e] at ho
 exact k _ _ h2 ho
end
end Go.Proofs
namespace Go.Proofs
open Go.Sh Tryz
variable {a0 a1 a2 a3:Value} {K:VK} {w:World}
def f0f (a0 a1 a2 a3:Value) (K:VK) (w:World):Prop:=
 oM prog (.box 26 (.tmp 0)) 0 [a0] (fun v4=>
 oM prog (.buildSlice 24 1 #[(0,(.tmp 0))]) 24 [(.int .i64 0)] fun v17=>
 oM prog (.buildSlice 24 1 #[(0,(.tmp 0))]) 24 [a3] fun v19=>
 kN 61 a1 fun v21=>
 kQ [undef,undef,v17,v19,(.int .i64 0)] fun J_5 m_6 l_7 u_l_7 w0_l_7=>(fun w=>(
 kB .lss 3 0 (l_7.getD 4 undef) v21 (fun v23 w=>
 a0v v23
 (a5z (fun M_9=>(kI 61 a1 (l_7.getD 4 undef) (fun v25=>
 kL 4 v25 fun v26=>
 kU v26 fun v28=>
 kO v28 (kH fun C_14 w=>(a0c (l_7.getD 2 undef) C_14 fun v29=>
 a0c (l_7.getD 4 undef) C_14 fun v30=>
 jB .add 3 3 v30 (.int .i64 1) C_14 fun v31=>
 a0c (l_7.getD 3 undef) C_14 fun v34=>
 a0c a2 C_14 fun v35=>
 a0c (l_7.getD 4 undef) C_14 fun v36=>
 jI 24 v35 v36 C_14 fun v37=>
 jL 3 v37 C_14 fun v38=>
 (oM prog (.buildSlice 24 1 #[(0,(.tmp 0))]) 24 [v31] (fun v32 w=>C_14 w ∧ (
 (oM prog (.call (Go.Call.mk (.builtin .append) #[(.tmp 0),(.tmp 1)] #[24,24])) 24 [v29,v32] (fun v33 w=>C_14 w ∧ (
 oM prog (.buildSlice 24 1 #[(0,(.tmp 0))]) 24 [v38] (fun v39 w=>C_14 w ∧ (
 oM prog (.call (Go.Call.mk (.builtin .append) #[(.tmp 0),(.tmp 1)] #[24,24])) 24 [v34,v39] (fun v40 w=>C_14 w ∧ (
 C_14 w ∧ (C_14 w ∧ (M_9 [(l_7.getD 4 undef),v26,v33,v40] w)))) w)) w)) w) ∧
 (oM prog (.buildSlice 24 1 #[(0,(.tmp 0))]) 24 [v38] (fun v39 w=>C_14 w ∧ (
 oM prog (.call (Go.Call.mk (.builtin .append) #[(.tmp 0),(.tmp 1)] #[24,24])) 24 [v29,v32] (fun v33 w=>C_14 w ∧ (
 oM prog (.call (Go.Call.mk (.builtin .append) #[(.tmp 0),(.tmp 1)] #[24,24])) 24 [v34,v39] (fun v40 w=>C_14 w ∧ (
 C_14 w ∧ (C_14 w ∧ (M_9 [(l_7.getD 4 undef),v26,v33,v40] w)))) w)) w)) w))) w) ∧
 (oM prog (.buildSlice 24 1 #[(0,(.tmp 0))]) 24 [v38] (fun v39 w=>C_14 w ∧ (
 oM prog (.buildSlice 24 1 #[(0,(.tmp 0))]) 24 [v31] (fun v32 w=>C_14 w ∧ (
 oM prog (.call (Go.Call.mk (.builtin .append) #[(.tmp 0),(.tmp 1)] #[24,24])) 24 [v29,v32] (fun v33 w=>C_14 w ∧ (
 oM prog (.call (Go.Call.mk (.builtin .append) #[(.tmp 0),(.tmp 1)] #[24,24])) 24 [v34,v39] (fun v40 w=>C_14 w ∧ (
 C_14 w ∧ (C_14 w ∧ (M_9 [(l_7.getD 4 undef),v26,v33,v40] w)))) w)) w)) w)) w)))
 (M_9 [(l_7.getD 4 undef),v26,(l_7.getD 2 undef),(l_7.getD 3 undef)])) w))
 fun l_10 u_l_10 w=>(kB .add 3 3 (l_7.getD 4 undef) (.int .i64 1) (fun v41=>
 kJ J_5 m_6 l_7 w0_l_7 [(l_10.getD 0 undef),(l_10.getD 1 undef),(l_10.getD 2 undef),(l_10.getD 3 undef),v41]) w))
 (kF 26 0 v4 (fun v43=>
 kF 23 1 v43 fun v44=>
 kL 3 v44 fun v45=>
 a0a prog 161 #[v45,(l_7.getD 2 undef),(l_7.getD 3 undef)] fun v48=>
 kE 0 24 v48 fun v49=>
 kE 1 4 v48 fun v50=>
 kN 61 a1 fun v52=>
 kQ [undef,(.slice none 0 0),(.int .i64 0)] fun J_48 m_49 l_50 u_l_50 w0_l_50=>(fun w=>(
 kB .lss 3 0 (l_50.getD 2 undef) v52 (fun v54=>
 kO v54 (kF 26 0 v4 fun v57=>
 kF 23 1 v57 fun v58=>
 kL 3 v58 fun v59=>
 kB .add 3 3 (l_50.getD 2 undef) (.int .i64 1) fun v62=>
 a0a prog 162 #[v59,v49,v62] fun v63=>
 oM prog (.buildSlice 24 1 #[(0,(.tmp 0))]) 24 [v63] fun v64=>
 oM prog (.call (Go.Call.mk (.builtin .append) #[(.tmp 0),(.tmp 1)] #[24,24])) 24 [(l_50.getD 1 undef),v64] fun v65=>
 kB .add 3 3 (l_50.getD 2 undef) (.int .i64 1) fun v66=>
 kJ J_48 m_49 l_50 w0_l_50 [(l_50.getD 2 undef),v65,v66])
 (K (l_50.getD 1 undef))) w)) w0_l_50) w)) w)) w0_l_7) w
theorem d5s (h:f0f a0 a1 a2 a3 K w):a0a prog 95 #[a0,a1,a2,a3] K w:=
 cZ (fun _=>.tree (.look 0 (.look 1 (.look 2 (.look 5 (.look 6 (.look 7 (.look 8 (.look 9 (.alt 3 (.alt 4 (.only 10 (.only 11 (.only 12 (.only 13 (.done))))) (.only 10 (.only 4 (.only 11 (.only 12 (.only 13 (.done))))))) (.only 10 (.only 3 (.only 4 (.only 11 (.only 12 (.only 13 (.done))))))))))))))))) func95 h
end Go.Proofs
namespace Go.Proofs
open FdSpec TkSpec CodeSpec PrSpec FdPoly
theorem c6g (b:Bool):∀ (bs:List Bool) (k:Nat),a7b k (bs ++ [b]) = a7b k bs ++ (if b then [] else [((k + bs.length:Nat):Int) + 1])
 | [],k=>by cases b <;> simp [a7b]
 | c :: bs,k=>by
  rw [List.cons_append]
  unfold a7b
  rw [c6g b bs (k + 1)]
  have e:((k + 1 + bs.length:Nat):Int) = ((k + (bs.length + 1):Nat):Int):=by omega
  rw [List.length_cons,e]
  cases c <;> simp
theorem c6h (b:Bool) (d:Int):∀ (bs:List Bool) (ds:List Int),ds.length = bs.length → a7c (bs ++ [b]) (ds ++ [d]) = a7c bs ds ++ (if b then [] else [d])
 | [],[],_=>by cases b <;> simp [a7c]
 | c :: bs,e :: ds,h=>by
  rw [List.cons_append,List.cons_append]
  unfold a7c
  rw [c6h b d bs ds (by simpa using h)]
  cases c <;> simp
 | [],_ :: _,h=>by simp at h
 | _ :: _,[],h=>by simp at h
theorem c8f:∀ (bs:List Bool) (k:Nat),∀ n ∈ a7b k bs,0 ≤ n ∧ n ≤ (k + bs.length:Nat)
 | [],k,n,h=>by simp [a7b] at h
 | c :: bs,k,n,h=>by
  have ih:=c8f bs (k + 1) n
  unfold a7b at h
  rw [List.length_cons]
  cases c
  ·rw [if_neg (by simp)] at h
   rcases List.mem_cons.1 h with rfl | h
   ·omega
   ·have:=ih h; omega
  ·rw [if_pos rfl] at h
   have:=ih h; omega
theorem ptsX_len:∀ (bs:List Bool) (k:Nat),(a7b k bs).length ≤ bs.length
 | [],k=>by simp [a7b]
 | c :: bs,k=>by
  have ih:=ptsX_len bs (k + 1)
  unfold a7b
  cases c <;> simp <;> omega
theorem c3k:∀ (bs:List Bool) (ds:List Int),∀ n ∈ a7c bs ds,n ∈ ds
 | [],_,n,h=>by simp [a7c] at h
 | _ :: _,[],n,h=>by simp [a7c] at h
 | c :: bs,d :: ds,n,h=>by
  have ih:=c3k bs ds n
  unfold a7c at h
  cases c
  ·rw [if_neg (by simp)] at h
   rcases List.mem_cons.1 h with rfl | h
   ·simp
   ·exact List.mem_cons_of_mem _ (ih h)
  ·rw [if_pos rfl] at h
   exact List.mem_cons_of_mem _ (ih h)
theorem ptsY_len:∀ (bs:List Bool) (ds:List Int),(a7c bs ds).length ≤ bs.length
 | [],_=>by simp [a7c]
 | _ :: _,[]=>by simp [a7c]
 | c :: bs,d :: ds=>by
  have ih:=ptsY_len bs ds
  unfold a7c
  cases c <;> simp <;> omega
theorem d9f {P:Int → Prop} {q:Int} (hP:∀ a b,P (a6i q a b)) (xs d:List Int):∀ (m:Nat) (o:List Int),(∀ n ∈ o,P n) → ∀ n ∈ d4t q xs d m o,P n
 | 0,o,h=>h
 | m + 1,o,h=>by
  unfold d4t
  refine d9f hP xs d m _ (fun n hn=>?_)
  unfold b4i at hn
  obtain ⟨i,_,rfl⟩:=List.mem_map.1 hn
  unfold f5b
  split
  ·exact hP _ _
  ·exact hP _ _
theorem d2g {P:Int → Prop} {q:Int} (hP:∀ a b,P (a6i q a b)) (h0:P 0) (xs ys:List Int):∀ n ∈ a4h q xs ys,P n:=by
 unfold a4h
 split
 ·unfold thr
  refine d9f hP _ _ _ _ (fun n hn=>?_)
  rw [List.mem_replicate] at hn
  rw [hn.2]; exact h0
 ·intro n hn; cases hn
theorem c8g (q:Int) (xs ys:List Int):(a4h q xs ys).length ≤ xs.length:=by
 unfold a4h
 split
 ·rw [d4w]; omega
 ·simp
end Go.Proofs
namespace Go.Proofs
open Go Go.Sh Tryz
end Go.Proofs
namespace Go.Proofs
open Go Go.Sh Go.RowKit FdSpec TkSpec CodeSpec PrSpec
section
variable {K:VK} {w w' w0 W:World} {L:List (Addr × Value)}
theorem c7y (s:Stp) {v:Value} (hs:SetR w s v) (k:∀ w',Bw w w' → K (.bool (decide ((s.bases.length:Int) ≤ 9))) w'):a0a Tryz.prog 39 #[a6b s v] K w:=by
 apply e4o
 unfold f9k
 obtain ⟨ad,c,rfl⟩:=hs.ints.isSlice
 refine a0l (cs:=a2r s (.slice ad s.bases.length c)) rfl (.start w) fun b1 W hk hb1 hbb=>?_
 have k:=k _ hk.below
 generalize hq:decide ((s.bases.length:Int) ≤ 9) = q at *
 refine Xa hk.cells ?_
 rw [hq]
 exact k
end
end Go.Proofs
namespace Go.Proofs
open Go Go.Sh Tryz
end Go.Proofs
namespace PrSpec
open FdSpec TkSpec CodeSpec FdPoly GrLaw
end PrSpec
namespace Go.Proofs
open Go Go.Sh Go.RowKit FdSpec TkSpec CodeSpec PrSpec
section
variable {K:VK} {w w' w0 W:World} {L:List (Addr × Value)}
def b7j (_:World) (v:Value) (b:Bool):Prop:=v = .bool b
abbrev b1e (w:World) (v:Value) (l:List Bool):Prop:=SRow 1 (c4b 1 (c8y b7j)) w v l
theorem a3m:b9f (c8y b7j):=fun _ _ _ _ h _=>h
@[go_sem] theorem f8x (T:TypeId) (b o n c:Nat) (x:Int):oM Tryz.prog (.indexAddr 61 (.tmp 0) (.tmp 1)) T [.slice (some ⟨b,o,none⟩) n c,.int .i64 x] = onM (0 ≤ x ∧ x < n) (.pointer (some ⟨b,o + x.toNat,none⟩)):=by
 have:=a7k (K:=fun _ _=>True) (P:=Tryz.prog) (n:=1) 61 T (by kernel_rfl) (fun w=>by kernel_rfl) b o n c x
 rwa [Nat.mul_one] at this
end
end Go.Proofs
namespace Go.Proofs
open Go Go.Sh Go.RowKit FdSpec TkSpec CodeSpec PrSpec FdPoly
section
variable {K:VK} {w w' w0 W W':World} {L:List (Addr × Value)} {g n B:Nat} {row:Option Nat}
def xsI (bs:List Bool) (i:Nat):List Int:=0 :: a7b 0 (bs.take i)
def ysI (r:Int) (bs:List Bool) (ds:List Int) (i:Nat):List Int:=r :: a7c (bs.take i) (ds.take i)
theorem b6c {bs:List Bool} {i:Nat} {b:Bool} (h:bs[i]? = some b):xsI bs (i + 1) = xsI bs i ++ (if b then [] else [(i:Int) + 1]):=by
 have hi:=(gS h).1
 unfold xsI
 rw [List.take_add_one,h]
 show 0 :: a7b 0 (bs.take i ++ [b]) = _
 rw [c6g,List.length_take,Nat.min_eq_left (by omega),Nat.zero_add]
 rfl
theorem b6d {r:Int} {bs:List Bool} {ds:List Int} {i:Nat} {b:Bool} {d:Int} (h:bs[i]? = some b) (hd:ds[i]? = some d):ysI r bs ds (i + 1) = ysI r bs ds i ++ (if b then [] else [d]):=by
 have hi:=(gS h).1
 have hi2:=(gS hd).1
 unfold ysI
 rw [List.take_add_one,h,List.take_add_one,hd]
 show r :: a7c (bs.take i ++ [b]) (ds.take i ++ [d]) = _
 rw [c6h b d _ _ (by rw [List.length_take,List.length_take]; omega)]
 rfl
theorem b4b (bs:List Bool) (i:Nat):(xsI bs i).length ≤ bs.length + 1:=by
 unfold xsI
 have:=ptsX_len (bs.take i) 0
 rw [List.length_cons]
 rw [List.length_take] at this
 omega
theorem b4c (r:Int) (bs:List Bool) (ds:List Int) (i:Nat):(ysI r bs ds i).length ≤ bs.length + 1:=by
 unfold ysI
 have:=ptsY_len (bs.take i) (ds.take i)
 rw [List.length_cons]
 rw [List.length_take] at this
 omega
def PtR (bs:List Bool) (r:Int) (ds:List Int) (w0:World) (xv yv:Value) (i:Nat) (W:World):Prop:=Bw w0 W ∧ OwnI W w0.heap.size xv (xsI bs i) ∧ OwnI W w0.heap.size yv (ysI r bs ds i) ∧ apart xv yv
def g4a (bs:List Bool) (r:Int) (ds:List Int) (w0:World) (vs:List Value) (W:World):Prop:=∃ (u0 u1 xv yv:Value) (i:Nat),vs = [u0,u1,xv,yv,.int .i64 (i:Int)] ∧ i ≤ bs.length ∧ PtR bs r ds w0 xv yv i W
def g4b (T:List Int) (w0:World) (vs:List Value) (W:World):Prop:=Bw w0 W ∧ ∃ (u v:Value) (i:Nat),vs = [u,v,.int .i64 (i:Int)] ∧ i ≤ T.length ∧ OwnI W w0.heap.size v (T.take i)
theorem d3r (s:Stp) (bs:List Bool) (ds:List Int) (r:Int) {sv bv dv:Value} (hs:SetR w s sv) (hb:b1e w bv bs) (hd:Ints w dv ds) (hr:I64 r) (hl:ds.length = bs.length) (hmax:bs.length ≤ 1000)
  (k:∀ v w',Bw w w' → OwnI w' w.heap.size v (a1y s.g.Q bs ds r) → K v w'):a0a Tryz.prog 95 #[a6b s sv,bv,dv,.int .i64 r] K w:=by
 apply d5s
 unfold f0f
 have hs':=hs
 obtain ⟨ad,c,rfl⟩:=hs.ints.isSlice
 obtain ⟨bad,bc,rfl⟩:=hb.isSlice
 obtain ⟨dad,dc,rfl⟩:=hd.isSlice
 have hlb:=hb.len
 have hld:=hd.len
 refine a0l (cs:=a2r s (.slice ad s.bases.length c)) rfl (.start w) fun b1 W1 hk hb1 hbb=>?_
 refine e3z 0 (fun xv W2 h2 hx2=>?_)
 refine e3z r (fun yv W3 h3 hy3=>?_)
 have hk3:=(hk.next h2).next h3
 have hap:apart xv yv:=fun i e1 e2=>by have:=(a0d hx2 e1).1; have:=(a0d hy3 e2).2.1; omega
 have h13:=h2.on h3
 refine Xa0 ?_
 refine ⟨g4a bs r ds W1,(fun vs _=>match vs with | [_,_,_,_,.int _ i]=>bs.length - i.toNat | _=>0),⟨_,_,_,_,0,rfl,by omega,h13,hx2.keep h3,a2b hy3 (fun i hi=>Nat.le_trans h2.size (a0d hy3 hi).2.1),hap⟩,?_⟩
 clear hx2 hy3 hap hk3 h13 h2 h3
 rintro _ _ W4 ⟨u0,u1,xv,yv,i,rfl,hi,h4,hox,hoy,hap⟩
 have hk4:=hk.next h4
 by_cases hin:¬ i = bs.length
 ·have eb:bs[i]? = some bs[i]:=gE (by omega)
  have ed:ds[i]? = some ds[i]:=gE (by omega)
  obtain ⟨b5,o5,rfl,hlt5,cs5,_,hcell5,v5,rfl,hv5⟩:=hb.at (i:=i) (by omega)
  obtain ⟨b6,o6,rfl,hlt6,hcell6,hr6,_⟩:=hd.at (i:=i) (by omega)
  have c5:=hcell5 0 _ rfl
  simp only [Nat.add_zero,Nat.mul_one] at c5
  unfold b7j at hv5
  subst hv5
  have hib:(i:Int) < bs.length:=by omega
  have hid:(i:Int) < ds.length:=by omega
  have hxl:=b4b bs i
  have hyl:=b4c r bs ds i
  have hxs:=b6c eb
  have hys:=b6d (r:=r) eb ed
  generalize hbv:bs[i] = b at *
  generalize ds[i] = d at *
  refine Xa @hib ?_
  refine ⟨fun l W=>∃ u v xv' yv',l = [u,v,xv',yv'] ∧ PtR bs r ds W1 xv' yv' (i + 1) W,?_,?_⟩
  ·cases b with
   | true=>
    refine Xa (An2 ((hk4.below.cell hlt5).trans c5) @hib) ?_
    refine ⟨_,_,_,_,rfl,h4,?_,?_,hap⟩
    ·rw [hxs]; simpa using hox
    ·rw [hys]; simpa using hoy
   | false=>
    refine Xa (An2 ((hk4.below.cell hlt5).trans c5) @hib) ?_
    have hx1:xsI bs (i + 1) = xsI bs i ++ [(i:Int) + 1]:=hxs
    have hy1:ysI r bs ds (i + 1) = ysI r bs ds i ++ [d]:=hys
    have hbl:Below W4.heap.size W4 { W4 with drawn:=W4.drawn + 1 }:=.drawn
    have htwo:=Two.start (hox.keep hbl) (hoy.keep hbl) hap (w:={ W4 with drawn:=W4.drawn + 1 }) (by have:=h4.size; show W1.heap.size ≤ W4.heap.size; omega)
    have hbW:Below W1.heap.size W1 { W4 with drawn:=W4.drawn + 1 }:=h4.on hbl
    have hoxW:=hox.keep hbl
    have hoyW:=hoy.keep hbl
    have cW:a0n { W4 with drawn:=W4.drawn + 1 } [(⟨b6,o6 + i,none⟩,Value.int .i64 d)]:=⟨hcell6 _ (hk4.below.on hbl),trivial⟩
    have hoff:∀ p ∈ ([(⟨b6,o6 + i,none⟩,Value.int .i64 d)]:List (Addr × Value)),p.1.block < ({ W4 with drawn:=W4.drawn + 1 }:World).heap.size ∧ ¬ (xv.ownBlock = some p.1.block ∨ yv.ownBlock = some p.1.block):=fun p hp=>by
     refine ⟨a2q cW p hp,?_⟩
     rw [List.mem_singleton.1 hp]
     have hsz:=hk.below.size
     rintro (e | e)
     ·have h1:W1.heap.size ≤ b6:=(a0d hox e).2.1; omega
     ·have h1:W1.heap.size ≤ b6:=(a0d hoy e).2.1; omega
    refine ⟨Fr (fun i=>xv.ownBlock = some i ∨ yv.ownBlock = some i) { W4 with drawn:=W4.drawn + 1 },Fr.refl _ _,?_⟩
    generalize ({ W4 with drawn:=W4.drawn + 1 }:World) = W at htwo hbW hoxW hoyW cW hoff ⊢
    have hwi:IntKind.i64.wrap ((i:Int) + 1) = (i:Int) + 1:=a0o _ (by omega) (by omega)
    repeat (any_goals (first
    | (with_reducible refine pX ?_)
    | ((with_reducible refine e1q ?_); (with_reducible refine b5h ⟨_,rfl⟩ (fun W0 hW0=>by (refine oG (fun X Y=>?_)); simp [go_sem,(a6c cW hW0 hoff),hid,hwi]; (first | exact Y _ _ ⟨rfl,rfl⟩ | exact ⟨by omega,Y _ _ ⟨rfl,rfl⟩⟩)) ?_))))
    have fin:∀ (w':World) (v' u':Value),Two W1.heap.size W xv yv w' v' u' (xsI bs i ++ [(i:Int) + 1]) (ysI r bs ds i ++ [d]) → PtR bs r ds W1 v' u' (i + 1) w':=fun w' v' u' h=>
     ⟨h.below hbW hoxW hoyW (rL),by rw [hx1]; exact h.ob,by rw [hy1]; exact h.oe,h.ap⟩
    have hn1:(xsI bs i).length < 1099511627776:=by omega
    have hn2:(ysI r bs ds i).length < 1099511627776:=by omega
    have hWb:∀ i,xv.ownBlock = some i → i < W.heap.size:=htwo.lit.1
    have hI1:I64 ((i:Int) + 1):=by unfold I64; omega
    constructor
    ·refine c9k _ hI1 (fun y7 w7 h7 hy7 hb7=>?_)
     have t7:=htwo.next h7
     refine ⟨t7.fr,?_⟩
     constructor
     ·refine t7.addB hy7 hn1 (fun v8 w8 t8 hg8=>⟨t8.fr,?_⟩)
      refine c9k d hr6 (fun y9 w9 h9 hy9 hb9=>?_)
      have t9:=t8.next h9
      refine ⟨t9.fr,?_⟩
      refine t9.addE hy9 hn2 (fun v10 w10 t10 hg10=>⟨t10.fr,t10.fr,t10.fr,?_⟩)
      exact ⟨_,_,_,_,rfl,fin _ _ _ t10⟩
     ·refine c9k d hr6 (fun y8 w8 h8 hy8 hb8=>?_)
      have t8:=t7.next h8
      refine ⟨t8.fr,?_⟩
      refine t8.addB (hy7.next h8) hn1 (fun v9 w9 t9 hg9=>⟨t9.fr,?_⟩)
      have hy8:=a6h hy8 hg9 (fun i e1 e2=>by have:=hWb i e2; have:=h7.size; rw [hb8] at e1; cases e1; omega)
      refine t9.addE hy8 hn2 (fun v10 w10 t10 hg10=>⟨t10.fr,t10.fr,t10.fr,?_⟩)
      exact ⟨_,_,_,_,rfl,fin _ _ _ t10⟩
    ·refine c9k d hr6 (fun y7 w7 h7 hy7 hb7=>?_)
     have t7:=htwo.next h7
     refine ⟨t7.fr,?_⟩
     refine c9k _ hI1 (fun y8 w8 h8 hy8 hb8=>?_)
     have t8:=t7.next h8
     refine ⟨t8.fr,?_⟩
     refine t8.addB hy8 hn1 (fun v9 w9 t9 hg9=>⟨t9.fr,?_⟩)
     have hy7:=a6h (hy7.next h8) hg9 (fun i e1 e2=>by have:=hWb i e2; rw [hb7] at e1; cases e1; omega)
     refine t9.addE hy7 hn2 (fun v10 w10 t10 hg10=>⟨t10.fr,t10.fr,t10.fr,?_⟩)
     exact ⟨_,_,_,_,rfl,fin _ _ _ t10⟩
  ·rintro _ _ W5 ⟨u,v,xv',yv',rfl,hP⟩
   refine Xa0 ?_
   exact ⟨⟨_,_,_,_,i + 1,rfl,by omega,hP⟩,by show bs.length - (((i + 1:Nat):Int)).toNat < bs.length - ((i:Nat):Int).toNat; omega⟩
 have hin:i = bs.length:=by omega
 subst hin
 have ex:xsI bs bs.length = 0 :: a7b 0 bs:=by unfold xsI; rw [List.take_length]
 have ey:ysI r bs ds bs.length = r :: a7c bs ds:=by unfold ysI; rw [List.take_length,List.take_of_length_le (by omega)]
 have hxl:=b4b bs bs.length
 have hyl:=b4c r bs ds bs.length
 rw [ex] at hox hxl
 rw [ey] at hoy hyl
 have hxI:∀ n ∈ (0 :: a7b 0 bs),I64 n:=fun n hn=>by
  rcases List.mem_cons.1 hn with rfl | hn
  ·exact b2b
  ·have:=c8f bs 0 n hn; unfold I64; omega
 have hyI:∀ n ∈ (r :: a7c bs ds),I64 n:=fun n hn=>by
  rcases List.mem_cons.1 hn with rfl | hn
  ·exact hr
  ·exact hd.rng _ (c3k bs ds n hn)
 refine Xa hk4.cells ?_
 refine d1r s.g.Q (0 :: a7b 0 bs) (r :: a7c bs ds) (hox.ints hxI (by omega)) (hoy.ints hyI (by omega)) (hs'.next hk4.below).db (by simp) (fun W5 pv okb h5 hop=>?_)
 have hk5:=hk4.next h5
 have htl:=c8g s.g.Q (0 :: a7b 0 bs) (r :: a7c bs ds)
 have hpi:=hop.ints (d2g (P:=I64) (fun a b=>a7d _ a b) b2b _ _) (by omega)
 have hF:(a1y s.g.Q bs ds r).length = bs.length:=by simp [a1y]
 have hFe:∀ i,i < bs.length → (a1y s.g.Q bs ds r)[i]? = some (atM s.g.Q (a4h s.g.Q (0 :: a7b 0 bs) (r :: a7c bs ds)) ((i:Int) + 1)):=fun i hi=>by
  unfold a1y
  rw [List.getElem?_map,List.getElem?_range hi]
  rfl
 generalize a1y s.g.Q bs ds r = F at *
 generalize a4h s.g.Q (0 :: a7b 0 bs) (r :: a7c bs ds) = T at *
 refine Xa0 ?_
 refine ⟨g4b F W5,(fun vs _=>match vs with | [_,_,.int _ i]=>bs.length - i.toNat | _=>0),⟨bR,_,_,0,rfl,by omega,a3u⟩,?_⟩
 rintro _ _ W6 ⟨h6,u,v,i,rfl,hi,ho⟩
 rw [hF] at hi
 have hk6:=hk5.next h6
 by_cases hin:i = bs.length
 ·subst hin
  refine Xa0 ?_
  rw [List.take_of_length_le (by omega)] at ho
  exact k _ _ hk6.below (a2b ho (fun j hj=>Nat.le_trans hk5.below.size (a0d ho hj).2.1))
 have hib:(i:Int) < bs.length:=by omega
 have hFi:=hFe i (by omega)
 refine Xa (An2 hk6.cells @hib) ?_
 refine g3z _ _ T (hpi.next h6) (fun W7 h7=>?_)
 refine mk1 _ ?_ (fun v8 W8 h8 hi8=>?_)
 ·unfold atM
  cases T with
  | nil=>exact b2b
  | cons a l=>exact a7d _ _ _
 have h68:=h7.on h8
 refine a9u (ho.keep h68) (Nat.le_trans h6.size h68.size) hi8 (by simp only [List.length_take]; omega) (fun v9 W9 ho9 h9=>?_)
 refine Xa0 ?_
 refine ⟨⟨(h6.on h68).trans h9,_,_,i + 1,rfl,by omega,?_⟩,by show bs.length - (((i + 1:Nat):Int)).toNat < bs.length - ((i:Nat):Int).toNat; omega⟩
 rw [← a2s hFi]
 exact ho9
end
end Go.Proofs
namespace Go.Proofs
open FdSpec TkSpec CodeSpec PrSpec
theorem c8i {s:Stp} {r:Int}:∀ {goal:List Cls} {ds:List (List Int)},(∀ (i:Nat) (c:Cls) (d:List Int),goal[i]? = some c → ds[i]? = some d → a1y s.g.Q (a5y c.claims.length c.need) d r = d) → d0f s r goal ds = true
 | [],_,_=>by simp [d0f]
 | c :: cs,[],_=>by simp [d0f]
 | c :: cs,d :: ds,h=>by
  unfold d0f
  rw [decide_eq_true (h 0 c d rfl rfl),c8i (goal:=cs) (ds:=ds) (fun i c' d' a b=>h (i + 1) c' d' (by simpa using a) (by simpa using b))]
  rfl
theorem c8j {s:Stp} {r:Int}:∀ {goal:List Cls} {ds:List (List Int)} {i:Nat} {c:Cls} {d:List Int},d0f s r goal ds = true → goal[i]? = some c → ds[i]? = some d → a1y s.g.Q (a5y c.claims.length c.need) d r = d
 | [],_,i,_,_,_,h,_=>by simp at h
 | c :: cs,[],i,_,_,_,_,h=>by simp at h
 | c :: cs,d :: ds,0,c',d',h,a,b=>by
  unfold d0f at h
  rw [Bool.and_eq_true] at h
  simp at a b
  subst a b
  exact of_decide_eq_true h.1
 | c :: cs,d :: ds,i + 1,c',d',h,a,b=>by
  unfold d0f at h
  rw [Bool.and_eq_true] at h
  exact c8j h.2 (by simpa using a) (by simpa using b)
def b9r (n j:Nat):List Bool:=(List.range n).map fun k=>decide (n - j ≤ k)
theorem b3i (n j:Nat):(b9r n j).length = n:=by simp [b9r]
theorem e6f {n j:Nat} (h:j ≤ n):b9r n j = a5y n (j:Int):=by
 unfold b9r a5y
 refine List.map_congr_left (fun k _=>?_)
 exact decide_eq_decide.2 (by omega)
theorem d2j (n:Nat):b9r n 0 = List.replicate n false:=by
 apply List.ext_getElem?
 intro i
 unfold b9r
 rw [List.getElem?_map,List.getElem?_replicate]
 by_cases h:i < n
 ·rw [List.getElem?_range h,if_pos h]
  show some (decide (n - 0 ≤ i)) = some false
  rw [decide_eq_false (by omega)]
 ·rw [List.getElem?_eq_none (by simp; omega),if_neg h]; rfl
theorem d9g {n j:Nat} (h:j < n):(b9r n j).set (n - 1 - j) true = b9r n (j + 1):=by
 apply List.ext_getElem?
 intro i
 rw [List.getElem?_set,b3i]
 unfold b9r
 rw [List.getElem?_map,List.getElem?_map]
 by_cases hi:i < n
 ·rw [List.getElem?_range hi]
  show _ = some (decide (n - (j + 1) ≤ i))
  by_cases he:n - 1 - j = i
  ·rw [if_pos he,if_pos (by omega),decide_eq_true (by omega)]
  ·rw [if_neg he]
   show some (decide (n - j ≤ i)) = _
   exact congrArg some (decide_eq_decide.2 (by omega))
 ·rw [List.getElem?_eq_none (by simp; omega),if_neg (by omega)]
  rfl
end Go.Proofs
namespace Go.Proofs
open Go Go.Sh Go.RowKit FdSpec TkSpec CodeSpec PrSpec FdPoly
section
variable {K:VK} {w w' w0 W W':World} {L:List (Addr × Value)} {g n B:Nat} {row:Option Nat}
theorem b6e {l:List Bool} (h:Holds W g 4 (l.map Value.bool)) (hl:l.length ≤ 9223372036854775807):b1e W (.slice (some ⟨g,0,none⟩) l.length l.length) l:=by
 refine ⟨⟨_,_,rfl,.inr ⟨g,0,rfl,h.lt,fun i hi=>⟨[.bool l[i]],rfl,fun j u hj=>?_,_,rfl,rfl⟩⟩⟩,hl⟩
 obtain ⟨h1,rfl⟩:=gS hj
 have hj0:j = 0:=by simpa using h1
 subst hj0
 have:=h.cell i (by simpa using hi)
 simpa using this
theorem b9z {T:TypeId} {n:Nat} (hn:n ≤ 65536) (k:∀ g W,Bw w W → w.heap.size ≤ g → Holds W g 4 ((List.replicate n false).map Value.bool) → K (.slice (some ⟨g,0,none⟩) n n) W):oM Tryz.prog (.makeSlice 61 (.tmp 0) (.tmp 1)) T [.int .i64 n,.int .i64 n] K w:=by
 obtain ⟨w',hr,ho,hg⟩:=run_makeSlice_full (P:=Tryz.prog) (w:=w) w.heap.size 61 4 ((Tryz.prog.info? 4).getD default) (.bool false) 1 (by kernel_rfl) (by kernel_rfl) (by kernel_rfl) (by kernel_rfl) .i64 .i64 n (by omega) (by
  have:((Tryz.prog.info? 4).getD default).bytes = 1:=by kernel_rfl
  rw [this]; omega) (by simp only [maxLen]; omega) (rL)
 rw [a7j,hr]
 have hb:Bw w w':=⟨hg.os,hg.tape,hg.output,hg.size,fun k hk=>hg.block k hk (by simp)⟩
 have hcells:(madeCells (Value.bool false).cells (n * 1)).toList = List.replicate n (.bool false):=by
  rw [Nat.mul_one]
  apply List.ext_getElem?
  intro i
  unfold madeCells
  simp [Value.cells,List.getElem?_replicate,Array.getElem?_ofFn]
  try (split <;> simp_all [Nat.mod_one])
 refine k _ _ hb (rL) ?_
 rcases ho.2 with ⟨h1,h2⟩ | ⟨g,cap,cur,h1,hb2,hg2,hc,hm,hs,ht⟩
 ·cases h1
 ·cases h1
  rw [hcells,Nat.mul_one] at ht
  have e:cur.toList = List.replicate n (.bool false):=by
   rw [← ht,List.take_of_length_le (by simp; omega)]
  unfold Holds
  rw [hg2,List.map_replicate,← e]
theorem b6f (s:Stp) (goal:List Cls) (ctx:a5e) (ds:L2) (ns:L3):I64 (a8s s goal ctx ds ns):=by
 unfold a8s
 by_cases h:okN s.g.Q
 ·exact d0g (d2h h _) h
 ·unfold a3t; rw [if_neg h]; exact b2b
theorem c2r (q:Int) (bs:List Bool) (ds:List Int) (r:Int):∀ n ∈ a1y q bs ds r,I64 n:=by
 intro n hn
 unfold a1y at hn
 obtain ⟨i,_,rfl⟩:=List.mem_map.1 hn
 unfold atM
 cases a4h q (0 :: a7b 0 bs) (r :: a7c bs ds) with
 | nil=>exact b2b
 | cons a l=>exact a7d _ _ _
def VfJ (s:Stp) (goal:List Cls) (ds:L2) (r:Int) (w0:World) (L:List (Addr × Value)) (vs:List Value) (W:World):Prop:=Kn w0 L W ∧ ∃ (u0 u1 u2 u3 u4:Value) (i:Nat),vs = [u0,u1,u2,u3,u4,.int .i64 (i:Int)] ∧ i ≤ goal.length ∧
 ∀ (j:Nat) (c:Cls) (d:List Int),j < i → goal[j]? = some c → ds[j]? = some d → a1y s.g.Q (a5y c.claims.length c.need) d r = d
def VgK (n m:Nat) (g:Nat) (w0:World) (vs:List Value) (W:World):Prop:=Bw w0 W ∧ ∃ (u:Value) (j:Nat),vs = [u,.int .i64 (j:Int)] ∧ j ≤ m ∧ Holds W g 4 ((b9r n j).map Value.bool)
theorem b7c (s:Stp) (goal:List Cls) (ctx:a5e) (ds:L2) (ns:L3) {sv gv dv nv:Value} (hs:SetR w s sv) (hg:a4f w gv goal) (hd:a0s w dv ds) (hn:a2j w nv ns) (hl:Cd.Laid w)
  (hN:(a6r goal).length ≤ 1000000) (hctx:ctx.length ≤ 1000000)
  (k:∀ w',Bw w w' → K (.bool (a2u s goal ctx ds ns)) w'):a0a Tryz.prog 30 #[a6b s sv,gv,.string ⟨ctx.toArray⟩,b5m dv nv] K w:=by
 apply e5e
 unfold g0a
 have hs':=hs
 have hg':=hg
 have hd':=hd
 have hn':=hn
 obtain ⟨ad,c,rfl⟩:=hs.ints.isSlice
 obtain ⟨gad,gc,rfl⟩:=hg.isSlice
 obtain ⟨dad,dc,rfl⟩:=hd.isSlice
 obtain ⟨nad,nc,rfl⟩:=hn.isSlice
 have hlg:=hg.len
 refine a0l (cs:=a2r s (.slice ad s.bases.length c)) rfl (.start w) fun b1 W hk hb1 hbb=>?_
 refine a0l (cs:=a5n (.slice dad ds.length dc) (.slice nad ns.length nc)) rfl hk fun b2 W hk hb2 hbb2=>?_
 clear hb1 hb2
 have no:a2u s goal ctx ds ns = false → ∀ w',Bw w w' → K (.bool false) w':=fun e w' h=>by
  have:=k w' h
  rwa [e] at this
 refine Xa hk.cells ?_
 refine a9o s (hs'.next hk.below) (hg'.next (a0b a0i) hk.below) (fun w2 h2=>?_)
 have hk:=hk.next h2
 cases hgm:a1p s goal with
 | false=>
  refine Xa0 ?_
  exact no (by simp [a2u,hgm]) _ hk.below
 | true=>
 refine Xa hk.cells ?_
 refine c4r s (hs'.next hk.below) (hg'.next (a0b a0i) hk.below) (hd'.next (a0b a0k) hk.below) (hn'.next (a0b a0f) hk.below) (fun w3 h3=>?_)
 have hk:=hk.next h3
 cases hsm:a0u s goal ds ns with
 | false=>
  refine Xa0 ?_
  exact no (by simp [a2u,hsm]) _ hk.below
 | true=>
 refine Xa hk.cells ?_
 refine d3m s goal ctx ds ns (hs'.next hk.below) (hg'.next (a0b a0i) hk.below) (hd'.next (a0b a0k) hk.below) (hn'.next (a0b a0f) hk.below) (hl.below hk.below hl.size) hgm hsm hN hctx (fun w4 h4=>?_)
 have hk:=hk.next h4
 have hrI:=b6f s goal ctx ds ns
 have hver:a2u s goal ctx ds ns = d0f s (a8s s goal ctx ds ns) goal ds:=by simp [a2u,hgm,hsm]
 rw [hver] at k no
 generalize a8s s goal ctx ds ns = r at *
 refine Xa0 ?_
 refine ⟨VfJ s goal ds r w _,(fun vs _=>match vs with | [_,_,_,_,_,.int _ i]=>goal.length - i.toNat | _=>0),⟨hk,_,_,_,_,_,0,rfl,by omega,fun j c d h=>by omega⟩,?_⟩
 clear hk h2 h3 h4
 rintro _ _ W1 ⟨hk,u0,u1,u2,u3,u4,i,rfl,hi,hall⟩
 by_cases hin:i = goal.length
 ·subst hin
  refine Xa0 ?_
  have k:=k _ hk.below
  rw [c8i (fun j c d h1 h2=>hall j c d (gS h1).1 h1 h2)] at k
  exact k
 have hsm':=hsm
 unfold a0u at hsm'
 simp only [bA,dE] at hsm'
 obtain ⟨⟨e1,e2⟩,hsl⟩:=hsm'
 have eg:goal[i]? = some goal[i]:=gE (by omega)
 have ed:ds[i]? = some ds[i]:=gE (by omega)
 have en:ns[i]? = some ns[i]:=gE (by omega)
 have hsh:=(a3d hsl eg ed en).1
 obtain ⟨b1',o1,rfl,hlt1,cs1,_,hcell1,v1,rfl,hI1,hrow1⟩:=hg'.at (i:=i) (by omega)
 obtain ⟨bd,od,rfl,hltd,csd,_,hcelld,vd,rfl,hrowd⟩:=hd'.at (i:=i) (by omega)
 have c01:=hcell1 0 _ rfl
 have c11:=hcell1 1 _ rfl
 have cd:=hcelld 0 _ rfl
 simp only [Nat.add_zero,Nat.mul_one] at c01 cd
 have hcf:a0z s goal[i] = true:=by
  unfold a1p at hgm
  simp only [bA] at hgm
  exact List.all_eq_true.1 hgm.1.2 _ (List.getElem_mem _)
 generalize goal[i] = cl at *
 generalize ds[i] = d at *
 simp only [a0z,bA,dE] at hcf
 simp only [a2z,a0g,bA,dE] at hsh
 obtain ⟨ad1,cp1,rfl⟩:=hrow1.isSlice
 obtain ⟨m,hm⟩:∃ m:Nat,cl.need = (m:Int):=⟨cl.need.toNat,by omega⟩
 have hmn:m ≤ cl.claims.length:=by omega
 have hll1:(i:Int) < goal.length:=by omega
 have hll2:(i:Int) < ds.length:=by omega
 have bad:a1y s.g.Q (a5y cl.claims.length cl.need) d r ≠ d → d0f s r goal ds = false:=by
  intro hne
  rw [Bool.eq_false_iff]
  intro h
  exact hne (c8j h eg ed)
 rw [hm] at c01 hI1 bad
 refine Xb4 (An3 ((hk.below.cell hlt1).trans c01) ((hk.below.cell hlt1).trans c11) @hll1) ?_
 refine b2z _ _ _ _ hk (fun b4 W4 hk4 hb4 hg4=>?_)
 refine Xb3 hk4.cells ?_
 refine b9z (by omega) (fun g W5 h5 hg5 hh5=>?_)
 have hk5:=hk4.next h5
 rw [← d2j] at hh5
 refine Xa hk5.cells ?_
 refine ⟨VgK cl.claims.length m g W4,(fun vs _=>match vs with | [_,.int _ j]=>m - j.toNat | _=>0),⟨h5,u3,0,rfl,by omega,hh5⟩,?_⟩
 clear hh5
 rintro _ _ W6 ⟨h6,u5,j,rfl,hj,hh⟩
 by_cases hjm:¬ j = m
 ·have hjm':(j:Int) < m:=by omega
  obtain ⟨a,ha⟩:∃ a:Nat,a = cl.claims.length - 1 - j:=⟨_,rfl⟩
  have hsub:(cl.claims.length:Int) - 1 - (j:Int) = (a:Int):=by omega
  have hac:(a:Int) < cl.claims.length:=by omega
  refine Xa (An3 @hjm' @hsub @hac) ?_
  refine a3q d3k rfl rfl hh (i:=a) (by rw [List.length_map,b3i]; omega) (fun W7 hg7 hh7=>?_)
  have h7:=h6.grown hg7 h6.size (fun q hq=>by cases hq; exact hg5)
  refine Xa0 ?_
  refine ⟨⟨h7,_,j + 1,rfl,by omega,?_⟩,by show m - (((j + 1:Nat):Int)).toNat < m - ((j:Nat):Int).toNat; omega⟩
  rw [← d9g (by omega),List.map_set,← ha]
  exact hh7
 have hjm:j = m:=by omega
 subst hjm
 have hjn:¬ (j:Int) < j:=by omega
 have hk6:=hk4.next h6
 have hbr:=b6e hh (by rw [b3i]; omega)
 rw [b3i,e6f hmn,← hm] at hbr
 rw [← hm] at bad
 refine Xa0 ?_
 have hbl:Below W6.heap.size W6 { W6 with drawn:=W6.drawn + 1 }:=.drawn
 have hk9:=hk6.next hbl
 have hbr:=hbr.next (a0b a3m) hbl
 refine ⟨Nx { W6 with drawn:=W6.drawn + 1 },bR,rfl,?_⟩
 generalize ({ W6 with drawn:=W6.drawn + 1 }:World) = W9 at hk9 hbr ⊢
 refine Xf (fun W0 hW0=>An2 ((hk9.next hW0).cells) (((hk9.next hW0).below.cell hltd).trans cd)) @hll2 ?_
 refine ⟨Nx,?_⟩
 refine a3i (fun v w'=>Ints w' v (a1y s.g.Q (a5y cl.claims.length cl.need) d r)) (fun v w w1 hS h=>h.next hS) ?_ ?_
 ·intro w1 h1
  have hlB:(a5y cl.claims.length cl.need).length = cl.claims.length:=by simp [a5y]
  exact d3r s _ d r (hs'.next (hk9.next h1).below) (hbr.next (a0b a3m) h1) (hrowd.next (hk9.next h1).below) hrI (by rw [hlB]; omega) (by rw [hlB]; omega)
   (fun v w2 h2 ho=>⟨h1.on h2,h2,ho.ints (c2r _ _ _ _) (by simp [a1y,hlB]; omega)⟩)
 rintro w10 h10 v10 hi10
 have hk10:=hk9.next h10
 refine d0i hi10 (hrowd.next hk10.below) (fun w11 h11=>?_)
 have hk11:=hk10.next h11
 by_cases heq:a1y s.g.Q (a5y cl.claims.length cl.need) d r = d
 ·rw [decide_eq_true heq]
  refine Xa0 ?_
  refine ⟨⟨⟨hk11.below,hk11.cells.2.2⟩,_,_,_,_,_,i + 1,rfl,by omega,?_⟩,?_⟩
  ·intro j' c' d' hj' h1 h2
   by_cases hji:j' < i
   ·exact hall j' c' d' hji h1 h2
   ·obtain rfl:j' = i:=by omega
    rw [eg] at h1
    rw [ed] at h2
    cases h1; cases h2
    exact heq
  ·show goal.length - (((i + 1:Nat):Int)).toNat < goal.length - ((i:Nat):Int).toNat
   omega
 ·rw [decide_eq_false heq]
  refine Xa0 ?_
  exact no (bad heq) _ hk11.below
theorem b6g {T:TypeId} (b:Bool) (k:∀ g W,Bw w W → w.heap.size ≤ g → Holds W g 4 [.bool b] → K (.slice (some ⟨g,0,none⟩) 1 1) W):oM Tryz.prog (.buildSlice 61 1 #[(0,.tmp 0)]) T [.bool b] K w:=by
 rw [a1a]; exact a7s (by kernel_rfl) k
abbrev BoolG (B:Nat) (w:World) (v:Value) (l:List Bool):Prop:=GRow 1 4 (c8y b7j) B (fun _=>False) w v l
theorem c4w {v:Value} {l:List Bool} {b:Bool} {T:TypeId} (h:BoolG B w v l) (hB:B ≤ w.heap.size) (hh:Holds w g 4 [.bool b]) (hl:l.length < 1099511627776)
  (k:∀ v' w',BoolG B w' v' (l ++ [b]) → w.grownBy w' v.ownBlock → (∀ i,v'.ownBlock = some i → v.ownBlock = some i ∨ w.heap.size ≤ i) → K v' w') :
  oM Tryz.prog (.call { callee:=.builtin .append,args:=#[.tmp 0,.tmp 1],argTypes:=#[61,61] }) T [v,.slice (some ⟨g,0,none⟩) 1 1] K w:=by
 refine b2i 61 T ((Tryz.prog.info? 4).getD default) (((Tryz.prog.info? 4).getD default).zero.getD undef) 1 (by kernel_rfl) (by kernel_rfl) (by kernel_rfl) (by kernel_rfl) (by kernel_rfl) (by kernel_rfl) (by decide) (by decide)
  h hB (x:=b) (xs:=[.bool b]) rfl (fun j u hj=>?_) (fun u hu=>?_) (fun _ _ _ _ _ _=>⟨_,rfl,rfl⟩) (fun i hi=>hi.elim) hl (fun v' w' h1 h2 h3 _=>k v' w' h1 h2 h3)
 ·obtain ⟨h1,rfl⟩:=gS hj
  have hj0:j = 0:=by simpa using h1
  subst hj0
  exact hh.cell 0 (by simp)
 ·rw [List.mem_singleton] at hu
  subst hu; rfl
structure OutB (w:World) (B g:Nat) (rows:List (List Bool)):Prop where
 ex:∃ vs:List Value,vs.length = rows.length ∧ Holds w g 61 vs ∧ (∀ (i:Nat) (v:Value) (r:List Bool),vs[i]? = some v → rows[i]? = some r → BoolG B w v r) ∧
  (∀ (i j:Nat) (v u:Value),i ≠ j → vs[i]? = some v → vs[j]? = some u → apart v u) ∧ (∀ (i:Nat) (v:Value),vs[i]? = some v → v.ownBlock ≠ some g)
 base:B ≤ g
theorem BoolG.keepS {v:Value} {l:List Bool} {S:Nat → Prop} (h:BoolG B w v l) (hf:Fr S w w') (hv:∀ i,v.ownBlock = some i → ¬ S i):BoolG B w' v l:=GRow.keep h hf (fun i hi=>hi.elim) hv
theorem OutB.next {rows:List (List Bool)} (h:OutB w B g rows) (hb:Bw w w'):OutB w' B g rows:=by
 obtain ⟨vs,h1,h2,h3,h4,h5⟩:=h.ex
 exact ⟨⟨vs,h1,h2.next hb,fun i v r a b=>GRow.next (h3 i v r a b) hb (fun i hi=>hi.elim),h4,h5⟩,h.base⟩
theorem OutB.lt {rows:List (List Bool)} (h:OutB w B g rows):g < w.heap.size:=by
 obtain ⟨vs,_,h2,_⟩:=h.ex
 exact h2.lt
theorem OutB.get {rows:List (List Bool)} {i:Nat} {r:List Bool} (h:OutB w B g rows) (hi:rows[i]? = some r):∃ ad c,w.cell? ⟨g,i,none⟩ = some (.slice ad r.length c):=by
 obtain ⟨vs,h1,h2,h3,_,_⟩:=h.ex
 have hlt:i < vs.length:=by have:=(gS hi).1; omega
 have hv:=gE hlt
 obtain ⟨ad,c,e⟩:=(h3 i _ r hv hi).isSlice
 exact ⟨ad,c,by rw [h2.cell i hlt,e]⟩
theorem e3h (w:World):(sizeOf 61).run Tryz.prog w = .ok 1 w:=by kernel_rfl
theorem OutB.push {rows:List (List Bool)} {i q:Nat} {r:List Bool} {b:Bool} {T:TypeId} {ad:Option Addr} {c:Nat} (h:OutB w B g rows) (hi:rows[i]? = some r) (hB:B ≤ w.heap.size) (hv:w.cell? ⟨g,i,none⟩ = some (.slice ad r.length c)) (hh:Holds w q 4 [.bool b]) (hl:r.length < 1099511627776)
  (k:∀ v' w1,(∀ (T':TypeId) (K':VK),(∀ w2,OutB w2 B g (rows.set i (r ++ [b])) → Fr (fun j=>B ≤ j) w w2 → K' undef w2) → oM Tryz.prog (.store 61 (.tmp 0) (.tmp 1)) T' [.pointer (some ⟨g,i,none⟩),v'] K' w1) → K v' w1) :
  oM Tryz.prog (.call { callee:=.builtin .append,args:=#[.tmp 0,.tmp 1],argTypes:=#[61,61] }) T [.slice ad r.length c,.slice (some ⟨q,0,none⟩) 1 1] K w:=by
 obtain ⟨vs,h1,h2,h3,h4,h5⟩:=h.ex
 have hlt:i < vs.length:=by have:=(gS hi).1; omega
 have hvi:=gE hlt
 have he:vs[i] = .slice ad r.length c:=by
  have:=h2.cell i hlt
  rw [hv] at this
  exact (oI this).symm
 rw [he] at hvi
 have hG:=h3 i _ r hvi hi
 have hng:=h5 i _ hvi
 refine c4w hG hB hh hl (fun v' w1 hG1 hg1 hf1=>k v' w1 (fun T' K' hk=>?_))
 have hgl:=h2.lt
 have hng':v'.ownBlock ≠ some g:=fun e=>by
  rcases hf1 g e with e2 | e2
  ·exact hng e2
  ·omega
 have hH1:Holds w1 g 61 vs:=by
  unfold Holds
  rw [hg1.block g hgl (fun e=>hng (by first | exact e | exact e.symm))]
  exact h2
 obtain ⟨ad',c',rfl⟩:=hG1.isSlice
 refine a3q e3h rfl rfl hH1 hlt (fun w2 hg2 hH2=>hk w2 ⟨⟨_,by simpa using h1,hH2,?_,?_,?_⟩,h.base⟩ ?_)
 ·intro j v r' hj hr'
  rw [List.getElem?_set] at hj hr'
  by_cases hij:i = j
  ·rw [if_pos hij,if_pos hlt] at hj
   rw [if_pos hij,if_pos (by omega)] at hr'
   cases hj; cases hr'
   exact BoolG.keepS hG1 (Fr.of_by hg2) (fun x hx e=>hng' (by rw [hx,e]))
  ·rw [if_neg hij] at hj hr'
   have hGj:=h3 j v r' hj hr'
   have hap:=h4 i j _ _ hij hvi hj
   have h51:=h5 j v hj
   have hGj1:=BoolG.keepS hGj (Fr.of_by' hg1) (fun x hx e=>hap x e hx)
   exact BoolG.keepS hGj1 (Fr.of_by hg2) (fun x hx e=>h51 (by rw [hx,e]))
 ·have key:∀ (j:Nat) (u:Value),i ≠ j → vs[j]? = some u → apart (.slice ad' (r ++ [b]).length c') u:=by
   intro j u hij hj x e1 e2
   rcases hf1 x e1 with e3 | e3
   ·exact h4 i j _ _ hij hvi hj x e3 e2
   ·have hlt2:j < rows.length:=by have:=(gS hj).1; omega
    have:=((h3 j u _ hj (gE hlt2)).own e2).1
    omega
  intro j l v u hjl hj hl'
  rw [List.getElem?_set] at hj hl'
  by_cases hij:i = j
  ·rw [if_pos hij,if_pos hlt] at hj
   rw [if_neg (by omega)] at hl'
   cases hj
   exact key l u (by omega) hl'
  ·rw [if_neg hij] at hj
   by_cases hil:i = l
   ·rw [if_pos hil,if_pos hlt] at hl'
    cases hl'
    exact fun x e1 e2=>key j v hij hj x e2 e1
   ·rw [if_neg hil] at hl'
    exact h4 j l v u hjl hj hl'
 ·intro j v hj
  rw [List.getElem?_set] at hj
  by_cases hij:i = j
  ·rw [if_pos hij,if_pos hlt] at hj
   cases hj
   exact hng'
  ·rw [if_neg hij] at hj
   exact h5 j v hj
 ·refine ⟨hg2.os.trans hg1.os,hg2.tape.trans hg1.tape,hg2.output.trans hg1.output,Nat.le_trans hg1.size hg2.size,fun j hj hn=>?_⟩
  rw [hg2.block j (lL hj hg1.size) (fun e=>hn (by cases e; exact h.base)),hg1.block j hj (fun e=>hn ((hG.own (by first | exact e | exact e.symm)).2))]
theorem d3s {T:TypeId} {n:Nat} (hn:n ≤ 65536) (k:∀ g W,Bw w W → w.heap.size ≤ g → OutB W w.heap.size g (List.replicate n []) → K (.slice (some ⟨g,0,none⟩) n n) W):oM Tryz.prog (.makeSlice 120 (.tmp 0) (.tmp 1)) T [.int .i64 n,.int .i64 n] K w:=by
 obtain ⟨w',hr,ho,hg⟩:=run_makeSlice_full (P:=Tryz.prog) (w:=w) w.heap.size 120 61 ((Tryz.prog.info? 61).getD default) (.slice none 0 0) 1 (by kernel_rfl) (by kernel_rfl) (by kernel_rfl) (by kernel_rfl) .i64 .i64 n (by omega) (by
  have:((Tryz.prog.info? 61).getD default).bytes = 24:=by kernel_rfl
  rw [this]; omega) (by simp only [maxLen]; omega) (rL)
 rw [a7j,hr]
 have hb:Bw w w':=⟨hg.os,hg.tape,hg.output,hg.size,fun k hk=>hg.block k hk (by simp)⟩
 have hcells:(madeCells (Value.slice none 0 0).cells (n * 1)).toList = List.replicate n (.slice none 0 0):=by
  rw [Nat.mul_one]
  apply List.ext_getElem?
  intro i
  unfold madeCells
  simp [Value.cells,List.getElem?_replicate,Array.getElem?_ofFn]
  try (split <;> simp_all [Nat.mod_one])
 refine k _ _ hb (rL) ?_
 rcases ho.2 with ⟨h1,h2⟩ | ⟨g,cap,cur,h1,hb2,hg2,hc,hm,hs,ht⟩
 ·cases h1
 ·cases h1
  rw [hcells,Nat.mul_one] at ht
  have e:cur.toList = List.replicate n (.slice none 0 0):=by
   rw [← ht,List.take_of_length_le (by simp; omega)]
  have rep:∀ (i:Nat) (v:Value),(List.replicate n (Value.slice none 0 0))[i]? = some v → v = .slice none 0 0:=fun i v h=>by
   rw [List.getElem?_replicate] at h
   by_cases hi:i < n
   ·rw [if_pos hi] at h; exact (oI h).symm
   ·rw [if_neg hi] at h; cases h
  refine ⟨⟨List.replicate n (.slice none 0 0),by simp,?_,?_,?_,?_⟩,hb2⟩
  ·unfold Holds
   rw [hg2,← e]
  ·intro i v r hv hr'
   rw [rep i v hv]
   rw [List.getElem?_replicate] at hr'
   by_cases hi:i < n
   ·rw [if_pos hi] at hr'
    cases hr'
    exact GRow.nil
   ·rw [if_neg hi] at hr'; cases hr'
  ·intro i j v u _ hv _ x e1
   rw [rep i v hv] at e1
   cases e1
  ·intro i v hv e1
   rw [rep i v hv] at e1
   cases e1
def ChJ (s:Stp) (goal:List Cls) (know:List (List Knw)) (w0:World) (L:List (Addr × Value)) (B g:Nat) (vs:List Value) (W:World):Prop:=Kn w0 L W ∧ B ≤ W.heap.size ∧ ∃ (u0 u1 u2 u3:Value) (i:Nat) (R:List (List Bool)) (ok:Bool),vs = [u0,u1,u2,u3,.bool ok,.int .i64 (i:Int)] ∧ i ≤ goal.length ∧ R.length = i ∧
 R ++ (a0h s (goal.drop i) (know.drop i)).1 = (a0h s goal know).1 ∧ (ok && (a0h s (goal.drop i) (know.drop i)).2) = (a0h s goal know).2 ∧ OutB W B g (R ++ List.replicate (goal.length - i) [])
def CiJ (s:Stp) (c:Cls) (ks:List Knw) (R:List (List Bool)) (m:Nat) (w0:World) (L:List (Addr × Value)) (B g:Nat) (vs:List Value) (W:World):Prop:=Kn w0 L W ∧ B ≤ W.heap.size ∧ ∃ (u0 u1:Value) (j:Nat) (r:List Bool) (d:Int),vs = [u0,u1,.int .i64 d,.int .i64 (j:Int)] ∧ j ≤ c.claims.length ∧ I64 d ∧ r.length = j ∧ d ≤ c.need ∧ c.need - j ≤ d ∧
 r ++ (a0e s d (c.claims.drop j) (ks.drop j)).1 = (a0e s c.need c.claims ks).1 ∧ (a0e s d (c.claims.drop j) (ks.drop j)).2 = (a0e s c.need c.claims ks).2 ∧ OutB W B g (R ++ r :: List.replicate m [])
theorem e3i (h:Kn w0 L W) (hL:∀ p ∈ L,p.1.block < B) (hB:w0.heap.size ≤ B) (hf:Fr (fun j=>B ≤ j) W W'):Kn w0 L W':=
 ⟨⟨hf.os.trans h.below.os,hf.tape.trans h.below.tape,hf.output.trans h.below.output,Nat.le_trans h.below.size hf.size,fun j hj=>(hf.block j (lL hj h.below.size) (by omega)).trans (h.below.block j hj)⟩,
  a6c h.cells hf fun p hp=>⟨a2q h.cells p hp,by have:=hL p hp; omega⟩⟩
@[go_sem] theorem g6c (T:TypeId) (b o n c:Nat) (x:Int):oM Tryz.prog (.indexAddr 120 (.tmp 0) (.tmp 1)) T [.slice (some ⟨b,o,none⟩) n c,.int .i64 x] = onM (0 ≤ x ∧ x < n) (.pointer (some ⟨b,o + x.toNat,none⟩)):=by
 have:=a7k (K:=fun _ _=>True) (P:=Tryz.prog) (n:=1) 120 T (by kernel_rfl) (fun w=>by kernel_rfl) b o n c x
 rwa [Nat.mul_one] at this
set_option maxHeartbeats 4000000 in
theorem c4x (s:Stp) {sv gv kv:Value} {goal:List Cls} {know:List (List Knw)} (hs:SetR w s sv) (hg:a4f w gv goal) (hk0:a5v w kv know) (hgm:a1p s goal = true) (hft:a3a s goal know = true)
  (k:∀ g B w',Bw w w' → w.heap.size ≤ B → OutB w' B g (a0h s goal know).1 → K (.tuple #[.slice (some ⟨g,0,none⟩) goal.length goal.length,.bool (a0h s goal know).2]) w'):a0a Tryz.prog 92 #[a6b s sv,gv,kv] K w:=by
 apply e5c
 unfold f9y
 have hs':=hs
 have hg':=hg
 obtain ⟨ad,c,rfl⟩:=hs.ints.isSlice
 obtain ⟨gad,gc,rfl⟩:=hg.isSlice
 obtain ⟨kad,kc,rfl⟩:=hk0.isSlice
 have hgm':=hgm
 unfold a1p at hgm'
 simp only [bA,dE] at hgm'
 refine a0l (cs:=a2r s (.slice ad s.bases.length c)) rfl (.start w) fun b1 W hk hb1 hbb=>?_
 clear hb1
 refine Xa0 ?_
 refine d3s (by omega) (fun g W2 h2 hg2 hO=>?_)
 have hL:∀ p ∈ cellsOf [] b1 0 (a2r s (.slice ad s.bases.length c)),p.1.block < W.heap.size:=a2q hk.cells
 have hk2:=hk.next h2
 have hWB:=hk.below.size
 refine Xa0 ?_
 refine ⟨ChJ s goal know w _ W.heap.size g,(fun vs _=>match vs with | [_,_,_,_,_,.int _ i]=>goal.length - i.toNat | _=>0),⟨hk2,h2.size,_,_,_,_,0,[],true,rfl,by omega,rfl,by simp,by simp,by simpa using hO⟩,?_⟩
 clear hk2 hO hg2
 rintro _ _ W3 ⟨hk3,hB3,u0,u1,u2,u3,i,R,ok,rfl,hi,hRl,hR,hok,hO⟩
 by_cases hin:i = goal.length
 ·refine Xa0 ?_
  rw [hin,List.drop_of_length_le (rL)] at hR hok
  have e1:(a0h s [] (know.drop goal.length)) = ([],true):=by unfold a0h; cases know.drop goal.length <;> rfl
  rw [e1] at hR hok
  simp only [List.append_nil,Bool.and_true] at hR hok
  have k:=k g _ _ hk3.below hWB (by rw [hin] at hO; simpa [hR] using hO)
  rwa [← hok] at k
 have hft':=hft
 unfold a3a at hft'
 simp only [bA,dE] at hft'
 have hkl:=hft'.1
 have eg:goal[i]? = some goal[i]:=gE (by omega)
 have ek:know[i]? = some know[i]:=gE (by omega)
 have hfi:=a5o hft'.2 eg ek
 have hgd:goal.drop i = goal[i] :: goal.drop (i + 1):=List.drop_eq_getElem_cons (by omega)
 have hkd:know.drop i = know[i] :: know.drop (i + 1):=List.drop_eq_getElem_cons (by omega)
 have hcf:a0z s goal[i] = true:=List.all_eq_true.1 hgm'.1.2 _ (List.getElem_mem _)
 have hcm:∀ x ∈ goal[i].claims,a1q s x = true:=fun x hx=>List.all_eq_true.1 (List.all_eq_true.1 hgm'.2 _ (List.getElem_mem _)) x hx
 obtain ⟨b4,o4,rfl,hlt4,cs4,_,hcell4,v4,rfl,hI4,hrow4⟩:=hg'.at (i:=i) (by omega)
 obtain ⟨b5,o5,rfl,hlt5,cs5,_,hcell5,v5,rfl,hrow5⟩:=hk0.at (i:=i) (by omega)
 have c40:=hcell4 0 _ rfl
 have c41:=hcell4 1 _ rfl
 have c50:=hcell5 0 _ rfl
 simp only [Nat.add_zero,Nat.mul_one] at c40 c50
 rw [hgd,hkd] at hR hok
 have e2:a0h s (goal[i] :: goal.drop (i + 1)) (know[i] :: know.drop (i + 1)) = ((a0e s goal[i].need goal[i].claims know[i]).1 :: (a0h s (goal.drop (i + 1)) (know.drop (i + 1))).1,decide ((a0e s goal[i].need goal[i].claims know[i]).2 = 0) && (a0h s (goal.drop (i + 1)) (know.drop (i + 1))).2):=rfl
 rw [e2] at hR hok
 clear e2 hgd hkd
 generalize goal[i] = cl at *
 generalize know[i] = ks at *
 simp only [a0z,bA,dE] at hcf
 obtain ⟨ad4,cp4,rfl⟩:=hrow4.isSlice
 obtain ⟨ad5,cp5,rfl⟩:=hrow5.isSlice
 have hig:(i:Int) < goal.length:=by omega
 have hik:(i:Int) < know.length:=by omega
 have hrep:List.replicate (goal.length - i) ([]:List Bool) = [] :: List.replicate (goal.length - (i + 1)) []:=by
  rw [show goal.length - i = goal.length - (i + 1) + 1 by omega]; rfl
 rw [hrep] at hO
 refine Xb4 (An3 ((hk3.below.cell hlt4).trans c40) ((hk3.below.cell hlt4).trans c41) @hig) ?_
 refine b2z _ _ _ _ (.start W3) (fun b6 W6 hk6 hb6 hg6=>?_)
 have hk36:=hk3.next hb6
 refine Xa hk6.cells ?_
 refine ⟨CiJ s cl ks R (goal.length - (i + 1)) w _ W.heap.size g,(fun vs _=>match vs with | [_,_,_,.int _ j]=>cl.claims.length - j.toNat | _=>0),⟨hk36,Nat.le_trans hB3 hb6.size,u2,u3,0,[],cl.need,rfl,by omega,hI4,rfl,by omega,by omega,rfl,rfl,hO.next hb6⟩,?_⟩
 clear hO hk36 hb6 hk6
 rintro _ _ W7 ⟨hk7,hB7,u5,u6,j,r,d,rfl,hj,hId,hrl,hd1,hd2,hr1,hr2,hO7⟩
 by_cases hjn:j = cl.claims.length
 ·rw [hjn,List.drop_of_length_le (rL)] at hr1 hr2
  have e3:a0e s d [] (ks.drop cl.claims.length) = ([],d):=by unfold a0e; cases ks.drop cl.claims.length <;> rfl
  rw [e3,List.append_nil] at hr1
  rw [e3] at hr2
  rw [← hr1,← hr2] at hR
  rw [← hr2] at hok
  have hnx:∀ W8,W8 = W7 → ChJ s goal know w (cellsOf [] b1 0 (a2r s (.slice ad s.bases.length c))) W.heap.size g [.int .i64 (i:Int),.int .i64 d,u5,u6,.bool (ok && decide (d = 0)),.int .i64 ((i + 1:Nat):Int)] W8:=by
   rintro _ rfl
   refine ⟨hk7,hB7,_,_,_,_,i + 1,R ++ [r],ok && decide (d = 0),rfl,by omega,by simp [hRl],by simpa using hR,?_,by simpa using hO7⟩
   rw [← hok,Bool.and_assoc]
  have hwi:IntKind.i64.wrap ((i:Int) + 1) = ((i + 1:Nat):Int):=by rw [a0o _ (by omega) (by omega)]; rfl
  cases ok with
  | false=>
   have e4:([u0,u1,u2,u3,Value.bool false,Value.int IntKind.i64 (i:Int)]:List Value).getD 4 undef = Value.bool false:=rfl
   refine Xa0 ?_
   simp only [e4]
   refine Xa0 ?_
   exact ⟨hnx _ rfl,by show goal.length - (((i + 1:Nat):Int)).toNat < goal.length - ((i:Nat):Int).toNat; omega⟩
  | true=>
   have e4:([u0,u1,u2,u3,Value.bool true,Value.int IntKind.i64 (i:Int)]:List Value).getD 4 undef = Value.bool true:=rfl
   by_cases hd0:d = 0
   ·rw [decide_eq_true hd0] at hnx
    rw [hd0] at hnx ⊢
    simp only [e4]
    refine Xa0 ?_
    exact ⟨hnx _ rfl,by show goal.length - (((i + 1:Nat):Int)).toNat < goal.length - ((i:Nat):Int).toNat; omega⟩
   ·rw [decide_eq_false hd0] at hnx
    have hbe:(d == 0) = false:=by simp [hd0]
    simp only [e4]
    refine Xa (An2 @hd0 @hbe) ?_
    exact ⟨hnx _ rfl,by show goal.length - (((i + 1:Nat):Int)).toNat < goal.length - ((i:Nat):Int).toNat; omega⟩
 have ec:cl.claims[j]? = some cl.claims[j]:=gE (by omega)
 have ekn:ks[j]? = some ks[j]:=gE (by have:=hfi.1; omega)
 have hcd:cl.claims.drop j = cl.claims[j] :: cl.claims.drop (j + 1):=List.drop_eq_getElem_cons (by omega)
 have hkd:ks.drop j = ks[j] :: ks.drop (j + 1):=List.drop_eq_getElem_cons (by have:=hfi.1; omega)
 have hxm:=hcm _ (List.getElem_mem (by omega:j < cl.claims.length))
 obtain ⟨b8,o8,rfl,hlt8,cs8,_,hcell8,v8,rfl,hm8⟩:=hrow4.at (i:=j) (by omega)
 obtain ⟨b9,o9,rfl,hlt9,cs9,_,hcell9,v9,rfl,hv9⟩:=hrow5.at (i:=j) (by have:=hfi.1; omega)
 have c80:=hcell8 0 _ rfl
 have c81:=hcell8 1 _ rfl
 have c90:=hcell9 0 _ rfl
 have c91:=hcell9 1 _ rfl
 simp only [Nat.add_zero] at c80 c90
 generalize cl.claims[j] = x at *
 generalize ks[j] = kn at *
 obtain ⟨ad8,cp8,hv8⟩:=hm8.eqs.isSlice
 subst hv8
 obtain ⟨ad9,cp9,rfl⟩:=hv9.isSlice
 have hjc:(j:Int) < cl.claims.length:=by omega
 have hjk:(j:Int) < ks.length:=by have:=hfi.1; omega
 have hrow:(R ++ r :: List.replicate (goal.length - (i + 1)) [])[i]? = some r:=by
  rw [List.getElem?_append_right (by omega),hRl,Nat.sub_self]; rfl
 have hset:∀ b:Bool,(R ++ r :: List.replicate (goal.length - (i + 1)) []).set i (r ++ [b]) = R ++ (r ++ [b]) :: List.replicate (goal.length - (i + 1)) []:=fun b=>by
  rw [List.set_append,if_neg (by omega),hRl,Nat.sub_self]; rfl
 have hlen9:=hrow4.len
 refine Xb4 (An3 ((hk7.below.cell hlt8).trans c80) ((hk7.below.cell hlt8).trans c81) @hjc) ?_
 refine a4u _ _ _ _ hk7 (fun b10 W8 hk8 hb8 hg8=>?_)
 have hb8:=hb8.on (.drawn (B:=W8.heap.size))
 have hk8:=hk8.drew
 refine ⟨Nx { W8 with drawn:=W8.drawn + 1 },bR,rfl,?_⟩
 generalize ({ W8 with drawn:=W8.drawn + 1 }:World) = W9 at hk8 hb8 ⊢
 by_cases hdp:¬ (0:Int) < d
 ·refine Xg @hdp ?_
  refine ⟨Nx,fun w10 h10=>?_⟩
  have hb10:=hb8.on h10
  refine Xa0 ?_
  refine ⟨fun l W=>l = [.int .i64 (d)] ∧ W = w10,?_,?_⟩
  ·refine Xa0 ?_
   exact ⟨rfl,rfl⟩
  ·rintro _ _ _ ⟨rfl,rfl⟩
   obtain ⟨rad,rc,hrc⟩:=(hO7.next hb10).get hrow
   refine Xb2 (An2 @hrc @hig) ?_
   refine b6g false (fun q w11 h11 hq11 hh11=>?_)
   have hrc11:=(h11.cell (hO7.next hb10).lt).trans hrc
   refine OutB.push ((hO7.next hb10).next h11) hrow (by have:=hb10.size; have:=h11.size; omega) hrc11 hh11 (by omega) (fun v' w12 hst=>?_)
   refine Xa @hig ?_
   refine hst _ _ (fun w13 hO13 hf13=>?_)
   refine Xa0 ?_
   rw [hset] at hO13
   have hk13:=e3i ((hk7.next hb10).next h11) hL hWB hf13
   refine ⟨⟨hk13,by have:=hb10.size; have:=h11.size; have:=hf13.size; omega,_,_,j + 1,r ++ [false],d,rfl,by omega,by unfold I64 at hId ⊢; omega,by simp [hrl],by omega,by omega,?_,?_,hO13⟩,by show cl.claims.length - (((j + 1:Nat):Int)).toNat < cl.claims.length - ((j:Nat):Int).toNat; omega⟩
   ·rw [← hr1,hcd,hkd,List.append_assoc]
    simp [a0e,hdp]
   ·rw [← hr2,hcd,hkd]
    simp [a0e,hdp]
 have hdp:(0:Int) < d:=by omega
 cases hhas:kn.has with
 | false=>
  rw [hhas] at c90
  refine Xf (fun W0 hW0=>An4 ((hk8.next hW0).cells) (((hk8.next hW0).below.cell hlt5).trans c50) (((hk8.next hW0).below.cell hlt9).trans c90) (((hk8.next hW0).below.cell hlt9).trans c91)) (An3 @hdp @hik @hjk) ?_
  refine ⟨Nx,fun w10 h10=>?_⟩
  have hb10:=hb8.on h10
  refine Xa0 ?_
  refine ⟨fun l W=>l = [.int .i64 (d)] ∧ W = w10,?_,?_⟩
  ·refine Xa0 ?_
   exact ⟨rfl,rfl⟩
  ·rintro _ _ _ ⟨rfl,rfl⟩
   obtain ⟨rad,rc,hrc⟩:=(hO7.next hb10).get hrow
   refine Xb2 (An2 @hrc @hig) ?_
   refine b6g false (fun q w11 h11 hq11 hh11=>?_)
   have hrc11:=(h11.cell (hO7.next hb10).lt).trans hrc
   refine OutB.push ((hO7.next hb10).next h11) hrow (by have:=hb10.size; have:=h11.size; omega) hrc11 hh11 (by omega) (fun v' w12 hst=>?_)
   refine Xa @hig ?_
   refine hst _ _ (fun w13 hO13 hf13=>?_)
   refine Xa0 ?_
   rw [hset] at hO13
   have hk13:=e3i ((hk7.next hb10).next h11) hL hWB hf13
   refine ⟨⟨hk13,by have:=hb10.size; have:=h11.size; have:=hf13.size; omega,_,_,j + 1,r ++ [false],d,rfl,by omega,by unfold I64 at hId ⊢; omega,by simp [hrl],by omega,by omega,?_,?_,hO13⟩,by show cl.claims.length - (((j + 1:Nat):Int)).toNat < cl.claims.length - ((j:Nat):Int).toNat; omega⟩
   ·rw [← hr1,hcd,hkd,List.append_assoc]
    simp [a0e,hhas]
   ·rw [← hr2,hcd,hkd]
    simp [a0e,hhas]
 | true=>
  rw [hhas] at c90
  refine Xf (fun W0 hW0=>An4 ((hk8.next hW0).cells) (((hk8.next hW0).below.cell hlt5).trans c50) (((hk8.next hW0).below.cell hlt9).trans c90) (((hk8.next hW0).below.cell hlt9).trans c91)) (An3 @hdp @hik @hjk) ?_
  refine ⟨Nx,fun w9 h9=>?_⟩
  have hk9:=hk8.next h9
  refine a9i ?_
  refine c9l s x kn.values (hs'.next hk9.below) (hm8.next hk9.below) (hv9.next hk9.below) (a7t hxm) (fun w10 h10=>?_)
  have hb10:=(hb8.on h9).on h10
  cases hho:b1g s x kn.values with
  | false=>
   refine Xa0 ?_
   refine ⟨fun l W=>l = [.int .i64 (d)] ∧ W = w10,?_,?_⟩
   ·refine Xa0 ?_
    exact ⟨rfl,rfl⟩
   ·rintro _ _ _ ⟨rfl,rfl⟩
    obtain ⟨rad,rc,hrc⟩:=(hO7.next hb10).get hrow
    refine Xb2 (An2 @hrc @hig) ?_
    refine b6g false (fun q w11 h11 hq11 hh11=>?_)
    have hrc11:=(h11.cell (hO7.next hb10).lt).trans hrc
    refine OutB.push ((hO7.next hb10).next h11) hrow (by have:=hb10.size; have:=h11.size; omega) hrc11 hh11 (by omega) (fun v' w12 hst=>?_)
    refine Xa @hig ?_
    refine hst _ _ (fun w13 hO13 hf13=>?_)
    refine Xa0 ?_
    rw [hset] at hO13
    have hk13:=e3i ((hk7.next hb10).next h11) hL hWB hf13
    refine ⟨⟨hk13,by have:=hb10.size; have:=h11.size; have:=hf13.size; omega,_,_,j + 1,r ++ [false],d,rfl,by omega,by unfold I64 at hId ⊢; omega,by simp [hrl],by omega,by omega,?_,?_,hO13⟩,by show cl.claims.length - (((j + 1:Nat):Int)).toNat < cl.claims.length - ((j:Nat):Int).toNat; omega⟩
    ·rw [← hr1,hcd,hkd,List.append_assoc]
     simp [a0e,hho,hhas]
    ·rw [← hr2,hcd,hkd]
     simp [a0e,hho,hhas]
  | true=>
   refine Xa0 ?_
   refine ⟨fun l W=>l = [.int .i64 (d - 1)] ∧ W = w10,?_,?_⟩
   ·refine Xa0 ?_
    exact ⟨rfl,rfl⟩
   ·rintro _ _ _ ⟨rfl,rfl⟩
    obtain ⟨rad,rc,hrc⟩:=(hO7.next hb10).get hrow
    refine Xb2 (An2 @hrc @hig) ?_
    refine b6g true (fun q w11 h11 hq11 hh11=>?_)
    have hrc11:=(h11.cell (hO7.next hb10).lt).trans hrc
    refine OutB.push ((hO7.next hb10).next h11) hrow (by have:=hb10.size; have:=h11.size; omega) hrc11 hh11 (by omega) (fun v' w12 hst=>?_)
    refine Xa @hig ?_
    refine hst _ _ (fun w13 hO13 hf13=>?_)
    refine Xa0 ?_
    rw [hset] at hO13
    have hk13:=e3i ((hk7.next hb10).next h11) hL hWB hf13
    refine ⟨⟨hk13,by have:=hb10.size; have:=h11.size; have:=hf13.size; omega,_,_,j + 1,r ++ [true],d - 1,rfl,by omega,by unfold I64 at hId ⊢; omega,by simp [hrl],by omega,by omega,?_,?_,hO13⟩,by show cl.claims.length - (((j + 1:Nat):Int)).toNat < cl.claims.length - ((j:Nat):Int).toNat; omega⟩
    ·rw [← hr1,hcd,hkd,List.append_assoc]
     simp [a0e,hho,hhas,hdp]
    ·rw [← hr2,hcd,hkd]
     simp [a0e,hho,hhas,hdp]
end
end Go.Proofs
