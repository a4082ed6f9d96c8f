/- Parts of the proof of the seat's statements (LawKit, OpenKit, OpenKit2, RK, PrEnc, GrH, RK2, GrI, GrJ, ShGr2, GrK, PrDec, GrM, HLs, GrN, GrO, HL10, GrQ, GrR, PrShape, PrPlace, CtA, CtB, CtC, CtD, CtE, CtF, CtG, CtH, PrFits, CtI, CtJ, CtK, CtL, CtM, CtN, CtO, CtP, HFl, PrPts, HL9, GrP, HL8, PrOpen, GrV, CtQ, PrVer, CtR, CtS, CtT, CtU, CtV, PrPrv, HPv, CtW, CtX, CtY, CtZ, PvA, PvB, PvC, PvD, PvE, HLt, HLw, GrS, GrT, PrExt, LwA, LwB, SmFacts, SmQ, LwC, PrFew, GrU, LwD, HRa, RfA, RfB, RfC): lemmas about the given translation and plain laws. No condition of their own. -/
import Derived.Test.YtlmhhgemiknhdaaGreatDoorPtoc
import Derived.ProofKit
import Derived.LaidMore
import Derived.OpenShut
import Derived.Carry
import Derived.SizedLaws
import Derived.Stop.Joined
import Derived.Deep.Slices
import Derived.Deep.Fields
import Derived.LaidSub
import Derived.Test.YtlmhhgemiknhdaaGreatDoorRows
import Derived.Test.YtlmhhgemiknhdaaGreatDoorCards
import Derived.Test.YtlmhhgemiknhdaaGreatDoorTie
import Derived.SevenTiedAt
import Derived.Test.YtlmhhgemiknhdaaGreatDoorProg
set_option linter.all false
set_option maxRecDepth 100000
namespace Go.Sh
open Go Go.ChangeShapes Go.WideShapes Go.ChangeAt Go.RowKit
section
variable {H:Type} {enc:TypeId × Value → H} {P:Program}
theorem trodAll_below (hl:laidOutB P = true) {W W':World} (hb:Below W.heap.size W W') :
  ∀ (ts:List TypeId) (vs:List Value) (ds:List (DataW H)) (ps:List MemPlace),(ts.all fun t=>P.readableRec t && decide (t < P.types.size)) = true →
  DataW.TrodAll enc P W 0 (fun _=>true) true ts vs ds ps → (∀ x ∈ ps,x.block < W.heap.size) → DataW.TrodAll enc P W' 0 (fun b=>decide (b < W.heap.size)) true ts vs ds ps
 | [],[],[],_,_,h,_=>h
 | t :: ts,v :: vs,d :: ds,ps,ht,h,hlt=>by
  obtain ⟨p,q,h1,h2,rfl⟩:=h
  simp only [List.all_cons,bA,dE] at ht
  exact ⟨p,q,Below.trod hl ht.1.1 ht.1.2 h1 hb (fun x hx=>hlt x (by simp [hx])),trodAll_below hl hb ts vs ds q ht.2 h2 (fun x hx=>hlt x (by simp [hx])),rfl⟩
 | [],_ :: _,_,_,_,h,_=>h.elim
 | [],[],_ :: _,_,_,h,_=>h.elim
 | _ :: _,[],_,_,_,h,_=>h.elim
 | _ :: _,_ :: _,[],_,_,h,_=>h.elim
theorem trodAll_length {W:World} {b:Nat} {sp:Nat → Bool} {hd:Bool}:∀ (ts:List TypeId) (vs:List Value) (ds:List (DataW H)) (ps:List MemPlace),DataW.TrodAll enc P W b sp hd ts vs ds ps → ds.length = ts.length ∧ vs.length = ts.length
 | [],[],[],_,_=>⟨rfl,rfl⟩
 | t :: ts,v :: vs,d :: ds,ps,h=>by
  obtain ⟨p,q,h1,h2,rfl⟩:=h
  have:=trodAll_length ts vs ds q h2
  simp [this]
 | [],_ :: _,_,_,h=>h.elim
 | [],[],_ :: _,_,h=>h.elim
 | _ :: _,[],_,_,h=>h.elim
 | _ :: _,_ :: _,[],_,h=>h.elim
theorem trodL_cons {W:World} {b:Nat} {sp:Nat → Bool} {hd:Bool} {t:TypeId} {ts:List TypeId} {vs:List Value} {ds:List (DataW H)} {ps:List MemPlace} (h:DataW.TrodAll enc P W b sp hd (t :: ts) vs ds ps) :
  ∃ v d vs' ds' p q,vs = v :: vs' ∧ ds = d :: ds' ∧ DataW.Trod enc P W b sp hd t v d p ∧ DataW.TrodAll enc P W b sp hd ts vs' ds' q ∧ ps = p ++ q:=by
 match vs,ds,h with
 | v :: vs,d :: ds,h=>
  obtain ⟨p,q,h1,h2,rfl⟩:=h
  exact ⟨v,d,vs,ds,p,q,rfl,rfl,h1,h2,rfl⟩
 | [],_,h=>exact h.elim
 | _ :: _,[],h=>exact h.elim
theorem trodL0 {W:World} {b:Nat} {sp:Nat → Bool} {hd:Bool} {vs:List Value} {ds:List (DataW H)} {ps:List MemPlace} (h:DataW.TrodAll enc P W b sp hd [] vs ds ps):vs = [] ∧ ds = [] ∧ ps = []:=by
 match vs,ds,h with
 | [],[],h=>exact ⟨rfl,rfl,h⟩
theorem law_post {fn:Func} {s:ChangeSpec} {tb:TypeId} {apart:Bool} {W W':World} {args:Array Value} {ds gs:List (DataW H)} {before:List MemPlace} (hl:laidOutB P = true)
  (hrt:fn.resultTypes = #[tb]) (hub:P.underlying tb = some .bool) (hpar:(fn.params.toList.all fun t=>P.readableRec t && decide (t < P.types.size)) = true) (hvars:s.vars = [])
  (hspec:∀ ds:List (DataW H),ds.length = fn.params.toList.length → s.fn H ds = { results:=[.lit (.bool true)],args:=ds })
  (hW:DataW.Whole enc P fn.params.toList s.vars apart W args.toList ds gs before) (hb:Below W.heap.size W W'):s.post enc P fn apart true false false W args (.bool true) W':=by
 have hW0:=hW
 have hlt:=hW.lt
 obtain ⟨p,q,hA,hV,rfl,_,_⟩:=hW
 rw [hvars] at hV
 obtain ⟨rfl,rfl⟩:=trodVars_none hV
 have hlen:=(trodAll_length _ _ _ _ hA).1
 have hs:=hspec ds hlen
 rw [List.append_nil] at hlt hW0
 refine ⟨ds,[],p,[],p,[],hW0,?_,?_,?_,hb.frame _,fun h=>by cases h⟩
 ·rw [List.append_nil,hs,hrt]
  exact trodAll_mk1 (shut_bool hub true)
 ·rw [List.append_nil,hs]
  exact trodAll_below hl hb _ _ _ _ hpar hA hlt
 ·rw [hvars,List.append_nil,hs]
  rfl
theorem law_lifted_laid {C:Checked} {os:Os} {f:FuncId} {fn:Func} {s:ChangeSpec} {tb:TypeId} {L:List (String × DataW Unit)} (own:ownKnob C.prog.godebug = none) (started:os.Started) (noInit:C.prog.inits.idxOf? f = none) (hfn:C.prog.funcs[f]? = some fn)
  (hl:laidOutB C.prog = true) (hrt:fn.resultTypes = #[tb]) (hub:C.prog.underlying tb = some .bool) (hpar:(fn.params.toList.all fun t=>C.prog.readableRec t && decide (t < C.prog.types.size)) = true) (hvars:s.vars = [])
  (hspec:∀ ds:List (DataW H),ds.length = fn.params.toList.length → s.fn H ds = { results:=[.lit (.bool true)],args:=ds })
  (witness:∃ (w:World) (tape:Tape) (i:Input),w.os = os ∧ (w.forCall tape i).Shaped C.prog ∧ i.vars = [] ∧ Input.okWide C.prog (w.forCall tape i) .any w.heap.size f i ∧
   ((s.pre enc C.prog fn [] false (w.forCall tape i).memory i.args ∧ laidMetH C.prog L (w.forCall tape i).memory) ∧ sizedMet enc C.prog fn (OpenSpec.ofChange s) false (w.forCall tape i).memory i.args) ∧ ({}:Assume).holds C.prog (lone (Frame.enter C.prog f i.args .normal) [] (w.forCall tape i)))
  (contract:∀ (W:World) (base:Nat) (args:List Value) (ds:List (DataW H)) (p:List MemPlace),(∀ (j:Nat) t v,fn.params.toList[j]? = some t → args[j]? = some v → Value.okWide C.prog W .any base t v) →
   DataW.TrodAll enc C.prog W 0 (fun _=>true) true fn.params.toList args ds p → (DataW.weightsEach C.prog fn.params.toList ds).all (· ≤ reachBytes) = true → (∀ x ∈ p,x.block < W.heap.size) →
   laidMetH C.prog L W →
   callM C.prog f args.toArray (fun v W'=>v = .bool true ∧ Below W.heap.size W W') W) :
  ReturnsInHanded {} C os f .any (fun w args=>(s.pre enc C.prog fn [] false w args ∧ laidMetH C.prog L w) ∧ sizedMet enc C.prog fn (OpenSpec.ofChange s) false w args)
   (s.post enc C.prog fn false true false false):=by
 refine returnsInHanded_of_change_and (X:=fun w _=>laidMetH C.prog L w) (fun _ _ _ hh h=>h.of_heap hh) own started noInit hfn witness ?_
 intro W base args ds gs before hval hW _ hsz hX _
 have hW0:=hW
 have hlt:=hW.lt
 obtain ⟨p,q,hA,hV,rfl,_,_⟩:=hW
 rw [hvars] at hV
 obtain ⟨rfl,rfl⟩:=trodVars_none hV
 have hsz':(DataW.weightsEach C.prog fn.params.toList ds).all (· ≤ reachBytes) = true:=by
  simpa [hvars,ChangeSpec.plain,DataSpec.varTypes] using hsz
 have hc:=contract W base args.toList ds p (fun j t v h1 h2=>hval j t v (by simpa using h1) (by simpa using h2)) hA hsz' (fun x hx=>hlt x (by simp [hx])) hX
 refine hc.mono fun e W' h=>?_
 obtain ⟨v,rfl,rfl,hb⟩:=h
 exact ⟨_,rfl,law_post hl hrt hub hpar hvars hspec hW0 hb⟩
end
end Go.Sh
namespace Go.Sh
open Go Go.ChangeShapes Go.WideShapes Go.ChangeAt Go.RowKit Go.Deep
section
variable {H:Type} {enc:TypeId × Value → H} {P:Program} {w:World} {sp:Nat → Bool} {hd:Bool}
theorem addr_add' (b o k:Nat):(⟨b,o,none⟩:Addr).add k = ⟨b,o + k,none⟩:=by
 unfold Addr.add
 split
 ·rename_i h; rw [h]; rfl
 ·rfl
theorem cell_lt {a:Addr} {v:Value} (h:w.cell? a = some v):a.block < w.heap.size ∧ a.spot = none:=by
 unfold World.cell? at h
 split at h
 ·rename_i c t f hh
  refine ⟨(Array.getElem?_eq_some_iff.1 hh).1,?_⟩
  split at h
  ·cases h
  ·rename_i hs
   cases hsp:a.spot with
   | none=>rfl
   | some x=>rw [hsp] at hs; exact absurd rfl hs
 ·cases h
theorem open_fields {e:TypeId} {fs:Array Field} {n:Nat} {cs:List Value} {D:DataW H × List MemPlace} (he:P.underlying e = some (.struct fs)) (hone:oneCellFields P fs = true) (hC:P.cellsOf e = fs.size)
  (h:DataW.trod enc P w 0 sp hd n e cs = some D) :
  cs.length = fs.size ∧ ∀ (j:Nat) (f:Field),fs[j]? = some f → ∃ (v:Value) (y:DataW H × List MemPlace) (m:Nat),cs[j]? = some v ∧ DataW.trod enc P w 0 sp hd m f.type [v] = some y:=by
 obtain ⟨xs,m,_,_,hcl,hxl,hf⟩:=DataW.trod_struct he h
 rw [hC] at hcl
 refine ⟨hcl,fun j f hj=>?_⟩
 obtain ⟨ho,hk⟩:=hone_of hone j f hj
 have hjl:j < fs.size:=(Array.getElem?_eq_some_iff.1 hj).1
 have h1:=hf j f hj
 rw [ho,hk,List.drop_eq_getElem_cons (by omega),gE (by omega:j < xs.length)] at h1
 exact ⟨_,_,m,gE (by omega),h1⟩
end
end Go.Sh
namespace Go.Sh
open Go Go.ChangeShapes Go.WideShapes Go.ChangeAt Go.RowKit Go.Deep
section
variable {H:Type} {enc:TypeId × Value → H} {P:Program} {w:World} {sp:Nat → Bool} {hd:Bool}
theorem rowOpen {α:Type} (mk:α → Value) (Q:α → Prop) {t e:TypeId} {v:Value} {n:Nat} {D:DataW H × List MemPlace} (ht:P.underlying t = some (.slice e)) (hC:P.cellsOf e = 1)
  (hrd:∀ (V:Value) (n:Nat) (D:DataW H × List MemPlace),DataW.trod enc P w 0 sp hd n e [V] = some D → ∃ x,V = mk x ∧ Q x) (h:DataW.trod enc P w 0 sp hd n t [v] = some D) :
  ∃ l:List α,(∃ ad c,v = .slice ad l.length c ∧ (l = [] ∨ ∃ b o,ad = some ⟨b,o,none⟩ ∧ b < w.heap.size ∧ ∀ (i:Nat) (h:i < l.length),w.cell? ⟨b,o + i,none⟩ = some (mk l[i]))) ∧ l.length ≤ maxLen ∧ ∀ x ∈ l,Q x:=by
 rcases open_slice1 ht hC h with ⟨hcs,_⟩ | ⟨a',len,cap,m,n',V,D',Pl,hcs,_,hl,hm,hmm,_,hi⟩
 ·simp only [List.cons.injEq,and_true] at hcs
  subst hcs
  exact ⟨[],⟨none,0,rfl,.inl rfl⟩,by simp,by simp⟩
 ·simp only [List.cons.injEq,and_true] at hcs
  subst hcs
  have hml:len ≤ m:=by rw [hmm]; split <;> omega
  have key:∀ i:Fin len,∃ x,V i = mk x ∧ Q x:=fun i=>hrd _ _ _ (hi i (by have:=i.2; omega)).2
  refine ⟨List.ofFn (fun i=>(key i).choose),⟨some a',cap,by rw [List.length_ofFn],?_⟩,by rw [List.length_ofFn]; omega,?_⟩
  ·by_cases h0:len = 0
   ·left; subst h0; rfl
   ·right
    have h00:=(hi 0 (by omega)).1
    have e0:a'.add 0 = a':=by simp [Addr.add]
    rw [e0] at h00
    obtain ⟨hb,hs⟩:=cell_lt h00
    obtain ⟨b,o,s⟩:=a'
    simp only at hs hb
    subst hs
    refine ⟨b,o,rfl,hb,fun i hil=>?_⟩
    rw [List.length_ofFn] at hil
    have h1:=(hi i (by omega)).1
    rw [addr_add'] at h1
    rw [h1,List.getElem_ofFn]
    have:=(key ⟨i,hil⟩).choose_spec.1
    exact congrArg some this
  ·intro x hx
   rw [List.mem_ofFn] at hx
   obtain ⟨i,rfl⟩:=hx
   exact (key i).choose_spec.2
theorem trodIface {t:TypeId} {ms:Array (String × TypeId)} {cs:List Value} {n:Nat} {nm:String} {d:DataW H} {ps:List MemPlace} (ht:P.underlying t = some (.interface ms)) (h:DataW.trod enc P w 0 sp false n t cs = some (.iface nm d,ps)):∃ u v,cs = [.iface u v]:=by
 cases n with
 | zero=>simp [DataW.trod] at h
 | succ n=>
  unfold DataW.trod at h
  rw [ht] at h
  match cs,h with
  | [.iface u v],_=>exact ⟨u,v,rfl⟩
  | [.nilIface],h=>simp at h
  | [],h=>simp at h
  | [.int _ _],h=>simp at h
  | [.bool _],h=>simp at h
  | [.string _],h=>simp at h
  | [.pointer _],h=>simp at h
  | [.slice _ _ _],h=>simp at h
  | [.map _],h=>simp at h
  | [.float _ _],h=>simp at h
  | [.complex _ _ _],h=>simp at h
  | [.agg _],h=>simp at h
  | [.tuple _],h=>simp at h
  | [.func _ _ _],h=>simp at h
  | [.nilFunc],h=>simp at h
  | [.chan _],h=>simp at h
  | _ :: _ :: _,h=>simp at h
end
end Go.Sh
namespace Go.Proofs
open Go Go.Sh Go.RowKit Go.Lib CodeSpec TkSpec FdSpec PrSpec Go.ChangeShapes Go.WideShapes Go.ChangeAt Go.Deep
abbrev laidList:List (String × DataW Unit):=YtlmhhgemiknhdaaGreatDoor.Rows.proofSignsRow.laid
abbrev lname (i:Nat):String:=(laidList.map (·.1)).getD i default
theorem var_of_laid {W:World} {nm:String} {d:DataW Unit} (hf:(laidList.filter fun x=>x.1 == nm) = [(nm,d)]) (h:laidMetH Tryz.prog laidList W):laidMet Tryz.prog [(nm,d)] W:=by
 rw [MakeChecks.laidMetH_plain _ _ _ (by kernel_rfl)] at h
 have:=h.filter (fun x=>x.1 == nm)
 rwa [hf] at this
theorem tab_laid {W:World} (h:laidMetH Tryz.prog laidList W):TabIs Tryz.prog W tabName .u64 pow10Tab:=
 tabIs_of_head (rest:=[]) (t:=261) (e:=150) (n:=20) Cd.gTab (by kernel_rfl) Tryz.underlying261 Tryz.underlying150 (by kernel_rfl) (by kernel_rfl)
  (var_of_laid (d:=tabData .u64 pow10Tab) (by kernel_rfl) h)
theorem gDb:Tryz.prog.globalNamed (lname 1) = some 2:=by kernel_rfl
theorem db_laid {W:World} (h:laidMetH Tryz.prog laidList W):TabIs Tryz.prog W (lname 1) .u8 (Lib.deBruijn64tab.map (fun n:Nat=>(n:Int))):=
 tabIs_of_head (rest:=[]) (t:=244) (e:=5) (n:=64) gDb (by kernel_rfl) Tryz.underlying244 Tryz.underlying5 (by kernel_rfl) (by kernel_rfl)
  (var_of_laid (d:=tabData .u8 (Lib.deBruijn64tab.map (fun n:Nat=>(n:Int)))) (by kernel_rfl) h)
theorem db_of {W:World} (h:laidMetH Tryz.prog laidList W):DbT W:=by
 have ht:=db_laid h
 have hl:(Lib.deBruijn64tab.map (fun n:Nat=>(n:Int))).length = 64:=by decide +kernel
 have hc:∀ j,j < 64 → W.cell? ⟨2,j,none⟩ = some (.int .u8 (Lib.deBruijn64tab.getD j 0:Nat)):=fun j hj=>by
  rw [ht.cell gDb j (by omega)]
  have:(Lib.deBruijn64tab.map (fun n:Nat=>(n:Int))).getD j 0 = ((Lib.deBruijn64tab.getD j 0:Nat):Int):=by
   rw [List.getD_eq_getElem?_getD,List.getD_eq_getElem?_getD,List.getElem?_map]
   cases Lib.deBruijn64tab[j]? <;> rfl
  rw [this]
 refine ⟨?_,hc⟩
 have h0:=hc 0 (by omega)
 by_cases hlt:2 < W.heap.size
 ·exact hlt
 ·unfold World.cell? at h0
  rw [Array.getElem?_eq_none (by show W.heap.size ≤ 2; omega)] at h0
  simp at h0
theorem err_laid {W:World} {nm:String} {x:DataW Unit} {g:Nat} (hg:Tryz.prog.globalNamed nm = some g) (hty:(Tryz.prog.globals[g]?).map (·.type) = some 215) (hf:(laidList.filter fun x=>x.1 == nm) = [(nm,x)]) (hx:∃ nt d,x = .iface nt d) (h:laidMetH Tryz.prog laidList W) :
  ∃ te pe,W.cell? ⟨g,0,none⟩ = some (.iface te pe):=by
 obtain ⟨nt,d,rfl⟩:=hx
 obtain ⟨ps,⟨g0,t0,cs0,f0,p0,q0,hg0,ht0,hv0,hd0,_,_⟩,_,_⟩:=var_of_laid hf h
 obtain rfl:=oI (hg.symm.trans hg0)
 obtain rfl:=oI (hty.symm.trans ht0)
 obtain ⟨u,y,hcs⟩:=trodIface Tryz.underlying215 hd0
 have:=World.var?_cell hg hv0 0
 refine ⟨u,y,?_⟩
 rw [this]
 have e:cs0[0]? = cs0.toList[0]?:=by simp
 rw [e,hcs]; rfl
theorem heap8 {W:World} (h:laidMetH Tryz.prog laidList W):8 ≤ W.heap.size:=by
 obtain ⟨ps,⟨g0,t0,cs0,f0,p0,q0,hg0,ht0,hv0,hd0,_,_⟩,_,_⟩:=var_of_laid (nm:=lname 0) (d:=YtlmhhgemiknhdaaGreatDoor.Rows.laid_math_bits_deBruijn32tab) (by kernel_rfl) h
 have hg:Tryz.prog.globalNamed (lname 0) = some 7:=by kernel_rfl
 unfold World.var? at hv0
 rw [hg] at hv0
 simp only [Option.bind_some] at hv0
 split at hv0
 ·rename_i cs t f hh
  have:=(Array.getElem?_eq_some_iff.1 hh).1
  omega
 ·cases hv0
theorem laid_of {W:World} (h:laidMetH Tryz.prog laidList W):Cd.LaidE W:=
 ⟨⟨tab_laid h,heap8 h⟩,err_laid (nm:=lname 4) (x:=YtlmhhgemiknhdaaGreatDoor.Rows.laid_strconv_ErrSyntax) (by kernel_rfl) (by kernel_rfl) (by kernel_rfl) ⟨_,_,rfl⟩ h,err_laid (nm:=lname 3) (x:=YtlmhhgemiknhdaaGreatDoor.Rows.laid_strconv_ErrRange) (by kernel_rfl) (by kernel_rfl) (by kernel_rfl) ⟨_,_,rfl⟩ h⟩
theorem ba_of1 (s:ByteArray):s = ⟨s.data.toList.toArray⟩:=by cases s; rfl
theorem ba_len (s:ByteArray):s.data.toList.length = s.size:=by simp
theorem own:ownKnob Tryz.prog.godebug = none:=by kernel_rfl
theorem laidOut:laidOutB Tryz.prog = true:=by kernel_rfl
theorem door_met (os:Os) (args:Array Value):laidMetH Tryz.prog laidList ((World.doorLaid Tryz.prog 400 os).forCall (fun _ _=>0) ⟨#[],args,[]⟩).memory:=
 laidMetH_of_parts3 (fuel:=8) (laidMet_of_run' 8 (by kernel_rfl) (by kernel_rfl)) (by kernel_rfl) (by kernel_rfl)
theorem intR {n:Int} (h:(Lit.int .i64 n).wf = true):I64 n:=by
 simp only [Lit.wf,bA,dE] at h
 exact (InR_iff n).1 h
section
variable {H:Type} {enc:TypeId × Value → H} {w:World} {sp:Nat → Bool} {hd:Bool}
theorem ints_of_row {v:Value} {l:List Int} (h:∃ ad c,v = .slice ad l.length c ∧ (l = [] ∨ ∃ b o,ad = some ⟨b,o,none⟩ ∧ b < w.heap.size ∧ ∀ (i:Nat) (h:i < l.length),w.cell? ⟨b,o + i,none⟩ = some (Value.int .i64 l[i]))) (h0:∀ c,v = .slice none l.length c → l.length = 0 ∧ c = 0) (hl:l.length ≤ maxLen) (hr:∀ x ∈ l,I64 x):Ints w v l:=by
 obtain ⟨ad,c,rfl,h⟩:=h
 refine ⟨⟨ad,c,rfl,fun e=>?_,?_⟩,hr,hl⟩
 ·subst e
  exact h0 c rfl
 ·rcases h with h | ⟨b,o,rfl,hlt,hc⟩
  ·exact .inl h
  ·refine .inr ⟨b,o,rfl,hlt,fun k x hk=>?_⟩
   rw [flat_int] at hk
   obtain ⟨hk1,hk2⟩:=gS hk
   have hk1:k < l.length:=by rw [List.length_map] at hk1; exact hk1
   rw [hc k hk1,← hk2,List.getElem_map]
theorem nil_len {t:TypeId} {n m:Nat} {c:Nat} {D:DataW H × List MemPlace} (ht:Tryz.prog.underlying t = some (.slice 3)) (h:DataW.trod enc Tryz.prog w 0 sp hd n t [.slice none m c] = some D):m = 0 ∧ c = 0:=by
 rcases open_slice1 ht (by kernel_rfl) h with ⟨hcs,_⟩ | ⟨a',len,cap,m,n',V,D',Pl,hcs,_⟩
 ·simp only [List.cons.injEq,and_true,Value.slice.injEq] at hcs
  exact hcs.2
 ·simp only [List.cons.injEq,and_true,Value.slice.injEq] at hcs
  exact absurd hcs.1 (by simp)
theorem open_ints {v:Value} {n:Nat} {D:DataW H × List MemPlace} (h:DataW.trod enc Tryz.prog w 0 sp hd n 24 [v] = some D):∃ l,Ints w v l:=by
 have h':=h
 obtain ⟨l,h1,h2,h3⟩:=rowOpen (Value.int .i64) I64 Tryz.underlying24 (by kernel_rfl) (fun V n D h=>by
  obtain ⟨k,e,_,hw⟩:=DataW.trod_int Tryz.underlying3 h
  simp only [List.cons.injEq,and_true] at e
  exact ⟨k,e,intR hw⟩) h
 exact ⟨l,ints_of_row h1 (fun c e=>by subst e; exact nil_len Tryz.underlying24 h') h2 h3⟩
theorem open_list {b0:Nat} {v:Value} {d:DataW H} {ps:List MemPlace} (hval:Value.okWide Tryz.prog w .any b0 24 v) (h:DataW.Trod enc Tryz.prog w 0 sp hd 24 v d ps):∃ l,Ints w v l:=by
 obtain ⟨a,n,c,rfl⟩:=okWide_slice Tryz.underlying24 hval
 obtain ⟨fu,hf⟩:=h
 exact open_ints hf
theorem open_grp {cs:List Value} {n:Nat} {D:DataW H × List MemPlace} (h:DataW.trod enc Tryz.prog w 0 sp hd n 23 cs = some D):∃ g:Grp,cs = [.int .i64 g.P,.int .i64 g.Q,.int .i64 g.G] ∧ GrpR g:=by
 obtain ⟨hcl,hf⟩:=open_fields Tryz.underlying23 (by kernel_rfl) (by kernel_rfl) h
 obtain ⟨v0,y0,m0,c0,f0⟩:=hf 0 _ rfl
 obtain ⟨v1,y1,m1,c1,f1⟩:=hf 1 _ rfl
 obtain ⟨v2,y2,m2,c2,f2⟩:=hf 2 _ rfl
 obtain ⟨k0,e0,_,w0⟩:=DataW.trod_int Tryz.underlying3 f0
 obtain ⟨k1,e1,_,w1⟩:=DataW.trod_int Tryz.underlying3 f1
 obtain ⟨k2,e2,_,w2⟩:=DataW.trod_int Tryz.underlying3 f2
 simp only [List.cons.injEq,and_true] at e0 e1 e2
 have h6:cs.length = 3:=hcl
 refine ⟨⟨k0,k1,k2⟩,?_,⟨intR w0,intR w1,intR w2⟩⟩
 match cs,h6 with
 | [x0,x1,x2],_=>
  simp only [List.getElem?_cons_zero,List.getElem?_cons_succ,Option.some.injEq] at c0 c1 c2
  rw [c0,c1,c2,e0,e1,e2]
theorem cells_stp:Tryz.prog.cellsOf 26 = 5:=by kernel_rfl
theorem cells_grp:Tryz.prog.cellsOf 23 = 3:=by kernel_rfl
theorem cells_ints:Tryz.prog.cellsOf 24 = 1:=by kernel_rfl
theorem cells_int:Tryz.prog.cellsOf 3 = 1:=by kernel_rfl
theorem open_stp {b0:Nat} {v:Value} {d:DataW H} {ps:List MemPlace} (hT:DbT w) (hval:Value.okWide Tryz.prog w .any b0 26 v) (h:DataW.Trod enc Tryz.prog w 0 sp hd 26 v d ps):∃ s x,v = stpV s x ∧ SetR w s x:=by
 obtain ⟨cs,rfl,hs⟩:=okWide_struct Tryz.underlying26 hval
 obtain ⟨fuel,hf⟩:=h
 have hf:DataW.trod enc Tryz.prog w 0 sp hd fuel 26 cs.toList = some (d,ps):=hf
 obtain ⟨xs,m,_,_,hcl,hxl,hf⟩:=DataW.trod_struct Tryz.underlying26 hf
 rw [cells_stp] at hcl
 have hcs:cs = cs.toList.toArray:=by simp
 rw [hcs]
 clear hs hcs
 generalize cs.toList = l at *
 have hxl:xs.length = 3:=hxl
 match l,hcl,xs,hxl with
 | [x0,x1,x2,x3,x4],_,[y0,y1,y2],_=>
  have f0:DataW.trod enc Tryz.prog w 0 sp hd m 23 (([x0,x1,x2,x3,x4].drop 0).take (Tryz.prog.cellsOf 23)) = some y0:=hf 0 _ rfl
  have f1:DataW.trod enc Tryz.prog w 0 sp hd m 24 (([x0,x1,x2,x3,x4].drop 3).take (Tryz.prog.cellsOf 24)) = some y1:=hf 1 _ rfl
  have f2:DataW.trod enc Tryz.prog w 0 sp hd m 3 (([x0,x1,x2,x3,x4].drop 4).take (Tryz.prog.cellsOf 3)) = some y2:=hf 2 _ rfl
  rw [cells_grp] at f0
  rw [cells_ints] at f1
  rw [cells_int] at f2
  obtain ⟨g,eg,hg⟩:=open_grp f0
  obtain ⟨l3,h3⟩:=open_ints f1
  obtain ⟨k4,e4,_,w4⟩:=DataW.trod_int Tryz.underlying3 f2
  simp only [List.drop_zero,List.take_succ_cons,List.take_zero,List.drop_succ_cons,List.cons.injEq,and_true] at eg e4
  obtain ⟨e0,e1,e2⟩:=eg
  exact ⟨⟨g,l3,k4⟩,x3,by rw [e0,e1,e2,e4],⟨hg,h3,intR w4,hT⟩⟩
theorem open_sig {b0:Nat} {v:Value} {d:DataW H} {ps:List MemPlace} (hval:Value.okWide Tryz.prog w .any b0 74 v) (h:DataW.Trod enc Tryz.prog w 0 sp hd 74 v d ps):∃ c z,v = sigV c z ∧ I64 c ∧ I64 z:=by
 obtain ⟨cs,rfl,hs⟩:=okWide_struct Tryz.underlying74 hval
 obtain ⟨fuel,hf⟩:=h
 obtain ⟨hcl,hf⟩:=open_fields Tryz.underlying74 (by kernel_rfl) (by kernel_rfl) hf
 obtain ⟨v0,y0,m0,c0,f0⟩:=hf 0 _ rfl
 obtain ⟨v1,y1,m1,c1,f1⟩:=hf 1 _ rfl
 obtain ⟨k0,e0,_,w0⟩:=DataW.trod_int Tryz.underlying3 f0
 obtain ⟨k1,e1,_,w1⟩:=DataW.trod_int Tryz.underlying3 f1
 simp only [List.cons.injEq,and_true] at e0 e1
 refine ⟨k0,k1,?_,intR w0,intR w1⟩
 have h6:cs.toList.length = 2:=hcl
 have c0:cs.toList[0]? = some v0:=c0
 have c1:cs.toList[1]? = some v1:=c1
 have hcs:cs = cs.toList.toArray:=by simp
 rw [hcs]
 clear hs hcs
 generalize cs.toList = l at *
 match l,h6 with
 | [x0,x1],_=>
  simp only [List.getElem?_cons_zero,List.getElem?_cons_succ,Option.some.injEq] at c0 c1
  rw [c0,c1,e0,e1]
end
end Go.Proofs
namespace PrSpec
open FdSpec TkSpec CodeSpec FdPoly GrLaw
theorem itemL_take:∀ (d:List Int) (a:List (List Int)) (k:Nat) (x:Int) (y:List Int),d[k]? = some x → a[k]? = some y → itemL (d.take (k + 1)) (a.take (k + 1)) = itemL (d.take k) (a.take k) ++ (x :: (y.length:Int) :: y)
 | [],_,_,_,_,h,_=>by simp at h
 | _ :: _,[],_,_,_,_,h=>by simp at h
 | d :: ds,a :: asx,0,x,y,h,h2=>by
  simp at h h2
  subst h; subst h2
  simp [itemL]
 | d :: ds,a :: asx,k + 1,x,y,h,h2=>by
  have:=itemL_take ds asx k x y (by simpa using h) (by simpa using h2)
  simp only [List.take_succ_cons,itemL,this,List.cons_append,List.append_assoc]
theorem clauseL_take:∀ (d:List (List Int)) (a:List (List (List Int))) (k:Nat) (x:List Int) (y:List (List Int)),d[k]? = some x → a[k]? = some y → clauseL (d.take (k + 1)) (a.take (k + 1)) = clauseL (d.take k) (a.take k) ++ ((x.length:Int) :: itemL x y)
 | [],_,_,_,_,h,_=>by simp at h
 | _ :: _,[],_,_,_,_,h=>by simp at h
 | d :: ds,a :: asx,0,x,y,h,h2=>by
  simp at h h2
  subst h; subst h2
  simp [clauseL]
 | d :: ds,a :: asx,k + 1,x,y,h,h2=>by
  have:=clauseL_take ds asx k x y (by simpa using h) (by simpa using h2)
  simp only [List.take_succ_cons,clauseL,this,List.cons_append,List.append_assoc]
theorem even_iff:∀ (ds:List (List Int)) (asx:List (List (List Int))),evenL ds asx = true ↔ ds.length = asx.length ∧ ∀ (i:Nat) (d:List Int) (a:List (List Int)),ds[i]? = some d → asx[i]? = some a → d.length = a.length
 | [],[]=>by simp [evenL]
 | [],a :: asx=>by simp [evenL]
 | d :: ds,[]=>by simp [evenL]
 | d :: ds,a :: asx=>by
  have ih:=even_iff ds asx
  simp only [evenL,Bool.and_eq_true,decide_eq_true_eq,ih,List.length_cons,Nat.add_right_cancel_iff]
  constructor
  ·rintro ⟨h1,h2,h3⟩
   refine ⟨h2,fun i=>?_⟩
   cases i with
   | zero=>intro d' a' e1 e2; simp at e1 e2; subst e1; subst e2; exact h1
   | succ i=>intro d' a' e1 e2; exact h3 i d' a' (by simpa using e1) (by simpa using e2)
  ·rintro ⟨h2,h3⟩
   exact ⟨h3 0 d a (by simp) (by simp),h2,fun i d' a' e1 e2=>h3 (i + 1) d' a' (by simpa using e1) (by simpa using e2)⟩
theorem itemL_in:∀ (d:List Int) (a:List (List Int)),(∀ x ∈ d,InR x) → (∀ y ∈ a,(y.length:Int) ≤ 9223372036854775807 ∧ ∀ x ∈ y,InR x) → ∀ x ∈ itemL d a,InR x
 | [],_,_,_=>by simp [itemL]
 | _ :: _,[],_,_=>by simp [itemL]
 | d :: ds,a :: asx,h1,h2=>by
  intro x hx
  simp only [itemL,List.mem_cons,List.mem_append] at hx
  have h3:=h2 a (by simp)
  rcases hx with rfl | rfl | hx | hx
  ·exact h1 _ (by simp)
  ·unfold InR; omega
  ·exact h3.2 x hx
  ·exact itemL_in ds asx (fun x hx=>h1 x (by simp [hx])) (fun y hy=>h2 y (by simp [hy])) x hx
theorem clauseL_in:∀ (d:List (List Int)) (a:List (List (List Int))),(∀ y ∈ d,(y.length:Int) ≤ 9223372036854775807 ∧ ∀ x ∈ y,InR x) → (∀ z ∈ a,∀ y ∈ z,(y.length:Int) ≤ 9223372036854775807 ∧ ∀ x ∈ y,InR x) → ∀ x ∈ clauseL d a,InR x
 | [],_,_,_=>by simp [clauseL]
 | _ :: _,[],_,_=>by simp [clauseL]
 | d :: ds,a :: asx,h1,h2=>by
  intro x hx
  simp only [clauseL,List.mem_cons,List.mem_append] at hx
  have h3:=h1 d (by simp)
  rcases hx with rfl | hx | hx
  ·unfold InR; omega
  ·exact itemL_in d a h3.2 (fun y hy=>h2 a (by simp) y hy) x hx
  ·exact clauseL_in ds asx (fun y hy=>h1 y (by simp [hy])) (fun z hz=>h2 z (by simp [hz])) x hx
end PrSpec
namespace PrSpec
open FdSpec TkSpec CodeSpec FdPoly GrLaw
theorem itemL_le {N:Nat}:∀ (d:List Int) (a:List (List Int)),(∀ y ∈ a,y.length ≤ N) → (itemL d a).length ≤ (N + 2) * d.length
 | [],_,_=>by simp [itemL]
 | _ :: _,[],_=>by simp [itemL]
 | d :: ds,a :: asx,h=>by
  have ih:=itemL_le ds asx (fun y hy=>h y (by simp [hy]))
  have h1:=h a (by simp)
  simp only [itemL,List.length_cons,List.length_append,Nat.mul_add,Nat.mul_one]
  omega
theorem clauseL_le {N:Nat}:∀ (d:List (List Int)) (a:List (List (List Int))),(∀ y ∈ d,y.length ≤ N) → (∀ z ∈ a,∀ y ∈ z,y.length ≤ N) → (clauseL d a).length ≤ ((N + 2) * N + 1) * d.length
 | [],_,_,_=>by simp [clauseL]
 | _ :: _,[],_,_=>by simp [clauseL]
 | d :: ds,a :: asx,h,h2=>by
  have ih:=clauseL_le ds asx (fun y hy=>h y (by simp [hy])) (fun z hz=>h2 z (by simp [hz]))
  have h1:=itemL_le d a (h2 a (by simp))
  have h3:=h d (by simp)
  have h4:(N + 2) * d.length ≤ (N + 2) * N:=Nat.mul_le_mul_left _ h3
  simp only [clauseL,List.length_cons,List.length_append,Nat.mul_add,Nat.mul_one]
  simp only [Nat.add_mul,Nat.mul_add,Nat.one_mul,Nat.mul_one] at *
  omega
structure SmallP (N:Nat) (ds:List (List Int)) (asx:List (List (List Int))):Prop where
 n:ds.length ≤ N
 d:∀ y ∈ ds,y.length ≤ N
 a:∀ z ∈ asx,∀ y ∈ z,y.length ≤ N
theorem clauseL_small {ds:List (List Int)} {asx:List (List (List Int))} (h:SmallP 1000 ds asx) (i:Nat):(clauseL (ds.take i) (asx.take i)).length ≤ 1002001000:=by
 have:=clauseL_le (N:=1000) (ds.take i) (asx.take i) (fun y hy=>h.d y (List.mem_of_mem_take hy)) (fun z hz=>h.a z (List.mem_of_mem_take hz))
 have h2:(ds.take i).length ≤ 1000:=by rw [List.length_take]; have:=h.n; omega
 have h3:((1000 + 2) * 1000 + 1) * (ds.take i).length ≤ ((1000 + 2) * 1000 + 1) * 1000:=Nat.mul_le_mul_left _ h2
 omega
end PrSpec
namespace Go.Proofs
open Go Go.Sh Go.RowKit FdSpec TkSpec CodeSpec PrSpec
section
variable {K:VK} {w w' w0 W:World} {L:List (Addr × Value)}
theorem _root_.Go.Proofs.SRow.one {α:Type} {R:World → Value → α → Prop} {ad:Option Addr} {m c:Nat} {l:List α} (h:SRow 1 (AtOf 1 (VOne R)) w (.slice ad m c) l) {i:Nat} (hi:i < l.length):∃ b o v,ad = some ⟨b,o,none⟩ ∧ b < w.heap.size ∧ w.cell? ⟨b,o + i,none⟩ = some v ∧ R w v l[i]:=by
 obtain ⟨b,o,rfl,hlt,cs,hc,h1,v,rfl,h2⟩:=h.at hi
 refine ⟨b,o,v,rfl,hlt,?_,h2⟩
 have:=h1 0 v rfl
 rwa [Nat.mul_one,Nat.add_zero] at this
theorem appendNg {B:Nat} {T:TypeId} {v xv:Value} {l m:List Int} (ho:OwnI w B v l) (hB:B ≤ w.heap.size) (hx:Ints w xv m) (hl:l.length + m.length < 1099511627776)
  (k:∀ v' w',OwnI w' B v' (l ++ m) → w.grownBy w' v.ownBlock → (∀ i,v'.ownBlock = some i → v.ownBlock = some i ∨ w.heap.size ≤ i) → K v' w'):oM Tryz.prog (.call { callee:=.builtin .append,args:=#[.tmp 0,.tmp 1],argTypes:=#[24,24] }) T [v,xv] K w:=by
 obtain ⟨⟨ad,c,rfl,h0,hc⟩,hr,_⟩:=hx
 have hfl:(flat intC m).length = m.length:=by rw [flat_int]; simp
 refine append_at 24 T 3 ((Tryz.prog.info? 3).getD default) (.int .i64 0) 1 8 (by kernel_rfl) (by kernel_rfl) (by kernel_rfl) (by kernel_rfl) (by kernel_rfl) (by kernel_rfl) (by omega) (owns_base ho (Nat.zero_le _)) (flat intC m) (by rw [hfl]; omega) h0 ?_ ?_ (by simp only [maxLen]; omega) (by omega) ?_
 ·rintro a ha j u hj
  rcases hc with hc | ⟨b,o,e,hlt,hcell⟩
  ·subst hc; simp [flat] at hj
  ·rw [e] at ha
   cases ha
   rw [add_none]
   exact hcell j u hj
 ·intro u hu
  rw [flat_int] at hu
  obtain ⟨n,_,rfl⟩:=List.mem_map.1 hu
  rfl
 ·intro v' w' ho' hg hv
  refine k v' w' ?_ hg hv
  show w'.ownsRow B 3 1 v' (l ++ m).length (flat intC (l ++ m))
  rw [List.length_append,flat_append]
  exact owns_up ho' (fun i hi=>(hv i hi).elim (fun h=>(owns_own ho h).2.1) (fun h=>Nat.le_trans hB h))
theorem mk1o {T:TypeId} (x:Int) (k:∀ v W,Bw w W → OwnI W w.heap.size v [x] → K v W):oM Tryz.prog (.buildSlice 24 1 #[(0,.tmp 0)]) T [.int .i64 x] K w:=by
 rw [oM_buildSlice1]
 have e:(Instr.buildSlice 24 1 #[(0,.int .i64 x)]).run Tryz.prog w = .ok (.slice (some ⟨w.heap.size,0,none⟩) 1 1) (w.alloc (.cells #[.int .i64 x] 3)):=by kernel_rfl
 rw [e]
 exact k _ _ ((Below.refl _ w).alloc (rL) _) (World.ownsRow_lit w #[.int .i64 x] 1 (rL) (by decide) rfl)
@[go_sem] theorem idx_lists (T:TypeId) (b o n c:Nat) (x:Int):oM Tryz.prog (.indexAddr 30 (.tmp 0) (.tmp 1)) T [.slice (some ⟨b,o,none⟩) n c,.int .i64 x] = onM (0 ≤ x ∧ x < n) (.pointer (some ⟨b,o + x.toNat,none⟩)):=by
 have:=idx_row (K:=fun _ _=>True) (P:=Tryz.prog) (n:=1) 30 T (by kernel_rfl) (fun w=>by kernel_rfl) b o n c x
 rwa [Nat.mul_one] at this
@[go_sem] theorem idx_nums (T:TypeId) (b o n c:Nat) (x:Int):oM Tryz.prog (.indexAddr 29 (.tmp 0) (.tmp 1)) T [.slice (some ⟨b,o,none⟩) n c,.int .i64 x] = onM (0 ≤ x ∧ x < n) (.pointer (some ⟨b,o + x.toNat,none⟩)):=by
 have:=idx_row (K:=fun _ _=>True) (P:=Tryz.prog) (n:=1) 29 T (by kernel_rfl) (fun w=>by kernel_rfl) b o n c x
 rwa [Nat.mul_one] at this
@[reducible] def prfC (dv av:Value):List Value:=[dv,av]
@[reducible] def prfV (dv av:Value):Value:=.agg #[dv,av]
theorem encNums_le {l:List Int} (h:∀ x ∈ l,InR x) (hl:l.length ≤ 10000000000):(encList (l.map encInt)).length ≤ 22 * l.length + 30:=by
 have h3:(Lib.itoa (l.length:Int)).length ≤ 20:=itoa_len _ (by unfold InR; omega)
 have h4:∀ l:List Int,(∀ x ∈ l,InR x) → ((l.map encInt).flatten).length ≤ 22 * l.length:=by
  intro l
  induction l with
  | nil=>simp
  | cons a l ih=>
   intro h
   have h1:=Cd.encInt_len a (h a (by simp))
   have h2:=ih (fun x hx=>h x (by simp [hx]))
   simp only [List.map_cons,List.flatten_cons,List.length_append,List.length_cons]
   omega
 have h5:=h4 l h
 simp only [encList,List.length_append,List.length_cons,List.length_nil,List.length_map] at *
 omega
def EnJ (ds:L2) (ls:L3) (w0:World) (vs:List Value) (w':World):Prop:=Bw w0 w' ∧ ∃ (u1 u2 ov u5 u6:Value) (i:Nat),vs = [u1,u2,.string ⟨#[]⟩,.bool false,ov,u5,u6,.int .i64 (i:Int)] ∧ i ≤ ds.length ∧
 OwnI w' w0.heap.size ov ((ds.length:Int) :: clauseL (ds.take i) (ls.take i)) ∧ ∀ (j:Nat) (d:List Int) (a:L2),j < i → ds[j]? = some d → ls[j]? = some a → d.length = a.length
def EiJ (w0 w1:World) (pre:List Int) (d:List Int) (a:L2) (vs:List Value) (w':World):Prop:=Bw w0 w' ∧ ∃ (u1 u2 ov:Value) (k:Nat),vs = [u1,u2,ov,.int .i64 (k:Int)] ∧ k ≤ d.length ∧ OwnI w' w0.heap.size ov (pre ++ itemL (d.take k) (a.take k))
theorem Encode_ok (ds:L2) (ls:L3) {dv av:Value} (hd:ListsR w dv ds) (ha:NumsR w av ls) (hl:Cd.Laid w) (hsm:SmallP 1000 ds ls)
  (k:∀ w',Bw w w' → K (.tuple #[.string ⟨(encodeM ds ls).1.toArray⟩,.bool (encodeM ds ls).2]) w'):callM Tryz.prog 51 #[prfV dv av] K w:=by
 apply sh_51_ok
 unfold sh_51
 have hd':=hd
 have ha':=ha
 obtain ⟨dad,dc,rfl⟩:=hd.isSlice
 obtain ⟨aad,ac,rfl⟩:=ha.isSlice
 refine box_kn (cs:=prfC (.slice dad ds.length dc) (.slice aad ls.length ac)) rfl (.start w) fun b1 W hk hb1 hbb=>?_
 clear hb1 hbb
 have no:evenL ds ls = false → ∀ w',Bw w w' → K (.tuple #[.string ⟨#[]⟩,.bool false]) w':=fun e w' hb=>by
  have:=k w' hb
  unfold encodeM at this
  rw [e] at this
  exact this
 by_cases hln:¬ ds.length = ls.length
 ·have hln':¬ (ds.length:Int) = ls.length:=by omega
  refine Xa (An2 hk.cells @hln') ?_
  refine no ?_ _ hk.below
  cases e:evenL ds ls with
  | false=>rfl
  | true=>exact absurd ((even_iff ds ls).1 e).1 hln
 have hln:ds.length = ls.length:=by omega
 have hln':(ds.length:Int) = ls.length:=by omega
 refine Xb11 (An2 hk.cells @hln') ?_
 refine mk1o _ (fun v1 w1 h1 ho1=>?_)
 have hk0:=hk
 have hk:=hk.next h1
 refine Xa hk.cells ?_
 refine ⟨EnJ ds ls W,(fun vs _=>match vs with | [_,_,_,_,_,_,_,.int _ i]=>ds.length - i.toNat | _=>0),⟨h1,_,_,_,_,_,0,rfl,by omega,by simpa [clauseL,hln] using ho1,fun j d a hj=>by omega⟩,?_⟩
 rintro _ _ w3 ⟨hb3,u1,u2,ov,u5,u6,i,rfl,hi,ho,hev⟩
 have hWs:=hb3.size
 have hdlen:=hd'.len
 have hcl:=clauseL_small hsm i
 have hk:=hk0.next hb3
 by_cases hin:i = ds.length
 ·have hall:evenL ds ls = true:=(even_iff ds ls).2 ⟨hln,fun j d a e1 e2=>hev j d a (by rw [hin]; exact (gS e1).1) e1 e2⟩
  rw [List.take_of_length_le (by omega),List.take_of_length_le (by omega)] at ho
  have hinr:∀ x ∈ (ds.length:Int) :: clauseL ds ls,InR x:=by
   intro x hx
   rcases List.mem_cons.1 hx with rfl | hx
   ·unfold InR; omega
   ·refine clauseL_in ds ls (fun y hy=>?_) (fun z hz y hy=>?_) x hx
    ·obtain ⟨j,hj,rfl⟩:=List.getElem_of_mem hy
     obtain ⟨_,_,_,_,_,_,h⟩:=hd'.one (i:=j) hj
     exact ⟨by have:=h.len; omega,fun x hx=>(InR_iff x).2 (h.rng x hx)⟩
    ·obtain ⟨j,hj,rfl⟩:=List.getElem_of_mem hz
     obtain ⟨_,_,v,_,_,_,h⟩:=ha'.one (i:=j) hj
     obtain ⟨j2,hj2,rfl⟩:=List.getElem_of_mem hy
     obtain ⟨ad,c,rfl⟩:=h.isSlice
     obtain ⟨_,_,_,_,_,_,h⟩:=h.one (i:=j2) hj2
     exact ⟨by have:=h.len; omega,fun x hx=>(InR_iff x).2 (h.rng x hx)⟩
  have hcl2:(clauseL ds ls).length ≤ 1002001000:=by
   have:=clauseL_small hsm ds.length
   rwa [List.take_of_length_le (by omega),List.take_of_length_le (by omega)] at this
  have hle:=encNums_le hinr (by rw [List.length_cons]; omega)
  refine Xa hk.cells ?_
  refine Cd.pNums_ok _ _ (hl.below hk.below hl.size) (Ints.rowOf (ho.ints (fun x hx=>(InR_iff x).1 (hinr x hx)) (by rw [List.length_cons]; omega))) hinr (by rw [List.length_cons] at hle; omega) (fun w4 h4=>?_)
  refine Xa0 ?_
  have:=k _ (hk.next h4).below
  unfold encodeM at this
  rw [hall,if_pos rfl] at this
  exact this
 obtain ⟨b5,o5,v5,rfl,hb5,c5,i5⟩:=hd'.one (i:=i) (by omega)
 obtain ⟨b6,o6,v6,rfl,hb6,c6,i6⟩:=ha'.one (i:=i) (by omega)
 have e5:ds[i]? = some ds[i]:=gE (by omega)
 have e6:ls[i]? = some ls[i]:=gE (by omega)
 have m5:ds[i] ∈ ds:=List.getElem_mem _
 have m6:ls[i] ∈ ls:=List.getElem_mem _
 have hstep:=clauseL_take ds ls i _ _ e5 e6
 generalize ds[i] = d at *
 generalize ls[i] = a at *
 obtain ⟨ad5,cp5,rfl⟩:=i5.isSlice
 obtain ⟨ad6,cp6,rfl⟩:=i6.isSlice
 by_cases hda:¬ d.length = a.length
 ·have hda':¬ (d.length:Int) = a.length:=by omega
  refine Xa (An4 hk.cells ((hk.below.cell hb5).trans c5) ((hk.below.cell hb6).trans c6) @hda') ?_
  refine no ?_ _ hk.below
  cases e:evenL ds ls with
  | false=>rfl
  | true=>exact absurd (((even_iff ds ls).1 e).2 i d a e5 e6) hda
 have hda:d.length = a.length:=by omega
 have hda':(d.length:Int) = a.length:=by omega
 refine Xb13 (An4 hk.cells ((hk.below.cell hb5).trans c5) ((hk.below.cell hb6).trans c6) @hda') ?_
 refine mk1g _ (by have:=i5.len; unfold I64; omega) (fun v7 w7 h7 hi7 _=>?_)
 have hb7:=hb3.on h7
 refine append1g (ho.keep h7) hb7.size hi7 (by rw [List.length_cons]; omega) (fun v8 w8 ho8 hg8 hv8=>?_)
 have hoo:=fun j hj=>owns_own (i:=j) (ho.keep h7) hj
 have hb8:=hb7.grown hg8 hb7.size (fun j hj=>(hoo j hj).2.1)
 rw [← hda] at ho8
 refine Xb1_0 ?_
 have hil:=itemL_le (N:=1000) d a (hsm.a a m6)
 have hdl:=hsm.d d m5
 have hil2:(1000 + 2) * d.length ≤ (1000 + 2) * 1000:=Nat.mul_le_mul_left _ hdl
 refine ⟨EiJ W w8 (((ds.length:Int) :: clauseL (ds.take i) (ls.take i)) ++ [(d.length:Int)]) d a,(fun vs _=>match vs with | [_,_,_,.int _ i]=>d.length - i.toNat | _=>0),⟨hb8,_,_,_,0,rfl,by omega,by simpa [itemL] using ho8⟩,?_⟩
 rintro _ _ w9 ⟨hb9,u8,u9,ov,j,rfl,hj,ho⟩
 have hk:=hk0.next hb9
 by_cases hjn:j = d.length
 ·rw [List.take_of_length_le (l:=d) (by omega),List.take_of_length_le (l:=a) (by omega)] at ho
  refine Xa0 ?_
  refine ⟨⟨hb9,_,_,_,_,_,i + 1,rfl,by omega,?_,?_⟩,by show ds.length - (((i + 1:Nat):Int)).toNat < ds.length - ((i:Nat):Int).toNat; omega⟩
  ·rw [hstep]
   simpa using ho
  ·intro j' d' a' hj' e1 e2
   by_cases h:j' = i
   ·subst h
    rw [e5] at e1; rw [e6] at e2
    cases e1; cases e2
    exact hda
   ·exact hev j' d' a' (by omega) e1 e2
 obtain ⟨b10,o10,rfl,hb10,c10,r10,_⟩:=i5.at (i:=j) (by omega)
 obtain ⟨b11,o11,v11,rfl,hb11,c11,i11⟩:=i6.one (i:=j) (by omega)
 have e10:d[j]? = some d[j]:=gE (by omega)
 have e11:a[j]? = some a[j]:=gE (by omega)
 have m11:a[j] ∈ a:=List.getElem_mem _
 have hin2:=itemL_take d a j _ _ e10 e11
 have hyl:=hsm.a a m6 _ m11
 have hil3:=itemL_le (N:=1000) (d.take j) (a.take j) (fun y hy=>hsm.a a m6 y (List.mem_of_mem_take hy))
 have hil4:(1000 + 2) * (d.take j).length ≤ (1000 + 2) * 1000:=Nat.mul_le_mul_left _ (by rw [List.length_take]; omega)
 generalize d[j] = x at *
 generalize a[j] = y at *
 obtain ⟨ad11,cp11,rfl⟩:=i11.isSlice
 have hal:a.length ≤ 9223372036854775807:=by omega
 have hjl:(j:Int) < a.length:=by omega
 have hil0:(i:Int) < ls.length:=by omega
 refine Xa (c10 _ hk.below) ?_
 have hk10:=hk.drew
 have hb10':Below W.heap.size W { w9 with drawn:=w9.drawn + 1 }:=hb9.on .drawn
 have ho10:=ho.keep (.drawn (w:=w9) (B:=w9.heap.size))
 refine ⟨fun w'=>Bw W w',hb10',?_⟩
 generalize ({ w9 with drawn:=w9.drawn + 1 }:World) = W9 at hk10 hb10' ho10 ⊢
 have ylI:I64 (y.length:Int):=by have:=i11.len; unfold I64; omega
 repeat (any_goals (first
 | ((with_reducible refine mk2 x (y.length:Int) r10 ylI ?_); intro v12 w12 h12 hi12)
 | (with_reducible refine pX ?_)
 | ((with_reducible refine idOH ?_); (with_reducible refine oH_of ⟨_,rfl⟩ (fun W0 hW0=>by (refine oG (fun X Y=>?_)); simp [go_sem,(hk0.next hW0).cells,((hk0.next hW0).below.cell hb6).trans c6,((hk0.next hW0).below.cell hb11).trans c11]; (first | exact Y _ _ ⟨rfl,rfl⟩ | exact ⟨by omega,Y _ _ ⟨rfl,rfl⟩⟩)) ?_))))
 have hb12:=hb10'.on h12
 refine ⟨hb12,?_⟩
 have hpl:(((ds.length:Int) :: clauseL (ds.take i) (ls.take i)) ++ [(d.length:Int)] ++ itemL (d.take j) (a.take j)).length ≤ 1003003003:=by
  rw [List.length_append,List.length_append,List.length_cons,List.length_singleton]; omega
 have ho12:=ho10.keep h12
 refine appendNg ho12 hb12.size hi12 (by simp only [List.length_cons,List.length_nil] at hpl ⊢; omega) (fun v13 w13 ho13 hg13 hv13=>?_)
 have hb13:=hb12.grown hg13 hb12.size (fun j hj=>(owns_own ho12 hj).2.1)
 refine ⟨hb13,?_⟩
 refine appendNg ho13 hb13.size (i11.next (hk0.next hb13).below) (by rw [List.length_append]; simp only [List.length_cons,List.length_nil] at hpl ⊢; omega) (fun v14 w14 ho14 hg14 hv14=>?_)
 have hb14:=hb13.grown hg14 hb13.size (fun j hj=>(owns_own ho13 hj).2.1)
 refine ⟨hb14,hb14,?_⟩
 refine Xa0 ?_
 refine ⟨⟨hb14,_,_,_,j + 1,rfl,by omega,?_⟩,by show d.length - (((j + 1:Nat):Int)).toNat < d.length - ((j:Nat):Int).toNat; omega⟩
 rw [hin2]
 simpa using ho14
end
end Go.Proofs
namespace Go.Proofs
open Go Go.Sh Go.RowKit Go.Lib CodeSpec TkSpec FdSpec PrSpec Go.ChangeShapes Go.WideShapes Go.ChangeAt Go.Deep
section
variable {H:Type} {enc:TypeId × Value → H} {w:World} {sp:Nat → Bool} {hd:Bool}
theorem rowsOpen {P:Program} {α:Type} {n:Nat} {At:World → Nat → Nat → α → Prop} {t e:TypeId} {v:Value} {m0:Nat} {D:DataW H × List MemPlace} (ht:P.underlying t = some (.slice e)) (hC:P.cellsOf e = n) (hn:0 < n)
  (hrd:∀ (cs:List Value) (b p m:Nat) (D:DataW H × List MemPlace),cs.length = n → (∀ (j:Nat) (u:Value),cs[j]? = some u → w.cell? ⟨b,p + j,none⟩ = some u) → DataW.trod enc P w 0 sp hd m e cs = some D → ∃ x,At w b p x)
  (h:DataW.trod enc P w 0 sp hd m0 t [v] = some D):∃ l:List α,SRow n At w v l:=by
 rcases open_slice ht h with ⟨hcs,_⟩ | ⟨a',len,cap,m,n',D',Pl,hcs,_,hl,hm,hmm,_,hi⟩
 ·simp only [List.cons.injEq,and_true] at hcs
  subst hcs
  exact ⟨[],⟨none,0,rfl,.inl rfl⟩,by simp⟩
 ·simp only [List.cons.injEq,and_true] at hcs
  subst hcs
  subst hC
  have hml:len ≤ m:=by rw [hmm]; split <;> omega
  by_cases h0:len = 0
  ·subst h0
   exact ⟨[],⟨some a',cap,rfl,.inl rfl⟩,by simp⟩
  obtain ⟨cs0,hc0,_⟩:=hi 0 (by omega)
  obtain ⟨_,hl0,h00⟩:=World.cells?_some hc0
  have h00:=h00 0 hn
  rw [Nat.zero_mul] at h00
  have e0:(a'.add 0).add 0 = a':=by simp [Addr.add]
  rw [e0,gE (by omega)] at h00
  obtain ⟨hb,hs⟩:=cell_lt h00
  obtain ⟨b,o,s⟩:=a'
  simp only at hs hb
  subst hs
  have key:∀ i:Fin len,∃ x,At w b (o + i * P.cellsOf e) x:=fun i=>by
   obtain ⟨cs,hc,ht2⟩:=hi i (by have:=i.2; omega)
   obtain ⟨_,hcl,hat⟩:=World.cells?_some hc
   refine hrd cs b (o + i * P.cellsOf e) _ _ hcl (fun j u hj=>?_) ht2
   have hjl:=(gS hj).1
   have:=hat j (by omega)
   rw [addr_add',addr_add'] at this
   rw [this,hj]
  refine ⟨List.ofFn (fun i=>(key i).choose),⟨some ⟨b,o,none⟩,cap,by rw [List.length_ofFn],.inr ⟨b,o,rfl,hb,fun i hil=>?_⟩⟩,by rw [List.length_ofFn]; simp only [maxLen] at hm; omega⟩
  rw [List.length_ofFn] at hil
  rw [List.getElem_ofFn]
  exact (key ⟨i,hil⟩).choose_spec
theorem open_lists {v:Value} {n:Nat} {D:DataW H × List MemPlace} (h:DataW.trod enc Tryz.prog w 0 sp hd n 30 [v] = some D):∃ l,ListsR w v l:=
 rowsOpen Tryz.underlying30 (by kernel_rfl) (by decide) (fun cs b p m D hl hc ht=>by
  match cs,hl with
  | [u],_=>
   obtain ⟨l,hl⟩:=open_ints ht
   exact ⟨l,[u],rfl,hc,u,rfl,hl⟩) h
theorem open_nums {v:Value} {n:Nat} {D:DataW H × List MemPlace} (h:DataW.trod enc Tryz.prog w 0 sp hd n 29 [v] = some D):∃ l,NumsR w v l:=
 rowsOpen Tryz.underlying29 (by kernel_rfl) (by decide) (fun cs b p m D hl hc ht=>by
  match cs,hl with
  | [u],_=>
   obtain ⟨l,hl⟩:=open_lists ht
   exact ⟨l,[u],rfl,hc,u,rfl,hl⟩) h
theorem open_prf {b0:Nat} {v:Value} {d:DataW H} {ps:List MemPlace} (hval:Value.okWide Tryz.prog w .any b0 34 v) (h:DataW.Trod enc Tryz.prog w 0 sp hd 34 v d ps):∃ dv av ds al,v = prfV dv av ∧ ListsR w dv ds ∧ NumsR w av al:=by
 obtain ⟨cs,rfl,hs⟩:=okWide_struct Tryz.underlying34 hval
 obtain ⟨fuel,hf⟩:=h
 obtain ⟨hcl,hf⟩:=open_fields Tryz.underlying34 (by kernel_rfl) (by kernel_rfl) hf
 obtain ⟨v0,y0,m0,c0,f0⟩:=hf 0 _ rfl
 obtain ⟨v1,y1,m1,c1,f1⟩:=hf 1 _ rfl
 obtain ⟨ds,hd⟩:=open_lists f0
 obtain ⟨al,ha⟩:=open_nums f1
 refine ⟨v0,v1,ds,al,?_,hd,ha⟩
 have h6:cs.toList.length = 2:=hcl
 have c0:cs.toList[0]? = some v0:=c0
 have c1:cs.toList[1]? = some v1:=c1
 have hcs:cs = cs.toList.toArray:=by simp
 rw [hcs]
 clear hs hcs
 generalize cs.toList = l at *
 match l,h6 with
 | [x0,x1],_=>
  simp only [List.getElem?_cons_zero,List.getElem?_cons_succ,Option.some.injEq] at c0 c1
  rw [c0,c1]
theorem open_trms {v:Value} {n:Nat} {D:DataW H × List MemPlace} (h:DataW.trod enc Tryz.prog w 0 sp hd n 142 [v] = some D):∃ l,SRow 2 TrmAt w v l:=
 rowsOpen Tryz.underlying142 (by kernel_rfl) (by decide) (fun cs b p m D hl hc ht=>by
  match cs,hl with
  | [x0,x1],_=>
   obtain ⟨_,hf⟩:=open_fields Tryz.underlying146 (by kernel_rfl) (by kernel_rfl) ht
   obtain ⟨v0,y0,m0,c0,f0⟩:=hf 0 _ rfl
   obtain ⟨v1,y1,m1,c1,f1⟩:=hf 1 _ rfl
   obtain ⟨k0,e0,_,w0⟩:=DataW.trod_int Tryz.underlying3 f0
   obtain ⟨k1,e1,_,w1⟩:=DataW.trod_int Tryz.underlying3 f1
   simp only [List.cons.injEq,and_true] at e0 e1
   simp only [List.getElem?_cons_zero,List.getElem?_cons_succ,Option.some.injEq] at c0 c1
   subst c0; subst c1; subst e0; subst e1
   exact ⟨⟨k0,k1⟩,hc 0 _ rfl,hc 1 _ rfl,intR w0,intR w1⟩) h
theorem open_eqns {v:Value} {n:Nat} {D:DataW H × List MemPlace} (h:DataW.trod enc Tryz.prog w 0 sp hd n 67 [v] = some D):∃ l,SRow 2 EqnAt w v l:=
 rowsOpen Tryz.underlying67 (by kernel_rfl) (by decide) (fun cs b p m D hl hc ht=>by
  match cs,hl with
  | [x0,x1],_=>
   obtain ⟨_,hf⟩:=open_fields Tryz.underlying144 (by kernel_rfl) (by kernel_rfl) ht
   obtain ⟨v0,y0,m0,c0,f0⟩:=hf 0 _ rfl
   obtain ⟨v1,y1,m1,c1,f1⟩:=hf 1 _ rfl
   obtain ⟨k0,e0,_,w0⟩:=DataW.trod_int Tryz.underlying3 f0
   obtain ⟨l1,h1⟩:=open_trms f1
   simp only [List.cons.injEq,and_true] at e0
   simp only [List.getElem?_cons_zero,List.getElem?_cons_succ,Option.some.injEq] at c0 c1
   subst c0; subst c1; subst e0
   exact ⟨⟨k0,l1⟩,x1,hc 0 _ rfl,hc 1 _ rfl,h1,intR w0⟩) h
end
end Go.Proofs
namespace Go.Proofs
open Go Go.Sh Go.RowKit FdSpec TkSpec CodeSpec PrSpec
section
variable {K:VK} {w w' w0 W:World} {L:List (Addr × Value)}
abbrev ListG (B:Nat) (D:Nat → Prop) (w:World) (v:Value) (l:L2):Prop:=GRow 1 24 (VOne Ints) B D w v l
abbrev NumG (B:Nat) (D:Nat → Prop) (w:World) (v:Value) (l:L3):Prop:=GRow 1 30 (VOne ListsR) B D w v l
theorem lit_ints {T:TypeId} (ad:Option Addr) (n c:Nat) (k:∀ g W,Bw w W → w.heap.size ≤ g → Holds W g 24 [.slice ad n c] → K (.slice (some ⟨g,0,none⟩) 1 1) W):oM Tryz.prog (.buildSlice 30 1 #[(0,.tmp 0)]) T [.slice ad n c] K w:=by
 rw [oM_buildSlice1]; exact lit_run (by kernel_rfl) k
theorem lit_lists {T:TypeId} (ad:Option Addr) (n c:Nat) (k:∀ g W,Bw w W → w.heap.size ≤ g → Holds W g 30 [.slice ad n c] → K (.slice (some ⟨g,0,none⟩) 1 1) W):oM Tryz.prog (.buildSlice 29 1 #[(0,.tmp 0)]) T [.slice ad n c] K w:=by
 rw [oM_buildSlice1]; exact lit_run (by kernel_rfl) k
theorem ints_append {B g c n:Nat} {D:Nat → Prop} {v:Value} {l:L2} {x:List Int} {T:TypeId} (h:ListG B D w v l) (hB:B ≤ w.heap.size) {b:Nat} {ad:Option Addr} (hh:Holds w b 24 [.slice ad n c])
  (hx:FP D w (fun w=>Ints w (.slice ad n c) x)) (hD:Off D w v) (hl:l.length < 1099511627776)
  (k:∀ v' w',ListG B D w' v' (l ++ [x]) → w.grownBy w' v.ownBlock → (∀ i,v'.ownBlock = some i → v.ownBlock = some i ∨ w.heap.size ≤ i) → Off D w' v' → K v' w') :
  oM Tryz.prog (.call { callee:=.builtin .append,args:=#[.tmp 0,.tmp 1],argTypes:=#[30,30] }) T [v,.slice (some ⟨b,0,none⟩) 1 g] K w:=by
 refine grow_append 30 T ((Tryz.prog.info? 24).getD default) (.slice none 0 0) 24 (by kernel_rfl) (by kernel_rfl) (by kernel_rfl) (by kernel_rfl) (by kernel_rfl) (by kernel_rfl) (by decide) (by decide)
  h hB (xs:=[.slice ad n c]) rfl ?_ (row_one _ _ _) (hx.imp fun w h=>⟨_,rfl,h⟩) hD hl k
 intro j u hj
 rw [cell_of_block hh]
 simpa using hj
theorem lists_append {B g c n:Nat} {D:Nat → Prop} {v:Value} {l:L3} {x:L2} {T:TypeId} (h:NumG B D w v l) (hB:B ≤ w.heap.size) {b:Nat} {ad:Option Addr} (hh:Holds w b 30 [.slice ad n c])
  (hx:FP D w (fun w=>ListsR w (.slice ad n c) x)) (hD:Off D w v) (hl:l.length < 1099511627776)
  (k:∀ v' w',NumG B D w' v' (l ++ [x]) → w.grownBy w' v.ownBlock → (∀ i,v'.ownBlock = some i → v.ownBlock = some i ∨ w.heap.size ≤ i) → Off D w' v' → K v' w') :
  oM Tryz.prog (.call { callee:=.builtin .append,args:=#[.tmp 0,.tmp 1],argTypes:=#[29,29] }) T [v,.slice (some ⟨b,0,none⟩) 1 g] K w:=by
 refine grow_append 29 T ((Tryz.prog.info? 30).getD default) (.slice none 0 0) 24 (by kernel_rfl) (by kernel_rfl) (by kernel_rfl) (by kernel_rfl) (by kernel_rfl) (by kernel_rfl) (by decide) (by decide)
  h hB (xs:=[.slice ad n c]) rfl ?_ (row_one _ _ _) (hx.imp fun w h=>⟨_,rfl,h⟩) hD hl k
 intro j u hj
 rw [cell_of_block hh]
 simpa using hj
structure Duo (B:Nat) (D:Nat → Prop) (W:World) (v0 u0:Value) (w:World) (v u:Value) (l:L2) (m:L3):Prop where
 fr:Fr (fun i=>v0.ownBlock = some i ∨ u0.ownBlock = some i) W w
 a:ListG B D w v l
 b:NumG B D w u m
 oa:Off D w v
 ob:Off D w u
 ap:apart v u
 la:∀ i,v.ownBlock = some i → v0.ownBlock = some i ∨ W.heap.size ≤ i
 lb:∀ i,u.ownBlock = some i → u0.ownBlock = some i ∨ W.heap.size ≤ i
 B:B ≤ W.heap.size
theorem Duo.start {B:Nat} {D:Nat → Prop} {v u:Value} {l:L2} {m:L3} (a:ListG B D w v l) (b:NumG B D w u m) (oa:Off D w v) (ob:Off D w u) (ap:apart v u) (hB:B ≤ w.heap.size):Duo B D w v u w v u l m:=
 ⟨Fr.refl _ _,a,b,oa,ob,ap,fun _ h=>.inl h,fun _ h=>.inl h,hB⟩
section
variable {B:Nat} {D:Nat → Prop} {v0 u0 v u:Value} {l:L2} {m:L3}
theorem Duo.next (h:Duo B D W v0 u0 w v u l m) (hb:Bw w w'):Duo B D W v0 u0 w' v u l m:=
 ⟨h.fr.trans (S':=fun _=>False) (Fr.of_below hb) (fun _ h=>h.elim),h.a.next hb (fun i hi=>(h.oa i hi).1),h.b.next hb (fun i hi=>(h.oa i hi).1),h.oa.next hb.size,h.ob.next hb.size,h.ap,h.la,h.lb,h.B⟩
theorem Duo.addA {b g n c:Nat} {ad:Option Addr} {x:List Int} {T:TypeId} (h:Duo B D W v0 u0 w v u l m) (hh:Holds w b 24 [.slice ad n c]) (hx:FP D W (fun w=>Ints w (.slice ad n c) x)) (hD0:∀ i,D i → i < W.heap.size ∧ v0.ownBlock ≠ some i ∧ u0.ownBlock ≠ some i) (hl:l.length < 1099511627776)
  (k:∀ v' w',Duo B D W v0 u0 w' v' u (l ++ [x]) m → w.grownBy w' v.ownBlock → K v' w') :
  oM Tryz.prog (.call { callee:=.builtin .append,args:=#[.tmp 0,.tmp 1],argTypes:=#[30,30] }) T [v,.slice (some ⟨b,0,none⟩) 1 g] K w:=by
 have hx':=hx.fr h.fr (fun i hi=>⟨(hD0 i hi).1,fun e=>e.elim (hD0 i hi).2.1 (hD0 i hi).2.2⟩)
 refine ints_append h.a (Nat.le_trans h.B h.fr.size) hh hx' h.oa hl (fun v' w' hg hb hv ho=>k v' w' ⟨h.fr.by hb (fun i e=>(h.la i e).imp .inl id),hg,?_,ho,h.ob.next hb.size,?_,?_,h.lb,h.B⟩ hb)
 ·exact h.b.keep (Fr.of_by' hb) (fun i hi=>⟨(h.oa i hi).1,(h.oa i hi).2⟩) (fun i hi e=>h.ap i e hi)
 ·intro i e1 e2
  rcases hv i e1 with h1 | h1
  ·exact h.ap i h1 e2
  ·have:=(h.b.own e2).1; omega
 ·intro i e1
  rcases hv i e1 with h1 | h1
  ·exact h.la i h1
  ·exact .inr (Nat.le_trans h.fr.size h1)
theorem Duo.addB {b g n c:Nat} {ad:Option Addr} {x:L2} {T:TypeId} (h:Duo B D W v0 u0 w v u l m) (hh:Holds w b 30 [.slice ad n c]) (hx:FP D W (fun w=>ListsR w (.slice ad n c) x)) (hD0:∀ i,D i → i < W.heap.size ∧ v0.ownBlock ≠ some i ∧ u0.ownBlock ≠ some i) (hl:m.length < 1099511627776)
  (k:∀ u' w',Duo B D W v0 u0 w' v u' l (m ++ [x]) → w.grownBy w' u.ownBlock → K u' w') :
  oM Tryz.prog (.call { callee:=.builtin .append,args:=#[.tmp 0,.tmp 1],argTypes:=#[29,29] }) T [u,.slice (some ⟨b,0,none⟩) 1 g] K w:=by
 have hx':=hx.fr h.fr (fun i hi=>⟨(hD0 i hi).1,fun e=>e.elim (hD0 i hi).2.1 (hD0 i hi).2.2⟩)
 refine lists_append h.b (Nat.le_trans h.B h.fr.size) hh hx' h.ob hl (fun u' w' hg hb hv ho=>k u' w' ⟨h.fr.by hb (fun i e=>(h.lb i e).imp .inr id),?_,hg,h.oa.next hb.size,ho,?_,h.la,?_,h.B⟩ hb)
 ·exact h.a.keep (Fr.of_by' hb) (fun i hi=>⟨(h.ob i hi).1,(h.ob i hi).2⟩) (fun i hi e=>h.ap i hi e)
 ·intro i e1 e2
  rcases hv i e2 with h1 | h1
  ·exact h.ap i e1 h1
  ·have:=(h.a.own e1).1; omega
 ·intro i e1
  rcases hv i e1 with h1 | h1
  ·exact h.lb i h1
  ·exact .inr (Nat.le_trans h.fr.size h1)
end
end
section
variable {K:VK} {w w' w0 W:World} {L:List (Addr × Value)}
def CI (w:World) (v:Value) (l:List Int):Prop:=Ints w v l ∧ ∃ ad c,v = .slice ad l.length c ∧ l.length ≤ c ∧ (ad = none → c = 0)
theorem inBlock_add (a:Addr) (k n c n2 c2:Nat):Value.inBlock (.slice (Option.map (fun x=>x.add k) (some a)) n c) = Value.inBlock (.slice (some a) n2 c2):=by
 rw [Option.map_some]
 obtain ⟨b,o,e⟩:=a
 cases e <;> simp [Value.inBlock,Addr.add] <;> split <;> rfl
theorem CI.from {T:TypeId} {v:Value} {l:List Int} (h:CI w v l) (i:Nat) (hi:i ≤ l.length)
  (k:∀ v',CI w v' (l.drop i) → Value.inBlock v' = Value.inBlock v → K v' w):oM Tryz.prog (.slice 24 (.tmp 0) (some (.tmp 1)) none none) T [v,.int .i64 (i:Int)] K w:=by
 obtain ⟨hI,ad,c,hv,hcap,hnn⟩:=h
 subst hv
 obtain ⟨⟨ad0,c0,hv0,h0,hc⟩,hr,hln⟩:=hI
 injection hv0 with ea _ ec
 subst ea; subst ec
 have ht:Tryz.prog.underlying 24 = some (.slice (Tryz.prog.elem 24)):=by kernel_rfl
 have hs:(sizeOf (Tryz.prog.elem 24)).run Tryz.prog w = .ok 1 w:=by kernel_rfl
 rw [oM_sliceFrom,run_sliceAt_slice w _ _ _ _ _ ht,run_slice_l w _ _ l.length c ht .i64 i (by omega) (by omega),hs]
 simp only [Result.andThen_ok,sliced,Int.toNat_natCast]
 have hdr:∀ n ∈ l.drop i,I64 n:=fun n hn=>hr n (List.mem_of_mem_drop hn)
 by_cases hci:c = i
 ·rw [if_pos hci]
  have hnil:l.drop i = []:=List.drop_of_length_le (by omega)
  have e:l.length - i = (l.drop i).length:=by rw [List.length_drop]
  rw [e]
  refine k _ ⟨⟨⟨ad,_,rfl,fun ha=>⟨by rw [hnil]; rfl,by omega⟩,.inl hnil⟩,hdr,by rw [hnil]; simp⟩,ad,_,rfl,by rw [hnil]; simp,fun ha=>by omega⟩ ?_
  cases ad <;> rfl
 ·rw [if_neg hci]
  cases ad with
  | none=>have:=hnn rfl; omega
  | some a=>
   have e:l.length - i = (l.drop i).length:=by rw [List.length_drop]
   rw [e]
   rcases hc with hc | ⟨b,o,ha,hlt,hcell⟩
   ·have:l.length = 0:=by rw [hc]; rfl
    refine k _ ⟨⟨⟨_,_,rfl,(fun ha=>by cases ha),.inl (by rw [hc]; simp)⟩,hdr,by rw [List.length_drop]; omega⟩,_,_,rfl,by rw [List.length_drop]; omega,fun ha=>by cases ha⟩ (inBlock_add _ _ _ _ _ _)
   ·cases ha
    refine k _ ⟨⟨⟨_,_,rfl,(fun ha=>by cases ha),.inr ⟨b,o + i * 1,by rw [Option.map_some,add_none],hlt,fun j u hj=>?_⟩⟩,hdr,by rw [List.length_drop]; omega⟩,_,_,rfl,by rw [List.length_drop]; omega,fun ha=>by cases ha⟩ (inBlock_add _ _ _ _ _ _)
    have:=hcell (i + j) u (by rw [flat_int] at hj ⊢; rw [List.map_drop,List.getElem?_drop] at hj; exact hj)
    rwa [show o + i * 1 + j = o + (i + j) by omega]
theorem CI.from1 {T:TypeId} {v:Value} {l:List Int} (h:CI w v l) (hi:1 ≤ l.length)
  (k:∀ v',CI w v' (l.drop 1) → Value.inBlock v' = Value.inBlock v → K v' w):oM Tryz.prog (.slice 24 (.tmp 0) (some (.tmp 1)) none none) T [v,.int .i64 1] K w:=CI.from h 1 hi k
theorem CI.to {T:TypeId} {v:Value} {l:List Int} (h:CI w v l) (i:Nat) (hi:i ≤ l.length)
  (k:∀ v',Ints w v' (l.take i) → K v' w):oM Tryz.prog (.slice 24 (.tmp 0) none (some (.tmp 1)) none) T [v,.int .i64 (i:Int)] K w:=by
 obtain ⟨hI,ad,c,hv,hcap,hnn⟩:=h
 subst hv
 obtain ⟨⟨ad0,c0,hv0,h0,hc⟩,hr,hln⟩:=hI
 injection hv0 with ea _ ec
 subst ea; subst ec
 have ht:Tryz.prog.underlying 24 = some (.slice (Tryz.prog.elem 24)):=by kernel_rfl
 have e:i = (l.take i).length:=by rw [List.length_take]; omega
 refine sliceTo_at (sz:=1) ht (fun w=>by kernel_rfl) i (by omega) ?_
 have hlt:(l.take i).length ≤ l.length:=by rw [List.length_take]; omega
 have hn0:ad = none → c = 0:=hnn
 rw [show (Value.slice ad i c) = .slice ad (l.take i).length c by rw [← e]]
 refine k _ ⟨⟨ad,c,rfl,fun ha=>⟨?_,hn0 ha⟩,?_⟩,fun n hn=>hr n (List.mem_of_mem_take hn),by omega⟩
 ·have:=hn0 ha; omega
 ·rcases hc with hc | ⟨b,o,ha,hlt',hcell⟩
  ·exact .inl (by rw [hc]; simp)
  ·refine .inr ⟨b,o,ha,hlt',fun j u hj=>hcell j u ?_⟩
   rw [flat_int] at hj ⊢
   rw [List.map_take] at hj
   exact (gS hj).elim fun h1 h2=>by
    rw [List.getElem_take] at h2
    rw [List.getElem?_eq_some_iff]
    exact ⟨by rw [List.length_take] at h1; omega,h2⟩
theorem CI.keep {v:Value} {l:List Int} (h:CI w v l) (hs:w.heap.size ≤ w'.heap.size) (hk:∀ i,Value.inBlock v = some i → i < w.heap.size → w'.heap[i]? = w.heap[i]?):CI w' v l:=
 ⟨⟨h.1.row.keep hs hk,h.1.rng,h.1.len⟩,h.2⟩
def IsRw (B:Nat) (w:World) (b:Nat) (r:Rw):Prop:=∃ lv,Holds w b 160 [lv,.bool r.bad] ∧ CI w lv r.left ∧ b < B ∧ ∀ i,Value.inBlock lv = some i → i < B ∧ i ≠ b
theorem IsRw.keep {B b:Nat} {r:Rw} (h:IsRw B w b r) (hb:Below B w w'):IsRw B w' b r:=by
 obtain ⟨lv,h1,h2,h3,h4⟩:=h
 exact ⟨lv,(hb.block _ h3).trans h1,h2.keep hb.size (fun i hi _=>hb.block i (h4 i hi).1),h3,h4⟩
theorem sz_intsR (w:World):(sizeOf 24).run Tryz.prog w = .ok 1 w:=by kernel_rfl
theorem sz_boolR (w:World):(sizeOf 4).run Tryz.prog w = .ok 1 w:=by kernel_rfl
theorem next_ok {B b:Nat} {r:Rw} (hr:IsRw B w b r) (k:∀ w',IsRw B w' b (nextR r).2 → w.grownBy w' (some b) → I64 (nextR r).1 → K (.int .i64 (nextR r).1) w'):callM Tryz.prog 134 #[.pointer (some ⟨b,0,none⟩)] K w:=by
 apply sh_134_ok
 unfold sh_134
 obtain ⟨lv,h1,h2,h3,h4⟩:=hr
 obtain ⟨ad,c,rfl,hcap,hnn⟩:=id h2.2
 have hc:=h1.are
 have hlen:=h2.1.len
 obtain ⟨l,bad⟩:=r
 cases l with
 | nil=>
  refine Xa @hc ?_
  refine arr_set (i:=1) sz_boolR rfl rfl h1 (by simp) (fun w2 hg hh=>?_)
  refine Xa0 ?_
  exact k _ ⟨_,hh,h2.keep hg.size (fun i hi hlt=>hg.block i hlt (fun e=>(h4 i hi).2 (by first | exact oI e | exact (oI e).symm))),h3,h4⟩ hg I64_0
 | cons x l=>
  have hne:¬ ((x :: l).length:Int) = 0:=by simp; omega
  obtain ⟨b5,o5,rfl,hb5,cx,rx,_⟩:=h2.1.at (i:=0) (by simp)
  have cx':=cx w (bR)
  simp only [List.getElem_cons_zero,Nat.add_zero] at cx' rx
  repeat (any_goals (first
  | ((with_reducible refine CI.from1 h2 (by simp) ?_); intro v' hv' hvb)
  | (with_reducible refine yO ?_)
  | ((with_reducible refine oG fun X Y=>?_); simp [go_sem,hc,hne,cx']; apply Y; clear Y X)))
  obtain ⟨ad',c',rfl,hcap',hnn'⟩:=id hv'.2
  refine arr_set (i:=0) sz_intsR rfl rfl h1 (by simp) (fun w2 hg hh=>?_)
  exact k _ ⟨_,hh,hv'.keep hg.size (fun i hi hlt=>hg.block i hlt (fun e=>(h4 i (hvb ▸ hi)).2 (by first | exact oI e | exact (oI e).symm))),h3,fun i hi=>h4 i (hvb ▸ hi)⟩ hg rx
theorem grown_two {w1 w2:World} {b:Option Nat} (h:w.grownBy w1 b) (k:w1.grownBy w2 b):w.grownBy w2 b:=
 ⟨k.os.trans h.os,k.tape.trans h.tape,k.output.trans h.output,Nat.le_trans h.size k.size,fun i hi hn=>(k.block i (lL hi h.size) hn).trans (h.block i hi hn)⟩
theorem count_ok {B b:Nat} {r:Rw} (hr:IsRw B w b r) (k:∀ w',IsRw B w' b (countR r).2 → w.grownBy w' (some b) → K (.int .i64 ((countR r).1:Int)) w'):callM Tryz.prog 133 #[.pointer (some ⟨b,0,none⟩)] K w:=by
 apply sh_133_ok
 unfold sh_133
 refine next_ok hr (fun w1 hr1 hg1 hI=>?_)
 have hr1':=hr1
 obtain ⟨lv,h1,h2,h3,h4⟩:=hr1
 obtain ⟨ad,c,rfl,hcap,hnn⟩:=id h2.2
 have hc:=h1.are
 unfold countR at k
 have bad:((nextR r).1 < 0 ∨ ((nextR r).2.left.length:Int) < (nextR r).1) → ∀ (K':Prop),(∀ w2,w1.grownBy w2 (some b) → Holds w2 b 160 [.slice ad (nextR r).2.left.length c,.bool true] → K (.int .i64 0) w2):=fun hb _ w2 hg2 hh2=>by
  rw [if_pos hb] at k
  exact k w2 ⟨_,hh2,h2.keep hg2.size (fun i hi hlt=>hg2.block i hlt (fun e=>(h4 i hi).2 (by first | exact oI e | exact (oI e).symm))),h3,h4⟩ (grown_two hg1 hg2)
 by_cases hn:(nextR r).1 < 0
 ·refine Xa (An2 @hc @hn) ?_
  refine arr_set (i:=1) sz_boolR rfl rfl h1 (by simp) (fun w2 hg hh=>?_)
  refine Xa0 ?_
  exact bad (.inl hn) True w2 hg hh
 by_cases hm:((nextR r).2.left.length:Int) < (nextR r).1
 ·refine Xa (An3 @hc @hn @hm) ?_
  refine arr_set (i:=1) sz_boolR rfl rfl h1 (by simp) (fun w2 hg hh=>?_)
  refine Xa0 ?_
  exact bad (.inr hm) True w2 hg hh
 rw [if_neg (by omega)] at k
 refine Xa (An3 @hc @hn @hm) ?_
 have:=k w1 hr1' hg1
 rw [Int.toNat_of_nonneg (by omega)] at this
 exact this
end
end Go.Proofs
namespace Go.Sh
open Go Go.RowKit
section
variable {P:Program} {w w':World} {K:VK}
theorem below_of_grown (h:w.grownBy w' none):Bw w w':=⟨h.os,h.tape,h.output,h.size,fun i hi=>h.block i hi (fun e=>by cases e)⟩
theorem append_at2 (t T e:TypeId) (i:TypeInfo) (z:Value) (size bytes:Nat) (ht:P.underlying t = some (.slice e)) (hi:P.info? e = some i) (hz:i.zero = some z)
  (hsize:i.size = size) (hby:i.bytes = bytes) (hzs:z.cells.size = size) (hsz:0 < size)
  {v:Value} {n:Nat} {xs:List Value} (hown:w.ownsRow 0 e size v n xs)
  {a:Addr} {m c:Nat} (news:List Value) (hl:news.length = m * size) (hnews:∀ j u,news[j]? = some u → w.cell? (a.add j) = some u) (h1:∀ u ∈ news,u.oneCell' = true)
  (h63:n + m ≤ maxLen) (hbytes:(n + m) * bytes ≤ 140737488355328)
  (k:∀ v' w',w'.ownsRow 0 e size v' (n + m) (xs ++ news) → w.grownBy w' v.ownBlock → (∀ i,v'.ownBlock = some i → v.ownBlock = some i ∨ w.heap.size ≤ i) →
   (Bw w w' ∨ ∃ g cap,v = .slice (some ⟨g,0,none⟩) n cap ∧ v' = .slice (some ⟨g,0,none⟩) (n + m) cap) → K v' w') :
  oM P (.call { callee:=.builtin .append,args:=#[.tmp 0,.tmp 1],argTypes:=#[t,t] }) T [v,.slice (some a) m c] K w:=by
 rw [oM_append]
 rcases hown.2 with ⟨hv,hn⟩ | ⟨g,cap,cur,hv,hb,hg,hnc,hm,hcs,htk⟩
 ·have h':w.ownsRow w.heap.size e size v n xs:=⟨hown.1,.inl ⟨hv,hn⟩⟩
  obtain ⟨v',w',hr,ho,hgr,_⟩:=run_append_own (P:=P) (w:=w) w.heap.size t T e i z size bytes ht hi hz hsize hby hzs hsz v n xs h' a m c news hl hnews h1 h63 hbytes (rL)
  rw [hr]
  refine k v' w' (owns_base ho (Nat.zero_le _)) hgr (fun j hj=>.inr (owns_own ho hj).2.1) (.inl ?_)
  subst hv
  exact below_of_grown hgr
 ·by_cases hroom:n + m ≤ cap
  ·subst hv
   obtain ⟨w',hr,ho,hgr⟩:=run_append_fits (P:=P) (w:=w) 0 t T e i size ht hi hsize g n cap xs hown a m c news hl hnews h1 hroom
   rw [hr]
   exact k _ w' ho hgr (fun j hj=>.inl hj) (.inr ⟨g,cap,rfl,rfl⟩)
  ·obtain ⟨v',w',hr,ho,hgr,_⟩:=run_append_own (P:=P) (w:=w) 0 t T e i z size bytes ht hi hz hsize hby hzs hsz v n xs hown a m c news hl hnews h1 h63 hbytes (Nat.zero_le _)
   subst hsize
   subst hv
   have holds:∀ j u,xs[j]? = some u → w.cell? ((⟨g,0,none⟩:Addr).add j) = some u:=hown.cells (g:=g) rfl
   have hr2:=run_append_grow (P:=P) (w:=w) t T e i z ht hi hz ⟨g,0,none⟩ n cap xs hown.1 holds a m c news hl hnews (by omega) (by simp only [maxLen] at h63; omega) (growslice_fits (by omega) (by rw [hby]; exact hbytes))
   rw [hr] at hr2
   rw [hr]
   cases hr2
   exact k _ _ ho hgr (fun j hj=>by cases hj; exact .inr (rL)) (.inl (((Below.refl _ w).drew).alloc (rL) _))
end
section
variable {α:Type} {n:Nat} {e:TypeId} {V:World → List Value → α → Prop} {B:Nat} {D:Nat → Prop} {w w':World} {v:Value} {l:List α}
theorem owns_part {B:Nat} {e:TypeId} {sz:Nat} {g n m cap:Nat} {xs ys:List Value} (h:w.ownsRow B e sz (.slice (some ⟨g,0,none⟩) (n + m) cap) (n + m) (xs ++ ys)) (hx:xs.length = n * sz):w.ownsRow B e sz (.slice (some ⟨g,0,none⟩) n cap) n xs:=by
 rcases h.2 with ⟨h,_⟩ | ⟨g1,cap1,cur1,hv,hb,hg1,hc,hm,hs1,ht⟩
 ·cases h
 cases hv
 refine ⟨hx,.inr ⟨g,cap,cur1,rfl,hb,hg1,by omega,by omega,hs1,?_⟩⟩
 have h2:=congrArg (List.take (n * sz)) ht
 rw [List.take_take,List.take_left' hx,Nat.min_eq_left (Nat.mul_le_mul_right _ (by omega))] at h2
 exact h2
theorem grow_append2 {P:Program} {K:VK} (t T:TypeId) (i:TypeInfo) (z:Value) (bytes:Nat) (ht:P.underlying t = some (.slice e)) (hi:P.info? e = some i) (hz:i.zero = some z)
  (hsize:i.size = n) (hby:i.bytes = bytes) (hzs:z.cells.size = n) (hn:0 < n) (hbb:bytes ≤ 64)
  (h:GRow n e V B D w v l) (hB:B ≤ w.heap.size) {b o c:Nat} {x:α} {xs:List Value} (hxl:xs.length = n) (hcell:∀ (j:Nat) (u:Value),xs[j]? = some u → w.cell? ⟨b,o + j,none⟩ = some u) (h1:∀ u ∈ xs,u.oneCell' = true)
  (hx:FP D w (fun w=>V w xs x)) (hD:∀ i,D i → i < w.heap.size ∧ v.ownBlock ≠ some i) (hl:l.length < 1099511627776)
  (k:∀ v' w',GRow n e V B D w' v' (l ++ [x]) → w.grownBy w' v.ownBlock → (∀ i,v'.ownBlock = some i → v.ownBlock = some i ∨ w.heap.size ≤ i) → (∀ i,D i → i < w'.heap.size ∧ v'.ownBlock ≠ some i) →
   GRow n e V B D w' v l → (∀ u,GRow n e V B D w u (l ++ [x]) → GRow n e V B D w' u (l ++ [x])) → K v' w') :
  oM P (.call { callee:=.builtin .append,args:=#[.tmp 0,.tmp 1],argTypes:=#[t,t] }) T [v,.slice (some ⟨b,o,none⟩) 1 c] K w:=by
 obtain ⟨cs,ho,hf⟩:=h.ex
 have hlx:(flat Cl.cs cs).length = l.length * n:=ho.1
 refine append_at2 t T e i z n bytes ht hi hz hsize hby hzs hn (owns_base ho (Nat.zero_le _)) xs (by omega) ?_ h1 (by simp only [maxLen]; omega) (by have:(l.length + 1) * bytes ≤ 1099511627776 * 64:=Nat.mul_le_mul (by omega) hbb; omega) ?_
 ·intro j u hj
  rw [add_none]
  exact hcell j u hj
 ·intro v' w' ho' hg hv hor
  have hf':=hf.by hg hD
  have hDw:∀ i,D i → i < w.heap.size:=fun i hi=>(hD i hi).1
  have hnew:GRow n e V B D w' v' (l ++ [x]):=by
   refine ⟨cs ++ [⟨xs,hxl⟩],?_,?_⟩
   ·have e2:flat Cl.cs (cs ++ [(⟨xs,hxl⟩:Cl n)]) = flat Cl.cs cs ++ xs:=by rw [flat_snoc]; rfl
    have e1:(l ++ [x]).length = l.length + 1:=by simp
    rw [e1,e2]
    exact owns_up ho' (fun i hi=>(hv i hi).elim (fun h=>(owns_own ho h).2.1) (fun h=>Nat.le_trans hB h))
   ·have hx':=hx.by hg hD
    refine (hf'.both hx').imp ?_
    rintro w2 ⟨⟨hc1,hc2⟩,hx2⟩
    refine ⟨by simp [hc1],fun i c y hi hy=>?_⟩
    by_cases hlt:i < cs.length
    ·rw [List.getElem?_append_left hlt] at hi
     rw [List.getElem?_append_left (by omega)] at hy
     exact hc2 i c y hi hy
    ·rw [List.getElem?_append_right (by omega)] at hi
     rw [List.getElem?_append_right (by omega)] at hy
     have:i - cs.length = 0:=by
      have:=(gS hi).1
      simp at this
      omega
     rw [this] at hi
     rw [show i - l.length = 0 by omega] at hy
     simp at hi hy
     subst hi; subst hy
     exact hx2
  refine k v' w' hnew hg hv ?_ ?_ ?_
  ·intro i hi
   obtain ⟨h2,h3⟩:=hD i hi
   refine ⟨lL h2 hg.size,fun e=>?_⟩
   rcases hv i e with h4 | h4
   ·exact h3 h4
   ·omega
  ·rcases hor with hb | ⟨g,cap,e1,e2⟩
   ·exact h.next hb hDw
   ·subst e1; subst e2
    exact ⟨cs,owns_up (owns_part ho' hlx) (fun i hi=>(owns_own ho hi).2.1),hf'⟩
  ·intro u hu
   rcases hor with hb | ⟨g,cap,e1,e2⟩
   ·exact hu.next hb hDw
   ·obtain ⟨cu,hou,hfu⟩:=hu.ex
    by_cases hug:u.ownBlock = v.ownBlock
    ·obtain ⟨gv,hgv⟩:∃ gv,v.ownBlock = some gv:=⟨g,by rw [e1]; rfl⟩
     have hug':u = v':=by
      rcases hou.2 with ⟨_,h0⟩ | ⟨g1,cap1,cur1,hu1,_,hg1,_,_,hs1,_⟩
      ·simp at h0
      rcases ho.2 with ⟨hv1,_⟩ | ⟨g2,cap2,cur2,hv2,_,hg2,_,_,hs2,_⟩
      ·rw [hv1] at hgv; cases hgv
      rw [hv2] at e1
      cases e1
      have e3:g1 = g:=by
       rw [hu1,hv2] at hug
       exact oI hug
      subst e3
      rw [hg1] at hg2
      cases hg2
      rw [hs1] at hs2
      rw [hu1,e2,Nat.eq_of_mul_eq_mul_right hn hs2]
      simp
     rw [hug']
     exact hnew
    ·exact hu.keep (Fr.of_by' hg) (fun i hi=>⟨hDw i hi,(hD i hi).2⟩) (fun i hi e=>hug (hi.trans e.symm))
end
end Go.Sh
namespace Go.Proofs
open Go Go.Sh Go.RowKit FdSpec TkSpec CodeSpec PrSpec
section
variable {K:VK} {w w' w0 W:World} {L:List (Addr × Value)}
theorem ints_append2 {B g c n:Nat} {D:Nat → Prop} {v:Value} {l:L2} {x:List Int} {T:TypeId} (h:ListG B D w v l) (hB:B ≤ w.heap.size) {b:Nat} {ad:Option Addr} (hh:Holds w b 24 [.slice ad n c])
  (hx:FP D w (fun w=>Ints w (.slice ad n c) x)) (hD:Off D w v) (hl:l.length < 1099511627776)
  (k:∀ v' w',ListG B D w' v' (l ++ [x]) → w.grownBy w' v.ownBlock → (∀ i,v'.ownBlock = some i → v.ownBlock = some i ∨ w.heap.size ≤ i) → Off D w' v' → ListG B D w' v l → (∀ u,ListG B D w u (l ++ [x]) → ListG B D w' u (l ++ [x])) → K v' w') :
  oM Tryz.prog (.call { callee:=.builtin .append,args:=#[.tmp 0,.tmp 1],argTypes:=#[30,30] }) T [v,.slice (some ⟨b,0,none⟩) 1 g] K w:=by
 refine grow_append2 30 T ((Tryz.prog.info? 24).getD default) (.slice none 0 0) 24 (by kernel_rfl) (by kernel_rfl) (by kernel_rfl) (by kernel_rfl) (by kernel_rfl) (by kernel_rfl) (by decide) (by decide)
  h hB (xs:=[.slice ad n c]) rfl ?_ (row_one _ _ _) (hx.imp fun w h=>⟨_,rfl,h⟩) hD hl k
 intro j u hj
 rw [cell_of_block hh]
 simpa using hj
theorem lists_append2 {B g c n:Nat} {D:Nat → Prop} {v:Value} {l:L3} {x:L2} {T:TypeId} (h:NumG B D w v l) (hB:B ≤ w.heap.size) {b:Nat} {ad:Option Addr} (hh:Holds w b 30 [.slice ad n c])
  (hx:FP D w (fun w=>ListsR w (.slice ad n c) x)) (hD:Off D w v) (hl:l.length < 1099511627776)
  (k:∀ v' w',NumG B D w' v' (l ++ [x]) → w.grownBy w' v.ownBlock → (∀ i,v'.ownBlock = some i → v.ownBlock = some i ∨ w.heap.size ≤ i) → Off D w' v' → NumG B D w' v l → (∀ u,NumG B D w u (l ++ [x]) → NumG B D w' u (l ++ [x])) → K v' w') :
  oM Tryz.prog (.call { callee:=.builtin .append,args:=#[.tmp 0,.tmp 1],argTypes:=#[29,29] }) T [v,.slice (some ⟨b,0,none⟩) 1 g] K w:=by
 refine grow_append2 29 T ((Tryz.prog.info? 30).getD default) (.slice none 0 0) 24 (by kernel_rfl) (by kernel_rfl) (by kernel_rfl) (by kernel_rfl) (by kernel_rfl) (by kernel_rfl) (by decide) (by decide)
  h hB (xs:=[.slice ad n c]) rfl ?_ (row_one _ _ _) (hx.imp fun w h=>⟨_,rfl,h⟩) hD hl k
 intro j u hj
 rw [cell_of_block hh]
 simpa using hj
structure DuoI (B:Nat) (D:Nat → Prop) (W:World) (v0 u0 xv yv:Value) (l:L2) (m:L3) (x:List Int) (y:L2):Prop where
 a:ListG B D W v0 l
 b:NumG B D W u0 m
 oa:Off D W v0
 ob:Off D W u0
 ap:apart v0 u0
 B:B ≤ W.heap.size
 x:FP D W (fun w=>Ints w xv x)
 y:FP D W (fun w=>ListsR w yv y)
 l:l.length < 1099511627776
 m:m.length < 1099511627776
def DuoC (B:Nat) (D:Nat → Prop) (W:World) (v0 u0:Value) (l:L2) (m:L3) (w:World):Prop:=Fr (fun i=>v0.ownBlock = some i ∨ u0.ownBlock = some i) W w ∧ ListG B D w v0 l ∧ NumG B D w u0 m
def DuoA (B:Nat) (D:Nat → Prop) (W:World) (v0:Value) (l:L2) (v:Value) (w:World):Prop:=ListG B D w v l ∧ Off D w v ∧ ∀ i,v.ownBlock = some i → v0.ownBlock = some i ∨ W.heap.size ≤ i
def DuoB (B:Nat) (D:Nat → Prop) (W:World) (u0:Value) (m:L3) (u:Value) (w:World):Prop:=NumG B D w u m ∧ Off D w u ∧ ∀ i,u.ownBlock = some i → u0.ownBlock = some i ∨ W.heap.size ≤ i
def DuoS (B:Nat) (D:Nat → Prop) (W:World) (v0 u0:Value) (l:L2) (m:L3) (w w1:World):Prop:=Fr (fun i=>v0.ownBlock = some i ∨ u0.ownBlock = some i) w w1 ∧ (∀ v,DuoA B D W v0 l v w → DuoA B D W v0 l v w1) ∧ (∀ u,DuoB B D W u0 m u w → DuoB B D W u0 m u w1)
def LitV (W:World) (T:TypeId) (x:Value) (v:Value) (w:World):Prop:=∃ g,v = .slice (some ⟨g,0,none⟩) 1 1 ∧ W.heap.size ≤ g ∧ Holds w g T [x]
theorem duo_below {B:Nat} {D:Nat → Prop} {v0 u0:Value} {l l2:L2} {m m2:L3} (h:DuoC B D W v0 u0 l m w) (hD:∀ i,D i → i < W.heap.size) (hb:Bw w w'):DuoC B D W v0 u0 l m w' ∧ DuoS B D W v0 u0 l2 m2 w w':=by
 have hDw:∀ i,D i → i < w.heap.size:=fun i hi=>lL (hD i hi) h.1.size
 exact ⟨⟨h.1.trans (S':=fun _=>False) (Fr.of_below hb) (fun _ h=>h.elim),h.2.1.next hb hDw,h.2.2.next hb hDw⟩,Fr.of_below hb,
  fun v hv=>⟨hv.1.next hb hDw,hv.2.1.next hb.size,hv.2.2⟩,fun v hv=>⟨hv.1.next hb hDw,hv.2.1.next hb.size,hv.2.2⟩⟩
theorem own_types {e e':TypeId} (hne:e ≠ e') {B B' n n' m m':Nat} {v u:Value} {xs ys:List Value} (h:w.ownsRow B e n v m xs) (k:w.ownsRow B' e' n' u m' ys):apart v u:=by
 intro i h1 h2
 obtain ⟨_,_,c1,e1⟩:=owns_own h h1
 obtain ⟨_,_,c2,e2⟩:=owns_own k h2
 rw [e1] at e2
 injection e2 with e2
 injection e2 with _ e3
 exact hne e3
theorem duo_free {Tail:Value → Value → VK} {B b6 i1:Nat} {D:Nat → Prop} {v0 u0:Value} {adx ady:Option Addr} {nx cx ny cy:Nat} {l:L2} {m:L3} {x':List Int} {y:L2} {T6 T1 T2 T3 T4 T5:TypeId}
  (h:DuoI B D W v0 u0 (.slice adx nx cx) (.slice ady ny cy) l m x' y)
  (hfa:∀ (K':VK) (w:World),K' (.pointer (some ⟨b6,i1,none⟩)) w → oM Tryz.prog (.fieldAddr T6 (.tmp 0) i1) T5 [.pointer (some ⟨b6,0,none⟩)] K' w)
  (k:∀ w v u,Fr (fun i=>v0.ownBlock = some i ∨ u0.ownBlock = some i) W w → DuoA B D W v0 (l ++ [x']) v w → DuoB B D W u0 (m ++ [y]) u w → apart v u → Tail v u (.pointer (some ⟨b6,i1,none⟩)) w) :
  ∃ S:World → WK,∃ R1:VK,(∀ v w w1,S w w1 → R1 v w → R1 v w1) ∧
   (∀ w,DuoC B D W v0 u0 l m w → oM Tryz.prog (.buildSlice 30 1 #[(0,.tmp 0)]) T1 [.slice adx nx cx] (fun v w1=>DuoC B D W v0 u0 l m w1 ∧ S w w1 ∧ R1 v w1) w) ∧
   (∃ R2:VK,(∀ v w w1,S w w1 → R2 v w → R2 v w1) ∧
   (∀ w,DuoC B D W v0 u0 l m w → ∀ v1,R1 v1 w → oM Tryz.prog (.call { callee:=.builtin .append,args:=#[.tmp 0,.tmp 1],argTypes:=#[30,30] }) T2 [v0,v1] (fun v w1=>DuoC B D W v0 u0 l m w1 ∧ S w w1 ∧ R2 v w1) w) ∧
   (∃ R3:VK,(∀ v w w1,S w w1 → R3 v w → R3 v w1) ∧
   (∀ w,DuoC B D W v0 u0 l m w → oM Tryz.prog (.buildSlice 29 1 #[(0,.tmp 0)]) T3 [.slice ady ny cy] (fun v w1=>DuoC B D W v0 u0 l m w1 ∧ S w w1 ∧ R3 v w1) w) ∧
   (∃ R4:VK,(∀ v w w1,S w w1 → R4 v w → R4 v w1) ∧
   (∀ w,DuoC B D W v0 u0 l m w → ∀ v1,R3 v1 w → oM Tryz.prog (.call { callee:=.builtin .append,args:=#[.tmp 0,.tmp 1],argTypes:=#[29,29] }) T4 [u0,v1] (fun v w1=>DuoC B D W v0 u0 l m w1 ∧ S w w1 ∧ R4 v w1) w) ∧
   (∃ R5:VK,(∀ v w w1,S w w1 → R5 v w → R5 v w1) ∧
   (∀ w,DuoC B D W v0 u0 l m w → oM Tryz.prog (.fieldAddr T6 (.tmp 0) i1) T5 [.pointer (some ⟨b6,0,none⟩)] (fun v w1=>DuoC B D W v0 u0 l m w1 ∧ S w w1 ∧ R5 v w1) w) ∧
   (∀ w,DuoC B D W v0 u0 l m w → ∀ v1,R1 v1 w → ∀ v2,R2 v2 w → ∀ v3,R3 v3 w → ∀ v4,R4 v4 w → ∀ v5,R5 v5 w → Tail v2 v4 v5 w))))):=by
 have hD:∀ i,D i → i < W.heap.size:=fun i hi=>(h.oa i hi).1
 have hDo:∀ i,D i → i < W.heap.size ∧ ¬ (v0.ownBlock = some i ∨ u0.ownBlock = some i):=fun i hi=>⟨hD i hi,fun e=>e.elim (h.oa i hi).2 (h.ob i hi).2⟩
 have hv0:∀ i,v0.ownBlock = some i → i < W.heap.size:=fun i hi=>(h.a.own hi).1
 have hu0:∀ i,u0.ownBlock = some i → i < W.heap.size:=fun i hi=>(h.b.own hi).1
 have hlit:∀ (T:TypeId) (x v:Value) (w w1:World),DuoS B D W v0 u0 (l ++ [x']) (m ++ [y]) w w1 → LitV W T x v w → LitV W T x v w1:=by
  rintro T x v w w1 hS ⟨g,rfl,hg,hh⟩
  refine ⟨g,rfl,hg,(hS.1.block g hh.lt (fun e=>?_)).trans hh⟩
  rcases e with e | e
  ·have:=hv0 g e; omega
  ·have:=hu0 g e; omega
 refine ⟨DuoS B D W v0 u0 (l ++ [x']) (m ++ [y]),LitV W 24 (.slice adx nx cx),fun v w w1=>hlit _ _ v w w1,?_,DuoA B D W v0 (l ++ [x']),fun v w w1 hS hv=>hS.2.1 v hv,?_,
  LitV W 30 (.slice ady ny cy),fun v w w1=>hlit _ _ v w w1,?_,DuoB B D W u0 (m ++ [y]),fun v w w1 hS hv=>hS.2.2 v hv,?_,fun v _=>v = .pointer (some ⟨b6,i1,none⟩),fun _ _ _ _ h=>h,?_,?_⟩
 ·intro w hC
  refine lit_ints _ _ _ (fun g w1 hb hg hh=>?_)
  have h2:=duo_below hC hD hb (l2:=l ++ [x']) (m2:=m ++ [y])
  exact ⟨h2.1,h2.2,g,rfl,Nat.le_trans hC.1.size hg,hh⟩
 ·rintro w hC _ ⟨g,rfl,hg,hh⟩
  have hws:=hC.1.size
  refine ints_append2 hC.2.1 (Nat.le_trans h.B hws) hh (h.x.fr hC.1 hDo) (fun i hi=>⟨lL (hD i hi) hws,(h.oa i hi).2⟩) h.l (fun v' w' hg' hb hv ho hold hst=>?_)
  have hDv:∀ i,D i → i < w.heap.size ∧ ¬ v0.ownBlock = some i:=fun i hi=>⟨lL (hD i hi) hws,(h.oa i hi).2⟩
  refine ⟨⟨hC.1.by hb (fun i e=>.inl (.inl e)),hold,hC.2.2.keep (Fr.of_by' hb) hDv (fun i hi e=>h.ap i e hi)⟩,⟨(Fr.of_by' hb).mono (fun i _ e=>.inl e),fun v hv=>⟨hst v hv.1,hv.2.1.next hb.size,hv.2.2⟩,fun u hu=>⟨hu.1.keep (Fr.of_by' hb) hDv (fun i hi e=>?_),hu.2.1.next hb.size,hu.2.2⟩⟩,
   hg',ho,fun i hi=>(hv i hi).imp id (fun e=>Nat.le_trans hws e)⟩
  rcases hu.2.2 i hi with e2 | e2
  ·exact h.ap i e e2
  ·have:=hv0 i e; omega
 ·intro w hC
  refine lit_lists _ _ _ (fun g w1 hb hg hh=>?_)
  have h2:=duo_below hC hD hb (l2:=l ++ [x']) (m2:=m ++ [y])
  exact ⟨h2.1,h2.2,g,rfl,Nat.le_trans hC.1.size hg,hh⟩
 ·rintro w hC _ ⟨g,rfl,hg,hh⟩
  have hws:=hC.1.size
  refine lists_append2 hC.2.2 (Nat.le_trans h.B hws) hh (h.y.fr hC.1 hDo) (fun i hi=>⟨lL (hD i hi) hws,(h.ob i hi).2⟩) h.m (fun v' w' hg' hb hv ho hold hst=>?_)
  have hDv:∀ i,D i → i < w.heap.size ∧ ¬ u0.ownBlock = some i:=fun i hi=>⟨lL (hD i hi) hws,(h.ob i hi).2⟩
  refine ⟨⟨hC.1.by hb (fun i e=>.inl (.inr e)),hC.2.1.keep (Fr.of_by' hb) hDv (fun i hi e=>h.ap i hi e),hold⟩,⟨(Fr.of_by' hb).mono (fun i _ e=>.inr e),fun v hv=>⟨hv.1.keep (Fr.of_by' hb) hDv (fun i hi e=>?_),hv.2.1.next hb.size,hv.2.2⟩,fun u hu=>⟨hst u hu.1,hu.2.1.next hb.size,hu.2.2⟩⟩,
   hg',ho,fun i hi=>(hv i hi).imp id (fun e=>Nat.le_trans hws e)⟩
  rcases hv.2.2 i hi with e2 | e2
  ·exact h.ap i e2 e
  ·have:=hu0 i e; omega
 ·intro w hC
  refine hfa _ _ ?_
  have h2:=duo_below hC hD (bR) (l2:=l ++ [x']) (m2:=m ++ [y])
  exact ⟨h2.1,h2.2,rfl⟩
 ·rintro w hC _ _ v hv _ _ u hu _ rfl
  refine k w v u hC.1 hv hu ?_
  obtain ⟨_,o1,_⟩:=hv.1.ex
  obtain ⟨_,o2,_⟩:=hu.1.ex
  exact own_types (by decide) o1 o2
end
end Go.Proofs
namespace PrSpec
open FdSpec TkSpec CodeSpec FdPoly GrLaw
def doneR (r:Rd):Bool:=!r.bad && decide (r.rest = [])
def rowsM (vs:List Int):(List (List Int) × List (List (List Int))) × Rw:=clausesR (countR ⟨vs,false⟩).1 (countR ⟨vs,false⟩).2
def decodeM (s:Bytes):(List (List Int) × List (List (List Int))) × Bool:=
 if doneR (rdNums ⟨s,false⟩).2 && !(rowsM (rdNums ⟨s,false⟩).1).2.bad && decide ((rowsM (rdNums ⟨s,false⟩).1).2.left = []) then ((rowsM (rdNums ⟨s,false⟩).1).1,true) else (([],[]),false)
theorem encInt_pos (n:Int):1 ≤ (encInt n).length:=by simp [encInt]
theorem encNums_pos (vs:List Int):vs.length ≤ (encNums vs).length:=by
 have:vs.length ≤ ((vs.map encInt).flatten).length:=by
  induction vs with
  | nil=>simp
  | cons a l ih=>
   have:=encInt_pos a
   simp only [List.map_cons,List.flatten_cons,List.length_append,List.length_cons]
   omega
 simp only [encNums,encList,List.length_append,List.length_cons]
 omega
theorem rdNums_len (s:Bytes):(rdNums ⟨s,false⟩).1.length ≤ s.length:=by
 rcases rdNums_some ⟨s,false⟩ Rd.ok_good with h | ⟨vs,t,h,e,_⟩
 ·rw [h]; simp
 ·rw [h]
  have e2:s = encNums vs ++ t:=congrArg Rd.rest e
  have:=encNums_pos vs
  rw [e2,List.length_append]
  show vs.length ≤ _
  omega
theorem clauseL_len:∀ (ds:List (List Int)) (asx:List (List (List Int))),evenL ds asx = true → ds.length ≤ (clauseL ds asx).length
 | [],_,_=>by simp
 | _ :: _,[],h=>by simp [evenL] at h
 | d :: ds,a :: asx,h=>by
  simp only [evenL,Bool.and_eq_true] at h
  have:=clauseL_len ds asx h.2
  simp only [clauseL,List.length_cons,List.length_append]
  omega
theorem decode_encode {ds:List (List Int)} {asx:List (List (List Int))} (he:evenL ds asx = true) (hin:∀ x ∈ (ds.length:Int) :: clauseL ds asx,InR x) (hl:(((ds.length:Int) :: clauseL ds asx).length:Int) ≤ 9223372036854775807):decodeM (encodeM ds asx).1 = ((ds,asx),true):=by
 unfold encodeM
 rw [if_pos he]
 have h1:=rdNums_enc ((ds.length:Int) :: clauseL ds asx) [] hl hin
 rw [List.append_nil] at h1
 have h2:rowsM ((ds.length:Int) :: clauseL ds asx) = ((ds,asx),⟨[],false⟩):=by
  unfold rowsM
  have hle:=clauseL_len ds asx he
  rw [count_cons hle]
  have:=clauses_enc ds asx [] false he
  rwa [List.append_nil] at this
 unfold decodeM
 simp only [h1,h2]
 simp [doneR]
end PrSpec
namespace Go.Proofs
open Go Go.Sh Go.RowKit FdSpec TkSpec CodeSpec PrSpec
section
variable {K:VK} {w w' w0 W:World} {L:List (Addr × Value)}
theorem nextR_len (r:Rw):(nextR r).2.left.length ≤ r.left.length:=by
 unfold nextR; split <;> simp_all
theorem countR_len (r:Rw):(countR r).2.left.length ≤ r.left.length ∧ (countR r).1 ≤ r.left.length ∧ (countR r).1 ≤ (countR r).2.left.length:=by
 have:=nextR_len r
 unfold countR
 split
 ·exact ⟨this,Nat.zero_le _,Nat.zero_le _⟩
 ·rename_i h
  refine ⟨this,?_,?_⟩ <;> simp only <;> omega
structure Inn (B b:Nat) (W w:World) (r:Rw) (dv av:Value) (ds:List Int) (al:L2) (D:Nat → Prop):Prop where
 fr:Fr (fun i=>i = b) W w
 rw:IsRw B w b r
 B:B ≤ W.heap.size
 d:OwnI w W.heap.size dv ds
 a:ListG W.heap.size D w av al
 od:Off D w dv
 oa:Off D w av
 ap:apart dv av
 low:∀ i,D i → W.heap.size ≤ i
 rng:∀ x ∈ ds,I64 x
section
variable {B b:Nat} {r r':Rw} {dv av:Value} {ds:List Int} {al:L2} {D:Nat → Prop}
theorem IsRw.lt (h:IsRw B w b r):b < B:=by obtain ⟨_,_,_,h,_⟩:=h; exact h
theorem Inn.start (hr:IsRw B W b r) (hB:B ≤ W.heap.size):Inn B b W W r (.slice none 0 0) (.slice none 0 0) [] [] (fun _=>False):=
 ⟨Fr.refl _ _,hr,hB,own_none,.nil,fun i h=>h.elim,fun i h=>h.elim,(fun i h=>by cases h),fun i h=>h.elim,by simp⟩
theorem Inn.read (h:Inn B b W w r dv av ds al D) (hg:w.grownBy w' (some b)) (hr:IsRw B w' b r'):Inn B b W w' r' dv av ds al D:=by
 have hb:=h.rw.lt
 have hWB:=h.B
 exact ⟨h.fr.by hg (fun i e=>.inl (oI e).symm),hr,h.B,
  owns_keep h.d (fun i hi=>hg.block i (owns_own h.d hi).1 (fun e=>by have:=(owns_own h.d hi).2.1; have:=oI e; omega)),
  h.a.keep (Fr.of_by hg) (fun i hi=>⟨(h.od i hi).1,fun e=>by have:=h.low i hi; omega⟩) (fun i hi e=>by have:=(h.a.own hi).2; omega),
  h.od.next hg.size,h.oa.next hg.size,h.ap,h.low,h.rng⟩
theorem Inn.next (h:Inn B b W w r dv av ds al D) (hb:Bw w w'):Inn B b W w' r dv av ds al D:=
 ⟨h.fr.trans (S':=fun _=>False) (Fr.of_below hb) (fun _ h=>h.elim),h.rw.keep (hb.mono (Nat.le_trans h.B h.fr.size)),h.B,h.d.keep hb,h.a.next hb (fun i hi=>(h.od i hi).1),h.od.next hb.size,h.oa.next hb.size,h.ap,h.low,h.rng⟩
theorem Inn.rwBy (h:Inn B b W w r dv av ds al D) {o:Option Nat} (hg:w.grownBy w' o) (ho:∀ i,o = some i → W.heap.size ≤ i):IsRw B w' b r:=
 h.rw.keep ⟨hg.os,hg.tape,hg.output,hg.size,fun i hi=>hg.block i (by have:=h.B; have:=h.fr.size; omega) (fun e=>by have h1:=ho i e.symm; have:=h.B; omega)⟩
theorem Inn.addD {T:TypeId} {xv:Value} {x:Int} (h:Inn B b W w r dv av ds al D) (hx:Ints w xv [x]) (hl:ds.length < 1099511627776)
  (k:∀ v w',Inn B b W w' r v av (ds ++ [x]) al D → K v w'):oM Tryz.prog (.call { callee:=.builtin .append,args:=#[.tmp 0,.tmp 1],argTypes:=#[24,24] }) T [dv,xv] K w:=by
 have hown:=fun i (hi:dv.ownBlock = some i)=>(owns_own h.d hi)
 refine append1g h.d h.fr.size hx hl (fun v w' ho hg hv=>k v w' ⟨h.fr.by hg (fun i e=>.inr (hown i e).2.1),h.rwBy hg (fun i e=>(hown i e).2.1),h.B,ho,h.a.keep (Fr.of_by' hg) (fun i hi=>⟨(h.od i hi).1,(h.od i hi).2⟩) (fun i hi e=>h.ap i e hi),?_,h.oa.next hg.size,?_,h.low,?_⟩)
 ·intro i hi
  refine ⟨lL (h.od i hi).1 hg.size,fun e=>?_⟩
  rcases hv i e with h1 | h1
  ·exact (h.od i hi).2 h1
  ·have:=(h.od i hi).1; omega
 ·intro i e1 e2
  rcases hv i e1 with h1 | h1
  ·exact h.ap i h1 e2
  ·have:=(h.a.own e2).1; omega
 ·intro y hy
  rcases List.mem_append.1 hy with hy | hy
  ·exact h.rng y hy
  ·exact hx.rng y hy
theorem Inn.addA {T:TypeId} {g n c gb:Nat} {ad:Option Addr} {x:List Int} {E:Nat → Prop} (h:Inn B b W w r dv av ds al D) (hh:Holds w gb 24 [.slice ad n c]) (hx:FP E w (fun w=>Ints w (.slice ad n c) x)) (hE:∀ i,E i → W.heap.size ≤ i ∧ i < w.heap.size ∧ dv.ownBlock ≠ some i ∧ av.ownBlock ≠ some i) (hl:al.length < 1099511627776)
  (k:∀ v w',Inn B b W w' r dv v ds (al ++ [x]) (fun i=>D i ∨ E i) → K v w'):oM Tryz.prog (.call { callee:=.builtin .append,args:=#[.tmp 0,.tmp 1],argTypes:=#[30,30] }) T [av,.slice (some ⟨gb,0,none⟩) 1 g] K w:=by
 have hD':Off (fun i=>D i ∨ E i) w av:=fun i hi=>hi.elim (h.oa i) (fun hi=>⟨(hE i hi).2.1,(hE i hi).2.2.2⟩)
 have hD2:Off (fun i=>D i ∨ E i) w dv:=fun i hi=>hi.elim (h.od i) (fun hi=>⟨(hE i hi).2.1,(hE i hi).2.2.1⟩)
 refine ints_append (h.a.mono fun i hi=>.inl hi) h.fr.size hh (hx.mono fun i hi=>.inr hi) hD' hl (fun v w' hg hb hv ho=>k v w' ⟨h.fr.by hb (fun i e=>.inr (h.a.own e).2),h.rwBy hb (fun i e=>(h.a.own e).2),h.B,owns_keep h.d (fun i hi=>hb.block i (owns_own h.d hi).1 (fun e=>h.ap i hi (by first | exact e | exact e.symm))),hg,hD2.next hb.size,ho,?_,?_,h.rng⟩)
 ·intro i e1 e2
  rcases hv i e2 with h1 | h1
  ·exact h.ap i e1 h1
  ·have:=(owns_own h.d e1).1; omega
 ·rintro i (hi | hi)
  ·exact h.low i hi
  ·exact (hE i hi).1
end
theorem itemsR_succ (k:Nat) (r:Rw):itemsR (k + 1) r = (((nextR r).1 :: (itemsR k (takeR (countR (nextR r).2).1 (countR (nextR r).2).2).2).1.1,(takeR (countR (nextR r).2).1 (countR (nextR r).2).2).1 :: (itemsR k (takeR (countR (nextR r).2).1 (countR (nextR r).2).2).2).1.2),(itemsR k (takeR (countR (nextR r).2).1 (countR (nextR r).2).2).2).2):=rfl
theorem clausesR_succ (k:Nat) (r:Rw):clausesR (k + 1) r = (((itemsR (countR r).1 (countR r).2).1.1 :: (clausesR k (itemsR (countR r).1 (countR r).2).2).1.1,(itemsR (countR r).1 (countR r).2).1.2 :: (clausesR k (itemsR (countR r).1 (countR r).2).2).1.2),(clausesR k (itemsR (countR r).1 (countR r).2).2).2):=rfl
def IjJ (B b N:Nat) (W:World) (n:Nat) (R:(List Int × L2) × Rw) (vs:List Value) (w':World):Prop:=∃ (dv u av:Value) (k:Nat) (r:Rw) (ds:List Int) (al:L2) (D:Nat → Prop),vs = [dv,u,av,.int .i64 (k:Int)] ∧ k ≤ n ∧ Inn B b W w' r dv av ds al D ∧ r.left.length ≤ N ∧ ds.length = k ∧ al.length = k ∧
 R = ((ds ++ (itemsR (n - k) r).1.1,al ++ (itemsR (n - k) r).1.2),(itemsR (n - k) r).2)
@[reducible] def zPv:Value:=prfV (.slice none 0 0) (.slice none 0 0)
theorem al_prf (w:World):(Instr.alloc 34 true (.tuple #[])).run Tryz.prog w = .ok (.pointer (some ⟨w.heap.size,0,none⟩)) (w.alloc (.cells [.slice none 0 0,.slice none 0 0].toArray 34)):=by kernel_rfl
theorem sz_prf (w:World):(sizeOf 34).run Tryz.prog w = .ok 2 w:=by kernel_rfl
theorem prf_one (ad ad2:Option Addr) (n c n2 c2:Nat):∀ u ∈ prfC (.slice ad n c) (.slice ad2 n2 c2),u.oneCell' = true:=by
 intro u hu
 simp only [prfC,List.mem_cons,List.not_mem_nil,or_false] at hu
 rcases hu with rfl | rfl <;> rfl
theorem build_prf0 (T:TypeId):oM Tryz.prog (Go.Op.build 34 #[]) T [] = pureM zPv:=by
 funext K w
 kernel_rfl
theorem build_row (T:TypeId) (ad:Option Addr) (n c:Nat):oM Tryz.prog (Go.Op.build 160 #[(0,(.tmp 0))]) T [.slice ad n c] = pureM (.agg #[.slice ad n c,.bool false]):=by
 funext K w
 kernel_rfl
def OjJ (B3 b15 b6 N n:Nat) (W:World) (R:(L2 × L3) × Rw) (vs:List Value) (w':World):Prop:=∃ (u1 u2 u3 dv av:Value) (i:Nat) (r:Rw) (ds:L2) (al:L3) (D:Nat → Prop),vs = [u1,u2,u3,.int .i64 (i:Int)] ∧ i ≤ n ∧ Fr (fun j=>j = b15 ∨ j = b6) W w' ∧ IsRw B3 w' b15 r ∧ Holds w' b6 34 [dv,av] ∧
 ListG W.heap.size D w' dv ds ∧ NumG W.heap.size D w' av al ∧ Off D w' dv ∧ Off D w' av ∧ apart dv av ∧ (∀ j,D j → W.heap.size ≤ j) ∧ r.left.length ≤ N ∧ ds.length = i ∧ al.length = i ∧
 R = ((ds ++ (clausesR (n - i) r).1.1,al ++ (clausesR (n - i) r).1.2),(clausesR (n - i) r).2)
theorem knm_fr {S:Nat → Prop} {g n:Nat} (h:KnM w0 [] g n w) (hf:Fr S w w') (hS:∀ i,S i → w0.heap.size ≤ i ∧ i ≠ g):KnM w0 [] g n w':=by
 have hlt:=mine_lt h.mine
 refine ⟨⟨⟨hf.os.trans h.kn.below.os,hf.tape.trans h.kn.below.tape,hf.output.trans h.kn.below.output,Nat.le_trans h.kn.below.size hf.size,fun i hi=>(hf.block i (lL hi h.kn.below.size) (fun e=>by have:=(hS i e).1; omega)).trans (h.kn.below.block i hi)⟩,trivial⟩,?_,h.base,h.off⟩
 obtain ⟨cur,T,h1,h2⟩:=h.mine
 exact ⟨cur,T,(hf.block g hlt (fun e=>(hS g e).2 rfl)).trans h1,h2⟩
theorem own_inB {B:Nat} {v:Value} {l:List Int} (h:OwnI w B v l) {i:Nat} (hi:Value.inBlock v = some i):v.ownBlock = some i:=by
 rcases h.2 with ⟨rfl,_⟩ | ⟨g,cap,cur,rfl,_⟩
 ·cases hi
 ·exact hi
theorem Decode_ok (s:Bytes) (hs:s.length < 1000000000) (hl:Cd.LaidE w) (k:∀ w' dv av,Bw w w' → ListsR w' dv (decodeM s).1.1 → NumsR w' av (decodeM s).1.2 → K (.tuple #[prfV dv av,.bool (decodeM s).2]) w'):callM Tryz.prog 52 #[.string ⟨s.toArray⟩] K w:=by
 apply sh_52_ok
 unfold sh_52
 refine alloc_mine (n:=2) al_prf rfl (.start w) fun g W2 hk hb2 hg=>?_
 have hgW:=mine_lt hk.mine
 refine Cd.open_ok s (fun w1 hr1 hb1=>?_)
 have hk1:=hk.next hb1
 have hl1:=hl.below hk1.below hl.size
 have h8:8 ≤ W2.heap.size:=Nat.le_trans hl.size hb2.size
 refine Cd.itemsNum_ok W2.heap.size _ hl1 h8 (by show s.length < _; omega) Rd.ok_good hr1 (fun v w2 hr2 hg2 ho2=>?_)
 have hfr:FrG W2.heap.size w1 w2:=(Fr.refl _ _).by hg2 (fun i e=>.inl (oI e).symm)
 have hk2:=hk1.fr hfr (by simp) (by omega) hb2.size
 have hvl:=rdNums_len s
 have hdec:decodeM s = if doneR (rdNums ⟨s,false⟩).2 && !(rowsM (rdNums ⟨s,false⟩).1).2.bad && decide ((rowsM (rdNums ⟨s,false⟩).1).2.left = []) then ((rowsM (rdNums ⟨s,false⟩).1).1,true) else (([],[]),false):=rfl
 have k2:∀ w' dv av r,decodeM s = r → Bw w w' → ListsR w' dv r.1.1 → NumsR w' av r.1.2 → K (.tuple #[prfV dv av,.bool r.2]) w':=fun w' dv av r e hb h1 h2=>by rw [← e] at h1 h2 ⊢; exact k w' dv av hb h1 h2
 clear k
 obtain ⟨⟨vs,r2⟩,hrd⟩:∃ p,rdNums ⟨s,false⟩ = p:=⟨_,rfl⟩
 rw [hrd] at hdec hr2 ho2 hvl
 simp only at hdec hr2 ho2 hvl
 have bad:∀ w2 (hk:KnM w [] g 2 w2),decodeM s = (([],[]),false) →
   oM Tryz.prog (Go.Op.store 34 (.tmp 0) (.tmp 1)) 0 [.pointer (some ⟨g,0,none⟩),zPv] (fun _ w=>
    ∃ r,(do loadVar 34 (← asAddr (.pointer (some ⟨g,0,none⟩))):Sem Value).run Tryz.prog w = .ok r w ∧ K (.tuple #[r,(.bool false)]) w) w2:=fun w2 hk e=>
  store_mine sz_prf rfl rfl (prf_one none none 0 0 0 0) hk (fun W3 hk hc=>⟨_,by simp [go_sem,hc],k2 _ _ _ _ e hk.below SRow.nil SRow.nil⟩)
 obtain ⟨vad,vc,rfl⟩:=owns_len ho2
 rw [build_row]
 refine arr_box (cs:=[.slice vad vs.length vc,.bool false]) rfl (fun b15 w3 h3 hg3 hh3=>?_)
 have hk3:=hk2.next h3
 have hr3:Cd.IsRd w3 W2.heap.size r2:=by
  unfold Cd.IsRd at hr2 ⊢
  exact (h3.block _ (Array.getElem?_eq_some_iff.1 hr2).1).trans hr2
 refine Cd.done_ok _ r2 hr3 ?_
 have hdd:Cd.rdDone r2 = doneR r2:=rfl
 rw [hdd]
 cases hd:doneR r2 with
 | false=>
  rw [hd] at hdec
  refine Xa0 ?_
  exact bad _ hk3 (by rw [hdec]; simp)
 | true=>
 rw [hd,bT] at hdec
 refine Xb2_0 ?_
 refine arr_alloc al_prf (fun b6 w4 h4 hg4 hh4=>?_)
 have hk4:=hk3.next h4
 have hh15:=hh3.next h4
 have hin:∀ x ∈ vs,I64 x:=by
  rcases rdNums_some ⟨s,false⟩ Rd.ok_good with h | ⟨vs',t,h,_,_,h'⟩
  ·rw [hrd] at h; cases h; simp
  ·rw [hrd] at h; cases h; exact fun x hx=>(InR_iff x).1 (h' x hx)
 have ho2':w2.ownsRow w1.heap.size 3 1 (.slice vad vs.length vc) vs.length (flat intC vs):=by rw [flat_int]; exact ho2
 have hints:Ints w2 (.slice vad vs.length vc) vs:=Ints.of_owns ho2' hin (by omega)
 have hcc:CI w2 (.slice vad vs.length vc) vs:=by
  refine ⟨hints,vad,vc,rfl,?_,?_⟩
  ·rcases ho2'.2 with ⟨h1,h2⟩ | ⟨g',cap,cur,h1,_,_,h2,_⟩
   ·injection h1 with ha hb hc; omega
   ·injection h1 with ha hb hc; omega
  ·rintro rfl
   rcases ho2'.2 with ⟨h1,h2⟩ | ⟨g',cap,cur,h1,_,_,h2,_⟩
   ·injection h1
   ·cases h1
 have hin2:∀ i,Value.inBlock (.slice vad vs.length vc) = some i → i < w2.heap.size:=fun i hi=>by
  rcases ho2'.2 with ⟨h1,_⟩ | ⟨g',cap,cur,h1,_,h2,_⟩
  ·injection h1 with ha hb hc; subst ha; cases hi
  ·cases h1; cases hi; exact (Array.getElem?_eq_some_iff.1 h2).1
 have s3:=h3.size
 have s4:=h4.size
 have hrw:IsRw w3.heap.size w4 b15 ⟨vs,false⟩:=⟨_,hh15,hcc.keep (by omega) (fun i hi _=>(h4.block i (by have:=hin2 i hi; omega)).trans (h3.block i (hin2 i hi))),hh3.lt,fun i hi=>⟨by have:=hin2 i hi; omega,by have:=hin2 i hi; omega⟩⟩
 refine count_ok hrw (fun w5 hr5 hg5=>?_)
 have hcl:=countR_len ⟨vs,false⟩
 have hn:(countR ⟨vs,false⟩).1 < 1000000000:=by have:=hcl.2.1; simp only at this; omega
 have hN:(countR ⟨vs,false⟩).2.left.length ≤ 1000000000:=by have:=hcl.1; simp only at this; omega
 have hR0:rowsM vs = clausesR (countR ⟨vs,false⟩).1 (countR ⟨vs,false⟩).2:=rfl
 generalize rowsM vs = R at *
 generalize (countR ⟨vs,false⟩).1 = n at *
 generalize (countR ⟨vs,false⟩).2 = r0 at *
 have hlt15:=hh15.lt
 have hlt6:=hh4.lt
 have hg4:g < w4.heap.size:=mine_lt hk4.mine
 have hne:b6 ≠ b15:=by have:=hh3.lt; omega
 have hh6:=hh4.other hg5 hne
 refine ⟨OjJ w3.heap.size b15 b6 1000000000 n w4 R,(fun vs _=>match vs with | [_,_,_,.int _ i]=>n - i.toNat | _=>0),⟨_,_,_,_,_,0,r0,[],[],fun _=>False,rfl,by omega,Fr.of_by hg5 |>.mono (fun i _ e=>.inl e),hr5,hh6,.nil,.nil,fun i h=>h.elim,fun i h=>h.elim,(fun i h=>by cases h),fun i h=>h.elim,hN,rfl,rfl,by simpa using hR0⟩,?_⟩
 rintro _ _ w6 ⟨u1,u2,u3,dv,av,i,r,ds,al,D,rfl,hi,hfr6,hr6,hh6,hgd,hga,hod,hoa,hap,hlow,hN,hdl,hal,hR⟩
 obtain ⟨dad,dc,rfl⟩:=hgd.isSlice
 obtain ⟨aad,ac,rfl⟩:=hga.isSlice
 have hk6:KnM w [] g 2 w6:=knm_fr hk4 hfr6 (fun j hj=>by
  have:=hk2.below.size
  rcases hj with rfl | rfl
  ·exact ⟨by omega,by have:=mine_lt hk2.mine; omega⟩
  ·exact ⟨by omega,by have:=mine_lt hk3.mine; omega⟩)
 by_cases hin:i = n
 ·rw [show n - i = 0 by omega] at hR
  have hR:R = ((ds,al),r):=by rw [hR]; simp [clausesR]
  obtain ⟨lv,hhr,hcr,hbr,hbi⟩:=id hr6
  obtain ⟨ad,c,rfl,hcap,hnn⟩:=id hcr.2
  rw [hR] at hdec
  have hll:=hcr.1.len
  cases hbad:r.bad with
  | true=>
   rw [hbad] at hhr
   refine Xa hhr.are ?_
   exact bad _ hk6 (by rw [hdec]; simp [hbad])
  | false=>
  rw [hbad] at hhr
  by_cases hl0:(0:Int) < r.left.length
  ·have hl0':¬ r.left = []:=fun e=>by rw [e] at hl0; simp at hl0
   refine Xa (An2 hhr.are @hl0) ?_
   exact bad _ hk6 (by rw [hdec]; simp [hl0'])
  ·have hl0':r.left = []:=List.eq_nil_of_length_eq_zero (by omega)
   refine Xa (An3 hhr.are @hl0 hh6.are) ?_
   have hdec:decodeM s = ((ds,al),true):=by rw [hdec]; simp [hbad,hl0']
   obtain ⟨W3,e3,hg3',hm3,hc3⟩:=store_run (P:=Tryz.prog) (w:=w6) (W:=w6) sz_prf (x:=prfV (.slice dad ds.length dc) (.slice aad al.length ac)) (xs:=prfC (.slice dad ds.length dc) (.slice aad al.length ac)) rfl rfl (prf_one dad aad ds.length dc al.length ac) hk6.mine
   rw [kS,oM_store,e3]
   have hk7:=hk6.kn.wrote hg3' hk6.base hk6.off
   have hDg:∀ i,D i → i < w6.heap.size ∧ ¬ i = g:=fun i hi=>⟨(hod i hi).1,fun e=>by have:=hlow i hi; omega⟩
   have hgd3:=hgd.keep (Fr.of_by hg3') hDg (fun i hi e=>by have:=(hgd.own hi).2; omega)
   have hga3:=hga.keep (Fr.of_by hg3') hDg (fun i hi e=>by have:=(hga.own hi).2; omega)
   exact ⟨prfV (.slice dad ds.length dc) (.slice aad al.length ac),by simp [go_sem,hc3],k2 W3 _ _ _ hdec hk7.below (hgd3.srow (by decide) (show ds.length ≤ _ by omega)) (hga3.srow (by decide) (show al.length ≤ _ by omega))⟩
 obtain ⟨m,hm⟩:∃ m,n - i = m + 1:=⟨n - i - 1,by omega⟩
 rw [hm,clausesR_succ] at hR
 refine Xb2_0 ?_
 refine count_ok hr6 (fun w7 hr7 hg7=>?_)
 have hcl:=countR_len r
 have hn1:(countR r).1 < 1000000000 + 1:=by omega
 have hN1:(countR r).2.left.length ≤ 1000000000:=by omega
 generalize (countR r).1 = n1 at *
 generalize (countR r).2 = r1 at *
 have hB7:w4.heap.size ≤ w7.heap.size:=Nat.le_trans hfr6.size hg7.size
 refine ⟨IjJ w3.heap.size b15 1000000000 w7 n1 (itemsR n1 r1),(fun vs _=>match vs with | [_,_,_,.int _ i]=>n1 - i.toNat | _=>0),⟨_,_,_,0,r1,[],[],fun _=>False,rfl,by omega,Inn.start hr7 (Nat.le_trans s4 hB7),hN1,rfl,rfl,by simp⟩,?_⟩
 generalize hR1:itemsR n1 r1 = R1 at *
 rintro _ _ w8 ⟨dv1,u4,av1,kk,r2,ds1,al1,D1,rfl,hkk,hInn,hN2,hdl1,hal1,hRR⟩
 obtain ⟨d1ad,d1c,hdv1⟩:=owns_len hInn.d
 subst hdv1
 obtain ⟨a1ad,a1c,hav1⟩:=hInn.a.isSlice
 subst hav1
 by_cases hkn:kk = n1
 ·rw [show n1 - kk = 0 by omega] at hRR
  have hRR:R1 = ((ds1,al1),r2):=by rw [hRR]; simp [itemsR]
  have h6s:=hg7.size
  have h7s:=hInn.fr.size
  have hf68:Fr (fun j=>j = b15) w6 w8:=(Fr.of_by hg7).trans hInn.fr (fun i e=>.inl e)
  have h46:=hfr6.size
  have hD8:∀ i,D i → i < w6.heap.size ∧ ¬ i = b15:=fun i hi=>⟨(hod i hi).1,fun e=>by have:=hlow i hi; omega⟩
  have hgd8:=hgd.keep hf68 hD8 (fun i hi e=>by have:=(hgd.own hi).2; omega)
  have hga8:=hga.keep hf68 hD8 (fun i hi e=>by have:=(hga.own hi).2; omega)
  have hh8:Holds w8 b6 34 [.slice dad ds.length dc,.slice aad al.length ac]:=(hf68.block b6 hh6.lt (fun e=>hne e)).trans hh6
  have hodr:Below w8.heap.size w8 { w8 with drawn:=w8.drawn + 1 }:=.drawn
  have hI9:=hInn.next hodr
  have hgd9:=hgd8.next hodr (fun i hi=>lL (hD8 i hi).1 (Nat.le_trans h6s h7s))
  have hga9:=hga8.next hodr (fun i hi=>lL (hD8 i hi).1 (Nat.le_trans h6s h7s))
  have hh9:=hh8.next hodr
  have hs89:({ w8 with drawn:=w8.drawn + 1 }:World).heap.size = w8.heap.size:=rfl
  have hf69:Fr (fun j=>j = b15) w6 { w8 with drawn:=w8.drawn + 1 }:=hf68.drew
  have hown1:=fun i hi=>(hgd.own (i:=i) hi)
  have hown2:=fun i hi=>(hga.own (i:=i) hi)
  generalize hW9:({ w8 with drawn:=w8.drawn + 1 }:World) = W9 at *
  have hd1:=fun i (hi:(Value.slice d1ad ds1.length d1c).ownBlock = some i)=>owns_own hI9.d hi
  have ha1:=fun i (hi:(Value.slice a1ad al1.length a1c).ownBlock = some i)=>hI9.a.own hi
  have hoff:∀ (v:Value),(∀ i,v.ownBlock = some i → i < w6.heap.size) → Off D w6 v → Off (fun i=>D i ∨ D1 i ∨ (Value.slice d1ad ds1.length d1c).ownBlock = some i ∨ (Value.slice a1ad al1.length a1c).ownBlock = some i) W9 v:=by
   intro v hv hDv i hi
   rcases hi with hi | hi | hi | hi
   ·exact ⟨by have:=(hDv i hi).1; omega,(hDv i hi).2⟩
   ·exact ⟨(hI9.od i hi).1,fun e=>by have:=hv i e; have:=hI9.low i hi; omega⟩
   ·exact ⟨(hd1 i hi).1,fun e=>by have:=hv i e; have:=(hd1 i hi).2.1; omega⟩
   ·exact ⟨(ha1 i hi).1,fun e=>by have:=hv i e; have:=(ha1 i hi).2; omega⟩
  have hlow':∀ i,(D i ∨ D1 i ∨ (Value.slice d1ad ds1.length d1c).ownBlock = some i ∨ (Value.slice a1ad al1.length a1c).ownBlock = some i) → w4.heap.size ≤ i:=by
   intro i hi
   rcases hi with hi | hi | hi | hi
   ·exact hlow i hi
   ·have:=hI9.low i hi; omega
   ·have:=(hd1 i hi).2.1; omega
   ·have:=(ha1 i hi).2; omega
  have hduo:DuoI w4.heap.size (fun i=>D i ∨ D1 i ∨ (Value.slice d1ad ds1.length d1c).ownBlock = some i ∨ (Value.slice a1ad al1.length a1c).ownBlock = some i) W9 (.slice dad ds.length dc) (.slice aad al.length ac) (.slice d1ad ds1.length d1c) (.slice a1ad al1.length a1c) ds al ds1 al1:=
   ⟨hgd9.mono (fun i hi=>.inl hi),hga9.mono (fun i hi=>.inl hi),hoff _ (fun i hi=>(hown1 i hi).1) hod,hoff _ (fun i hi=>(hown2 i hi).1) hoa,hap,by omega,
    ((hI9.d.ints hI9.rng (by omega)).fp).mono (fun i hi=>.inr (.inr (.inl (own_inB hI9.d hi.1)))),(hI9.a.fp (by decide) (by omega)).mono (fun i hi=>hi.elim (fun h=>.inr (.inl h)) (fun h=>.inr (.inr (.inr h)))),by omega,by omega⟩
  obtain ⟨D',hD',hlow2⟩:∃ D':Nat → Prop,D' = (fun i=>D i ∨ D1 i ∨ (Value.slice d1ad ds1.length d1c).ownBlock = some i ∨ (Value.slice a1ad al1.length a1c).ownBlock = some i) ∧ ∀ i,D' i → w4.heap.size ≤ i:=⟨_,rfl,fun i hi=>hlow' i hi⟩
  rw [← hD'] at hduo
  clear hD' hlow' hoff
  have h6W:b6 < W9.heap.size:=hh9.lt
  have hcell:∀ w',Fr (fun i=>(Value.slice dad ds.length dc).ownBlock = some i ∨ (Value.slice aad al.length ac).ownBlock = some i) W9 w' → Holds w' b6 34 [.slice dad ds.length dc,.slice aad al.length ac]:=fun w' h=>(h.block b6 h6W (fun e=>by
   rcases e with e | e
   ·have:=(hown1 _ e).2; omega
   ·have:=(hown2 _ e).2; omega)).trans hh9
  have hcellC:∀ w',DuoC w4.heap.size D' W9 (.slice dad ds.length dc) (.slice aad al.length ac) ds al w' → Holds w' b6 34 [.slice dad ds.length dc,.slice aad al.length ac]:=fun w' h=>hcell w' h.1
  refine Xa0 ?_
  refine ⟨DuoC w4.heap.size D' W9 (.slice dad ds.length dc) (.slice aad al.length ac) ds al,by rw [hW9]; exact ⟨Fr.refl _ _,hduo.a,hduo.b⟩,rfl,?_⟩
  repeat (any_goals (first
  | (with_reducible refine pX ?_)
  | ((with_reducible refine idOH ?_); (with_reducible refine oH_of ⟨_,rfl⟩ (fun W0 hW0=>by (refine oG (fun X Y=>?_)); simp [go_sem,(hcellC _ hW0).are]; (first | exact Y _ _ ⟨rfl,rfl⟩ | exact ⟨by omega,Y _ _ ⟨rfl,rfl⟩⟩)) ?_))))
  refine duo_free hduo (i1:=0) (fun K' w h=>?_) (fun w v u hfr hA hB hap'=>?_)
  ·refine Xa0 ?_
   exact h
  have hh10:=hcell w hfr
  obtain ⟨vad',vc',rfl⟩:=hA.1.isSlice
  obtain ⟨uad',uc',rfl⟩:=hB.1.isSlice
  refine arr_set (i:=0) sz_intsR rfl rfl hh10 (by simp) (fun w11 hg11 hh11=>?_)
  refine Xb1_0 ?_
  refine arr_set (i:=1) sz_intsR rfl rfl hh11 (by simp) (fun w12 hg12 hh12=>?_)
  refine Xa0 ?_
  have hg13:=grown_two hg11 hg12
  have hws:=hfr.size
  have hb6v:∀ i,D' i → i < w.heap.size ∧ ¬ i = b6:=fun i hi=>⟨(hA.2.1 i hi).1,fun e=>by have:=hlow2 i hi; omega⟩
  have hvB:∀ i,(Value.slice vad' (ds ++ [ds1]).length vc').ownBlock = some i → ¬ i = b6:=fun i hi e=>by have:=(hA.1.own hi).2; omega
  have huB:∀ i,(Value.slice uad' (al ++ [al1]).length uc').ownBlock = some i → ¬ i = b6:=fun i hi e=>by have:=(hB.1.own hi).2; omega
  have hf46:Fr (fun j=>j = b15 ∨ j = b6) w4 w12:=((hfr6.trans hf69 (fun i e=>.inl (.inl e))).trans hfr (fun i e=>.inr (e.elim (fun e=>(hown1 i e).2) (fun e=>(hown2 i e).2)))).by hg13 (fun i e=>.inl (.inr (oI e).symm))
  have hrw12:IsRw w3.heap.size w12 b15 r2:=hI9.rw.keep ⟨hg13.os.trans hfr.os,hg13.tape.trans hfr.tape,hg13.output.trans hfr.output,Nat.le_trans hfr.size hg13.size,fun i hi=>(hg13.block i (by omega) (fun e=>by have:=oI e; omega)).trans (hfr.block i (by omega) (fun e=>by
   rcases e with e | e
   ·have:=(hown1 _ e).2; omega
   ·have:=(hown2 _ e).2; omega))⟩
  refine ⟨⟨_,_,_,_,_,i + 1,r2,ds ++ [ds1],al ++ [al1],D',rfl,by omega,hf46,hrw12,hh12,hA.1.keep (Fr.of_by hg13) hb6v hvB,hB.1.keep (Fr.of_by hg13) hb6v huB,hA.2.1.next hg13.size,hB.2.1.next hg13.size,hap',hlow2,by omega,by rw [List.length_append,List.length_singleton]; omega,by rw [List.length_append,List.length_singleton]; omega,?_⟩,by show n - (((i + 1:Nat):Int)).toNat < n - ((i:Nat):Int).toNat; omega⟩
  rw [hR,hRR,show n - (i + 1) = m by omega]
  simp
 obtain ⟨m1,hm1⟩:∃ m,n1 - kk = m + 1:=⟨n1 - kk - 1,by omega⟩
 rw [hm1,itemsR_succ] at hRR
 refine Xb2_0 ?_
 refine next_ok hInn.rw (fun w9 hr9 hg9 hx9=>?_)
 have hI9:=hInn.read hg9 hr9
 have hnl:=nextR_len r2
 generalize (nextR r2).1 = x at *
 generalize (nextR r2).2 = r3 at *
 refine mk1g x hx9 (fun v10 w10 h10 hi10 _=>?_)
 refine (hI9.next h10).addD hi10 (by omega) (fun dv2 w11 hI11=>?_)
 refine count_ok hI11.rw (fun w12 hr12 hg12=>?_)
 have hI12:=hI11.read hg12 hr12
 have hcl3:=countR_len r3
 generalize (countR r3).1 = n3 at *
 generalize (countR r3).2 = r4 at *
 obtain ⟨lv,hhr,hcr,hbr,hbi⟩:=id hI12.rw
 obtain ⟨ad,c,hlv,hcap,hnn⟩:=id hcr.2
 subst hlv
 refine Xb3 hhr.are ?_
 refine CI.to hcr n3 hcl3.2.2 (fun v13 hi13=>?_)
 refine Clone_ok hi13 (by rw [List.length_take]; omega) (fun v14 w14 ho14 h14 hown14=>?_)
 have hI14:=hI12.next h14
 obtain ⟨ad14,c14,hv14⟩:=owns_len ho14
 subst hv14
 refine lit_ints _ _ _ (fun g15 w15 h15 hg15 hh15'=>?_)
 have hI15:=hI14.next h15
 have h7s:=hI12.fr.size
 have h14s:=h14.size
 have h15s:=h15.size
 have hi14:Ints w14 (.slice ad14 (r4.left.take n3).length c14) (r4.left.take n3):=Ints.of_owns ho14 hi13.rng hi13.len
 refine hI15.addA (E:=fun i=>(Value.slice ad14 (r4.left.take n3).length c14).ownBlock = some i) hh15' ((hi14.fp.mono (fun i hi=>own_inB ho14 hi.1)).next h15 (fun i hi=>(owns_own ho14 hi).1)) (fun i hi=>?_) (by omega) (fun av2 w16 hI16=>?_)
 ·have e1:=hown14 i hi
  have e2:=(owns_own ho14 hi).1
  exact ⟨by omega,by omega,fun e=>by have:=(owns_own hI12.d e).1; omega,fun e=>by have:=(hI12.a.own e).1; omega⟩
 obtain ⟨lv2,hhr2,hcr2,hbr2,hbi2⟩:=id hI16.rw
 obtain ⟨ad2,c2,hlv2,hcap2,hnn2⟩:=id hcr2.2
 subst hlv2
 refine Xb3 hhr2.are ?_
 refine CI.from hcr2 n3 hcl3.2.2 (fun v17 hc17 hb17=>?_)
 obtain ⟨ad17,c17,hv17,_,_⟩:=id hc17.2
 subst hv17
 refine Xb2_0 ?_
 refine arr_set (i:=0) sz_intsR rfl rfl hhr2 (by simp) (fun w18 hg18 hh18=>?_)
 have hI18:=hI16.read (r':=(takeR n3 r4).2) hg18 ⟨_,hh18,hc17.keep hg18.size (fun i hi hlt=>hg18.block i hlt (fun e=>(hbi2 i (hb17 ▸ hi)).2 (by first | exact oI e | exact (oI e).symm))),hbr2,fun i hi=>hbi2 i (hb17 ▸ hi)⟩
 have htl:(takeR n3 r4).2.left.length ≤ r4.left.length:=by unfold takeR; simp
 have eta:(takeR n3 r4).1 = r4.left.take n3:=rfl
 rw [eta] at hRR
 generalize (takeR n3 r4).2 = r5 at *
 refine Xa0 ?_
 refine ⟨⟨_,_,_,kk + 1,r5,_,_,_,rfl,by omega,hI18,by omega,by rw [List.length_append,List.length_singleton]; omega,by rw [List.length_append,List.length_singleton]; omega,?_⟩,by show n1 - (((kk + 1:Nat):Int)).toNat < n1 - ((kk:Nat):Int).toNat; omega⟩
 rw [hRR,show n1 - (kk + 1) = m1 by omega]
 simp
end
end Go.Proofs
namespace Go.Proofs
open Go Go.Sh Tryz
def sh_62 (a0 a1:Value) (K:VK) (w:World):Prop:=
 kN 24 a0 (fun v7 w=>
 kN 24 a1 (fun v9 w=>
 kB .neq 3 4 v7 v9 (fun v10 w=>
 condM v10
 (K (.bool false) w)
 (loopM [(.bool false),(.int .i64 0)] w (fun J_4 m_5 l_6 u_l_6 w0_l_6=>(fun w=>(
 kN 24 a0 (fun v13 w=>
 kB .lss 3 4 (l_6.getD 1 undef) v13 (fun v14 w=>
 condM v14
 (quietM w (fun C_9=>(oQ prog (.indexAddr 24 (.tmp 0) (.tmp 1)) 0 [a0,(l_6.getD 1 undef)] C_9 (fun v19=>
 oQ prog (.load 3 (.tmp 0)) 3 [v19] C_9 (fun v20=>
 oQ prog (.indexAddr 24 (.tmp 0) (.tmp 1)) 0 [a1,(l_6.getD 1 undef)] C_9 (fun v23=>
 oQ prog (.load 3 (.tmp 0)) 3 [v23] C_9 (fun v24=>
 oQ prog (.binOp .neq 3 (.tmp 0) (.tmp 1) 3) 4 [v20,v24] C_9 (fun v25=>
 ∀ w,C_9 w → (condM v25
 (K (.bool false) w)
 (kB .add 3 3 (l_6.getD 1 undef) (.int .i64 1) (fun v16 w=>
 J_4 [(l_6.getD 0 undef),v16] w ∧ m_5 [(l_6.getD 0 undef),v16] w < m_5 l_6 w0_l_6) w))))))))))
 (K (.bool true) w)) w) w)) w0_l_6))) w) w) w
theorem sh_62_ok {a0 a1:Value} {K:VK} {w:World} (h:sh_62 a0 a1 K w):callM prog 62 #[a0,a1] K w:=
 calls_of_code (fun _=>0) (fn:=Tryz.f62) (rs:=[.tmp 4]) Tryz.func62 rfl rfl (by kernel_rfl) (nB rfl) (Eq.mp (by kernel_rfl) h)
def sh_105 (a0 a1:Value) (K:VK) (w:World):Prop:=
 kN 30 a0 (fun v7 w=>
 kN 30 a1 (fun v9 w=>
 kB .neq 3 4 v7 v9 (fun v10 w=>
 condM v10
 (K (.bool false) w)
 (loopM [(.bool false),(.int .i64 0)] w (fun J_4 m_5 l_6 u_l_6 w0_l_6=>(fun w=>(
 kN 30 a0 (fun v13 w=>
 kB .lss 3 4 (l_6.getD 1 undef) v13 (fun v14 w=>
 condM v14
 (quietM w (fun C_9=>(oQ prog (.indexAddr 30 (.tmp 0) (.tmp 1)) 0 [a0,(l_6.getD 1 undef)] C_9 (fun v19=>
 oQ prog (.load 24 (.tmp 0)) 24 [v19] C_9 (fun v20=>
 oQ prog (.indexAddr 30 (.tmp 0) (.tmp 1)) 0 [a1,(l_6.getD 1 undef)] C_9 (fun v23=>
 oQ prog (.load 24 (.tmp 0)) 24 [v23] C_9 (fun v24=>
 callQ prog 62 #[v20,v24] C_9 (fun v25=>
 oQ prog (.unOp .not 4 (.tmp 0)) 4 [v25] C_9 (fun v26=>
 ∀ w,C_9 w → (condM v26
 (K (.bool false) w)
 (kB .add 3 3 (l_6.getD 1 undef) (.int .i64 1) (fun v16 w=>
 J_4 [(l_6.getD 0 undef),v16] w ∧ m_5 [(l_6.getD 0 undef),v16] w < m_5 l_6 w0_l_6) w)))))))))))
 (K (.bool true) w)) w) w)) w0_l_6))) w) w) w
theorem sh_105_ok {a0 a1:Value} {K:VK} {w:World} (h:sh_105 a0 a1 K w):callM prog 105 #[a0,a1] K w:=
 calls_of_code (fun _=>0) (fn:=Tryz.f105) (rs:=[.tmp 4]) Tryz.func105 rfl rfl (by kernel_rfl) (nB rfl) (Eq.mp (by kernel_rfl) h)
def sh_106 (a0 a1:Value) (K:VK) (w:World):Prop:=
 kN 29 a0 (fun v7 w=>
 kN 29 a1 (fun v9 w=>
 kB .neq 3 4 v7 v9 (fun v10 w=>
 condM v10
 (K (.bool false) w)
 (loopM [(.bool false),(.int .i64 0)] w (fun J_4 m_5 l_6 u_l_6 w0_l_6=>(fun w=>(
 kN 29 a0 (fun v13 w=>
 kB .lss 3 4 (l_6.getD 1 undef) v13 (fun v14 w=>
 condM v14
 (quietM w (fun C_9=>(oQ prog (.indexAddr 29 (.tmp 0) (.tmp 1)) 0 [a0,(l_6.getD 1 undef)] C_9 (fun v19=>
 oQ prog (.load 30 (.tmp 0)) 30 [v19] C_9 (fun v20=>
 oQ prog (.indexAddr 29 (.tmp 0) (.tmp 1)) 0 [a1,(l_6.getD 1 undef)] C_9 (fun v23=>
 oQ prog (.load 30 (.tmp 0)) 30 [v23] C_9 (fun v24=>
 callQ prog 105 #[v20,v24] C_9 (fun v25=>
 oQ prog (.unOp .not 4 (.tmp 0)) 4 [v25] C_9 (fun v26=>
 ∀ w,C_9 w → (condM v26
 (K (.bool false) w)
 (kB .add 3 3 (l_6.getD 1 undef) (.int .i64 1) (fun v16 w=>
 J_4 [(l_6.getD 0 undef),v16] w ∧ m_5 [(l_6.getD 0 undef),v16] w < m_5 l_6 w0_l_6) w)))))))))))
 (K (.bool true) w)) w) w)) w0_l_6))) w) w) w
theorem sh_106_ok {a0 a1:Value} {K:VK} {w:World} (h:sh_106 a0 a1 K w):callM prog 106 #[a0,a1] K w:=
 calls_of_code (fun _=>0) (fn:=Tryz.f106) (rs:=[.tmp 4]) Tryz.func106 rfl rfl (by kernel_rfl) (nB rfl) (Eq.mp (by kernel_rfl) h)
def sh_20 (a0 a1:Value) (K:VK) (w:World):Prop:=
 oM prog (.box 34 (.tmp 0)) 0 [a0] (fun v2 w=>
 oM prog (.box 34 (.tmp 0)) 0 [a1] (fun v3 w=>
 kF 34 0 v2 (fun v5 w=>
 kL 30 v5 (fun v6 w=>
 kF 34 0 v3 (fun v7 w=>
 kL 30 v7 (fun v8 w=>
 callM prog 105 #[v6,v8] (fun v9 w=>
 gT v9 (kF 34 1 v2) (fun v11 w=>
 gT v9 (kL 29 v11) (fun v12 w=>
 gT v9 (kF 34 1 v3) (fun v13 w=>
 gT v9 (kL 29 v13) (fun v14 w=>
 gT v9 (callM prog 106 #[v12,v14]) (fun v15 w=>
 kP v9 v15 (.bool false) (fun v16 w=>
 K v16 w) w) w) w) w) w) w) w) w) w) w) w) w) w
theorem sh_20_ok {a0 a1:Value} {K:VK} {w:World} (h:sh_20 a0 a1 K w):callM prog 20 #[a0,a1] K w:=
 calls_of_code (fun _=>0) (fn:=Tryz.f20) (rs:=[.tmp 4]) Tryz.func20 rfl rfl (by kernel_rfl) (nB rfl) (Eq.mp (by kernel_rfl) h)
def sh_86 (K:VK) (w:World):Prop:=
 kA 26 (fun v0 w=>
 oM prog (.build 23 #[(0,(.tmp 0)),(1,(.tmp 1)),(2,(.tmp 2))]) 23 [(.int .i64 23),(.int .i64 11),(.int .i64 4)] (fun v1 w=>
 oM prog (.buildSlice 24 2 #[(0,(.tmp 0)),(1,(.tmp 1))]) 24 [(.int .i64 16),(.int .i64 18)] (fun v2 w=>
 oM prog (.build 26 #[(0,(.tmp 0)),(1,(.tmp 1)),(2,(.tmp 2))]) 26 [v1,v2,(.int .i64 12)] (fun v3 w=>
 kS 26 v0 v3 (fun _ w=>
 ∃ r_5,(do loadVar 26 (← asAddr v0):Sem Value).run prog w = .ok r_5 w ∧ K r_5 w) w) w) w) w) w
theorem sh_86_ok {K:VK} {w:World} (h:sh_86 K w):callM prog 86 #[] K w:=
 calls_of_code (fun _=>0) (fn:=Tryz.f86) (rs:=[.cell 0 26]) Tryz.func86 rfl rfl (by kernel_rfl) (nB rfl) (Eq.mp (by kernel_rfl) h)
def sh_49 (a0 a1:Value) (K:VK) (w:World):Prop:=
 oM prog (.box 74 (.tmp 0)) 0 [a0] (fun v2 w=>
 oM prog (.box 74 (.tmp 0)) 0 [a1] (fun v3 w=>
 kF 74 0 v2 (fun v5 w=>
 kL 3 v5 (fun v6 w=>
 kF 74 0 v3 (fun v7 w=>
 kL 3 v7 (fun v8 w=>
 kB .eql 3 4 v6 v8 (fun v9 w=>
 gT v9 (kF 74 1 v2) (fun v11 w=>
 gT v9 (kL 3 v11) (fun v12 w=>
 gT v9 (kF 74 1 v3) (fun v13 w=>
 gT v9 (kL 3 v13) (fun v14 w=>
 gT v9 (kB .eql 3 4 v12 v14) (fun v15 w=>
 kP v9 v15 (.bool false) (fun v16 w=>
 K v16 w) w) w) w) w) w) w) w) w) w) w) w) w) w
theorem sh_49_ok {a0 a1:Value} {K:VK} {w:World} (h:sh_49 a0 a1 K w):callM prog 49 #[a0,a1] K w:=
 calls_of_code (fun _=>0) (fn:=Tryz.f49) (rs:=[.tmp 4]) Tryz.func49 rfl rfl (by kernel_rfl) (nB rfl) (Eq.mp (by kernel_rfl) h)
def sh_39 (a0:Value) (K:VK) (w:World):Prop:=
 oM prog (.box 26 (.tmp 0)) 0 [a0] (fun v1 w=>
 kF 26 1 v1 (fun v3 w=>
 kL 24 v3 (fun v4 w=>
 kN 24 v4 (fun v5 w=>
 kB .leq 3 4 v5 (.int .i64 9) (fun v6 w=>
 K v6 w) w) w) w) w) w
theorem sh_39_ok {a0:Value} {K:VK} {w:World} (h:sh_39 a0 K w):callM prog 39 #[a0] K w:=
 calls_of_code (fun _=>0) (fn:=Tryz.f39) (rs:=[.tmp 2]) Tryz.func39 rfl rfl (by kernel_rfl) (nB rfl) (Eq.mp (by kernel_rfl) h)
def sh_85 (a0 a1:Value) (K:VK) (w:World):Prop:=
 oM prog (.box 26 (.tmp 0)) 0 [a0] (fun v2 w=>
 kB .geq 3 4 a1 (.int .i64 0) (fun v6 w=>
 gT v6 (pureM a1) (fun v8 w=>
 gT v6 (kF 26 0 v2) (fun v9 w=>
 gT v6 (kF 23 1 v9) (fun v10 w=>
 gT v6 (kL 3 v10) (fun v11 w=>
 gT v6 (kB .lss 3 4 v8 v11) (fun v12 w=>
 kP v6 v12 (.bool false) (fun v13 w=>
 K v13 w) w) w) w) w) w) w) w) w
theorem sh_85_ok {a0 a1:Value} {K:VK} {w:World} (h:sh_85 a0 a1 K w):callM prog 85 #[a0,a1] K w:=
 calls_of_code (fun _=>0) (fn:=Tryz.f85) (rs:=[.tmp 4]) Tryz.func85 rfl rfl (by kernel_rfl) (nB rfl) (Eq.mp (by kernel_rfl) h)
def sh_38 (K:VK) (w:World):Prop:=
 callM prog 86 #[] (fun v16 w=>
 kA 26 (fun v1 w=>
 kS 26 v1 v16 (fun _ w=>
 kL 26 v1 (fun v18 w=>
 oM prog (.buildSlice 24 2 #[(0,(.tmp 0)),(1,(.tmp 1))]) 24 [(.int .i64 4),(.int .i64 4)] (fun v19 w=>
 callM prog 74 #[v18,v19] (fun v20 w=>
 kE 0 3 v20 (fun v21 w=>
 kE 1 4 v20 (fun v22 w=>
 kL 26 v1 (fun v24 w=>
 oM prog (.buildSlice 24 2 #[(0,(.tmp 0)),(1,(.tmp 1))]) 24 [(.int .i64 1),(.int .i64 2)] (fun v25 w=>
 callM prog 76 #[v24,(.int .i64 2),v25] (fun v26 w=>
 kE 0 24 v26 (fun v27 w=>
 kE 1 28 v26 (fun v28 w=>
 kE 2 4 v26 (fun v29 w=>
 heldM w (fun C_14 w=>(((true:Bool) = true) ∧ (jL 26 v1 C_14 (fun v30=>
 jL 26 v1 C_14 (fun v31=>
 pureH v27 C_14 (fun v33=>
 ∃ S_18:World → WK,∃ R_19:VK,(∀ v w w_1,S_18 w w_1 → R_19 v w → R_19 v w_1) ∧
 (∀ w,C_14 w → (callM prog 44 #[v31,(.int .i64 2),(.int .i64 3)] (fun v w_1=>C_14 w_1 ∧ S_18 w w_1 ∧ R_19 v w_1) w)) ∧
 (∀ w,C_14 w → ∀ v32,R_19 v32 w → (
 callM prog 40 #[v30,v32,v33] (fun v34 w=>
 kU v22 (fun v36 w=>
 gF v36 (pureM v21) (fun v38 w=>
 gF v36 (kC .neq 3 18 4 v38) (fun v39 w=>
 kP v36 (.bool true) v39 (fun v40 w=>
 gF v40 (pureM v29) (fun v42 w=>
 gF v40 (kU v42) (fun v43 w=>
 kP v40 (.bool true) v43 (fun v44 w=>
 gF v44 (pureM v27) (fun v46 w=>
 gF v44 (oM prog (.buildSlice 24 2 #[(0,(.tmp 0)),(1,(.tmp 1))]) 24 [(.int .i64 12),(.int .i64 1)]) (fun v47 w=>
 gF v44 (callM prog 62 #[v46,v47]) (fun v48 w=>
 gF v44 (kU v48) (fun v49 w=>
 kP v44 (.bool true) v49 (fun v50 w=>
 gF v50 (kL 26 v1) (fun v52 w=>
 gF v50 (oM prog (.buildSlice 24 2 #[(0,(.tmp 0)),(1,(.tmp 1))]) 24 [(.int .i64 1),(.int .i64 2)]) (fun v53 w=>
 gF v50 (callM prog 71 #[v52,(.int .i64 3),v53]) (fun v54 w=>
 gF v50 (kC .neq 3 9 4 v54) (fun v55 w=>
 kP v50 (.bool true) v55 (fun v56 w=>
 gF v56 (pureM v34) (fun v58 w=>
 gF v56 (kN 27 v58) (fun v59 w=>
 gF v56 (kC .neq 3 3 4 v59) (fun v60 w=>
 kP v56 (.bool true) v60 (fun v61 w=>
 condM v61
 (K (.bool false) w)
 (kI 27 v34 (.int .i64 2) (fun v63 w=>
 kL 65 v63 (fun v64 w=>
 kA 65 (fun v8 w=>
 kS 65 v8 v64 (fun _ w=>
 kF 65 1 v8 (fun v65 w=>
 kL 63 v65 (fun v66 w=>
 kN 63 v66 (fun v67 w=>
 kC .neq 3 1 4 v67 (fun v68 w=>
 gF v68 (pureM v28) (fun v70 w=>
 gF v68 (kN 28 v70) (fun v71 w=>
 gF v68 (kC .neq 3 2 4 v71) (fun v72 w=>
 kP v68 (.bool true) v72 (fun v73 w=>
 gF v73 (pureM v28) (fun v75 w=>
 gF v73 (kI 28 v75 (.int .i64 0)) (fun v76 w=>
 gF v73 (kL 114 v76) (fun v77 w=>
 gF v73 (kN 114 v77) (fun v78 w=>
 gF v73 (kC .neq 3 2 4 v78) (fun v79 w=>
 kP v73 (.bool true) v79 (fun v80 w=>
 gF v80 (pureM v28) (fun v82 w=>
 gF v80 (kI 28 v82 (.int .i64 0)) (fun v83 w=>
 gF v80 (kL 114 v83) (fun v84 w=>
 gF v80 (kI 114 v84 (.int .i64 0)) (fun v85 w=>
 gF v80 (kF 113 0 v85) (fun v86 w=>
 gF v80 (kL 4 v86) (fun v87 w=>
 gF v80 (kU v87) (fun v88 w=>
 kP v80 (.bool true) v88 (fun v89 w=>
 gF v89 (pureM v28) (fun v91 w=>
 gF v89 (kI 28 v91 (.int .i64 0)) (fun v92 w=>
 gF v89 (kL 114 v92) (fun v93 w=>
 gF v89 (kI 114 v93 (.int .i64 1)) (fun v94 w=>
 gF v89 (kF 113 0 v94) (fun v95 w=>
 gF v89 (kL 4 v95) (fun v96 w=>
 kP v89 (.bool true) v96 (fun v97 w=>
 condM v97
 (K (.bool false) w)
 (kL 26 v1 (fun v99 w=>
 callM prog 45 #[v99,(.int .i64 3),(.int .i64 5),(.string ⟨#[104,101,108,108,111]⟩)] (fun v100 w=>
 kE 0 74 v100 (fun v101 w=>
 kE 1 4 v100 (fun v102 w=>
 kA 74 (fun v9 w=>
 kS 74 v9 v101 (fun _ w=>
 oM prog (.buildSlice 24 1 #[(0,(.tmp 0))]) 24 [(.int .i64 4)] (fun v103 w=>
 oM prog (.buildSlice 30 1 #[(0,(.tmp 0))]) 30 [v103] (fun v104 w=>
 oM prog (.buildSlice 24 2 #[(0,(.tmp 0)),(1,(.tmp 1))]) 24 [(.int .i64 5),(.int .i64 6)] (fun v105 w=>
 oM prog (.buildSlice 30 1 #[(0,(.tmp 0))]) 30 [v105] (fun v106 w=>
 oM prog (.buildSlice 29 1 #[(0,(.tmp 0))]) 29 [v106] (fun v107 w=>
 oM prog (.build 34 #[(0,(.tmp 0)),(1,(.tmp 1))]) 34 [v104,v107] (fun v108 w=>
 kA 34 (fun v11 w=>
 kS 34 v11 v108 (fun _ w=>
 kL 34 v11 (fun v110 w=>
 callM prog 51 #[v110] (fun v111 w=>
 kE 0 9 v111 (fun v112 w=>
 kE 1 4 v111 (fun v113 w=>
 callM prog 52 #[v112] (fun v116 w=>
 kE 0 34 v116 (fun v117 w=>
 kE 1 4 v116 (fun v118 w=>
 kA 34 (fun v14 w=>
 kS 34 v14 v117 (fun _ w=>
 heldM w (fun C_95 w=>(((true:Bool) = true) ∧ (jL 26 v1 C_95 (fun v119=>
 jF 65 1 v8 C_95 (fun v120=>
 jL 63 v120 C_95 (fun v121=>
 jI 63 v121 (.int .i64 0) C_95 (fun v122=>
 jL 69 v122 C_95 (fun v123=>
 ∃ S_101:World → WK,∃ R_102:VK,(∀ v w w_1,S_101 w w_1 → R_102 v w → R_102 v w_1) ∧
 (∀ w,C_95 w → (oM prog (.buildSlice 24 1 #[(0,(.tmp 0))]) 24 [(.int .i64 9)] (fun v w_1=>C_95 w_1 ∧ S_101 w w_1 ∧ R_102 v w_1) w)) ∧
 (∃ R_103:VK,(∀ v w w_1,S_101 w w_1 → R_103 v w → R_103 v w_1) ∧
 (∀ w,C_95 w → ∀ v124,R_102 v124 w → (callM prog 41 #[v119,v123,v124] (fun v w_1=>C_95 w_1 ∧ S_101 w w_1 ∧ R_103 v w_1) w)) ∧
 (∃ R_105:VK,(∀ v w w_1,S_101 w w_1 → R_105 v w → R_105 v w_1) ∧
 (∀ w,C_95 w → ∀ v125,R_103 v125 w → (C_95 w ∧ S_101 w w ∧ R_105 v125 w)) ∧
 (∃ R_107:VK,(∀ v w w_1,S_101 w w_1 → R_107 v w → R_107 v w_1) ∧
 (∀ w,C_95 w → ∀ v126,R_105 v126 w → (gT v126 (pureM v102) (fun v w_1=>C_95 w_1 ∧ S_101 w w_1 ∧ R_107 v w_1) w)) ∧
 (∃ R_109:VK,(∀ v w w_1,S_101 w w_1 → R_109 v w → R_109 v w_1) ∧
 (∀ w,C_95 w → ∀ v126,R_105 v126 w → ∀ v127,R_107 v127 w → (kP v126 v127 (.bool false) (fun v w_1=>C_95 w_1 ∧ S_101 w w_1 ∧ R_109 v w_1) w)) ∧
 (∃ R_112:VK,(∀ v w w_1,S_101 w w_1 → R_112 v w → R_112 v w_1) ∧
 (∀ w,C_95 w → ∀ v128,R_109 v128 w → (C_95 w ∧ S_101 w w ∧ R_112 v128 w)) ∧
 (∃ R_114:VK,(∀ v w w_1,S_101 w w_1 → R_114 v w → R_114 v w_1) ∧
 (∀ w,C_95 w → ∀ v129,R_112 v129 w → (gT v129 (kL 26 v1) (fun v w_1=>C_95 w_1 ∧ S_101 w w_1 ∧ R_114 v w_1) w)) ∧
 (∃ R_116:VK,(∀ v w w_1,S_101 w w_1 → R_116 v w → R_116 v w_1) ∧
 (∀ w,C_95 w → ∀ v129,R_112 v129 w → (gT v129 (kL 74 v9) (fun v w_1=>C_95 w_1 ∧ S_101 w w_1 ∧ R_116 v w_1) w)) ∧
 (∃ R_118:VK,(∀ v w w_1,S_101 w w_1 → R_118 v w → R_118 v w_1) ∧
 (∀ w,C_95 w → ∀ v129,R_112 v129 w → ∀ v130,R_114 v130 w → ∀ v131,R_116 v131 w → (gT v129 (callM prog 47 #[v130,(.int .i64 18),(.string ⟨#[104,101,108,108,111]⟩),v131]) (fun v w_1=>C_95 w_1 ∧ S_101 w w_1 ∧ R_118 v w_1) w)) ∧
 (∃ R_122:VK,(∀ v w w_1,S_101 w w_1 → R_122 v w → R_122 v w_1) ∧
 (∀ w,C_95 w → ∀ v129,R_112 v129 w → ∀ v132,R_118 v132 w → (kP v129 v132 (.bool false) (fun v w_1=>C_95 w_1 ∧ S_101 w w_1 ∧ R_122 v w_1) w)) ∧
 (∃ R_125:VK,(∀ v w w_1,S_101 w w_1 → R_125 v w → R_125 v w_1) ∧
 (∀ w,C_95 w → ∀ v133,R_122 v133 w → (C_95 w ∧ S_101 w w ∧ R_125 v133 w)) ∧
 (∃ R_127:VK,(∀ v w w_1,S_101 w w_1 → R_127 v w → R_127 v w_1) ∧
 (∀ w,C_95 w → ∀ v134,R_125 v134 w → (gT v134 (pureM v113) (fun v w_1=>C_95 w_1 ∧ S_101 w w_1 ∧ R_127 v w_1) w)) ∧
 (∃ R_129:VK,(∀ v w w_1,S_101 w w_1 → R_129 v w → R_129 v w_1) ∧
 (∀ w,C_95 w → ∀ v134,R_125 v134 w → ∀ v135,R_127 v135 w → (kP v134 v135 (.bool false) (fun v w_1=>C_95 w_1 ∧ S_101 w w_1 ∧ R_129 v w_1) w)) ∧
 (∃ R_132:VK,(∀ v w w_1,S_101 w w_1 → R_132 v w → R_132 v w_1) ∧
 (∀ w,C_95 w → ∀ v136,R_129 v136 w → (C_95 w ∧ S_101 w w ∧ R_132 v136 w)) ∧
 (∃ R_134:VK,(∀ v w w_1,S_101 w w_1 → R_134 v w → R_134 v w_1) ∧
 (∀ w,C_95 w → ∀ v137,R_132 v137 w → (gT v137 (pureM v118) (fun v w_1=>C_95 w_1 ∧ S_101 w w_1 ∧ R_134 v w_1) w)) ∧
 (∃ R_136:VK,(∀ v w w_1,S_101 w w_1 → R_136 v w → R_136 v w_1) ∧
 (∀ w,C_95 w → ∀ v137,R_132 v137 w → ∀ v138,R_134 v138 w → (kP v137 v138 (.bool false) (fun v w_1=>C_95 w_1 ∧ S_101 w w_1 ∧ R_136 v w_1) w)) ∧
 (∃ R_139:VK,(∀ v w w_1,S_101 w w_1 → R_139 v w → R_139 v w_1) ∧
 (∀ w,C_95 w → ∀ v139,R_136 v139 w → (C_95 w ∧ S_101 w w ∧ R_139 v139 w)) ∧
 (∃ R_141:VK,(∀ v w w_1,S_101 w w_1 → R_141 v w → R_141 v w_1) ∧
 (∀ w,C_95 w → ∀ v140,R_139 v140 w → (gT v140 (kL 34 v11) (fun v w_1=>C_95 w_1 ∧ S_101 w w_1 ∧ R_141 v w_1) w)) ∧
 (∃ R_143:VK,(∀ v w w_1,S_101 w w_1 → R_143 v w → R_143 v w_1) ∧
 (∀ w,C_95 w → ∀ v140,R_139 v140 w → (gT v140 (kL 34 v14) (fun v w_1=>C_95 w_1 ∧ S_101 w w_1 ∧ R_143 v w_1) w)) ∧
 (∀ w,C_95 w → ∀ v124,R_102 v124 w → ∀ v125,R_103 v125 w → ∀ v126,R_105 v126 w → ∀ v127,R_107 v127 w → ∀ v128,R_109 v128 w → ∀ v129,R_112 v129 w → ∀ v130,R_114 v130 w → ∀ v131,R_116 v131 w → ∀ v132,R_118 v132 w → ∀ v133,R_122 v133 w → ∀ v134,R_125 v134 w → ∀ v135,R_127 v135 w → ∀ v136,R_129 v136 w → ∀ v137,R_132 v137 w → ∀ v138,R_134 v138 w → ∀ v139,R_136 v139 w → ∀ v140,R_139 v140 w → ∀ v141,R_141 v141 w → ∀ v142,R_143 v142 w → (
 gT v140 (callM prog 20 #[v141,v142]) (fun v143 w=>
 kP v140 v143 (.bool false) (fun v144 w=>
 K v144 w) w) w))))))))))))))))))))))))))))) w) w) w) w) w) w) w) w) w) w) w) w) w) w) w) w) w) w) w) w) w) w) w)) w) w) w) w) w) w) w) w) w) w) w) w) w) w) w) w) w) w) w) w) w) w) w) w) w) w) w) w) w) w) w) w) w)) w) w) w) w) w) w) w) w) w) w) w) w) w) w) w) w) w) w) w) w) w) w))))))))) w) w) w) w) w) w) w) w) w) w) w) w) w) w
theorem sh_38_ok {K:VK} {w:World} (h:sh_38 K w):callM prog 38 #[] K w:=
 calls_of_code (fun i=>bif Nat.beq i 4 then .free [0,1,3] [2] [4,5] else bif Nat.beq i 14 then .free [0,1,2,3,4] [5,6,7,8,9,10,11,12,13,14,15,16,17,18,19,20,21,22,23] [24,25,26] else 0) (fn:=Tryz.f38) (rs:=[.tmp 0]) Tryz.func38 rfl rfl (by kernel_rfl) (nB rfl) (Eq.mp (by kernel_rfl) h)
end Go.Proofs
namespace Go.Proofs
open Go Go.Sh Go.RowKit FdSpec TkSpec CodeSpec PrSpec
section
variable {K:VK} {w w' w0 W:World} {L:List (Addr × Value)}
def SmJ {α:Type} (a b:List α) (w0:World) (vs:List Value) (w':World):Prop:=Bw w0 w' ∧ ∃ (u:Value) (i:Nat),vs = [u,.int .i64 (i:Int)] ∧ i ≤ a.length ∧ a.take i = b.take i
theorem SameInts_ok {v u:Value} {a b:List Int} (ha:Ints w v a) (hb:Ints w u b) (k:∀ w',Bw w w' → K (.bool (decide (a = b))) w'):callM Tryz.prog 62 #[v,u] K w:=by
 apply sh_62_ok
 unfold sh_62
 obtain ⟨ad1,c1,rfl⟩:=ha.isSlice
 obtain ⟨ad2,c2,rfl⟩:=hb.isSlice
 have l1:=ha.len
 have l2:=hb.len
 by_cases hl:¬ a.length = b.length
 ·have hl':¬ (a.length:Int) = b.length:=by omega
  have k:=k _ (bR)
  rw [decide_eq_false (by rintro rfl; exact hl rfl)] at k
  refine Xa @hl' ?_
  exact k
 have hl:a.length = b.length:=by omega
 have hl':(a.length:Int) = b.length:=by omega
 refine Xa @hl' ?_
 refine ⟨SmJ a b w,fun vs _=>match vs with | [_,.int _ i]=>a.length - i.toNat | _=>0,⟨bR,_,0,rfl,by omega,rfl⟩,?_⟩
 rintro _ _ w1 ⟨h1,u1,i,rfl,hi,he⟩
 by_cases hin:i = a.length
 ·have e:a = b:=by
   rw [List.take_of_length_le (by omega),List.take_of_length_le (by omega)] at he
   exact he
  have k:=k _ h1
  rw [decide_eq_true e] at k
  refine Xa @hl' ?_
  exact k
 obtain ⟨b1,o1,rfl,hb1,ca,ra,_⟩:=ha.at (i:=i) (by omega)
 obtain ⟨b2,o2,rfl,hb2,cb,rb,_⟩:=hb.at (i:=i) (by omega)
 have hib:(i:Int) < b.length:=by omega
 refine Xa @hl' ?_
 refine ⟨Below w.heap.size w,h1.trans .drawn,?_⟩
 by_cases hx:a[i] = b[i]
 ·refine Xf (fun W0 hW0=>An2 (ca _ hW0) (cb _ hW0)) (An2 @hl' @hx) ?_
  intro w2 h2
  refine Xa @hx ?_
  refine ⟨⟨h2,_,i + 1,rfl,by omega,?_⟩,by show a.length - (((i + 1:Nat):Int)).toNat < a.length - ((i:Nat):Int).toNat; omega⟩
  rw [List.take_succ_eq_append_getElem (by omega),List.take_succ_eq_append_getElem (by omega),he,hx]
 ·refine Xf (fun W0 hW0=>An2 (ca _ hW0) (cb _ hW0)) (An2 @hl' @hx) ?_
  intro w2 h2
  have k:=k _ h2
  rw [decide_eq_false (by rintro rfl; exact hx rfl)] at k
  refine Xa @hx ?_
  exact k
theorem SameLists_ok {v u:Value} {a b:L2} (ha:ListsR w v a) (hb:ListsR w u b) (k:∀ w',Bw w w' → K (.bool (decide (a = b))) w'):callM Tryz.prog 105 #[v,u] K w:=by
 apply sh_105_ok
 unfold sh_105
 obtain ⟨ad1,c1,rfl⟩:=ha.isSlice
 obtain ⟨ad2,c2,rfl⟩:=hb.isSlice
 have l1:=ha.len
 have l2:=hb.len
 by_cases hl:¬ a.length = b.length
 ·have hl':¬ (a.length:Int) = b.length:=by omega
  have k:=k _ (bR)
  rw [decide_eq_false (by rintro rfl; exact hl rfl)] at k
  refine Xa @hl' ?_
  exact k
 have hl:a.length = b.length:=by omega
 have hl':(a.length:Int) = b.length:=by omega
 refine Xa @hl' ?_
 refine ⟨SmJ a b w,fun vs _=>match vs with | [_,.int _ i]=>a.length - i.toNat | _=>0,⟨bR,_,0,rfl,by omega,rfl⟩,?_⟩
 rintro _ _ w1 ⟨h1,u1,i,rfl,hi,he⟩
 by_cases hin:i = a.length
 ·have e:a = b:=by
   rw [List.take_of_length_le (by omega),List.take_of_length_le (by omega)] at he
   exact he
  have k:=k _ h1
  rw [decide_eq_true e] at k
  refine Xa @hl' ?_
  exact k
 obtain ⟨b1,o1,v1,rfl,hb1,ca,ia⟩:=ha.one (i:=i) (by omega)
 obtain ⟨b2,o2,v2,rfl,hb2,cb,ib⟩:=hb.one (i:=i) (by omega)
 have hib:(i:Int) < b.length:=by omega
 refine Xa @hl' ?_
 refine ⟨Below w.heap.size w,h1.trans .drawn,?_⟩
 refine Xf (fun W0 hW0=>An2 ((hW0.cell hb1).trans ca) ((hW0.cell hb2).trans cb)) @hl' ?_
 refine callQ_of (fun W hW=>SameInts_ok (ia.next hW) (ib.next hW) (fun w' hb=>⟨rfl,hW.on hb⟩)) ?_
 by_cases hx:a[i] = b[i]
 ·rw [decide_eq_true hx]
  refine Xg (An2 @hl' @hx) ?_
  intro w2 h2
  refine Xa @hx ?_
  refine ⟨⟨h2,_,i + 1,rfl,by omega,?_⟩,by show a.length - (((i + 1:Nat):Int)).toNat < a.length - ((i:Nat):Int).toNat; omega⟩
  rw [List.take_succ_eq_append_getElem (by omega),List.take_succ_eq_append_getElem (by omega),he,hx]
 ·rw [decide_eq_false hx]
  refine Xg (An2 @hl' @hx) ?_
  intro w2 h2
  have k:=k _ h2
  rw [decide_eq_false (by rintro rfl; exact hx rfl)] at k
  refine Xa @hx ?_
  exact k
theorem SameNums_ok {v u:Value} {a b:L3} (ha:NumsR w v a) (hb:NumsR w u b) (k:∀ w',Bw w w' → K (.bool (decide (a = b))) w'):callM Tryz.prog 106 #[v,u] K w:=by
 apply sh_106_ok
 unfold sh_106
 obtain ⟨ad1,c1,rfl⟩:=ha.isSlice
 obtain ⟨ad2,c2,rfl⟩:=hb.isSlice
 have l1:=ha.len
 have l2:=hb.len
 by_cases hl:¬ a.length = b.length
 ·have hl':¬ (a.length:Int) = b.length:=by omega
  have k:=k _ (bR)
  rw [decide_eq_false (by rintro rfl; exact hl rfl)] at k
  refine Xa @hl' ?_
  exact k
 have hl:a.length = b.length:=by omega
 have hl':(a.length:Int) = b.length:=by omega
 refine Xa @hl' ?_
 refine ⟨SmJ a b w,fun vs _=>match vs with | [_,.int _ i]=>a.length - i.toNat | _=>0,⟨bR,_,0,rfl,by omega,rfl⟩,?_⟩
 rintro _ _ w1 ⟨h1,u1,i,rfl,hi,he⟩
 by_cases hin:i = a.length
 ·have e:a = b:=by
   rw [List.take_of_length_le (by omega),List.take_of_length_le (by omega)] at he
   exact he
  have k:=k _ h1
  rw [decide_eq_true e] at k
  refine Xa @hl' ?_
  exact k
 obtain ⟨b1,o1,v1,rfl,hb1,ca,ia⟩:=ha.one (i:=i) (by omega)
 obtain ⟨b2,o2,v2,rfl,hb2,cb,ib⟩:=hb.one (i:=i) (by omega)
 have hib:(i:Int) < b.length:=by omega
 refine Xa @hl' ?_
 refine ⟨Below w.heap.size w,h1.trans .drawn,?_⟩
 refine Xf (fun W0 hW0=>An2 ((hW0.cell hb1).trans ca) ((hW0.cell hb2).trans cb)) @hl' ?_
 refine callQ_of (fun W hW=>SameLists_ok (ia.next (atOf_stay ints_stay) hW) (ib.next (atOf_stay ints_stay) hW) (fun w' hb=>⟨rfl,hW.on hb⟩)) ?_
 by_cases hx:a[i] = b[i]
 ·rw [decide_eq_true hx]
  refine Xg (An2 @hl' @hx) ?_
  intro w2 h2
  refine Xa @hx ?_
  refine ⟨⟨h2,_,i + 1,rfl,by omega,?_⟩,by show a.length - (((i + 1:Nat):Int)).toNat < a.length - ((i:Nat):Int).toNat; omega⟩
  rw [List.take_succ_eq_append_getElem (by omega),List.take_succ_eq_append_getElem (by omega),he,hx]
 ·rw [decide_eq_false hx]
  refine Xg (An2 @hl' @hx) ?_
  intro w2 h2
  have k:=k _ h2
  rw [decide_eq_false (by rintro rfl; exact hx rfl)] at k
  refine Xa @hx ?_
  exact k
theorem SameProof_ok {dv av dv2 av2:Value} {d d2:L2} {a a2:L3} (hd:ListsR w dv d) (ha:NumsR w av a) (hd2:ListsR w dv2 d2) (ha2:NumsR w av2 a2) (k:∀ w',Bw w w' → K (.bool (decide (d = d2) && decide (a = a2))) w'):callM Tryz.prog 20 #[prfV dv av,prfV dv2 av2] K w:=by
 apply sh_20_ok
 unfold sh_20
 have hd':=hd
 have ha':=ha
 have hd2':=hd2
 have ha2':=ha2
 obtain ⟨ad1,c1,rfl⟩:=hd.isSlice
 obtain ⟨ad2,c2,rfl⟩:=ha.isSlice
 obtain ⟨ad3,c3,rfl⟩:=hd2.isSlice
 obtain ⟨ad4,c4,rfl⟩:=ha2.isSlice
 refine box_kn (cs:=prfC (.slice ad1 d.length c1) (.slice ad2 a.length c2)) rfl (.start w) fun b1 W hk hb1 hbb=>?_
 refine box_kn (cs:=prfC (.slice ad3 d2.length c3) (.slice ad4 a2.length c4)) rfl hk fun b2 W2 hk hb2 hbb=>?_
 clear hb1 hb2 hbb
 refine Xa hk.cells ?_
 refine SameLists_ok (hd'.next (atOf_stay ints_stay) hk.below) (hd2'.next (atOf_stay ints_stay) hk.below) (fun w3 h3=>?_)
 have hk:=hk.next h3
 by_cases hx:d = d2
 ·rw [decide_eq_true hx]
  rw [decide_eq_true hx,bT] at k
  refine Xa hk.cells ?_
  refine SameNums_ok (ha'.next (atOf_stay lists_vstay) hk.below) (ha2'.next (atOf_stay lists_vstay) hk.below) (fun w4 h4=>?_)
  have hk:=hk.next h4
  have k:=k _ hk.below
  generalize decide (a = a2) = q at *
  refine Xa0 ?_
  exact k
 ·rw [decide_eq_false hx]
  rw [decide_eq_false hx,bF] at k
  refine Xa hk.cells ?_
  exact k _ hk.below
theorem range_ex:PrSpec.rangeM ex (commitM ex 2 3) [12,1] = [bitC ex 12,bitC ex 1,lastC ex (commitM ex 2 3) (weighM ex [12,1]).1]:=by decide +kernel
theorem ex_R {v:Value} (hi:Ints w v [16,18]) (hT:DbT w):SetR w ex v:=⟨⟨by constructor <;> decide,by constructor <;> decide,by constructor <;> decide⟩,hi,by constructor <;> decide,hT⟩
theorem mk2g {T:TypeId} (x y:Int) (hx:I64 x) (hy:I64 y) (k:∀ v W,Bw w W → Ints W v [x,y] → Value.inBlock v = some w.heap.size → K v W):oM Tryz.prog (.buildSlice 24 2 #[(0,.tmp 0),(1,.tmp 1)]) T [.int .i64 x,.int .i64 y] K w:=by
 rw [oM_buildSlice2]
 have e:(Instr.buildSlice 24 2 #[(0,.int .i64 x),(1,.int .i64 y)]).run Tryz.prog w = .ok (.slice (some ⟨w.heap.size,0,none⟩) 2 2) (w.alloc (.cells #[.int .i64 x,.int .i64 y] 3)):=by kernel_rfl
 rw [e]
 exact k _ _ ((Below.refl _ w).alloc (rL) _) (ints_alloc w [x,y] _ 2 (by simp; exact ⟨hx,hy⟩) (by simp)) rfl
theorem example_ok (hT:DbT w) (k:∀ w' v,Bw w w' → SetR w' ex v → K (stpV ex v) w'):callM Tryz.prog 86 #[] K w:=by
 apply sh_86_ok
 unfold sh_86
 refine alloc_mine (n:=5) al_stp rfl (.start w) fun g0 W3 hk hb3 hg0=>?_
 repeat (any_goals (first
 | ((with_reducible refine mk2g 16 18 i64lit i64lit ?_); intro v9 W9 hb9 hi9 hv9)
 | ((with_reducible refine oG fun X Y=>?_); simp [go_sem]; apply Y; clear Y X)))
 have hlt:=mine_lt hk.mine
 have hk:=hk.next hb9
 obtain ⟨ad,c,rfl⟩:=hi9.isSlice
 refine Xa0 ?_
 refine store_stp ex ad 2 c hk (fun W3 hk hc hg3=>⟨_,by simp [go_sem,hc],k W3 _ hk.below (ex_R (ints_grown hi9 hg3 (fun i e1 e2=>?_)) (hT.next hk.below))⟩)
 rw [hv9] at e1
 cases e1
 have:=oI e2
 omega
theorem sz_cls (w:World):(sizeOf 65).run Tryz.prog w = .ok 2 w:=by kernel_rfl
theorem al_cls (w:World):(Instr.alloc 65 true (.tuple #[])).run Tryz.prog w = .ok (.pointer (some ⟨w.heap.size,0,none⟩)) (w.alloc (.cells [.int .i64 0,.slice none 0 0].toArray 65)):=by kernel_rfl
theorem local_cls {T' T2:TypeId} (a:Int) (ad:Option Addr) (n c:Nat) (hk:Kn w0 L w)
  (k:∀ b W,Kn w0 (cellsOf L b 0 [.int .i64 a,.slice ad n c]) W → Bw w W → w.heap.size ≤ b → K (.pointer (some ⟨b,0,none⟩)) W) :
  oM Tryz.prog (.alloc 65) T' [] (fun v w=>oM Tryz.prog (.store 65 (.tmp 0) (.tmp 1)) T2 [v,.agg #[.int .i64 a,.slice ad n c]] (fun _ w=>K v w) w) w:=
 local_kn al_cls rfl sz_cls rfl rfl (clm_one a ad n c) hk k
theorem local_sig {T' T2:TypeId} (c z:Int) (hk:Kn w0 L w)
  (k:∀ b W,Kn w0 (cellsOf L b 0 (sigC c z)) W → Bw w W → w.heap.size ≤ b → K (.pointer (some ⟨b,0,none⟩)) W) :
  oM Tryz.prog (.alloc 74) T' [] (fun v w=>oM Tryz.prog (.store 74 (.tmp 0) (.tmp 1)) T2 [v,sigV c z] (fun _ w=>K v w) w) w:=
 local_kn al_sig rfl sz_sig rfl rfl (sig_one c z) hk k
theorem local_prf {T' T2:TypeId} (ad ad2:Option Addr) (n c n2 c2:Nat) (hk:Kn w0 L w)
  (k:∀ b W,Kn w0 (cellsOf L b 0 (prfC (.slice ad n c) (.slice ad2 n2 c2))) W → Bw w W → w.heap.size ≤ b → K (.pointer (some ⟨b,0,none⟩)) W) :
  oM Tryz.prog (.alloc 34) T' [] (fun v w=>oM Tryz.prog (.store 34 (.tmp 0) (.tmp 1)) T2 [v,prfV (.slice ad n c) (.slice ad2 n2 c2)] (fun _ w=>K v w) w) w:=
 local_kn al_prf rfl sz_prf rfl rfl (prf_one ad ad2 n c n2 c2) hk k
@[go_sem] theorem idx_cls (T:TypeId) (b o n c:Nat) (x:Int):oM Tryz.prog (.indexAddr 27 (.tmp 0) (.tmp 1)) T [.slice (some ⟨b,o,none⟩) n c,.int .i64 x] = onM (0 ≤ x ∧ x < n) (.pointer (some ⟨b,o + x.toNat * 2,none⟩)):=
 idx_row (K:=fun _ _=>True) _ T (by kernel_rfl) (fun w=>by kernel_rfl) b o n c x
@[go_sem] theorem idx_clm (T:TypeId) (b o n c:Nat) (x:Int):oM Tryz.prog (.indexAddr 63 (.tmp 0) (.tmp 1)) T [.slice (some ⟨b,o,none⟩) n c,.int .i64 x] = onM (0 ≤ x ∧ x < n) (.pointer (some ⟨b,o + x.toNat * 2,none⟩)):=
 idx_row (K:=fun _ _=>True) _ T (by kernel_rfl) (fun w=>by kernel_rfl) b o n c x
@[go_sem] theorem idx_knw' (T:TypeId) (b o n c:Nat) (x:Int):oM Tryz.prog (.indexAddr 114 (.tmp 0) (.tmp 1)) T [.slice (some ⟨b,o,none⟩) n c,.int .i64 x] = onM (0 ≤ x ∧ x < n) (.pointer (some ⟨b,o + x.toNat * 2,none⟩)):=idx_knw T b o n c x
@[go_sem] theorem idx_knws (T:TypeId) (b o n c:Nat) (x:Int):oM Tryz.prog (.indexAddr 28 (.tmp 0) (.tmp 1)) T [.slice (some ⟨b,o,none⟩) n c,.int .i64 x] = onM (0 ≤ x ∧ x < n) (.pointer (some ⟨b,o + x.toNat,none⟩)):=by
 have:=idx_row (K:=fun _ _=>True) (P:=Tryz.prog) (n:=1) 28 T (by kernel_rfl) (fun w=>by kernel_rfl) b o n c x
 rwa [Nat.mul_one] at this
theorem less_ok (hT:DbT w) (hl:Cd.LaidE w) (k:∀ w',Bw w w' → K (.bool true) w'):callM Tryz.prog 38 #[] K w:=by
 apply sh_38_ok
 unfold sh_38
 obtain ⟨f1,f2,f3,f4,f5,f6,f7,f8,f9⟩:=less_facts
 refine example_ok hT (fun w1 v1 h1 hs=>?_)
 have hs':=hs
 obtain ⟨ad,c,rfl⟩:=hs.ints.isSlice
 refine local_stp ex ad 2 c (.next (.start w) h1) (fun b1 W1 hk hb1 hg1=>?_)
 have hs1:=hs'.next hb1
 repeat (any_goals (first
 | ((with_reducible refine mk2 4 4 i64lit i64lit ?_); intro v9 W9 hb9 hi9)
 | ((with_reducible refine oG fun X Y=>?_); simp [go_sem,hk.cells]; apply Y; clear Y X)))
 have hk:=hk.next hb9
 have hs1:=hs1.next hb9
 refine Weigh_ok ex [4,4] hs1 hi9 (fun w2 h2=>?_)
 rw [f1]
 have hk:=hk.next h2
 have hs1:=hs1.next h2
 repeat (any_goals (first
 | ((with_reducible refine mk2 1 2 i64lit i64lit ?_); intro v9 W9 hb9 hi9)
 | ((with_reducible refine oG fun X Y=>?_); simp [go_sem,hk.cells]; apply Y; clear Y X)))
 have hk:=hk.next hb9
 have hs1:=hs1.next hb9
 refine Split_ok ex 2 [1,2] hs1 i64lit hi9 (fun w3 bv kv D h3 hbits hknow hD hap=>?_)
 rw [f2] at hbits hknow ⊢
 have hknow:=hknow.srow (by decide) (by decide)
 have hk:=hk.next h3
 have hs1:=hs1.next h3
 refine Xa hk.cells ?_
 have hk:=hk.drew
 have hodr:Below w3.heap.size w3 { w3 with drawn:=w3.drawn + 1 }:=.drawn
 have hs1:=hs1.next hodr
 have hbits:=hbits.next hodr
 have hknow:=hknow.next (atOf_stay knws_vstay) hodr
 refine ⟨Nx { w3 with drawn:=w3.drawn + 1 },bR,rfl,?_⟩
 generalize ({ w3 with drawn:=w3.drawn + 1 }:World) = W at hk hs1 hbits hknow ⊢
 refine Xc (fun W0 hW0=>(hk.next hW0).cells) ?_
 refine ⟨Nx,?_⟩
 apply monoE
 ·intro w1 h1
  exact Commit_ok ex 2 3 (hs1.next h1) i64lit i64lit (fun w2 h2=>⟨h1.on h2,h2,rfl⟩)
 rintro w9 h9 _ rfl
 have hk:=hk.next h9
 have hs1:=hs1.next h9
 have hbits:=hbits.next h9
 have hknow:=hknow.next (atOf_stay knws_vstay) h9
 refine Range_ok ex (commitM ex 2 3) [12,1] hs1 (commitM_I64 _ _ _) hbits (fun w4 gv h4 hgoal=>?_)
 have hk:=hk.next h4
 have hs1:=hs1.next h4
 have hbits:=hbits.next h4
 have hknow:=hknow.next (atOf_stay knws_vstay) h4
 rw [range_ex] at hgoal
 obtain ⟨gad,gc,rfl⟩:=id hgoal.isSlice
 obtain ⟨bad,bc,rfl⟩:=id hbits.isSlice
 obtain ⟨kad,kc,rfl⟩:=id hknow.isSlice
 have hbits:Ints w4 (.slice bad 2 bc) [12,1]:=hbits
 have hknow:KnowR w4 (.slice kad 2 kc) [[⟨true,[1]⟩,⟨false,[]⟩],[⟨false,[]⟩,⟨true,[2]⟩]]:=hknow
 have hgoal:GoalR w4 (.slice gad 3 gc) [bitC ex 12,bitC ex 1,lastC ex (commitM ex 2 3) (weighM ex [12,1]).1]:=hgoal
 simp only [List.length_cons,List.length_nil]
 repeat (any_goals (first
 | ((with_reducible refine mk2 12 1 i64lit i64lit ?_); intro v9 W9 hb9 hi9)
 | (with_reducible first|refine pureM_in ?_|refine zC ?_|refine yC ?_)
 | ((with_reducible refine oG fun X Y=>?_); simp [go_sem,hk.cells]; apply Y; clear Y X)))
 have hk:=hk.next hb9
 refine SameInts_ok (hbits.next hb9) hi9 (fun w5 h5=>?_)
 have hk:=hk.next h5
 rw [decide_eq_true rfl]
 have hb45:=hb9.on h5
 repeat (any_goals (first
 | ((with_reducible refine mk2 1 2 i64lit i64lit ?_); intro v9 W9 hb9 hi9)
 | (with_reducible first|refine zC ?_|refine yC ?_)
 | ((with_reducible refine oG fun X Y=>?_); simp [go_sem,hk.cells]; apply Y; clear Y X)))
 have hk:=hk.next hb9
 have hb4W:=hb45.on hb9
 refine Rest_ok ex 3 [1,2] (hs1.next hb4W) hi9 (fun w6 h6=>?_)
 rw [f3]
 have hk:=hk.next h6
 have hb46:=hb4W.on h6
 obtain ⟨bg,og,rfl,hbg,cc,hcl,hcell,gv,rfl,hI,hclm⟩:=(hgoal.next (atOf_stay cls_vstay) hb46).at (i:=2) (by decide)
 have g0:=hcell 0 _ rfl
 have g1:=hcell 1 _ rfl
 obtain ⟨gvad,gvc,rfl⟩:=id hclm.isSlice
 obtain ⟨bk,ok',kv0,rfl,hbk,ck0,hk0⟩:=(hknow.next (atOf_stay knws_vstay) hb46).one (i:=0) (by decide)
 obtain ⟨kvad,kvc,rfl⟩:=id hk0.isSlice
 have hclm:SRow 2 (AtOf 2 VClm) w6 (.slice gvad 1 gvc) [blindedM ex (overG ex.g (commitM ex 2 3) (weighM ex [12,1]).1)]:=hclm
 have hk0:KnwsR w6 (.slice kvad 2 kvc) [⟨true,[1]⟩,⟨false,[]⟩]:=hk0
 have g1:w6.cell? ⟨bg,og + 2 * 2 + 1,none⟩ = some (.slice gvad 1 gvc):=g1
 have g0:w6.cell? ⟨bg,og + 2 * 2 + 0,none⟩ = some (.int .i64 1):=g0
 have ck0:w6.cell? ⟨bk,ok' + 0,none⟩ = some (.slice kvad 2 kvc):=ck0
 have g0r:=g0
 have g1r:=g1
 simp only [Nat.reduceMul,Nat.reduceAdd,Nat.add_zero,Nat.add_assoc] at g0 g1 ck0
 obtain ⟨bw,ow,rfl,hbw,kc0,hkc0,hkcell0,kvv0,rfl,_⟩:=hk0.at (i:=0) (by decide)
 obtain ⟨bw',ow',e',_,kc1,hkc1,hkcell1,kvv1,rfl,_⟩:=hk0.at (i:=1) (by decide)
 cases e'
 have q0:=hkcell0 0 _ rfl
 have q1:=hkcell1 0 _ rfl
 have q0:w6.cell? ⟨bw,ow + 0 * 2 + 0,none⟩ = some (.bool true):=q0
 have q1:w6.cell? ⟨bw,ow + 1 * 2 + 0,none⟩ = some (.bool false):=q1
 simp only [Nat.reduceMul,Nat.reduceAdd,Nat.add_zero,Nat.add_assoc] at q0 q1
 have hcall:cellsAre w6 [(⟨bg,og + 4 + 1,none⟩,.slice gvad 1 gvc),(⟨bg,og + 5,none⟩,.slice gvad 1 gvc),(⟨bg,og + 4,none⟩,.int .i64 1),(⟨bk,ok',none⟩,.slice (some ⟨bw,ow,none⟩) 2 kvc),(⟨bw,ow,none⟩,.bool true),(⟨bw,ow + 2,none⟩,.bool false)]:=⟨g1,g1,g0,ck0,q0,q1,trivial⟩
 obtain ⟨bcl,ocl,rfl,hbcl,kcl,_,hclcell,clv,rfl,hClm⟩:=hclm.at (i:=0) (by decide)
 obtain ⟨ead,ec,rfl⟩:=id hClm.eqs.isSlice
 have p0:w6.cell? ⟨bcl,ocl + 0 * 2 + 0,none⟩ = some (.int .i64 1):=hclcell 0 _ rfl
 have p1:w6.cell? ⟨bcl,ocl + 0 * 2 + 1,none⟩ = some (.slice ead 1 ec):=hclcell 1 _ rfl
 obtain ⟨c0,hc0,hc1,hClm⟩:∃ c0:Clm,c0.vars = 1 ∧ HoldsM ex c0 [9] = true ∧ ClmR w6 c0 (.slice ead 1 ec):=⟨_,rfl,f5,hClm⟩
 simp only [Nat.reduceMul,Nat.reduceAdd,Nat.add_zero,Nat.add_assoc] at p0 p1
 have hk:Kn w ((⟨bcl,ocl,none⟩,.int .i64 1) :: (⟨bcl,ocl + 1,none⟩,.slice ead 1 ec) :: (⟨bk,ok',none⟩,.slice (some ⟨bw,ow,none⟩) 2 kvc) :: (⟨bw,ow,none⟩,.bool true) :: (⟨bw,ow + 2,none⟩,.bool false) :: (cellsOf [] b1 0 (stpC ex (.slice ad 2 c)))) w6:=⟨hk.below,p0,p1,ck0,q0,q1,hk.cells⟩
 refine Xb13 (An3 hk.cells @g0r @g1r) ?_
 refine local_cls 1 (some ⟨bcl,ocl,none⟩) 1 gvc hk (fun b7 W7 hk hb7 hg7=>?_)
 refine Xa hk.cells ?_
 have hb5W:=hb46.on hb7
 have hs7:=hs1.next hb5W
 have hsg:(signM ex 3 5 [104,101,108,108,111]).2 = true:=by unfold signM; rw [if_pos (by rw [f6,f7,f8]; rfl)]
 have hsd:=(sign_signed hsg).1
 rw [f9] at hsd
 have hlE:Cd.LaidE W7:=hl.below hk.below hl.size
 refine Sign_ok ex 3 5 [104,101,108,108,111] hs7 hlE.toLaid i64lit i64lit (by decide) (fun w8 h8=>?_)
 rw [hsg]
 generalize (signM ex 3 5 [104,101,108,108,111]).1.1 = sc at *
 generalize (signM ex 3 5 [104,101,108,108,111]).1.2 = sz at *
 have hk:=hk.next h8
 refine Xb2_0 ?_
 refine local_sig sc sz hk (fun b9 W9 hk hb9 hg9=>?_)
 refine mk1g 4 i64lit (fun v10 w10 h10 hi10 hv10=>?_)
 obtain ⟨ad10,c10,rfl⟩:=hi10.isSlice
 refine lit_ints _ _ _ (fun g11 w11 h11 hg11 hh11=>?_)
 refine mk2g 5 6 i64lit i64lit (fun v12 w12 h12 hi12 hv12=>?_)
 obtain ⟨ad12,c12,rfl⟩:=hi12.isSlice
 refine lit_ints _ _ _ (fun g13 w13 h13 hg13 hh13=>?_)
 refine lit_lists _ _ _ (fun g14 w14 h14 hg14 hh14=>?_)
 have hd14:ListsR w14 (.slice (some ⟨g11,0,none⟩) 1 1) [[4]]:=srow_lit1 (((hh11.next h12).next h13).next h14) rfl ⟨_,rfl,(((hi10.next h11).next h12).next h13).next h14⟩
 have ha14:NumsR w14 (.slice (some ⟨g14,0,none⟩) 1 1) [[[5,6]]]:=srow_lit1 hh14 rfl ⟨_,rfl,srow_lit1 (hh13.next h14) rfl ⟨_,rfl,(hi12.next h13).next h14⟩⟩
 have hk:=((((hk.next h10).next h11).next h12).next h13).next h14
 refine Xb1_0 ?_
 refine local_prf _ _ 1 1 1 1 hk (fun b15 W15 hk hb15 hg15=>?_)
 have hd15:=hd14.next (atOf_stay ints_stay) hb15
 have ha15:=ha14.next (atOf_stay lists_vstay) hb15
 refine Xa hk.cells ?_
 have hlE:Cd.LaidE W15:=hl.below hk.below hl.size
 refine Encode_ok [[4]] [[[5,6]]] hd15 ha15 hlE.toLaid ⟨by decide,by decide,by decide⟩ (fun w16 h16=>?_)
 rw [show (encodeM [[4]] [[[5,6]]]).2 = true from by decide +kernel]
 have hk:=hk.next h16
 refine Xa0 ?_
 have hlE:Cd.LaidE w16:=hl.below hk.below hl.size
 have hde:decodeM (encodeM [[4]] [[[5,6]]]).1 = (([[4]],[[[5,6]]]),true):=decode_encode (by decide) (by simp [clauseL,itemL,InR]) (by decide)
 refine Decode_ok _ (by decide +kernel) hlE (fun w17 dv av h17 hdv hav=>?_)
 rw [hde] at hdv hav ⊢
 have hdv:ListsR w17 dv [[4]]:=hdv
 have hav:NumsR w17 av [[[5,6]]]:=hav
 obtain ⟨dad,dc,rfl⟩:=hdv.isSlice
 obtain ⟨aad,ac,rfl⟩:=hav.isSlice
 have hk:=hk.next h17
 refine Xb2_0 ?_
 refine local_prf _ _ _ _ _ _ hk (fun b18 W18 hk hb18 hg18=>?_)
 have hk:=hk.drew
 have hodr:Below W18.heap.size W18 { W18 with drawn:=W18.drawn + 1 }:=.drawn
 have hd18:=((((hd15.next (atOf_stay ints_stay) h16).next (atOf_stay ints_stay) h17).next (atOf_stay ints_stay) hb18)).next (atOf_stay ints_stay) hodr
 have ha18:=((((ha15.next (atOf_stay lists_vstay) h16).next (atOf_stay lists_vstay) h17).next (atOf_stay lists_vstay) hb18)).next (atOf_stay lists_vstay) hodr
 have hdv:=(hdv.next (atOf_stay ints_stay) hb18).next (atOf_stay ints_stay) hodr
 have hav:=(hav.next (atOf_stay lists_vstay) hb18).next (atOf_stay lists_vstay) hodr
 have h7d:Below W7.heap.size W7 { W18 with drawn:=W18.drawn + 1 }:=((((((((((((h8.on hb9).on h10).on h11).on h12).on h13).on h14).on hb15).on h16).on h17).on hb18)).on hodr)
 have hs18:=hs7.next h7d
 have hClm18:=(hClm.next hb7).next h7d
 have hl18:=hlE.toLaid.below ((h17.on hb18).on hodr) hlE.toLaid.size
 refine ⟨Nx { W18 with drawn:=W18.drawn + 1 },bR,trivial,?_⟩
 generalize ({ W18 with drawn:=W18.drawn + 1 }:World) = W at hk hs18 hClm18 hd18 ha18 hdv hav hl18 ⊢
 have hH:∀ w1,Nx W w1 → ∀ lv,Ints w1 lv [9] → ∀ K':VK,(∀ w2,Bw w1 w2 → K' (.bool true) w2) → callM Tryz.prog 41 #[stpV ex (.slice ad 2 c),.agg #[.int .i64 1,.slice ead 1 ec],lv] K' w1:=by
  intro w1 h1 lv hi1 K' hk'
  have:=Holds_ok (K:=K') ex c0 [9] (hs18.next h1) (hClm18.next h1) hi1 (fun w2 h2=>by rw [hc1]; exact hk' w2 h2)
  unfold clmV at this
  rw [hc0] at this
  exact this
 refine Xc (fun W0 hW0=>(hk.next hW0).cells) ?_
 refine ⟨Nx,?_⟩
 refine monoR (fun v w'=>Ints w' v [9]) (fun v w w1 hS h=>h.next hS) ?_ ?_
 ·intro w1 h1
  exact mk1 9 i64lit (fun v w2 h2 hi=>⟨h1.on h2,h2,hi⟩)
 apply monoE
 ·rintro w1 h1 v1 hi1
  exact hH w1 h1 v1 hi1 _ (fun w2 h2=>⟨h1.on h2,h2,rfl⟩)
 refine Xd (fun w9 h9=>(hk.next h9).cells) ?_
 apply monoE
 ·(intro w9 h9; repeat (intro v9 e9; try (obtain rfl:=e9)))
  refine Xa0 ?_
  refine Signed_ok ex 18 [104,101,108,108,111] sc sz (hs18.next h9) (hl18.below h9 hl18.size) i64lit (by decide) (fun w2 h2=>?_)
  rw [hsd]
  exact ⟨h9.on h2,h2,rfl⟩
 refine Xd (fun w9 h9=>(hk.next h9).cells) ?_
 (intro w9 h9; repeat (intro v9 e9; try (obtain rfl:=e9)))
 refine Xa0 ?_
 refine SameProof_ok (hd18.next (atOf_stay ints_stay) h9) (ha18.next (atOf_stay lists_vstay) h9) (hdv.next (atOf_stay ints_stay) h9) (hav.next (atOf_stay lists_vstay) h9) (fun w2 h2=>?_)
 rw [decide_eq_true rfl,decide_eq_true rfl]
 refine Xa0 ?_
 exact k _ (hk.next (h9.on h2)).below
end
end Go.Proofs
namespace Go.Proofs
open Go Go.Sh Tryz
def sh_17 (a0:Value) (K:VK) (w:World):Prop:=
 oM prog (.box 34 (.tmp 0)) 0 [a0] (fun v1 w=>
 kF 34 1 v1 (fun v3 w=>
 kL 29 v3 (fun v4 w=>
 callM prog 88 #[v4] (fun v5 w=>
 gT v5 (kF 34 0 v1) (fun v7 w=>
 gT v5 (kL 30 v7) (fun v8 w=>
 gT v5 (callM prog 89 #[v8]) (fun v9 w=>
 kP v5 v9 (.bool false) (fun v10 w=>
 K v10 w) w) w) w) w) w) w) w) w
theorem sh_17_ok {a0:Value} {K:VK} {w:World} (h:sh_17 a0 K w):callM prog 17 #[a0] K w:=
 calls_of_code (fun _=>0) (fn:=Tryz.f17) (rs:=[.tmp 2]) Tryz.func17 rfl rfl (by kernel_rfl) (nB rfl) (Eq.mp (by kernel_rfl) h)
def sh_88 (a0:Value) (K:VK) (w:World):Prop:=
 loopM [(.bool false),undef,(.int .i64 0)] w (fun J_1 m_2 l_3 u_l_3 w0_l_3=>(fun w=>(
 kN 29 a0 (fun v7 w=>
 kB .lss 3 4 (l_3.getD 2 undef) v7 (fun v8 w=>
 gT v8 (pureM (l_3.getD 2 undef)) (fun v10 w=>
 gT v8 (kB .lss 3 4 v10 (.int .i64 7)) (fun v11 w=>
 kP v8 v11 (.bool false) (fun v12 w=>
 condM v12
 (kI 29 a0 (l_3.getD 2 undef) (fun v17 w=>
 kL 30 v17 (fun v18 w=>
 kN 30 v18 (fun v19 w=>
 kB .gtr 3 4 v19 (.int .i64 6) (fun v20 w=>
 condM v20
 (K (.bool false) w)
 (loopM [(l_3.getD 0 undef),(.int .i64 0)] w (fun J_13 m_14 l_15 u_l_15 w0_l_15=>(fun w=>(
 kI 29 a0 (l_3.getD 2 undef) (fun v24 w=>
 kL 30 v24 (fun v25 w=>
 kN 30 v25 (fun v26 w=>
 kB .lss 3 4 (l_15.getD 1 undef) v26 (fun v27 w=>
 condM v27
 (kI 29 a0 (l_3.getD 2 undef) (fun v32 w=>
 kL 30 v32 (fun v33 w=>
 kI 30 v33 (l_15.getD 1 undef) (fun v35 w=>
 kL 24 v35 (fun v36 w=>
 kN 24 v36 (fun v37 w=>
 kB .gtr 3 4 v37 (.int .i64 8) (fun v38 w=>
 condM v38
 (K (.bool false) w)
 (kB .add 3 3 (l_15.getD 1 undef) (.int .i64 1) (fun v29 w=>
 J_13 [(l_15.getD 0 undef),v29] w ∧ m_14 [(l_15.getD 0 undef),v29] w < m_14 l_15 w0_l_15) w)) w) w) w) w) w) w)
 (kB .add 3 3 (l_3.getD 2 undef) (.int .i64 1) (fun v14 w=>
 J_1 [(l_15.getD 0 undef),(l_15.getD 1 undef),v14] w ∧ m_2 [(l_15.getD 0 undef),(l_15.getD 1 undef),v14] w < m_2 l_3 w0_l_3) w)) w) w) w) w)) w0_l_15))) w) w) w) w)
 (kN 29 a0 (fun v40 w=>
 kB .leq 3 4 v40 (.int .i64 6) (fun v41 w=>
 K v41 w) w) w)) w) w) w) w) w)) w0_l_3)
theorem sh_88_ok {a0:Value} {K:VK} {w:World} (h:sh_88 a0 K w):callM prog 88 #[a0] K w:=
 calls_of_code (fun _=>0) (fn:=Tryz.f88) (rs:=[.tmp 2]) Tryz.func88 rfl rfl (by kernel_rfl) (nB rfl) (Eq.mp (by kernel_rfl) h)
def sh_89 (a0:Value) (K:VK) (w:World):Prop:=
 loopM [(.bool false),(.int .i64 0)] w (fun J_1 m_2 l_3 u_l_3 w0_l_3=>(fun w=>(
 kN 30 a0 (fun v6 w=>
 kB .lss 3 4 (l_3.getD 1 undef) v6 (fun v7 w=>
 gT v7 (pureM (l_3.getD 1 undef)) (fun v9 w=>
 gT v7 (kB .lss 3 4 v9 (.int .i64 7)) (fun v10 w=>
 kP v7 v10 (.bool false) (fun v11 w=>
 condM v11
 (kI 30 a0 (l_3.getD 1 undef) (fun v16 w=>
 kL 24 v16 (fun v17 w=>
 kN 24 v17 (fun v18 w=>
 kB .gtr 3 4 v18 (.int .i64 8) (fun v19 w=>
 condM v19
 (K (.bool false) w)
 (kB .add 3 3 (l_3.getD 1 undef) (.int .i64 1) (fun v13 w=>
 J_1 [(l_3.getD 0 undef),v13] w ∧ m_2 [(l_3.getD 0 undef),v13] w < m_2 l_3 w0_l_3) w)) w) w) w) w)
 (kN 30 a0 (fun v21 w=>
 kB .leq 3 4 v21 (.int .i64 6) (fun v22 w=>
 K v22 w) w) w)) w) w) w) w) w)) w0_l_3)
theorem sh_89_ok {a0:Value} {K:VK} {w:World} (h:sh_89 a0 K w):callM prog 89 #[a0] K w:=
 calls_of_code (fun _=>0) (fn:=Tryz.f89) (rs:=[.tmp 2]) Tryz.func89 rfl rfl (by kernel_rfl) (nB rfl) (Eq.mp (by kernel_rfl) h)
def sh_54 (a0:Value) (K:VK) (w:World):Prop:=
 oM prog (.box 69 (.tmp 0)) 0 [a0] (fun v1 w=>
 loopM [(.bool false),(.int .i64 0)] w (fun J_2 m_3 l_4 u_l_4 w0_l_4=>(fun w=>(
 kF 69 1 v1 (fun v5 w=>
 kL 67 v5 (fun v6 w=>
 kN 67 v6 (fun v7 w=>
 kB .lss 3 4 (l_4.getD 1 undef) v7 (fun v8 w=>
 gT v8 (pureM (l_4.getD 1 undef)) (fun v10 w=>
 gT v8 (kB .lss 3 4 v10 (.int .i64 5)) (fun v11 w=>
 kP v8 v11 (.bool false) (fun v12 w=>
 condM v12
 (kF 69 1 v1 (fun v15 w=>
 kL 67 v15 (fun v16 w=>
 kI 67 v16 (l_4.getD 1 undef) (fun v18 w=>
 kF 144 1 v18 (fun v19 w=>
 kL 142 v19 (fun v20 w=>
 kN 142 v20 (fun v21 w=>
 kB .gtr 3 4 v21 (.int .i64 6) (fun v22 w=>
 condM v22
 (K (.bool false) w)
 (kB .add 3 3 (l_4.getD 1 undef) (.int .i64 1) (fun v14 w=>
 J_2 [(l_4.getD 0 undef),v14] w ∧ m_3 [(l_4.getD 0 undef),v14] w < m_3 l_4 w0_l_4) w)) w) w) w) w) w) w) w)
 (kF 69 1 v1 (fun v23 w=>
 kL 67 v23 (fun v24 w=>
 kN 67 v24 (fun v25 w=>
 kB .leq 3 4 v25 (.int .i64 4) (fun v26 w=>
 gT v26 (kF 69 0 v1) (fun v28 w=>
 gT v26 (kL 3 v28) (fun v29 w=>
 gT v26 (kB .leq 3 4 v29 (.int .i64 6)) (fun v30 w=>
 gT v26 (pureM v30) (fun v31 w=>
 gF v31 (kF 69 0 v1) (fun v32 w=>
 gF v31 (kL 3 v32) (fun v33 w=>
 gF v31 (kB .gtr 3 4 v33 (.int .i64 120)) (fun v34 w=>
 gF v31 (pureM v34) (fun v35 w=>
 gT v35 (kF 69 0 v1) (fun v36 w=>
 gT v35 (kL 3 v36) (fun v37 w=>
 gT v35 (kB .leq 3 4 v37 (.int .i64 130)) (fun v38 w=>
 gF v31 (kP v35 v38 (.bool false)) (fun v39 w=>
 gT v26 (kP v31 (.bool true) v39) (fun v40 w=>
 kP v26 v40 (.bool false) (fun v41 w=>
 K v41 w) w) w) w) w) w) w) w) w) w) w) w) w) w) w) w) w) w) w)) w) w) w) w) w) w) w)) w0_l_4)) w
theorem sh_54_ok {a0:Value} {K:VK} {w:World} (h:sh_54 a0 K w):callM prog 54 #[a0] K w:=
 calls_of_code (fun _=>0) (fn:=Tryz.f54) (rs:=[.tmp 2]) Tryz.func54 rfl rfl (by kernel_rfl) (nB rfl) (Eq.mp (by kernel_rfl) h)
end Go.Proofs
namespace Go.Proofs
open Go Go.Sh Go.RowKit FdSpec TkSpec CodeSpec PrSpec
section
variable {K:VK} {w w' w0 W:World} {L:List (Addr × Value)}
def FewL (l:L2):Prop:=l.length ≤ 6 ∧ ∀ y ∈ l,y.length ≤ 8
def FewN (l:L3):Prop:=l.length ≤ 6 ∧ ∀ z ∈ l,z.length ≤ 6 ∧ ∀ y ∈ z,y.length ≤ 8
def FlJ (l:L2) (w0:World) (vs:List Value) (w':World):Prop:=Bw w0 w' ∧ ∃ (u:Value) (i:Nat),vs = [u,.int .i64 (i:Int)] ∧ i ≤ l.length ∧ i ≤ 7 ∧ ∀ (j:Nat) (y:List Int),j < i → l[j]? = some y → y.length ≤ 8
theorem FewLists_ok {v:Value} {l:L2} (hl:ListsR w v l) (k:∀ w' q,Bw w w' → (q = true → FewL l) → K (.bool q) w'):callM Tryz.prog 89 #[v] K w:=by
 apply sh_89_ok
 unfold sh_89
 obtain ⟨ad,c,rfl⟩:=hl.isSlice
 have hll:=hl.len
 refine ⟨FlJ l w,(fun vs _=>match vs with | [_,.int _ i]=>l.length - i.toNat | _=>0),⟨bR,_,0,rfl,by omega,by omega,fun j y h=>by omega⟩,?_⟩
 rintro _ _ w1 ⟨h1,u,i,rfl,hi,hi7,hy⟩
 by_cases hin:¬ (i:Int) < l.length
 ·have k:=fun q h=>k w1 q h1 h
  by_cases h6:(l.length:Int) ≤ 6
  ·refine Xa (An2 @hin @h6) ?_
   refine k _ (fun _=>⟨by omega,fun y hm=>?_⟩)
   obtain ⟨j,hj,rfl⟩:=List.getElem_of_mem hm
   exact hy j _ (by omega) (gE hj)
  ·refine Xa (An2 @hin @h6) ?_
   exact k _ (fun h=>by cases h)
 have hin:(i:Int) < l.length:=by omega
 by_cases h7:¬ (i:Int) < 7
 ·have h6:¬ (l.length:Int) ≤ 6:=by omega
  refine Xa (An3 @hin @h7 @h6) ?_
  exact k w1 _ h1 (fun h=>by cases h)
 have h7:(i:Int) < 7:=by omega
 obtain ⟨b5,o5,v5,rfl,hb5,c5,i5⟩:=hl.one (i:=i) (by omega)
 have e5:l[i]? = some l[i]:=gE (by omega)
 generalize l[i] = d at *
 obtain ⟨ad5,cp5,rfl⟩:=i5.isSlice
 by_cases h8:(8:Int) < d.length
 ·refine Xa (An4 @hin @h7 ((h1.cell hb5).trans c5) @h8) ?_
  exact k w1 _ h1 (fun h=>by cases h)
 refine Xa (An4 @hin @h7 ((h1.cell hb5).trans c5) @h8) ?_
 refine ⟨⟨h1,_,i + 1,rfl,by omega,by omega,fun j y hj e=>?_⟩,by show l.length - (((i + 1:Nat):Int)).toNat < l.length - ((i:Nat):Int).toNat; omega⟩
 by_cases h:j = i
 ·subst h; rw [e5] at e; cases e; omega
 ·exact hy j y (by omega) e
def FnJ (l:L3) (w0:World) (vs:List Value) (w':World):Prop:=Bw w0 w' ∧ ∃ (u u2:Value) (i:Nat),vs = [u,u2,.int .i64 (i:Int)] ∧ i ≤ l.length ∧ i ≤ 7 ∧ ∀ (j:Nat) (z:L2),j < i → l[j]? = some z → z.length ≤ 6 ∧ ∀ y ∈ z,y.length ≤ 8
def FiJ (l:L2) (w0:World) (vs:List Value) (w':World):Prop:=Bw w0 w' ∧ ∃ (u:Value) (i:Nat),vs = [u,.int .i64 (i:Int)] ∧ i ≤ l.length ∧ ∀ (j:Nat) (y:List Int),j < i → l[j]? = some y → y.length ≤ 8
theorem FewNums_ok {v:Value} {l:L3} (hl:NumsR w v l) (k:∀ w' q,Bw w w' → (q = true → FewN l) → K (.bool q) w'):callM Tryz.prog 88 #[v] K w:=by
 apply sh_88_ok
 unfold sh_88
 obtain ⟨ad,c,rfl⟩:=hl.isSlice
 have hll:=hl.len
 refine ⟨FnJ l w,(fun vs _=>match vs with | [_,_,.int _ i]=>l.length - i.toNat | _=>0),⟨bR,_,_,0,rfl,by omega,by omega,fun j y h=>by omega⟩,?_⟩
 rintro _ _ w1 ⟨h1,u,u2,i,rfl,hi,hi7,hy⟩
 by_cases hin:¬ (i:Int) < l.length
 ·have k:=fun q h=>k w1 q h1 h
  by_cases h6:(l.length:Int) ≤ 6
  ·refine Xa (An2 @hin @h6) ?_
   refine k _ (fun _=>⟨by omega,fun y hm=>?_⟩)
   obtain ⟨j,hj,rfl⟩:=List.getElem_of_mem hm
   exact hy j _ (by omega) (gE hj)
  ·refine Xa (An2 @hin @h6) ?_
   exact k _ (fun h=>by cases h)
 have hin:(i:Int) < l.length:=by omega
 by_cases h7:¬ (i:Int) < 7
 ·have h6:¬ (l.length:Int) ≤ 6:=by omega
  refine Xa (An3 @hin @h7 @h6) ?_
  exact k w1 _ h1 (fun h=>by cases h)
 have h7:(i:Int) < 7:=by omega
 obtain ⟨b5,o5,v5,rfl,hb5,c5,i5⟩:=hl.one (i:=i) (by omega)
 have e5:l[i]? = some l[i]:=gE (by omega)
 generalize l[i] = d at *
 obtain ⟨ad5,cp5,rfl⟩:=i5.isSlice
 have hdl:=i5.len
 by_cases h8:(6:Int) < d.length
 ·refine Xa (An4 @hin @h7 ((h1.cell hb5).trans c5) @h8) ?_
  exact k w1 _ h1 (fun h=>by cases h)
 refine Xa (An4 @hin @h7 ((h1.cell hb5).trans c5) @h8) ?_
 refine ⟨FiJ d w,(fun vs _=>match vs with | [_,.int _ i]=>d.length - i.toNat | _=>0),⟨h1,_,0,rfl,by omega,fun j y h=>by omega⟩,?_⟩
 rintro _ _ w2 ⟨h2,u3,j,rfl,hj,hyj⟩
 by_cases hjn:¬ (j:Int) < d.length
 ·refine Xa (An4 @hin @h7 ((h2.cell hb5).trans c5) @hjn) ?_
  refine ⟨⟨h2,_,_,i + 1,rfl,by omega,by omega,fun j' z hj' e=>?_⟩,by show l.length - (((i + 1:Nat):Int)).toNat < l.length - ((i:Nat):Int).toNat; omega⟩
  by_cases h:j' = i
  ·subst h; rw [e5] at e; cases e
   refine ⟨by omega,fun y hm=>?_⟩
   obtain ⟨j',hj',rfl⟩:=List.getElem_of_mem hm
   exact hyj j' _ (by omega) (gE hj')
  ·exact hy j' z (by omega) e
 have hjn:(j:Int) < d.length:=by omega
 obtain ⟨b6,o6,v6,rfl,hb6,c6,i6⟩:=i5.one (i:=j) (by omega)
 have e6:d[j]? = some d[j]:=gE (by omega)
 generalize d[j] = y at *
 obtain ⟨ad6,cp6,rfl⟩:=i6.isSlice
 by_cases h8:(8:Int) < y.length
 ·refine Xa (An6 @hin @h7 ((h2.cell hb5).trans c5) ((h2.cell hb6).trans c6) @hjn @h8) ?_
  exact k w2 _ h2 (fun h=>by cases h)
 refine Xa (An6 @hin @h7 ((h2.cell hb5).trans c5) ((h2.cell hb6).trans c6) @hjn @h8) ?_
 refine ⟨⟨h2,_,j + 1,rfl,by omega,fun j' y' hj' e=>?_⟩,by show d.length - (((j + 1:Nat):Int)).toNat < d.length - ((j:Nat):Int).toNat; omega⟩
 by_cases h:j' = j
 ·subst h; rw [e6] at e; cases e; omega
 ·exact hyj j' y' (by omega) e
theorem fewProof_ok {dv av:Value} {ds:L2} {al:L3} (hd:ListsR w dv ds) (ha:NumsR w av al) (k:∀ w' q,Bw w w' → (q = true → FewL ds ∧ FewN al) → K (.bool q) w'):callM Tryz.prog 17 #[prfV dv av] K w:=by
 apply sh_17_ok
 unfold sh_17
 have hd':=hd
 have ha':=ha
 obtain ⟨ad1,c1,rfl⟩:=hd.isSlice
 obtain ⟨ad2,c2,rfl⟩:=ha.isSlice
 refine box_kn (cs:=prfC (.slice ad1 ds.length c1) (.slice ad2 al.length c2)) rfl (.start w) fun b1 W hk hb1 hbb=>?_
 clear hb1 hbb
 refine Xa hk.cells ?_
 refine FewNums_ok (ha'.next (atOf_stay lists_vstay) hk.below) (fun w3 q h3 hq=>?_)
 have hk:=hk.next h3
 cases q with
 | false=>
  refine Xa0 ?_
  exact k _ _ hk.below (fun h=>by cases h)
 | true=>
 refine Xa hk.cells ?_
 refine FewLists_ok (hd'.next (atOf_stay ints_stay) hk.below) (fun w4 q h4 hq2=>?_)
 have hk:=hk.next h4
 cases q with
 | false=>
  refine Xa0 ?_
  exact k _ _ hk.below (fun h=>by cases h)
 | true=>
  refine Xa0 ?_
  exact k _ _ hk.below (fun _=>⟨hq2 rfl,hq rfl⟩)
theorem flat_take_step {α:Type} (f:α → List Int):∀ (l:List α) (i:Nat) (x:α),l[i]? = some x → (l.take (i + 1)).flatMap f = (l.take i).flatMap f ++ f x
 | [],i,x,h=>by simp at h
 | a :: l,0,x,h=>by simp at h; subst h; simp
 | a :: l,i + 1,x,h=>by
  have:=flat_take_step f l i x (by simpa using h)
  simp only [List.take_succ_cons,List.flatMap_cons,this,List.append_assoc]
theorem flat_step_le {α:Type} (f:α → List Int):∀ (l:List α) (i:Nat) (x:α),l[i]? = some x → ((l.take i).flatMap f).length + (f x).length ≤ (l.flatMap f).length
 | [],i,x,h=>by simp at h
 | a :: l,0,x,h=>by simp at h; subst h; simp
 | a :: l,i + 1,x,h=>by
  have:=flat_step_le f l i x (by simpa using h)
  simp only [List.take_succ_cons,List.flatMap_cons,List.length_append]
  omega
theorem local_clm {T' T2:TypeId} (a:Int) (ad:Option Addr) (n c:Nat) (hk:Kn w0 L w)
  (k:∀ b W,Kn w0 (cellsOf L b 0 [.int .i64 a,.slice ad n c]) W → Bw w W → w.heap.size ≤ b → K (.pointer (some ⟨b,0,none⟩)) W) :
  oM Tryz.prog (.alloc 69) T' [] (fun v w=>oM Tryz.prog (.store 69 (.tmp 0) (.tmp 1)) T2 [v,.agg #[.int .i64 a,.slice ad n c]] (fun _ w=>K v w) w) w:=
 local_kn al_clm rfl sz_clm rfl rfl (clm_one a ad n c) hk k
theorem goal_in {goal:List Cls} {gv:Value} (hg:GoalR w gv goal):∀ x ∈ goalL goal,InR x:=by
 intro x hx
 have hlen:=hg.len
 obtain ⟨gad,gc,rfl⟩:=id hg.isSlice
 rcases List.mem_cons.1 hx with rfl | hx
 ·unfold InR; omega
 obtain ⟨c,hc,hx⟩:=List.mem_flatMap.1 hx
 obtain ⟨i,hi,rfl⟩:=List.getElem_of_mem hc
 obtain ⟨_,_,_,_,_,_,_,cv,_,hI,hrow⟩:=hg.at (i:=i) hi
 generalize goal[i] = c at *
 have hlen:=hrow.len
 obtain ⟨_,_,rfl⟩:=id hrow.isSlice
 simp only [clsL,List.mem_cons] at hx
 rcases hx with rfl | rfl | hx
 ·exact (InR_iff _).2 hI
 ·unfold InR; omega
 obtain ⟨m,hm,hx⟩:=List.mem_flatMap.1 hx
 obtain ⟨i,hi,rfl⟩:=List.getElem_of_mem hm
 obtain ⟨_,_,_,_,_,_,_,mv,_,hmr⟩:=hrow.at (i:=i) hi
 generalize c.claims[i] = m at *
 have hrow:=hmr.eqs
 have hlen:=hrow.len
 obtain ⟨_,_,rfl⟩:=id hrow.isSlice
 simp only [clmL,List.mem_cons] at hx
 rcases hx with rfl | rfl | hx
 ·exact (InR_iff _).2 hmr.vars
 ·unfold InR; omega
 obtain ⟨e,he,hx⟩:=List.mem_flatMap.1 hx
 obtain ⟨i,hi,rfl⟩:=List.getElem_of_mem he
 obtain ⟨_,_,_,_,ev,_,_,hrow,hI⟩:=hrow.at (i:=i) hi
 generalize m.eqs[i] = e at *
 have hlen:=hrow.len
 obtain ⟨_,_,rfl⟩:=id hrow.isSlice
 simp only [eqnL,List.mem_cons] at hx
 rcases hx with rfl | rfl | hx
 ·exact (InR_iff _).2 hI
 ·unfold InR; omega
 obtain ⟨t,ht,hx⟩:=List.mem_flatMap.1 hx
 obtain ⟨i,hi,rfl⟩:=List.getElem_of_mem ht
 obtain ⟨_,_,_,_,_,_,i0,i1⟩:=hrow.at (i:=i) hi
 simp only [trmL,List.mem_cons,List.not_mem_nil,or_false] at hx
 rcases hx with rfl | rfl
 ·exact (InR_iff _).2 i0
 ·exact (InR_iff _).2 i1
end
end Go.Proofs
namespace Go.Proofs
open FdSpec TkSpec CodeSpec PrSpec
end Go.Proofs
namespace Go.Proofs
open Go Go.Sh Go.RowKit FdSpec TkSpec CodeSpec PrSpec
structure Itm (goal:List Cls) (w:World) where
 i:Nat
 k:Nat
 cl:Cls
 c:Clm
 v:Value
 hi:goal[i]? = some cl
 hk:cl.claims[k]? = some c
 hv:ClmR w c v
@[reducible] def plcV (i k:Int):Value:=.agg #[.int .i64 i,.int .i64 k]
def Itm.enc {goal:List Cls} {w:World} (x:Itm goal w):Array Value:=#[plcV x.i x.k,clmV x.c x.v]
def Itm.at {goal:List Cls} {w:World} (x:Itm goal w):Nat × Nat × Clm:=(x.i,x.k,x.c)
section
variable {K:VK} {w w' w0 W:World} {L:List (Addr × Value)}
def PrePl (goal:List Cls) (w:World) (J:List (Itm goal w) → WK) (l:List (Nat × Nat × Clm)) (W:World):Prop:=Bw w W ∧ ∃ pre,pre.map Itm.at = l ∧ J pre W
theorem PrePl.next {goal:List Cls} {w:World} {J:List (Itm goal w) → WK} {l:List (Nat × Nat × Clm)} {W W':World} {B:Nat} (hJ:AbidesFrom B J) (h:PrePl goal w J l W) (hb:Bw W W'):PrePl goal w J l W':=by
 obtain ⟨h1,pre,h2,h3⟩:=h
 exact ⟨h1.on hb,pre,h2,hJ pre W W' none h3 ⟨hb.os,hb.tape,hb.output,hb.size,fun k hk _=>hb.block k hk⟩ (fun r e=>by cases e)⟩
end
section
variable {K:VK} {w w' w0 W W':World} {L:List (Addr × Value)} {g n B:Nat} {row:Option Nat}
def OwnS (B:Nat) (W:World):Nat → Prop:=fun i=>B ≤ i ∧ ∃ o:Obj,W.heap[i]? = some o ∧ o.isCells = false
theorem cell_obj {a:Addr} {u:Value} (h:W.cell? a = some u):∃ o,W.heap[a.block]? = some o ∧ o.isCells = true:=by
 unfold World.cell? at h
 cases e:W.heap[a.block]? with
 | none=>rw [e] at h; simp at h
 | some o=>
  refine ⟨o,rfl,?_⟩
  rw [e] at h
  cases o <;> first | rfl | (simp at h)
theorem cellsAre_mem {L:List (Addr × Value)} (h:cellsAre W L):∀ p ∈ L,W.cell? p.1 = some p.2:=by
 induction L with
 | nil=>intro p hp; cases hp
 | cons a l ih=>
  intro p hp
  rcases List.mem_cons.1 hp with rfl | hp
  ·exact h.1
  ·exact ih h.2 p hp
theorem own_not {i:Nat} {o:Obj} (h:W.heap[i]? = some o) (ho:o.isCells = true):¬ OwnS B W i:=by
 rintro ⟨_,o',h1,h2⟩
 rw [h] at h1
 cases h1
 rw [ho] at h2
 cases h2
theorem own_below (h:Bw w0 W) (hB:w0.heap.size ≤ B) (hf:Fr (OwnS B W) W W'):Bw w0 W':=
 ⟨hf.os.trans h.os,hf.tape.trans h.tape,hf.output.trans h.output,Nat.le_trans h.size hf.size,fun k hk=>(hf.block k (lL hk h.size) (fun x=>by have:=x.1; omega)).trans (h.block k hk)⟩
theorem own_kn (h:Kn w0 L W) (hB:w0.heap.size ≤ B) (hf:Fr (OwnS B W) W W'):Kn w0 L W':=
 ⟨own_below h.below hB hf,cells_fr h.cells hf fun p hp=>⟨cells_lt h.cells p hp,by
  obtain ⟨o,h1,h2⟩:=cell_obj (cellsAre_mem h.cells p hp)
  exact own_not h1 h2⟩⟩
theorem own_mine (h:Mine W g n) (hf:Fr (OwnS B W) W W'):Mine W' g n:=by
 obtain ⟨cur,T,h1,h2⟩:=h
 refine ⟨cur,T,?_,h2⟩
 rw [hf.block g (Array.getElem?_eq_some_iff.1 h1).1 (own_not h1 rfl)]
 exact h1
theorem own_knm (h:KnM w0 L g n W) (hB:w0.heap.size ≤ B) (hf:Fr (OwnS B W) W W'):KnM w0 L g n W':=⟨own_kn h.kn hB hf,own_mine h.mine hf,h.base,h.off⟩
theorem keeps_mine {g:Nat} (hg:W.grownBy W' (some g)) (hm:Mine W g n):KeepsFrom B W W':=⟨hg.size,fun k o _ hk ho=>by
 obtain ⟨cur,T,h1,_⟩:=hm
 rw [hg.block k (Array.getElem?_eq_some_iff.1 hk).1 (fun e=>by cases e; rw [h1] at hk; cases hk; cases ho)]
 exact hk⟩
theorem own_cells (h:cellsAre W L) (hf:Fr (OwnS B W) W W'):cellsAre W' L:=
 cells_fr h hf fun p hp=>⟨cells_lt h p hp,by
  obtain ⟨o,h1,h2⟩:=cell_obj (cellsAre_mem h p hp)
  exact own_not h1 h2⟩
theorem own_cell {a:Addr} {u:Value} (h:W.cell? a = some u) (hf:Fr (OwnS B W) W W'):W'.cell? a = some u:=(own_cells (L:=[(a,u)]) ⟨h,trivial⟩ hf).1
def CmJ (l:List Int) (w0:World) (vs:List Value) (W:World):Prop:=Bw w0 W ∧ ∃ (v:Value) (i:Nat),vs = [v,.int .i64 (i:Int)] ∧ i ≤ l.length ∧ OwnI W w0.heap.size v (l.take i)
theorem commitments_ok (s:Stp) (c:Clm) (dare:Int) (an:List Int) {sv cv av:Value} (hs:SetR w s sv) (hc:ClmR w c cv) (hd:I64 dare) (ha:Ints w av an) (hlen:c.eqs.length < 1000) (hfit:∀ e ∈ c.eqs,e.terms.length < 1000 ∧ ∀ t ∈ e.terms,0 ≤ t.var ∧ t.var < an.length)
  (k:∀ v w',Bw w w' → OwnI w' w.heap.size v (commitsM s c dare an) → K v w'):callM Tryz.prog 141 #[stpV s sv,clmV c cv,.int .i64 dare,av] K w:=by
 apply sh_141_ok
 unfold sh_141
 have hs':=hs
 obtain ⟨ad,cc,rfl⟩:=hs.ints.isSlice
 obtain ⟨ead,ec,rfl⟩:=hc.eqs.isSlice
 have hle:=hc.eqs.len
 refine box_kn (cs:=stpC s (.slice ad s.bases.length cc)) rfl (.start w) fun b1 W hk hb1 hbb=>?_
 refine box_kn (cs:=clmC c (.slice ead c.eqs.length ec)) rfl hk fun b2 W hk hb2 hbb2=>?_
 clear hb1 hb2
 have hcl:(commitsM s c dare an).length = c.eqs.length:=by simp [commitsM]
 refine Xa hk.cells ?_
 refine ⟨CmJ (commitsM s c dare an) W,grMu c.eqs.length,⟨bR,_,0,rfl,by omega,own_none⟩,?_⟩
 rintro _ _ w1 ⟨h1,v,i,rfl,hi,ho⟩
 rw [hcl] at hi
 have hk1:=hk.next h1
 by_cases hin:i = c.eqs.length
 ·refine Xa0 ?_
  rw [List.take_of_length_le (by omega)] at ho
  exact k _ _ hk1.below (owns_up ho (fun j hj=>Nat.le_trans hk.below.size (owns_own ho hj).2.1))
 have ee:c.eqs[i]? = some c.eqs[i]:=gE (by omega)
 have hfe:=hfit _ (List.getElem_mem (by omega:i < c.eqs.length))
 have hst:(commitsM s c dare an)[i]? = some (overG s.g (leftM s c.eqs[i] an) (powerG s.g c.eqs[i].target dare)):=by
  unfold commitsM
  rw [List.getElem?_map,ee]
  rfl
 obtain ⟨bC,oC,rfl,hltC,cvC,c0C,c1C,hrowC,hIC⟩:=hc.eqs.at (i:=i) (by omega)
 generalize c.eqs[i] = e at *
 obtain ⟨cadC,ccC,rfl⟩:=hrowC.isSlice
 have hllC:(i:Int) < c.eqs.length:=by omega
 refine Xb4 (An3 ((hk1.below.cell hltC).trans c0C) ((hk1.below.cell hltC).trans c1C) @hllC) ?_
 refine local_eqn e _ _ _ hk1 (fun b3 W3 hk3 hb3 hg3=>?_)
 have ho:=(ho.keep hb3).keep .drawn
 have h3:=(h1.on hb3).on (.drawn (B:=W3.heap.size))
 have hk:=hk3.drew
 refine ⟨Nx { W3 with drawn:=W3.drawn + 1 },bR,rfl,?_⟩
 generalize ({ W3 with drawn:=W3.drawn + 1 }:World) = W4 at hk ho h3 ⊢
 refine Xc (fun W0 hW0=>(hk.next hW0).cells) ?_
 refine ⟨Nx,?_⟩
 apply monoE
 ·intro w5 h5
  exact left_ok s e an (hs'.next (hk.next h5).below) (hrowC.next trm_stay (hk.next h5).below) hIC (ha.next (hk.next h5).below) hfe.1 (fun t ht=>by have:=hfe.2 t ht; omega) (fun w6 h6=>⟨h5.on h6,h6,rfl⟩)
 apply monoE
 ·intro w5 h5
  exact Power_ok _ _ _ (fun w6 h6=>⟨h5.on h6,h6,rfl⟩)
 apply monoE
 ·rintro w5 h5 _ rfl _ rfl
  exact Over_ok _ _ _ (fun w6 h6=>⟨h5.on h6,h6,rfl⟩)
 refine monoR (fun v w'=>Ints w' v [overG s.g (leftM s e an) (powerG s.g e.target dare)]) (fun v w w1 hS h=>h.next hS) ?_ ?_
 ·rintro w5 h5 _ rfl
  exact mk1 _ (overG_I64 _ _ _) (fun v w6 h6 hi=>⟨h5.on h6,h6,hi⟩)
 rintro w9 h9 _ rfl _ rfl _ rfl v9 hi9
 refine append1 (ho.keep h9) (Nat.le_trans h3.size h9.size) hi9 (by simp only [List.length_take]; omega) (fun v10 w10 ho10 h10=>?_)
 refine Xa0 ?_
 refine ⟨⟨(h3.on h9).trans h10,_,i + 1,rfl,by omega,?_⟩,by simp only [grMu_eq]; omega⟩
 rw [← take_snoc' hst]
 exact ho10
theorem keeps_by {b:Option Nat} (hg:W.grownBy W' b) (hb:∀ i,b = some i → ∃ cur T,W.heap[i]? = some (.cells cur T (0,0))):KeepsFrom B W W':=⟨hg.size,fun k o _ hk ho=>by
 rw [hg.block k (Array.getElem?_eq_some_iff.1 hk).1 (fun e=>by
  obtain ⟨cur,T,h1⟩:=hb k (by first | exact e | exact e.symm)
  rw [h1] at hk; cases hk; cases ho)]
 exact hk⟩
theorem knm_by {b:Option Nat} (h:KnM w0 L g n W) (hg:W.grownBy W' b) (hb:∀ i,b = some i → B ≤ i) (h1:g < B) (h2:∀ p ∈ L,p.1.block < B) (h3:w0.heap.size ≤ B):KnM w0 L g n W':=by
 have hf:=Fr.of_by' hg
 refine ⟨⟨h.below.grown hg h.below.size (fun k hk=>by have:=hb k (by first | exact hk | exact hk.symm); omega),cells_fr h.cells hf (fun p hp=>⟨cells_lt h.cells p hp,fun e=>by have:=hb _ e; have:=h2 p hp; omega⟩)⟩,?_,h.base,h.off⟩
 obtain ⟨cur,T,h4,h5⟩:=h.mine
 exact ⟨cur,T,by rw [hf.block g (Array.getElem?_eq_some_iff.1 h4).1 (fun e=>by have:=hb _ e; omega)]; exact h4,h5⟩
structure VarI (w0:World) (L:List (Addr × Value)) (cb B:Nat) (l:List Int) (W:World):Prop where
 knm:KnM w0 L cb 1 W
 ex:∃ ad c,W.cell? ⟨cb,0,none⟩ = some (.slice ad l.length c) ∧ OwnI W B (.slice ad l.length c) l
 b1:cb < B
 b2:∀ p ∈ L,p.1.block < B
 b3:w0.heap.size ≤ B
 b4:B ≤ W.heap.size
variable {cb:Nat} {l m:List Int}
theorem VarI.next (h:VarI w0 L cb B l W) (hb:Bw W W'):VarI w0 L cb B l W':=by
 obtain ⟨ad,c,h1,h2⟩:=h.ex
 exact ⟨h.knm.next hb,⟨ad,c,(hb.cell (mine_lt h.knm.mine)).trans h1,h2.keep hb⟩,h.b1,h.b2,h.b3,Nat.le_trans h.b4 hb.size⟩
theorem VarI.own {C:Nat} (h:VarI w0 L cb B l W) (hC:w0.heap.size ≤ C) (hf:Fr (OwnS C W) W W'):VarI w0 L cb B l W':=by
 obtain ⟨ad,c,h1,h2⟩:=h.ex
 refine ⟨own_knm h.knm hC hf,⟨ad,c,own_cell h1 hf,owns_keep h2 (fun i hi=>?_)⟩,h.b1,h.b2,h.b3,Nat.le_trans h.b4 hf.size⟩
 obtain ⟨h3,_,cur,h4⟩:=owns_own h2 hi
 exact hf.block i h3 (own_not h4 rfl)
theorem VarI.add {C:Nat} {ad:Option Addr} {c:Nat} {xv:Value} {T T2:TypeId} {Q:WK} (h:VarI w0 L cb B l W) (ho:OwnI W B (.slice ad l.length c) l) (hx:Ints W xv m) (hl:l.length + m.length < 1099511627776)
  (k:∀ W2,VarI w0 L cb B (l ++ m) W2 → KeepsFrom C W W2 → Below w0.heap.size W W2 → Q W2) :
  oM Tryz.prog (.call { callee:=.builtin .append,args:=#[.tmp 0,.tmp 1],argTypes:=#[24,24] }) T [.slice ad l.length c,xv] (fun v' w=>oM Tryz.prog (.store 24 (.tmp 0) (.tmp 1)) T2 [.pointer (some ⟨cb,0,none⟩),v'] (fun _ w=>Q w) w) W:=by
 refine appendNg ho h.b4 hx hl (fun v' w1 ho1 hg1 hv1=>?_)
 obtain ⟨ad',c',rfl⟩:=owns_len ho1
 have hbB:∀ i,(Value.slice ad l.length c).ownBlock = some i → B ≤ i:=fun i e=>(owns_own ho e).2.1
 have hk1:=knm_by h.knm hg1 hbB h.b1 h.b2 h.b3
 obtain ⟨W2,e,hg2,hm2,hc2⟩:=store_run (P:=Tryz.prog) (w:=w1) (W:=w1) (T:=24) (x:=.slice ad' (l ++ m).length c') (xs:=[.slice ad' (l ++ m).length c']) sz_ints rfl rfl (by intro u hu; rw [List.mem_singleton] at hu; subst hu; rfl) hk1.mine
 rw [oM_store,e]
 have hk2:KnM w0 L cb 1 W2:=⟨hk1.kn.wrote hg2 hk1.base hk1.off,hm2,hk1.base,hk1.off⟩
 have hB1:Below w0.heap.size W w1:=(Below.refl w0.heap.size W).grown hg1 h.knm.below.size (fun k hk=>by have:=hbB k (by first | exact hk | exact hk.symm); have:=h.b3; omega)
 refine k W2 ⟨hk2,⟨ad',c',hc2.1,owns_keep ho1 (fun i hi=>hg2.block i (owns_own ho1 hi).1 (fun e=>by cases e; have:=(owns_own ho1 hi).2.1; have:=h.b1; omega))⟩,h.b1,h.b2,h.b3,Nat.le_trans h.b4 (Nat.le_trans hg1.size hg2.size)⟩ ?_ ?_
 ·exact (keeps_by hg1 (fun i e=>by obtain ⟨_,_,cur,h4⟩:=owns_own ho e; exact ⟨cur,_,h4⟩)).trans (keeps_mine hg2 hk1.mine)
 ·exact hB1.grown hg2 (Nat.le_trans h.knm.below.size hB1.size) (fun k hk=>by have:=hk1.base; cases hk; omega)
end
section
variable {K:VK} {w w' w0 W W':World} {L:List (Addr × Value)} {g n B:Nat} {row:Option Nat}
end
end Go.Proofs
namespace Go.Proofs
open FdSpec TkSpec CodeSpec PrSpec
end Go.Proofs
namespace Go.Proofs
open Go Go.Sh Go.RowKit FdSpec TkSpec CodeSpec PrSpec
section
variable {K:VK} {w w' w0 W W':World} {L:List (Addr × Value)} {g n B:Nat} {row:Option Nat}
end
structure Bit (l:List Int) where
 i:Nat
 c:Int
 h:l[i]? = some c
def Bit.enc {l:List Int} (x:Bit l):Array Value:=#[.int .i64 x.i,.int .i64 x.c]
section
variable {K:VK} {w w' w0 W W':World} {L:List (Addr × Value)} {g n B:Nat} {row:Option Nat}
def KpB (n g:Nat) (A B:World):Prop:=Below n A B ∧ ∀ o,A.heap[g]? = some o → B.heap[g]? = some o
theorem KpB.trans {n g:Nat} {A B C:World} (h:KpB n g A B) (k:KpB n g B C):KpB n g A C:=⟨h.1.trans k.1,fun o ho=>k.2 o (h.2 o ho)⟩
theorem KpB.cell {n g:Nat} {A B:World} {u:Value} (h:KpB n g A B) (hc:A.cell? ⟨g,0,none⟩ = some u):B.cell? ⟨g,0,none⟩ = some u:=by
 obtain ⟨o,h1,_⟩:=cell_obj hc
 have h1:A.heap[g]? = some o:=h1
 rw [← hc]
 unfold World.cell?
 rw [h1,h.2 o h1]
end
end Go.Proofs
namespace Go.Proofs
open Go Go.Sh Go.RowKit FdSpec TkSpec CodeSpec PrSpec FdPoly
section
variable {K:VK} {w w' w0 W W':World} {L:List (Addr × Value)} {g n B:Nat} {row:Option Nat}
theorem sz_int1 (w:World):(sizeOf 3).run Tryz.prog w = .ok 1 w:=by kernel_rfl
end
end Go.Proofs
namespace Go.Proofs
open Go Go.Sh Go.RowKit FdSpec TkSpec CodeSpec PrSpec
section
variable {K:VK} {w w' w0 W W':World} {L:List (Addr × Value)} {g n B:Nat} {row:Option Nat}
@[reducible] def uqV (n:Int):Value:=.int .u64 n
structure Met (q:Int) (pre:List Int) (l:List (Int × Value)):Prop where
 nd:(l.map (·.1)).Nodup
 mem:∀ k,k ∈ l.map (·.1) ↔ k ∈ pre.map (fun x=>x % q)
 le:l.length ≤ pre.length
 len:l.length = pre.length ↔ (pre.map fun x=>x % q).Nodup
theorem Met.put {q:Int} {pre:List Int} {l:List (Int × Value)} (h:Met q pre l) (x:Int) (v:Value):Met q (pre ++ [x]) (putA l (x % q) v):=by
 have hk:=keys_put l (x % q) v
 have hlen:(putA l (x % q) v).length = ((putA l (x % q) v).map (·.1)).length:=by simp
 by_cases hs:(lookA l (x % q)).isSome
 ·rw [if_pos hs] at hk
  have hm:=(lookA_isSome l (x % q)).1 hs
  have hm':=(h.mem _).1 hm
  refine ⟨nodup_put l _ v h.nd,fun k=>?_,?_,?_⟩
  ·rw [hk,h.mem k,List.map_append,List.mem_append]
   refine ⟨.inl,fun e=>e.elim id fun e=>?_⟩
   simp only [List.map_cons,List.map_nil,List.mem_singleton] at e
   rw [e]; exact hm'
  ·rw [hlen,hk,List.length_map,List.length_append]
   have:=h.le
   omega
  ·rw [hlen,hk,List.length_map,List.length_append]
   have:=h.le
   refine ⟨fun e=>by simp only [List.length_cons,List.length_nil] at e; omega,fun e=>?_⟩
   rw [List.map_append,List.nodup_append] at e
   exact (e.2.2 _ hm' _ (by simp) rfl).elim
 ·rw [if_neg hs] at hk
  have hm:x % q ∉ l.map (·.1):=fun e=>hs ((lookA_isSome l (x % q)).2 e)
  have hm':x % q ∉ pre.map (fun x=>x % q):=fun e=>hm ((h.mem _).2 e)
  refine ⟨nodup_put l _ v h.nd,fun k=>?_,?_,?_⟩
  ·rw [hk,List.mem_append,h.mem k,List.map_append,List.mem_append]
   simp
  ·rw [hlen,hk,List.length_append,List.length_map,List.length_append]
   have:=h.le
   simp only [List.length_cons,List.length_nil]
   omega
  ·rw [hlen,hk,List.length_append,List.length_map,List.length_append,List.map_append,List.nodup_append]
   simp only [List.length_cons,List.length_nil]
   rw [show l.length + (0 + 1) = pre.length + (0 + 1) ↔ l.length = pre.length by omega,h.len]
   refine ⟨fun e=>⟨e,by simp,fun a ha b hb=>?_⟩,fun e=>e.1⟩
   simp only [List.map_cons,List.map_nil,List.mem_singleton] at hb
   rw [hb]
   rintro rfl
   exact hm' ha
end
end Go.Proofs
namespace Go.Proofs
open Go Go.Sh Go.RowKit FdSpec TkSpec CodeSpec PrSpec FdPoly
section
variable {K:VK} {w w' w0 W W':World} {L:List (Addr × Value)} {g n B:Nat} {row:Option Nat}
structure RowP (W:World) (B g c:Nat) (l:List Int):Prop where
 cells:∃ cur,W.heap[g]? = some (.cells cur 3 (0,0)) ∧ cur.size = c ∧ cur.toList.take l.length = l.map (Value.int .i64)
 le:l.length ≤ c
 base:B ≤ g
 max:c ≤ maxLen
theorem RowP.lt {c:Nat} {l:List Int} (h:RowP W B g c l):g < W.heap.size:=by
 obtain ⟨cur,hg,_⟩:=h.cells
 exact (Array.getElem?_eq_some_iff.1 hg).1
theorem RowP.next {c:Nat} {l:List Int} (h:RowP W B g c l) (hb:Bw W W'):RowP W' B g c l:=by
 obtain ⟨cur,hg,hr⟩:=h.cells
 exact ⟨⟨cur,by rw [hb.block g h.lt]; exact hg,hr⟩,h.le,h.base,h.max⟩
theorem RowP.cell {c:Nat} {l:List Int} (h:RowP W B g c l) {i:Nat} {x:Int} (hx:l[i]? = some x):W.cell? ⟨g,i,none⟩ = some (.int .i64 x):=by
 obtain ⟨cur,hg,hs,ht⟩:=h.cells
 have hi:=(gS hx).1
 have h1:(cur.toList.take l.length)[i]? = some (.int .i64 x):=by rw [ht,List.getElem?_map,hx]; rfl
 rw [List.getElem?_take_of_lt hi] at h1
 unfold World.cell?
 rw [hg]
 simpa using h1
theorem RowP.set {c:Nat} {l:List Int} {i:Nat} {x:Int} {T':TypeId} (h:RowP W B g c l) (hi:i < l.length) (k:∀ W',W.grownBy W' (some g) → RowP W' B g c (l.set i x) → K undef W') :
  oM Tryz.prog (.store 3 (.tmp 0) (.tmp 1)) T' [.pointer (some ⟨g,i,none⟩),.int .i64 x] K W:=by
 obtain ⟨cur,hg,hs,ht⟩:=h.cells
 have hh:Holds W g 3 cur.toList:=by
  unfold Holds
  simpa using hg
 have hle:=h.le
 refine arr_set (w:=W) (T:=3) sz_int1 rfl rfl hh (by simpa [hs] using lL hi hle) (fun W2 h2 h3=>k W2 h2 ⟨⟨(cur.toList.set i (.int .i64 x)).toArray,h3,by simpa using hs,?_⟩,by simpa using hle,h.base,h.max⟩)
 simp only [List.length_set]
 show (cur.toList.set i (.int .i64 x)).take l.length = _
 rw [List.take_set,ht,List.map_set]
theorem RowP.other {b:Option Nat} {c:Nat} {l:List Int} (h:RowP W B g c l) (hg:W.grownBy W' b) (hb:b ≠ some g):RowP W' B g c l:=by
 obtain ⟨cur,h1,hr⟩:=h.cells
 exact ⟨⟨cur,by rw [hg.block g h.lt (fun e=>hb (by first | exact e | exact e.symm))]; exact h1,hr⟩,h.le,h.base,h.max⟩
theorem getD_some {l:List Int} {i:Nat} (h:i < l.length):l[i]? = some (l.getD i 0):=by
 rw [List.getD_eq_getElem?_getD,gE h]; rfl
end
end Go.Proofs
namespace Go.Proofs
open Go.Sh Tryz
end Go.Proofs
namespace Go.Proofs
open FdSpec TkSpec CodeSpec PrSpec FdPoly
end Go.Proofs
namespace Go.Proofs
open Go Go.Sh Tryz
end Go.Proofs
namespace Go.Proofs
open Go Go.Sh Go.RowKit FdSpec TkSpec CodeSpec PrSpec
section
variable {K:VK} {w w' w0 W:World} {L:List (Addr × Value)}
theorem FewSetup_ok (s:Stp) {v:Value} (hs:SetR w s v) (k:∀ w',Bw w w' → K (.bool (decide ((s.bases.length:Int) ≤ 9))) w'):callM Tryz.prog 39 #[stpV s v] K w:=by
 apply sh_39_ok
 unfold sh_39
 obtain ⟨ad,c,rfl⟩:=hs.ints.isSlice
 refine box_kn (cs:=stpC s (.slice ad s.bases.length c)) rfl (.start w) fun b1 W hk hb1 hbb=>?_
 have k:=k _ hk.below
 generalize hq:decide ((s.bases.length:Int) ≤ 9) = q at *
 refine Xa hk.cells ?_
 rw [hq]
 exact k
theorem sameSig_ok (a b c d:Int) (k:∀ w',Bw w w' → K (.bool (decide (a = c) && decide (b = d))) w'):callM Tryz.prog 49 #[sigV a b,sigV c d] K w:=by
 apply sh_49_ok
 unfold sh_49
 refine box_kn (cs:=sigC a b) rfl (.start w) fun b1 W hk hb1 hbb=>?_
 refine box_kn (cs:=sigC c d) rfl hk fun b2 W2 hk hb2 hbb2=>?_
 have k:=k _ hk.below
 by_cases h:a = c
 ·rw [decide_eq_true h,bT] at k
  refine Xa (An2 hk.cells @h) ?_
  exact k
 ·rw [decide_eq_false h,bF] at k
  refine Xa (An2 hk.cells @h) ?_
  exact k
end
end Go.Proofs
namespace Go.Proofs
open Go Go.Sh Tryz
end Go.Proofs
namespace PrSpec
open FdSpec TkSpec CodeSpec FdPoly GrLaw
end PrSpec
namespace Go.Proofs
open Go Go.Sh Go.RowKit FdSpec TkSpec CodeSpec PrSpec
section
variable {K:VK} {w w' w0 W:World} {L:List (Addr × Value)}
def BoolR (_:World) (v:Value) (b:Bool):Prop:=v = .bool b
abbrev BoolsR (w:World) (v:Value) (l:List Bool):Prop:=SRow 1 (AtOf 1 (VOne BoolR)) w v l
@[go_sem] theorem idx_bools (T:TypeId) (b o n c:Nat) (x:Int):oM Tryz.prog (.indexAddr 61 (.tmp 0) (.tmp 1)) T [.slice (some ⟨b,o,none⟩) n c,.int .i64 x] = onM (0 ≤ x ∧ x < n) (.pointer (some ⟨b,o + x.toNat,none⟩)):=by
 have:=idx_row (K:=fun _ _=>True) (P:=Tryz.prog) (n:=1) 61 T (by kernel_rfl) (fun w=>by kernel_rfl) b o n c x
 rwa [Nat.mul_one] at this
end
end Go.Proofs
namespace Go.Proofs
open Go Go.Sh Go.RowKit FdSpec TkSpec CodeSpec PrSpec FdPoly
section
variable {K:VK} {w w' w0 W W':World} {L:List (Addr × Value)} {g n B:Nat} {row:Option Nat}
end
end Go.Proofs
namespace Go.Proofs
open FdSpec TkSpec CodeSpec PrSpec
end Go.Proofs
namespace Go.Proofs
open Go Go.Sh Go.RowKit FdSpec TkSpec CodeSpec PrSpec FdPoly
section
variable {K:VK} {w w' w0 W W':World} {L:List (Addr × Value)} {g n B:Nat} {row:Option Nat}
abbrev BoolG (B:Nat) (w:World) (v:Value) (l:List Bool):Prop:=GRow 1 4 (VOne BoolR) B (fun _=>False) w v l
theorem bools_append {v:Value} {l:List Bool} {b:Bool} {T:TypeId} (h:BoolG B w v l) (hB:B ≤ w.heap.size) (hh:Holds w g 4 [.bool b]) (hl:l.length < 1099511627776)
  (k:∀ v' w',BoolG B w' v' (l ++ [b]) → w.grownBy w' v.ownBlock → (∀ i,v'.ownBlock = some i → v.ownBlock = some i ∨ w.heap.size ≤ i) → K v' w') :
  oM Tryz.prog (.call { callee:=.builtin .append,args:=#[.tmp 0,.tmp 1],argTypes:=#[61,61] }) T [v,.slice (some ⟨g,0,none⟩) 1 1] K w:=by
 refine grow_append 61 T ((Tryz.prog.info? 4).getD default) (((Tryz.prog.info? 4).getD default).zero.getD undef) 1 (by kernel_rfl) (by kernel_rfl) (by kernel_rfl) (by kernel_rfl) (by kernel_rfl) (by kernel_rfl) (by decide) (by decide)
  h hB (x:=b) (xs:=[.bool b]) rfl (fun j u hj=>?_) (fun u hu=>?_) (fun _ _ _ _ _ _=>⟨_,rfl,rfl⟩) (fun i hi=>hi.elim) hl (fun v' w' h1 h2 h3 _=>k v' w' h1 h2 h3)
 ·obtain ⟨h1,rfl⟩:=gS hj
  have hj0:j = 0:=by simpa using h1
  subst hj0
  exact hh.cell 0 (by simp)
 ·rw [List.mem_singleton] at hu
  subst hu; rfl
structure OutB (w:World) (B g:Nat) (rows:List (List Bool)):Prop where
 ex:∃ vs:List Value,vs.length = rows.length ∧ Holds w g 61 vs ∧ (∀ (i:Nat) (v:Value) (r:List Bool),vs[i]? = some v → rows[i]? = some r → BoolG B w v r) ∧
  (∀ (i j:Nat) (v u:Value),i ≠ j → vs[i]? = some v → vs[j]? = some u → apart v u) ∧ (∀ (i:Nat) (v:Value),vs[i]? = some v → v.ownBlock ≠ some g)
 base:B ≤ g
theorem BoolG.keepS {v:Value} {l:List Bool} {S:Nat → Prop} (h:BoolG B w v l) (hf:Fr S w w') (hv:∀ i,v.ownBlock = some i → ¬ S i):BoolG B w' v l:=GRow.keep h hf (fun i hi=>hi.elim) hv
theorem OutB.next {rows:List (List Bool)} (h:OutB w B g rows) (hb:Bw w w'):OutB w' B g rows:=by
 obtain ⟨vs,h1,h2,h3,h4,h5⟩:=h.ex
 exact ⟨⟨vs,h1,h2.next hb,fun i v r a b=>GRow.next (h3 i v r a b) hb (fun i hi=>hi.elim),h4,h5⟩,h.base⟩
theorem OutB.lt {rows:List (List Bool)} (h:OutB w B g rows):g < w.heap.size:=by
 obtain ⟨vs,_,h2,_⟩:=h.ex
 exact h2.lt
theorem OutB.get {rows:List (List Bool)} {i:Nat} {r:List Bool} (h:OutB w B g rows) (hi:rows[i]? = some r):∃ ad c,w.cell? ⟨g,i,none⟩ = some (.slice ad r.length c):=by
 obtain ⟨vs,h1,h2,h3,_,_⟩:=h.ex
 have hlt:i < vs.length:=by have:=(gS hi).1; omega
 have hv:=gE hlt
 obtain ⟨ad,c,e⟩:=(h3 i _ r hv hi).isSlice
 exact ⟨ad,c,by rw [h2.cell i hlt,e]⟩
theorem sz_bools (w:World):(sizeOf 61).run Tryz.prog w = .ok 1 w:=by kernel_rfl
theorem OutB.push {rows:List (List Bool)} {i q:Nat} {r:List Bool} {b:Bool} {T:TypeId} {ad:Option Addr} {c:Nat} (h:OutB w B g rows) (hi:rows[i]? = some r) (hB:B ≤ w.heap.size) (hv:w.cell? ⟨g,i,none⟩ = some (.slice ad r.length c)) (hh:Holds w q 4 [.bool b]) (hl:r.length < 1099511627776)
  (k:∀ v' w1,(∀ (T':TypeId) (K':VK),(∀ w2,OutB w2 B g (rows.set i (r ++ [b])) → Fr (fun j=>B ≤ j) w w2 → K' undef w2) → oM Tryz.prog (.store 61 (.tmp 0) (.tmp 1)) T' [.pointer (some ⟨g,i,none⟩),v'] K' w1) → K v' w1) :
  oM Tryz.prog (.call { callee:=.builtin .append,args:=#[.tmp 0,.tmp 1],argTypes:=#[61,61] }) T [.slice ad r.length c,.slice (some ⟨q,0,none⟩) 1 1] K w:=by
 obtain ⟨vs,h1,h2,h3,h4,h5⟩:=h.ex
 have hlt:i < vs.length:=by have:=(gS hi).1; omega
 have hvi:=gE hlt
 have he:vs[i] = .slice ad r.length c:=by
  have:=h2.cell i hlt
  rw [hv] at this
  exact (oI this).symm
 rw [he] at hvi
 have hG:=h3 i _ r hvi hi
 have hng:=h5 i _ hvi
 refine bools_append hG hB hh hl (fun v' w1 hG1 hg1 hf1=>k v' w1 (fun T' K' hk=>?_))
 have hgl:=h2.lt
 have hng':v'.ownBlock ≠ some g:=fun e=>by
  rcases hf1 g e with e2 | e2
  ·exact hng e2
  ·omega
 have hH1:Holds w1 g 61 vs:=by
  unfold Holds
  rw [hg1.block g hgl (fun e=>hng (by first | exact e | exact e.symm))]
  exact h2
 obtain ⟨ad',c',rfl⟩:=hG1.isSlice
 refine arr_set sz_bools rfl rfl hH1 hlt (fun w2 hg2 hH2=>hk w2 ⟨⟨_,by simpa using h1,hH2,?_,?_,?_⟩,h.base⟩ ?_)
 ·intro j v r' hj hr'
  rw [List.getElem?_set] at hj hr'
  by_cases hij:i = j
  ·rw [if_pos hij,if_pos hlt] at hj
   rw [if_pos hij,if_pos (by omega)] at hr'
   cases hj; cases hr'
   exact BoolG.keepS hG1 (Fr.of_by hg2) (fun x hx e=>hng' (by rw [hx,e]))
  ·rw [if_neg hij] at hj hr'
   have hGj:=h3 j v r' hj hr'
   have hap:=h4 i j _ _ hij hvi hj
   have h51:=h5 j v hj
   have hGj1:=BoolG.keepS hGj (Fr.of_by' hg1) (fun x hx e=>hap x e hx)
   exact BoolG.keepS hGj1 (Fr.of_by hg2) (fun x hx e=>h51 (by rw [hx,e]))
 ·have key:∀ (j:Nat) (u:Value),i ≠ j → vs[j]? = some u → apart (.slice ad' (r ++ [b]).length c') u:=by
   intro j u hij hj x e1 e2
   rcases hf1 x e1 with e3 | e3
   ·exact h4 i j _ _ hij hvi hj x e3 e2
   ·have hlt2:j < rows.length:=by have:=(gS hj).1; omega
    have:=((h3 j u _ hj (gE hlt2)).own e2).1
    omega
  intro j l v u hjl hj hl'
  rw [List.getElem?_set] at hj hl'
  by_cases hij:i = j
  ·rw [if_pos hij,if_pos hlt] at hj
   rw [if_neg (by omega)] at hl'
   cases hj
   exact key l u (by omega) hl'
  ·rw [if_neg hij] at hj
   by_cases hil:i = l
   ·rw [if_pos hil,if_pos hlt] at hl'
    cases hl'
    exact fun x e1 e2=>key j v hij hj x e2 e1
   ·rw [if_neg hil] at hl'
    exact h4 j l v u hjl hj hl'
 ·intro j v hj
  rw [List.getElem?_set] at hj
  by_cases hij:i = j
  ·rw [if_pos hij,if_pos hlt] at hj
   cases hj
   exact hng'
  ·rw [if_neg hij] at hj
   exact h5 j v hj
 ·refine ⟨hg2.os.trans hg1.os,hg2.tape.trans hg1.tape,hg2.output.trans hg1.output,Nat.le_trans hg1.size hg2.size,fun j hj hn=>?_⟩
  rw [hg2.block j (lL hj hg1.size) (fun e=>hn (by cases e; exact h.base)),hg1.block j hj (fun e=>hn ((hG.own (by first | exact e | exact e.symm)).2))]
@[go_sem] theorem idx_bb (T:TypeId) (b o n c:Nat) (x:Int):oM Tryz.prog (.indexAddr 120 (.tmp 0) (.tmp 1)) T [.slice (some ⟨b,o,none⟩) n c,.int .i64 x] = onM (0 ≤ x ∧ x < n) (.pointer (some ⟨b,o + x.toNat,none⟩)):=by
 have:=idx_row (K:=fun _ _=>True) (P:=Tryz.prog) (n:=1) 120 T (by kernel_rfl) (fun w=>by kernel_rfl) b o n c x
 rwa [Nat.mul_one] at this
end
end Go.Proofs
namespace Go.Proofs
open FdSpec TkSpec CodeSpec PrSpec
end Go.Proofs
namespace Go.Proofs
open Go Go.Sh Tryz
end Go.Proofs
namespace Go.Proofs
open Go Go.Sh Go.RowKit FdSpec TkSpec CodeSpec PrSpec FdPoly
section
variable {K:VK} {w w' w0 W W':World} {L:List (Addr × Value)} {g n B:Nat} {row:Option Nat}
abbrev BoolRows (w:World) (v:Value) (l:List (List Bool)):Prop:=SRow 1 (AtOf 1 (VOne BoolsR)) w v l
theorem OutB.rows {rows:List (List Bool)} (h:OutB w B g rows) (hl:rows.length ≤ 9223372036854775807) (hr:∀ r ∈ rows,r.length ≤ 9223372036854775807):BoolRows w (.slice (some ⟨g,0,none⟩) rows.length rows.length) rows:=by
 obtain ⟨vs,h1,h2,h3,_,_⟩:=h.ex
 refine ⟨⟨_,_,rfl,.inr ⟨g,0,rfl,h2.lt,fun i hi=>?_⟩⟩,hl⟩
 have hiv:i < vs.length:=by omega
 have ev:vs[i]? = some vs[i]:=gE hiv
 have er:rows[i]? = some rows[i]:=gE hi
 refine ⟨[vs[i]],rfl,fun j u hj=>?_,_,rfl,GRow.srow (by decide) (h3 i _ _ ev er) (hr _ (List.getElem_mem hi))⟩
 obtain ⟨h4,rfl⟩:=gS hj
 have hj0:j = 0:=by simpa using h4
 subst hj0
 have:=h2.cell i hiv
 simpa using this
def Yng (B g:Nat) (w:World):Nat → Prop:=fun i=>B ≤ i ∧ i < w.heap.size ∧ i ≠ g
theorem Yng.mono (hs:w.heap.size ≤ w'.heap.size):∀ i,Yng B g w i → Yng B g w' i:=fun i h=>⟨h.1,lL h.2.1 hs,h.2.2⟩
structure OutI (B g:Nat) (w:World) (rows:L2):Prop where
 ex:∃ vs:List Value,vs.length = rows.length ∧ Holds w g 24 vs ∧ FP (Yng B g w) w (fun w=>∀ (i:Nat) (v:Value) (r:List Int),vs[i]? = some v → rows[i]? = some r → Ints w v r)
 base:B ≤ g
theorem OutI.lt {rows:L2} (h:OutI B g w rows):g < w.heap.size:=by
 obtain ⟨vs,_,h2,_⟩:=h.ex
 exact h2.lt
theorem OutI.next {rows:L2} (h:OutI B g w rows) (hb:Bw w w'):OutI B g w' rows:=by
 obtain ⟨vs,h1,h2,h3⟩:=h.ex
 exact ⟨⟨vs,h1,h2.next hb,(h3.next hb (fun i hi=>hi.2.1)).mono (Yng.mono hb.size)⟩,h.base⟩
theorem OutI.get {rows:L2} {i:Nat} {r:List Int} (h:OutI B g w rows) (hi:rows[i]? = some r):∃ ad c,w.cell? ⟨g,i,none⟩ = some (.slice ad r.length c) ∧ Ints w (.slice ad r.length c) r:=by
 obtain ⟨vs,h1,h2,h3⟩:=h.ex
 have hlt:i < vs.length:=by have:=(gS hi).1; omega
 have ev:vs[i]? = some vs[i]:=gE hlt
 have hI:=h3.here i _ r ev hi
 obtain ⟨ad,c,e⟩:=hI.isSlice
 exact ⟨ad,c,by rw [h2.cell i hlt,e],by rw [← e]; exact hI⟩
theorem OutI.set {rows:L2} {i m c:Nat} {ad:Option Addr} {r:List Int} {T':TypeId} (h:OutI B g w rows) (hi:i < rows.length) (hv:FP (Yng B g w) w (fun w=>Ints w (.slice ad m c) r))
  (k:∀ w1,w.grownBy w1 (some g) → OutI B g w1 (rows.set i r) → K undef w1):oM Tryz.prog (.store 24 (.tmp 0) (.tmp 1)) T' [.pointer (some ⟨g,i,none⟩),.slice ad m c] K w:=by
 obtain ⟨vs,h1,h2,h3⟩:=h.ex
 refine arr_set sz_intsR rfl rfl h2 (by omega) (fun w1 hg hh=>k w1 hg ⟨⟨vs.set i (.slice ad m c),by simpa using h1,hh,?_⟩,h.base⟩)
 have hoff:∀ j,Yng B g w j → j < w.heap.size ∧ some g ≠ some j:=fun j hj=>⟨hj.2.1,fun e=>hj.2.2 (oI e).symm⟩
 refine (((h3.by hg hoff).both (hv.by hg hoff)).imp ?_).mono (Yng.mono hg.size)
 rintro w2 ⟨a,b⟩ j v r' hj hr'
 rw [List.getElem?_set] at hj hr'
 by_cases hij:i = j
 ·subst hij
  rw [if_pos rfl,if_pos (by omega)] at hj
  rw [if_pos rfl,if_pos hi] at hr'
  cases hj; cases hr'
  exact b
 ·rw [if_neg hij] at hj hr'
  exact a j v r' hj hr'
theorem OutI.fp {rows:L2} (h:OutI B g w rows) (hl:rows.length ≤ 9223372036854775807):FP (fun i=>B ≤ i ∧ i < w.heap.size) w (fun w=>ListsR w (.slice (some ⟨g,0,none⟩) rows.length rows.length) rows):=by
 obtain ⟨vs,h1,h2,h3⟩:=h.ex
 have hg:=h2.lt
 refine ((h3.mono (fun i hi=>⟨hi.1,hi.2.1⟩)).both (h2.fp.mono (fun i hi=>by subst hi; exact ⟨h.base,hg⟩))).imp ?_
 rintro w2 ⟨a,b⟩
 refine ⟨⟨_,_,rfl,.inr ⟨g,0,rfl,b.lt,fun i hi=>?_⟩⟩,hl⟩
 have hiv:i < vs.length:=by omega
 refine ⟨[vs[i]],rfl,fun j u hj=>?_,_,rfl,a i _ _ (gE hiv) (gE hi)⟩
 obtain ⟨h4,rfl⟩:=gS hj
 have hj0:j = 0:=by simpa using h4
 subst hj0
 have:=b.cell i hiv
 simpa using this
structure OutQ (B b:Nat) (T:TypeId) (f:Value → Value → List Value) (w:World) (dl:L2) (al:L3):Prop where
 ex:∃ (dv av:Value) (D:Nat → Prop),Holds w b T (f dv av) ∧ ListG B D w dv dl ∧ NumG B D w av al ∧ Off D w dv ∧ Off D w av ∧ apart dv av ∧ (∀ j,D j → B ≤ j)
 lt:b < B
section
variable {b:Nat} {T:TypeId} {f:Value → Value → List Value} {dl:L2} {al:L3}
theorem OutQ.fr {S:Nat → Prop} (h:OutQ B b T f w dl al) (hf:Fr S w w') (hS:∀ j,S j → j < B ∧ j ≠ b):OutQ B b T f w' dl al:=by
 obtain ⟨dv,av,D,h1,h2,h3,h4,h5,h6,h7⟩:=h.ex
 refine ⟨⟨dv,av,D,?_,h2.keep hf (fun i hi=>⟨(h4 i hi).1,fun e=>by have:=(hS i e).1; have:=h7 i hi; omega⟩) (fun i hi e=>by have:=(hS i e).1; have:=(h2.own hi).2; omega),
  h3.keep hf (fun i hi=>⟨(h4 i hi).1,fun e=>by have:=(hS i e).1; have:=h7 i hi; omega⟩) (fun i hi e=>by have:=(hS i e).1; have:=(h3.own hi).2; omega),h4.next hf.size,h5.next hf.size,h6,h7⟩,h.lt⟩
 unfold Holds
 rw [hf.block b h1.lt (fun e=>(hS b e).2 rfl)]
 exact h1
theorem OutQ.next (h:OutQ B b T f w dl al) (hb:Bw w w'):OutQ B b T f w' dl al:=h.fr (S:=fun _=>False) (Fr.of_below' hb) (fun _ h=>h.elim)
theorem OutQ.start (hlt:b < B) (h:Holds w b T (f (.slice none 0 0) (.slice none 0 0))):OutQ B b T f w [] []:=
 ⟨⟨_,_,fun _=>False,h,.nil,.nil,fun i h=>h.elim,fun i h=>h.elim,(fun i h=>by cases h),fun i h=>h.elim⟩,hlt⟩
end
theorem _root_.Go.Sh.Holds.fr {S:Nat → Prop} {T:TypeId} {vs:List Value} (h:Holds w g T vs) (hf:Fr S w w') (hn:¬ S g):Holds w' g T vs:=(hf.block g h.lt hn).trans h
theorem _root_.Go.Sh.Holds.mine {T:TypeId} {vs:List Value} (h:Holds w g T vs) (hl:vs.length = n):Mine w g n:=⟨_,_,h,by simpa using hl⟩
theorem own_holds {T:TypeId} {vs:List Value} (h:Holds W g T vs) (hf:Fr (OwnS B W) W W'):Holds W' g T vs:=h.fr hf (own_not h rfl)
end
section
variable {K:VK} {w w' w0 W W':World} {L:List (Addr × Value)} {g n B:Nat} {row:Option Nat}
theorem un_prf:Tryz.prog.underlying 34 = some ((Tryz.prog.underlying 34).getD default):=by kernel_rfl
theorem ret_prf {a b:Value} (hh:Holds W g 34 [a,b]) (k:K (.agg #[a,b]) W):∃ r,(do loadVar 34 (← asAddr (ptr g 0)):Sem Value).run Tryz.prog W = .ok r W ∧ K r W:=
 arr_ret hh un_prf (by kernel_rfl) (by kernel_rfl) k
theorem sz_eno (w:World):(sizeOf 39).run Tryz.prog w = .ok 1 w:=by kernel_rfl
theorem eno_one (e:Int):∀ u ∈ ([.int .i64 e]:List Value),u.oneCell' = true:=by
 intro u hu
 simp only [List.mem_cons,List.not_mem_nil,or_false] at hu
 rcases hu with rfl; rfl
theorem ret_eno {e:Int} (hh:Holds W g 39 [.int .i64 e]) (k:K (.int .i64 e) W):∃ r,(do loadVar 39 (← asAddr (ptr g 0)):Sem Value).run Tryz.prog W = .ok r W ∧ K r W:=by
 refine ⟨.int .i64 e,?_,k⟩
 have hc:=hh.cell 0 (by simp)
 show (Instr.loadAt 39 (ptr g 0)).run Tryz.prog W = _
 simp [go_sem,hc]
structure Res2 (W:World) (r1 r2:Nat) (a b:Value) (e:Int):Prop where
 p:Holds W r1 34 [a,b]
 e:Holds W r2 39 [.int .i64 e]
 ne:r1 ≠ r2
theorem Res2.next {r1 r2:Nat} {a b:Value} {e:Int} (h:Res2 W r1 r2 a b e) (hb:Bw W W'):Res2 W' r1 r2 a b e:=⟨h.p.next hb,h.e.next hb,h.ne⟩
theorem Res2.own {r1 r2:Nat} {a b:Value} {e:Int} (h:Res2 W r1 r2 a b e) (hf:Fr (OwnS B W) W W'):Res2 W' r1 r2 a b e:=⟨own_holds h.p hf,own_holds h.e hf,h.ne⟩
theorem Res2.ret {r1 r2:Nat} {a b:Value} {e:Int} (h:Res2 W r1 r2 a b e) (k:K (.tuple #[.agg #[a,b],.int .i64 e]) W) :
  ∃ r,(do loadVar 34 (← asAddr (ptr r1 0)):Sem Value).run Tryz.prog W = .ok r W ∧ ∃ r',(do loadVar 39 (← asAddr (ptr r2 0)):Sem Value).run Tryz.prog W = .ok r' W ∧ K (.tuple #[r,r']) W:=
 ret_prf (K:=fun r W=>∃ r',(do loadVar 39 (← asAddr (ptr r2 0)):Sem Value).run Tryz.prog W = .ok r' W ∧ K (.tuple #[r,r']) W) h.p (ret_eno (K:=fun r' W=>K (.tuple #[.agg #[a,b],r']) W) h.e k)
theorem Res2.set {r1 r2:Nat} {a b:Value} {ad ad2:Option Addr} {n c n2 c2:Nat} {e e':Int} {T T':TypeId} {Q:WK} (h:Res2 W r1 r2 a b e)
  (k:∀ W',Fr (fun j=>j = r1 ∨ j = r2) W W' → Res2 W' r1 r2 (.slice ad n c) (.slice ad2 n2 c2) e' → Q W') :
  oM Tryz.prog (.store 34 (.tmp 0) (.tmp 1)) T [ptr r1 0,.agg #[.slice ad n c,.slice ad2 n2 c2]] (fun _ w=>oM Tryz.prog (.store 39 (.tmp 0) (.tmp 1)) T' [ptr r2 0,.int .i64 e'] (fun _ w=>Q w) w) W:=by
 refine arr_store sz_prf (xs:=prfC (.slice ad n c) (.slice ad2 n2 c2)) rfl rfl (prf_one ad ad2 n c n2 c2) h.p rfl (fun W1 hg1 hh1=>?_)
 refine arr_store sz_eno (xs:=[.int .i64 e']) rfl rfl (eno_one e') (h.e.other hg1 (fun e=>h.ne e.symm)) rfl (fun W2 hg2 hh2=>?_)
 exact k W2 (((Fr.of_by hg1).mono (fun i _ e=>.inl e)).trans (Fr.of_by hg2) (fun i e=>.inl (.inr e))) ⟨hh1.other hg2 h.ne,hh2,h.ne⟩
theorem Res2.fr {r1 r2:Nat} {a b:Value} {e:Int} {S:Nat → Prop} (h:Res2 W r1 r2 a b e) (hf:Fr S W W') (h1:¬ S r1) (h2:¬ S r2):Res2 W' r1 r2 a b e:=⟨h.p.fr hf h1,h.e.fr hf h2,h.ne⟩
end
section
variable {K:VK} {w w' w0 W W' We:World} {L:List (Addr × Value)} {g n B b i:Nat} {row:Option Nat}
end
section
variable {K:VK} {w w' w0 W W' We W2:World} {L:List (Addr × Value)} {g n B b i:Nat} {row:Option Nat}
end
section
variable {K:VK} {w w' w0 W W' We W1 W2:World} {L:List (Addr × Value)} {g n B b i:Nat} {row:Option Nat}
@[go_sem] theorem idx_bbr (T:TypeId) (b o n c:Nat) (x:Int):oM Tryz.prog (.indexAddr 120 (.tmp 0) (.tmp 1)) T [.slice (some ⟨b,o,none⟩) n c,.int .i64 x] = onM (0 ≤ x ∧ x < n) (.pointer (some ⟨b,o + x.toNat,none⟩)):=idx_bb T b o n c x
structure ExI (B:Nat) (dv nv:Value) (D:Nat → Prop) (W:World) (dr:List Int) (nl:L2):Prop where
 d:OwnI W B dv dr
 n:ListG B D W nv nl
 od:Off D W dv
 on:Off D W nv
 ap:apart dv nv
 low:∀ j,D j → B ≤ j
section
variable {dv nv:Value} {D E:Nat → Prop} {dr:List Int} {nl:L2}
theorem ExI.next (h:ExI B dv nv D W dr nl) (hb:Bw W W'):ExI B dv nv D W' dr nl:=
 ⟨h.d.keep hb,h.n.next hb (fun j hj=>(h.on j hj).1),h.od.next hb.size,h.on.next hb.size,h.ap,h.low⟩
theorem ExI.push {T:TypeId} {gb gc m c:Nat} {ad:Option Addr} {x:List Int} (h:ExI B dv nv D W dr nl) (hB:B ≤ W.heap.size) (hh:Holds W gb 24 [.slice ad m c]) (hx:FP E W (fun w=>Ints w (.slice ad m c) x)) (hE:∀ i,E i → B ≤ i ∧ i < W.heap.size ∧ dv.ownBlock ≠ some i ∧ nv.ownBlock ≠ some i) (hl:nl.length < 1099511627776)
  (k:∀ v W',W.grownBy W' nv.ownBlock → (∀ j,nv.ownBlock = some j → B ≤ j) → ExI B dv v (fun i=>D i ∨ E i) W' dr (nl ++ [x]) → K v W'):oM Tryz.prog (.call { callee:=.builtin .append,args:=#[.tmp 0,.tmp 1],argTypes:=#[30,30] }) T [nv,.slice (some ⟨gb,0,none⟩) 1 gc] K W:=by
 have hD':Off (fun i=>D i ∨ E i) W nv:=fun i hi=>hi.elim (h.on i) (fun hi=>⟨(hE i hi).2.1,(hE i hi).2.2.2⟩)
 have hD2:Off (fun i=>D i ∨ E i) W dv:=fun i hi=>hi.elim (h.od i) (fun hi=>⟨(hE i hi).2.1,(hE i hi).2.2.1⟩)
 refine ints_append (h.n.mono fun i hi=>.inl hi) hB hh (hx.mono fun i hi=>.inr hi) hD' hl (fun v w' hg hb hv ho=>k v w' hb (fun j hj=>(h.n.own hj).2) ⟨owns_keep h.d (fun i hi=>hb.block i (owns_own h.d hi).1 (fun e=>h.ap i hi (by first | exact e | exact e.symm))),hg,hD2.next hb.size,ho,?_,?_⟩)
 ·intro i e1 e2
  rcases hv i e2 with h1 | h1
  ·exact h.ap i e1 h1
  ·have:=(owns_own h.d e1).1; omega
 ·rintro i (hi | hi)
  ·exact h.low i hi
  ·exact (hE i hi).1
end
end
section
variable {K:VK} {w w' w0 W W' We W1 W2:World} {L:List (Addr × Value)} {g n B b i:Nat} {row:Option Nat}
end
end Go.Proofs
namespace Go.Proofs
open Go Go.Sh Tryz
def held_65_40 (J_36:List Value → World → Prop) (a3 a5:Value) (l_38:List Value) (m_37:List Value → World → Nat) (v47 v55:Value) (w0_l_38 w:World):Prop:=
 heldM w (fun C_40 w=>(((true:Bool) = true) ∧ (pureH (l_38.getD 1 undef) C_40 (fun v63=>
 pureH v47 C_40 (fun v64=>
 pureH v47 C_40 (fun v65=>
 pureH a3 C_40 (fun v66=>
 pureH (l_38.getD 2 undef) C_40 (fun v67=>
 jI 24 v66 v67 C_40 (fun v68=>
 jL 3 v68 C_40 (fun v69=>
 pureH a5 C_40 (fun v70=>
 pureH (l_38.getD 2 undef) C_40 (fun v71=>
 jI 24 v70 v71 C_40 (fun v72=>
 jL 3 v72 C_40 (fun v73=>
 pureH v55 C_40 (fun v75=>
 ∃ S_53:World → WK,∃ R_54:VK,(∀ v w w_1,S_53 w w_1 → R_54 v w → R_54 v w_1) ∧
 (∀ w,C_40 w → (callM prog 48 #[v65,v69,v73] (fun v w_1=>C_40 w_1 ∧ S_53 w w_1 ∧ R_54 v w_1) w)) ∧
 (∃ R_55:VK,(∀ v w w_1,S_53 w w_1 → R_55 v w → R_55 v w_1) ∧
 (∀ w,C_40 w → ∀ v74,R_54 v74 w → (callM prog 43 #[v64,v74,v75] (fun v w_1=>C_40 w_1 ∧ S_53 w w_1 ∧ R_55 v w_1) w)) ∧
 (∃ R_57:VK,(∀ v w w_1,S_53 w w_1 → R_57 v w → R_57 v w_1) ∧
 (∀ w,C_40 w → ∀ v76,R_55 v76 w → (oM prog (.buildSlice 24 1 #[(0,(.tmp 0))]) 24 [v76] (fun v w_1=>C_40 w_1 ∧ S_53 w w_1 ∧ R_57 v w_1) w)) ∧
 (∀ w,C_40 w → ∀ v74,R_54 v74 w → ∀ v76,R_55 v76 w → ∀ v77,R_57 v77 w → (
 oM prog (.call (Go.Call.mk (.builtin .append) #[(.tmp 0),(.tmp 1)] #[24,24])) 24 [v63,v77] (fun v78 w=>
 kB .add 3 3 (l_38.getD 2 undef) (.int .i64 1) (fun v79 w=>
 J_36 [(l_38.getD 2 undef),v78,v79] w ∧ m_37 [(l_38.getD 2 undef),v78,v79] w < m_37 l_38 w0_l_38) w) w)))))))))))))))))))
def held_65_3 (K:VK) (a2 a3 a4 a5 v6 v7:Value) (w:World):Prop:=
 heldM w (fun C_3 w=>(((true:Bool) = true) ∧ (jL 26 v6 C_3 (fun v21=>
 jL 69 v7 C_3 (fun v22=>
 pureH a2 C_3 (fun v23=>
 pureH a3 C_3 (fun v24=>
 jL 26 v6 C_3 (fun v26=>
 jL 69 v7 C_3 (fun v27=>
 pureH a4 C_3 (fun v28=>
 pureH a5 C_3 (fun v29=>
 ∃ S_12:World → WK,∃ R_13:VK,(∀ v w w_1,S_12 w w_1 → R_13 v w → R_13 v w_1) ∧
 (∀ w,C_3 w → (callM prog 63 #[v21,v22,v23,v24] (fun v w_1=>C_3 w_1 ∧ S_12 w w_1 ∧ R_13 v w_1) w)) ∧
 (∀ w,C_3 w → ∀ v25,R_13 v25 w → (
 callM prog 63 #[v26,v27,v28,v29] (fun v30 w=>
 kN 24 v25 (fun v32 w=>
 kC .eql 3 0 4 v32 (fun v33 w=>
 gF v33 (pureM v25) (fun v35 w=>
 gF v33 (pureM v30) (fun v36 w=>
 gF v33 (callM prog 117 #[v35,v36]) (fun v37 w=>
 gF v33 (kU v37) (fun v38 w=>
 kP v33 (.bool true) v38 (fun v39 w=>
 gF v39 (pureM a2) (fun v41 w=>
 gF v39 (pureM a4) (fun v42 w=>
 gF v39 (kB .eql 3 4 v41 v42) (fun v43 w=>
 kP v39 (.bool true) v43 (fun v44 w=>
 condM v44
 (K (.tuple #[(.slice none 0 0),(.bool false)]) w)
 (kF 26 0 v6 (fun v45 w=>
 kF 23 1 v45 (fun v46 w=>
 kL 3 v46 (fun v47 w=>
 callM prog 48 #[v47,a2,a4] (fun v53 w=>
 callM prog 143 #[v47,v53] (fun v54 w=>
 kE 0 3 v54 (fun v55 w=>
 kE 1 4 v54 (fun v56 w=>
 oM prog (.buildSlice 24 0 #[]) 24 [] (fun v57 w=>
 kN 24 a3 (fun v59 w=>
 loopM [undef,v57,(.int .i64 0)] w (fun J_36 m_37 l_38 u_l_38 w0_l_38=>(fun w=>(
 kB .lss 3 0 (l_38.getD 2 undef) v59 (fun v61 w=>
 condM v61
 (held_65_40 J_36 a3 a5 l_38 m_37 v47 v55 w0_l_38 w)
 (K (.tuple #[(l_38.getD 1 undef),(.bool true)]) w)) w)) w0_l_38)) w) w) w) w) w) w) w) w) w)) w) w) w) w) w) w) w) w) w) w) w) w)))))))))))))
def sh_65c (a0 a1 a2 a3 a4 a5:Value) (K:VK) (w:World):Prop:=
 oM prog (.box 26 (.tmp 0)) 0 [a0] (fun v6 w=>
 oM prog (.box 69 (.tmp 0)) 0 [a1] (fun v7 w=>
 held_65_3 K a2 a3 a4 a5 v6 v7 w) w) w
theorem sh_65c_ok {a0 a1 a2 a3 a4 a5:Value} {K:VK} {w:World} (h:sh_65c a0 a1 a2 a3 a4 a5 K w):callM prog 65 #[a0,a1,a2,a3,a4,a5] K w:=
 calls_of_code (fun i=>bif Nat.beq i 1 then .free [0,1,2,3,5,6,7,8] [4] [9,10,11] else bif Nat.beq i 10 then .free [0,1,2,3,4,5,6,7,8,9,10,12] [11,13,14] [15,16] else 0) (fn:=Tryz.f65) (rs:=[.tmp 12,.tmp 13]) Tryz.func65 rfl rfl (by kernel_rfl) (nB rfl) (Eq.mp (by kernel_rfl) h)
end Go.Proofs
namespace Go.Proofs
open Go Go.Sh Go.RowKit FdSpec TkSpec CodeSpec PrSpec
section
variable {K:VK} {w w' w0 W:World} {L:List (Addr × Value)}
def FewC (c:Clm):Prop:=c.eqs.length ≤ 4 ∧ ∀ e ∈ c.eqs,e.terms.length ≤ 6
def FcJ (l:List Eqn) (w0:World) (L:List (Addr × Value)) (vs:List Value) (w':World):Prop:=Kn w0 L w' ∧ ∃ (u:Value) (i:Nat),vs = [u,.int .i64 (i:Int)] ∧ i ≤ l.length ∧ i ≤ 5 ∧ ∀ (j:Nat) (y:Eqn),j < i → l[j]? = some y → y.terms.length ≤ 6
theorem FewClaim_ok (c:Clm) {v:Value} (hc:ClmR w c v) (k:∀ w' q,Bw w w' → (q = true → FewC c) → K (.bool q) w'):callM Tryz.prog 54 #[clmV c v] K w:=by
 apply sh_54_ok
 unfold sh_54
 have hc':=hc
 obtain ⟨ad,cc,rfl⟩:=hc.eqs.isSlice
 have hll:=hc'.eqs.len
 refine box_kn (cs:=clmC c (.slice ad c.eqs.length cc)) rfl (.start w) fun b1 W hk hb1 hbb=>?_
 clear hb1 hbb
 refine ⟨FcJ c.eqs w _,(fun vs _=>match vs with | [_,.int _ i]=>c.eqs.length - i.toNat | _=>0),⟨hk,_,0,rfl,by omega,by omega,fun j y h=>by omega⟩,?_⟩
 rintro _ _ w1 ⟨hk,u,i,rfl,hi,hi7,hy⟩
 by_cases hin:¬ (i:Int) < c.eqs.length
 ·by_cases h6:(c.eqs.length:Int) ≤ 4
  ·have hfew:FewC c:=⟨by omega,fun y hm=>by
    obtain ⟨j,hj,rfl⟩:=List.getElem_of_mem hm
    exact hy j _ (by omega) (gE hj)⟩
   by_cases h1:c.vars ≤ 6
   ·refine Xa (An4 hk.cells @hin @h6 @h1) ?_
    exact k _ _ hk.below (fun _=>hfew)
   by_cases h2:(120:Int) < c.vars
   ·by_cases h3:c.vars ≤ 130
    ·refine Xa (An6 hk.cells @hin @h6 @h1 @h2 @h3) ?_
     exact k _ _ hk.below (fun _=>hfew)
    ·refine Xa (An6 hk.cells @hin @h6 @h1 @h2 @h3) ?_
     exact k _ _ hk.below (fun _=>hfew)
   ·refine Xa (An5 hk.cells @hin @h6 @h1 @h2) ?_
    exact k _ _ hk.below (fun _=>hfew)
  ·refine Xa (An3 hk.cells @hin @h6) ?_
   exact k _ _ hk.below (fun h=>by cases h)
 have hin:(i:Int) < c.eqs.length:=by omega
 by_cases h7:¬ (i:Int) < 5
 ·have h6:¬ (c.eqs.length:Int) ≤ 4:=by omega
  refine Xa (An4 hk.cells @hin @h7 @h6) ?_
  exact k w1 _ hk.below (fun h=>by cases h)
 have h7:(i:Int) < 5:=by omega
 obtain ⟨b5,o5,rfl,hb5,v5,c5,c6,i5,_⟩:=hc'.eqs.at (i:=i) (by omega)
 have e5:c.eqs[i]? = some c.eqs[i]:=gE (by omega)
 generalize c.eqs[i] = d at *
 obtain ⟨ad5,cp5,rfl⟩:=i5.isSlice
 by_cases h8:(6:Int) < d.terms.length
 ·refine Xa (An5 hk.cells @hin @h7 ((hk.below.cell hb5).trans c6) @h8) ?_
  exact k w1 _ hk.below (fun h=>by cases h)
 refine Xa (An5 hk.cells @hin @h7 ((hk.below.cell hb5).trans c6) @h8) ?_
 refine ⟨⟨hk,_,i + 1,rfl,by omega,by omega,fun j y hj e=>?_⟩,by show c.eqs.length - (((i + 1:Nat):Int)).toNat < c.eqs.length - ((i:Nat):Int).toNat; omega⟩
 by_cases h:j = i
 ·subst h; rw [e5] at e; cases e; omega
 ·exact hy j y (by omega) e
end
end Go.Proofs
namespace PrSpec
open FdSpec TkSpec CodeSpec FdPoly
def extL (s:Stp) (a1 a2:List Int) (over:Int):List Int:=(a1.zip a2).map fun p=>mulM s.g.Q (subM s.g.Q p.1 p.2) over
def extractM (s:Stp) (c:Clm) (d1:Int) (a1:List Int) (d2:Int) (a2:List Int):List Int × Bool:=
 if decide ((simM s c d1 a1).length = 0) || !decide (simM s c d1 a1 = simM s c d2 a2) || decide (d1 = d2) then ([],false) else (extL s a1 a2 ((invM s.g.Q (subM s.g.Q d1 d2)).getD 0),true)
end PrSpec
namespace Go.Proofs
open Go Go.Sh Go.RowKit FdSpec TkSpec CodeSpec PrSpec FdPoly
section
variable {K:VK} {w w' w0 W W' We W1 W2:World} {L:List (Addr × Value)} {g n B b i:Nat} {row:Option Nat}
theorem commits_I64 (s:Stp) (c:Clm) (d:Int) (a:List Int):∀ x ∈ commitsM s c d a,I64 x:=by
 intro x hx
 unfold commitsM at hx
 obtain ⟨e,_,rfl⟩:=List.mem_map.1 hx
 exact overG_I64 _ _ _
theorem Simulate_ok (s:Stp) (c:Clm) (dare:Int) (an:List Int) {sv cv av:Value} (hs:SetR w s sv) (hc:ClmR w c cv) (hd:I64 dare) (ha:Ints w av an)
  (k:∀ v w',Bw w w' → Ints w' v (simM s c dare an) → K v w'):callM Tryz.prog 63 #[stpV s sv,clmV c cv,.int .i64 dare,av] K w:=by
 apply sh_63_ok
 unfold sh_63
 have hs':=hs
 have hc':=hc
 obtain ⟨ad,cc,rfl⟩:=hs.ints.isSlice
 obtain ⟨ead,ec,rfl⟩:=hc.eqs.isSlice
 refine box_kn (cs:=stpC s (.slice ad s.bases.length cc)) rfl (.start w) fun b1 W hk hb1 hbb=>?_
 refine box_kn (cs:=clmC c (.slice ead c.eqs.length ec)) rfl hk fun b2 W hk hb2 hbb2=>?_
 clear hb1 hb2
 have no:simM s c dare an = [] → ∀ w',Bw w w' → K (.slice none 0 0) w':=fun e w' h=>by
  have:=k (.slice none 0 0) w' h
  rw [e] at this
  exact this (Ints.nil _)
 refine Xa hk.cells ?_
 refine ValidSetup_ok s (hs'.next hk.below) (fun w2 h2=>?_)
 have hk:=hk.next h2
 cases hv:validS s with
 | false=>
  refine Xa0 ?_
  exact no (by simp [simM,hv]) _ hk.below
 | true=>
 refine Xa hk.cells ?_
 refine validClaim_ok s c (hs'.next hk.below) (hc'.next hk.below) (fun w2 h2=>?_)
 have hk:=hk.next h2
 cases hcm:claimM s c with
 | false=>
  refine Xa0 ?_
  exact no (by simp [simM,hcm]) _ hk.below
 | true=>
 refine Xa hk.cells ?_
 refine exponent_ok s dare (hs'.next hk.below) (fun w2 h2=>?_)
 have hk:=hk.next h2
 cases hem:exponentM s dare with
 | false=>
  refine Xa0 ?_
  exact no (by simp [simM,hem]) _ hk.below
 | true=>
 refine Xa hk.cells ?_
 refine exponents_ok s c.vars (hs'.next hk.below) (ha.next hk.below) (fun w2 h2=>?_)
 have hk:=hk.next h2
 cases hes:exponentsM s an c.vars with
 | false=>
  refine Xa0 ?_
  exact no (by simp [simM,hes]) _ hk.below
 | true=>
 refine Xa hk.cells ?_
 have e:simM s c dare an = commitsM s c dare an:=by simp [simM,hv,hcm,hem,hes]
 rw [e] at k
 have hcf:=claim_fit hcm
 have hlen:(an.length:Int) = c.vars:=by
  simp only [exponentsM,bA,dE] at hes
  exact hes.1
 have hcm2:=hcm
 simp only [claimM,bA,dE] at hcm2
 refine commitments_ok s c dare an (hs'.next hk.below) (hc'.next hk.below) hd (ha.next hk.below) (by omega) (fun e he=>?_) (fun v w3 h3 ho=>?_)
 ·have:=hcf e he
  exact ⟨this.1,fun t ht=>by have:=this.2 t ht; omega⟩
 ·refine Xa0 ?_
  exact k _ _ (hk.below.on h3) (ho.ints (commits_I64 _ _ _ _) (by simp [commitsM]; omega))
theorem mkI0 {T:TypeId} (k:∀ ad c W,Bw w W → OwnI W w.heap.size (.slice ad 0 c) [] → K (.slice ad 0 c) W):oM Tryz.prog (.buildSlice 24 0 #[]) T [] K w:=by
 rw [oM_buildSlice0]
 have e:(Instr.buildSlice 24 0 #[]).run Tryz.prog w = .ok (.slice (some ⟨w.heap.size,0,none⟩) 0 0) (w.alloc (.cells #[] 3)):=by kernel_rfl
 rw [e]
 exact k _ _ _ ((Below.refl _ w).alloc (rL) _) ⟨rfl,.inr ⟨_,0,#[],rfl,rL,heap_alloc_new w _,rL,by decide,rfl,rfl⟩⟩
theorem sim_len {s:Stp} {c:Clm} {d:Int} {a:List Int} (h:¬ (simM s c d a).length = 0):(a.length:Int) = c.vars ∧ c.vars ≤ 120:=by
 unfold simM at h
 by_cases hx:(validS s && claimM s c && exponentM s d && exponentsM s a c.vars) = true
 ·simp only [bA] at hx
  have h1:=hx.2
  have h2:=hx.1.1.2
  simp only [exponentsM,claimM,bA,dE] at h1 h2
  exact ⟨h1.1,h2.1.1.1.2⟩
 ·rw [if_neg hx] at h
  exact absurd rfl h
def EtJ (T:List Int) (w0:World) (vs:List Value) (W:World):Prop:=Bw w0 W ∧ ∃ (u v:Value) (i:Nat),vs = [u,v,.int .i64 (i:Int)] ∧ i ≤ T.length ∧ OwnI W w0.heap.size v (T.take i)
theorem Extract_ok (s:Stp) (c:Clm) (d1:Int) (a1:List Int) (d2:Int) (a2:List Int) {sv cv av av2:Value} (hs:SetR w s sv) (hc:ClmR w c cv) (hd1:I64 d1) (ha1:Ints w av a1) (hd2:I64 d2) (ha2:Ints w av2 a2)
  (k:∀ v w',Bw w w' → Ints w' v (extractM s c d1 a1 d2 a2).1 → K (.tuple #[v,.bool (extractM s c d1 a1 d2 a2).2]) w'):callM Tryz.prog 65 #[stpV s sv,clmV c cv,.int .i64 d1,av,.int .i64 d2,av2] K w:=by
 apply sh_65c_ok
 unfold sh_65c
 have hs':=hs
 have hc':=hc
 have ha1':=ha1
 have ha2':=ha2
 obtain ⟨ad,cc,rfl⟩:=hs.ints.isSlice
 obtain ⟨ead,ec,rfl⟩:=hc.eqs.isSlice
 obtain ⟨aad,ac,rfl⟩:=ha1.isSlice
 obtain ⟨bad,bc,rfl⟩:=ha2.isSlice
 refine box_kn (cs:=stpC s (.slice ad s.bases.length cc)) rfl (.start w) fun b1 W hk hb1 hbb=>?_
 refine box_kn (cs:=clmC c (.slice ead c.eqs.length ec)) rfl hk fun b2 W hk hb2 hbb2=>?_
 clear hb1 hb2
 have no:extractM s c d1 a1 d2 a2 = ([],false) → ∀ w',Bw w w' → K (.tuple #[.slice none 0 0,.bool false]) w':=fun e w' h=>by
  have:=k (.slice none 0 0) w' h
  rw [e] at this
  exact this (Ints.nil _)
 unfold held_65_3
 have hb9:Below W.heap.size W { W with drawn:=W.drawn + 1 }:=.drawn
 have hk9:=hk.next hb9
 refine ⟨Nx { W with drawn:=W.drawn + 1 },bR,rfl,?_⟩
 generalize ({ W with drawn:=W.drawn + 1 }:World) = W9 at hk9 ⊢
 refine Xc (fun W0 hW0=>(hk9.next hW0).cells) ?_
 refine ⟨Nx,?_⟩
 refine monoR (fun v w'=>Ints w' v (simM s c d1 a1)) (fun v w w1 hS h=>h.next hS) ?_ ?_
 ·intro w1 h1
  exact Simulate_ok s c d1 a1 (hs'.next (hk9.next h1).below) (hc'.next (hk9.next h1).below) hd1 (ha1'.next (hk9.next h1).below) (fun v w2 h2 ho=>⟨h1.on h2,h2,ho⟩)
 rintro w10 h10 v10 hi10
 have hk10:=hk9.next h10
 refine Simulate_ok s c d2 a2 (hs'.next hk10.below) (hc'.next hk10.below) hd2 (ha2'.next hk10.below) (fun v11 w11 h11 hi11=>?_)
 have hk11:=hk10.next h11
 have hi10:=hi10.next h11
 obtain ⟨xad,xc,rfl⟩:=id hi10.isSlice
 obtain ⟨yad,yc,rfl⟩:=id hi11.isSlice
 by_cases h0:simM s c d1 a1 = []
 ·refine Xa0 ?_
  exact no (by simp [extractM,h0]) _ hk11.below
 have h0':¬ (simM s c d1 a1).length = 0:=fun e=>h0 (List.eq_nil_of_length_eq_zero e)
 refine Xa @h0 ?_
 refine Equal_ok hi10 hi11 (fun w12 h12=>?_)
 have hk12:=hk11.next h12
 by_cases heq:simM s c d1 a1 = simM s c d2 a2
 ·rw [decide_eq_true heq]
  by_cases hdd:d1 = d2
  ·refine Xa0 ?_
   exact no (by simp [extractM,hdd]) _ hk12.below
  ·refine Xa hk12.cells ?_
   refine Sub_ok _ _ _ ?_
   refine Inv_ok _ _ (fun w13 h13=>?_)
   have hk13:=hk12.next h13
   refine Xb2_0 ?_
   refine mkI0 (fun oad oc w14 h14 ho14=>?_)
   have hk14:=hk13.next h14
   refine Xb1_0 ?_
   have hl1:=sim_len h0'
   have hl2:=sim_len (by rw [← heq]; exact h0')
   have hem:extractM s c d1 a1 d2 a2 = (extL s a1 a2 ((invM s.g.Q (subM s.g.Q d1 d2)).getD 0),true):=by unfold extractM; rw [decide_eq_false h0',decide_eq_true heq,decide_eq_false hdd]; rfl
   rw [hem] at k
   generalize (invM s.g.Q (subM s.g.Q d1 d2)).getD 0 = over at *
   have hTl:(extL s a1 a2 over).length = a1.length:=by unfold extL; rw [List.length_map,List.length_zip]; omega
   have hTI:∀ x ∈ extL s a1 a2 over,I64 x:=by
    intro x hx
    unfold extL at hx
    obtain ⟨p,_,rfl⟩:=List.mem_map.1 hx
    exact mulM_I64 _ _ _
   have hTe:∀ i (h1:i < a1.length) (h2:i < a2.length),(extL s a1 a2 over)[i]? = some (mulM s.g.Q (subM s.g.Q a1[i] a2[i]) over):=fun i h1 h2=>by
    unfold extL
    rw [List.getElem?_map,List.getElem?_zip_eq_some (z:=(a1[i],a2[i])) |>.2 ⟨gE h1,gE h2⟩]
    rfl
   generalize extL s a1 a2 over = T at *
   refine ⟨EtJ T w13,(fun vs _=>match vs with | [_,_,.int _ i]=>a1.length - i.toNat | _=>0),⟨h14,_,_,0,rfl,by omega,ho14⟩,?_⟩
   rintro _ _ w15 ⟨h15,u,v,i,rfl,hi,ho⟩
   have hk15:=hk13.next h15
   by_cases hin:i = a1.length
   ·subst hin
    refine Xa0 ?_
    rw [List.take_of_length_le (by omega)] at ho
    exact k _ _ hk15.below (ho.ints hTI (by have:=ha1'.len; omega))
   have h1:i < a1.length:=by omega
   have h2:i < a2.length:=by omega
   obtain ⟨bx,ox,rfl,hltx,cellx,_,_⟩:=ha1'.at (i:=i) h1
   obtain ⟨by',oy,rfl,hlty,celly,_,_⟩:=ha2'.at (i:=i) h2
   have hTi:=hTe i h1 h2
   generalize a1[i] = x at *
   generalize a2[i] = y at *
   have hi1:(i:Int) < a1.length:=by omega
   have hi2:(i:Int) < a2.length:=by omega
   refine Xa0 ?_
   unfold held_65_40
   have hb9:Below w15.heap.size w15 { w15 with drawn:=w15.drawn + 1 }:=.drawn
   have hk16:=hk15.next hb9
   have ho:=ho.keep hb9
   have h16:=h15.on hb9
   refine ⟨Nx { w15 with drawn:=w15.drawn + 1 },bR,rfl,?_⟩
   generalize ({ w15 with drawn:=w15.drawn + 1 }:World) = W16 at hk16 ho h16 ⊢
   refine Xf (fun W0 hW0=>An3 ((hk16.next hW0).cells) (cellx _ (hk16.next hW0).below) (celly _ (hk16.next hW0).below)) (An2 @hi1 @hi2) ?_
   refine ⟨Nx,?_⟩
   apply monoE
   ·intro w5 h5
    exact Sub_ok _ _ _ ⟨h5,bR,rfl⟩
   apply monoE
   ·rintro w5 h5 _ rfl
    exact Mul_ok _ _ _ (fun w6 h6=>⟨h5.on h6,h6,rfl⟩)
   refine monoR (fun v w'=>Ints w' v [mulM s.g.Q (subM s.g.Q x y) over]) (fun v w w1 hS h=>h.next hS) ?_ ?_
   ·rintro w5 h5 _ rfl
    exact mk1 _ (mulM_I64 _ _ _) (fun v8 W8 h8 hi8=>⟨h5.on h8,h8,hi8⟩)
   rintro w17 h17 _ rfl _ rfl v18 hi18
   refine append1 (ho.keep h17) (Nat.le_trans h16.size h17.size) hi18 (by simp only [List.length_take]; omega) (fun v9 W9 ho9 h9=>?_)
   refine Xa0 ?_
   refine ⟨⟨(h16.on h17).trans h9,_,_,i + 1,rfl,by omega,?_⟩,by show a1.length - (((i + 1:Nat):Int)).toNat < a1.length - ((i:Nat):Int).toNat; omega⟩
   rw [← take_snoc' hTi]
   exact ho9
 ·rw [decide_eq_false heq]
  refine Xa0 ?_
  exact no (by simp [extractM,heq]) _ hk12.below
end
end Go.Proofs
namespace PrSpec
open FdSpec TkSpec CodeSpec FdPoly
def here:Bytes:=[104,101,114,101]
end PrSpec
namespace PrSpec
open FdSpec TkSpec CodeSpec FdPoly
end PrSpec
namespace Go.Proofs
open Go Go.Sh Go.RowKit FdSpec TkSpec CodeSpec PrSpec FdPoly
section
variable {K:VK} {w w' w0 W W' We W1 W2:World} {L:List (Addr × Value)} {g n B b i:Nat} {row:Option Nat}
end
end Go.Proofs
namespace PrSpec
open FdSpec TkSpec CodeSpec FdPoly GrLaw
end PrSpec
namespace Go.Proofs
open Go Go.Sh Go.RowKit FdSpec TkSpec CodeSpec PrSpec
section
variable {K:VK} {w w' w0 W:World} {L:List (Addr × Value)}
theorem few_small {ds:L2} {al:L3} (h:FewL ds ∧ FewN al):SmallP 1000 ds al:=
 ⟨by have:=h.1.1; omega,fun y hy=>by have:=h.1.2 y hy; omega,fun z hz y hy=>by have:=(h.2.2 z hz).2 y hy; omega⟩
end
end Go.Proofs
namespace Go.Proofs
open Go Go.Sh Go.RowKit FdSpec TkSpec CodeSpec PrSpec FdPoly
section
variable {K:VK} {w w' w0 W W' We W1 W2:World} {L:List (Addr × Value)} {g n B b i:Nat} {row:Option Nat}
end
end Go.Proofs
namespace Go.Proofs
open Go.Sh Tryz
def sh_167 (a0:Value) (K:VK) (w:World):Prop:=
 kB .geq 3 4 a0 (.int .i64 1) (fun v4 w=>
 gT v4 (pureM a0) (fun v6 w=>
 gT v4 (kB .lss 3 4 v6 (.int .i64 2305843009213693952)) (fun v7 w=>
 kP v4 v7 (.bool false) (fun v8 w=>
 K v8 w) w) w) w) w
theorem sh_167_ok {a0:Value} {K:VK} {w:World} (h:sh_167 a0 K w):callM prog 167 #[a0] K w:=
 calls_of_code (fun _=>0) (fn:=Tryz.f167) (rs:=[.tmp 2]) Tryz.func167 rfl rfl (by kernel_rfl) (nB rfl) (Eq.mp (by kernel_rfl) h)
def sh_168 (a0 a1:Value) (K:VK) (w:World):Prop:=
 kB .rem 3 3 a1 a0 (fun v8 w=>
 joinM (fun M_2=>(kB .lss 3 4 v8 (.int .i64 0) (fun v10 w=>
 condM v10
 (kB .add 3 3 v8 a0 (fun v13 w=>
 M_2 [v13] w) w)
 (M_2 [v8] w)) w))
 (fun l_3 u_l_3 w=>(K (l_3.getD 0 undef) w))) w
theorem sh_168_ok {a0 a1:Value} {K:VK} {w:World} (h:sh_168 a0 a1 K w):callM prog 168 #[a0,a1] K w:=
 calls_of_code (fun _=>0) (fn:=Tryz.f168) (rs:=[.tmp 4]) Tryz.func168 rfl rfl (by kernel_rfl) (nB rfl) (Eq.mp (by kernel_rfl) h)
def sh_103 (a0 a1 a2:Value) (K:VK) (w:World):Prop:=
 callM prog 167 #[a0] (fun v8 w=>
 kU v8 (fun v9 w=>
 condM v9
 (K (.int .i64 0) w)
 (callM prog 168 #[a0,a1] (fun v12 w=>
 callM prog 168 #[a0,a2] (fun v15 w=>
 kB .add 3 3 v12 v15 (fun v16 w=>
 kB .rem 3 3 v16 a0 (fun v18 w=>
 K v18 w) w) w) w) w)) w) w
theorem sh_103_ok {a0 a1 a2:Value} {K:VK} {w:World} (h:sh_103 a0 a1 a2 K w):callM prog 103 #[a0,a1,a2] K w:=
 calls_of_code (fun _=>0) (fn:=Tryz.f103) (rs:=[.tmp 6]) Tryz.func103 rfl rfl (by kernel_rfl) (nB rfl) (Eq.mp (by kernel_rfl) h)
def sh_116 (a0 a1 a2:Value) (K:VK) (w:World):Prop:=
 callM prog 167 #[a0] (fun v8 w=>
 kU v8 (fun v9 w=>
 condM v9
 (K (.int .i64 0) w)
 (callM prog 168 #[a0,a1] (fun v12 w=>
 kB .add 3 3 v12 a0 (fun v14 w=>
 callM prog 168 #[a0,a2] (fun v17 w=>
 kB .sub 3 3 v14 v17 (fun v18 w=>
 kB .rem 3 3 v18 a0 (fun v20 w=>
 K v20 w) w) w) w) w) w)) w) w
theorem sh_116_ok {a0 a1 a2:Value} {K:VK} {w:World} (h:sh_116 a0 a1 a2 K w):callM prog 116 #[a0,a1,a2] K w:=
 calls_of_code (fun _=>0) (fn:=Tryz.f116) (rs:=[.tmp 6]) Tryz.func116 rfl rfl (by kernel_rfl) (nB rfl) (Eq.mp (by kernel_rfl) h)
def sh_104 (a0 a1 a2:Value) (K:VK) (w:World):Prop:=
 callM prog 167 #[a0] (fun v14 w=>
 kU v14 (fun v15 w=>
 condM v15
 (K (.int .i64 0) w)
 (callM prog 168 #[a0,a1] (fun v18 w=>
 callM prog 168 #[a0,a2] (fun v21 w=>
 kB .leq 3 4 a0 (.int .i64 2147483648) (fun v23 w=>
 condM v23
 (kB .mul 3 3 v18 v21 (fun v26 w=>
 kB .rem 3 3 v26 a0 (fun v28 w=>
 K v28 w) w) w)
 (loopM [(.int .i64 0),undef,undef,(.int .i64 60)] w (fun J_8 m_9 l_10 u_l_10 w0_l_10=>(fun w=>(
 kB .geq 3 4 (l_10.getD 3 undef) (.int .i64 0) (fun v30 w=>
 condM v30
 (kB .mul 3 3 (.int .i64 4) (l_10.getD 0 undef) (fun v34 w=>
 kB .rem 3 3 v34 a0 (fun v36 w=>
 kB .shr 3 3 v21 (l_10.getD 3 undef) (fun v39 w=>
 kB .and 3 3 v39 (.int .i64 3) (fun v40 w=>
 loopM [v36,(.int .i64 0)] w (fun J_16 m_17 l_18 u_l_18 w0_l_18=>(fun w=>(
 kB .lss 3 4 (l_18.getD 1 undef) v40 (fun v43 w=>
 condM v43
 (kB .add 3 3 (l_18.getD 0 undef) v18 (fun v48 w=>
 kB .rem 3 3 v48 a0 (fun v50 w=>
 kB .add 3 3 (l_18.getD 1 undef) (.int .i64 1) (fun v45 w=>
 J_16 [v50,v45] w ∧ m_17 [v50,v45] w < m_17 l_18 w0_l_18) w) w) w)
 (kB .sub 3 3 (l_10.getD 3 undef) (.int .i64 2) (fun v32 w=>
 J_8 [(l_18.getD 0 undef),v40,(l_18.getD 1 undef),v32] w ∧ m_9 [(l_18.getD 0 undef),v40,(l_18.getD 1 undef),v32] w < m_9 l_10 w0_l_10) w)) w)) w0_l_18)) w) w) w) w)
 (K (l_10.getD 0 undef) w)) w)) w0_l_10))) w) w) w)) w) w
theorem sh_104_ok {a0 a1 a2:Value} {K:VK} {w:World} (h:sh_104 a0 a1 a2 K w):callM prog 104 #[a0,a1,a2] K w:=
 calls_of_code (fun _=>0) (fn:=Tryz.f104) (rs:=[.tmp 6]) Tryz.func104 rfl rfl (by kernel_rfl) (nB rfl) (Eq.mp (by kernel_rfl) h)
def sh_172 (a0 a1 a2:Value) (K:VK) (w:World):Prop:=
 kB .rem 3 3 (.int .i64 1) a0 (fun v10 w=>
 callM prog 168 #[a0,a1] (fun v13 w=>
 loopM [v10,v13,a2] w (fun J_3 m_4 l_5 u_l_5 w0_l_5=>(fun w=>(
 kB .gtr 3 4 (l_5.getD 2 undef) (.int .i64 0) (fun v15 w=>
 condM v15
 (joinM (fun M_7=>(kB .rem 3 3 (l_5.getD 2 undef) (.int .i64 2) (fun v17 w=>
 kC .eql 3 1 4 v17 (fun v18 w=>
 condM v18
 (callM prog 104 #[a0,(l_5.getD 0 undef),(l_5.getD 1 undef)] (fun v22 w=>
 M_7 [v22] w) w)
 (M_7 [(l_5.getD 0 undef)] w)) w) w))
 (fun l_8 u_l_8 w=>(callM prog 104 #[a0,(l_5.getD 1 undef),(l_5.getD 1 undef)] (fun v26 w=>
 kB .quo 3 3 (l_5.getD 2 undef) (.int .i64 2) (fun v28 w=>
 J_3 [(l_8.getD 0 undef),v26,v28] w ∧ m_4 [(l_8.getD 0 undef),v26,v28] w < m_4 l_5 w0_l_5) w) w)))
 (K (l_5.getD 0 undef) w)) w)) w0_l_5)) w) w
theorem sh_172_ok {a0 a1 a2:Value} {K:VK} {w:World} (h:sh_172 a0 a1 a2 K w):callM prog 172 #[a0,a1,a2] K w:=
 calls_of_code (fun _=>0) (fn:=Tryz.f172) (rs:=[.tmp 6]) Tryz.func172 rfl rfl (by kernel_rfl) (nB rfl) (Eq.mp (by kernel_rfl) h)
def sh_144 (a0 a1:Value) (K:VK) (w:World):Prop:=
 callM prog 167 #[a0] (fun v14 w=>
 kU v14 (fun v15 w=>
 condM v15
 (K (.tuple #[(.int .i64 0),(.bool false)]) w)
 (callM prog 168 #[a0,a1] (fun v19 w=>
 kB .rem 3 3 (.int .i64 1) a0 (fun v21 w=>
 loopM [undef,undef,undef,a0,v19,(.int .i64 0),v21] w (fun J_5 m_6 l_7 u_l_7 w0_l_7=>(fun w=>(
 kC .neq 3 0 4 (l_7.getD 4 undef) (fun v23 w=>
 condM v23
 (kB .quo 3 3 (l_7.getD 3 undef) (l_7.getD 4 undef) (fun v26 w=>
 kB .mul 3 3 v26 (l_7.getD 4 undef) (fun v30 w=>
 kB .sub 3 3 (l_7.getD 3 undef) v30 (fun v31 w=>
 callM prog 104 #[a0,v26,(l_7.getD 6 undef)] (fun v37 w=>
 callM prog 116 #[a0,(l_7.getD 5 undef),v37] (fun v38 w=>
 J_5 [v26,v31,v38,(l_7.getD 4 undef),v31,(l_7.getD 6 undef),v38] w ∧ m_6 [v26,v31,v38,(l_7.getD 4 undef),v31,(l_7.getD 6 undef),v38] w < m_6 l_7 w0_l_7) w) w) w) w) w)
 (kC .neq 3 1 4 (l_7.getD 3 undef) (fun v44 w=>
 condM v44
 (K (.tuple #[(.int .i64 0),(.bool false)]) w)
 (kB .rem 3 3 (l_7.getD 5 undef) a0 (fun v47 w=>
 K (.tuple #[v47,(.bool true)]) w) w)) w)) w)) w0_l_7)) w) w)) w) w
theorem sh_144_ok {a0 a1:Value} {K:VK} {w:World} (h:sh_144 a0 a1 K w):callM prog 144 #[a0,a1] K w:=
 calls_of_code (fun _=>0) (fn:=Tryz.f144) (rs:=[.tmp 4,.tmp 5]) Tryz.func144 rfl rfl (by kernel_rfl) (nB rfl) (Eq.mp (by kernel_rfl) h)
def sh_204 (a0 a1:Value) (K:VK) (w:World):Prop:=
 kB .sub 3 3 a0 (.int .i64 1) (fun v10 w=>
 loopM [v10,(.int .i64 0)] w (fun J_2 m_3 l_4 u_l_4 w0_l_4=>(fun w=>(
 kB .rem 3 3 (l_4.getD 0 undef) (.int .i64 2) (fun v12 w=>
 kC .eql 3 0 4 v12 (fun v13 w=>
 condM v13
 (kB .quo 3 3 (l_4.getD 0 undef) (.int .i64 2) (fun v15 w=>
 kB .add 3 3 (l_4.getD 1 undef) (.int .i64 1) (fun v17 w=>
 J_2 [v15,v17] w ∧ m_3 [v15,v17] w < m_3 l_4 w0_l_4) w) w)
 (callM prog 172 #[a0,a1,(l_4.getD 0 undef)] (fun v21 w=>
 kC .eql 3 1 4 v21 (fun v23 w=>
 condM v23
 (K (.bool true) w)
 (loopM [(.bool false),v21,(.int .i64 0)] w (fun J_11 m_12 l_13 u_l_13 w0_l_13=>(fun w=>(
 kB .lss 3 4 (l_13.getD 2 undef) (l_4.getD 1 undef) (fun v26 w=>
 condM v26
 (kB .sub 3 3 a0 (.int .i64 1) (fun v31 w=>
 kB .eql 3 4 (l_13.getD 1 undef) v31 (fun v32 w=>
 condM v32
 (K (.bool true) w)
 (callM prog 104 #[a0,(l_13.getD 1 undef),(l_13.getD 1 undef)] (fun v36 w=>
 kB .add 3 3 (l_13.getD 2 undef) (.int .i64 1) (fun v28 w=>
 J_11 [(l_13.getD 0 undef),v36,v28] w ∧ m_12 [(l_13.getD 0 undef),v36,v28] w < m_12 l_13 w0_l_13) w) w)) w) w)
 (K (.bool false) w)) w)) w0_l_13))) w) w)) w) w)) w0_l_4)) w
theorem sh_204_ok {a0 a1:Value} {K:VK} {w:World} (h:sh_204 a0 a1 K w):callM prog 204 #[a0,a1] K w:=
 calls_of_code (fun _=>0) (fn:=Tryz.f204) (rs:=[.tmp 4]) Tryz.func204 rfl rfl (by kernel_rfl) (nB rfl) (Eq.mp (by kernel_rfl) h)
def sh_203 (K:VK) (w:World):Prop:=
 oM prog (.buildSlice 24 12 #[(0,(.tmp 0)),(1,(.tmp 1)),(2,(.tmp 2)),(3,(.tmp 3)),(4,(.tmp 4)),(5,(.tmp 5)),(6,(.tmp 6)),(7,(.tmp 7)),(8,(.tmp 8)),(9,(.tmp 9)),(10,(.tmp 10)),(11,(.tmp 11))]) 24 [(.int .i64 2),(.int .i64 3),(.int .i64 5),(.int .i64 7),(.int .i64 11),(.int .i64 13),(.int .i64 17),(.int .i64 19),(.int .i64 23),(.int .i64 29),(.int .i64 31),(.int .i64 37)] (fun v1 w=>
 K v1 w) w
theorem sh_203_ok {K:VK} {w:World} (h:sh_203 K w):callM prog 203 #[] K w:=
 calls_of_code (fun _=>0) (fn:=Tryz.f203) (rs:=[.tmp 0]) Tryz.func203 rfl rfl (by kernel_rfl) (nB rfl) (Eq.mp (by kernel_rfl) h)
def sh_171 (a0:Value) (K:VK) (w:World):Prop:=
 kB .lss 3 4 a0 (.int .i64 2) (fun v7 w=>
 gF v7 (pureM a0) (fun v9 w=>
 gF v7 (kB .geq 3 4 v9 (.int .i64 2305843009213693952)) (fun v10 w=>
 kP v7 (.bool true) v10 (fun v11 w=>
 condM v11
 (K (.bool false) w)
 (callM prog 203 #[] (fun v12 w=>
 loopM [(.bool false),(.int .i64 0)] w (fun J_6 m_7 l_8 u_l_8 w0_l_8=>(fun w=>(
 kN 24 v12 (fun v15 w=>
 kB .lss 3 4 (l_8.getD 1 undef) v15 (fun v16 w=>
 condM v16
 (kI 24 v12 (l_8.getD 1 undef) (fun v22 w=>
 kL 3 v22 (fun v23 w=>
 kB .rem 3 3 a0 v23 (fun v24 w=>
 kC .eql 3 0 4 v24 (fun v25 w=>
 condM v25
 (kI 24 v12 (l_8.getD 1 undef) (fun v29 w=>
 kL 3 v29 (fun v30 w=>
 kB .eql 3 4 a0 v30 (fun v31 w=>
 K v31 w) w) w) w)
 (kB .add 3 3 (l_8.getD 1 undef) (.int .i64 1) (fun v18 w=>
 J_6 [(l_8.getD 0 undef),v18] w ∧ m_7 [(l_8.getD 0 undef),v18] w < m_7 l_8 w0_l_8) w)) w) w) w) w)
 (loopM [(l_8.getD 0 undef),(.int .i64 0)] w (fun J_19 m_20 l_21 u_l_21 w0_l_21=>(fun w=>(
 kN 24 v12 (fun v34 w=>
 kB .lss 3 4 (l_21.getD 1 undef) v34 (fun v35 w=>
 condM v35
 (kI 24 v12 (l_21.getD 1 undef) (fun v41 w=>
 kL 3 v41 (fun v42 w=>
 callM prog 204 #[a0,v42] (fun v43 w=>
 kU v43 (fun v44 w=>
 condM v44
 (K (.bool false) w)
 (kB .add 3 3 (l_21.getD 1 undef) (.int .i64 1) (fun v37 w=>
 J_19 [(l_21.getD 0 undef),v37] w ∧ m_20 [(l_21.getD 0 undef),v37] w < m_20 l_21 w0_l_21) w)) w) w) w) w)
 (K (.bool true) w)) w) w)) w0_l_21))) w) w)) w0_l_8)) w)) w) w) w) w
theorem sh_171_ok {a0:Value} {K:VK} {w:World} (h:sh_171 a0 K w):callM prog 171 #[a0] K w:=
 calls_of_code (fun _=>0) (fn:=Tryz.f171) (rs:=[.tmp 2]) Tryz.func171 rfl rfl (by kernel_rfl) (nB rfl) (Eq.mp (by kernel_rfl) h)
def sh_110 (a0:Value) (K:VK) (w:World):Prop:=
 oM prog (.box 23 (.tmp 0)) 0 [a0] (fun v1 w=>
 kF 23 1 v1 (fun v3 w=>
 kL 3 v3 (fun v4 w=>
 kB .lss 3 4 v4 (.int .i64 5) (fun v5 w=>
 gF v5 (kF 23 1 v1) (fun v7 w=>
 gF v5 (kL 3 v7) (fun v8 w=>
 gF v5 (kB .geq 3 4 v8 (.int .i64 1152921504606846976)) (fun v9 w=>
 kP v5 (.bool true) v9 (fun v10 w=>
 gF v10 (kF 23 0 v1) (fun v12 w=>
 gF v10 (kL 3 v12) (fun v13 w=>
 gF v10 (kF 23 1 v1) (fun v14 w=>
 gF v10 (kL 3 v14) (fun v15 w=>
 gF v10 (kB .mul 3 3 (.int .i64 2) v15) (fun v16 w=>
 gF v10 (kB .add 3 3 v16 (.int .i64 1)) (fun v17 w=>
 gF v10 (kB .neq 3 4 v13 v17) (fun v18 w=>
 kP v10 (.bool true) v18 (fun v19 w=>
 gF v19 (kF 23 0 v1) (fun v21 w=>
 gF v19 (kL 3 v21) (fun v22 w=>
 gF v19 (kB .geq 3 4 v22 (.int .i64 2305843009213693952)) (fun v23 w=>
 kP v19 (.bool true) v23 (fun v24 w=>
 gF v24 (kF 23 2 v1) (fun v26 w=>
 gF v24 (kL 3 v26) (fun v27 w=>
 gF v24 (kB .lss 3 4 v27 (.int .i64 2)) (fun v28 w=>
 kP v24 (.bool true) v28 (fun v29 w=>
 gF v29 (kF 23 2 v1) (fun v31 w=>
 gF v29 (kL 3 v31) (fun v32 w=>
 gF v29 (kF 23 0 v1) (fun v33 w=>
 gF v29 (kL 3 v33) (fun v34 w=>
 gF v29 (kB .geq 3 4 v32 v34) (fun v35 w=>
 kP v29 (.bool true) v35 (fun v36 w=>
 condM v36
 (K (.bool false) w)
 (kF 23 1 v1 (fun v37 w=>
 kL 3 v37 (fun v38 w=>
 callM prog 171 #[v38] (fun v39 w=>
 gT v39 (kF 23 0 v1) (fun v41 w=>
 gT v39 (kL 3 v41) (fun v42 w=>
 gT v39 (callM prog 171 #[v42]) (fun v43 w=>
 kP v39 v43 (.bool false) (fun v44 w=>
 gT v44 (kF 23 0 v1) (fun v46 w=>
 gT v44 (kL 3 v46) (fun v47 w=>
 gT v44 (kF 23 2 v1) (fun v48 w=>
 gT v44 (kL 3 v48) (fun v49 w=>
 gT v44 (kF 23 1 v1) (fun v50 w=>
 gT v44 (kL 3 v50) (fun v51 w=>
 gT v44 (callM prog 172 #[v47,v49,v51]) (fun v52 w=>
 gT v44 (kC .eql 3 1 4 v52) (fun v53 w=>
 kP v44 v53 (.bool false) (fun v54 w=>
 K v54 w) w) w) w) w) w) w) w) w) w) w) w) w) w) w) w) w)) w) w) w) w) w) w) w) w) w) w) w) w) w) w) w) w) w) w) w) w) w) w) w) w) w) w) w) w) w) w
theorem sh_110_ok {a0:Value} {K:VK} {w:World} (h:sh_110 a0 K w):callM prog 110 #[a0] K w:=
 calls_of_code (fun _=>0) (fn:=Tryz.f110) (rs:=[.tmp 2]) Tryz.func110 rfl rfl (by kernel_rfl) (nB rfl) (Eq.mp (by kernel_rfl) h)
def sh_173 (a0 a1:Value) (K:VK) (w:World):Prop:=
 oM prog (.box 23 (.tmp 0)) 0 [a0] (fun v2 w=>
 kB .geq 3 4 a1 (.int .i64 1) (fun v6 w=>
 gT v6 (pureM a1) (fun v8 w=>
 gT v6 (kF 23 0 v2) (fun v9 w=>
 gT v6 (kL 3 v9) (fun v10 w=>
 gT v6 (kB .lss 3 4 v8 v10) (fun v11 w=>
 kP v6 v11 (.bool false) (fun v12 w=>
 gT v12 (kF 23 0 v2) (fun v14 w=>
 gT v12 (kL 3 v14) (fun v15 w=>
 gT v12 (pureM a1) (fun v16 w=>
 gT v12 (kF 23 1 v2) (fun v17 w=>
 gT v12 (kL 3 v17) (fun v18 w=>
 gT v12 (callM prog 172 #[v15,v16,v18]) (fun v19 w=>
 gT v12 (kC .eql 3 1 4 v19) (fun v20 w=>
 kP v12 v20 (.bool false) (fun v21 w=>
 K v21 w) w) w) w) w) w) w) w) w) w) w) w) w) w) w) w
theorem sh_173_ok {a0 a1:Value} {K:VK} {w:World} (h:sh_173 a0 a1 K w):callM prog 173 #[a0,a1] K w:=
 calls_of_code (fun _=>0) (fn:=Tryz.f173) (rs:=[.tmp 4]) Tryz.func173 rfl rfl (by kernel_rfl) (nB rfl) (Eq.mp (by kernel_rfl) h)
def sh_146 (a0 a1:Value) (K:VK) (w:World):Prop:=
 oM prog (.box 23 (.tmp 0)) 0 [a0] (fun v2 w=>
 kB .geq 3 4 a1 (.int .i64 1) (fun v6 w=>
 gT v6 (pureM a1) (fun v8 w=>
 gT v6 (kF 23 0 v2) (fun v9 w=>
 gT v6 (kL 3 v9) (fun v10 w=>
 gT v6 (kB .lss 3 4 v8 v10) (fun v11 w=>
 kP v6 v11 (.bool false) (fun v12 w=>
 gT v12 (kL 23 v2) (fun v14 w=>
 gT v12 (callM prog 110 #[v14]) (fun v15 w=>
 kP v12 v15 (.bool false) (fun v16 w=>
 gT v16 (kL 23 v2) (fun v18 w=>
 gT v16 (pureM a1) (fun v19 w=>
 gT v16 (callM prog 173 #[v18,v19]) (fun v20 w=>
 kP v16 v20 (.bool false) (fun v21 w=>
 K v21 w) w) w) w) w) w) w) w) w) w) w) w) w) w) w
theorem sh_146_ok {a0 a1:Value} {K:VK} {w:World} (h:sh_146 a0 a1 K w):callM prog 146 #[a0,a1] K w:=
 calls_of_code (fun _=>0) (fn:=Tryz.f146) (rs:=[.tmp 4]) Tryz.func146 rfl rfl (by kernel_rfl) (nB rfl) (Eq.mp (by kernel_rfl) h)
def sh_137 (a0 a1 a2:Value) (K:VK) (w:World):Prop:=
 oM prog (.box 23 (.tmp 0)) 0 [a0] (fun v3 w=>
 kF 23 0 v3 (fun v7 w=>
 kL 3 v7 (fun v8 w=>
 callM prog 167 #[v8] (fun v9 w=>
 kU v9 (fun v10 w=>
 gF v10 (kF 23 1 v3) (fun v12 w=>
 gF v10 (kL 3 v12) (fun v13 w=>
 gF v10 (callM prog 167 #[v13]) (fun v14 w=>
 gF v10 (kU v14) (fun v15 w=>
 kP v10 (.bool true) v15 (fun v16 w=>
 condM v16
 (K (.int .i64 0) w)
 (heldM w (fun C_11 w=>(((true:Bool) = true) ∧ (jF 23 0 v3 C_11 (fun v17=>
 jL 3 v17 C_11 (fun v18=>
 pureH a1 C_11 (fun v19=>
 jF 23 1 v3 C_11 (fun v20=>
 jL 3 v20 C_11 (fun v21=>
 pureH a2 C_11 (fun v22=>
 ∃ S_18:World → WK,∃ R_19:VK,(∀ v w w_1,S_18 w w_1 → R_19 v w → R_19 v w_1) ∧
 (∀ w,C_11 w → (callM prog 168 #[v21,v22] (fun v w_1=>C_11 w_1 ∧ S_18 w w_1 ∧ R_19 v w_1) w)) ∧
 (∀ w,C_11 w → ∀ v23,R_19 v23 w → (
 callM prog 172 #[v18,v19,v23] (fun v24 w=>
 K v24 w) w))))))))))))) w) w) w) w) w) w) w) w) w) w
theorem sh_137_ok {a0 a1 a2:Value} {K:VK} {w:World} (h:sh_137 a0 a1 a2 K w):callM prog 137 #[a0,a1,a2] K w:=
 calls_of_code (fun _=>.free [0,1,2,3,4,5] [6] [7,8]) (fn:=Tryz.f137) (rs:=[.tmp 6]) Tryz.func137 rfl rfl (by kernel_rfl) (nB rfl) (Eq.mp (by kernel_rfl) h)
def sh_138 (a0 a1 a2:Value) (K:VK) (w:World):Prop:=
 oM prog (.box 23 (.tmp 0)) 0 [a0] (fun v3 w=>
 kF 23 1 v3 (fun v7 w=>
 kL 3 v7 (fun v8 w=>
 callM prog 167 #[v8] (fun v9 w=>
 kU v9 (fun v10 w=>
 condM v10
 (K (.int .i64 0) w)
 (kF 23 0 v3 (fun v11 w=>
 kL 3 v11 (fun v12 w=>
 callM prog 104 #[v12,a1,a2] (fun v15 w=>
 K v15 w) w) w) w)) w) w) w) w) w
theorem sh_138_ok {a0 a1 a2:Value} {K:VK} {w:World} (h:sh_138 a0 a1 a2 K w):callM prog 138 #[a0,a1,a2] K w:=
 calls_of_code (fun _=>0) (fn:=Tryz.f138) (rs:=[.tmp 6]) Tryz.func138 rfl rfl (by kernel_rfl) (nB rfl) (Eq.mp (by kernel_rfl) h)
def sh_111 (a0 a1:Value) (K:VK) (w:World):Prop:=
 oM prog (.box 23 (.tmp 0)) 0 [a0] (fun v2 w=>
 kC .neq 3 1 4 a1 (fun v6 w=>
 gT v6 (kL 23 v2) (fun v8 w=>
 gT v6 (pureM a1) (fun v9 w=>
 gT v6 (callM prog 173 #[v8,v9]) (fun v10 w=>
 kP v6 v10 (.bool false) (fun v11 w=>
 K v11 w) w) w) w) w) w) w
theorem sh_111_ok {a0 a1:Value} {K:VK} {w:World} (h:sh_111 a0 a1 K w):callM prog 111 #[a0,a1] K w:=
 calls_of_code (fun _=>0) (fn:=Tryz.f111) (rs:=[.tmp 4]) Tryz.func111 rfl rfl (by kernel_rfl) (nB rfl) (Eq.mp (by kernel_rfl) h)
def sh_22 (a0:Value) (K:VK) (w:World):Prop:=
 oM prog (.box 26 (.tmp 0)) 0 [a0] (fun v1 w=>
 kF 26 0 v1 (fun v4 w=>
 kL 23 v4 (fun v5 w=>
 callM prog 110 #[v5] (fun v6 w=>
 kU v6 (fun v7 w=>
 gF v7 (kF 26 1 v1) (fun v9 w=>
 gF v7 (kL 24 v9) (fun v10 w=>
 gF v7 (kN 24 v10) (fun v11 w=>
 gF v7 (kB .lss 3 4 v11 (.int .i64 2)) (fun v12 w=>
 kP v7 (.bool true) v12 (fun v13 w=>
 gF v13 (kF 26 1 v1) (fun v15 w=>
 gF v13 (kL 24 v15) (fun v16 w=>
 gF v13 (kN 24 v16) (fun v17 w=>
 gF v13 (kB .gtr 3 4 v17 (.int .i64 7)) (fun v18 w=>
 kP v13 (.bool true) v18 (fun v19 w=>
 gF v19 (kF 26 0 v1) (fun v21 w=>
 gF v19 (kL 23 v21) (fun v22 w=>
 gF v19 (kF 26 2 v1) (fun v23 w=>
 gF v19 (kL 3 v23) (fun v24 w=>
 gF v19 (callM prog 111 #[v22,v24]) (fun v25 w=>
 gF v19 (kU v25) (fun v26 w=>
 kP v19 (.bool true) v26 (fun v27 w=>
 condM v27
 (K (.bool false) w)
 (loopM [(.bool false),(.int .i64 0)] w (fun J_23 m_24 l_25 u_l_25 w0_l_25=>(fun w=>(
 kF 26 1 v1 (fun v29 w=>
 kL 24 v29 (fun v30 w=>
 kN 24 v30 (fun v31 w=>
 kB .lss 3 4 (l_25.getD 1 undef) v31 (fun v32 w=>
 condM v32
 (heldM w (fun C_30 w=>(((true:Bool) = true) ∧ (jF 26 0 v1 C_30 (fun v35=>
 jL 23 v35 C_30 (fun v36=>
 jF 26 1 v1 C_30 (fun v37=>
 jL 24 v37 C_30 (fun v38=>
 pureH (l_25.getD 1 undef) C_30 (fun v39=>
 jI 24 v38 v39 C_30 (fun v40=>
 jL 3 v40 C_30 (fun v41=>
 ∃ S_38:World → WK,∀ w,C_30 w → (
 callM prog 111 #[v36,v41] (fun v42 w=>
 kU v42 (fun v43 w=>
 condM v43
 (K (.bool false) w)
 (kB .add 3 3 (l_25.getD 1 undef) (.int .i64 1) (fun v34 w=>
 J_23 [(l_25.getD 0 undef),v34] w ∧ m_24 [(l_25.getD 0 undef),v34] w < m_24 l_25 w0_l_25) w)) w) w))))))))))))
 (K (.bool true) w)) w) w) w) w)) w0_l_25))) w) w) w) w) w) w) w) w) w) w) w) w) w) w) w) w) w) w) w) w) w) w
theorem sh_22_ok {a0:Value} {K:VK} {w:World} (h:sh_22 a0 K w):callM prog 22 #[a0] K w:=
 calls_of_code (fun _=>.free [0,1,2,3,4,5,6] [] [7,8]) (fn:=Tryz.f22) (rs:=[.tmp 2]) Tryz.func22 rfl rfl (by kernel_rfl) (nB rfl) (Eq.mp (by kernel_rfl) h)
def sh_188 (a0 a1 a2:Value) (K:VK) (w:World):Prop:=
 callM prog 167 #[a0] (fun v10 w=>
 kU v10 (fun v11 w=>
 condM v11
 (K (.int .i64 0) w)
 (kB .geq 3 4 a2 (.int .i64 0) (fun v13 w=>
 condM v13
 (callM prog 172 #[a0,a1,a2] (fun v17 w=>
 K v17 w) w)
 (callM prog 144 #[a0,a1] (fun v21 w=>
 kE 0 3 v21 (fun v22 w=>
 kE 1 4 v21 (fun v23 w=>
 kU v23 (fun v25 w=>
 condM v25
 (K (.int .i64 0) w)
 (kB .add 3 3 a2 (.int .i64 1) (fun v31 w=>
 oM prog (.unOp .neg 3 (.tmp 0)) 3 [v31] (fun v32 w=>
 callM prog 172 #[a0,v22,v32] (fun v33 w=>
 callM prog 104 #[a0,v22,v33] (fun v34 w=>
 K v34 w) w) w) w) w)) w) w) w) w)) w)) w) w
theorem sh_188_ok {a0 a1 a2:Value} {K:VK} {w:World} (h:sh_188 a0 a1 a2 K w):callM prog 188 #[a0,a1,a2] K w:=
 calls_of_code (fun _=>0) (fn:=Tryz.f188) (rs:=[.tmp 6]) Tryz.func188 rfl rfl (by kernel_rfl) (nB rfl) (Eq.mp (by kernel_rfl) h)
def sh_142 (a0 a1 a2:Value) (K:VK) (w:World):Prop:=
 oM prog (.box 23 (.tmp 0)) 0 [a0] (fun v3 w=>
 kF 23 1 v3 (fun v7 w=>
 kL 3 v7 (fun v8 w=>
 callM prog 167 #[v8] (fun v9 w=>
 kU v9 (fun v10 w=>
 condM v10
 (K (.int .i64 0) w)
 (heldM w (fun C_6 w=>(((true:Bool) = true) ∧ (jF 23 0 v3 C_6 (fun v11=>
 jL 3 v11 C_6 (fun v12=>
 pureH a1 C_6 (fun v13=>
 jF 23 0 v3 C_6 (fun v14=>
 jL 3 v14 C_6 (fun v15=>
 pureH a2 C_6 (fun v16=>
 ∃ S_13:World → WK,∃ R_14:VK,(∀ v w w_1,S_13 w w_1 → R_14 v w → R_14 v w_1) ∧
 (∀ w,C_6 w → (callM prog 188 #[v15,v16,(.int .i64 (-1))] (fun v w_1=>C_6 w_1 ∧ S_13 w w_1 ∧ R_14 v w_1) w)) ∧
 (∀ w,C_6 w → ∀ v17,R_14 v17 w → (
 callM prog 104 #[v12,v13,v17] (fun v18 w=>
 K v18 w) w))))))))))))) w) w) w) w) w
theorem sh_142_ok {a0 a1 a2:Value} {K:VK} {w:World} (h:sh_142 a0 a1 a2 K w):callM prog 142 #[a0,a1,a2] K w:=
 calls_of_code (fun _=>.free [0,1,2,3,4,5] [6] [7,8]) (fn:=Tryz.f142) (rs:=[.tmp 6]) Tryz.func142 rfl rfl (by kernel_rfl) (nB rfl) (Eq.mp (by kernel_rfl) h)
end Go.Proofs
namespace Go.Proofs
open Go Go.Sh Go.RowKit FdSpec
section
variable {K:VK} {w:World}
theorem oM_shrI {P:Program} (t t' T:TypeId) (yk:IntKind) (x y:Int) (h0:0 ≤ y) (h1:y ≤ 64):oM P (.binOp .shr t (.tmp 0) (.tmp 1) t') T [.int .i64 x,.int yk y] = pureM (.int .i64 (x / 2 ^ y.toNat)):=by
 funext K w
 simp [oM,opM,xop,execOp,evalL,evE,binOp]
 rfl
theorem oM_andI {P:Program} (t t' T:TypeId) (x y:Int):oM P (.binOp .and t (.tmp 0) (.tmp 1) t') T [.int .i64 x,.int .i64 y] = pureM (.int .i64 (bits .and .i64 x y)):=by
 funext K w
 simp [oM,opM,xop,execOp,evalL,evE,binOp,go_sem]
theorem bits_andI (x:Int) (hx:0 ≤ x ∧ x < 9223372036854775808):bits .and .i64 x 3 = x % 4:=by
 obtain ⟨a,rfl⟩:=Int.eq_ofNat_of_zero_le hx.1
 simp only [bits]
 rw [show (3:Int) = ((3:Nat):Int) from rfl,BitVec.ofInt_natCast,BitVec.ofInt_natCast,BitVec.toNat_and]
 simp only [BitVec.toNat_ofNat]
 rw [show IntKind.i64.bits = 64 from rfl,Nat.mod_eq_of_lt (show a < 2 ^ 64 by omega),Nat.mod_eq_of_lt (show 3 < 2 ^ 64 by decide),show 3 = 2 ^ 2 - 1 from rfl,Nat.and_two_pow_sub_one_eq_mod]
 rw [wrapI64 _ (by omega) (by omega)]
 omega
theorem rValid_ok (n:Int) (h:K (.bool (decide (okN n))) w):callM Tryz.prog 167 #[.int .i64 n] K w:=by
 apply sh_167_ok
 unfold sh_167
 have e:decide (okN n) = (decide (1 ≤ n) && decide (n < 2305843009213693952)):=by
  by_cases h1:1 ≤ n <;> by_cases h2:n < 2305843009213693952 <;> simp [okN,h1,h2]
 rw [e] at h
 by_cases h1:1 ≤ n
 ·refine Xa @h1 ?_
  simpa [h1] using h
 ·refine Xa @h1 ?_
  simpa [h1] using h
theorem rResidue_ok (n a:Int) (hn:okN n) (h:K (.int .i64 (a % n)) w):callM Tryz.prog 168 #[.int .i64 n,.int .i64 a] K w:=by
 apply sh_168_ok
 unfold sh_168
 obtain ⟨h1,h2⟩:=hn
 have e:=residue_eq n a (by omega)
 have h3:=Int.emod_nonneg a (b:=n) (by omega)
 have h4:=Int.emod_lt_of_pos a (b:=n) (by omega)
 obtain ⟨r,hr⟩:∃ r,r = a.tmod n:=⟨_,rfl⟩
 rw [← hr] at e
 have hjm:∀ (l:List Value) (u:Env) (w':World),(fun l w'=>l = [Value.int .i64 (a % n)] ∧ w' = w) l w' → K (l.getD 0 undef) w':=by
  rintro l u w' ⟨rfl,rfl⟩; exact h
 refine Xa (Eq.symm @hr) ?_
 refine ⟨fun l w'=>l = [Value.int .i64 (a % n)] ∧ w' = w,?_,fun l u w' hl=>hjm l u w' hl⟩
 repeat (any_goals (first
 | (with_reducible ((refine idCond ?_); refine yP (fun hg=>?_) fun hg=>?_))
 | ((with_reducible refine oG fun Kv hK=>?_); simp [go_sem]; (try simp (disch:=omega) only [wrapI64,wrapU8,wrapU32,wrapU64]); apply hK; clear hK Kv)))
 ·rw [if_pos (by assumption)] at e; rw [e]; exact ⟨rfl,rfl⟩
 ·rw [if_neg (by assumption)] at e; rw [e]; exact ⟨rfl,rfl⟩
theorem rAdd_ok (n a b:Int) (h:K (.int .i64 (addM n a b)) w):callM Tryz.prog 103 #[.int .i64 n,.int .i64 a,.int .i64 b] K w:=by
 apply sh_103_ok
 unfold sh_103
 refine rValid_ok n ?_
 by_cases hn:okN n
 ·refine Xa0 ?_
  refine rResidue_ok n a hn ?_
  refine rResidue_ok n b hn ?_
  have a1:=Int.emod_nonneg a (show n ≠ 0 by have:=hn.1; omega)
  have a2:=Int.emod_lt_of_pos a (show 0 < n by have:=hn.1; omega)
  have b1:=Int.emod_nonneg b (show n ≠ 0 by have:=hn.1; omega)
  have b2:=Int.emod_lt_of_pos b (show 0 < n by have:=hn.1; omega)
  obtain ⟨h1,h2⟩:=hn
  have e:(a % n + b % n).tmod n = addM n a b:=by rw [Int.tmod_eq_emod_of_nonneg (by omega),addM_eq n a b ⟨h1,h2⟩]
  refine Xa @e ?_
  exact h
 ·unfold addM at h
  rw [if_neg hn] at h
  refine Xa0 ?_
  exact h
theorem rSub_ok (n a b:Int) (h:K (.int .i64 (subM n a b)) w):callM Tryz.prog 116 #[.int .i64 n,.int .i64 a,.int .i64 b] K w:=by
 apply sh_116_ok
 unfold sh_116
 refine rValid_ok n ?_
 by_cases hn:okN n
 ·refine Xa0 ?_
  refine rResidue_ok n a hn ?_
  have a1:=Int.emod_nonneg a (show n ≠ 0 by have:=hn.1; omega)
  have a2:=Int.emod_lt_of_pos a (show 0 < n by have:=hn.1; omega)
  have b1:=Int.emod_nonneg b (show n ≠ 0 by have:=hn.1; omega)
  have b2:=Int.emod_lt_of_pos b (show 0 < n by have:=hn.1; omega)
  have h1:=hn.1
  have h2:=hn.2
  refine Xa0 ?_
  refine rResidue_ok n b hn ?_
  have e:(a % n + n - b % n).tmod n = subM n a b:=by rw [Int.tmod_eq_emod_of_nonneg (by omega),subM_eq n a b hn]
  refine Xa @e ?_
  exact h
 ·unfold subM at h
  rw [if_neg hn] at h
  refine Xa0 ?_
  exact h
def MuJ (n x y:Int) (w0:World) (l:List Value) (w':World):Prop:=w' = w0 ∧ ∃ (o:Int) (u v:Value) (j:Nat),l = [.int .i64 o,u,v,.int .i64 (60 - 2 * (j:Int))] ∧ j ≤ 31 ∧ o = x * (y / 2 ^ (62 - 2 * j)) % n
def muMu (l:List Value) (_:World):Nat:=match l with | [_,_,_,.int _ k]=>(k + 2).toNat | _=>0
theorem muMu_eq (a b c:Value) (q:IntKind) (k:Int) (w:World):muMu [a,b,c,.int q k] w = (k + 2).toNat:=rfl
def MiJ (n x o:Int) (d:Int) (w0:World) (l:List Value) (w':World):Prop:=w' = w0 ∧ ∃ (p:Int) (i:Nat),l = [.int .i64 p,.int .i64 (i:Int)] ∧ (i:Int) ≤ d ∧ p = (o + (i:Int) * x) % n
def miMu (d:Int) (l:List Value) (_:World):Nat:=match l with | [_,.int _ k]=>(d - k).toNat | _=>0
theorem miMu_eq (d:Int) (a:Value) (q:IntKind) (k:Int) (w:World):miMu d [a,.int q k] w = (d - k).toNat:=rfl
theorem rMul_ok (n a b:Int) (h:K (.int .i64 (mulM n a b)) w):callM Tryz.prog 104 #[.int .i64 n,.int .i64 a,.int .i64 b] K w:=by
 apply sh_104_ok
 unfold sh_104
 refine rValid_ok n ?_
 by_cases hn:okN n
 ·refine Xa0 ?_
  refine rResidue_ok n a hn ?_
  refine rResidue_ok n b hn ?_
  rw [← mulM_eq n a b hn] at h
  have a1:=Int.emod_nonneg a (show n ≠ 0 by have:=hn.1; omega)
  have a2:=Int.emod_lt_of_pos a (show 0 < n by have:=hn.1; omega)
  have b1:=Int.emod_nonneg b (show n ≠ 0 by have:=hn.1; omega)
  have b2:=Int.emod_lt_of_pos b (show 0 < n by have:=hn.1; omega)
  obtain ⟨h1,h2⟩:=hn
  generalize a % n = x at *
  generalize b % n = y at *
  have hxy:0 ≤ x * y:=Int.mul_nonneg a1 b1
  by_cases hs:n ≤ 2147483648
  ·have hb:x * y ≤ 2147483648 * 2147483648:=Int.mul_le_mul (by omega) (by omega) b1 (by omega)
   have e:(x * y).tmod n = x * y % n:=Int.tmod_eq_emod_of_nonneg hxy
   refine Xa @e ?_
   exact h
  ·refine Xa0 ?_
   refine ⟨MuJ n x y w,muMu,⟨rfl,0,_,_,0,rfl,by omega,?_⟩,?_⟩
   ·rw [show y / 2 ^ (62 - 2 * 0) = 0 by omega]; simp
   rintro _ _ w1 ⟨rfl,o,u,v,j,rfl,hj,ho⟩
   by_cases hj31:j = 31
   ·subst hj31
    have:o = x * y % n:=by rw [ho]; simp
    refine Xa0 ?_
    rw [this]
    exact h
   ·have o1:0 ≤ o:=by rw [ho]; exact Int.emod_nonneg _ (by omega)
    have o2:o < n:=by rw [ho]; exact Int.emod_lt_of_pos _ (by omega)
    have e4:(4 * o).tmod n = 4 * o % n:=Int.tmod_eq_emod_of_nonneg (by omega)
    have sh:=fun t t' T=>oM_shrI (P:=Tryz.prog) t t' T .i64 y (60 - 2 * (j:Int)) (by omega) (by omega)
    have ek:(60 - 2 * (j:Int)).toNat = 60 - 2 * j:=by omega
    rw [ek] at sh
    have ey:y / 2 ^ (60 - 2 * j) = 4 * (y / 2 ^ (62 - 2 * j)) + y / 2 ^ (60 - 2 * j) % 4:=by
     have:y / 2 ^ (62 - 2 * j) = y / 2 ^ (60 - 2 * j) / 4:=by
      rw [show 62 - 2 * j = (60 - 2 * j) + 2 by omega,Int.pow_add]
      exact (Int.ediv_ediv_of_nonneg (Int.le_of_lt (Int.pow_pos (by omega)))).symm
     rw [this]; omega
    have q1:0 ≤ y / 2 ^ (60 - 2 * j):=Int.ediv_nonneg b1 (Int.le_of_lt (Int.pow_pos (by omega)))
    have q2:y / 2 ^ (60 - 2 * j) ≤ y:=Int.ediv_le_self _ b1
    obtain ⟨q,hq⟩:∃ q,q = y / 2 ^ (60 - 2 * j):=⟨_,rfl⟩
    rw [← hq] at sh ey q1 q2
    have eb:=bits_andI q (by omega)
    refine Xa (An4 @e4 @sh @oM_andI @eb) ?_
    generalize hd:q % 4 = d at *
    have d1:0 ≤ d:=by omega
    have d2:d < 4:=by omega
    refine ⟨MiJ n x (4 * o) d w1,miMu d,⟨rfl,_,0,rfl,by omega,by simp⟩,?_⟩
    rintro _ _ w2 ⟨rfl,p,i,rfl,hi,hp⟩
    have p1:0 ≤ p:=by rw [hp]; exact Int.emod_nonneg _ (by omega)
    have p2:p < n:=by rw [hp]; exact Int.emod_lt_of_pos _ (by omega)
    by_cases hid:(i:Int) < d
    ·have ep:(p + x).tmod n = (p + x) % n:=Int.tmod_eq_emod_of_nonneg (by omega)
     refine Xa @ep ?_
     refine ⟨⟨rfl,_,i + 1,rfl,by omega,?_⟩,?_⟩
     ·rw [hp,Int.emod_add_emod]; congr 1; rw [Int.natCast_add,Int.add_mul]; omega
     ·simp only [miMu_eq]; omega
    ·have hid2:(i:Int) = d:=by omega
     refine Xa0 ?_
     refine ⟨⟨rfl,_,_,_,j + 1,by rw [show 60 - 2 * (j:Int) - 2 = 60 - 2 * ((j + 1:Nat):Int) by omega]; rfl,by omega,?_⟩,?_⟩
     ·rw [hp,hid2,ho,show 62 - 2 * (j + 1) = 60 - 2 * j by omega]
      rw [← hq,ey]
      generalize y / 2 ^ (62 - 2 * j) = Y
      rw [Int.add_emod,Int.mul_emod,Int.emod_emod_of_dvd _ (Int.dvd_refl n),← Int.mul_emod,← Int.add_emod,Int.mul_add,Int.mul_comm d x]
      congr 2
      rw [← Int.mul_assoc,← Int.mul_assoc,Int.mul_comm 4 x]
     ·simp only [muMu_eq]; omega
 ·unfold mulM at h
  rw [if_neg hn] at h
  refine Xa0 ?_
  exact h
def RpJ (n R:Int) (w0:World) (l:List Value) (w':World):Prop:=w' = w0 ∧ ∃ (o a:Int) (b:Nat),l = [.int .i64 o,.int .i64 a,.int .i64 (b:Int)] ∧ (0 ≤ o ∧ o < n) ∧ (0 ≤ a ∧ a < n) ∧ b < 9223372036854775808 ∧ o * a ^ b % n = R
def rpMu (l:List Value) (_:World):Nat:=match l with | [_,_,.int _ k]=>k.toNat | _=>0
theorem rpMu_eq (a b:Value) (q:IntKind) (k:Int) (w:World):rpMu [a,b,.int q k] w = k.toNat:=rfl
theorem mulM_res (n a b:Int) (hn:okN n):mulM n a b = a * b % n:=by rw [mulM,if_pos hn]
theorem rpow_ok (n a:Int) (b:Nat) (hn:okN n) (hb:b < 9223372036854775808) (h:K (.int .i64 (pw n a b)) w):callM Tryz.prog 172 #[.int .i64 n,.int .i64 a,.int .i64 (b:Int)] K w:=by
 apply sh_172_ok
 unfold sh_172
 have hn1:=hn.1
 have hn2:=hn.2
 have e1:(1:Int).tmod n = 1 % n:=Int.tmod_eq_emod_of_nonneg (by omega)
 refine Xa @e1 ?_
 refine rResidue_ok n a hn ?_
 have m1:=Int.emod_nonneg 1 (show n ≠ 0 by omega)
 have m2:=Int.emod_lt_of_pos 1 (show 0 < n by omega)
 have a1:=Int.emod_nonneg a (show n ≠ 0 by omega)
 have a2:=Int.emod_lt_of_pos a (show 0 < n by omega)
 have hR0:1 % n * (a % n) ^ b % n = pw n a b:=by
  rw [Int.mul_emod,Int.emod_emod_of_dvd _ (Int.dvd_refl n),← Int.mul_emod,Int.one_mul]
  exact pw_emod n a b
 generalize pw n a b = R at h hR0
 refine ⟨RpJ n R w,rpMu,⟨rfl,_,_,b,rfl,⟨m1,m2⟩,⟨a1,a2⟩,hb,hR0⟩,?_⟩
 clear m1 m2 a1 a2 hb hR0
 rintro _ _ w1 ⟨rfl,o,c,b,rfl,ho,hc,hb,hR⟩
 by_cases hb0:b = 0
 ·subst hb0
  have:o = R:=by
   rw [← hR]; simp
   exact (Int.emod_eq_of_lt ho.1 ho.2).symm
  refine Xa0 ?_
  rw [this]; exact h
 ·have e2:(b:Int).tmod 2 = ((b % 2:Nat):Int):=by rw [Int.tmod_eq_emod_of_nonneg (by omega)]; omega
  have e3:(b:Int).tdiv 2 = ((b / 2:Nat):Int):=by rw [Int.tdiv_eq_ediv_of_nonneg (by omega)]; omega
  refine Xa0 ?_
  refine ⟨fun l w'=>w' = w1 ∧ ∃ o',l = [.int .i64 o'] ∧ (0 ≤ o' ∧ o' < n) ∧ o' * (c * c % n) ^ (b / 2) % n = R,?_,?_⟩
  ·rcases Nat.mod_two_eq_zero_or_one b with h2 | h2
   ·rw [h2] at e2
    refine Xa @e2 ?_
    exact ⟨rfl,o,rfl,ho,by rw [pw_even n c o b h2]; exact hR⟩
   ·rw [h2] at e2
    refine Xa @e2 ?_
    refine rMul_ok n o c ?_
    rw [mulM_res n o c hn]
    exact ⟨rfl,_,rfl,⟨Int.emod_nonneg _ (by omega),Int.emod_lt_of_pos _ (by omega)⟩,by rw [pw_odd n c o b h2]; exact hR⟩
  ·rintro _ _ w2 ⟨rfl,o',rfl,ho',hR'⟩
   refine rMul_ok n c c ?_
   rw [mulM_res n c c hn]
   refine Xa @e3 ?_
   refine ⟨⟨rfl,o',c * c % n,b / 2,by simp,ho',⟨Int.emod_nonneg _ (by omega),Int.emod_lt_of_pos _ (by omega)⟩,by omega,hR'⟩,?_⟩
   simp only [rpMu_eq]; omega
end
end Go.Proofs
namespace Go.Proofs
open Go Go.Sh Go.RowKit FdSpec TkSpec
section
variable {K:VK} {w:World}
def RiJ (n:Int) (E:Int × Int) (w:World) (l:List Value) (w':World):Prop:=w' = w ∧ ∃ (v1 v2 v3:Value) (r s x y:Int),l = [v1,v2,v3,.int .i64 r,.int .i64 s,.int .i64 x,.int .i64 y] ∧ (0 ≤ s ∧ s < n) ∧ (0 ≤ r ∧ r ≤ n) ∧ (0 ≤ x ∧ x < 2305843009213693952) ∧ (0 ≤ y ∧ y < 2305843009213693952) ∧ eucAll n r s x y = E
def riMu (l:List Value) (_:World):Nat:=match l with | [_,_,_,_,.int _ s,_,_]=>s.toNat | _=>0
theorem riMu_eq (a b c r x y:Value) (k:IntKind) (s:Int) (w:World):riMu [a,b,c,r,.int k s,x,y] w = s.toNat:=rfl
theorem rInv_ok (n a:Int) (k:K (.tuple #[.int .i64 ((invM n a).getD 0),.bool (invM n a).isSome]) w):callM Tryz.prog 144 #[.int .i64 n,.int .i64 a] K w:=by
 apply sh_144_ok
 unfold sh_144
 refine rValid_ok n ?_
 by_cases hn:okN n
 ·have hn':=hn
  obtain ⟨h1,h2⟩:=hn'
  have ha:=Int.emod_nonneg a (b:=n) (by omega)
  have ha2:=Int.emod_lt_of_pos a (b:=n) (by omega)
  have kk:∀ r x,(r,x) = eucAll n n (a % n) 0 1 → K (.tuple #[.int .i64 (if r = 1 then x % n else 0),.bool (decide (r = 1))]) w:=fun r x e=>by
   unfold invM at k
   rw [if_pos hn,← e] at k
   by_cases hr:r = 1
   ·simpa [hr] using k
   ·simpa [hr] using k
  clear k
  refine Xa0 ?_
  refine rResidue_ok n a hn ?_
  have m1:(1:Int).tmod n = 1 % n:=Int.tmod_eq_emod_of_nonneg (by omega)
  have m2:=Int.emod_nonneg 1 (b:=n) (by omega)
  have m3:=Int.emod_lt_of_pos 1 (b:=n) (by omega)
  have hy0:eucAll n n (a % n) 0 (1 % n) = eucAll n n (a % n) 0 1:=by
   by_cases hn1:n = 1
   ·subst hn1
    rw [show a % 1 = 0 by omega,eucAll_zero,eucAll_zero]
   ·rw [show (1:Int) % n = 1 from Int.emod_eq_of_lt (by omega) (by omega)]
  generalize a % n = s0 at *
  generalize hE:eucAll n n s0 0 1 = E at *
  refine Xa @m1 ?_
  refine ⟨RiJ n E w,riMu,⟨rfl,_,_,_,n,s0,0,1 % n,rfl,⟨ha,ha2⟩,⟨by omega,by omega⟩,⟨by omega,by omega⟩,⟨by omega,by omega⟩,hy0⟩,?_⟩
  clear hE ha ha2 hy0 m1 m2 m3 s0
  rintro _ _ w1 ⟨rfl,v,v2,v3,r,s,x,y,rfl,hs,hr,hx,hy,he⟩
  by_cases h0:s = 0
  ·subst h0
   rw [eucAll_zero] at he
   have kk:=kk r x he
   have e1:x.tmod n = x % n:=Int.tmod_eq_emod_of_nonneg hx.1
   by_cases hr1:r = 1
   ·simp only [hr1] at kk
    refine Xa (An2 @hr1 @e1) ?_
    simpa using kk
   ·simp only [hr1] at kk
    refine Xa @hr1 ?_
    simpa using kk
  ·rw [euc_step n r s x y (by omega)] at he
   have q1:r.tdiv s = r / s:=Int.tdiv_eq_ediv_of_nonneg hr.1
   have q2:=Int.emod_add_mul_ediv r s
   have q3:=Int.emod_nonneg r (b:=s) (by omega)
   have q4:=Int.emod_lt_of_pos r (b:=s) (by omega)
   have q5:0 ≤ r / s:=Int.ediv_nonneg hr.1 hs.1
   have q6:r / s ≤ r:=Int.ediv_le_self _ hr.1
   have q7:r / s * s = r - r % s:=by rw [Int.mul_comm]; omega
   have m1:=mulM_range n (r / s) y hn
   have m2:=subM_range n x (mulM n (r / s) y) hn
   generalize r % s = t at *
   generalize r / s = q at *
   clear q2
   have q8:r - (r - t) = t:=by omega
   refine Xa (An3 @q1 @q7 @q8) ?_
   refine rMul_ok n q y ?_
   refine rSub_ok n x _ ?_
   generalize subM n x (mulM n q y) = z at *
   refine ⟨⟨rfl,_,_,_,s,t,y,z,rfl,⟨q3,by omega⟩,⟨hs.1,by omega⟩,hy,⟨m2.1,by omega⟩,he⟩,?_⟩
   simp only [riMu_eq]
   omega
 ·unfold invM at k
  rw [if_neg hn] at k
  refine Xa0 ?_
  exact k
def TzJ (m:Nat) (w:World) (l:List Value) (w':World):Prop:=w' = w ∧ ∃ (d k:Nat),l = [.int .i64 (d:Int),.int .i64 (k:Int)] ∧ k ≤ tz 64 m ∧ m / 2 ^ k = d ∧ 0 < d
def tzMu (l:List Value) (_:World):Nat:=match l with | [.int _ d,_]=>d.toNat | _=>0
theorem tzMu_eq (a:Value) (q:IntKind) (d:Int) (w:World):tzMu [.int q d,a] w = d.toNat:=rfl
theorem tz_step (k:Nat):∀ (f m:Nat),0 < m → m < 2 ^ f → k ≤ tz f m → (m / 2 ^ k % 2 = 0 ↔ k < tz f m) ∧ 0 < m / 2 ^ k:=by
 induction k with
 | zero=>
  intro f m hm hf _
  cases f with
  | zero=>omega
  | succ f=>
   unfold tz
   split
   ·rename_i h; simp [h]; omega
   ·rename_i h; simp [h]; omega
 | succ k ih=>
  intro f m hm hf hk
  cases f with
  | zero=>simp [tz] at hk
  | succ f=>
   unfold tz at hk ⊢
   split at hk
   ·rename_i h
    rw [if_pos h]
    have:=ih f (m / 2) (by omega) (by rw [Nat.pow_succ] at hf; omega) (by omega)
    rw [Nat.div_div_eq_div_mul,← Nat.pow_succ'] at this
    exact ⟨by rw [this.1]; omega,this.2⟩
   ·omega
theorem rpasses_ok (n b:Int) (hn:okN n) (h2:2 ≤ n) (k:K (.bool (passes n b)) w):callM Tryz.prog 204 #[.int .i64 n,.int .i64 b] K w:=by
 apply sh_204_ok
 unfold sh_204
 have hn1:=hn.1
 have hn2:=hn.2
 obtain ⟨m,hm⟩:=natN (n - 1) (by omega)
 have hm2:(n - 1).toNat = m:=by omega
 unfold passes at k
 rw [hm2] at k
 have ht:=tz_lt 64 m (by omega) (by omega)
 refine Xa @hm ?_
 refine ⟨TzJ m w,tzMu,⟨rfl,m,0,rfl,by omega,by simp,by omega⟩,?_⟩
 rintro _ _ w1 ⟨rfl,d,t,rfl,hd,hmd,hd0⟩
 have hst:=tz_step t 64 m (by omega) (by omega) hd
 rw [hmd] at hst
 have hdm:d ≤ m:=by rw [← hmd]; exact Nat.div_le_self _ _
 have e2:(d:Int).tmod 2 = ((d % 2:Nat):Int):=by rw [Int.tmod_eq_emod_of_nonneg (by omega)]; omega
 have e3:(d:Int).tdiv 2 = ((d / 2:Nat):Int):=by rw [Int.tdiv_eq_ediv_of_nonneg (by omega)]; omega
 by_cases hev:d % 2 = 0
 ·have hlt:=hst.1.1 hev
  rw [hev] at e2
  refine Xa (An2 @e2 @e3) ?_
  refine ⟨⟨rfl,d / 2,t + 1,by simp,by omega,?_,by omega⟩,?_⟩
  ·rw [Nat.pow_succ,← Nat.div_div_eq_div_mul,hmd]
  ·simp only [tzMu_eq]; omega
 ·have htt:t = tz 64 m:=by have:=mt hst.1.2 hev; omega
  have hodd:d % 2 = 1:=by omega
  rw [hodd] at e2
  have k:K (.bool (if pw n b d = 1 then true else mrUp n t (pw n b d))) w1:=by rw [← hmd,htt]; exact k
  refine Xa @e2 ?_
  refine rpow_ok n b d hn (by omega) ?_
  have hp:=pw_nonneg n b d (by omega)
  generalize pw n b d = x at *
  by_cases hx1:x = 1
  ·simp only [if_pos hx1] at k
   refine Xa @hx1 ?_
   exact k
  ·simp only [if_neg hx1] at k
   refine Xa @hx1 ?_
   refine ⟨fun l w'=>w' = w1 ∧ ∃ (v:Value) (y:Int) (i:Nat),l = [v,.int .i64 y,.int .i64 (i:Int)] ∧ i ≤ t ∧ (0 ≤ y ∧ y < n) ∧ mrUp n (t - i) y = mrUp n t x,wiMu t,⟨rfl,_,x,0,rfl,by omega,hp,rfl⟩,?_⟩
   generalize mrUp n t x = R at *
   rintro _ _ w2 ⟨rfl,v,y,i,rfl,hi,hy,hR⟩
   by_cases hit:i = t
   ·subst hit
    rw [Nat.sub_self] at hR
    have hR2:R = false:=by rw [← hR]; rfl
    subst hR2
    refine Xa0 ?_
    exact k
   ·obtain ⟨j,hj⟩:∃ j,t - i = j + 1:=⟨t - i - 1,by omega⟩
    rw [hj] at hR
    unfold mrUp at hR
    by_cases hxn:y = n - 1
    ·rw [if_pos hxn] at hR
     subst hR
     rw [hm] at hxn
     refine Xa (An2 @hm @hxn) ?_
     exact k
    ·rw [if_neg hxn] at hR
     rw [hm] at hxn
     refine Xa (An2 @hm @hxn) ?_
     refine rMul_ok n y y ?_
     rw [mulM_res n y y hn]
     refine Xa0 ?_
     refine ⟨⟨rfl,_,_,i + 1,rfl,by omega,⟨Int.emod_nonneg _ (by omega),Int.emod_lt_of_pos _ (by omega)⟩,?_⟩,?_⟩
     ·rw [show t - (i + 1) = j by omega]; exact hR
     ·simp only [wiMu_eq]; omega
theorem smallP_rng:∀ p ∈ smallP,(2:Int) ≤ p ∧ p ≤ 37:=by decide
theorem bases_ok (k:∀ v W,Bw w W → Ints W v smallP → K v W):callM Tryz.prog 203 #[] K w:=by
 apply sh_203_ok
 unfold sh_203
 rw [rM_of (S:=Instr.buildSlice 24 12 (((List.range 12).zip smallV.toList)).toArray) (by kernel_rfl)]
 have e:(Instr.buildSlice 24 12 (((List.range 12).zip smallV.toList)).toArray).run Tryz.prog w = .ok (.slice (some ⟨w.heap.size,0,none⟩) 12 12) (w.alloc (.cells (smallP.map (Value.int .i64)).toArray 3)):=by kernel_rfl
 rw [e]
 exact k _ _ ((Below.refl _ w).alloc (rL) _) (ints_alloc w smallP _ 12 (fun n hn=>by have:=smallP_rng n hn; unfold I64; omega) (by decide))
theorem big_of_none {n:Int} (hf:smallP.find? (fun p=>decide (n % p = 0)) = none) (h1:2 ≤ n):37 < n:=by
 have hnd:=List.find?_eq_none.1 hf
 have g:∀ p ∈ smallP,¬ n % p = 0:=fun p hp=>by simpa using hnd p hp
 have hs:∀ m:Nat,m < 38 → 2 ≤ m → ∃ p ∈ smallP,(m:Int) % p = 0:=by decide +kernel
 obtain ⟨m,rfl⟩:=natN n (by omega)
 by_cases hm:m < 38
 ·obtain ⟨p,hp,hp0⟩:=hs m hm (by omega)
  exact absurd hp0 (g p hp)
 ·omega
def RprJ (n:Int) (W:World) (l:List Value) (w':World):Prop:=w' = W ∧ ∃ (v:Value) (i:Nat),l = [v,.int .i64 (i:Int)] ∧ i ≤ 12 ∧ smallP.find? (fun p=>decide (n % p = 0)) = (smallP.drop i).find? (fun p=>decide (n % p = 0))
def RprJ2 (n:Int) (W:World) (l:List Value) (w':World):Prop:=w' = W ∧ ∃ (v:Value) (i:Nat),l = [v,.int .i64 (i:Int)] ∧ i ≤ 12 ∧ smallP.all (fun p=>passes n p) = (smallP.drop i).all (fun p=>passes n p)
def rprMu (l:List Value) (_:World):Nat:=match l with | [_,.int _ i]=>12 - i.toNat | _=>0
theorem rprMu_eq (x:Value) (q:IntKind) (i:Int) (w:World):rprMu [x,.int q i] w = 12 - i.toNat:=rfl
theorem rPrime_ok (n:Int) (k:∀ w',Bw w w' → K (.bool (primeM n)) w'):callM Tryz.prog 171 #[.int .i64 n] K w:=by
 apply sh_171_ok
 unfold sh_171
 unfold primeM at k
 by_cases h1:n < 2
 ·rw [if_pos (.inl h1)] at k
  refine Xa @h1 ?_
  exact k _ (bR)
 by_cases h2:2305843009213693952 ≤ n
 ·rw [if_pos (.inr h2)] at k
  refine Xa (An2 @h1 @h2) ?_
  exact k _ (bR)
 rw [if_neg (by omega)] at k
 have hn:okN n:=⟨by omega,by omega⟩
 refine Xa (An2 @h1 @h2) ?_
 refine bases_ok (fun v W hb hi=>?_)
 have hlen:smallP.length = 12:=rfl
 obtain ⟨ad,c,rfl⟩:=hi.isSlice
 refine ⟨RprJ n W,rprMu,⟨rfl,_,0,rfl,by omega,rfl⟩,?_⟩
 rintro _ _ w1 ⟨rfl,u,i,rfl,hi12,hf⟩
 by_cases h12:i = 12
 ·subst h12
  rw [show smallP.drop 12 = [] from rfl,List.find?_nil] at hf
  rw [hf] at k
  simp only at k
  have hbig:=big_of_none hf (by omega)
  refine Xa0 ?_
  refine ⟨RprJ2 n w1,rprMu,⟨rfl,_,0,rfl,by omega,rfl⟩,?_⟩
  rintro _ _ w2 ⟨rfl,u2,i,rfl,hi2,hall⟩
  by_cases hi12:i = 12
  ·subst hi12
   rw [show smallP.drop 12 = [] from rfl,List.all_nil] at hall
   rw [hall] at k
   refine Xa0 ?_
   exact k _ hb
  ·rw [List.drop_eq_getElem_cons (by omega),List.all_cons] at hall
   have hr:=smallP_rng _ (List.getElem_mem (show i < smallP.length by omega))
   obtain ⟨b1,o1,rfl,hb1,ca,ra,_⟩:=hi.at (i:=i) (by omega)
   generalize smallP[i] = p at *
   refine Xa (ca _ (bR)) ?_
   refine rpasses_ok n p hn (by omega) ?_
   cases hps:passes n p with
   | false=>
    rw [hps,bF] at hall
    rw [hall] at k
    refine Xa0 ?_
    exact k _ hb
   | true=>
    rw [hps,bT] at hall
    refine Xa0 ?_
    refine ⟨⟨rfl,_,i + 1,rfl,by omega,hall⟩,?_⟩
    simp only [rprMu_eq]; omega
 ·rw [List.drop_eq_getElem_cons (by omega)] at hf
  have hr:=smallP_rng _ (List.getElem_mem (show i < smallP.length by omega))
  obtain ⟨b1,o1,rfl,hb1,ca,ra,_⟩:=hi.at (i:=i) (by omega)
  generalize smallP[i] = p at *
  have er:n.tmod p = n % p:=Int.tmod_eq_emod_of_nonneg (by omega)
  by_cases hd:n % p = 0
  ·rw [List.find?_cons_of_pos (by simpa using hd)] at hf
   rw [hf] at k
   have k:=k _ hb
   simp only at k
   refine Xa (An3 (ca _ (bR)) @er @hd) ?_
   exact k
  ·rw [List.find?_cons_of_neg (by simpa using hd)] at hf
   refine Xa (An3 (ca _ (bR)) @er @hd) ?_
   refine ⟨⟨rfl,_,i + 1,rfl,by omega,hf⟩,?_⟩
   simp only [rprMu_eq]; omega
set_option maxHeartbeats 1000000 in
theorem rValidGroup_ok (g:Grp) (hg:GrpR g) (k:∀ w',Bw w w' → K (.bool (validG g)) w'):callM Tryz.prog 110 #[grpV g] K w:=by
 apply sh_110_ok
 unfold sh_110
 refine box_grp g fun b W hW hb c0 c1 c2=>?_
 have n1:=validG_not (g:=g)
 have n2:=validG_yes (g:=g)
 obtain ⟨P,Q,G⟩:=g
 obtain ⟨hP,hQ,hG⟩:=hg
 unfold I64 at hP hQ hG
 simp only at hP hQ hG n1 n2 c0 c1 c2
 have hr:=Below.refl W.heap.size W
 have k1:∀ w',validG ⟨P,Q,G⟩ = false → Bw W w' → K (.bool false) w':=fun w' e hb=>by rw [e] at k; exact k w' (hW.on hb)
 have k2:∀ w' v,validG ⟨P,Q,G⟩ = v → Bw W w' → K (.bool v) w':=fun w' v e hb=>by rw [e] at k; exact k w' (hW.on hb)
 clear k
 repeat (any_goals (first
 | (with_reducible first|((refine idGd ?_); first|refine zD ?_|((refine idGdD ?_); first|refine zI ?_|refine zJ ?_|refine zK (fun hg=>?_) fun hg=>?_)|((refine idGdN ?_); first|refine zO ?_|refine zP ?_|refine zQ (fun hg=>?_) fun hg=>?_))|((refine idPick ?_); first|refine yB ?_|refine yD ?_|refine yE ?_|refine yF ?_|refine yG ?_)|((refine idCond ?_); first|refine yL ?_|refine yP (fun hg=>?_) fun hg=>?_))
 | ((with_reducible refine oG fun X Y=>?_); simp [go_sem,c0,c1,c2,hr]; (try simp (disch:=omega) only [wrapI64,wrapU8,wrapU32,wrapU64]); apply Y; clear Y X)))
 all_goals try exact k1 _ (n1 (by omega)) hr
 refine rPrime_ok Q (fun w1 h1=>?_)
 have n2:=n2 (by omega)
 cases hq:primeM Q with
 | false=>
  have n2:validG ⟨P,Q,G⟩ = false:=by rw [n2,hq]; rfl
  refine Xa0 ?_
  exact k1 _ n2 h1
 | true=>
  rw [hq,bT] at n2
  refine Xa (An2 @c0 @h1) ?_
  refine rPrime_ok P (fun w2 h2=>?_)
  have h2:=h1.on h2
  cases hp:primeM P with
  | false=>
   have n2:validG ⟨P,Q,G⟩ = false:=by rw [n2,hp]; rfl
   refine Xa0 ?_
   exact k1 _ n2 h2
  | true=>
   rw [hp,bT] at n2
   obtain ⟨q,hq'⟩:=natN Q (by omega)
   subst hq'
   refine Xa (An4 @c0 @c1 @c2 @h2) ?_
   refine rpow_ok P G q ⟨by omega,by omega⟩ (by omega) ?_
   rw [Int.toNat_natCast] at n2
   generalize pw P G q = z at *
   refine Xa0 ?_
   exact k2 _ _ n2 h2
end
end Go.Proofs
