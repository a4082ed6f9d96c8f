/- Parts of the proof of the seat's statements (LawKit, OpenKit, OpenKit2, RK, RnA, PrOpen, PrRng, PrVer, PrShape, PrFits, PrPrv, PrRng2, PrRng3, HLs, HL13, PrEnc, GrH, GrI, GrJ, ShGr2, GrK, PrDec, GrM, GrN, GrO, HL10, GrQ, GrR, PrPlace, CtA, CtB, CtC, CtD, CtE): lemmas about the given translation and plain laws. No condition of their own. -/
import Derived.Test.YtlmhhgemiknhdaaGreatDoorPrd
import Derived.ProofKit
import Derived.LaidMore
import Derived.OpenShut
import Derived.Carry
import Derived.SizedLaws
import Derived.Stop.Joined
import Derived.Deep.Slices
import Derived.Deep.Fields
import Derived.LaidSub
import Derived.Test.YtlmhhgemiknhdaaGreatDoorRows
import Derived.Test.YtlmhhgemiknhdaaGreatDoorCards
import Derived.Test.YtlmhhgemiknhdaaGreatDoorTie
import Derived.SevenTiedAt
import Derived.Test.YtlmhhgemiknhdaaGreatDoorProg
set_option linter.all false
set_option maxRecDepth 100000
namespace Go.Sh
open Go Go.ChangeShapes Go.WideShapes Go.ChangeAt Go.RowKit
section
variable {H:Type} {enc:TypeId × Value → H} {P:Program}
theorem trodAll_below (hl:laidOutB P = true) {W W':World} (hb:Below W.heap.size W W') :
  ∀ (ts:List TypeId) (vs:List Value) (ds:List (DataW H)) (ps:List MemPlace),(ts.all fun t=>P.readableRec t && decide (t < P.types.size)) = true →
  DataW.TrodAll enc P W 0 (fun _=>true) true ts vs ds ps → (∀ x ∈ ps,x.block < W.heap.size) → DataW.TrodAll enc P W' 0 (fun b=>decide (b < W.heap.size)) true ts vs ds ps
 | [],[],[],_,_,h,_=>h
 | t :: ts,v :: vs,d :: ds,ps,ht,h,hlt=>by
  obtain ⟨p,q,h1,h2,rfl⟩:=h
  simp only [List.all_cons,Bool.and_eq_true,decide_eq_true_eq] at ht
  exact ⟨p,q,Below.trod hl ht.1.1 ht.1.2 h1 hb (fun x hx=>hlt x (by simp [hx])),trodAll_below hl hb ts vs ds q ht.2 h2 (fun x hx=>hlt x (by simp [hx])),rfl⟩
 | [],_ :: _,_,_,_,h,_=>h.elim
 | [],[],_ :: _,_,_,h,_=>h.elim
 | _ :: _,[],_,_,_,h,_=>h.elim
 | _ :: _,_ :: _,[],_,_,h,_=>h.elim
theorem trodAll_length {W:World} {b:Nat} {sp:Nat → Bool} {hd:Bool}:∀ (ts:List TypeId) (vs:List Value) (ds:List (DataW H)) (ps:List MemPlace),DataW.TrodAll enc P W b sp hd ts vs ds ps → ds.length = ts.length ∧ vs.length = ts.length
 | [],[],[],_,_=>⟨rfl,rfl⟩
 | t :: ts,v :: vs,d :: ds,ps,h=>by
  obtain ⟨p,q,h1,h2,rfl⟩:=h
  have:=trodAll_length ts vs ds q h2
  simp [this]
 | [],_ :: _,_,_,h=>h.elim
 | [],[],_ :: _,_,h=>h.elim
 | _ :: _,[],_,_,h=>h.elim
 | _ :: _,_ :: _,[],_,h=>h.elim
theorem trodL_cons {W:World} {b:Nat} {sp:Nat → Bool} {hd:Bool} {t:TypeId} {ts:List TypeId} {vs:List Value} {ds:List (DataW H)} {ps:List MemPlace} (h:DataW.TrodAll enc P W b sp hd (t :: ts) vs ds ps) :
  ∃ v d vs' ds' p q,vs = v :: vs' ∧ ds = d :: ds' ∧ DataW.Trod enc P W b sp hd t v d p ∧ DataW.TrodAll enc P W b sp hd ts vs' ds' q ∧ ps = p ++ q:=by
 match vs,ds,h with
 | v :: vs,d :: ds,h=>
  obtain ⟨p,q,h1,h2,rfl⟩:=h
  exact ⟨v,d,vs,ds,p,q,rfl,rfl,h1,h2,rfl⟩
 | [],_,h=>exact h.elim
 | _ :: _,[],h=>exact h.elim
theorem trodL0 {W:World} {b:Nat} {sp:Nat → Bool} {hd:Bool} {vs:List Value} {ds:List (DataW H)} {ps:List MemPlace} (h:DataW.TrodAll enc P W b sp hd [] vs ds ps):vs = [] ∧ ds = [] ∧ ps = []:=by
 match vs,ds,h with
 | [],[],h=>exact ⟨rfl,rfl,h⟩
theorem law_post {fn:Func} {s:ChangeSpec} {tb:TypeId} {apart:Bool} {W W':World} {args:Array Value} {ds gs:List (DataW H)} {before:List MemPlace} (hl:laidOutB P = true)
  (hrt:fn.resultTypes = #[tb]) (hub:P.underlying tb = some .bool) (hpar:(fn.params.toList.all fun t=>P.readableRec t && decide (t < P.types.size)) = true) (hvars:s.vars = [])
  (hspec:∀ ds:List (DataW H),ds.length = fn.params.toList.length → s.fn H ds = { results:=[.lit (.bool true)],args:=ds })
  (hW:DataW.Whole enc P fn.params.toList s.vars apart W args.toList ds gs before) (hb:Below W.heap.size W W'):s.post enc P fn apart true false false W args (.bool true) W':=by
 have hW0:=hW
 have hlt:=hW.lt
 obtain ⟨p,q,hA,hV,rfl,_,_⟩:=hW
 rw [hvars] at hV
 obtain ⟨rfl,rfl⟩:=trodVars_none hV
 have hlen:=(trodAll_length _ _ _ _ hA).1
 have hs:=hspec ds hlen
 rw [List.append_nil] at hlt hW0
 refine ⟨ds,[],p,[],p,[],hW0,?_,?_,?_,hb.frame _,fun h=>by cases h⟩
 ·rw [List.append_nil,hs,hrt]
  exact trodAll_mk1 (shut_bool hub true)
 ·rw [List.append_nil,hs]
  exact trodAll_below hl hb _ _ _ _ hpar hA hlt
 ·rw [hvars,List.append_nil,hs]
  rfl
theorem law_lifted_laid {C:Checked} {os:Os} {f:FuncId} {fn:Func} {s:ChangeSpec} {tb:TypeId} {L:List (String × DataW Unit)} (own:ownKnob C.prog.godebug = none) (started:os.Started) (noInit:C.prog.inits.idxOf? f = none) (hfn:C.prog.funcs[f]? = some fn)
  (hl:laidOutB C.prog = true) (hrt:fn.resultTypes = #[tb]) (hub:C.prog.underlying tb = some .bool) (hpar:(fn.params.toList.all fun t=>C.prog.readableRec t && decide (t < C.prog.types.size)) = true) (hvars:s.vars = [])
  (hspec:∀ ds:List (DataW H),ds.length = fn.params.toList.length → s.fn H ds = { results:=[.lit (.bool true)],args:=ds })
  (witness:∃ (w:World) (tape:Tape) (i:Input),w.os = os ∧ (w.forCall tape i).Shaped C.prog ∧ i.vars = [] ∧ Input.okWide C.prog (w.forCall tape i) .any w.heap.size f i ∧
   ((s.pre enc C.prog fn [] false (w.forCall tape i).memory i.args ∧ laidMetH C.prog L (w.forCall tape i).memory) ∧ sizedMet enc C.prog fn (OpenSpec.ofChange s) false (w.forCall tape i).memory i.args) ∧ ({}:Assume).holds C.prog (lone (Frame.enter C.prog f i.args .normal) [] (w.forCall tape i)))
  (contract:∀ (W:World) (base:Nat) (args:List Value) (ds:List (DataW H)) (p:List MemPlace),(∀ (j:Nat) t v,fn.params.toList[j]? = some t → args[j]? = some v → Value.okWide C.prog W .any base t v) →
   DataW.TrodAll enc C.prog W 0 (fun _=>true) true fn.params.toList args ds p → (DataW.weightsEach C.prog fn.params.toList ds).all (· ≤ reachBytes) = true → (∀ x ∈ p,x.block < W.heap.size) →
   laidMetH C.prog L W →
   callM C.prog f args.toArray (fun v W'=>v = .bool true ∧ Below W.heap.size W W') W) :
  ReturnsInHanded {} C os f .any (fun w args=>(s.pre enc C.prog fn [] false w args ∧ laidMetH C.prog L w) ∧ sizedMet enc C.prog fn (OpenSpec.ofChange s) false w args)
   (s.post enc C.prog fn false true false false):=by
 refine returnsInHanded_of_change_and (X:=fun w _=>laidMetH C.prog L w) (fun _ _ _ hh h=>h.of_heap hh) own started noInit hfn witness ?_
 intro W base args ds gs before hval hW _ hsz hX _
 have hW0:=hW
 have hlt:=hW.lt
 obtain ⟨p,q,hA,hV,rfl,_,_⟩:=hW
 rw [hvars] at hV
 obtain ⟨rfl,rfl⟩:=trodVars_none hV
 have hsz':(DataW.weightsEach C.prog fn.params.toList ds).all (· ≤ reachBytes) = true:=by
  simpa [hvars,ChangeSpec.plain,DataSpec.varTypes] using hsz
 have hc:=contract W base args.toList ds p (fun j t v h1 h2=>hval j t v (by simpa using h1) (by simpa using h2)) hA hsz' (fun x hx=>hlt x (by simp [hx])) hX
 refine hc.mono fun e W' h=>?_
 obtain ⟨v,rfl,rfl,hb⟩:=h
 exact ⟨_,rfl,law_post hl hrt hub hpar hvars hspec hW0 hb⟩
end
end Go.Sh
namespace Go.Sh
open Go Go.ChangeShapes Go.WideShapes Go.ChangeAt Go.RowKit Go.Deep
section
variable {H:Type} {enc:TypeId × Value → H} {P:Program} {w:World} {sp:Nat → Bool} {hd:Bool}
theorem addr_add' (b o k:Nat):(⟨b,o,none⟩:Addr).add k = ⟨b,o + k,none⟩:=by
 unfold Addr.add
 split
 ·rename_i h; rw [h]; rfl
 ·rfl
theorem cell_lt {a:Addr} {v:Value} (h:w.cell? a = some v):a.block < w.heap.size ∧ a.spot = none:=by
 unfold World.cell? at h
 split at h
 ·rename_i c t f hh
  refine ⟨(Array.getElem?_eq_some_iff.1 hh).1,?_⟩
  split at h
  ·cases h
  ·rename_i hs
   cases hsp:a.spot with
   | none=>rfl
   | some x=>rw [hsp] at hs; exact absurd rfl hs
 ·cases h
theorem open_fields {e:TypeId} {fs:Array Field} {n:Nat} {cs:List Value} {D:DataW H × List MemPlace} (he:P.underlying e = some (.struct fs)) (hone:oneCellFields P fs = true) (hC:P.cellsOf e = fs.size)
  (h:DataW.trod enc P w 0 sp hd n e cs = some D) :
  cs.length = fs.size ∧ ∀ (j:Nat) (f:Field),fs[j]? = some f → ∃ (v:Value) (y:DataW H × List MemPlace) (m:Nat),cs[j]? = some v ∧ DataW.trod enc P w 0 sp hd m f.type [v] = some y:=by
 obtain ⟨xs,m,_,_,hcl,hxl,hf⟩:=DataW.trod_struct he h
 rw [hC] at hcl
 refine ⟨hcl,fun j f hj=>?_⟩
 obtain ⟨ho,hk⟩:=hone_of hone j f hj
 have hjl:j < fs.size:=(Array.getElem?_eq_some_iff.1 hj).1
 have h1:=hf j f hj
 rw [ho,hk,List.drop_eq_getElem_cons (by omega),gE (by omega:j < xs.length)] at h1
 exact ⟨_,_,m,gE (by omega),h1⟩
end
end Go.Sh
namespace Go.Sh
open Go Go.ChangeShapes Go.WideShapes Go.ChangeAt Go.RowKit Go.Deep
section
variable {H:Type} {enc:TypeId × Value → H} {P:Program} {w:World} {sp:Nat → Bool} {hd:Bool}
theorem rowOpen {α:Type} (mk:α → Value) (Q:α → Prop) {t e:TypeId} {v:Value} {n:Nat} {D:DataW H × List MemPlace} (ht:P.underlying t = some (.slice e)) (hC:P.cellsOf e = 1)
  (hrd:∀ (V:Value) (n:Nat) (D:DataW H × List MemPlace),DataW.trod enc P w 0 sp hd n e [V] = some D → ∃ x,V = mk x ∧ Q x) (h:DataW.trod enc P w 0 sp hd n t [v] = some D) :
  ∃ l:List α,(∃ ad c,v = .slice ad l.length c ∧ (l = [] ∨ ∃ b o,ad = some ⟨b,o,none⟩ ∧ b < w.heap.size ∧ ∀ (i:Nat) (h:i < l.length),w.cell? ⟨b,o + i,none⟩ = some (mk l[i]))) ∧ l.length ≤ maxLen ∧ ∀ x ∈ l,Q x:=by
 rcases open_slice1 ht hC h with ⟨hcs,_⟩ | ⟨a',len,cap,m,n',V,D',Pl,hcs,_,hl,hm,hmm,_,hi⟩
 ·simp only [List.cons.injEq,and_true] at hcs
  subst hcs
  exact ⟨[],⟨none,0,rfl,.inl rfl⟩,by simp,by simp⟩
 ·simp only [List.cons.injEq,and_true] at hcs
  subst hcs
  have hml:len ≤ m:=by rw [hmm]; split <;> omega
  have key:∀ i:Fin len,∃ x,V i = mk x ∧ Q x:=fun i=>hrd _ _ _ (hi i (by have:=i.2; omega)).2
  refine ⟨List.ofFn (fun i=>(key i).choose),⟨some a',cap,by rw [List.length_ofFn],?_⟩,by rw [List.length_ofFn]; omega,?_⟩
  ·by_cases h0:len = 0
   ·left; subst h0; rfl
   ·right
    have h00:=(hi 0 (by omega)).1
    have e0:a'.add 0 = a':=by simp [Addr.add]
    rw [e0] at h00
    obtain ⟨hb,hs⟩:=cell_lt h00
    obtain ⟨b,o,s⟩:=a'
    simp only at hs hb
    subst hs
    refine ⟨b,o,rfl,hb,fun i hil=>?_⟩
    rw [List.length_ofFn] at hil
    have h1:=(hi i (by omega)).1
    rw [addr_add'] at h1
    rw [h1,List.getElem_ofFn]
    have:=(key ⟨i,hil⟩).choose_spec.1
    exact congrArg some this
  ·intro x hx
   rw [List.mem_ofFn] at hx
   obtain ⟨i,rfl⟩:=hx
   exact (key i).choose_spec.2
theorem trodIface {t:TypeId} {ms:Array (String × TypeId)} {cs:List Value} {n:Nat} {nm:String} {d:DataW H} {ps:List MemPlace} (ht:P.underlying t = some (.interface ms)) (h:DataW.trod enc P w 0 sp false n t cs = some (.iface nm d,ps)):∃ u v,cs = [.iface u v]:=by
 cases n with
 | zero=>simp [DataW.trod] at h
 | succ n=>
  unfold DataW.trod at h
  rw [ht] at h
  match cs,h with
  | [.iface u v],_=>exact ⟨u,v,rfl⟩
  | [.nilIface],h=>simp at h
  | [],h=>simp at h
  | [.int _ _],h=>simp at h
  | [.bool _],h=>simp at h
  | [.string _],h=>simp at h
  | [.pointer _],h=>simp at h
  | [.slice _ _ _],h=>simp at h
  | [.map _],h=>simp at h
  | [.float _ _],h=>simp at h
  | [.complex _ _ _],h=>simp at h
  | [.agg _],h=>simp at h
  | [.tuple _],h=>simp at h
  | [.func _ _ _],h=>simp at h
  | [.nilFunc],h=>simp at h
  | [.chan _],h=>simp at h
  | _ :: _ :: _,h=>simp at h
end
end Go.Sh
namespace Go.Proofs
open Go Go.Sh Go.RowKit Go.Lib CodeSpec TkSpec FdSpec PrSpec Go.ChangeShapes Go.WideShapes Go.ChangeAt Go.Deep
abbrev laidList:List (String × DataW Unit):=YtlmhhgemiknhdaaGreatDoor.Rows.proofSignsRow.laid
abbrev lname (i:Nat):String:=(laidList.map (·.1)).getD i default
theorem var_of_laid {W:World} {nm:String} {d:DataW Unit} (hf:(laidList.filter fun x=>x.1 == nm) = [(nm,d)]) (h:laidMetH Tryz.prog laidList W):laidMet Tryz.prog [(nm,d)] W:=by
 rw [MakeChecks.laidMetH_plain _ _ _ (by kernel_rfl)] at h
 have:=h.filter (fun x=>x.1 == nm)
 rwa [hf] at this
theorem tab_laid {W:World} (h:laidMetH Tryz.prog laidList W):TabIs Tryz.prog W tabName .u64 pow10Tab:=
 tabIs_of_head (rest:=[]) (t:=261) (e:=150) (n:=20) Cd.gTab (by kernel_rfl) Tryz.underlying261 Tryz.underlying150 (by kernel_rfl) (by kernel_rfl)
  (var_of_laid (d:=tabData .u64 pow10Tab) (by kernel_rfl) h)
theorem gDb:Tryz.prog.globalNamed (lname 1) = some 2:=by kernel_rfl
theorem db_laid {W:World} (h:laidMetH Tryz.prog laidList W):TabIs Tryz.prog W (lname 1) .u8 (Lib.deBruijn64tab.map (fun n:Nat=>(n:Int))):=
 tabIs_of_head (rest:=[]) (t:=244) (e:=5) (n:=64) gDb (by kernel_rfl) Tryz.underlying244 Tryz.underlying5 (by kernel_rfl) (by kernel_rfl)
  (var_of_laid (d:=tabData .u8 (Lib.deBruijn64tab.map (fun n:Nat=>(n:Int)))) (by kernel_rfl) h)
theorem db_of {W:World} (h:laidMetH Tryz.prog laidList W):DbT W:=by
 have ht:=db_laid h
 have hl:(Lib.deBruijn64tab.map (fun n:Nat=>(n:Int))).length = 64:=by decide +kernel
 have hc:∀ j,j < 64 → W.cell? ⟨2,j,none⟩ = some (.int .u8 (Lib.deBruijn64tab.getD j 0:Nat)):=fun j hj=>by
  rw [ht.cell gDb j (by omega)]
  have:(Lib.deBruijn64tab.map (fun n:Nat=>(n:Int))).getD j 0 = ((Lib.deBruijn64tab.getD j 0:Nat):Int):=by
   rw [List.getD_eq_getElem?_getD,List.getD_eq_getElem?_getD,List.getElem?_map]
   cases Lib.deBruijn64tab[j]? <;> rfl
  rw [this]
 refine ⟨?_,hc⟩
 have h0:=hc 0 (by omega)
 by_cases hlt:2 < W.heap.size
 ·exact hlt
 ·unfold World.cell? at h0
  rw [Array.getElem?_eq_none (by show W.heap.size ≤ 2; omega)] at h0
  simp at h0
theorem err_laid {W:World} {nm:String} {x:DataW Unit} {g:Nat} (hg:Tryz.prog.globalNamed nm = some g) (hty:(Tryz.prog.globals[g]?).map (·.type) = some 215) (hf:(laidList.filter fun x=>x.1 == nm) = [(nm,x)]) (hx:∃ nt d,x = .iface nt d) (h:laidMetH Tryz.prog laidList W) :
  ∃ te pe,W.cell? ⟨g,0,none⟩ = some (.iface te pe):=by
 obtain ⟨nt,d,rfl⟩:=hx
 obtain ⟨ps,⟨g0,t0,cs0,f0,p0,q0,hg0,ht0,hv0,hd0,_,_⟩,_,_⟩:=var_of_laid hf h
 obtain rfl:=Option.some.inj (hg.symm.trans hg0)
 obtain rfl:=Option.some.inj (hty.symm.trans ht0)
 obtain ⟨u,y,hcs⟩:=trodIface Tryz.underlying215 hd0
 have:=World.var?_cell hg hv0 0
 refine ⟨u,y,?_⟩
 rw [this]
 have e:cs0[0]? = cs0.toList[0]?:=by simp
 rw [e,hcs]; rfl
theorem heap8 {W:World} (h:laidMetH Tryz.prog laidList W):8 ≤ W.heap.size:=by
 obtain ⟨ps,⟨g0,t0,cs0,f0,p0,q0,hg0,ht0,hv0,hd0,_,_⟩,_,_⟩:=var_of_laid (nm:=lname 0) (d:=YtlmhhgemiknhdaaGreatDoor.Rows.laid_math_bits_deBruijn32tab) (by kernel_rfl) h
 have hg:Tryz.prog.globalNamed (lname 0) = some 7:=by kernel_rfl
 unfold World.var? at hv0
 rw [hg] at hv0
 simp only [Option.bind_some] at hv0
 split at hv0
 ·rename_i cs t f hh
  have:=(Array.getElem?_eq_some_iff.1 hh).1
  omega
 ·cases hv0
theorem laid_of {W:World} (h:laidMetH Tryz.prog laidList W):Cd.LaidE W:=
 ⟨⟨tab_laid h,heap8 h⟩,err_laid (nm:=lname 4) (x:=YtlmhhgemiknhdaaGreatDoor.Rows.laid_strconv_ErrSyntax) (by kernel_rfl) (by kernel_rfl) (by kernel_rfl) ⟨_,_,rfl⟩ h,err_laid (nm:=lname 3) (x:=YtlmhhgemiknhdaaGreatDoor.Rows.laid_strconv_ErrRange) (by kernel_rfl) (by kernel_rfl) (by kernel_rfl) ⟨_,_,rfl⟩ h⟩
theorem ba_of1 (s:ByteArray):s = ⟨s.data.toList.toArray⟩:=by cases s; rfl
theorem ba_len (s:ByteArray):s.data.toList.length = s.size:=by simp
theorem own:ownKnob Tryz.prog.godebug = none:=by kernel_rfl
theorem laidOut:laidOutB Tryz.prog = true:=by kernel_rfl
theorem door_met (os:Os) (args:Array Value):laidMetH Tryz.prog laidList ((World.doorLaid Tryz.prog 400 os).forCall (fun _ _=>0) ⟨#[],args,[]⟩).memory:=
 laidMetH_of_parts3 (fuel:=8) (laidMet_of_run' 8 (by kernel_rfl) (by kernel_rfl)) (by kernel_rfl) (by kernel_rfl)
theorem intR {n:Int} (h:(Lit.int .i64 n).wf = true):I64 n:=by
 simp only [Lit.wf,Bool.and_eq_true,decide_eq_true_eq] at h
 exact (InR_iff n).1 h
section
variable {H:Type} {enc:TypeId × Value → H} {w:World} {sp:Nat → Bool} {hd:Bool}
theorem ints_of_row {v:Value} {l:List Int} (h:∃ ad c,v = .slice ad l.length c ∧ (l = [] ∨ ∃ b o,ad = some ⟨b,o,none⟩ ∧ b < w.heap.size ∧ ∀ (i:Nat) (h:i < l.length),w.cell? ⟨b,o + i,none⟩ = some (Value.int .i64 l[i]))) (h0:∀ c,v = .slice none l.length c → l.length = 0 ∧ c = 0) (hl:l.length ≤ maxLen) (hr:∀ x ∈ l,I64 x):Ints w v l:=by
 obtain ⟨ad,c,rfl,h⟩:=h
 refine ⟨⟨ad,c,rfl,fun e=>?_,?_⟩,hr,hl⟩
 ·subst e
  exact h0 c rfl
 ·rcases h with h | ⟨b,o,rfl,hlt,hc⟩
  ·exact .inl h
  ·refine .inr ⟨b,o,rfl,hlt,fun k x hk=>?_⟩
   rw [flat_int] at hk
   obtain ⟨hk1,hk2⟩:=gS hk
   have hk1:k < l.length:=by rw [List.length_map] at hk1; exact hk1
   rw [hc k hk1,← hk2,List.getElem_map]
theorem nil_len {t:TypeId} {n m:Nat} {c:Nat} {D:DataW H × List MemPlace} (ht:Tryz.prog.underlying t = some (.slice 3)) (h:DataW.trod enc Tryz.prog w 0 sp hd n t [.slice none m c] = some D):m = 0 ∧ c = 0:=by
 rcases open_slice1 ht (by kernel_rfl) h with ⟨hcs,_⟩ | ⟨a',len,cap,m,n',V,D',Pl,hcs,_⟩
 ·simp only [List.cons.injEq,and_true,Value.slice.injEq] at hcs
  exact hcs.2
 ·simp only [List.cons.injEq,and_true,Value.slice.injEq] at hcs
  exact absurd hcs.1 (by simp)
theorem open_ints {v:Value} {n:Nat} {D:DataW H × List MemPlace} (h:DataW.trod enc Tryz.prog w 0 sp hd n 24 [v] = some D):∃ l,Ints w v l:=by
 have h':=h
 obtain ⟨l,h1,h2,h3⟩:=rowOpen (Value.int .i64) I64 Tryz.underlying24 (by kernel_rfl) (fun V n D h=>by
  obtain ⟨k,e,_,hw⟩:=DataW.trod_int Tryz.underlying3 h
  simp only [List.cons.injEq,and_true] at e
  exact ⟨k,e,intR hw⟩) h
 exact ⟨l,ints_of_row h1 (fun c e=>by subst e; exact nil_len Tryz.underlying24 h') h2 h3⟩
theorem open_list {b0:Nat} {v:Value} {d:DataW H} {ps:List MemPlace} (hval:Value.okWide Tryz.prog w .any b0 24 v) (h:DataW.Trod enc Tryz.prog w 0 sp hd 24 v d ps):∃ l,Ints w v l:=by
 obtain ⟨a,n,c,rfl⟩:=okWide_slice Tryz.underlying24 hval
 obtain ⟨fu,hf⟩:=h
 exact open_ints hf
theorem open_grp {cs:List Value} {n:Nat} {D:DataW H × List MemPlace} (h:DataW.trod enc Tryz.prog w 0 sp hd n 23 cs = some D):∃ g:Grp,cs = [.int .i64 g.P,.int .i64 g.Q,.int .i64 g.G] ∧ GrpR g:=by
 obtain ⟨hcl,hf⟩:=open_fields Tryz.underlying23 (by kernel_rfl) (by kernel_rfl) h
 obtain ⟨v0,y0,m0,c0,f0⟩:=hf 0 _ rfl
 obtain ⟨v1,y1,m1,c1,f1⟩:=hf 1 _ rfl
 obtain ⟨v2,y2,m2,c2,f2⟩:=hf 2 _ rfl
 obtain ⟨k0,e0,_,w0⟩:=DataW.trod_int Tryz.underlying3 f0
 obtain ⟨k1,e1,_,w1⟩:=DataW.trod_int Tryz.underlying3 f1
 obtain ⟨k2,e2,_,w2⟩:=DataW.trod_int Tryz.underlying3 f2
 simp only [List.cons.injEq,and_true] at e0 e1 e2
 have h6:cs.length = 3:=hcl
 refine ⟨⟨k0,k1,k2⟩,?_,⟨intR w0,intR w1,intR w2⟩⟩
 match cs,h6 with
 | [x0,x1,x2],_=>
  simp only [List.getElem?_cons_zero,List.getElem?_cons_succ,Option.some.injEq] at c0 c1 c2
  rw [c0,c1,c2,e0,e1,e2]
theorem cells_stp:Tryz.prog.cellsOf 26 = 5:=by kernel_rfl
theorem cells_grp:Tryz.prog.cellsOf 23 = 3:=by kernel_rfl
theorem cells_ints:Tryz.prog.cellsOf 24 = 1:=by kernel_rfl
theorem cells_int:Tryz.prog.cellsOf 3 = 1:=by kernel_rfl
theorem open_stp {b0:Nat} {v:Value} {d:DataW H} {ps:List MemPlace} (hT:DbT w) (hval:Value.okWide Tryz.prog w .any b0 26 v) (h:DataW.Trod enc Tryz.prog w 0 sp hd 26 v d ps):∃ s x,v = stpV s x ∧ SetR w s x:=by
 obtain ⟨cs,rfl,hs⟩:=okWide_struct Tryz.underlying26 hval
 obtain ⟨fuel,hf⟩:=h
 have hf:DataW.trod enc Tryz.prog w 0 sp hd fuel 26 cs.toList = some (d,ps):=hf
 obtain ⟨xs,m,_,_,hcl,hxl,hf⟩:=DataW.trod_struct Tryz.underlying26 hf
 rw [cells_stp] at hcl
 have hcs:cs = cs.toList.toArray:=by simp
 rw [hcs]
 clear hs hcs
 generalize cs.toList = l at *
 have hxl:xs.length = 3:=hxl
 match l,hcl,xs,hxl with
 | [x0,x1,x2,x3,x4],_,[y0,y1,y2],_=>
  have f0:DataW.trod enc Tryz.prog w 0 sp hd m 23 (([x0,x1,x2,x3,x4].drop 0).take (Tryz.prog.cellsOf 23)) = some y0:=hf 0 _ rfl
  have f1:DataW.trod enc Tryz.prog w 0 sp hd m 24 (([x0,x1,x2,x3,x4].drop 3).take (Tryz.prog.cellsOf 24)) = some y1:=hf 1 _ rfl
  have f2:DataW.trod enc Tryz.prog w 0 sp hd m 3 (([x0,x1,x2,x3,x4].drop 4).take (Tryz.prog.cellsOf 3)) = some y2:=hf 2 _ rfl
  rw [cells_grp] at f0
  rw [cells_ints] at f1
  rw [cells_int] at f2
  obtain ⟨g,eg,hg⟩:=open_grp f0
  obtain ⟨l3,h3⟩:=open_ints f1
  obtain ⟨k4,e4,_,w4⟩:=DataW.trod_int Tryz.underlying3 f2
  simp only [List.drop_zero,List.take_succ_cons,List.take_zero,List.drop_succ_cons,List.cons.injEq,and_true] at eg e4
  obtain ⟨e0,e1,e2⟩:=eg
  exact ⟨⟨g,l3,k4⟩,x3,by rw [e0,e1,e2,e4],⟨hg,h3,intR w4,hT⟩⟩
end
end Go.Proofs
namespace Go.Proofs
open Go Go.Sh Go.RowKit FdSpec TkSpec CodeSpec PrSpec
section
variable {K:VK} {w w' w0 W:World} {L:List (Addr × Value)}
theorem cls_appendL {B:Nat} {D:Nat → Prop} {v u:Value} {l:List Cls} {x:Cls} {T:TypeId} (h:ClsG B D w v l) (hB:B ≤ w.heap.size) (hx:LitF 65 W w x u) (hD:Off D w v) (hvW:∀ i,v.ownBlock = some i → i < W.heap.size) (hl:l.length < 1099511627776)
  (k:∀ v' w' D',ClsG B D' w' v' (l ++ [x]) → w.grownBy w' v.ownBlock → (∀ i,v'.ownBlock = some i → v.ownBlock = some i ∨ w.heap.size ≤ i) → Off D' w' v' → (∀ i,D' i → D i ∨ W.heap.size ≤ i) → K v' w') :
  oM Tryz.prog (.call { callee:=.builtin .append,args:=#[.tmp 0,.tmp 1],argTypes:=#[27,27] }) T [v,u] K w:=by
 obtain ⟨g,ad,c,rfl,hg,hh,hf⟩:=hx
 refine grow_append (D:=fun i=>D i ∨ (W.heap.size ≤ i ∧ i < w.heap.size)) 27 T ((Tryz.prog.info? 65).getD default) (((Tryz.prog.info? 65).getD default).zero.getD undef) 32 (by kernel_rfl) (by kernel_rfl) (by kernel_rfl) (by kernel_rfl) (by kernel_rfl) (by kernel_rfl) (by decide) (by decide)
  (h.mono fun i hi=>.inl hi) hB (xs:=clsC x (.slice ad x.claims.length c)) rfl ?_ (cls_one _ _ _ _) ((hf.imp fun w h=>⟨_,rfl,h⟩).mono fun i hi=>.inr hi) ?_ hl ?_
 ·intro j u hj
  rw [cell_of_block hh]
  simpa using hj
 ·rintro i (hi | hi)
  ·exact hD i hi
  ·exact ⟨hi.2,fun e=>by have:=hvW i e; omega⟩
 ·intro v' w' h1 h2 h3 h4
  exact k v' w' _ h1 h2 h3 h4 (fun i hi=>hi.imp id And.left)
def BtL (s:Stp) (l:List Int) (w0:World) (vs:List Value) (w':World):Prop:=Bw w0 w' ∧ ∃ (u1 rv:Value) (i:Nat) (D:Nat → Prop),vs = [u1,rv,.int .i64 (i:Int)] ∧ i ≤ l.length ∧ ClsG w0.heap.size D w' rv ((l.map (bitC s)).take i) ∧ Off D w' rv ∧ ∀ j,D j → w0.heap.size ≤ j
theorem BitsL_ok (s:Stp) (l:List Int) {sv lv:Value} (hs:SetR w s sv) (hl:Ints w lv l) (k:∀ w' v D,Bw w w' → ClsG w.heap.size D w' v (bitsM s l) → Off D w' v → (∀ j,D j → w.heap.size ≤ j) → K v w'):callM Tryz.prog 68 #[stpV s sv,lv] K w:=by
 apply sh_68_ok
 unfold sh_68
 have hs':=hs
 obtain ⟨ad,c,rfl⟩:=hs.ints.isSlice
 have hl':=hl
 obtain ⟨lad,lc,rfl⟩:=hl.isSlice
 refine box_kn (cs:=stpC s (.slice ad s.bases.length c)) rfl (.start w) fun b1 W hk hb1 hbb=>?_
 clear hb1 hbb
 repeat (any_goals ((with_reducible refine oG fun Kv hK=>?_); simp [go_sem,hk.cells]; refine hK _ _ ?_; clear hK Kv))
 refine Weigh_ok s l (hs'.next hk.below) (hl'.next hk.below) (fun w2 h2=>?_)
 have hk:=hk.next h2
 unfold bitsM at k
 cases hw:(weighM s l).2 with
 | false=>
  rw [hw] at k
  repeat (any_goals (first
  | (with_reducible refine yL ?_)
  | ((with_reducible refine oG fun Kv hK=>?_); simp [go_sem]; refine hK _ _ ?_; clear hK Kv)))
  exact k _ _ (fun _=>False) hk.below .nil (fun i h=>h.elim) (fun i h=>h.elim)
 | true=>
 rw [hw,if_pos rfl] at k
 have h60:l.length ≤ 60:=by
  unfold weighM at hw
  split at hw
  ·rename_i h
   simp only [Bool.and_eq_true,decide_eq_true_eq] at h
   exact h.1.2
  ·cases hw
 repeat (any_goals (first
 | (with_reducible refine yM ?_)
 | ((with_reducible refine oG fun Kv hK=>?_); simp [go_sem,hk.cells]; refine hK _ _ ?_; clear hK Kv)))
 refine ⟨BtL s l w2,(fun vs _=>match vs with | [_,_,.int _ i]=>l.length - i.toNat | _=>0),⟨Below.refl _ _,_,_,0,fun _=>False,rfl,by omega,.nil,(fun i h=>h.elim),fun i h=>h.elim⟩,?_⟩
 rintro _ _ w3 ⟨hb3,u1,rv,i,D,rfl,hi,hg,hD,hDl⟩
 have hk3:=hk.next hb3
 by_cases hin:i = l.length
 ·rw [List.take_of_length_le (by rw [List.length_map]; omega)] at hg
  repeat (any_goals (first
  | (with_reducible refine yO ?_)
  | ((with_reducible refine oG fun Kv hK=>?_); simp [go_sem]; refine hK _ _ ?_; clear hK Kv)))
  exact k _ _ D hk3.below (hg.base hk.below.size) hD (fun i hi=>Nat.le_trans hk.below.size (hDl i hi))
 obtain ⟨b8,o8,rfl,hb8',ca,ra,_⟩:=hl'.at (i:=i) (by omega)
 repeat (any_goals (first
 | (with_reducible refine yN ?_)
 | ((with_reducible refine oG fun Kv hK=>?_); simp [go_sem,ca _ hk3.below]; (first|refine hK _ _ ?_|refine And.intro (by omega) (hK _ _ ?_)); clear hK Kv)))
 have hk4:=hk3.drew
 have hg4:=hg.next (w':={ w3 with drawn:=w3.drawn + 1 }) .drawn (fun i hi=>(hD i hi).1)
 have hD4:Off D { w3 with drawn:=w3.drawn + 1 } rv:=hD
 have hrl:∀ i,rv.ownBlock = some i → i < ({ w3 with drawn:=w3.drawn + 1 }:World).heap.size:=fun i hi=>(hg4.own hi).1
 have hb4:Below w2.heap.size w2 { w3 with drawn:=w3.drawn + 1 }:=hb3.on .drawn
 refine ⟨Nx { w3 with drawn:=w3.drawn + 1 },Below.refl _ _,rfl,?_⟩
 generalize ({ w3 with drawn:=w3.drawn + 1 }:World) = W4 at hk4 hg4 hrl hb4 hD4 ⊢
 repeat (any_goals (first
 | (with_reducible refine pX ?_)
 | ((with_reducible refine idOH ?_); (with_reducible refine oH_of ⟨_,rfl⟩ (fun W0 hW0=>by (refine oG (fun Kv hK=>?_)); simp [go_sem,(hk4.next hW0).cells]; (first | exact hK _ _ ⟨rfl,rfl⟩ | exact ⟨by omega,hK _ _ ⟨rfl,rfl⟩⟩)) ?_))))
 refine ⟨Nx,?_⟩
 refine monoR (fun v w'=>ClmF W4 w' (blindedM s l[i]) v) (fun v w w1 hS h=>h.next hS) ?_ ?_
 ·intro w1 h1
  exact blinded_ok s l[i] (hs'.next (hk4.next h1).below) ra (fun w' v hb hf=>⟨h1.on hb,hb,hf.up h1.size⟩)
 apply monoE
 ·intro w1 h1
  exact Over_ok s.g l[i] s.g.G (fun w2 h2=>⟨h1.on h2,h2,rfl⟩)
 refine monoR (fun v w'=>ClmF W4 w' (blindedM s (overG s.g l[i] s.g.G)) v) (fun v w w1 hS h=>h.next hS) ?_ ?_
 ·rintro w1 h1 _ rfl
  exact blinded_ok s _ (hs'.next (hk4.next h1).below) (overG_I64 _ _ _) (fun w' v hb hf=>⟨h1.on hb,hb,hf.up h1.size⟩)
 refine monoR (fun v w'=>RowF 2 VClm W4 w' (bitC s l[i]).claims v) (fun v w w1 hS h=>h.next hS) ?_ ?_
 ·intro w1 h1 v1 hv1 v2 hv2
  exact two_clm hv1 hv2 (fun v w' hb hr=>⟨h1.on hb,hb,hr⟩) h1.size
 refine monoR (fun v w'=>ClsF W4 w' (bitC s l[i]) v) (fun v w w1 hS h=>h.next hS) ?_ ?_
 ·intro w1 h1 v1 hv1
  obtain ⟨ad,c,rfl⟩:=hv1.1
  rw [build_cls]
  exact ⟨h1,Below.refl _ _,cls_of rfl hv1⟩
 refine monoR (fun v w'=>LitF 65 W4 w' (bitC s l[i]) v) (fun v w w1 hS h=>h.next hS) ?_ ?_
 ·intro w1 h1 v1 hv1
  exact lit_of hv1 h1.size (fun v w' hb hr=>⟨h1.on hb,hb,hr⟩)
 rintro w9 h9 v1 _ _ rfl v2 _ v3 _ v4 _ v5 hv5
 refine cls_appendL (hg4.next h9 (fun i hi=>(hD4 i hi).1)) (Nat.le_trans hb4.size h9.size) hv5 (hD4.next h9.size) hrl (by rw [List.length_take,List.length_map]; omega) (fun v6 w6 D6 hg6 hb6 hv6 hD6 hL6=>?_)
 have e:(l.map (bitC s)).take i ++ [bitC s l[i]] = (l.map (bitC s)).take (i + 1):=by
  rw [List.take_add_one,List.getElem?_map,gE (show i < l.length by omega)]
  rfl
 rw [e] at hg6
 repeat (any_goals ((with_reducible refine oG fun Kv hK=>?_); simp [go_sem]; (try simp (disch:=omega) only [wrapI64,wrapU8,wrapU32,wrapU64]); refine hK _ _ ?_; clear hK Kv))
 exact ⟨⟨(hb4.on h9).grown hb6 (hb4.on h9).size (fun j hj=>(hg4.own hj).2),_,_,i + 1,D6,rfl,by omega,hg6,hD6,fun j hj=>(hL6 j hj).elim (hDl j) (Nat.le_trans hb4.size)⟩,by show l.length - (((i + 1:Nat):Int)).toNat < l.length - ((i:Nat):Int).toNat; omega⟩
theorem RangeL_ok (s:Stp) (x:Int) (l:List Int) {sv lv:Value} (hs:SetR w s sv) (hx:I64 x) (hl:Ints w lv l) (k:∀ w' v E,Bw w w' → FP E w' (fun w=>GoalR w v (PrSpec.rangeM s x l)) → (∀ i,E i → w.heap.size ≤ i ∧ i < w'.heap.size) → K v w'):callM Tryz.prog 40 #[stpV s sv,.int .i64 x,lv] K w:=by
 apply sh_40_ok
 unfold sh_40
 have hs':=hs
 obtain ⟨ad,c,rfl⟩:=hs.ints.isSlice
 have hl':=hl
 obtain ⟨lad,lc,rfl⟩:=hl.isSlice
 refine box_kn (cs:=stpC s (.slice ad s.bases.length c)) rfl (.start w) fun b1 W hk hb1 hbb=>?_
 clear hb1 hbb
 repeat (any_goals ((with_reducible refine oG fun Kv hK=>?_); simp [go_sem,hk.cells]; refine hK _ _ ?_; clear hK Kv))
 refine Weigh_ok s l (hs'.next hk.below) (hl'.next hk.below) (fun w2 h2=>?_)
 have hk:=hk.next h2
 unfold PrSpec.rangeM at k
 cases hw:(weighM s l).2 with
 | false=>
  rw [hw,Bool.false_and] at k
  repeat (any_goals (first
  | (with_reducible first|refine zD ?_|refine yB ?_|refine yL ?_)
  | ((with_reducible refine oG fun Kv hK=>?_); simp [go_sem]; refine hK _ _ ?_; clear hK Kv)))
  exact k _ _ (fun _=>False) hk.below (fun _ _ _ _ _ _=>SRow.nil) (fun i h=>h.elim)
 | true=>
 rw [hw,Bool.true_and] at k
 repeat (any_goals (first
 | (with_reducible first|refine pureM_in ?_|refine zC ?_)
 | ((with_reducible refine oG fun Kv hK=>?_); simp [go_sem,hk.cells]; refine hK _ _ ?_; clear hK Kv)))
 refine Element_ok s.g _ hs'.grp (hs'.db.next hk.below) (fun w4 h4=>?_)
 have hk:=hk.next h4
 cases hel:elemG s.g x with
 | false=>
  rw [hel] at k
  repeat (any_goals (first
  | (with_reducible first|refine zC ?_|refine yC ?_|refine yL ?_)
  | ((with_reducible refine oG fun Kv hK=>?_); simp [go_sem]; refine hK _ _ ?_; clear hK Kv)))
  exact k _ _ (fun _=>False) hk.below (fun _ _ _ _ _ _=>SRow.nil) (fun i h=>h.elim)
 | true=>
 rw [hel,if_pos rfl] at k
 generalize (weighM s l).1 = wt at *
 repeat (any_goals (first
 | (with_reducible first|refine zC ?_|refine yC ?_|refine yM ?_)
 | ((with_reducible refine oG fun Kv hK=>?_); simp [go_sem]; refine hK _ _ ?_; clear hK Kv)))
 have hk4:=hk.drew
 refine ⟨Nx { w4 with drawn:=w4.drawn + 1 },Below.refl _ _,rfl,?_⟩
 generalize ({ w4 with drawn:=w4.drawn + 1 }:World) = W4 at hk4 ⊢
 repeat (any_goals (first
 | (with_reducible refine pX ?_)
 | ((with_reducible refine idOH ?_); (with_reducible refine oH_of ⟨_,rfl⟩ (fun W0 hW0=>by (refine oG (fun Kv hK=>?_)); simp [go_sem,(hk4.next hW0).cells]; (first | exact hK _ _ ⟨rfl,rfl⟩ | exact ⟨by omega,hK _ _ ⟨rfl,rfl⟩⟩)) ?_))))
 refine ⟨Nx,?_⟩
 refine monoR (fun v w'=>∃ D,ClsG W4.heap.size D w' v (bitsM s l) ∧ Off D w' v ∧ ∀ j,D j → W4.heap.size ≤ j) (fun v w w1 hS h=>h.imp fun D h=>⟨h.1.next hS (fun i hi=>(h.2.1 i hi).1),h.2.1.next hS.size,h.2.2⟩) ?_ ?_
 ·intro w1 h1
  refine BitsL_ok s l (hs'.next (hk4.next h1).below) (hl'.next (hk4.next h1).below) (fun w' v D hb hg hD hL=>⟨h1.on hb,hb,D,hg.base h1.size,hD,fun j hj=>Nat.le_trans h1.size (hL j hj)⟩)
 apply monoE
 ·intro w1 h1
  exact Over_ok s.g x wt (fun w2 h2=>⟨h1.on h2,h2,rfl⟩)
 rintro w9 h9 v1 ⟨D,hg,hD,hDl⟩ _ rfl
 have hk9:=hk4.next h9
 refine blinded_ok s (overG s.g x wt) (hs'.next hk9.below) (overG_I64 _ _ _) (fun w10 v hb10 hf=>?_)
 refine one_clm hf (fun v11 w11 h11 hr11=>?_) hb10.size
 obtain ⟨ad11,c11,rfl⟩:=hr11.1
 rw [show ([blindedM s (overG s.g x wt)]:List Clm).length = 1 from rfl] at *
 rw [build_cls]
 have hc:ClsF w9 w11 (lastC s x wt) (.agg #[.int .i64 1,.slice ad11 1 c11]):=cls_of rfl hr11
 refine lit_of hc (Nat.le_trans hb10.size h11.size) (fun v12 w12 h12 hl12=>?_)
 have hb12:=(hb10.on h11).on h12
 refine cls_appendL (hg.next hb12 (fun i hi=>(hD i hi).1)) (Nat.le_trans h9.size hb12.size) hl12 (hD.next hb12.size) (fun i hi=>(hg.own hi).1) (by have:=bitsM_len (s:=s) (l:=l); omega) (fun v13 w13 D13 hg13 hb13 hv13 hD13 hL13=>?_)
 have hk12:=(hk9.next hb12).below
 have hs4:=hk4.below.size
 have hs9:=h9.size
 refine k _ _ _ (hk12.grown hb13 hk12.size (fun j hj=>Nat.le_trans hk4.below.size (hg.own hj).2)) (hg13.fp (by decide) ?_) ?_
 ·rw [List.length_append,List.length_singleton]
  have:=bitsM_len (s:=s) (l:=l)
  omega
 ·rintro j (hj | hj)
  ·refine ⟨?_,(hD13 j hj).1⟩
   rcases hL13 j hj with h | h
   ·have:=hDl j h; omega
   ·omega
  ·have h1:=(hg13.own hj).1
   have h2:=(hg13.own hj).2
   exact ⟨by omega,h1⟩
end
end Go.Proofs
namespace PrSpec
open FdSpec TkSpec CodeSpec FdPoly GrLaw
theorem prod_cg {g:Grp} (h:Gv g) {bs es:List Int} (hl:bs.length = es.length):Cg g.P (prodG g bs es).1 (PX g (bs.zip es)) ∧ 0 ≤ (prodG g bs es).1 ∧ (prodG g bs es).1 < g.P:=by
 have hp:=h.okP
 have hq:=h.okQ
 have hp0:0 < g.P:=by have:=hp.1; omega
 unfold prodG
 rw [if_pos ⟨hp,hq,hl⟩]
 have h1:=prodL_cg h (bs.zip es) (1 % g.P)
 have h2:=prodL_range h (bs.zip es) (1 % g.P) ⟨Int.emod_nonneg _ (by omega),Int.emod_lt_of_pos _ hp0⟩
 refine ⟨h1.trans ?_,h2⟩
 have:=(Cg.mod g.P 1).mul (Cg.refl g.P (PX g (bs.zip es)))
 rwa [Int.one_mul] at this
theorem zip_wt:∀ (l:List Bt) (k:Nat),(l.map Bt.x).zip ((List.range l.length).map fun i=>(2:Int) ^ (k + i)) = wtL k l
 | [],k=>rfl
 | t :: l,k=>by
  have ih:=zip_wt l (k + 1)
  rw [List.length_cons,List.range_succ_eq_map]
  simp only [List.map_cons,List.zip_cons_cons,wtL,Nat.add_zero,List.map_map]
  congr 1
  rw [← ih]
  congr 2
  funext i
  show (2:Int) ^ (k + (i + 1)) = 2 ^ (k + 1 + i)
  rw [show k + 1 + i = k + (i + 1) by omega]
theorem blind_el {s:Stp} (hv:validS s = true):El s.g s.blind:=by
 have hg:=gv_setup hv
 unfold validS at hv
 simp only [Bool.and_eq_true] at hv
 have:=hv.2
 unfold otherM at this
 simp only [Bool.and_eq_true] at this
 exact (El.of_elem hg this.2).1
theorem weigh_eq {s:Stp} {bits:List Int} (h:(weighM s bits).2 = true):validS s = true ∧ (weighM s bits).1 = (prodG s.g bits (pows bits.length)).1:=by
 unfold weighM at h ⊢
 split
 ·rename_i hc
  simp only [Bool.and_eq_true] at hc
  exact ⟨hc.1.1.1,rfl⟩
 ·rename_i hc
  rw [if_neg hc] at h
  cases h
end PrSpec
namespace PrSpec
open FdSpec TkSpec CodeSpec FdPoly GrLaw
theorem elem_mk {g:Grp} (h:Gv g) (hv:validG g = true) {x:Int} (hx:El g x) (h0:0 ≤ x ∧ x < g.P):elemG g x = true:=by
 have hp:1 < g.P:=by have:=h.p; have:=h.q0; omega
 have e:pw g.P x g.Q.toNat = 1:=by
  have:=hx.emod
  rw [Int.emod_eq_of_lt (by omega:(0:Int) ≤ 1) hp] at this
  exact this
 have hx0:x ≠ 0:=by
  rintro rfl
  have h1:(0:Int) ^ g.Q.toNat % g.P = 1:=e
  rw [Int.zero_pow (by have:=h.q0; omega)] at h1
  simp at h1
 unfold elemG
 simp only [Bool.and_eq_true,decide_eq_true_eq]
 exact ⟨⟨⟨by omega,h0.2⟩,hv⟩,e⟩
theorem validG_of {s:Stp} (hv:validS s = true):validG s.g = true:=by
 unfold validS at hv
 simp only [Bool.and_eq_true] at hv
 exact hv.1.1.1.1
theorem blind_elem {s:Stp} (hv:validS s = true):elemG s.g s.blind = true:=by
 unfold validS at hv
 simp only [Bool.and_eq_true] at hv
 have:=hv.2
 unfold otherM at this
 simp only [Bool.and_eq_true] at this
 exact this.2
theorem claim_blind {s:Stp} (hv:validS s = true) {t:Int} (ht:elemG s.g t = true):claimM s (blindedM s t) = true:=by
 simp [claimM,blindedM,eqnFine,trmFine,ht,blind_elem hv]
theorem holds_of {s:Stp} (hv:validS s = true) {t x:Int} (ht:elemG s.g t = true) (hx:0 ≤ x ∧ x < s.g.Q) (h:Cg s.g.P (Ex s.g s.blind x) t):HoldsM s (blindedM s t) [x] = true:=by
 have hg:=gv_setup hv
 have hp:=prod_cg hg (bs:=[s.blind]) (es:=[x]) rfl
 have e:leftM s ⟨t,[⟨0,s.blind⟩]⟩ [x] = (prodG s.g [s.blind] [x]).1:=rfl
 have h1:Cg s.g.P (PX s.g ([s.blind].zip [x])) (Ex s.g s.blind x):=by simp [PX]; exact Cg.refl _ _
 have htr:=(El.of_elem hg ht).2
 have h2:(prodG s.g [s.blind] [x]).1 = t:=((hp.1.trans h1).trans h).eq hp.2 ⟨by omega,htr.2⟩
 unfold HoldsM
 rw [hv,claim_blind hv ht]
 unfold holdsM blindedM
 simp [e,h2,exponentsM,exponentM,hx]
theorem commit_cg {s:Stp} (hv:validS s = true) (v r:Int):Cg s.g.P (commitM s v r) (Ex s.g s.g.G v * Ex s.g s.blind r) ∧ 0 ≤ commitM s v r ∧ commitM s v r < s.g.P:=by
 have hg:=gv_setup hv
 have hp:=prod_cg hg (bs:=[s.g.G,s.blind]) (es:=[v,r]) rfl
 unfold commitM
 rw [if_pos hv]
 refine ⟨hp.1.trans ?_,hp.2⟩
 simp [PX]; exact Cg.refl _ _
theorem commit_elem {s:Stp} (hv:validS s = true) (v r:Int):elemG s.g (commitM s v r) = true:=by
 have hg:=gv_setup hv
 have hc:=commit_cg hv v r
 exact elem_mk hg (validG_of hv) (((El.gen hg).ex v |>.mul ((blind_el hv).ex r)).cg hc.1) hc.2
theorem over_elem {s:Stp} (hv:validS s = true) {x w y:Int} (hw:El s.g w) (hx:Cg s.g.P x (y * w)) (hy:El s.g y):Cg s.g.P (overG s.g x w) y ∧ elemG s.g (overG s.g x w) = true:=by
 have hg:=gv_setup hv
 have hwu:=hw.unit hg
 have h1:=(overG_cg hg x hwu).trans hx
 have h2:=Cg.cancel hwu h1
 exact ⟨h2,elem_mk hg (validG_of hv) (hy.cg h2) (overG_range hg x w)⟩
theorem Ex_one {g:Grp} (hg:Gv g) (x:Int):Cg g.P (Ex g x 1) x:=by
 unfold Ex
 have hq:=hg.q0
 rw [Int.emod_eq_of_lt (by omega) (by omega)]
 show Cg g.P (x ^ 1) x
 rw [Int.pow_succ,Int.pow_zero,Int.one_mul]
 exact Cg.refl _ _
def knownAt (s:Stp) (x b:Int):Clm:=if b = 0 then blindedM s x else blindedM s (overG s.g x s.g.G)
theorem bit_holds {s:Stp} (hv:validS s = true) {b r:Int} (hb:b = 0 ∨ b = 1) (hr:0 ≤ r ∧ r < s.g.Q):HoldsM s (knownAt s (commitM s b r) b) [r] = true ∧ elemG s.g (overG s.g (commitM s b r) s.g.G) = true:=by
 have hg:=gv_setup hv
 have hG:=El.gen hg
 have hB:=blind_el hv
 have hc:=commit_cg hv b r
 have hov:=over_elem hv (x:=commitM s b r) (w:=s.g.G) (y:=Ex s.g s.g.G (b - 1) * Ex s.g s.blind r) hG (by
  refine hc.1.trans ?_
  have h1:=(Ex_add hg hG (b - 1) 1)
  rw [show b - 1 + 1 = b by omega] at h1
  have h2:=(h1.trans ((Cg.refl _ _).mul (Ex_one hg s.g.G))).mul (Cg.refl s.g.P (Ex s.g s.blind r))
  refine h2.trans ?_
  have:Ex s.g s.g.G (b - 1) * s.g.G * Ex s.g s.blind r = Ex s.g s.g.G (b - 1) * Ex s.g s.blind r * s.g.G:=by grind
  rw [this]
  exact Cg.refl _ _) ((hG.ex _).mul (hB.ex _))
 refine ⟨?_,hov.2⟩
 unfold knownAt
 rcases hb with rfl | rfl
 ·rw [if_pos rfl]
  refine holds_of hv (commit_elem hv 0 r) hr ?_
  have:=hc.1
  rw [Ex_zero,Int.one_mul] at this
  exact this.symm
 ·rw [if_neg (by omega)]
  refine holds_of hv hov.2 hr ?_
  have:=hov.1
  rw [show (1:Int) - 1 = 0 by omega,Ex_zero,Int.one_mul] at this
  exact this.symm
def btL (s:Stp) (v:Int):Nat → List Int → List Bt
 | _,[]=>[]
 | k,r :: l=>⟨commitM s (bitOf v k) r,bitOf v k,r⟩ :: btL s v (k + 1) l
theorem btL_x (s:Stp) (v:Int):∀ (l:List Int) (k:Nat),(btL s v k l).map Bt.x = (splitL s v k l).1
 | [],k=>rfl
 | r :: l,k=>by simp only [btL,splitL,List.map_cons,btL_x s v l (k + 1)]
theorem btL_cg {s:Stp} (hv:validS s = true) (v:Int):∀ (l:List Int) (k:Nat),∀ t ∈ btL s v k l,Cg s.g.P t.x (Ex s.g s.g.G t.b * Ex s.g s.blind t.v)
 | [],k,t,h=>by simp [btL] at h
 | r :: l,k,t,h=>by
  rcases List.mem_cons.1 h with rfl | h
  ·exact (commit_cg hv _ _).1
  ·exact btL_cg hv v l (k + 1) t h
theorem emod_two (a M:Int) (hM:0 < M):a % (M * 2) = a % 2 + 2 * (a / 2 % M):=by
 have h1:=Int.emod_add_mul_ediv a 2
 have h2:=Int.emod_add_mul_ediv (a / 2) M
 have h3:=Int.emod_nonneg (a / 2) (by omega:M ≠ 0)
 have h4:=Int.emod_lt_of_pos (a / 2) hM
 have e:a = (a % 2 + 2 * (a / 2 % M)) + (M * 2) * (a / 2 / M):=by
  have:M * 2 * (a / 2 / M) = 2 * (M * (a / 2 / M)):=by grind
  omega
 have e2:(a % 2 + 2 * (a / 2 % M) + (M * 2) * (a / 2 / M)) % (M * 2) = (a % 2 + 2 * (a / 2 % M)) % (M * 2):=Int.add_mul_emod_self_left _ _ _
 rw [← e] at e2
 rw [e2,Int.emod_eq_of_lt (by omega) (by omega)]
theorem btL_sum (s:Stp) (v:Int) (hv:0 ≤ v):∀ (l:List Int) (k:Nat),sumB Bt.b k (btL s v k l) = (v / 2 ^ k % 2 ^ l.length) * 2 ^ k
 | [],k=>by simp [btL,sumB,Int.emod_one]
 | r :: l,k=>by
  have ih:=btL_sum s v hv l (k + 1)
  simp only [btL,sumB,ih,List.length_cons,bitOf]
  have hd:v / 2 ^ (k + 1) = v / 2 ^ k / 2:=by rw [Int.pow_succ,Int.ediv_ediv_of_nonneg (Int.pow_nonneg (by decide))]
  rw [hd]
  generalize v / 2 ^ k = a
  have h2:=emod_two a (2 ^ l.length) (Int.pow_pos (by decide))
  rw [Int.pow_succ 2 l.length,h2,Int.pow_succ]
  grind
theorem restL_sum (q:Int) (hq:okN q) (s:Stp) (v:Int):∀ (l:List Int) (k:Nat) (o:Int),restL q k o l % q = (o - sumB Bt.v k (btL s v k l)) % q
 | [],k,o=>by simp [restL,btL,sumB]
 | r :: l,k,o=>by
  have ih:=restL_sum q hq s v l (k + 1) (subM q o (mulM q r (2 ^ k)))
  simp only [restL,btL,sumB]
  rw [ih]
  unfold subM mulM
  rw [if_pos hq,if_pos hq]
  rw [Int.emod_sub_emod,Int.sub_sub,Int.sub_emod,Int.emod_add_emod,← Int.sub_emod]
end PrSpec
namespace Go.Proofs
open FdSpec TkSpec CodeSpec PrSpec
theorem fitL_of {s:Stp} {r:Int}:∀ {goal:List Cls} {ds:List (List Int)},(∀ (i:Nat) (c:Cls) (d:List Int),goal[i]? = some c → ds[i]? = some d → fillM s.g.Q (lastB c.claims.length c.need) d r = d) → fitL s r goal ds = true
 | [],_,_=>by simp [fitL]
 | c :: cs,[],_=>by simp [fitL]
 | c :: cs,d :: ds,h=>by
  unfold fitL
  rw [decide_eq_true (h 0 c d rfl rfl),fitL_of (goal:=cs) (ds:=ds) (fun i c' d' a b=>h (i + 1) c' d' (by simpa using a) (by simpa using b))]
  rfl
theorem fitL_at {s:Stp} {r:Int}:∀ {goal:List Cls} {ds:List (List Int)} {i:Nat} {c:Cls} {d:List Int},fitL s r goal ds = true → goal[i]? = some c → ds[i]? = some d → fillM s.g.Q (lastB c.claims.length c.need) d r = d
 | [],_,i,_,_,_,h,_=>by simp at h
 | c :: cs,[],i,_,_,_,_,h=>by simp at h
 | c :: cs,d :: ds,0,c',d',h,a,b=>by
  unfold fitL at h
  rw [Bool.and_eq_true] at h
  simp at a b
  subst a b
  exact of_decide_eq_true h.1
 | c :: cs,d :: ds,i + 1,c',d',h,a,b=>by
  unfold fitL at h
  rw [Bool.and_eq_true] at h
  exact fitL_at h.2 (by simpa using a) (by simpa using b)
def lastN (n j:Nat):List Bool:=(List.range n).map fun k=>decide (n - j ≤ k)
theorem lastN_len (n j:Nat):(lastN n j).length = n:=by simp [lastN]
theorem lastN_eq {n j:Nat} (h:j ≤ n):lastN n j = lastB n (j:Int):=by
 unfold lastN lastB
 refine List.map_congr_left (fun k _=>?_)
 exact decide_eq_decide.2 (by omega)
theorem lastN_zero (n:Nat):lastN n 0 = List.replicate n false:=by
 apply List.ext_getElem?
 intro i
 unfold lastN
 rw [List.getElem?_map,List.getElem?_replicate]
 by_cases h:i < n
 ·rw [List.getElem?_range h,if_pos h]
  show some (decide (n - 0 ≤ i)) = some false
  rw [decide_eq_false (by omega)]
 ·rw [List.getElem?_eq_none (by simp; omega),if_neg h]; rfl
theorem lastN_set {n j:Nat} (h:j < n):(lastN n j).set (n - 1 - j) true = lastN n (j + 1):=by
 apply List.ext_getElem?
 intro i
 rw [List.getElem?_set,lastN_len]
 unfold lastN
 rw [List.getElem?_map,List.getElem?_map]
 by_cases hi:i < n
 ·rw [List.getElem?_range hi]
  show _ = some (decide (n - (j + 1) ≤ i))
  by_cases he:n - 1 - j = i
  ·rw [if_pos he,if_pos (by omega),decide_eq_true (by omega)]
  ·rw [if_neg he]
   show some (decide (n - j ≤ i)) = _
   exact congrArg some (decide_eq_decide.2 (by omega))
 ·rw [List.getElem?_eq_none (by simp; omega),if_neg (by omega)]
  rfl
end Go.Proofs
namespace Go.Proofs
open FdSpec TkSpec CodeSpec PrSpec
theorem shapedC_of {s:Stp}:∀ {cs:List Clm} {n:List (List Int)},n.length = cs.length → (∀ (k:Nat) (c:Clm) (l:List Int),cs[k]? = some c → n[k]? = some l → exponentsM s l c.vars = true) → shapedC s cs n = true
 | [],_,_,_=>rfl
 | c :: cs,[],h,_=>by simp at h
 | c :: cs,l :: ls,h,hp=>by
  have h1:=hp 0 c l rfl rfl
  have h2:=shapedC_of (cs:=cs) (n:=ls) (by simpa using h) (fun k c' l' a b=>hp (k + 1) c' l' (by simpa using a) (by simpa using b))
  simp [shapedC,h1,h2]
theorem shapedC_at {s:Stp}:∀ {cs:List Clm} {n:List (List Int)} {k:Nat} {c:Clm} {l:List Int},shapedC s cs n = true → cs[k]? = some c → n[k]? = some l → exponentsM s l c.vars = true
 | [],_,k,_,_,_,h,_=>by simp at h
 | c :: cs,[],k,_,_,h,_,_=>by simp [shapedC] at h
 | c :: cs,l :: ls,0,c',l',h,a,b=>by
  simp only [shapedC,Bool.and_eq_true] at h
  simp at a b
  rw [← a,← b]; exact h.1
 | c :: cs,l :: ls,k + 1,c',l',h,a,b=>by
  simp only [shapedC,Bool.and_eq_true] at h
  exact shapedC_at h.2 (by simpa using a) (by simpa using b)
def shapeOf (s:Stp) (c:Cls) (d:List Int) (n:List (List Int)):Bool:=exponentsM s d c.claims.length && decide (n.length = c.claims.length)
theorem shapedL_of {s:Stp}:∀ {goal:List Cls} {ds:List (List Int)} {ns:List (List (List Int))},ds.length = goal.length → ns.length = goal.length →
  (∀ (i:Nat) (c:Cls) (d:List Int) (n:List (List Int)),goal[i]? = some c → ds[i]? = some d → ns[i]? = some n → shapeOf s c d n = true ∧ ∀ (k:Nat) (x:Clm) (l:List Int),c.claims[k]? = some x → n[k]? = some l → exponentsM s l x.vars = true) → shapedL s goal ds ns = true
 | [],_,_,_,_,_=>rfl
 | c :: cs,[],_,h,_,_=>by simp at h
 | c :: cs,_ :: _,[],_,h,_=>by simp at h
 | c :: cs,d :: ds,n :: ns,h1,h2,hp=>by
  obtain ⟨a,b⟩:=hp 0 c d n rfl rfl rfl
  simp only [shapeOf,Bool.and_eq_true,decide_eq_true_eq] at a
  have h3:=shapedL_of (goal:=cs) (ds:=ds) (ns:=ns) (by simpa using h1) (by simpa using h2) (fun i c' d' n' a1 a2 a3=>hp (i + 1) c' d' n' (by simpa using a1) (by simpa using a2) (by simpa using a3))
  simp [shapedL,a.1,a.2,shapedC_of a.2 b,h3]
theorem shapedL_at {s:Stp}:∀ {goal:List Cls} {ds:List (List Int)} {ns:List (List (List Int))} {i:Nat} {c:Cls} {d:List Int} {n:List (List Int)},shapedL s goal ds ns = true → goal[i]? = some c → ds[i]? = some d → ns[i]? = some n →
  shapeOf s c d n = true ∧ shapedC s c.claims n = true
 | [],_,_,i,_,_,_,_,h,_,_=>by simp at h
 | c :: cs,[],_,i,_,_,_,h,_,_,_=>by simp [shapedL] at h
 | c :: cs,_ :: _,[],i,_,_,_,h,_,_,_=>by simp [shapedL] at h
 | c :: cs,d :: ds,n :: ns,0,c',d',n',h,a1,a2,a3=>by
  simp only [shapedL,Bool.and_eq_true,decide_eq_true_eq] at h
  simp at a1 a2 a3
  subst a1 a2 a3
  simp [shapeOf,h]
 | c :: cs,d :: ds,n :: ns,i + 1,c',d',n',h,a1,a2,a3=>by
  simp only [shapedL,Bool.and_eq_true,decide_eq_true_eq] at h
  exact shapedL_at h.2 (by simpa using a1) (by simpa using a2) (by simpa using a3)
end Go.Proofs
namespace Go.Proofs
open FdSpec TkSpec CodeSpec PrSpec
def fitK (s:Stp) (c:Clm) (k:Knw):Bool:=!k.has || exponentsM s k.values c.vars
theorem fitsC_of {s:Stp}:∀ {cs:List Clm} {n:List Knw},n.length = cs.length → (∀ (k:Nat) (c:Clm) (l:Knw),cs[k]? = some c → n[k]? = some l → fitK s c l = true) → fitsC s cs n = true
 | [],_,_,_=>rfl
 | c :: cs,[],h,_=>by simp at h
 | c :: cs,l :: ls,h,hp=>by
  have h1:=hp 0 c l rfl rfl
  have h2:=fitsC_of (cs:=cs) (n:=ls) (by simpa using h) (fun k c' l' a b=>hp (k + 1) c' l' (by simpa using a) (by simpa using b))
  unfold fitK at h1
  simp only [fitsC,h1,h2,Bool.and_self]
theorem fitsC_at {s:Stp}:∀ {cs:List Clm} {n:List Knw} {k:Nat} {c:Clm} {l:Knw},fitsC s cs n = true → cs[k]? = some c → n[k]? = some l → fitK s c l = true
 | [],_,k,_,_,_,h,_=>by simp at h
 | c :: cs,[],k,_,_,h,_,_=>by simp [fitsC] at h
 | c :: cs,l :: ls,0,c',l',h,a,b=>by
  unfold fitsC at h
  rw [Bool.and_eq_true] at h
  simp at a b
  rw [← a,← b]; exact h.1
 | c :: cs,l :: ls,k + 1,c',l',h,a,b=>by
  unfold fitsC at h
  rw [Bool.and_eq_true] at h
  exact fitsC_at h.2 (by simpa using a) (by simpa using b)
theorem fitsL_of {s:Stp}:∀ {goal:List Cls} {ks:List (List Knw)},ks.length = goal.length →
  (∀ (i:Nat) (c:Cls) (n:List Knw),goal[i]? = some c → ks[i]? = some n → n.length = c.claims.length ∧ ∀ (k:Nat) (x:Clm) (l:Knw),c.claims[k]? = some x → n[k]? = some l → fitK s x l = true) → fitsL s goal ks = true
 | [],_,_,_=>rfl
 | c :: cs,[],h,_=>by simp at h
 | c :: cs,n :: ns,h1,hp=>by
  obtain ⟨a,b⟩:=hp 0 c n rfl rfl
  have h3:=fitsL_of (goal:=cs) (ks:=ns) (by simpa using h1) (fun i c' n' a1 a2=>hp (i + 1) c' n' (by simpa using a1) (by simpa using a2))
  simp only [fitsL,decide_eq_true a,fitsC_of a b,h3,Bool.and_self]
theorem fitsL_at {s:Stp}:∀ {goal:List Cls} {ks:List (List Knw)} {i:Nat} {c:Cls} {n:List Knw},fitsL s goal ks = true → goal[i]? = some c → ks[i]? = some n → n.length = c.claims.length ∧ fitsC s c.claims n = true
 | [],_,i,_,_,_,h,_=>by simp at h
 | c :: cs,[],i,_,_,h,_,_=>by simp [fitsL] at h
 | c :: cs,n :: ns,0,c',n',h,a1,a2=>by
  simp only [fitsL,Bool.and_eq_true,decide_eq_true_eq] at h
  simp at a1 a2
  subst a1 a2
  exact h.1
 | c :: cs,n :: ns,i + 1,c',n',h,a1,a2=>by
  simp only [fitsL,Bool.and_eq_true,decide_eq_true_eq] at h
  exact fitsL_at h.2 (by simpa using a1) (by simpa using a2)
end Go.Proofs
namespace Go.Proofs
open FdSpec TkSpec CodeSpec PrSpec
theorem answersC_at {q:Int}:∀ {b:List Bool} {d:List Int} {n:List (List Int)} {ks:List Knw} {k:Nat} {x:Bool} {y:Int} {z:List Int} {u:Knw},b[k]? = some x → d[k]? = some y → n[k]? = some z → ks[k]? = some u →
  (answersC q b d n ks)[k]? = some (if x then shiftM q z y u.values else z)
 | b :: bs,d :: ds,n :: ns,k :: ks,0,x,y,z,u,h1,h2,h3,h4=>by
  simp at h1 h2 h3 h4
  subst h1 h2 h3 h4
  rfl
 | b :: bs,d :: ds,n :: ns,k :: ks,i + 1,x,y,z,u,h1,h2,h3,h4=>answersC_at (b:=bs) (d:=ds) (n:=ns) (ks:=ks) (k:=i) (by simpa using h1) (by simpa using h2) (by simpa using h3) (by simpa using h4)
 | [],_,_,_,_,_,_,_,_,h,_,_,_=>by simp at h
 | _ :: _,[],_,_,_,_,_,_,_,_,h,_,_=>by simp at h
 | _ :: _,_ :: _,[],_,_,_,_,_,_,_,_,h,_=>by simp at h
 | _ :: _,_ :: _,_ :: _,[],_,_,_,_,_,_,_,_,h=>by simp at h
theorem answersC_len {q:Int}:∀ {b:List Bool} {d:List Int} {n:List (List Int)} {ks:List Knw},d.length = b.length → n.length = b.length → ks.length = b.length → (answersC q b d n ks).length = b.length
 | [],_,_,_,_,_,_=>by simp [answersC]
 | b :: bs,d :: ds,n :: ns,k :: ks,h1,h2,h3=>by
  have:=answersC_len (q:=q) (b:=bs) (d:=ds) (n:=ns) (ks:=ks) (by simpa using h1) (by simpa using h2) (by simpa using h3)
  simp [answersC,this]
 | b :: bs,[],_,_,h,_,_=>by simp at h
 | b :: bs,_ :: _,[],_,_,h,_=>by simp at h
 | b :: bs,_ :: _,_ :: _,[],_,_,h=>by simp at h
theorem proveL_at {s:Stp} {r:Int}:∀ {bs:List (List Bool)} {ds:List (List Int)} {ns:List (List (List Int))} {ks:List (List Knw)} {i:Nat} {b:List Bool} {d:List Int} {n:List (List Int)} {k:List Knw},bs[i]? = some b → ds[i]? = some d → ns[i]? = some n → ks[i]? = some k →
  (proveL s r bs ds ns ks).1[i]? = some (fillM s.g.Q b d r) ∧ (proveL s r bs ds ns ks).2[i]? = some (answersC s.g.Q b (fillM s.g.Q b d r) n k)
 | b :: bs,d :: ds,n :: ns,k :: ks,0,x,y,z,u,h1,h2,h3,h4=>by
  simp at h1 h2 h3 h4
  subst h1 h2 h3 h4
  exact ⟨rfl,rfl⟩
 | b :: bs,d :: ds,n :: ns,k :: ks,i + 1,x,y,z,u,h1,h2,h3,h4=>proveL_at (bs:=bs) (ds:=ds) (ns:=ns) (ks:=ks) (i:=i) (by simpa using h1) (by simpa using h2) (by simpa using h3) (by simpa using h4)
 | [],_,_,_,_,_,_,_,_,h,_,_,_=>by simp at h
 | _ :: _,[],_,_,_,_,_,_,_,_,h,_,_=>by simp at h
 | _ :: _,_ :: _,[],_,_,_,_,_,_,_,_,h,_=>by simp at h
 | _ :: _,_ :: _,_ :: _,[],_,_,_,_,_,_,_,_,h=>by simp at h
theorem proveL_len {s:Stp} {r:Int}:∀ {bs:List (List Bool)} {ds:List (List Int)} {ns:List (List (List Int))} {ks:List (List Knw)},ds.length = bs.length → ns.length = bs.length → ks.length = bs.length →
  (proveL s r bs ds ns ks).1.length = bs.length ∧ (proveL s r bs ds ns ks).2.length = bs.length
 | [],_,_,_,_,_,_=>by simp [proveL]
 | b :: bs,d :: ds,n :: ns,k :: ks,h1,h2,h3=>by
  have:=proveL_len (s:=s) (r:=r) (bs:=bs) (ds:=ds) (ns:=ns) (ks:=ks) (by simpa using h1) (by simpa using h2) (by simpa using h3)
  simp [proveL,this]
 | b :: bs,[],_,_,h,_,_=>by simp at h
 | b :: bs,_ :: _,[],_,_,h,_=>by simp at h
 | b :: bs,_ :: _,_ :: _,[],_,_,h=>by simp at h
theorem chosenL_at {s:Stp}:∀ {goal:List Cls} {know:List (List Knw)} {i:Nat} {c:Cls} {k:List Knw},goal[i]? = some c → know[i]? = some k → (chosenL s goal know).1[i]? = some (chosenC s c.need c.claims k).1
 | c :: cs,k :: ks,0,c',k',h1,h2=>by
  simp at h1 h2
  subst h1 h2
  rfl
 | c :: cs,k :: ks,i + 1,c',k',h1,h2=>chosenL_at (goal:=cs) (know:=ks) (i:=i) (by simpa using h1) (by simpa using h2)
 | [],_,_,_,_,h,_=>by simp at h
 | _ :: _,[],_,_,_,_,h=>by simp at h
theorem chosenL_len {s:Stp}:∀ {goal:List Cls} {know:List (List Knw)},know.length = goal.length → (chosenL s goal know).1.length = goal.length
 | [],_,_=>by simp [chosenL]
 | c :: cs,k :: ks,h=>by
  have:=chosenL_len (s:=s) (goal:=cs) (know:=ks) (by simpa using h)
  simp [chosenL,this]
 | c :: cs,[],h=>by simp at h
theorem zeroC_at:∀ {b:List Bool} {d:List Int} {k:Nat} {x:Bool} {y:Int},zeroC b d = true → b[k]? = some x → d[k]? = some y → x = true → y = 0
 | b :: bs,d :: ds,0,x,y,h,h1,h2,hx=>by
  simp at h1 h2
  subst h1 h2
  unfold zeroC at h
  simp only [hx,Bool.not_true,Bool.false_or,Bool.and_eq_true,decide_eq_true_eq] at h
  exact h.1
 | b :: bs,d :: ds,i + 1,x,y,h,h1,h2,hx=>by
  unfold zeroC at h
  rw [Bool.and_eq_true] at h
  exact zeroC_at (b:=bs) (d:=ds) (k:=i) h.2 (by simpa using h1) (by simpa using h2) hx
 | [],_,_,_,_,_,h,_,_=>by simp at h
 | _ :: _,[],_,_,_,_,_,h,_=>by simp at h
theorem zeroC_of:∀ {b:List Bool} {d:List Int},(∀ (k:Nat) (x:Bool) (y:Int),b[k]? = some x → d[k]? = some y → x = true → y = 0) → zeroC b d = true
 | [],_,_=>by simp [zeroC]
 | _ :: _,[],_=>by simp [zeroC]
 | b :: bs,d :: ds,h=>by
  have h1:=h 0 b d rfl rfl
  have h2:=zeroC_of (b:=bs) (d:=ds) (fun k x y a c=>h (k + 1) x y (by simpa using a) (by simpa using c))
  cases b <;> simp_all [zeroC]
theorem zeroL_at:∀ {bs:List (List Bool)} {ds:List (List Int)} {i:Nat} {b:List Bool} {d:List Int},zeroL bs ds = true → bs[i]? = some b → ds[i]? = some d → zeroC b d = true
 | b :: bs,d :: ds,0,x,y,h,h1,h2=>by
  simp at h1 h2
  subst h1 h2
  unfold zeroL at h
  rw [Bool.and_eq_true] at h
  exact h.1
 | b :: bs,d :: ds,i + 1,x,y,h,h1,h2=>by
  unfold zeroL at h
  rw [Bool.and_eq_true] at h
  exact zeroL_at (bs:=bs) (ds:=ds) (i:=i) h.2 (by simpa using h1) (by simpa using h2)
 | [],_,_,_,_,_,h,_=>by simp at h
 | _ :: _,[],_,_,_,_,_,h=>by simp at h
theorem zeroL_of:∀ {bs:List (List Bool)} {ds:List (List Int)},(∀ (i:Nat) (b:List Bool) (d:List Int),bs[i]? = some b → ds[i]? = some d → zeroC b d = true) → zeroL bs ds = true
 | [],_,_=>by simp [zeroL]
 | _ :: _,[],_=>by simp [zeroL]
 | b :: bs,d :: ds,h=>by
  unfold zeroL
  rw [h 0 b d rfl rfl,zeroL_of (bs:=bs) (ds:=ds) (fun i b' d' a c=>h (i + 1) b' d' (by simpa using a) (by simpa using c))]
  rfl
end Go.Proofs
namespace PrSpec
open FdSpec TkSpec CodeSpec FdPoly GrLaw Go.Proofs
def cntH:List Knw → Int
 | []=>0
 | k :: ks=>(if k.has then 1 else 0) + cntH ks
theorem cntH_nonneg:∀ ks:List Knw,0 ≤ cntH ks
 | []=>by simp [cntH]
 | k :: ks=>by have:=cntH_nonneg ks; simp only [cntH]; split <;> omega
theorem cntH_snoc:∀ (ks:List Knw) (u:Knw),cntH (ks ++ [u]) = cntH ks + (if u.has then 1 else 0)
 | [],u=>by simp [cntH]
 | k :: ks,u=>by simp only [List.cons_append,cntH,cntH_snoc ks u]; omega
structure OneC (s:Stp) (c:Cls) (ks:List Knw):Prop where
 need:c.need = 1
 len:ks.length = c.claims.length
 pos:1 ≤ c.claims.length
 two:c.claims.length ≤ 2
 ok:∀ x ∈ c.claims,x.vars = 1 ∧ claimM s x = true
 holds:∀ (k:Nat) (x:Clm) (u:Knw),c.claims[k]? = some x → ks[k]? = some u → u.has = true → HoldsM s x u.values = true
 cnt:cntH ks = 1
theorem holds_parts {s:Stp} {x:Clm} {vs:List Int} (h:HoldsM s x vs = true):holdsM s x vs = true ∧ exponentsM s vs x.vars = true:=by
 unfold HoldsM at h
 simp only [Bool.and_eq_true] at h
 have h2:=h.2
 unfold holdsM at h2
 rw [Bool.and_eq_true] at h2
 exact ⟨h.2,h2.1⟩
theorem known_cnt {s:Stp}:∀ (cs:List Clm) (ks:List Knw),ks.length = cs.length → (∀ (k:Nat) (x:Clm) (u:Knw),cs[k]? = some x → ks[k]? = some u → u.has = true → HoldsM s x u.values = true) → knownC s cs ks = cntH ks
 | [],ks,hl,_=>by
  have:ks = []:=List.eq_nil_of_length_eq_zero (by simpa using hl)
  subst this
  simp [knownC,cntH]
 | c :: cs,[],hl,_=>by simp at hl
 | c :: cs,k :: ks,hl,h=>by
  have ih:=known_cnt cs ks (by simpa using hl) (fun i x u a b=>h (i + 1) x u (by simpa using a) (by simpa using b))
  have h0:=h 0 c k rfl rfl
  simp only [knownC,cntH,ih]
  cases hh:k.has with
  | false=>simp
  | true=>rw [(holds_parts (h0 hh)).1]; simp
theorem enough_of {s:Stp}:∀ (goal:List Cls) (know:List (List Knw)),know.length = goal.length → (∀ (i:Nat) (c:Cls) (ks:List Knw),goal[i]? = some c → know[i]? = some ks → OneC s c ks) → enoughL s goal know = true
 | [],_,_,_=>by simp [enoughL]
 | c :: cs,[],hl,_=>by simp at hl
 | c :: cs,k :: ks,hl,h=>by
  have h0:=h 0 c k rfl rfl
  have ih:=enough_of cs ks (by simpa using hl) (fun i x u a b=>h (i + 1) x u (by simpa using a) (by simpa using b))
  unfold enoughL
  rw [ih,known_cnt _ _ h0.len h0.holds,h0.cnt,h0.need]
  rfl
def zNums (goal:List Cls):List (List (List Int)):=goal.map fun c=>List.replicate c.claims.length [0]
def zDares (goal:List Cls):List (List Int):=goal.map fun c=>List.replicate c.claims.length 0
theorem one_prove {s:Stp} {goal:List Cls} {know:List (List Knw)} (ctx:Bytes) (hv:validS s = true) (hl:know.length = goal.length) (h1:1 ≤ goal.length) (h2:goal.length ≤ 300) (h:∀ (i:Nat) (c:Cls) (ks:List Knw),goal[i]? = some c → know[i]? = some ks → OneC s c ks) :
  (proveM s goal ctx know (zNums goal) (zDares goal)).2 = 0:=by
 have hg:=gv_setup hv
 have hq:=hg.q0
 have hone:∀ c ∈ goal,∃ ks,OneC s c ks:=fun c hc=>by
  obtain ⟨i,hi⟩:=List.getElem?_of_mem hc
  have hil:=(List.getElem?_eq_some_iff.1 hi).1
  exact ⟨_,h i c _ hi (List.getElem?_eq_getElem (by omega))⟩
 have hgm:goalM s goal = true:=by
  unfold goalM
  rw [hv,decide_eq_true h1,decide_eq_true h2]
  simp only [Bool.true_and,Bool.and_eq_true,List.all_eq_true]
  refine ⟨fun c hc=>?_,fun c hc x hx=>?_⟩
  ·obtain ⟨ks,ho⟩:=hone c hc
   have:=ho.pos
   have:=ho.two
   have:=ho.need
   simp only [clsFine,Bool.and_eq_true,decide_eq_true_eq]
   omega
  ·obtain ⟨ks,ho⟩:=hone c hc
   exact (ho.ok x hx).2
 have hft:fitsM s goal know = true:=by
  unfold fitsM
  rw [decide_eq_true hl,Bool.true_and]
  refine fitsL_of hl (fun i c n a b=>?_)
  have ho:=h i c n a b
  refine ⟨ho.len,fun k x u e1 e2=>?_⟩
  unfold fitK
  cases hh:u.has with
  | false=>rfl
  | true=>rw [(holds_parts (ho.holds k x u e1 e2 hh)).2]; rfl
 have hz:∀ n:Int,n = 1 → exponentsM s [0] n = true:=fun n e=>by subst e; simp [exponentsM,exponentM]; omega
 have hsm:shapedM s goal (zDares goal) (zNums goal) = true:=by
  unfold shapedM
  rw [decide_eq_true (by simp [zDares]),decide_eq_true (by simp [zNums]),Bool.true_and,Bool.true_and]
  refine shapedL_of (by simp [zDares]) (by simp [zNums]) (fun i c d n a b e=>?_)
  unfold zDares at b
  unfold zNums at e
  rw [List.getElem?_map,a] at b e
  cases b; cases e
  refine ⟨?_,fun k x l e1 e2=>?_⟩
  ·simp [shapeOf,exponentsM,exponentM]
   right; omega
  ·rw [List.getElem?_replicate] at e2
   split at e2
   ·cases e2
    obtain ⟨ks,ho⟩:=hone c (List.mem_of_getElem? a)
    exact hz _ (ho.ok x (List.mem_of_getElem? e1)).1
   ·cases e2
 rw [prove_errs hgm hft hsm,chosen_enough s goal know (fun c hc=>by obtain ⟨ks,ho⟩:=hone c hc; rw [ho.need]; decide),enough_of goal know hl h]
 have hzl:zeroL (chosenL s goal know).1 (zDares goal) = true:=zeroL_of (fun i b d h1 h2=>zeroC_of (fun k x y _ h4 _=>by
  unfold zDares at h2
  rw [List.getElem?_map] at h2
  cases hgi:goal[i]? with
  | none=>rw [hgi] at h2; cases h2
  | some c=>
   rw [hgi] at h2
   cases h2
   rw [List.getElem?_replicate] at h4
   split at h4 <;> simp_all))
 rw [hzl]
 rfl
theorem bitOf_or (v:Int) (k:Nat):bitOf v k = 0 ∨ bitOf v k = 1:=by unfold bitOf; omega
theorem split_at (s:Stp) (v:Int):∀ (l:List Int) (k i:Nat) (r:Int),l[i]? = some r → (splitL s v k l).1[i]? = some (commitM s (bitOf v (k + i)) r) ∧ (splitL s v k l).2[i]? = some (knwOf (bitOf v (k + i)) r)
 | [],k,i,r,h=>by simp at h
 | x :: l,k,0,r,h=>by
  simp at h; subst h
  exact ⟨rfl,rfl⟩
 | x :: l,k,i + 1,r,h=>by
  have:=split_at s v l (k + 1) i r (by simpa using h)
  rw [show k + 1 + i = k + (i + 1) by omega] at this
  exact ⟨by simpa [splitL] using this.1,by simpa [splitL] using this.2⟩
theorem split_lens (s:Stp) (v:Int):∀ (l:List Int) (k:Nat),(splitL s v k l).1.length = l.length ∧ (splitL s v k l).2.length = l.length
 | [],k=>by simp [splitL]
 | r :: l,k=>by have:=split_lens s v l (k + 1); simp [splitL,this]
theorem bit_one_c {s:Stp} (hv:validS s = true) {b r:Int} (hb:b = 0 ∨ b = 1) (hr:0 ≤ r ∧ r < s.g.Q):OneC s (bitC s (commitM s b r)) (knwOf b r):=by
 obtain ⟨h1,h2⟩:=bit_holds hv hb hr
 have h3:=commit_elem hv b r
 refine ⟨rfl,?_,by simp [bitC],by simp [bitC],?_,?_,?_⟩
 ·rcases hb with rfl | rfl <;> simp [knwOf,bitC]
 ·intro x hx
  simp only [bitC,List.mem_cons,List.not_mem_nil,or_false] at hx
  rcases hx with rfl | rfl
  ·exact ⟨rfl,claim_blind hv h3⟩
  ·exact ⟨rfl,claim_blind hv h2⟩
 ·intro k x u hx hu hh
  unfold knownAt at h1
  rcases hb with rfl | rfl
  ·match k,hx,hu with
   | 0,hx,hu=>simp [bitC,knwOf] at hx hu; subst hx hu; simpa using h1
   | 1,hx,hu=>simp [bitC,knwOf] at hx hu; subst hu; cases hh
   | k + 2,hx,hu=>simp [bitC] at hx
  ·match k,hx,hu with
   | 0,hx,hu=>simp [bitC,knwOf] at hx hu; subst hu; cases hh
   | 1,hx,hu=>simp [bitC,knwOf] at hx hu; subst hx hu; simpa using h1
   | k + 2,hx,hu=>simp [bitC] at hx
 ·rcases hb with rfl | rfl <;> simp [knwOf,cntH]
theorem ranges_one {s:Stp} {v r:Int} {blinds:List Int} (hs:splitFine s v blinds = true) (hr:0 ≤ r ∧ r < s.g.Q) :
  (weighM s (splitL s v 0 blinds).1).2 = true ∧ elemG s.g (commitM s v r) = true ∧
  ∀ (i:Nat) (c:Cls) (ks:List Knw),(rangeM s (commitM s v r) (splitL s v 0 blinds).1)[i]? = some c → ((splitL s v 0 blinds).2 ++ [[⟨true,[restM s r blinds]⟩]])[i]? = some ks → OneC s c ks:=by
 unfold splitFine at hs
 simp only [Bool.and_eq_true,decide_eq_true_eq] at hs
 obtain ⟨⟨⟨⟨⟨hv,hl1⟩,hl60⟩,hex⟩,hv0⟩,hv1⟩:=hs
 have hg:=gv_setup hv
 have hG:=El.gen hg
 have hB:=blind_el hv
 have hq:=hg.okQ
 obtain ⟨e1,e2⟩:=split_lens s v blinds 0
 have hbr:∀ x ∈ blinds,0 ≤ x ∧ x < s.g.Q:=by
  simp only [exponentsM,exponentM,Bool.and_eq_true,decide_eq_true_eq,Bool.not_eq_true',List.any_eq_false,Bool.not_eq_true] at hex
  intro x hx
  have:=hex.2 x hx
  simp at this
  exact this
 have hw:(weighM s (splitL s v 0 blinds).1).2 = true:=by
  have hall:(splitL s v 0 blinds).1.all (elemG s.g) = true:=List.all_eq_true.2 (fun x hx=>by
   obtain ⟨i,hi⟩:=List.getElem?_of_mem hx
   have hil:=(List.getElem?_eq_some_iff.1 hi).1
   have:=(split_at s v blinds 0 i _ (List.getElem?_eq_getElem (by omega))).1
   rw [hi] at this
   cases this
   exact commit_elem hv _ _)
  unfold weighM
  rw [hv,hall,decide_eq_true (by omega),decide_eq_true (by omega)]
  unfold prodG
  rw [if_pos (show (true && true && true && true) = true from rfl),if_pos ⟨hg.okP,hq,by simp [pows]⟩]
 refine ⟨hw,commit_elem hv v r,fun i c ks hc hk=>?_⟩
 have hrm:rangeM s (commitM s v r) (splitL s v 0 blinds).1 = (splitL s v 0 blinds).1.map (bitC s) ++ [lastC s (commitM s v r) (weighM s (splitL s v 0 blinds).1).1]:=by
  unfold rangeM bitsM; rw [hw,commit_elem hv v r]; rfl
 rw [hrm] at hc
 by_cases hi:i < blinds.length
 ·rw [List.getElem?_append_left (by simp; omega),List.getElem?_map] at hc
  rw [List.getElem?_append_left (by omega)] at hk
  have hr:=List.getElem?_eq_getElem hi
  obtain ⟨a1,a2⟩:=split_at s v blinds 0 i _ hr
  rw [a1] at hc
  rw [a2] at hk
  cases hc; cases hk
  exact bit_one_c hv (bitOf_or _ _) (hbr _ (List.getElem_mem hi))
 ·have hil:=(List.getElem?_eq_some_iff.1 hc).1
  simp at hil
  have hi2:i = blinds.length:=by omega
  rw [List.getElem?_append_right (by simp; omega),List.length_map,e1,hi2,Nat.sub_self] at hc
  rw [List.getElem?_append_right (by omega),e2,hi2,Nat.sub_self] at hk
  simp at hc hk
  subst hc hk
  have hbt:=btL_x s v blinds 0
  have hsum:=btL_sum s v hv0 blinds 0
  rw [show (2:Int) ^ 0 = 1 from rfl,Int.ediv_one,Int.mul_one,Int.emod_eq_of_lt hv0 hv1] at hsum
  obtain ⟨_,ew⟩:=weigh_eq hw
  have hz:(splitL s v 0 blinds).1.zip (pows (splitL s v 0 blinds).1.length) = wtL 0 (btL s v 0 blinds):=by
   have:=zip_wt (btL s v 0 blinds) 0
   simp only [Nat.zero_add] at this
   rw [← hbt,List.length_map]
   exact this
  have hp:=prod_cg hg (bs:=(splitL s v 0 blinds).1) (es:=pows (splitL s v 0 blinds).1.length) (by simp [pows])
  rw [hz,← ew] at hp
  have hwc:=hp.1.trans (weigh_cg hg hB (btL s v 0 blinds) 0 (btL_cg hv v blinds 0))
  rw [hsum] at hwc
  generalize hS:sumB Bt.v 0 (btL s v 0 blinds) = S at *
  generalize (weighM s (splitL s v 0 blinds).1).1 = wg at *
  have hwel:El s.g wg:=((hG.ex v).mul (hB.ex S)).cg hwc
  have hc:=commit_cg hv v r
  have hov:=over_elem hv (x:=commitM s v r) (w:=wg) (y:=Ex s.g s.blind (r - S)) hwel (by
   refine hc.1.trans ?_
   have h1:=Ex_add hg hB (r - S) S
   rw [show r - S + S = r by omega] at h1
   have h2:=(Cg.refl s.g.P (Ex s.g s.g.G v)).mul h1
   refine h2.trans ?_
   have:Ex s.g s.g.G v * (Ex s.g s.blind (r - S) * Ex s.g s.blind S) = Ex s.g s.blind (r - S) * (Ex s.g s.g.G v * Ex s.g s.blind S):=by grind
   rw [this]
   exact (Cg.refl _ _).mul hwc.symm) (hB.ex _)
  have hrest:restM s r blinds % s.g.Q = (r - S) % s.g.Q:=by
   unfold restM
   rw [hv,decide_eq_true hl60]
   simp only [Bool.and_self,if_true]
   rw [restL_sum s.g.Q hq s v blinds 0,hS]
   unfold addM
   rw [if_pos hq,Int.add_zero,Int.emod_sub_emod]
  have hrr:0 ≤ restM s r blinds ∧ restM s r blinds < s.g.Q:=by
   unfold restM
   rw [hv,decide_eq_true hl60]
   simp only [Bool.and_self,if_true]
   have hq0:0 < s.g.Q:=by have:=hg.q0; omega
   have:∀ (l:List Int) (k:Nat) (o:Int),0 ≤ o ∧ o < s.g.Q → 0 ≤ restL s.g.Q k o l ∧ restL s.g.Q k o l < s.g.Q:=by
    intro l
    induction l with
    | nil=>intro k o h; exact h
    | cons x l ih=>intro k o h; refine ih _ _ ?_; unfold subM; rw [if_pos hq]; exact ⟨Int.emod_nonneg _ (by omega),Int.emod_lt_of_pos _ hq0⟩
   refine this _ _ _ ?_
   unfold addM
   rw [if_pos hq]
   exact ⟨Int.emod_nonneg _ (by omega),Int.emod_lt_of_pos _ hq0⟩
  have hH:HoldsM s (blindedM s (overG s.g (commitM s v r) wg)) [restM s r blinds] = true:=by
   refine holds_of hv hov.2 hrr ?_
   rw [Ex_cong hrest]
   exact hov.1.symm
  refine ⟨rfl,rfl,by simp [lastC],by simp [lastC],?_,?_,by simp [cntH]⟩
  ·intro x hx
   simp only [lastC,List.mem_cons,List.not_mem_nil,or_false] at hx
   subst hx
   exact ⟨rfl,claim_blind hv hov.2⟩
  ·intro k x u hx hu hh
   match k,hx,hu with
   | 0,hx,hu=>simp [lastC] at hx hu; subst hx hu; exact hH
   | k + 1,hx,hu=>simp [lastC] at hx
end PrSpec
namespace PrSpec
open FdSpec TkSpec CodeSpec FdPoly GrLaw Go.Proofs
theorem flat_le {α:Type} (f:α → List Int) (n:Nat):∀ l:List α,(∀ x ∈ l,(f x).length ≤ n) → (l.flatMap f).length ≤ l.length * n
 | [],_=>by simp
 | x :: l,h=>by
  have h1:=flat_le f n l (fun y hy=>h y (.tail _ hy))
  have h2:=h x (.head _)
  simp only [List.flatMap_cons,List.length_append,List.length_cons,Nat.add_mul]
  omega
theorem range_is {s:Stp} {c:Int} {bits:List Int} (hw:(weighM s bits).2 = true) (hc:elemG s.g c = true):rangeM s c bits = bits.map (bitC s) ++ [lastC s c (weighM s bits).1]:=by
 unfold rangeM bitsM; rw [hw,hc]; rfl
theorem range_len {s:Stp} {c:Int} {bits:List Int} (hw:(weighM s bits).2 = true) (hc:elemG s.g c = true):(rangeM s c bits).length = bits.length + 1:=by
 rw [range_is hw hc]; simp
theorem range_goal {s:Stp} {c:Int} {bits:List Int} (hw:(weighM s bits).2 = true) (hc:elemG s.g c = true) (hl:bits.length ≤ 12):(goalL (rangeM s c bits)).length ≤ 1000000:=by
 have h1:∀ x ∈ rangeM s c bits,(clsL x).length ≤ 100:=by
  intro x hx
  rw [range_is hw hc] at hx
  rcases List.mem_append.1 hx with hx | hx
  ·obtain ⟨b,_,rfl⟩:=List.mem_map.1 hx
   simp [clsL,bitC,clmL,blindedM,eqnL,trmL]
  ·rw [List.mem_singleton.1 hx]
   simp [clsL,lastC,clmL,blindedM,eqnL,trmL]
 have h2:=flat_le clsL 100 _ h1
 have h3:=range_len hw hc
 simp only [goalL,List.length_cons]
 omega
theorem zNums_at {goal:List Cls} {i:Nat} {c:Cls} (h:goal[i]? = some c):(zNums goal)[i]? = some (List.replicate c.claims.length [0]):=by
 unfold zNums; rw [List.getElem?_map,h]; rfl
theorem zDares_at {goal:List Cls} {i:Nat} {c:Cls} (h:goal[i]? = some c):(zDares goal)[i]? = some (List.replicate c.claims.length 0):=by
 unfold zDares; rw [List.getElem?_map,h]; rfl
theorem zNums_len (goal:List Cls):(zNums goal).length = goal.length:=by simp [zNums]
theorem zDares_len (goal:List Cls):(zDares goal).length = goal.length:=by simp [zDares]
theorem cntH_take {ks:List Knw} {k:Nat} {u:Knw} (h:ks[k]? = some u):cntH (ks.take (k + 1)) = cntH (ks.take k) + (if u.has then 1 else 0):=by
 rw [List.take_add_one,h]
 exact cntH_snoc _ _
theorem cntH_le:∀ ks:List Knw,cntH ks ≤ ks.length
 | []=>by simp [cntH]
 | k :: ks=>by have:=cntH_le ks; simp only [cntH,List.length_cons]; split <;> omega
end PrSpec
namespace Go.Proofs
open Go Go.Sh Tryz
def sh_62 (a0 a1:Value) (K:VK) (w:World):Prop:=
 kN 24 a0 (fun v7 w=>
 kN 24 a1 (fun v9 w=>
 kB .neq 3 4 v7 v9 (fun v10 w=>
 condM v10
 (K (.bool false) w)
 (loopM [(.bool false),(.int .i64 0)] w (fun J_4 m_5 l_6 u_l_6 w0_l_6=>(fun w=>(
 kN 24 a0 (fun v13 w=>
 kB .lss 3 4 (l_6.getD 1 undef) v13 (fun v14 w=>
 condM v14
 (quietM w (fun C_9=>(oQ prog (.indexAddr 24 (.tmp 0) (.tmp 1)) 0 [a0,(l_6.getD 1 undef)] C_9 (fun v19=>
 oQ prog (.load 3 (.tmp 0)) 3 [v19] C_9 (fun v20=>
 oQ prog (.indexAddr 24 (.tmp 0) (.tmp 1)) 0 [a1,(l_6.getD 1 undef)] C_9 (fun v23=>
 oQ prog (.load 3 (.tmp 0)) 3 [v23] C_9 (fun v24=>
 oQ prog (.binOp .neq 3 (.tmp 0) (.tmp 1) 3) 4 [v20,v24] C_9 (fun v25=>
 ∀ w,C_9 w → (condM v25
 (K (.bool false) w)
 (kB .add 3 3 (l_6.getD 1 undef) (.int .i64 1) (fun v16 w=>
 J_4 [(l_6.getD 0 undef),v16] w ∧ m_5 [(l_6.getD 0 undef),v16] w < m_5 l_6 w0_l_6) w))))))))))
 (K (.bool true) w)) w) w)) w0_l_6))) w) w) w
theorem sh_62_ok {a0 a1:Value} {K:VK} {w:World} (h:sh_62 a0 a1 K w):callM prog 62 #[a0,a1] K w:=
 calls_of_code (fun _=>0) (fn:=Tryz.f62) (rs:=[.tmp 4]) Tryz.func62 rfl rfl (by kernel_rfl) (nB rfl) (Eq.mp (by kernel_rfl) h)
def sh_105 (a0 a1:Value) (K:VK) (w:World):Prop:=
 kN 30 a0 (fun v7 w=>
 kN 30 a1 (fun v9 w=>
 kB .neq 3 4 v7 v9 (fun v10 w=>
 condM v10
 (K (.bool false) w)
 (loopM [(.bool false),(.int .i64 0)] w (fun J_4 m_5 l_6 u_l_6 w0_l_6=>(fun w=>(
 kN 30 a0 (fun v13 w=>
 kB .lss 3 4 (l_6.getD 1 undef) v13 (fun v14 w=>
 condM v14
 (quietM w (fun C_9=>(oQ prog (.indexAddr 30 (.tmp 0) (.tmp 1)) 0 [a0,(l_6.getD 1 undef)] C_9 (fun v19=>
 oQ prog (.load 24 (.tmp 0)) 24 [v19] C_9 (fun v20=>
 oQ prog (.indexAddr 30 (.tmp 0) (.tmp 1)) 0 [a1,(l_6.getD 1 undef)] C_9 (fun v23=>
 oQ prog (.load 24 (.tmp 0)) 24 [v23] C_9 (fun v24=>
 callQ prog 62 #[v20,v24] C_9 (fun v25=>
 oQ prog (.unOp .not 4 (.tmp 0)) 4 [v25] C_9 (fun v26=>
 ∀ w,C_9 w → (condM v26
 (K (.bool false) w)
 (kB .add 3 3 (l_6.getD 1 undef) (.int .i64 1) (fun v16 w=>
 J_4 [(l_6.getD 0 undef),v16] w ∧ m_5 [(l_6.getD 0 undef),v16] w < m_5 l_6 w0_l_6) w)))))))))))
 (K (.bool true) w)) w) w)) w0_l_6))) w) w) w
theorem sh_105_ok {a0 a1:Value} {K:VK} {w:World} (h:sh_105 a0 a1 K w):callM prog 105 #[a0,a1] K w:=
 calls_of_code (fun _=>0) (fn:=Tryz.f105) (rs:=[.tmp 4]) Tryz.func105 rfl rfl (by kernel_rfl) (nB rfl) (Eq.mp (by kernel_rfl) h)
def sh_106 (a0 a1:Value) (K:VK) (w:World):Prop:=
 kN 29 a0 (fun v7 w=>
 kN 29 a1 (fun v9 w=>
 kB .neq 3 4 v7 v9 (fun v10 w=>
 condM v10
 (K (.bool false) w)
 (loopM [(.bool false),(.int .i64 0)] w (fun J_4 m_5 l_6 u_l_6 w0_l_6=>(fun w=>(
 kN 29 a0 (fun v13 w=>
 kB .lss 3 4 (l_6.getD 1 undef) v13 (fun v14 w=>
 condM v14
 (quietM w (fun C_9=>(oQ prog (.indexAddr 29 (.tmp 0) (.tmp 1)) 0 [a0,(l_6.getD 1 undef)] C_9 (fun v19=>
 oQ prog (.load 30 (.tmp 0)) 30 [v19] C_9 (fun v20=>
 oQ prog (.indexAddr 29 (.tmp 0) (.tmp 1)) 0 [a1,(l_6.getD 1 undef)] C_9 (fun v23=>
 oQ prog (.load 30 (.tmp 0)) 30 [v23] C_9 (fun v24=>
 callQ prog 105 #[v20,v24] C_9 (fun v25=>
 oQ prog (.unOp .not 4 (.tmp 0)) 4 [v25] C_9 (fun v26=>
 ∀ w,C_9 w → (condM v26
 (K (.bool false) w)
 (kB .add 3 3 (l_6.getD 1 undef) (.int .i64 1) (fun v16 w=>
 J_4 [(l_6.getD 0 undef),v16] w ∧ m_5 [(l_6.getD 0 undef),v16] w < m_5 l_6 w0_l_6) w)))))))))))
 (K (.bool true) w)) w) w)) w0_l_6))) w) w) w
theorem sh_106_ok {a0 a1:Value} {K:VK} {w:World} (h:sh_106 a0 a1 K w):callM prog 106 #[a0,a1] K w:=
 calls_of_code (fun _=>0) (fn:=Tryz.f106) (rs:=[.tmp 4]) Tryz.func106 rfl rfl (by kernel_rfl) (nB rfl) (Eq.mp (by kernel_rfl) h)
def sh_20 (a0 a1:Value) (K:VK) (w:World):Prop:=
 oM prog (.box 34 (.tmp 0)) 0 [a0] (fun v2 w=>
 oM prog (.box 34 (.tmp 0)) 0 [a1] (fun v3 w=>
 kF 34 0 v2 (fun v5 w=>
 kL 30 v5 (fun v6 w=>
 kF 34 0 v3 (fun v7 w=>
 kL 30 v7 (fun v8 w=>
 callM prog 105 #[v6,v8] (fun v9 w=>
 gT v9 (kF 34 1 v2) (fun v11 w=>
 gT v9 (kL 29 v11) (fun v12 w=>
 gT v9 (kF 34 1 v3) (fun v13 w=>
 gT v9 (kL 29 v13) (fun v14 w=>
 gT v9 (callM prog 106 #[v12,v14]) (fun v15 w=>
 kP v9 v15 (.bool false) (fun v16 w=>
 K v16 w) w) w) w) w) w) w) w) w) w) w) w) w) w
theorem sh_20_ok {a0 a1:Value} {K:VK} {w:World} (h:sh_20 a0 a1 K w):callM prog 20 #[a0,a1] K w:=
 calls_of_code (fun _=>0) (fn:=Tryz.f20) (rs:=[.tmp 4]) Tryz.func20 rfl rfl (by kernel_rfl) (nB rfl) (Eq.mp (by kernel_rfl) h)
def sh_86 (K:VK) (w:World):Prop:=
 kA 26 (fun v0 w=>
 oM prog (.build 23 #[(0,(.tmp 0)),(1,(.tmp 1)),(2,(.tmp 2))]) 23 [(.int .i64 23),(.int .i64 11),(.int .i64 4)] (fun v1 w=>
 oM prog (.buildSlice 24 2 #[(0,(.tmp 0)),(1,(.tmp 1))]) 24 [(.int .i64 16),(.int .i64 18)] (fun v2 w=>
 oM prog (.build 26 #[(0,(.tmp 0)),(1,(.tmp 1)),(2,(.tmp 2))]) 26 [v1,v2,(.int .i64 12)] (fun v3 w=>
 kS 26 v0 v3 (fun _ w=>
 ∃ r_5,(do loadVar 26 (← asAddr v0):Sem Value).run prog w = .ok r_5 w ∧ K r_5 w) w) w) w) w) w
theorem sh_86_ok {K:VK} {w:World} (h:sh_86 K w):callM prog 86 #[] K w:=
 calls_of_code (fun _=>0) (fn:=Tryz.f86) (rs:=[.cell 0 26]) Tryz.func86 rfl rfl (by kernel_rfl) (nB rfl) (Eq.mp (by kernel_rfl) h)
def sh_39 (a0:Value) (K:VK) (w:World):Prop:=
 oM prog (.box 26 (.tmp 0)) 0 [a0] (fun v1 w=>
 kF 26 1 v1 (fun v3 w=>
 kL 24 v3 (fun v4 w=>
 kN 24 v4 (fun v5 w=>
 kB .leq 3 4 v5 (.int .i64 9) (fun v6 w=>
 K v6 w) w) w) w) w) w
theorem sh_39_ok {a0:Value} {K:VK} {w:World} (h:sh_39 a0 K w):callM prog 39 #[a0] K w:=
 calls_of_code (fun _=>0) (fn:=Tryz.f39) (rs:=[.tmp 2]) Tryz.func39 rfl rfl (by kernel_rfl) (nB rfl) (Eq.mp (by kernel_rfl) h)
def sh_85 (a0 a1:Value) (K:VK) (w:World):Prop:=
 oM prog (.box 26 (.tmp 0)) 0 [a0] (fun v2 w=>
 kB .geq 3 4 a1 (.int .i64 0) (fun v6 w=>
 gT v6 (pureM a1) (fun v8 w=>
 gT v6 (kF 26 0 v2) (fun v9 w=>
 gT v6 (kF 23 1 v9) (fun v10 w=>
 gT v6 (kL 3 v10) (fun v11 w=>
 gT v6 (kB .lss 3 4 v8 v11) (fun v12 w=>
 kP v6 v12 (.bool false) (fun v13 w=>
 K v13 w) w) w) w) w) w) w) w) w
theorem sh_85_ok {a0 a1:Value} {K:VK} {w:World} (h:sh_85 a0 a1 K w):callM prog 85 #[a0,a1] K w:=
 calls_of_code (fun _=>0) (fn:=Tryz.f85) (rs:=[.tmp 4]) Tryz.func85 rfl rfl (by kernel_rfl) (nB rfl) (Eq.mp (by kernel_rfl) h)
def sh_38 (K:VK) (w:World):Prop:=
 callM prog 86 #[] (fun v16 w=>
 kA 26 (fun v1 w=>
 kS 26 v1 v16 (fun _ w=>
 kL 26 v1 (fun v18 w=>
 oM prog (.buildSlice 24 2 #[(0,(.tmp 0)),(1,(.tmp 1))]) 24 [(.int .i64 4),(.int .i64 4)] (fun v19 w=>
 callM prog 74 #[v18,v19] (fun v20 w=>
 kE 0 3 v20 (fun v21 w=>
 kE 1 4 v20 (fun v22 w=>
 kL 26 v1 (fun v24 w=>
 oM prog (.buildSlice 24 2 #[(0,(.tmp 0)),(1,(.tmp 1))]) 24 [(.int .i64 1),(.int .i64 2)] (fun v25 w=>
 callM prog 76 #[v24,(.int .i64 2),v25] (fun v26 w=>
 kE 0 24 v26 (fun v27 w=>
 kE 1 28 v26 (fun v28 w=>
 kE 2 4 v26 (fun v29 w=>
 heldM w (fun C_14 w=>(((true:Bool) = true) ∧ (jL 26 v1 C_14 (fun v30=>
 jL 26 v1 C_14 (fun v31=>
 pureH v27 C_14 (fun v33=>
 ∃ S_18:World → WK,∃ R_19:VK,(∀ v w w_1,S_18 w w_1 → R_19 v w → R_19 v w_1) ∧
 (∀ w,C_14 w → (callM prog 44 #[v31,(.int .i64 2),(.int .i64 3)] (fun v w_1=>C_14 w_1 ∧ S_18 w w_1 ∧ R_19 v w_1) w)) ∧
 (∀ w,C_14 w → ∀ v32,R_19 v32 w → (
 callM prog 40 #[v30,v32,v33] (fun v34 w=>
 kU v22 (fun v36 w=>
 gF v36 (pureM v21) (fun v38 w=>
 gF v36 (kC .neq 3 18 4 v38) (fun v39 w=>
 kP v36 (.bool true) v39 (fun v40 w=>
 gF v40 (pureM v29) (fun v42 w=>
 gF v40 (kU v42) (fun v43 w=>
 kP v40 (.bool true) v43 (fun v44 w=>
 gF v44 (pureM v27) (fun v46 w=>
 gF v44 (oM prog (.buildSlice 24 2 #[(0,(.tmp 0)),(1,(.tmp 1))]) 24 [(.int .i64 12),(.int .i64 1)]) (fun v47 w=>
 gF v44 (callM prog 62 #[v46,v47]) (fun v48 w=>
 gF v44 (kU v48) (fun v49 w=>
 kP v44 (.bool true) v49 (fun v50 w=>
 gF v50 (kL 26 v1) (fun v52 w=>
 gF v50 (oM prog (.buildSlice 24 2 #[(0,(.tmp 0)),(1,(.tmp 1))]) 24 [(.int .i64 1),(.int .i64 2)]) (fun v53 w=>
 gF v50 (callM prog 71 #[v52,(.int .i64 3),v53]) (fun v54 w=>
 gF v50 (kC .neq 3 9 4 v54) (fun v55 w=>
 kP v50 (.bool true) v55 (fun v56 w=>
 gF v56 (pureM v34) (fun v58 w=>
 gF v56 (kN 27 v58) (fun v59 w=>
 gF v56 (kC .neq 3 3 4 v59) (fun v60 w=>
 kP v56 (.bool true) v60 (fun v61 w=>
 condM v61
 (K (.bool false) w)
 (kI 27 v34 (.int .i64 2) (fun v63 w=>
 kL 65 v63 (fun v64 w=>
 kA 65 (fun v8 w=>
 kS 65 v8 v64 (fun _ w=>
 kF 65 1 v8 (fun v65 w=>
 kL 63 v65 (fun v66 w=>
 kN 63 v66 (fun v67 w=>
 kC .neq 3 1 4 v67 (fun v68 w=>
 gF v68 (pureM v28) (fun v70 w=>
 gF v68 (kN 28 v70) (fun v71 w=>
 gF v68 (kC .neq 3 2 4 v71) (fun v72 w=>
 kP v68 (.bool true) v72 (fun v73 w=>
 gF v73 (pureM v28) (fun v75 w=>
 gF v73 (kI 28 v75 (.int .i64 0)) (fun v76 w=>
 gF v73 (kL 114 v76) (fun v77 w=>
 gF v73 (kN 114 v77) (fun v78 w=>
 gF v73 (kC .neq 3 2 4 v78) (fun v79 w=>
 kP v73 (.bool true) v79 (fun v80 w=>
 gF v80 (pureM v28) (fun v82 w=>
 gF v80 (kI 28 v82 (.int .i64 0)) (fun v83 w=>
 gF v80 (kL 114 v83) (fun v84 w=>
 gF v80 (kI 114 v84 (.int .i64 0)) (fun v85 w=>
 gF v80 (kF 113 0 v85) (fun v86 w=>
 gF v80 (kL 4 v86) (fun v87 w=>
 gF v80 (kU v87) (fun v88 w=>
 kP v80 (.bool true) v88 (fun v89 w=>
 gF v89 (pureM v28) (fun v91 w=>
 gF v89 (kI 28 v91 (.int .i64 0)) (fun v92 w=>
 gF v89 (kL 114 v92) (fun v93 w=>
 gF v89 (kI 114 v93 (.int .i64 1)) (fun v94 w=>
 gF v89 (kF 113 0 v94) (fun v95 w=>
 gF v89 (kL 4 v95) (fun v96 w=>
 kP v89 (.bool true) v96 (fun v97 w=>
 condM v97
 (K (.bool false) w)
 (kL 26 v1 (fun v99 w=>
 callM prog 45 #[v99,(.int .i64 3),(.int .i64 5),(.string ⟨#[104,101,108,108,111]⟩)] (fun v100 w=>
 kE 0 74 v100 (fun v101 w=>
 kE 1 4 v100 (fun v102 w=>
 kA 74 (fun v9 w=>
 kS 74 v9 v101 (fun _ w=>
 oM prog (.buildSlice 24 1 #[(0,(.tmp 0))]) 24 [(.int .i64 4)] (fun v103 w=>
 oM prog (.buildSlice 30 1 #[(0,(.tmp 0))]) 30 [v103] (fun v104 w=>
 oM prog (.buildSlice 24 2 #[(0,(.tmp 0)),(1,(.tmp 1))]) 24 [(.int .i64 5),(.int .i64 6)] (fun v105 w=>
 oM prog (.buildSlice 30 1 #[(0,(.tmp 0))]) 30 [v105] (fun v106 w=>
 oM prog (.buildSlice 29 1 #[(0,(.tmp 0))]) 29 [v106] (fun v107 w=>
 oM prog (.build 34 #[(0,(.tmp 0)),(1,(.tmp 1))]) 34 [v104,v107] (fun v108 w=>
 kA 34 (fun v11 w=>
 kS 34 v11 v108 (fun _ w=>
 kL 34 v11 (fun v110 w=>
 callM prog 51 #[v110] (fun v111 w=>
 kE 0 9 v111 (fun v112 w=>
 kE 1 4 v111 (fun v113 w=>
 callM prog 52 #[v112] (fun v116 w=>
 kE 0 34 v116 (fun v117 w=>
 kE 1 4 v116 (fun v118 w=>
 kA 34 (fun v14 w=>
 kS 34 v14 v117 (fun _ w=>
 heldM w (fun C_95 w=>(((true:Bool) = true) ∧ (jL 26 v1 C_95 (fun v119=>
 jF 65 1 v8 C_95 (fun v120=>
 jL 63 v120 C_95 (fun v121=>
 jI 63 v121 (.int .i64 0) C_95 (fun v122=>
 jL 69 v122 C_95 (fun v123=>
 ∃ S_101:World → WK,∃ R_102:VK,(∀ v w w_1,S_101 w w_1 → R_102 v w → R_102 v w_1) ∧
 (∀ w,C_95 w → (oM prog (.buildSlice 24 1 #[(0,(.tmp 0))]) 24 [(.int .i64 9)] (fun v w_1=>C_95 w_1 ∧ S_101 w w_1 ∧ R_102 v w_1) w)) ∧
 (∃ R_103:VK,(∀ v w w_1,S_101 w w_1 → R_103 v w → R_103 v w_1) ∧
 (∀ w,C_95 w → ∀ v124,R_102 v124 w → (callM prog 41 #[v119,v123,v124] (fun v w_1=>C_95 w_1 ∧ S_101 w w_1 ∧ R_103 v w_1) w)) ∧
 (∃ R_105:VK,(∀ v w w_1,S_101 w w_1 → R_105 v w → R_105 v w_1) ∧
 (∀ w,C_95 w → ∀ v125,R_103 v125 w → (C_95 w ∧ S_101 w w ∧ R_105 v125 w)) ∧
 (∃ R_107:VK,(∀ v w w_1,S_101 w w_1 → R_107 v w → R_107 v w_1) ∧
 (∀ w,C_95 w → ∀ v126,R_105 v126 w → (gT v126 (pureM v102) (fun v w_1=>C_95 w_1 ∧ S_101 w w_1 ∧ R_107 v w_1) w)) ∧
 (∃ R_109:VK,(∀ v w w_1,S_101 w w_1 → R_109 v w → R_109 v w_1) ∧
 (∀ w,C_95 w → ∀ v126,R_105 v126 w → ∀ v127,R_107 v127 w → (kP v126 v127 (.bool false) (fun v w_1=>C_95 w_1 ∧ S_101 w w_1 ∧ R_109 v w_1) w)) ∧
 (∃ R_112:VK,(∀ v w w_1,S_101 w w_1 → R_112 v w → R_112 v w_1) ∧
 (∀ w,C_95 w → ∀ v128,R_109 v128 w → (C_95 w ∧ S_101 w w ∧ R_112 v128 w)) ∧
 (∃ R_114:VK,(∀ v w w_1,S_101 w w_1 → R_114 v w → R_114 v w_1) ∧
 (∀ w,C_95 w → ∀ v129,R_112 v129 w → (gT v129 (kL 26 v1) (fun v w_1=>C_95 w_1 ∧ S_101 w w_1 ∧ R_114 v w_1) w)) ∧
 (∃ R_116:VK,(∀ v w w_1,S_101 w w_1 → R_116 v w → R_116 v w_1) ∧
 (∀ w,C_95 w → ∀ v129,R_112 v129 w → (gT v129 (kL 74 v9) (fun v w_1=>C_95 w_1 ∧ S_101 w w_1 ∧ R_116 v w_1) w)) ∧
 (∃ R_118:VK,(∀ v w w_1,S_101 w w_1 → R_118 v w → R_118 v w_1) ∧
 (∀ w,C_95 w → ∀ v129,R_112 v129 w → ∀ v130,R_114 v130 w → ∀ v131,R_116 v131 w → (gT v129 (callM prog 47 #[v130,(.int .i64 18),(.string ⟨#[104,101,108,108,111]⟩),v131]) (fun v w_1=>C_95 w_1 ∧ S_101 w w_1 ∧ R_118 v w_1) w)) ∧
 (∃ R_122:VK,(∀ v w w_1,S_101 w w_1 → R_122 v w → R_122 v w_1) ∧
 (∀ w,C_95 w → ∀ v129,R_112 v129 w → ∀ v132,R_118 v132 w → (kP v129 v132 (.bool false) (fun v w_1=>C_95 w_1 ∧ S_101 w w_1 ∧ R_122 v w_1) w)) ∧
 (∃ R_125:VK,(∀ v w w_1,S_101 w w_1 → R_125 v w → R_125 v w_1) ∧
 (∀ w,C_95 w → ∀ v133,R_122 v133 w → (C_95 w ∧ S_101 w w ∧ R_125 v133 w)) ∧
 (∃ R_127:VK,(∀ v w w_1,S_101 w w_1 → R_127 v w → R_127 v w_1) ∧
 (∀ w,C_95 w → ∀ v134,R_125 v134 w → (gT v134 (pureM v113) (fun v w_1=>C_95 w_1 ∧ S_101 w w_1 ∧ R_127 v w_1) w)) ∧
 (∃ R_129:VK,(∀ v w w_1,S_101 w w_1 → R_129 v w → R_129 v w_1) ∧
 (∀ w,C_95 w → ∀ v134,R_125 v134 w → ∀ v135,R_127 v135 w → (kP v134 v135 (.bool false) (fun v w_1=>C_95 w_1 ∧ S_101 w w_1 ∧ R_129 v w_1) w)) ∧
 (∃ R_132:VK,(∀ v w w_1,S_101 w w_1 → R_132 v w → R_132 v w_1) ∧
 (∀ w,C_95 w → ∀ v136,R_129 v136 w → (C_95 w ∧ S_101 w w ∧ R_132 v136 w)) ∧
 (∃ R_134:VK,(∀ v w w_1,S_101 w w_1 → R_134 v w → R_134 v w_1) ∧
 (∀ w,C_95 w → ∀ v137,R_132 v137 w → (gT v137 (pureM v118) (fun v w_1=>C_95 w_1 ∧ S_101 w w_1 ∧ R_134 v w_1) w)) ∧
 (∃ R_136:VK,(∀ v w w_1,S_101 w w_1 → R_136 v w → R_136 v w_1) ∧
 (∀ w,C_95 w → ∀ v137,R_132 v137 w → ∀ v138,R_134 v138 w → (kP v137 v138 (.bool false) (fun v w_1=>C_95 w_1 ∧ S_101 w w_1 ∧ R_136 v w_1) w)) ∧
 (∃ R_139:VK,(∀ v w w_1,S_101 w w_1 → R_139 v w → R_139 v w_1) ∧
 (∀ w,C_95 w → ∀ v139,R_136 v139 w → (C_95 w ∧ S_101 w w ∧ R_139 v139 w)) ∧
 (∃ R_141:VK,(∀ v w w_1,S_101 w w_1 → R_141 v w → R_141 v w_1) ∧
 (∀ w,C_95 w → ∀ v140,R_139 v140 w → (gT v140 (kL 34 v11) (fun v w_1=>C_95 w_1 ∧ S_101 w w_1 ∧ R_141 v w_1) w)) ∧
 (∃ R_143:VK,(∀ v w w_1,S_101 w w_1 → R_143 v w → R_143 v w_1) ∧
 (∀ w,C_95 w → ∀ v140,R_139 v140 w → (gT v140 (kL 34 v14) (fun v w_1=>C_95 w_1 ∧ S_101 w w_1 ∧ R_143 v w_1) w)) ∧
 (∀ w,C_95 w → ∀ v124,R_102 v124 w → ∀ v125,R_103 v125 w → ∀ v126,R_105 v126 w → ∀ v127,R_107 v127 w → ∀ v128,R_109 v128 w → ∀ v129,R_112 v129 w → ∀ v130,R_114 v130 w → ∀ v131,R_116 v131 w → ∀ v132,R_118 v132 w → ∀ v133,R_122 v133 w → ∀ v134,R_125 v134 w → ∀ v135,R_127 v135 w → ∀ v136,R_129 v136 w → ∀ v137,R_132 v137 w → ∀ v138,R_134 v138 w → ∀ v139,R_136 v139 w → ∀ v140,R_139 v140 w → ∀ v141,R_141 v141 w → ∀ v142,R_143 v142 w → (
 gT v140 (callM prog 20 #[v141,v142]) (fun v143 w=>
 kP v140 v143 (.bool false) (fun v144 w=>
 K v144 w) w) w))))))))))))))))))))))))))))) w) w) w) w) w) w) w) w) w) w) w) w) w) w) w) w) w) w) w) w) w) w) w)) w) w) w) w) w) w) w) w) w) w) w) w) w) w) w) w) w) w) w) w) w) w) w) w) w) w) w) w) w) w) w) w) w)) w) w) w) w) w) w) w) w) w) w) w) w) w) w) w) w) w) w) w) w) w) w))))))))) w) w) w) w) w) w) w) w) w) w) w) w) w) w
theorem sh_38_ok {K:VK} {w:World} (h:sh_38 K w):callM prog 38 #[] K w:=
 calls_of_code (fun i=>bif Nat.beq i 4 then .free [0,1,3] [2] [4,5] else bif Nat.beq i 14 then .free [0,1,2,3,4] [5,6,7,8,9,10,11,12,13,14,15,16,17,18,19,20,21,22,23] [24,25,26] else 0) (fn:=Tryz.f38) (rs:=[.tmp 0]) Tryz.func38 rfl rfl (by kernel_rfl) (nB rfl) (Eq.mp (by kernel_rfl) h)
end Go.Proofs
namespace Go.Proofs
open Go Go.Sh Tryz
def held_13_86 (K:VK) (M_84:List Value → World → Prop) (l_60 l_79:List Value) (v5 v66 v76:Value) (w:World):Prop:=
 heldM w (fun C_86 w=>(((true:Bool) = true) ∧ (pureH v76 C_86 (fun v118=>
 pureH (l_60.getD 4 undef) C_86 (fun v119=>
 jI 28 v118 v119 C_86 (fun v120=>
 jL 114 v120 C_86 (fun v121=>
 pureH (l_79.getD 3 undef) C_86 (fun v122=>
 jI 114 v121 v122 C_86 (fun v123=>
 jF 113 0 v123 C_86 (fun v124=>
 jL 4 v124 C_86 (fun v125=>
 pureH v125 C_86 (fun v126=>
 jT v126 (jL 26 v5) C_86 (fun v127=>
 jT v126 (pureH v66) C_86 (fun v128=>
 jT v126 (pureH (l_60.getD 4 undef)) C_86 (fun v129=>
 jT v126 (jI 27 v128 v129) C_86 (fun v130=>
 jT v126 (jF 65 1 v130) C_86 (fun v131=>
 jT v126 (jL 63 v131) C_86 (fun v132=>
 jT v126 (pureH (l_79.getD 3 undef)) C_86 (fun v133=>
 jT v126 (jI 63 v132 v133) C_86 (fun v134=>
 jT v126 (jL 69 v134) C_86 (fun v135=>
 jT v126 (pureH v76) C_86 (fun v136=>
 jT v126 (pureH (l_60.getD 4 undef)) C_86 (fun v137=>
 jT v126 (jI 28 v136 v137) C_86 (fun v138=>
 jT v126 (jL 114 v138) C_86 (fun v139=>
 jT v126 (pureH (l_79.getD 3 undef)) C_86 (fun v140=>
 jT v126 (jI 114 v139 v140) C_86 (fun v141=>
 jT v126 (jF 113 1 v141) C_86 (fun v142=>
 jT v126 (jL 24 v142) C_86 (fun v143=>
 ∃ S_113:World → WK,∀ w,C_86 w → (
 gT v126 (callM prog 41 #[v127,v135,v143]) (fun v144 w=>
 kP v126 v144 (.bool false) (fun v145 w=>
 condM v145
 (kB .add 3 3 (l_79.getD 0 undef) (.int .i64 1) (fun v147 w=>
 M_84 [v147,(l_79.getD 1 undef)] w) w)
 (kI 28 v76 (l_60.getD 4 undef) (fun v150 w=>
 kL 114 v150 (fun v151 w=>
 kI 114 v151 (l_79.getD 3 undef) (fun v153 w=>
 kF 113 0 v153 (fun v154 w=>
 kL 4 v154 (fun v155 w=>
 condM v155
 (K (.bool false) w)
 (M_84 [(l_79.getD 0 undef),(l_79.getD 1 undef)] w)) w) w) w) w) w)) w) w))))))))))))))))))))))))))))))
def post_13_84 (J_77:List Value → World → Prop) (l_79:List Value) (m_78:List Value → World → Nat) (w0_l_79:World) (l_85:List Value) (w:World):Prop:=
 oM prog (.buildSlice 24 1 #[(0,(.tmp 0))]) 24 [(.int .i64 0)] (fun v157 w=>
 oM prog (.buildSlice 30 1 #[(0,(.tmp 0))]) 30 [v157] (fun v158 w=>
 oM prog (.call (Go.Call.mk (.builtin .append) #[(.tmp 0),(.tmp 1)] #[30,30])) 30 [(l_79.getD 2 undef),v158] (fun v159 w=>
 kB .add 3 3 (l_79.getD 3 undef) (.int .i64 1) (fun v117 w=>
 J_77 [(l_85.getD 0 undef),(l_85.getD 1 undef),v159,v117] w ∧ m_78 [(l_85.getD 0 undef),(l_85.getD 1 undef),v159,v117] w < m_78 l_79 w0_l_79) w) w) w) w
def held_13_132 (J_58:List Value → World → Prop) (l_60 l_79:List Value) (m_59:List Value → World → Nat) (v16:Value) (w0_l_60 w:World):Prop:=
 heldM w (fun C_132 w=>(((true:Bool) = true) ∧ (jF 32 1 v16 C_132 (fun v168=>
 jL 30 v168 C_132 (fun v169=>
 pureH (l_79.getD 2 undef) C_132 (fun v170=>
 jN 30 v170 C_132 (fun v171=>
 ∃ S_137:World → WK,∃ R_138:VK,(∀ v w w_1,S_137 w w_1 → R_138 v w → R_138 v w_1) ∧
 (∀ w,C_132 w → (oM prog (.makeSlice 24 (.tmp 0) (.tmp 1)) 24 [v171,v171] (fun v w_1=>C_132 w_1 ∧ S_137 w w_1 ∧ R_138 v w_1) w)) ∧
 (∃ R_139:VK,(∀ v w w_1,S_137 w w_1 → R_139 v w → R_139 v w_1) ∧
 (∀ w,C_132 w → ∀ v172,R_138 v172 w → (oM prog (.buildSlice 30 1 #[(0,(.tmp 0))]) 30 [v172] (fun v w_1=>C_132 w_1 ∧ S_137 w w_1 ∧ R_139 v w_1) w)) ∧
 (∀ w,C_132 w → ∀ v172,R_138 v172 w → ∀ v173,R_139 v173 w → (
 oM prog (.call (Go.Call.mk (.builtin .append) #[(.tmp 0),(.tmp 1)] #[30,30])) 30 [v169,v173] (fun v174 w=>
 kF 32 1 v16 (fun v175 w=>
 kS 30 v175 v174 (fun _ w=>
 kB .add 3 3 (l_60.getD 4 undef) (.int .i64 1) (fun v96 w=>
 J_58 [(l_79.getD 1 undef),(l_79.getD 0 undef),(l_79.getD 2 undef),(l_79.getD 3 undef),v96] w ∧ m_59 [(l_79.getD 1 undef),(l_79.getD 0 undef),(l_79.getD 2 undef),(l_79.getD 3 undef),v96] w < m_59 l_60 w0_l_60) w) w) w) w))))))))))
def loop_13_77 (J_58 J_77:List Value → World → Prop) (K:VK) (l_60 l_79:List Value) (m_59 m_78:List Value → World → Nat) (v16 v5 v66 v76:Value) (w0_l_60 w0_l_79:World):Prop:=
(fun w=>(
 kI 28 v76 (l_60.getD 4 undef) (fun v112 w=>
 kL 114 v112 (fun v113 w=>
 kN 114 v113 (fun v114 w=>
 kB .lss 3 4 (l_79.getD 3 undef) v114 (fun v115 w=>
 condM v115
 (joinM (fun M_84=>(held_13_86 K M_84 l_60 l_79 v5 v66 v76 w))
 (fun l_85 u_l_85 w=>(post_13_84 J_77 l_79 m_78 w0_l_79 l_85 w)))
 (kC .neq 3 1 4 (l_79.getD 0 undef) (fun v161 w=>
 condM v161
 (K (.bool false) w)
 (kF 32 0 v16 (fun v162 w=>
 kL 29 v162 (fun v163 w=>
 oM prog (.buildSlice 29 1 #[(0,(.tmp 0))]) 29 [(l_79.getD 2 undef)] (fun v165 w=>
 oM prog (.call (Go.Call.mk (.builtin .append) #[(.tmp 0),(.tmp 1)] #[29,29])) 29 [v163,v165] (fun v166 w=>
 kF 32 0 v16 (fun v167 w=>
 kS 29 v167 v166 (fun _ w=>
 held_13_132 J_58 l_60 l_79 m_59 v16 w0_l_60 w) w) w) w) w) w) w)) w)) w) w) w) w)) w0_l_79
def held_13_63 (J_58:List Value → World → Prop) (K:VK) (l_60:List Value) (m_59:List Value → World → Nat) (v16 v5 v66 v76:Value) (w0_l_60 w:World):Prop:=
 heldM w (fun C_63 w=>(((true:Bool) = true) ∧ (pureH v66 C_63 (fun v97=>
 pureH (l_60.getD 4 undef) C_63 (fun v98=>
 jI 27 v97 v98 C_63 (fun v99=>
 jF 65 1 v99 C_63 (fun v100=>
 jL 63 v100 C_63 (fun v101=>
 jN 63 v101 C_63 (fun v102=>
 pureH v76 C_63 (fun v103=>
 pureH (l_60.getD 4 undef) C_63 (fun v104=>
 jI 28 v103 v104 C_63 (fun v105=>
 jL 114 v105 C_63 (fun v106=>
 jN 114 v106 C_63 (fun v107=>
 jB .neq 3 4 v102 v107 C_63 (fun v108=>
 ∃ S_76:World → WK,∀ w,C_63 w → (
 condM v108
 (K (.bool false) w)
 (loopM [(.int .i64 0),(l_60.getD 0 undef),(.slice none 0 0),(.int .i64 0)] w (fun J_77 m_78 l_79 u_l_79 w0_l_79=>loop_13_77 J_58 J_77 K l_60 l_79 m_59 m_78 v16 v5 v66 v76 w0_l_60 w0_l_79))))))))))))))))))
def loop_13_58 (J_58:List Value → World → Prop) (K:VK) (a4:Value) (l_60:List Value) (m_59:List Value → World → Nat) (v16 v23 v5 v66 v76:Value) (w0_l_60:World):Prop:=
(fun w=>(
 kN 27 v66 (fun v93 w=>
 kB .lss 3 4 (l_60.getD 4 undef) v93 (fun v94 w=>
 condM v94
 (held_13_63 J_58 K l_60 m_59 v16 v5 v66 v76 w0_l_60 w)
 (kL 26 v5 (fun v177 w=>
 kL 32 v16 (fun v181 w=>
 callM prog 18 #[v177,v66,a4,v76,v181] (fun v182 w=>
 kE 0 34 v182 (fun v183 w=>
 kE 1 39 v182 (fun v184 w=>
 kA 34 (fun v21 w=>
 kS 34 v21 v183 (fun _ w=>
 gT v23 (pureM v184) (fun v187 w=>
 gT v23 (kC .eql 39 0 4 v187) (fun v188 w=>
 kP v23 v188 (.bool false) (fun v189 w=>
 gT v189 (kL 26 v5) (fun v191 w=>
 gT v189 (pureM v66) (fun v192 w=>
 gT v189 (pureM a4) (fun v193 w=>
 gT v189 (kL 34 v21) (fun v194 w=>
 gT v189 (callM prog 30 #[v191,v192,v193,v194]) (fun v195 w=>
 kP v189 v195 (.bool false) (fun v196 w=>
 K v196 w) w) w) w) w) w) w) w) w) w) w) w) w) w) w) w) w)) w) w)) w0_l_60
def held_13_29 (K:VK) (a1 a2 a3 a4 v23 v49 v50 v5:Value) (w:World):Prop:=
 heldM w (fun C_29 w=>(((true:Bool) = true) ∧ (jL 26 v5 C_29 (fun v60=>
 jL 26 v5 C_29 (fun v61=>
 pureH a1 C_29 (fun v62=>
 pureH a2 C_29 (fun v63=>
 pureH v49 C_29 (fun v65=>
 ∃ S_35:World → WK,∃ R_36:VK,(∀ v w w_1,S_35 w w_1 → R_36 v w → R_36 v w_1) ∧
 (∀ w,C_29 w → (callM prog 44 #[v61,v62,v63] (fun v w_1=>C_29 w_1 ∧ S_35 w w_1 ∧ R_36 v w_1) w)) ∧
 (∀ w,C_29 w → ∀ v64,R_36 v64 w → (
 callM prog 40 #[v60,v64,v65] (fun v66 w=>
 kL 26 v5 (fun v68 w=>
 callM prog 71 #[v68,a2,a3] (fun v71 w=>
 oM prog (.buildSlice 24 1 #[(0,(.tmp 0))]) 24 [v71] (fun v72 w=>
 oM prog (.build 113 #[(0,(.tmp 0)),(1,(.tmp 1))]) 113 [(.bool true),v72] (fun v73 w=>
 oM prog (.buildSlice 114 1 #[(0,(.tmp 0))]) 114 [v73] (fun v74 w=>
 oM prog (.buildSlice 28 1 #[(0,(.tmp 0))]) 28 [v74] (fun v75 w=>
 oM prog (.call (Go.Call.mk (.builtin .append) #[(.tmp 0),(.tmp 1)] #[28,28])) 28 [v50,v75] (fun v76 w=>
 kN 27 v66 (fun v78 w=>
 kN 28 v76 (fun v80 w=>
 kB .neq 3 4 v78 v80 (fun v81 w=>
 gF v81 (pureM v66) (fun v83 w=>
 gF v81 (kN 27 v83) (fun v84 w=>
 gF v81 (pureM a3) (fun v85 w=>
 gF v81 (kN 24 v85) (fun v86 w=>
 gF v81 (kB .add 3 3 v86 (.int .i64 1)) (fun v87 w=>
 gF v81 (kB .neq 3 4 v84 v87) (fun v88 w=>
 kP v81 (.bool true) v88 (fun v89 w=>
 condM v89
 (K (.bool false) w)
 (oM prog (.build 32 #[]) 32 [] (fun v90 w=>
 kA 32 (fun v16 w=>
 kS 32 v16 v90 (fun _ w=>
 loopM [(.bool false),undef,undef,undef,(.int .i64 0)] w (fun J_58 m_59 l_60 u_l_60 w0_l_60=>loop_13_58 J_58 K a4 l_60 m_59 v16 v23 v5 v66 v76 w0_l_60)) w) w) w)) w) w) w) w) w) w) w) w) w) w) w) w) w) w) w) w) w) w))))))))))
def sh_13 (a0 a1 a2 a3 a4:Value) (K:VK) (w:World):Prop:=
 oM prog (.box 26 (.tmp 0)) 0 [a0] (fun v5 w=>
 callM prog 38 #[] (fun v23 w=>
 kL 26 v5 (fun v24 w=>
 callM prog 39 #[v24] (fun v25 w=>
 kU v25 (fun v26 w=>
 gF v26 (pureM a3) (fun v28 w=>
 gF v26 (kN 24 v28) (fun v29 w=>
 gF v26 (kB .gtr 3 4 v29 (.int .i64 12)) (fun v30 w=>
 kP v26 (.bool true) v30 (fun v31 w=>
 gF v31 (pureM a4) (fun v33 w=>
 gF v31 (kN 9 v33) (fun v34 w=>
 gF v31 (kB .gtr 3 4 v34 (.int .i64 100)) (fun v35 w=>
 kP v31 (.bool true) v35 (fun v36 w=>
 gF v36 (kL 26 v5) (fun v38 w=>
 gF v36 (pureM a2) (fun v39 w=>
 gF v36 (callM prog 85 #[v38,v39]) (fun v40 w=>
 gF v36 (kU v40) (fun v41 w=>
 kP v36 (.bool true) v41 (fun v42 w=>
 condM v42
 (K v23 w)
 (kL 26 v5 (fun v45 w=>
 callM prog 76 #[v45,a1,a3] (fun v48 w=>
 kE 0 24 v48 (fun v49 w=>
 kE 1 28 v48 (fun v50 w=>
 kE 2 4 v48 (fun v51 w=>
 kU v51 (fun v53 w=>
 condM v53
 (gT v23 (pureM v49) (fun v56 w=>
 gT v23 (kN 24 v56) (fun v57 w=>
 gT v23 (kC .eql 3 0 4 v57) (fun v58 w=>
 kP v23 v58 (.bool false) (fun v59 w=>
 K v59 w) w) w) w) w)
 (held_13_29 K a1 a2 a3 a4 v23 v49 v50 v5 w)) w) w) w) w) w) w)) w) w) w) w) w) w) w) w) w) w) w) w) w) w) w) w) w) w
theorem sh_13_ok {a0 a1 a2 a3 a4:Value} {K:VK} {w:World} (h:sh_13 a0 a1 a2 a3 a4 K w):callM prog 13 #[a0,a1,a2,a3,a4] K w:=
 calls_of_code (fun i=>bif Nat.beq i 7 then .free [0,1,2,3,5] [4] [6,7] else bif Nat.beq i 15 then .free [0,1,2,3,4,5,6,7,8,9,10,11] [] [] else bif Nat.beq i 22 then .free [0,1,2,3,4,5,6,7,8,9,10,11,12,13,14,15,16,17,18,19,20,21,22,23,24,25] [] [26,27] else bif Nat.beq i 30 then .free [0,1,2,3] [4,5] [6,7,8] else 0) (fn:=Tryz.f13) (rs:=[.tmp 10]) Tryz.func13 rfl rfl (by kernel_rfl) (nB rfl) (Eq.mp (by kernel_rfl) h)
end Go.Proofs
namespace PrSpec
open FdSpec TkSpec CodeSpec FdPoly GrLaw
theorem itemL_take:∀ (d:List Int) (a:List (List Int)) (k:Nat) (x:Int) (y:List Int),d[k]? = some x → a[k]? = some y → itemL (d.take (k + 1)) (a.take (k + 1)) = itemL (d.take k) (a.take k) ++ (x :: (y.length:Int) :: y)
 | [],_,_,_,_,h,_=>by simp at h
 | _ :: _,[],_,_,_,_,h=>by simp at h
 | d :: ds,a :: asx,0,x,y,h,h2=>by
  simp at h h2
  subst h; subst h2
  simp [itemL]
 | d :: ds,a :: asx,k + 1,x,y,h,h2=>by
  have:=itemL_take ds asx k x y (by simpa using h) (by simpa using h2)
  simp only [List.take_succ_cons,itemL,this,List.cons_append,List.append_assoc]
theorem clauseL_take:∀ (d:List (List Int)) (a:List (List (List Int))) (k:Nat) (x:List Int) (y:List (List Int)),d[k]? = some x → a[k]? = some y → clauseL (d.take (k + 1)) (a.take (k + 1)) = clauseL (d.take k) (a.take k) ++ ((x.length:Int) :: itemL x y)
 | [],_,_,_,_,h,_=>by simp at h
 | _ :: _,[],_,_,_,_,h=>by simp at h
 | d :: ds,a :: asx,0,x,y,h,h2=>by
  simp at h h2
  subst h; subst h2
  simp [clauseL]
 | d :: ds,a :: asx,k + 1,x,y,h,h2=>by
  have:=clauseL_take ds asx k x y (by simpa using h) (by simpa using h2)
  simp only [List.take_succ_cons,clauseL,this,List.cons_append,List.append_assoc]
theorem even_iff:∀ (ds:List (List Int)) (asx:List (List (List Int))),evenL ds asx = true ↔ ds.length = asx.length ∧ ∀ (i:Nat) (d:List Int) (a:List (List Int)),ds[i]? = some d → asx[i]? = some a → d.length = a.length
 | [],[]=>by simp [evenL]
 | [],a :: asx=>by simp [evenL]
 | d :: ds,[]=>by simp [evenL]
 | d :: ds,a :: asx=>by
  have ih:=even_iff ds asx
  simp only [evenL,Bool.and_eq_true,decide_eq_true_eq,ih,List.length_cons,Nat.add_right_cancel_iff]
  constructor
  ·rintro ⟨h1,h2,h3⟩
   refine ⟨h2,fun i=>?_⟩
   cases i with
   | zero=>intro d' a' e1 e2; simp at e1 e2; subst e1; subst e2; exact h1
   | succ i=>intro d' a' e1 e2; exact h3 i d' a' (by simpa using e1) (by simpa using e2)
  ·rintro ⟨h2,h3⟩
   exact ⟨h3 0 d a (by simp) (by simp),h2,fun i d' a' e1 e2=>h3 (i + 1) d' a' (by simpa using e1) (by simpa using e2)⟩
theorem itemL_in:∀ (d:List Int) (a:List (List Int)),(∀ x ∈ d,InR x) → (∀ y ∈ a,(y.length:Int) ≤ 9223372036854775807 ∧ ∀ x ∈ y,InR x) → ∀ x ∈ itemL d a,InR x
 | [],_,_,_=>by simp [itemL]
 | _ :: _,[],_,_=>by simp [itemL]
 | d :: ds,a :: asx,h1,h2=>by
  intro x hx
  simp only [itemL,List.mem_cons,List.mem_append] at hx
  have h3:=h2 a (by simp)
  rcases hx with rfl | rfl | hx | hx
  ·exact h1 _ (by simp)
  ·unfold InR; omega
  ·exact h3.2 x hx
  ·exact itemL_in ds asx (fun x hx=>h1 x (by simp [hx])) (fun y hy=>h2 y (by simp [hy])) x hx
theorem clauseL_in:∀ (d:List (List Int)) (a:List (List (List Int))),(∀ y ∈ d,(y.length:Int) ≤ 9223372036854775807 ∧ ∀ x ∈ y,InR x) → (∀ z ∈ a,∀ y ∈ z,(y.length:Int) ≤ 9223372036854775807 ∧ ∀ x ∈ y,InR x) → ∀ x ∈ clauseL d a,InR x
 | [],_,_,_=>by simp [clauseL]
 | _ :: _,[],_,_=>by simp [clauseL]
 | d :: ds,a :: asx,h1,h2=>by
  intro x hx
  simp only [clauseL,List.mem_cons,List.mem_append] at hx
  have h3:=h1 d (by simp)
  rcases hx with rfl | hx | hx
  ·unfold InR; omega
  ·exact itemL_in d a h3.2 (fun y hy=>h2 a (by simp) y hy) x hx
  ·exact clauseL_in ds asx (fun y hy=>h1 y (by simp [hy])) (fun z hz=>h2 z (by simp [hz])) x hx
end PrSpec
namespace PrSpec
open FdSpec TkSpec CodeSpec FdPoly GrLaw
theorem itemL_le {N:Nat}:∀ (d:List Int) (a:List (List Int)),(∀ y ∈ a,y.length ≤ N) → (itemL d a).length ≤ (N + 2) * d.length
 | [],_,_=>by simp [itemL]
 | _ :: _,[],_=>by simp [itemL]
 | d :: ds,a :: asx,h=>by
  have ih:=itemL_le ds asx (fun y hy=>h y (by simp [hy]))
  have h1:=h a (by simp)
  simp only [itemL,List.length_cons,List.length_append,Nat.mul_add,Nat.mul_one]
  omega
theorem clauseL_le {N:Nat}:∀ (d:List (List Int)) (a:List (List (List Int))),(∀ y ∈ d,y.length ≤ N) → (∀ z ∈ a,∀ y ∈ z,y.length ≤ N) → (clauseL d a).length ≤ ((N + 2) * N + 1) * d.length
 | [],_,_,_=>by simp [clauseL]
 | _ :: _,[],_,_=>by simp [clauseL]
 | d :: ds,a :: asx,h,h2=>by
  have ih:=clauseL_le ds asx (fun y hy=>h y (by simp [hy])) (fun z hz=>h2 z (by simp [hz]))
  have h1:=itemL_le d a (h2 a (by simp))
  have h3:=h d (by simp)
  have h4:(N + 2) * d.length ≤ (N + 2) * N:=Nat.mul_le_mul_left _ h3
  simp only [clauseL,List.length_cons,List.length_append,Nat.mul_add,Nat.mul_one]
  simp only [Nat.add_mul,Nat.mul_add,Nat.one_mul,Nat.mul_one] at *
  omega
structure SmallP (N:Nat) (ds:List (List Int)) (asx:List (List (List Int))):Prop where
 n:ds.length ≤ N
 d:∀ y ∈ ds,y.length ≤ N
 a:∀ z ∈ asx,∀ y ∈ z,y.length ≤ N
theorem clauseL_small {ds:List (List Int)} {asx:List (List (List Int))} (h:SmallP 1000 ds asx) (i:Nat):(clauseL (ds.take i) (asx.take i)).length ≤ 1002001000:=by
 have:=clauseL_le (N:=1000) (ds.take i) (asx.take i) (fun y hy=>h.d y (List.mem_of_mem_take hy)) (fun z hz=>h.a z (List.mem_of_mem_take hz))
 have h2:(ds.take i).length ≤ 1000:=by rw [List.length_take]; have:=h.n; omega
 have h3:((1000 + 2) * 1000 + 1) * (ds.take i).length ≤ ((1000 + 2) * 1000 + 1) * 1000:=Nat.mul_le_mul_left _ h2
 omega
end PrSpec
namespace Go.Proofs
open Go Go.Sh Go.RowKit FdSpec TkSpec CodeSpec PrSpec
section
variable {K:VK} {w w' w0 W:World} {L:List (Addr × Value)}
theorem _root_.Go.Proofs.SRow.one {α:Type} {R:World → Value → α → Prop} {ad:Option Addr} {m c:Nat} {l:List α} (h:SRow 1 (AtOf 1 (VOne R)) w (.slice ad m c) l) {i:Nat} (hi:i < l.length):∃ b o v,ad = some ⟨b,o,none⟩ ∧ b < w.heap.size ∧ w.cell? ⟨b,o + i,none⟩ = some v ∧ R w v l[i]:=by
 obtain ⟨b,o,rfl,hlt,cs,hc,h1,v,rfl,h2⟩:=h.at hi
 refine ⟨b,o,v,rfl,hlt,?_,h2⟩
 have:=h1 0 v rfl
 rwa [Nat.mul_one,Nat.add_zero] at this
theorem appendNg {B:Nat} {T:TypeId} {v xv:Value} {l m:List Int} (ho:OwnI w B v l) (hB:B ≤ w.heap.size) (hx:Ints w xv m) (hl:l.length + m.length < 1099511627776)
  (k:∀ v' w',OwnI w' B v' (l ++ m) → w.grownBy w' v.ownBlock → (∀ i,v'.ownBlock = some i → v.ownBlock = some i ∨ w.heap.size ≤ i) → K v' w'):oM Tryz.prog (.call { callee:=.builtin .append,args:=#[.tmp 0,.tmp 1],argTypes:=#[24,24] }) T [v,xv] K w:=by
 obtain ⟨⟨ad,c,rfl,h0,hc⟩,hr,_⟩:=hx
 have hfl:(flat intC m).length = m.length:=by rw [flat_int]; simp
 refine append_at 24 T 3 ((Tryz.prog.info? 3).getD default) (.int .i64 0) 1 8 (by kernel_rfl) (by kernel_rfl) (by kernel_rfl) (by kernel_rfl) (by kernel_rfl) (by kernel_rfl) (by omega) (owns_base ho (Nat.zero_le _)) (flat intC m) (by rw [hfl]; omega) h0 ?_ ?_ (by simp only [maxLen]; omega) (by omega) ?_
 ·rintro a ha j u hj
  rcases hc with hc | ⟨b,o,e,hlt,hcell⟩
  ·subst hc; simp [flat] at hj
  ·rw [e] at ha
   cases ha
   rw [add_none]
   exact hcell j u hj
 ·intro u hu
  rw [flat_int] at hu
  obtain ⟨n,_,rfl⟩:=List.mem_map.1 hu
  rfl
 ·intro v' w' ho' hg hv
  refine k v' w' ?_ hg hv
  show w'.ownsRow B 3 1 v' (l ++ m).length (flat intC (l ++ m))
  rw [List.length_append,flat_append]
  exact owns_up ho' (fun i hi=>(hv i hi).elim (fun h=>(owns_own ho h).2.1) (fun h=>Nat.le_trans hB h))
theorem mk1o {T:TypeId} (x:Int) (k:∀ v W,Bw w W → OwnI W w.heap.size v [x] → K v W):oM Tryz.prog (.buildSlice 24 1 #[(0,.tmp 0)]) T [.int .i64 x] K w:=by
 rw [oM_buildSlice1]
 have e:(Instr.buildSlice 24 1 #[(0,.int .i64 x)]).run Tryz.prog w = .ok (.slice (some ⟨w.heap.size,0,none⟩) 1 1) (w.alloc (.cells #[.int .i64 x] 3)):=by kernel_rfl
 rw [e]
 exact k _ _ ((Below.refl _ w).alloc (Nat.le_refl _) _) (World.ownsRow_lit w #[.int .i64 x] 1 (Nat.le_refl _) (by decide) rfl)
@[go_sem] theorem idx_lists (T:TypeId) (b o n c:Nat) (x:Int):oM Tryz.prog (.indexAddr 30 (.tmp 0) (.tmp 1)) T [.slice (some ⟨b,o,none⟩) n c,.int .i64 x] = onM (0 ≤ x ∧ x < n) (.pointer (some ⟨b,o + x.toNat,none⟩)):=by
 have:=idx_row (K:=fun _ _=>True) (P:=Tryz.prog) (n:=1) 30 T (by kernel_rfl) (fun w=>by kernel_rfl) b o n c x
 rwa [Nat.mul_one] at this
@[go_sem] theorem idx_nums (T:TypeId) (b o n c:Nat) (x:Int):oM Tryz.prog (.indexAddr 29 (.tmp 0) (.tmp 1)) T [.slice (some ⟨b,o,none⟩) n c,.int .i64 x] = onM (0 ≤ x ∧ x < n) (.pointer (some ⟨b,o + x.toNat,none⟩)):=by
 have:=idx_row (K:=fun _ _=>True) (P:=Tryz.prog) (n:=1) 29 T (by kernel_rfl) (fun w=>by kernel_rfl) b o n c x
 rwa [Nat.mul_one] at this
@[reducible] def prfC (dv av:Value):List Value:=[dv,av]
@[reducible] def prfV (dv av:Value):Value:=.agg #[dv,av]
theorem encNums_le {l:List Int} (h:∀ x ∈ l,InR x) (hl:l.length ≤ 10000000000):(encList (l.map encInt)).length ≤ 22 * l.length + 30:=by
 have h3:(Lib.itoa (l.length:Int)).length ≤ 20:=itoa_len _ (by unfold InR; omega)
 have h4:∀ l:List Int,(∀ x ∈ l,InR x) → ((l.map encInt).flatten).length ≤ 22 * l.length:=by
  intro l
  induction l with
  | nil=>simp
  | cons a l ih=>
   intro h
   have h1:=Cd.encInt_len a (h a (by simp))
   have h2:=ih (fun x hx=>h x (by simp [hx]))
   simp only [List.map_cons,List.flatten_cons,List.length_append,List.length_cons]
   omega
 have h5:=h4 l h
 simp only [encList,List.length_append,List.length_cons,List.length_nil,List.length_map] at *
 omega
def EnJ (ds:List (List Int)) (ls:List (List (List Int))) (w0:World) (vs:List Value) (w':World):Prop:=Bw w0 w' ∧ ∃ (u1 u2 ov u5 u6:Value) (i:Nat),vs = [u1,u2,.string ⟨#[]⟩,.bool false,ov,u5,u6,.int .i64 (i:Int)] ∧ i ≤ ds.length ∧
 OwnI w' w0.heap.size ov ((ds.length:Int) :: clauseL (ds.take i) (ls.take i)) ∧ ∀ (j:Nat) (d:List Int) (a:List (List Int)),j < i → ds[j]? = some d → ls[j]? = some a → d.length = a.length
def EiJ (w0 w1:World) (pre:List Int) (d:List Int) (a:List (List Int)) (vs:List Value) (w':World):Prop:=Bw w0 w' ∧ ∃ (u1 u2 ov:Value) (k:Nat),vs = [u1,u2,ov,.int .i64 (k:Int)] ∧ k ≤ d.length ∧ OwnI w' w0.heap.size ov (pre ++ itemL (d.take k) (a.take k))
theorem Encode_ok (ds:List (List Int)) (ls:List (List (List Int))) {dv av:Value} (hd:ListsR w dv ds) (ha:NumsR w av ls) (hl:Cd.Laid w) (hsm:SmallP 1000 ds ls)
  (k:∀ w',Bw w w' → K (.tuple #[.string ⟨(encodeM ds ls).1.toArray⟩,.bool (encodeM ds ls).2]) w'):callM Tryz.prog 51 #[prfV dv av] K w:=by
 apply sh_51_ok
 unfold sh_51
 have hd':=hd
 have ha':=ha
 obtain ⟨dad,dc,rfl⟩:=hd.isSlice
 obtain ⟨aad,ac,rfl⟩:=ha.isSlice
 refine box_kn (cs:=prfC (.slice dad ds.length dc) (.slice aad ls.length ac)) rfl (.start w) fun b1 W hk hb1 hbb=>?_
 clear hb1 hbb
 have no:evenL ds ls = false → ∀ w',Bw w w' → K (.tuple #[.string ⟨#[]⟩,.bool false]) w':=fun e w' hb=>by
  have:=k w' hb
  unfold encodeM at this
  rw [e] at this
  exact this
 by_cases hln:¬ ds.length = ls.length
 ·have hln':¬ (ds.length:Int) = ls.length:=by omega
  repeat (any_goals (first
  | (with_reducible refine yL ?_)
  | ((with_reducible refine oG fun Kv hK=>?_); simp [go_sem,hk.cells,hln']; refine hK _ _ ?_; clear hK Kv)))
  refine no ?_ _ hk.below
  cases e:evenL ds ls with
  | false=>rfl
  | true=>exact absurd ((even_iff ds ls).1 e).1 hln
 have hln:ds.length = ls.length:=by omega
 have hln':(ds.length:Int) = ls.length:=by omega
 iterate 11 (any_goals (first
 | (with_reducible refine yM ?_)
 | ((with_reducible refine oG fun Kv hK=>?_); simp [go_sem,hk.cells,hln']; refine hK _ _ ?_; clear hK Kv)))
 refine mk1o _ (fun v1 w1 h1 ho1=>?_)
 have hk0:=hk
 have hk:=hk.next h1
 repeat (any_goals ((with_reducible refine oG fun Kv hK=>?_); simp [go_sem,hk.cells]; refine hK _ _ ?_; clear hK Kv))
 refine ⟨EnJ ds ls W,(fun vs _=>match vs with | [_,_,_,_,_,_,_,.int _ i]=>ds.length - i.toNat | _=>0),⟨h1,_,_,_,_,_,0,rfl,by omega,by simpa [clauseL,hln] using ho1,fun j d a hj=>by omega⟩,?_⟩
 rintro _ _ w3 ⟨hb3,u1,u2,ov,u5,u6,i,rfl,hi,ho,hev⟩
 have hWs:=hb3.size
 have hdlen:=hd'.len
 have hcl:=clauseL_small hsm i
 have hk:=hk0.next hb3
 by_cases hin:i = ds.length
 ·have hall:evenL ds ls = true:=(even_iff ds ls).2 ⟨hln,fun j d a e1 e2=>hev j d a (by rw [hin]; exact (gS e1).1) e1 e2⟩
  rw [List.take_of_length_le (by omega),List.take_of_length_le (by omega)] at ho
  have hinr:∀ x ∈ (ds.length:Int) :: clauseL ds ls,InR x:=by
   intro x hx
   rcases List.mem_cons.1 hx with rfl | hx
   ·unfold InR; omega
   ·refine clauseL_in ds ls (fun y hy=>?_) (fun z hz y hy=>?_) x hx
    ·obtain ⟨j,hj,rfl⟩:=List.getElem_of_mem hy
     obtain ⟨_,_,_,_,_,_,h⟩:=hd'.one (i:=j) hj
     exact ⟨by have:=h.len; omega,fun x hx=>(InR_iff x).2 (h.rng x hx)⟩
    ·obtain ⟨j,hj,rfl⟩:=List.getElem_of_mem hz
     obtain ⟨_,_,v,_,_,_,h⟩:=ha'.one (i:=j) hj
     obtain ⟨j2,hj2,rfl⟩:=List.getElem_of_mem hy
     obtain ⟨ad,c,rfl⟩:=h.isSlice
     obtain ⟨_,_,_,_,_,_,h⟩:=h.one (i:=j2) hj2
     exact ⟨by have:=h.len; omega,fun x hx=>(InR_iff x).2 (h.rng x hx)⟩
  have hcl2:(clauseL ds ls).length ≤ 1002001000:=by
   have:=clauseL_small hsm ds.length
   rwa [List.take_of_length_le (by omega),List.take_of_length_le (by omega)] at this
  have hle:=encNums_le hinr (by rw [List.length_cons]; omega)
  repeat (any_goals (first
  | (with_reducible refine yO ?_)
  | ((with_reducible refine oG fun Kv hK=>?_); simp [go_sem,hk.cells]; refine hK _ _ ?_; clear hK Kv)))
  refine Cd.pNums_ok _ _ (hl.below hk.below hl.size) (Ints.rowOf (ho.ints (fun x hx=>(InR_iff x).1 (hinr x hx)) (by rw [List.length_cons]; omega))) hinr (by rw [List.length_cons] at hle; omega) (fun w4 h4=>?_)
  skip
  have:=k _ (hk.next h4).below
  unfold encodeM at this
  rw [hall,if_pos rfl] at this
  exact this
 obtain ⟨b5,o5,v5,rfl,hb5,c5,i5⟩:=hd'.one (i:=i) (by omega)
 obtain ⟨b6,o6,v6,rfl,hb6,c6,i6⟩:=ha'.one (i:=i) (by omega)
 have e5:ds[i]? = some ds[i]:=gE (by omega)
 have e6:ls[i]? = some ls[i]:=gE (by omega)
 have m5:ds[i] ∈ ds:=List.getElem_mem _
 have m6:ls[i] ∈ ls:=List.getElem_mem _
 have hstep:=clauseL_take ds ls i _ _ e5 e6
 generalize ds[i] = d at *
 generalize ls[i] = a at *
 obtain ⟨ad5,cp5,rfl⟩:=i5.isSlice
 obtain ⟨ad6,cp6,rfl⟩:=i6.isSlice
 by_cases hda:¬ d.length = a.length
 ·have hda':¬ (d.length:Int) = a.length:=by omega
  repeat (any_goals (first
  | (with_reducible ((refine idCond ?_); first|refine yL ?_|refine yN ?_))
  | ((with_reducible refine oG fun Kv hK=>?_); simp [go_sem,hk.cells,(hk.below.cell hb5).trans c5,(hk.below.cell hb6).trans c6,hda']; (first|refine hK _ _ ?_|refine And.intro (by omega) (hK _ _ ?_)); clear hK Kv)))
  refine no ?_ _ hk.below
  cases e:evenL ds ls with
  | false=>rfl
  | true=>exact absurd (((even_iff ds ls).1 e).2 i d a e5 e6) hda
 have hda:d.length = a.length:=by omega
 have hda':(d.length:Int) = a.length:=by omega
 iterate 13 (any_goals (first
 | (with_reducible ((refine idCond ?_); first|refine yM ?_|refine yN ?_))
 | ((with_reducible refine oG fun Kv hK=>?_); simp [go_sem,hk.cells,(hk.below.cell hb5).trans c5,(hk.below.cell hb6).trans c6,hda']; (first|refine hK _ _ ?_|refine And.intro (by omega) (hK _ _ ?_)); clear hK Kv)))
 refine mk1g _ (by have:=i5.len; unfold I64; omega) (fun v7 w7 h7 hi7 _=>?_)
 have hb7:=hb3.on h7
 refine append1g (ho.keep h7) hb7.size hi7 (by rw [List.length_cons]; omega) (fun v8 w8 ho8 hg8 hv8=>?_)
 have hoo:=fun j hj=>owns_own (i:=j) (ho.keep h7) hj
 have hb8:=hb7.grown hg8 hb7.size (fun j hj=>(hoo j hj).2.1)
 rw [← hda] at ho8
 iterate 1 (any_goals ((with_reducible refine oG fun Kv hK=>?_); simp [go_sem]; refine hK _ _ ?_; clear hK Kv))
 have hil:=itemL_le (N:=1000) d a (hsm.a a m6)
 have hdl:=hsm.d d m5
 have hil2:(1000 + 2) * d.length ≤ (1000 + 2) * 1000:=Nat.mul_le_mul_left _ hdl
 refine ⟨EiJ W w8 (((ds.length:Int) :: clauseL (ds.take i) (ls.take i)) ++ [(d.length:Int)]) d a,(fun vs _=>match vs with | [_,_,_,.int _ i]=>d.length - i.toNat | _=>0),⟨hb8,_,_,_,0,rfl,by omega,by simpa [itemL] using ho8⟩,?_⟩
 rintro _ _ w9 ⟨hb9,u8,u9,ov,j,rfl,hj,ho⟩
 have hk:=hk0.next hb9
 by_cases hjn:j = d.length
 ·rw [List.take_of_length_le (l:=d) (by omega),List.take_of_length_le (l:=a) (by omega)] at ho
  repeat (any_goals (first
  | (with_reducible refine yO ?_)
  | ((with_reducible refine oG fun Kv hK=>?_); simp [go_sem]; (try simp (disch:=omega) only [wrapI64,wrapU8,wrapU32,wrapU64]); refine hK _ _ ?_; clear hK Kv)))
  refine ⟨⟨hb9,_,_,_,_,_,i + 1,rfl,by omega,?_,?_⟩,by show ds.length - (((i + 1:Nat):Int)).toNat < ds.length - ((i:Nat):Int).toNat; omega⟩
  ·rw [hstep]
   simpa using ho
  ·intro j' d' a' hj' e1 e2
   by_cases h:j' = i
   ·subst h
    rw [e5] at e1; rw [e6] at e2
    cases e1; cases e2
    exact hda
   ·exact hev j' d' a' (by omega) e1 e2
 obtain ⟨b10,o10,rfl,hb10,c10,r10,_⟩:=i5.at (i:=j) (by omega)
 obtain ⟨b11,o11,v11,rfl,hb11,c11,i11⟩:=i6.one (i:=j) (by omega)
 have e10:d[j]? = some d[j]:=gE (by omega)
 have e11:a[j]? = some a[j]:=gE (by omega)
 have m11:a[j] ∈ a:=List.getElem_mem _
 have hin2:=itemL_take d a j _ _ e10 e11
 have hyl:=hsm.a a m6 _ m11
 have hil3:=itemL_le (N:=1000) (d.take j) (a.take j) (fun y hy=>hsm.a a m6 y (List.mem_of_mem_take hy))
 have hil4:(1000 + 2) * (d.take j).length ≤ (1000 + 2) * 1000:=Nat.mul_le_mul_left _ (by rw [List.length_take]; omega)
 generalize d[j] = x at *
 generalize a[j] = y at *
 obtain ⟨ad11,cp11,rfl⟩:=i11.isSlice
 have hal:a.length ≤ 9223372036854775807:=by omega
 have hjl:(j:Int) < a.length:=by omega
 have hil0:(i:Int) < ls.length:=by omega
 repeat (any_goals (first
 | (with_reducible refine yN ?_)
 | ((with_reducible refine oG fun Kv hK=>?_); simp [go_sem,c10 _ hk.below]; (first|refine hK _ _ ?_|refine And.intro (by omega) (hK _ _ ?_)); clear hK Kv)))
 have hk10:=hk.drew
 have hb10':Below W.heap.size W { w9 with drawn:=w9.drawn + 1 }:=hb9.on .drawn
 have ho10:=ho.keep (.drawn (w:=w9) (B:=w9.heap.size))
 refine ⟨fun w'=>Bw W w',hb10',?_⟩
 generalize ({ w9 with drawn:=w9.drawn + 1 }:World) = W9 at hk10 hb10' ho10 ⊢
 have ylI:I64 (y.length:Int):=by have:=i11.len; unfold I64; omega
 repeat (any_goals (first
 | ((with_reducible refine mk2 x (y.length:Int) r10 ylI ?_); intro v12 w12 h12 hi12)
 | (with_reducible refine pX ?_)
 | ((with_reducible refine idOH ?_); (with_reducible refine oH_of ⟨_,rfl⟩ (fun W0 hW0=>by (refine oG (fun Kv hK=>?_)); simp [go_sem,(hk0.next hW0).cells,((hk0.next hW0).below.cell hb6).trans c6,((hk0.next hW0).below.cell hb11).trans c11]; (first | exact hK _ _ ⟨rfl,rfl⟩ | exact ⟨by omega,hK _ _ ⟨rfl,rfl⟩⟩)) ?_))))
 have hb12:=hb10'.on h12
 refine ⟨hb12,?_⟩
 have hpl:(((ds.length:Int) :: clauseL (ds.take i) (ls.take i)) ++ [(d.length:Int)] ++ itemL (d.take j) (a.take j)).length ≤ 1003003003:=by
  rw [List.length_append,List.length_append,List.length_cons,List.length_singleton]; omega
 have ho12:=ho10.keep h12
 refine appendNg ho12 hb12.size hi12 (by simp only [List.length_cons,List.length_nil] at hpl ⊢; omega) (fun v13 w13 ho13 hg13 hv13=>?_)
 have hb13:=hb12.grown hg13 hb12.size (fun j hj=>(owns_own ho12 hj).2.1)
 refine ⟨hb13,?_⟩
 refine appendNg ho13 hb13.size (i11.next (hk0.next hb13).below) (by rw [List.length_append]; simp only [List.length_cons,List.length_nil] at hpl ⊢; omega) (fun v14 w14 ho14 hg14 hv14=>?_)
 have hb14:=hb13.grown hg14 hb13.size (fun j hj=>(owns_own ho13 hj).2.1)
 refine ⟨hb14,hb14,?_⟩
 repeat (any_goals ((with_reducible refine oG fun Kv hK=>?_); simp [go_sem]; (try simp (disch:=omega) only [wrapI64,wrapU8,wrapU32,wrapU64]); refine hK _ _ ?_; clear hK Kv))
 refine ⟨⟨hb14,_,_,_,j + 1,rfl,by omega,?_⟩,by show d.length - (((j + 1:Nat):Int)).toNat < d.length - ((j:Nat):Int).toNat; omega⟩
 rw [hin2]
 simpa using ho14
end
end Go.Proofs
namespace Go.Proofs
open Go Go.Sh Go.RowKit FdSpec TkSpec CodeSpec PrSpec
section
variable {K:VK} {w w' w0 W:World} {L:List (Addr × Value)}
abbrev ListG (B:Nat) (D:Nat → Prop) (w:World) (v:Value) (l:List (List Int)):Prop:=GRow 1 24 (VOne Ints) B D w v l
abbrev NumG (B:Nat) (D:Nat → Prop) (w:World) (v:Value) (l:List (List (List Int))):Prop:=GRow 1 30 (VOne ListsR) B D w v l
theorem lit_ints {T:TypeId} (ad:Option Addr) (n c:Nat) (k:∀ g W,Bw w W → w.heap.size ≤ g → Holds W g 24 [.slice ad n c] → K (.slice (some ⟨g,0,none⟩) 1 1) W):oM Tryz.prog (.buildSlice 30 1 #[(0,.tmp 0)]) T [.slice ad n c] K w:=by
 rw [oM_buildSlice1]; exact lit_run (by kernel_rfl) k
theorem lit_lists {T:TypeId} (ad:Option Addr) (n c:Nat) (k:∀ g W,Bw w W → w.heap.size ≤ g → Holds W g 30 [.slice ad n c] → K (.slice (some ⟨g,0,none⟩) 1 1) W):oM Tryz.prog (.buildSlice 29 1 #[(0,.tmp 0)]) T [.slice ad n c] K w:=by
 rw [oM_buildSlice1]; exact lit_run (by kernel_rfl) k
theorem ints_append {B g c n:Nat} {D:Nat → Prop} {v:Value} {l:List (List Int)} {x:List Int} {T:TypeId} (h:ListG B D w v l) (hB:B ≤ w.heap.size) {b:Nat} {ad:Option Addr} (hh:Holds w b 24 [.slice ad n c])
  (hx:FP D w (fun w=>Ints w (.slice ad n c) x)) (hD:Off D w v) (hl:l.length < 1099511627776)
  (k:∀ v' w',ListG B D w' v' (l ++ [x]) → w.grownBy w' v.ownBlock → (∀ i,v'.ownBlock = some i → v.ownBlock = some i ∨ w.heap.size ≤ i) → Off D w' v' → K v' w') :
  oM Tryz.prog (.call { callee:=.builtin .append,args:=#[.tmp 0,.tmp 1],argTypes:=#[30,30] }) T [v,.slice (some ⟨b,0,none⟩) 1 g] K w:=by
 refine grow_append 30 T ((Tryz.prog.info? 24).getD default) (.slice none 0 0) 24 (by kernel_rfl) (by kernel_rfl) (by kernel_rfl) (by kernel_rfl) (by kernel_rfl) (by kernel_rfl) (by decide) (by decide)
  h hB (xs:=[.slice ad n c]) rfl ?_ (row_one _ _ _) (hx.imp fun w h=>⟨_,rfl,h⟩) hD hl k
 intro j u hj
 rw [cell_of_block hh]
 simpa using hj
theorem lists_append {B g c n:Nat} {D:Nat → Prop} {v:Value} {l:List (List (List Int))} {x:List (List Int)} {T:TypeId} (h:NumG B D w v l) (hB:B ≤ w.heap.size) {b:Nat} {ad:Option Addr} (hh:Holds w b 30 [.slice ad n c])
  (hx:FP D w (fun w=>ListsR w (.slice ad n c) x)) (hD:Off D w v) (hl:l.length < 1099511627776)
  (k:∀ v' w',NumG B D w' v' (l ++ [x]) → w.grownBy w' v.ownBlock → (∀ i,v'.ownBlock = some i → v.ownBlock = some i ∨ w.heap.size ≤ i) → Off D w' v' → K v' w') :
  oM Tryz.prog (.call { callee:=.builtin .append,args:=#[.tmp 0,.tmp 1],argTypes:=#[29,29] }) T [v,.slice (some ⟨b,0,none⟩) 1 g] K w:=by
 refine grow_append 29 T ((Tryz.prog.info? 30).getD default) (.slice none 0 0) 24 (by kernel_rfl) (by kernel_rfl) (by kernel_rfl) (by kernel_rfl) (by kernel_rfl) (by kernel_rfl) (by decide) (by decide)
  h hB (xs:=[.slice ad n c]) rfl ?_ (row_one _ _ _) (hx.imp fun w h=>⟨_,rfl,h⟩) hD hl k
 intro j u hj
 rw [cell_of_block hh]
 simpa using hj
structure Duo (B:Nat) (D:Nat → Prop) (W:World) (v0 u0:Value) (w:World) (v u:Value) (l:List (List Int)) (m:List (List (List Int))):Prop where
 fr:Fr (fun i=>v0.ownBlock = some i ∨ u0.ownBlock = some i) W w
 a:ListG B D w v l
 b:NumG B D w u m
 oa:Off D w v
 ob:Off D w u
 ap:apart v u
 la:∀ i,v.ownBlock = some i → v0.ownBlock = some i ∨ W.heap.size ≤ i
 lb:∀ i,u.ownBlock = some i → u0.ownBlock = some i ∨ W.heap.size ≤ i
 B:B ≤ W.heap.size
theorem Duo.start {B:Nat} {D:Nat → Prop} {v u:Value} {l:List (List Int)} {m:List (List (List Int))} (a:ListG B D w v l) (b:NumG B D w u m) (oa:Off D w v) (ob:Off D w u) (ap:apart v u) (hB:B ≤ w.heap.size):Duo B D w v u w v u l m:=
 ⟨Fr.refl _ _,a,b,oa,ob,ap,fun _ h=>.inl h,fun _ h=>.inl h,hB⟩
section
variable {B:Nat} {D:Nat → Prop} {v0 u0 v u:Value} {l:List (List Int)} {m:List (List (List Int))}
theorem Duo.next (h:Duo B D W v0 u0 w v u l m) (hb:Bw w w'):Duo B D W v0 u0 w' v u l m:=
 ⟨h.fr.trans (S':=fun _=>False) (Fr.of_below hb) (fun _ h=>h.elim),h.a.next hb (fun i hi=>(h.oa i hi).1),h.b.next hb (fun i hi=>(h.oa i hi).1),h.oa.next hb.size,h.ob.next hb.size,h.ap,h.la,h.lb,h.B⟩
theorem Duo.addA {b g n c:Nat} {ad:Option Addr} {x:List Int} {T:TypeId} (h:Duo B D W v0 u0 w v u l m) (hh:Holds w b 24 [.slice ad n c]) (hx:FP D W (fun w=>Ints w (.slice ad n c) x)) (hD0:∀ i,D i → i < W.heap.size ∧ v0.ownBlock ≠ some i ∧ u0.ownBlock ≠ some i) (hl:l.length < 1099511627776)
  (k:∀ v' w',Duo B D W v0 u0 w' v' u (l ++ [x]) m → w.grownBy w' v.ownBlock → K v' w') :
  oM Tryz.prog (.call { callee:=.builtin .append,args:=#[.tmp 0,.tmp 1],argTypes:=#[30,30] }) T [v,.slice (some ⟨b,0,none⟩) 1 g] K w:=by
 have hx':=hx.fr h.fr (fun i hi=>⟨(hD0 i hi).1,fun e=>e.elim (hD0 i hi).2.1 (hD0 i hi).2.2⟩)
 refine ints_append h.a (Nat.le_trans h.B h.fr.size) hh hx' h.oa hl (fun v' w' hg hb hv ho=>k v' w' ⟨h.fr.by hb (fun i e=>(h.la i e).imp .inl id),hg,?_,ho,h.ob.next hb.size,?_,?_,h.lb,h.B⟩ hb)
 ·exact h.b.keep (Fr.of_by' hb) (fun i hi=>⟨(h.oa i hi).1,(h.oa i hi).2⟩) (fun i hi e=>h.ap i e hi)
 ·intro i e1 e2
  rcases hv i e1 with h1 | h1
  ·exact h.ap i h1 e2
  ·have:=(h.b.own e2).1; omega
 ·intro i e1
  rcases hv i e1 with h1 | h1
  ·exact h.la i h1
  ·exact .inr (Nat.le_trans h.fr.size h1)
theorem Duo.addB {b g n c:Nat} {ad:Option Addr} {x:List (List Int)} {T:TypeId} (h:Duo B D W v0 u0 w v u l m) (hh:Holds w b 30 [.slice ad n c]) (hx:FP D W (fun w=>ListsR w (.slice ad n c) x)) (hD0:∀ i,D i → i < W.heap.size ∧ v0.ownBlock ≠ some i ∧ u0.ownBlock ≠ some i) (hl:m.length < 1099511627776)
  (k:∀ u' w',Duo B D W v0 u0 w' v u' l (m ++ [x]) → w.grownBy w' u.ownBlock → K u' w') :
  oM Tryz.prog (.call { callee:=.builtin .append,args:=#[.tmp 0,.tmp 1],argTypes:=#[29,29] }) T [u,.slice (some ⟨b,0,none⟩) 1 g] K w:=by
 have hx':=hx.fr h.fr (fun i hi=>⟨(hD0 i hi).1,fun e=>e.elim (hD0 i hi).2.1 (hD0 i hi).2.2⟩)
 refine lists_append h.b (Nat.le_trans h.B h.fr.size) hh hx' h.ob hl (fun u' w' hg hb hv ho=>k u' w' ⟨h.fr.by hb (fun i e=>(h.lb i e).imp .inr id),?_,hg,h.oa.next hb.size,ho,?_,h.la,?_,h.B⟩ hb)
 ·exact h.a.keep (Fr.of_by' hb) (fun i hi=>⟨(h.ob i hi).1,(h.ob i hi).2⟩) (fun i hi e=>h.ap i hi e)
 ·intro i e1 e2
  rcases hv i e2 with h1 | h1
  ·exact h.ap i e1 h1
  ·have:=(h.a.own e1).1; omega
 ·intro i e1
  rcases hv i e1 with h1 | h1
  ·exact h.lb i h1
  ·exact .inr (Nat.le_trans h.fr.size h1)
end
end
end Go.Proofs
namespace Go.Proofs
open Go Go.Sh Go.RowKit FdSpec TkSpec CodeSpec PrSpec
section
variable {K:VK} {w w' w0 W:World} {L:List (Addr × Value)}
def CI (w:World) (v:Value) (l:List Int):Prop:=Ints w v l ∧ ∃ ad c,v = .slice ad l.length c ∧ l.length ≤ c ∧ (ad = none → c = 0)
theorem inBlock_add (a:Addr) (k n c n2 c2:Nat):Value.inBlock (.slice (Option.map (fun x=>x.add k) (some a)) n c) = Value.inBlock (.slice (some a) n2 c2):=by
 rw [Option.map_some]
 obtain ⟨b,o,e⟩:=a
 cases e <;> simp [Value.inBlock,Addr.add] <;> split <;> rfl
theorem CI.from {T:TypeId} {v:Value} {l:List Int} (h:CI w v l) (i:Nat) (hi:i ≤ l.length)
  (k:∀ v',CI w v' (l.drop i) → Value.inBlock v' = Value.inBlock v → K v' w):oM Tryz.prog (.slice 24 (.tmp 0) (some (.tmp 1)) none none) T [v,.int .i64 (i:Int)] K w:=by
 obtain ⟨hI,ad,c,hv,hcap,hnn⟩:=h
 subst hv
 obtain ⟨⟨ad0,c0,hv0,h0,hc⟩,hr,hln⟩:=hI
 injection hv0 with ea _ ec
 subst ea; subst ec
 have ht:Tryz.prog.underlying 24 = some (.slice (Tryz.prog.elem 24)):=by kernel_rfl
 have hs:(sizeOf (Tryz.prog.elem 24)).run Tryz.prog w = .ok 1 w:=by kernel_rfl
 rw [oM_sliceFrom,run_sliceAt_slice w _ _ _ _ _ ht,run_slice_l w _ _ l.length c ht .i64 i (by omega) (by omega),hs]
 simp only [Result.andThen_ok,sliced,Int.toNat_natCast]
 have hdr:∀ n ∈ l.drop i,I64 n:=fun n hn=>hr n (List.mem_of_mem_drop hn)
 by_cases hci:c = i
 ·rw [if_pos hci]
  have hnil:l.drop i = []:=List.drop_of_length_le (by omega)
  have e:l.length - i = (l.drop i).length:=by rw [List.length_drop]
  rw [e]
  refine k _ ⟨⟨⟨ad,_,rfl,fun ha=>⟨by rw [hnil]; rfl,by omega⟩,.inl hnil⟩,hdr,by rw [hnil]; simp⟩,ad,_,rfl,by rw [hnil]; simp,fun ha=>by omega⟩ ?_
  cases ad <;> rfl
 ·rw [if_neg hci]
  cases ad with
  | none=>have:=hnn rfl; omega
  | some a=>
   have e:l.length - i = (l.drop i).length:=by rw [List.length_drop]
   rw [e]
   rcases hc with hc | ⟨b,o,ha,hlt,hcell⟩
   ·have:l.length = 0:=by rw [hc]; rfl
    refine k _ ⟨⟨⟨_,_,rfl,(fun ha=>by cases ha),.inl (by rw [hc]; simp)⟩,hdr,by rw [List.length_drop]; omega⟩,_,_,rfl,by rw [List.length_drop]; omega,fun ha=>by cases ha⟩ (inBlock_add _ _ _ _ _ _)
   ·cases ha
    refine k _ ⟨⟨⟨_,_,rfl,(fun ha=>by cases ha),.inr ⟨b,o + i * 1,by rw [Option.map_some,add_none],hlt,fun j u hj=>?_⟩⟩,hdr,by rw [List.length_drop]; omega⟩,_,_,rfl,by rw [List.length_drop]; omega,fun ha=>by cases ha⟩ (inBlock_add _ _ _ _ _ _)
    have:=hcell (i + j) u (by rw [flat_int] at hj ⊢; rw [List.map_drop,List.getElem?_drop] at hj; exact hj)
    rwa [show o + i * 1 + j = o + (i + j) by omega]
theorem CI.from1 {T:TypeId} {v:Value} {l:List Int} (h:CI w v l) (hi:1 ≤ l.length)
  (k:∀ v',CI w v' (l.drop 1) → Value.inBlock v' = Value.inBlock v → K v' w):oM Tryz.prog (.slice 24 (.tmp 0) (some (.tmp 1)) none none) T [v,.int .i64 1] K w:=CI.from h 1 hi k
theorem CI.to {T:TypeId} {v:Value} {l:List Int} (h:CI w v l) (i:Nat) (hi:i ≤ l.length)
  (k:∀ v',Ints w v' (l.take i) → K v' w):oM Tryz.prog (.slice 24 (.tmp 0) none (some (.tmp 1)) none) T [v,.int .i64 (i:Int)] K w:=by
 obtain ⟨hI,ad,c,hv,hcap,hnn⟩:=h
 subst hv
 obtain ⟨⟨ad0,c0,hv0,h0,hc⟩,hr,hln⟩:=hI
 injection hv0 with ea _ ec
 subst ea; subst ec
 have ht:Tryz.prog.underlying 24 = some (.slice (Tryz.prog.elem 24)):=by kernel_rfl
 have e:i = (l.take i).length:=by rw [List.length_take]; omega
 refine sliceTo_at (sz:=1) ht (fun w=>by kernel_rfl) i (by omega) ?_
 have hlt:(l.take i).length ≤ l.length:=by rw [List.length_take]; omega
 have hn0:ad = none → c = 0:=hnn
 rw [show (Value.slice ad i c) = .slice ad (l.take i).length c by rw [← e]]
 refine k _ ⟨⟨ad,c,rfl,fun ha=>⟨?_,hn0 ha⟩,?_⟩,fun n hn=>hr n (List.mem_of_mem_take hn),by omega⟩
 ·have:=hn0 ha; omega
 ·rcases hc with hc | ⟨b,o,ha,hlt',hcell⟩
  ·exact .inl (by rw [hc]; simp)
  ·refine .inr ⟨b,o,ha,hlt',fun j u hj=>hcell j u ?_⟩
   rw [flat_int] at hj ⊢
   rw [List.map_take] at hj
   exact (gS hj).elim fun h1 h2=>by
    rw [List.getElem_take] at h2
    rw [List.getElem?_eq_some_iff]
    exact ⟨by rw [List.length_take] at h1; omega,h2⟩
theorem CI.keep {v:Value} {l:List Int} (h:CI w v l) (hs:w.heap.size ≤ w'.heap.size) (hk:∀ i,Value.inBlock v = some i → i < w.heap.size → w'.heap[i]? = w.heap[i]?):CI w' v l:=
 ⟨⟨h.1.row.keep hs hk,h.1.rng,h.1.len⟩,h.2⟩
def IsRw (B:Nat) (w:World) (b:Nat) (r:Rw):Prop:=∃ lv,Holds w b 160 [lv,.bool r.bad] ∧ CI w lv r.left ∧ b < B ∧ ∀ i,Value.inBlock lv = some i → i < B ∧ i ≠ b
theorem IsRw.keep {B b:Nat} {r:Rw} (h:IsRw B w b r) (hb:Below B w w'):IsRw B w' b r:=by
 obtain ⟨lv,h1,h2,h3,h4⟩:=h
 exact ⟨lv,(hb.block _ h3).trans h1,h2.keep hb.size (fun i hi _=>hb.block i (h4 i hi).1),h3,h4⟩
theorem sz_intsR (w:World):(sizeOf 24).run Tryz.prog w = .ok 1 w:=by kernel_rfl
theorem sz_boolR (w:World):(sizeOf 4).run Tryz.prog w = .ok 1 w:=by kernel_rfl
theorem next_ok {B b:Nat} {r:Rw} (hr:IsRw B w b r) (k:∀ w',IsRw B w' b (nextR r).2 → w.grownBy w' (some b) → I64 (nextR r).1 → K (.int .i64 (nextR r).1) w'):callM Tryz.prog 134 #[.pointer (some ⟨b,0,none⟩)] K w:=by
 apply sh_134_ok
 unfold sh_134
 obtain ⟨lv,h1,h2,h3,h4⟩:=hr
 obtain ⟨ad,c,rfl,hcap,hnn⟩:=id h2.2
 have hc:=h1.are
 have hlen:=h2.1.len
 obtain ⟨l,bad⟩:=r
 cases l with
 | nil=>
  repeat (any_goals (first
  | (with_reducible refine yL ?_)
  | ((with_reducible refine oG fun Kv hK=>?_); simp [go_sem,hc]; refine hK _ _ ?_; clear hK Kv)))
  refine arr_set (i:=1) sz_boolR rfl rfl h1 (by simp) (fun w2 hg hh=>?_)
  skip
  exact k _ ⟨_,hh,h2.keep hg.size (fun i hi hlt=>hg.block i hlt (fun e=>(h4 i hi).2 (by first | exact Option.some.inj e | exact (Option.some.inj e).symm))),h3,h4⟩ hg I64_0
 | cons x l=>
  have hne:¬ ((x :: l).length:Int) = 0:=by simp; omega
  obtain ⟨b5,o5,rfl,hb5,cx,rx,_⟩:=h2.1.at (i:=0) (by simp)
  have cx':=cx w (Below.refl _ _)
  simp only [List.getElem_cons_zero,Nat.add_zero] at cx' rx
  repeat (any_goals (first
  | ((with_reducible refine CI.from1 h2 (by simp) ?_); intro v' hv' hvb)
  | (with_reducible refine yO ?_)
  | ((with_reducible refine oG fun Kv hK=>?_); simp [go_sem,hc,hne,cx']; refine hK _ _ ?_; clear hK Kv)))
  obtain ⟨ad',c',rfl,hcap',hnn'⟩:=id hv'.2
  refine arr_set (i:=0) sz_intsR rfl rfl h1 (by simp) (fun w2 hg hh=>?_)
  exact k _ ⟨_,hh,hv'.keep hg.size (fun i hi hlt=>hg.block i hlt (fun e=>(h4 i (hvb ▸ hi)).2 (by first | exact Option.some.inj e | exact (Option.some.inj e).symm))),h3,fun i hi=>h4 i (hvb ▸ hi)⟩ hg rx
theorem grown_two {w1 w2:World} {b:Option Nat} (h:w.grownBy w1 b) (k:w1.grownBy w2 b):w.grownBy w2 b:=
 ⟨k.os.trans h.os,k.tape.trans h.tape,k.output.trans h.output,Nat.le_trans h.size k.size,fun i hi hn=>(k.block i (Nat.lt_of_lt_of_le hi h.size) hn).trans (h.block i hi hn)⟩
theorem count_ok {B b:Nat} {r:Rw} (hr:IsRw B w b r) (k:∀ w',IsRw B w' b (countR r).2 → w.grownBy w' (some b) → K (.int .i64 ((countR r).1:Int)) w'):callM Tryz.prog 133 #[.pointer (some ⟨b,0,none⟩)] K w:=by
 apply sh_133_ok
 unfold sh_133
 refine next_ok hr (fun w1 hr1 hg1 hI=>?_)
 have hr1':=hr1
 obtain ⟨lv,h1,h2,h3,h4⟩:=hr1
 obtain ⟨ad,c,rfl,hcap,hnn⟩:=id h2.2
 have hc:=h1.are
 unfold countR at k
 have bad:((nextR r).1 < 0 ∨ ((nextR r).2.left.length:Int) < (nextR r).1) → ∀ (K':Prop),(∀ w2,w1.grownBy w2 (some b) → Holds w2 b 160 [.slice ad (nextR r).2.left.length c,.bool true] → K (.int .i64 0) w2):=fun hb _ w2 hg2 hh2=>by
  rw [if_pos hb] at k
  exact k w2 ⟨_,hh2,h2.keep hg2.size (fun i hi hlt=>hg2.block i hlt (fun e=>(h4 i hi).2 (by first | exact Option.some.inj e | exact (Option.some.inj e).symm))),h3,h4⟩ (grown_two hg1 hg2)
 by_cases hn:(nextR r).1 < 0
 ·repeat (any_goals (first
  | (with_reducible first|refine zD ?_|refine yB ?_|refine yL ?_)
  | ((with_reducible refine oG fun Kv hK=>?_); simp [go_sem,hc,hn]; refine hK _ _ ?_; clear hK Kv)))
  refine arr_set (i:=1) sz_boolR rfl rfl h1 (by simp) (fun w2 hg hh=>?_)
  skip
  exact bad (.inl hn) True w2 hg hh
 by_cases hm:((nextR r).2.left.length:Int) < (nextR r).1
 ·repeat (any_goals (first
  | (with_reducible first|refine pureM_in ?_|refine zC ?_|refine yC ?_|refine yL ?_)
  | ((with_reducible refine oG fun Kv hK=>?_); simp [go_sem,hc,hn,hm]; refine hK _ _ ?_; clear hK Kv)))
  refine arr_set (i:=1) sz_boolR rfl rfl h1 (by simp) (fun w2 hg hh=>?_)
  skip
  exact bad (.inr hm) True w2 hg hh
 rw [if_neg (by omega)] at k
 repeat (any_goals (first
 | (with_reducible first|refine pureM_in ?_|refine zC ?_|refine yC ?_|refine yM ?_)
 | ((with_reducible refine oG fun Kv hK=>?_); simp [go_sem,hc,hn,hm]; refine hK _ _ ?_; clear hK Kv)))
 have:=k w1 hr1' hg1
 rw [Int.toNat_of_nonneg (by omega)] at this
 exact this
end
end Go.Proofs
namespace Go.Sh
open Go Go.RowKit
section
variable {P:Program} {w w':World} {K:VK}
theorem below_of_grown (h:w.grownBy w' none):Bw w w':=⟨h.os,h.tape,h.output,h.size,fun i hi=>h.block i hi (fun e=>by cases e)⟩
theorem append_at2 (t T e:TypeId) (i:TypeInfo) (z:Value) (size bytes:Nat) (ht:P.underlying t = some (.slice e)) (hi:P.info? e = some i) (hz:i.zero = some z)
  (hsize:i.size = size) (hby:i.bytes = bytes) (hzs:z.cells.size = size) (hsz:0 < size)
  {v:Value} {n:Nat} {xs:List Value} (hown:w.ownsRow 0 e size v n xs)
  {a:Addr} {m c:Nat} (news:List Value) (hl:news.length = m * size) (hnews:∀ j u,news[j]? = some u → w.cell? (a.add j) = some u) (h1:∀ u ∈ news,u.oneCell' = true)
  (h63:n + m ≤ maxLen) (hbytes:(n + m) * bytes ≤ 140737488355328)
  (k:∀ v' w',w'.ownsRow 0 e size v' (n + m) (xs ++ news) → w.grownBy w' v.ownBlock → (∀ i,v'.ownBlock = some i → v.ownBlock = some i ∨ w.heap.size ≤ i) →
   (Bw w w' ∨ ∃ g cap,v = .slice (some ⟨g,0,none⟩) n cap ∧ v' = .slice (some ⟨g,0,none⟩) (n + m) cap) → K v' w') :
  oM P (.call { callee:=.builtin .append,args:=#[.tmp 0,.tmp 1],argTypes:=#[t,t] }) T [v,.slice (some a) m c] K w:=by
 rw [oM_append]
 rcases hown.2 with ⟨hv,hn⟩ | ⟨g,cap,cur,hv,hb,hg,hnc,hm,hcs,htk⟩
 ·have h':w.ownsRow w.heap.size e size v n xs:=⟨hown.1,.inl ⟨hv,hn⟩⟩
  obtain ⟨v',w',hr,ho,hgr,_⟩:=run_append_own (P:=P) (w:=w) w.heap.size t T e i z size bytes ht hi hz hsize hby hzs hsz v n xs h' a m c news hl hnews h1 h63 hbytes (Nat.le_refl _)
  rw [hr]
  refine k v' w' (owns_base ho (Nat.zero_le _)) hgr (fun j hj=>.inr (owns_own ho hj).2.1) (.inl ?_)
  subst hv
  exact below_of_grown hgr
 ·by_cases hroom:n + m ≤ cap
  ·subst hv
   obtain ⟨w',hr,ho,hgr⟩:=run_append_fits (P:=P) (w:=w) 0 t T e i size ht hi hsize g n cap xs hown a m c news hl hnews h1 hroom
   rw [hr]
   exact k _ w' ho hgr (fun j hj=>.inl hj) (.inr ⟨g,cap,rfl,rfl⟩)
  ·obtain ⟨v',w',hr,ho,hgr,_⟩:=run_append_own (P:=P) (w:=w) 0 t T e i z size bytes ht hi hz hsize hby hzs hsz v n xs hown a m c news hl hnews h1 h63 hbytes (Nat.zero_le _)
   subst hsize
   subst hv
   have holds:∀ j u,xs[j]? = some u → w.cell? ((⟨g,0,none⟩:Addr).add j) = some u:=hown.cells (g:=g) rfl
   have hr2:=run_append_grow (P:=P) (w:=w) t T e i z ht hi hz ⟨g,0,none⟩ n cap xs hown.1 holds a m c news hl hnews (by omega) (by simp only [maxLen] at h63; omega) (growslice_fits (by omega) (by rw [hby]; exact hbytes))
   rw [hr] at hr2
   rw [hr]
   cases hr2
   exact k _ _ ho hgr (fun j hj=>by cases hj; exact .inr (Nat.le_refl _)) (.inl (((Below.refl _ w).drew).alloc (Nat.le_refl _) _))
end
section
variable {α:Type} {n:Nat} {e:TypeId} {V:World → List Value → α → Prop} {B:Nat} {D:Nat → Prop} {w w':World} {v:Value} {l:List α}
theorem owns_part {B:Nat} {e:TypeId} {sz:Nat} {g n m cap:Nat} {xs ys:List Value} (h:w.ownsRow B e sz (.slice (some ⟨g,0,none⟩) (n + m) cap) (n + m) (xs ++ ys)) (hx:xs.length = n * sz):w.ownsRow B e sz (.slice (some ⟨g,0,none⟩) n cap) n xs:=by
 rcases h.2 with ⟨h,_⟩ | ⟨g1,cap1,cur1,hv,hb,hg1,hc,hm,hs1,ht⟩
 ·cases h
 cases hv
 refine ⟨hx,.inr ⟨g,cap,cur1,rfl,hb,hg1,by omega,by omega,hs1,?_⟩⟩
 have h2:=congrArg (List.take (n * sz)) ht
 rw [List.take_take,List.take_left' hx,Nat.min_eq_left (Nat.mul_le_mul_right _ (by omega))] at h2
 exact h2
theorem grow_append2 {P:Program} {K:VK} (t T:TypeId) (i:TypeInfo) (z:Value) (bytes:Nat) (ht:P.underlying t = some (.slice e)) (hi:P.info? e = some i) (hz:i.zero = some z)
  (hsize:i.size = n) (hby:i.bytes = bytes) (hzs:z.cells.size = n) (hn:0 < n) (hbb:bytes ≤ 64)
  (h:GRow n e V B D w v l) (hB:B ≤ w.heap.size) {b o c:Nat} {x:α} {xs:List Value} (hxl:xs.length = n) (hcell:∀ (j:Nat) (u:Value),xs[j]? = some u → w.cell? ⟨b,o + j,none⟩ = some u) (h1:∀ u ∈ xs,u.oneCell' = true)
  (hx:FP D w (fun w=>V w xs x)) (hD:∀ i,D i → i < w.heap.size ∧ v.ownBlock ≠ some i) (hl:l.length < 1099511627776)
  (k:∀ v' w',GRow n e V B D w' v' (l ++ [x]) → w.grownBy w' v.ownBlock → (∀ i,v'.ownBlock = some i → v.ownBlock = some i ∨ w.heap.size ≤ i) → (∀ i,D i → i < w'.heap.size ∧ v'.ownBlock ≠ some i) →
   GRow n e V B D w' v l → (∀ u,GRow n e V B D w u (l ++ [x]) → GRow n e V B D w' u (l ++ [x])) → K v' w') :
  oM P (.call { callee:=.builtin .append,args:=#[.tmp 0,.tmp 1],argTypes:=#[t,t] }) T [v,.slice (some ⟨b,o,none⟩) 1 c] K w:=by
 obtain ⟨cs,ho,hf⟩:=h.ex
 have hlx:(flat Cl.cs cs).length = l.length * n:=ho.1
 refine append_at2 t T e i z n bytes ht hi hz hsize hby hzs hn (owns_base ho (Nat.zero_le _)) xs (by omega) ?_ h1 (by simp only [maxLen]; omega) (by have:(l.length + 1) * bytes ≤ 1099511627776 * 64:=Nat.mul_le_mul (by omega) hbb; omega) ?_
 ·intro j u hj
  rw [add_none]
  exact hcell j u hj
 ·intro v' w' ho' hg hv hor
  have hf':=hf.by hg hD
  have hDw:∀ i,D i → i < w.heap.size:=fun i hi=>(hD i hi).1
  have hnew:GRow n e V B D w' v' (l ++ [x]):=by
   refine ⟨cs ++ [⟨xs,hxl⟩],?_,?_⟩
   ·have e2:flat Cl.cs (cs ++ [(⟨xs,hxl⟩:Cl n)]) = flat Cl.cs cs ++ xs:=by rw [flat_snoc]; rfl
    have e1:(l ++ [x]).length = l.length + 1:=by simp
    rw [e1,e2]
    exact owns_up ho' (fun i hi=>(hv i hi).elim (fun h=>(owns_own ho h).2.1) (fun h=>Nat.le_trans hB h))
   ·have hx':=hx.by hg hD
    refine (hf'.both hx').imp ?_
    rintro w2 ⟨⟨hc1,hc2⟩,hx2⟩
    refine ⟨by simp [hc1],fun i c y hi hy=>?_⟩
    by_cases hlt:i < cs.length
    ·rw [List.getElem?_append_left hlt] at hi
     rw [List.getElem?_append_left (by omega)] at hy
     exact hc2 i c y hi hy
    ·rw [List.getElem?_append_right (by omega)] at hi
     rw [List.getElem?_append_right (by omega)] at hy
     have:i - cs.length = 0:=by
      have:=(gS hi).1
      simp at this
      omega
     rw [this] at hi
     rw [show i - l.length = 0 by omega] at hy
     simp at hi hy
     subst hi; subst hy
     exact hx2
  refine k v' w' hnew hg hv ?_ ?_ ?_
  ·intro i hi
   obtain ⟨h2,h3⟩:=hD i hi
   refine ⟨Nat.lt_of_lt_of_le h2 hg.size,fun e=>?_⟩
   rcases hv i e with h4 | h4
   ·exact h3 h4
   ·omega
  ·rcases hor with hb | ⟨g,cap,e1,e2⟩
   ·exact h.next hb hDw
   ·subst e1; subst e2
    exact ⟨cs,owns_up (owns_part ho' hlx) (fun i hi=>(owns_own ho hi).2.1),hf'⟩
  ·intro u hu
   rcases hor with hb | ⟨g,cap,e1,e2⟩
   ·exact hu.next hb hDw
   ·obtain ⟨cu,hou,hfu⟩:=hu.ex
    by_cases hug:u.ownBlock = v.ownBlock
    ·obtain ⟨gv,hgv⟩:∃ gv,v.ownBlock = some gv:=⟨g,by rw [e1]; rfl⟩
     have hug':u = v':=by
      rcases hou.2 with ⟨_,h0⟩ | ⟨g1,cap1,cur1,hu1,_,hg1,_,_,hs1,_⟩
      ·simp at h0
      rcases ho.2 with ⟨hv1,_⟩ | ⟨g2,cap2,cur2,hv2,_,hg2,_,_,hs2,_⟩
      ·rw [hv1] at hgv; cases hgv
      rw [hv2] at e1
      cases e1
      have e3:g1 = g:=by
       rw [hu1,hv2] at hug
       exact Option.some.inj hug
      subst e3
      rw [hg1] at hg2
      cases hg2
      rw [hs1] at hs2
      rw [hu1,e2,Nat.eq_of_mul_eq_mul_right hn hs2]
      simp
     rw [hug']
     exact hnew
    ·exact hu.keep (Fr.of_by' hg) (fun i hi=>⟨hDw i hi,(hD i hi).2⟩) (fun i hi e=>hug (hi.trans e.symm))
end
end Go.Sh
namespace Go.Proofs
open Go Go.Sh Go.RowKit FdSpec TkSpec CodeSpec PrSpec
section
variable {K:VK} {w w' w0 W:World} {L:List (Addr × Value)}
theorem ints_append2 {B g c n:Nat} {D:Nat → Prop} {v:Value} {l:List (List Int)} {x:List Int} {T:TypeId} (h:ListG B D w v l) (hB:B ≤ w.heap.size) {b:Nat} {ad:Option Addr} (hh:Holds w b 24 [.slice ad n c])
  (hx:FP D w (fun w=>Ints w (.slice ad n c) x)) (hD:Off D w v) (hl:l.length < 1099511627776)
  (k:∀ v' w',ListG B D w' v' (l ++ [x]) → w.grownBy w' v.ownBlock → (∀ i,v'.ownBlock = some i → v.ownBlock = some i ∨ w.heap.size ≤ i) → Off D w' v' → ListG B D w' v l → (∀ u,ListG B D w u (l ++ [x]) → ListG B D w' u (l ++ [x])) → K v' w') :
  oM Tryz.prog (.call { callee:=.builtin .append,args:=#[.tmp 0,.tmp 1],argTypes:=#[30,30] }) T [v,.slice (some ⟨b,0,none⟩) 1 g] K w:=by
 refine grow_append2 30 T ((Tryz.prog.info? 24).getD default) (.slice none 0 0) 24 (by kernel_rfl) (by kernel_rfl) (by kernel_rfl) (by kernel_rfl) (by kernel_rfl) (by kernel_rfl) (by decide) (by decide)
  h hB (xs:=[.slice ad n c]) rfl ?_ (row_one _ _ _) (hx.imp fun w h=>⟨_,rfl,h⟩) hD hl k
 intro j u hj
 rw [cell_of_block hh]
 simpa using hj
theorem lists_append2 {B g c n:Nat} {D:Nat → Prop} {v:Value} {l:List (List (List Int))} {x:List (List Int)} {T:TypeId} (h:NumG B D w v l) (hB:B ≤ w.heap.size) {b:Nat} {ad:Option Addr} (hh:Holds w b 30 [.slice ad n c])
  (hx:FP D w (fun w=>ListsR w (.slice ad n c) x)) (hD:Off D w v) (hl:l.length < 1099511627776)
  (k:∀ v' w',NumG B D w' v' (l ++ [x]) → w.grownBy w' v.ownBlock → (∀ i,v'.ownBlock = some i → v.ownBlock = some i ∨ w.heap.size ≤ i) → Off D w' v' → NumG B D w' v l → (∀ u,NumG B D w u (l ++ [x]) → NumG B D w' u (l ++ [x])) → K v' w') :
  oM Tryz.prog (.call { callee:=.builtin .append,args:=#[.tmp 0,.tmp 1],argTypes:=#[29,29] }) T [v,.slice (some ⟨b,0,none⟩) 1 g] K w:=by
 refine grow_append2 29 T ((Tryz.prog.info? 30).getD default) (.slice none 0 0) 24 (by kernel_rfl) (by kernel_rfl) (by kernel_rfl) (by kernel_rfl) (by kernel_rfl) (by kernel_rfl) (by decide) (by decide)
  h hB (xs:=[.slice ad n c]) rfl ?_ (row_one _ _ _) (hx.imp fun w h=>⟨_,rfl,h⟩) hD hl k
 intro j u hj
 rw [cell_of_block hh]
 simpa using hj
structure DuoI (B:Nat) (D:Nat → Prop) (W:World) (v0 u0 xv yv:Value) (l:List (List Int)) (m:List (List (List Int))) (x:List Int) (y:List (List Int)):Prop where
 a:ListG B D W v0 l
 b:NumG B D W u0 m
 oa:Off D W v0
 ob:Off D W u0
 ap:apart v0 u0
 B:B ≤ W.heap.size
 x:FP D W (fun w=>Ints w xv x)
 y:FP D W (fun w=>ListsR w yv y)
 l:l.length < 1099511627776
 m:m.length < 1099511627776
def DuoC (B:Nat) (D:Nat → Prop) (W:World) (v0 u0:Value) (l:List (List Int)) (m:List (List (List Int))) (w:World):Prop:=Fr (fun i=>v0.ownBlock = some i ∨ u0.ownBlock = some i) W w ∧ ListG B D w v0 l ∧ NumG B D w u0 m
def DuoA (B:Nat) (D:Nat → Prop) (W:World) (v0:Value) (l:List (List Int)) (v:Value) (w:World):Prop:=ListG B D w v l ∧ Off D w v ∧ ∀ i,v.ownBlock = some i → v0.ownBlock = some i ∨ W.heap.size ≤ i
def DuoB (B:Nat) (D:Nat → Prop) (W:World) (u0:Value) (m:List (List (List Int))) (u:Value) (w:World):Prop:=NumG B D w u m ∧ Off D w u ∧ ∀ i,u.ownBlock = some i → u0.ownBlock = some i ∨ W.heap.size ≤ i
def DuoS (B:Nat) (D:Nat → Prop) (W:World) (v0 u0:Value) (l:List (List Int)) (m:List (List (List Int))) (w w1:World):Prop:=Fr (fun i=>v0.ownBlock = some i ∨ u0.ownBlock = some i) w w1 ∧ (∀ v,DuoA B D W v0 l v w → DuoA B D W v0 l v w1) ∧ (∀ u,DuoB B D W u0 m u w → DuoB B D W u0 m u w1)
def LitV (W:World) (T:TypeId) (x:Value) (v:Value) (w:World):Prop:=∃ g,v = .slice (some ⟨g,0,none⟩) 1 1 ∧ W.heap.size ≤ g ∧ Holds w g T [x]
theorem duo_below {B:Nat} {D:Nat → Prop} {v0 u0:Value} {l l2:List (List Int)} {m m2:List (List (List Int))} (h:DuoC B D W v0 u0 l m w) (hD:∀ i,D i → i < W.heap.size) (hb:Bw w w'):DuoC B D W v0 u0 l m w' ∧ DuoS B D W v0 u0 l2 m2 w w':=by
 have hDw:∀ i,D i → i < w.heap.size:=fun i hi=>Nat.lt_of_lt_of_le (hD i hi) h.1.size
 exact ⟨⟨h.1.trans (S':=fun _=>False) (Fr.of_below hb) (fun _ h=>h.elim),h.2.1.next hb hDw,h.2.2.next hb hDw⟩,Fr.of_below hb,
  fun v hv=>⟨hv.1.next hb hDw,hv.2.1.next hb.size,hv.2.2⟩,fun v hv=>⟨hv.1.next hb hDw,hv.2.1.next hb.size,hv.2.2⟩⟩
theorem own_types {e e':TypeId} (hne:e ≠ e') {B B' n n' m m':Nat} {v u:Value} {xs ys:List Value} (h:w.ownsRow B e n v m xs) (k:w.ownsRow B' e' n' u m' ys):apart v u:=by
 intro i h1 h2
 obtain ⟨_,_,c1,e1⟩:=owns_own h h1
 obtain ⟨_,_,c2,e2⟩:=owns_own k h2
 rw [e1] at e2
 injection e2 with e2
 injection e2 with _ e3
 exact hne e3
theorem duo_free {Tail:Value → Value → VK} {B b6 i1:Nat} {D:Nat → Prop} {v0 u0:Value} {adx ady:Option Addr} {nx cx ny cy:Nat} {l:List (List Int)} {m:List (List (List Int))} {x':List Int} {y:List (List Int)} {T6 T1 T2 T3 T4 T5:TypeId}
  (h:DuoI B D W v0 u0 (.slice adx nx cx) (.slice ady ny cy) l m x' y)
  (hfa:∀ (K':VK) (w:World),K' (.pointer (some ⟨b6,i1,none⟩)) w → oM Tryz.prog (.fieldAddr T6 (.tmp 0) i1) T5 [.pointer (some ⟨b6,0,none⟩)] K' w)
  (k:∀ w v u,Fr (fun i=>v0.ownBlock = some i ∨ u0.ownBlock = some i) W w → DuoA B D W v0 (l ++ [x']) v w → DuoB B D W u0 (m ++ [y]) u w → apart v u → Tail v u (.pointer (some ⟨b6,i1,none⟩)) w) :
  ∃ S:World → WK,∃ R1:VK,(∀ v w w1,S w w1 → R1 v w → R1 v w1) ∧
   (∀ w,DuoC B D W v0 u0 l m w → oM Tryz.prog (.buildSlice 30 1 #[(0,.tmp 0)]) T1 [.slice adx nx cx] (fun v w1=>DuoC B D W v0 u0 l m w1 ∧ S w w1 ∧ R1 v w1) w) ∧
   (∃ R2:VK,(∀ v w w1,S w w1 → R2 v w → R2 v w1) ∧
   (∀ w,DuoC B D W v0 u0 l m w → ∀ v1,R1 v1 w → oM Tryz.prog (.call { callee:=.builtin .append,args:=#[.tmp 0,.tmp 1],argTypes:=#[30,30] }) T2 [v0,v1] (fun v w1=>DuoC B D W v0 u0 l m w1 ∧ S w w1 ∧ R2 v w1) w) ∧
   (∃ R3:VK,(∀ v w w1,S w w1 → R3 v w → R3 v w1) ∧
   (∀ w,DuoC B D W v0 u0 l m w → oM Tryz.prog (.buildSlice 29 1 #[(0,.tmp 0)]) T3 [.slice ady ny cy] (fun v w1=>DuoC B D W v0 u0 l m w1 ∧ S w w1 ∧ R3 v w1) w) ∧
   (∃ R4:VK,(∀ v w w1,S w w1 → R4 v w → R4 v w1) ∧
   (∀ w,DuoC B D W v0 u0 l m w → ∀ v1,R3 v1 w → oM Tryz.prog (.call { callee:=.builtin .append,args:=#[.tmp 0,.tmp 1],argTypes:=#[29,29] }) T4 [u0,v1] (fun v w1=>DuoC B D W v0 u0 l m w1 ∧ S w w1 ∧ R4 v w1) w) ∧
   (∃ R5:VK,(∀ v w w1,S w w1 → R5 v w → R5 v w1) ∧
   (∀ w,DuoC B D W v0 u0 l m w → oM Tryz.prog (.fieldAddr T6 (.tmp 0) i1) T5 [.pointer (some ⟨b6,0,none⟩)] (fun v w1=>DuoC B D W v0 u0 l m w1 ∧ S w w1 ∧ R5 v w1) w) ∧
   (∀ w,DuoC B D W v0 u0 l m w → ∀ v1,R1 v1 w → ∀ v2,R2 v2 w → ∀ v3,R3 v3 w → ∀ v4,R4 v4 w → ∀ v5,R5 v5 w → Tail v2 v4 v5 w))))):=by
 have hD:∀ i,D i → i < W.heap.size:=fun i hi=>(h.oa i hi).1
 have hDo:∀ i,D i → i < W.heap.size ∧ ¬ (v0.ownBlock = some i ∨ u0.ownBlock = some i):=fun i hi=>⟨hD i hi,fun e=>e.elim (h.oa i hi).2 (h.ob i hi).2⟩
 have hv0:∀ i,v0.ownBlock = some i → i < W.heap.size:=fun i hi=>(h.a.own hi).1
 have hu0:∀ i,u0.ownBlock = some i → i < W.heap.size:=fun i hi=>(h.b.own hi).1
 have hlit:∀ (T:TypeId) (x v:Value) (w w1:World),DuoS B D W v0 u0 (l ++ [x']) (m ++ [y]) w w1 → LitV W T x v w → LitV W T x v w1:=by
  rintro T x v w w1 hS ⟨g,rfl,hg,hh⟩
  refine ⟨g,rfl,hg,(hS.1.block g hh.lt (fun e=>?_)).trans hh⟩
  rcases e with e | e
  ·have:=hv0 g e; omega
  ·have:=hu0 g e; omega
 refine ⟨DuoS B D W v0 u0 (l ++ [x']) (m ++ [y]),LitV W 24 (.slice adx nx cx),fun v w w1=>hlit _ _ v w w1,?_,DuoA B D W v0 (l ++ [x']),fun v w w1 hS hv=>hS.2.1 v hv,?_,
  LitV W 30 (.slice ady ny cy),fun v w w1=>hlit _ _ v w w1,?_,DuoB B D W u0 (m ++ [y]),fun v w w1 hS hv=>hS.2.2 v hv,?_,fun v _=>v = .pointer (some ⟨b6,i1,none⟩),fun _ _ _ _ h=>h,?_,?_⟩
 ·intro w hC
  refine lit_ints _ _ _ (fun g w1 hb hg hh=>?_)
  have h2:=duo_below hC hD hb (l2:=l ++ [x']) (m2:=m ++ [y])
  exact ⟨h2.1,h2.2,g,rfl,Nat.le_trans hC.1.size hg,hh⟩
 ·rintro w hC _ ⟨g,rfl,hg,hh⟩
  have hws:=hC.1.size
  refine ints_append2 hC.2.1 (Nat.le_trans h.B hws) hh (h.x.fr hC.1 hDo) (fun i hi=>⟨Nat.lt_of_lt_of_le (hD i hi) hws,(h.oa i hi).2⟩) h.l (fun v' w' hg' hb hv ho hold hst=>?_)
  have hDv:∀ i,D i → i < w.heap.size ∧ ¬ v0.ownBlock = some i:=fun i hi=>⟨Nat.lt_of_lt_of_le (hD i hi) hws,(h.oa i hi).2⟩
  refine ⟨⟨hC.1.by hb (fun i e=>.inl (.inl e)),hold,hC.2.2.keep (Fr.of_by' hb) hDv (fun i hi e=>h.ap i e hi)⟩,⟨(Fr.of_by' hb).mono (fun i _ e=>.inl e),fun v hv=>⟨hst v hv.1,hv.2.1.next hb.size,hv.2.2⟩,fun u hu=>⟨hu.1.keep (Fr.of_by' hb) hDv (fun i hi e=>?_),hu.2.1.next hb.size,hu.2.2⟩⟩,
   hg',ho,fun i hi=>(hv i hi).imp id (fun e=>Nat.le_trans hws e)⟩
  rcases hu.2.2 i hi with e2 | e2
  ·exact h.ap i e e2
  ·have:=hv0 i e; omega
 ·intro w hC
  refine lit_lists _ _ _ (fun g w1 hb hg hh=>?_)
  have h2:=duo_below hC hD hb (l2:=l ++ [x']) (m2:=m ++ [y])
  exact ⟨h2.1,h2.2,g,rfl,Nat.le_trans hC.1.size hg,hh⟩
 ·rintro w hC _ ⟨g,rfl,hg,hh⟩
  have hws:=hC.1.size
  refine lists_append2 hC.2.2 (Nat.le_trans h.B hws) hh (h.y.fr hC.1 hDo) (fun i hi=>⟨Nat.lt_of_lt_of_le (hD i hi) hws,(h.ob i hi).2⟩) h.m (fun v' w' hg' hb hv ho hold hst=>?_)
  have hDv:∀ i,D i → i < w.heap.size ∧ ¬ u0.ownBlock = some i:=fun i hi=>⟨Nat.lt_of_lt_of_le (hD i hi) hws,(h.ob i hi).2⟩
  refine ⟨⟨hC.1.by hb (fun i e=>.inl (.inr e)),hC.2.1.keep (Fr.of_by' hb) hDv (fun i hi e=>h.ap i hi e),hold⟩,⟨(Fr.of_by' hb).mono (fun i _ e=>.inr e),fun v hv=>⟨hv.1.keep (Fr.of_by' hb) hDv (fun i hi e=>?_),hv.2.1.next hb.size,hv.2.2⟩,fun u hu=>⟨hst u hu.1,hu.2.1.next hb.size,hu.2.2⟩⟩,
   hg',ho,fun i hi=>(hv i hi).imp id (fun e=>Nat.le_trans hws e)⟩
  rcases hv.2.2 i hi with e2 | e2
  ·exact h.ap i e2 e
  ·have:=hu0 i e; omega
 ·intro w hC
  refine hfa _ _ ?_
  have h2:=duo_below hC hD (Below.refl _ _) (l2:=l ++ [x']) (m2:=m ++ [y])
  exact ⟨h2.1,h2.2,rfl⟩
 ·rintro w hC _ _ v hv _ _ u hu _ rfl
  refine k w v u hC.1 hv hu ?_
  obtain ⟨_,o1,_⟩:=hv.1.ex
  obtain ⟨_,o2,_⟩:=hu.1.ex
  exact own_types (by decide) o1 o2
end
end Go.Proofs
namespace PrSpec
open FdSpec TkSpec CodeSpec FdPoly GrLaw
def doneR (r:Rd):Bool:=!r.bad && decide (r.rest = [])
def rowsM (vs:List Int):(List (List Int) × List (List (List Int))) × Rw:=clausesR (countR ⟨vs,false⟩).1 (countR ⟨vs,false⟩).2
def decodeM (s:Bytes):(List (List Int) × List (List (List Int))) × Bool:=
 if doneR (rdNums ⟨s,false⟩).2 && !(rowsM (rdNums ⟨s,false⟩).1).2.bad && decide ((rowsM (rdNums ⟨s,false⟩).1).2.left = []) then ((rowsM (rdNums ⟨s,false⟩).1).1,true) else (([],[]),false)
theorem encInt_pos (n:Int):1 ≤ (encInt n).length:=by simp [encInt]
theorem encNums_pos (vs:List Int):vs.length ≤ (encNums vs).length:=by
 have:vs.length ≤ ((vs.map encInt).flatten).length:=by
  induction vs with
  | nil=>simp
  | cons a l ih=>
   have:=encInt_pos a
   simp only [List.map_cons,List.flatten_cons,List.length_append,List.length_cons]
   omega
 simp only [encNums,encList,List.length_append,List.length_cons]
 omega
theorem rdNums_len (s:Bytes):(rdNums ⟨s,false⟩).1.length ≤ s.length:=by
 rcases rdNums_some ⟨s,false⟩ Rd.ok_good with h | ⟨vs,t,h,e,_⟩
 ·rw [h]; simp
 ·rw [h]
  have e2:s = encNums vs ++ t:=congrArg Rd.rest e
  have:=encNums_pos vs
  rw [e2,List.length_append]
  show vs.length ≤ _
  omega
theorem clauseL_len:∀ (ds:List (List Int)) (asx:List (List (List Int))),evenL ds asx = true → ds.length ≤ (clauseL ds asx).length
 | [],_,_=>by simp
 | _ :: _,[],h=>by simp [evenL] at h
 | d :: ds,a :: asx,h=>by
  simp only [evenL,Bool.and_eq_true] at h
  have:=clauseL_len ds asx h.2
  simp only [clauseL,List.length_cons,List.length_append]
  omega
theorem decode_encode {ds:List (List Int)} {asx:List (List (List Int))} (he:evenL ds asx = true) (hin:∀ x ∈ (ds.length:Int) :: clauseL ds asx,InR x) (hl:(((ds.length:Int) :: clauseL ds asx).length:Int) ≤ 9223372036854775807):decodeM (encodeM ds asx).1 = ((ds,asx),true):=by
 unfold encodeM
 rw [if_pos he]
 have h1:=rdNums_enc ((ds.length:Int) :: clauseL ds asx) [] hl hin
 rw [List.append_nil] at h1
 have h2:rowsM ((ds.length:Int) :: clauseL ds asx) = ((ds,asx),⟨[],false⟩):=by
  unfold rowsM
  have hle:=clauseL_len ds asx he
  rw [count_cons hle]
  have:=clauses_enc ds asx [] false he
  rwa [List.append_nil] at this
 unfold decodeM
 simp only [h1,h2]
 simp [doneR]
end PrSpec
namespace Go.Proofs
open Go Go.Sh Go.RowKit FdSpec TkSpec CodeSpec PrSpec
section
variable {K:VK} {w w' w0 W:World} {L:List (Addr × Value)}
theorem nextR_len (r:Rw):(nextR r).2.left.length ≤ r.left.length:=by
 unfold nextR; split <;> simp_all
theorem countR_len (r:Rw):(countR r).2.left.length ≤ r.left.length ∧ (countR r).1 ≤ r.left.length ∧ (countR r).1 ≤ (countR r).2.left.length:=by
 have:=nextR_len r
 unfold countR
 split
 ·exact ⟨this,Nat.zero_le _,Nat.zero_le _⟩
 ·rename_i h
  refine ⟨this,?_,?_⟩ <;> simp only <;> omega
structure Inn (B b:Nat) (W w:World) (r:Rw) (dv av:Value) (ds:List Int) (al:List (List Int)) (D:Nat → Prop):Prop where
 fr:Fr (fun i=>i = b) W w
 rw:IsRw B w b r
 B:B ≤ W.heap.size
 d:OwnI w W.heap.size dv ds
 a:ListG W.heap.size D w av al
 od:Off D w dv
 oa:Off D w av
 ap:apart dv av
 low:∀ i,D i → W.heap.size ≤ i
 rng:∀ x ∈ ds,I64 x
section
variable {B b:Nat} {r r':Rw} {dv av:Value} {ds:List Int} {al:List (List Int)} {D:Nat → Prop}
theorem IsRw.lt (h:IsRw B w b r):b < B:=by obtain ⟨_,_,_,h,_⟩:=h; exact h
theorem Inn.start (hr:IsRw B W b r) (hB:B ≤ W.heap.size):Inn B b W W r (.slice none 0 0) (.slice none 0 0) [] [] (fun _=>False):=
 ⟨Fr.refl _ _,hr,hB,own_none,.nil,fun i h=>h.elim,fun i h=>h.elim,(fun i h=>by cases h),fun i h=>h.elim,by simp⟩
theorem Inn.read (h:Inn B b W w r dv av ds al D) (hg:w.grownBy w' (some b)) (hr:IsRw B w' b r'):Inn B b W w' r' dv av ds al D:=by
 have hb:=h.rw.lt
 have hWB:=h.B
 exact ⟨h.fr.by hg (fun i e=>.inl (Option.some.inj e).symm),hr,h.B,
  owns_keep h.d (fun i hi=>hg.block i (owns_own h.d hi).1 (fun e=>by have:=(owns_own h.d hi).2.1; have:=Option.some.inj e; omega)),
  h.a.keep (Fr.of_by hg) (fun i hi=>⟨(h.od i hi).1,fun e=>by have:=h.low i hi; omega⟩) (fun i hi e=>by have:=(h.a.own hi).2; omega),
  h.od.next hg.size,h.oa.next hg.size,h.ap,h.low,h.rng⟩
theorem Inn.next (h:Inn B b W w r dv av ds al D) (hb:Bw w w'):Inn B b W w' r dv av ds al D:=
 ⟨h.fr.trans (S':=fun _=>False) (Fr.of_below hb) (fun _ h=>h.elim),h.rw.keep (hb.mono (Nat.le_trans h.B h.fr.size)),h.B,h.d.keep hb,h.a.next hb (fun i hi=>(h.od i hi).1),h.od.next hb.size,h.oa.next hb.size,h.ap,h.low,h.rng⟩
theorem Inn.rwBy (h:Inn B b W w r dv av ds al D) {o:Option Nat} (hg:w.grownBy w' o) (ho:∀ i,o = some i → W.heap.size ≤ i):IsRw B w' b r:=
 h.rw.keep ⟨hg.os,hg.tape,hg.output,hg.size,fun i hi=>hg.block i (by have:=h.B; have:=h.fr.size; omega) (fun e=>by have h1:=ho i e.symm; have:=h.B; omega)⟩
theorem Inn.addD {T:TypeId} {xv:Value} {x:Int} (h:Inn B b W w r dv av ds al D) (hx:Ints w xv [x]) (hl:ds.length < 1099511627776)
  (k:∀ v w',Inn B b W w' r v av (ds ++ [x]) al D → K v w'):oM Tryz.prog (.call { callee:=.builtin .append,args:=#[.tmp 0,.tmp 1],argTypes:=#[24,24] }) T [dv,xv] K w:=by
 have hown:=fun i (hi:dv.ownBlock = some i)=>(owns_own h.d hi)
 refine append1g h.d h.fr.size hx hl (fun v w' ho hg hv=>k v w' ⟨h.fr.by hg (fun i e=>.inr (hown i e).2.1),h.rwBy hg (fun i e=>(hown i e).2.1),h.B,ho,h.a.keep (Fr.of_by' hg) (fun i hi=>⟨(h.od i hi).1,(h.od i hi).2⟩) (fun i hi e=>h.ap i e hi),?_,h.oa.next hg.size,?_,h.low,?_⟩)
 ·intro i hi
  refine ⟨Nat.lt_of_lt_of_le (h.od i hi).1 hg.size,fun e=>?_⟩
  rcases hv i e with h1 | h1
  ·exact (h.od i hi).2 h1
  ·have:=(h.od i hi).1; omega
 ·intro i e1 e2
  rcases hv i e1 with h1 | h1
  ·exact h.ap i h1 e2
  ·have:=(h.a.own e2).1; omega
 ·intro y hy
  rcases List.mem_append.1 hy with hy | hy
  ·exact h.rng y hy
  ·exact hx.rng y hy
theorem Inn.addA {T:TypeId} {g n c gb:Nat} {ad:Option Addr} {x:List Int} {E:Nat → Prop} (h:Inn B b W w r dv av ds al D) (hh:Holds w gb 24 [.slice ad n c]) (hx:FP E w (fun w=>Ints w (.slice ad n c) x)) (hE:∀ i,E i → W.heap.size ≤ i ∧ i < w.heap.size ∧ dv.ownBlock ≠ some i ∧ av.ownBlock ≠ some i) (hl:al.length < 1099511627776)
  (k:∀ v w',Inn B b W w' r dv v ds (al ++ [x]) (fun i=>D i ∨ E i) → K v w'):oM Tryz.prog (.call { callee:=.builtin .append,args:=#[.tmp 0,.tmp 1],argTypes:=#[30,30] }) T [av,.slice (some ⟨gb,0,none⟩) 1 g] K w:=by
 have hD':Off (fun i=>D i ∨ E i) w av:=fun i hi=>hi.elim (h.oa i) (fun hi=>⟨(hE i hi).2.1,(hE i hi).2.2.2⟩)
 have hD2:Off (fun i=>D i ∨ E i) w dv:=fun i hi=>hi.elim (h.od i) (fun hi=>⟨(hE i hi).2.1,(hE i hi).2.2.1⟩)
 refine ints_append (h.a.mono fun i hi=>.inl hi) h.fr.size hh (hx.mono fun i hi=>.inr hi) hD' hl (fun v w' hg hb hv ho=>k v w' ⟨h.fr.by hb (fun i e=>.inr (h.a.own e).2),h.rwBy hb (fun i e=>(h.a.own e).2),h.B,owns_keep h.d (fun i hi=>hb.block i (owns_own h.d hi).1 (fun e=>h.ap i hi (by first | exact e | exact e.symm))),hg,hD2.next hb.size,ho,?_,?_,h.rng⟩)
 ·intro i e1 e2
  rcases hv i e2 with h1 | h1
  ·exact h.ap i e1 h1
  ·have:=(owns_own h.d e1).1; omega
 ·rintro i (hi | hi)
  ·exact h.low i hi
  ·exact (hE i hi).1
end
theorem itemsR_succ (k:Nat) (r:Rw):itemsR (k + 1) r = (((nextR r).1 :: (itemsR k (takeR (countR (nextR r).2).1 (countR (nextR r).2).2).2).1.1,(takeR (countR (nextR r).2).1 (countR (nextR r).2).2).1 :: (itemsR k (takeR (countR (nextR r).2).1 (countR (nextR r).2).2).2).1.2),(itemsR k (takeR (countR (nextR r).2).1 (countR (nextR r).2).2).2).2):=rfl
theorem clausesR_succ (k:Nat) (r:Rw):clausesR (k + 1) r = (((itemsR (countR r).1 (countR r).2).1.1 :: (clausesR k (itemsR (countR r).1 (countR r).2).2).1.1,(itemsR (countR r).1 (countR r).2).1.2 :: (clausesR k (itemsR (countR r).1 (countR r).2).2).1.2),(clausesR k (itemsR (countR r).1 (countR r).2).2).2):=rfl
def IjJ (B b N:Nat) (W:World) (n:Nat) (R:(List Int × List (List Int)) × Rw) (vs:List Value) (w':World):Prop:=∃ (dv u av:Value) (k:Nat) (r:Rw) (ds:List Int) (al:List (List Int)) (D:Nat → Prop),vs = [dv,u,av,.int .i64 (k:Int)] ∧ k ≤ n ∧ Inn B b W w' r dv av ds al D ∧ r.left.length ≤ N ∧ ds.length = k ∧ al.length = k ∧
 R = ((ds ++ (itemsR (n - k) r).1.1,al ++ (itemsR (n - k) r).1.2),(itemsR (n - k) r).2)
@[reducible] def zPv:Value:=prfV (.slice none 0 0) (.slice none 0 0)
theorem al_prf (w:World):(Instr.alloc 34 true (.tuple #[])).run Tryz.prog w = .ok (.pointer (some ⟨w.heap.size,0,none⟩)) (w.alloc (.cells [.slice none 0 0,.slice none 0 0].toArray 34)):=by kernel_rfl
theorem sz_prf (w:World):(sizeOf 34).run Tryz.prog w = .ok 2 w:=by kernel_rfl
theorem prf_one (ad ad2:Option Addr) (n c n2 c2:Nat):∀ u ∈ prfC (.slice ad n c) (.slice ad2 n2 c2),u.oneCell' = true:=by
 intro u hu
 simp only [prfC,List.mem_cons,List.not_mem_nil,or_false] at hu
 rcases hu with rfl | rfl <;> rfl
theorem build_row (T:TypeId) (ad:Option Addr) (n c:Nat):oM Tryz.prog (Go.Op.build 160 #[(0,(.tmp 0))]) T [.slice ad n c] = pureM (.agg #[.slice ad n c,.bool false]):=by
 funext K w
 kernel_rfl
def OjJ (B3 b15 b6 N n:Nat) (W:World) (R:(List (List Int) × List (List (List Int))) × Rw) (vs:List Value) (w':World):Prop:=∃ (u1 u2 u3 dv av:Value) (i:Nat) (r:Rw) (ds:List (List Int)) (al:List (List (List Int))) (D:Nat → Prop),vs = [u1,u2,u3,.int .i64 (i:Int)] ∧ i ≤ n ∧ Fr (fun j=>j = b15 ∨ j = b6) W w' ∧ IsRw B3 w' b15 r ∧ Holds w' b6 34 [dv,av] ∧
 ListG W.heap.size D w' dv ds ∧ NumG W.heap.size D w' av al ∧ Off D w' dv ∧ Off D w' av ∧ apart dv av ∧ (∀ j,D j → W.heap.size ≤ j) ∧ r.left.length ≤ N ∧ ds.length = i ∧ al.length = i ∧
 R = ((ds ++ (clausesR (n - i) r).1.1,al ++ (clausesR (n - i) r).1.2),(clausesR (n - i) r).2)
theorem knm_fr {S:Nat → Prop} {g n:Nat} (h:KnM w0 [] g n w) (hf:Fr S w w') (hS:∀ i,S i → w0.heap.size ≤ i ∧ i ≠ g):KnM w0 [] g n w':=by
 have hlt:=mine_lt h.mine
 refine ⟨⟨⟨hf.os.trans h.kn.below.os,hf.tape.trans h.kn.below.tape,hf.output.trans h.kn.below.output,Nat.le_trans h.kn.below.size hf.size,fun i hi=>(hf.block i (Nat.lt_of_lt_of_le hi h.kn.below.size) (fun e=>by have:=(hS i e).1; omega)).trans (h.kn.below.block i hi)⟩,trivial⟩,?_,h.base,h.off⟩
 obtain ⟨cur,T,h1,h2⟩:=h.mine
 exact ⟨cur,T,(hf.block g hlt (fun e=>(hS g e).2 rfl)).trans h1,h2⟩
theorem own_inB {B:Nat} {v:Value} {l:List Int} (h:OwnI w B v l) {i:Nat} (hi:Value.inBlock v = some i):v.ownBlock = some i:=by
 rcases h.2 with ⟨rfl,_⟩ | ⟨g,cap,cur,rfl,_⟩
 ·cases hi
 ·exact hi
theorem Decode_ok (s:Bytes) (hs:s.length < 1000000000) (hl:Cd.LaidE w) (k:∀ w' dv av,Bw w w' → ListsR w' dv (decodeM s).1.1 → NumsR w' av (decodeM s).1.2 → K (.tuple #[prfV dv av,.bool (decodeM s).2]) w'):callM Tryz.prog 52 #[.string ⟨s.toArray⟩] K w:=by
 apply sh_52_ok
 unfold sh_52
 refine alloc_mine (n:=2) al_prf rfl (.start w) fun g W2 hk hb2 hg=>?_
 have hgW:=mine_lt hk.mine
 refine Cd.open_ok s (fun w1 hr1 hb1=>?_)
 have hk1:=hk.next hb1
 have hl1:=hl.below hk1.below hl.size
 have h8:8 ≤ W2.heap.size:=Nat.le_trans hl.size hb2.size
 refine Cd.itemsNum_ok W2.heap.size _ hl1 h8 (by show s.length < _; omega) Rd.ok_good hr1 (fun v w2 hr2 hg2 ho2=>?_)
 have hfr:FrG W2.heap.size w1 w2:=(Fr.refl _ _).by hg2 (fun i e=>.inl (Option.some.inj e).symm)
 have hk2:=hk1.fr hfr (by simp) (by omega) hb2.size
 have hvl:=rdNums_len s
 have hdec:decodeM s = if doneR (rdNums ⟨s,false⟩).2 && !(rowsM (rdNums ⟨s,false⟩).1).2.bad && decide ((rowsM (rdNums ⟨s,false⟩).1).2.left = []) then ((rowsM (rdNums ⟨s,false⟩).1).1,true) else (([],[]),false):=rfl
 have k2:∀ w' dv av r,decodeM s = r → Bw w w' → ListsR w' dv r.1.1 → NumsR w' av r.1.2 → K (.tuple #[prfV dv av,.bool r.2]) w':=fun w' dv av r e hb h1 h2=>by rw [← e] at h1 h2 ⊢; exact k w' dv av hb h1 h2
 clear k
 obtain ⟨⟨vs,r2⟩,hrd⟩:∃ p,rdNums ⟨s,false⟩ = p:=⟨_,rfl⟩
 rw [hrd] at hdec hr2 ho2 hvl
 simp only at hdec hr2 ho2 hvl
 have bad:∀ w2 (hk:KnM w [] g 2 w2),decodeM s = (([],[]),false) →
   oM Tryz.prog (Go.Op.store 34 (.tmp 0) (.tmp 1)) 0 [.pointer (some ⟨g,0,none⟩),zPv] (fun _ w=>
    ∃ r,(do loadVar 34 (← asAddr (.pointer (some ⟨g,0,none⟩))):Sem Value).run Tryz.prog w = .ok r w ∧ K (.tuple #[r,(.bool false)]) w) w2:=fun w2 hk e=>
  store_mine sz_prf rfl rfl (prf_one none none 0 0 0 0) hk (fun W3 hk hc=>⟨_,by simp [go_sem,hc],k2 _ _ _ _ e hk.below SRow.nil SRow.nil⟩)
 obtain ⟨vad,vc,rfl⟩:=owns_len ho2
 rw [build_row]
 refine arr_box (cs:=[.slice vad vs.length vc,.bool false]) rfl (fun b15 w3 h3 hg3 hh3=>?_)
 have hk3:=hk2.next h3
 have hr3:Cd.IsRd w3 W2.heap.size r2:=by
  unfold Cd.IsRd at hr2 ⊢
  exact (h3.block _ (Array.getElem?_eq_some_iff.1 hr2).1).trans hr2
 refine Cd.done_ok _ r2 hr3 ?_
 have hdd:Cd.rdDone r2 = doneR r2:=rfl
 rw [hdd]
 cases hd:doneR r2 with
 | false=>
  rw [hd] at hdec
  repeat (any_goals (first
  | (with_reducible refine yL ?_)
  | ((with_reducible refine oG fun Kv hK=>?_); simp [go_sem]; refine hK _ _ ?_; clear hK Kv)))
  exact bad _ hk3 (by rw [hdec]; simp)
 | true=>
 rw [hd,Bool.true_and] at hdec
 iterate 2 (any_goals (first
 | (with_reducible refine yM ?_)
 | ((with_reducible refine oG fun Kv hK=>?_); simp [go_sem]; refine hK _ _ ?_; clear hK Kv)))
 refine arr_alloc al_prf (fun b6 w4 h4 hg4 hh4=>?_)
 have hk4:=hk3.next h4
 have hh15:=hh3.next h4
 have hin:∀ x ∈ vs,I64 x:=by
  rcases rdNums_some ⟨s,false⟩ Rd.ok_good with h | ⟨vs',t,h,_,_,h'⟩
  ·rw [hrd] at h; cases h; simp
  ·rw [hrd] at h; cases h; exact fun x hx=>(InR_iff x).1 (h' x hx)
 have ho2':w2.ownsRow w1.heap.size 3 1 (.slice vad vs.length vc) vs.length (flat intC vs):=by rw [flat_int]; exact ho2
 have hints:Ints w2 (.slice vad vs.length vc) vs:=Ints.of_owns ho2' hin (by omega)
 have hcc:CI w2 (.slice vad vs.length vc) vs:=by
  refine ⟨hints,vad,vc,rfl,?_,?_⟩
  ·rcases ho2'.2 with ⟨h1,h2⟩ | ⟨g',cap,cur,h1,_,_,h2,_⟩
   ·injection h1 with ha hb hc; omega
   ·injection h1 with ha hb hc; omega
  ·rintro rfl
   rcases ho2'.2 with ⟨h1,h2⟩ | ⟨g',cap,cur,h1,_,_,h2,_⟩
   ·injection h1
   ·cases h1
 have hin2:∀ i,Value.inBlock (.slice vad vs.length vc) = some i → i < w2.heap.size:=fun i hi=>by
  rcases ho2'.2 with ⟨h1,_⟩ | ⟨g',cap,cur,h1,_,h2,_⟩
  ·injection h1 with ha hb hc; subst ha; cases hi
  ·cases h1; cases hi; exact (Array.getElem?_eq_some_iff.1 h2).1
 have s3:=h3.size
 have s4:=h4.size
 have hrw:IsRw w3.heap.size w4 b15 ⟨vs,false⟩:=⟨_,hh15,hcc.keep (by omega) (fun i hi _=>(h4.block i (by have:=hin2 i hi; omega)).trans (h3.block i (hin2 i hi))),hh3.lt,fun i hi=>⟨by have:=hin2 i hi; omega,by have:=hin2 i hi; omega⟩⟩
 refine count_ok hrw (fun w5 hr5 hg5=>?_)
 have hcl:=countR_len ⟨vs,false⟩
 have hn:(countR ⟨vs,false⟩).1 < 1000000000:=by have:=hcl.2.1; simp only at this; omega
 have hN:(countR ⟨vs,false⟩).2.left.length ≤ 1000000000:=by have:=hcl.1; simp only at this; omega
 have hR0:rowsM vs = clausesR (countR ⟨vs,false⟩).1 (countR ⟨vs,false⟩).2:=rfl
 generalize rowsM vs = R at *
 generalize (countR ⟨vs,false⟩).1 = n at *
 generalize (countR ⟨vs,false⟩).2 = r0 at *
 have hlt15:=hh15.lt
 have hlt6:=hh4.lt
 have hg4:g < w4.heap.size:=mine_lt hk4.mine
 have hne:b6 ≠ b15:=by have:=hh3.lt; omega
 have hh6:=hh4.other hg5 hne
 refine ⟨OjJ w3.heap.size b15 b6 1000000000 n w4 R,(fun vs _=>match vs with | [_,_,_,.int _ i]=>n - i.toNat | _=>0),⟨_,_,_,_,_,0,r0,[],[],fun _=>False,rfl,by omega,Fr.of_by hg5 |>.mono (fun i _ e=>.inl e),hr5,hh6,.nil,.nil,fun i h=>h.elim,fun i h=>h.elim,(fun i h=>by cases h),fun i h=>h.elim,hN,rfl,rfl,by simpa using hR0⟩,?_⟩
 rintro _ _ w6 ⟨u1,u2,u3,dv,av,i,r,ds,al,D,rfl,hi,hfr6,hr6,hh6,hgd,hga,hod,hoa,hap,hlow,hN,hdl,hal,hR⟩
 obtain ⟨dad,dc,rfl⟩:=hgd.isSlice
 obtain ⟨aad,ac,rfl⟩:=hga.isSlice
 have hk6:KnM w [] g 2 w6:=knm_fr hk4 hfr6 (fun j hj=>by
  have:=hk2.below.size
  rcases hj with rfl | rfl
  ·exact ⟨by omega,by have:=mine_lt hk2.mine; omega⟩
  ·exact ⟨by omega,by have:=mine_lt hk3.mine; omega⟩)
 by_cases hin:i = n
 ·rw [show n - i = 0 by omega] at hR
  have hR:R = ((ds,al),r):=by rw [hR]; simp [clausesR]
  obtain ⟨lv,hhr,hcr,hbr,hbi⟩:=id hr6
  obtain ⟨ad,c,rfl,hcap,hnn⟩:=id hcr.2
  rw [hR] at hdec
  have hll:=hcr.1.len
  cases hbad:r.bad with
  | true=>
   rw [hbad] at hhr
   repeat (any_goals (first
   | (with_reducible first|refine zD ?_|refine yB ?_|((refine idCond ?_); first|refine yL ?_|refine yO ?_))
   | ((with_reducible refine oG fun Kv hK=>?_); simp [go_sem,hhr.are]; refine hK _ _ ?_; clear hK Kv)))
   exact bad _ hk6 (by rw [hdec]; simp [hbad])
  | false=>
  rw [hbad] at hhr
  by_cases hl0:(0:Int) < r.left.length
  ·have hl0':¬ r.left = []:=fun e=>by rw [e] at hl0; simp at hl0
   repeat (any_goals (first
   | (with_reducible first|refine pureM_in ?_|refine zC ?_|refine yC ?_|((refine idCond ?_); first|refine yN ?_|refine yO ?_))
   | ((with_reducible refine oG fun Kv hK=>?_); simp [go_sem,hhr.are,hl0]; refine hK _ _ ?_; clear hK Kv)))
   exact bad _ hk6 (by rw [hdec]; simp [hl0'])
  ·have hl0':r.left = []:=List.eq_nil_of_length_eq_zero (by omega)
   repeat (any_goals (first
   | (with_reducible first|refine pureM_in ?_|refine zC ?_|refine yC ?_|refine yO ?_)
   | ((with_reducible refine oG fun Kv hK=>?_); simp [go_sem,hhr.are,hl0,hh6.are]; refine hK _ _ ?_; clear hK Kv)))
   have hdec:decodeM s = ((ds,al),true):=by rw [hdec]; simp [hbad,hl0']
   obtain ⟨W3,e3,hg3',hm3,hc3⟩:=store_run (P:=Tryz.prog) (w:=w6) (W:=w6) sz_prf (x:=prfV (.slice dad ds.length dc) (.slice aad al.length ac)) (xs:=prfC (.slice dad ds.length dc) (.slice aad al.length ac)) rfl rfl (prf_one dad aad ds.length dc al.length ac) hk6.mine
   rw [kS,oM_store,e3]
   have hk7:=hk6.kn.wrote hg3' hk6.base hk6.off
   have hDg:∀ i,D i → i < w6.heap.size ∧ ¬ i = g:=fun i hi=>⟨(hod i hi).1,fun e=>by have:=hlow i hi; omega⟩
   have hgd3:=hgd.keep (Fr.of_by hg3') hDg (fun i hi e=>by have:=(hgd.own hi).2; omega)
   have hga3:=hga.keep (Fr.of_by hg3') hDg (fun i hi e=>by have:=(hga.own hi).2; omega)
   exact ⟨prfV (.slice dad ds.length dc) (.slice aad al.length ac),by simp [go_sem,hc3],k2 W3 _ _ _ hdec hk7.below (hgd3.srow (by decide) (show ds.length ≤ _ by omega)) (hga3.srow (by decide) (show al.length ≤ _ by omega))⟩
 obtain ⟨m,hm⟩:∃ m,n - i = m + 1:=⟨n - i - 1,by omega⟩
 rw [hm,clausesR_succ] at hR
 iterate 2 (any_goals (first
 | (with_reducible refine yN ?_)
 | ((with_reducible refine oG fun Kv hK=>?_); simp [go_sem]; refine hK _ _ ?_; clear hK Kv)))
 refine count_ok hr6 (fun w7 hr7 hg7=>?_)
 have hcl:=countR_len r
 have hn1:(countR r).1 < 1000000000 + 1:=by omega
 have hN1:(countR r).2.left.length ≤ 1000000000:=by omega
 generalize (countR r).1 = n1 at *
 generalize (countR r).2 = r1 at *
 have hB7:w4.heap.size ≤ w7.heap.size:=Nat.le_trans hfr6.size hg7.size
 refine ⟨IjJ w3.heap.size b15 1000000000 w7 n1 (itemsR n1 r1),(fun vs _=>match vs with | [_,_,_,.int _ i]=>n1 - i.toNat | _=>0),⟨_,_,_,0,r1,[],[],fun _=>False,rfl,by omega,Inn.start hr7 (Nat.le_trans s4 hB7),hN1,rfl,rfl,by simp⟩,?_⟩
 generalize hR1:itemsR n1 r1 = R1 at *
 rintro _ _ w8 ⟨dv1,u4,av1,kk,r2,ds1,al1,D1,rfl,hkk,hInn,hN2,hdl1,hal1,hRR⟩
 obtain ⟨d1ad,d1c,hdv1⟩:=owns_len hInn.d
 subst hdv1
 obtain ⟨a1ad,a1c,hav1⟩:=hInn.a.isSlice
 subst hav1
 by_cases hkn:kk = n1
 ·rw [show n1 - kk = 0 by omega] at hRR
  have hRR:R1 = ((ds1,al1),r2):=by rw [hRR]; simp [itemsR]
  have h6s:=hg7.size
  have h7s:=hInn.fr.size
  have hf68:Fr (fun j=>j = b15) w6 w8:=(Fr.of_by hg7).trans hInn.fr (fun i e=>.inl e)
  have h46:=hfr6.size
  have hD8:∀ i,D i → i < w6.heap.size ∧ ¬ i = b15:=fun i hi=>⟨(hod i hi).1,fun e=>by have:=hlow i hi; omega⟩
  have hgd8:=hgd.keep hf68 hD8 (fun i hi e=>by have:=(hgd.own hi).2; omega)
  have hga8:=hga.keep hf68 hD8 (fun i hi e=>by have:=(hga.own hi).2; omega)
  have hh8:Holds w8 b6 34 [.slice dad ds.length dc,.slice aad al.length ac]:=(hf68.block b6 hh6.lt (fun e=>hne e)).trans hh6
  have hodr:Below w8.heap.size w8 { w8 with drawn:=w8.drawn + 1 }:=.drawn
  have hI9:=hInn.next hodr
  have hgd9:=hgd8.next hodr (fun i hi=>Nat.lt_of_lt_of_le (hD8 i hi).1 (Nat.le_trans h6s h7s))
  have hga9:=hga8.next hodr (fun i hi=>Nat.lt_of_lt_of_le (hD8 i hi).1 (Nat.le_trans h6s h7s))
  have hh9:=hh8.next hodr
  have hs89:({ w8 with drawn:=w8.drawn + 1 }:World).heap.size = w8.heap.size:=rfl
  have hf69:Fr (fun j=>j = b15) w6 { w8 with drawn:=w8.drawn + 1 }:=hf68.drew
  have hown1:=fun i hi=>(hgd.own (i:=i) hi)
  have hown2:=fun i hi=>(hga.own (i:=i) hi)
  generalize hW9:({ w8 with drawn:=w8.drawn + 1 }:World) = W9 at *
  have hd1:=fun i (hi:(Value.slice d1ad ds1.length d1c).ownBlock = some i)=>owns_own hI9.d hi
  have ha1:=fun i (hi:(Value.slice a1ad al1.length a1c).ownBlock = some i)=>hI9.a.own hi
  have hoff:∀ (v:Value),(∀ i,v.ownBlock = some i → i < w6.heap.size) → Off D w6 v → Off (fun i=>D i ∨ D1 i ∨ (Value.slice d1ad ds1.length d1c).ownBlock = some i ∨ (Value.slice a1ad al1.length a1c).ownBlock = some i) W9 v:=by
   intro v hv hDv i hi
   rcases hi with hi | hi | hi | hi
   ·exact ⟨by have:=(hDv i hi).1; omega,(hDv i hi).2⟩
   ·exact ⟨(hI9.od i hi).1,fun e=>by have:=hv i e; have:=hI9.low i hi; omega⟩
   ·exact ⟨(hd1 i hi).1,fun e=>by have:=hv i e; have:=(hd1 i hi).2.1; omega⟩
   ·exact ⟨(ha1 i hi).1,fun e=>by have:=hv i e; have:=(ha1 i hi).2; omega⟩
  have hlow':∀ i,(D i ∨ D1 i ∨ (Value.slice d1ad ds1.length d1c).ownBlock = some i ∨ (Value.slice a1ad al1.length a1c).ownBlock = some i) → w4.heap.size ≤ i:=by
   intro i hi
   rcases hi with hi | hi | hi | hi
   ·exact hlow i hi
   ·have:=hI9.low i hi; omega
   ·have:=(hd1 i hi).2.1; omega
   ·have:=(ha1 i hi).2; omega
  have hduo:DuoI w4.heap.size (fun i=>D i ∨ D1 i ∨ (Value.slice d1ad ds1.length d1c).ownBlock = some i ∨ (Value.slice a1ad al1.length a1c).ownBlock = some i) W9 (.slice dad ds.length dc) (.slice aad al.length ac) (.slice d1ad ds1.length d1c) (.slice a1ad al1.length a1c) ds al ds1 al1:=
   ⟨hgd9.mono (fun i hi=>.inl hi),hga9.mono (fun i hi=>.inl hi),hoff _ (fun i hi=>(hown1 i hi).1) hod,hoff _ (fun i hi=>(hown2 i hi).1) hoa,hap,by omega,
    ((hI9.d.ints hI9.rng (by omega)).fp).mono (fun i hi=>.inr (.inr (.inl (own_inB hI9.d hi.1)))),(hI9.a.fp (by decide) (by omega)).mono (fun i hi=>hi.elim (fun h=>.inr (.inl h)) (fun h=>.inr (.inr (.inr h)))),by omega,by omega⟩
  obtain ⟨D',hD',hlow2⟩:∃ D':Nat → Prop,D' = (fun i=>D i ∨ D1 i ∨ (Value.slice d1ad ds1.length d1c).ownBlock = some i ∨ (Value.slice a1ad al1.length a1c).ownBlock = some i) ∧ ∀ i,D' i → w4.heap.size ≤ i:=⟨_,rfl,fun i hi=>hlow' i hi⟩
  rw [← hD'] at hduo
  clear hD' hlow' hoff
  have h6W:b6 < W9.heap.size:=hh9.lt
  have hcell:∀ w',Fr (fun i=>(Value.slice dad ds.length dc).ownBlock = some i ∨ (Value.slice aad al.length ac).ownBlock = some i) W9 w' → Holds w' b6 34 [.slice dad ds.length dc,.slice aad al.length ac]:=fun w' h=>(h.block b6 h6W (fun e=>by
   rcases e with e | e
   ·have:=(hown1 _ e).2; omega
   ·have:=(hown2 _ e).2; omega)).trans hh9
  have hcellC:∀ w',DuoC w4.heap.size D' W9 (.slice dad ds.length dc) (.slice aad al.length ac) ds al w' → Holds w' b6 34 [.slice dad ds.length dc,.slice aad al.length ac]:=fun w' h=>hcell w' h.1
  repeat (any_goals (first
  | (with_reducible refine yO ?_)
  | ((with_reducible refine oG fun Kv hK=>?_); simp [go_sem]; refine hK _ _ ?_; clear hK Kv)))
  refine ⟨DuoC w4.heap.size D' W9 (.slice dad ds.length dc) (.slice aad al.length ac) ds al,by rw [hW9]; exact ⟨Fr.refl _ _,hduo.a,hduo.b⟩,rfl,?_⟩
  repeat (any_goals (first
  | (with_reducible refine pX ?_)
  | ((with_reducible refine idOH ?_); (with_reducible refine oH_of ⟨_,rfl⟩ (fun W0 hW0=>by (refine oG (fun Kv hK=>?_)); simp [go_sem,(hcellC _ hW0).are]; (first | exact hK _ _ ⟨rfl,rfl⟩ | exact ⟨by omega,hK _ _ ⟨rfl,rfl⟩⟩)) ?_))))
  refine duo_free hduo (i1:=0) (fun K' w h=>?_) (fun w v u hfr hA hB hap'=>?_)
  ·repeat (any_goals ((with_reducible refine oG fun Kv hK=>?_); simp [go_sem]; refine hK _ _ ?_; clear hK Kv))
   exact h
  have hh10:=hcell w hfr
  obtain ⟨vad',vc',rfl⟩:=hA.1.isSlice
  obtain ⟨uad',uc',rfl⟩:=hB.1.isSlice
  refine arr_set (i:=0) sz_intsR rfl rfl hh10 (by simp) (fun w11 hg11 hh11=>?_)
  iterate 1 (any_goals ((with_reducible refine oG fun Kv hK=>?_); simp [go_sem]; refine hK _ _ ?_; clear hK Kv))
  refine arr_set (i:=1) sz_intsR rfl rfl hh11 (by simp) (fun w12 hg12 hh12=>?_)
  repeat (any_goals ((with_reducible refine oG fun Kv hK=>?_); simp [go_sem]; (try simp (disch:=omega) only [wrapI64,wrapU8,wrapU32,wrapU64]); refine hK _ _ ?_; clear hK Kv))
  have hg13:=grown_two hg11 hg12
  have hws:=hfr.size
  have hb6v:∀ i,D' i → i < w.heap.size ∧ ¬ i = b6:=fun i hi=>⟨(hA.2.1 i hi).1,fun e=>by have:=hlow2 i hi; omega⟩
  have hvB:∀ i,(Value.slice vad' (ds ++ [ds1]).length vc').ownBlock = some i → ¬ i = b6:=fun i hi e=>by have:=(hA.1.own hi).2; omega
  have huB:∀ i,(Value.slice uad' (al ++ [al1]).length uc').ownBlock = some i → ¬ i = b6:=fun i hi e=>by have:=(hB.1.own hi).2; omega
  have hf46:Fr (fun j=>j = b15 ∨ j = b6) w4 w12:=((hfr6.trans hf69 (fun i e=>.inl (.inl e))).trans hfr (fun i e=>.inr (e.elim (fun e=>(hown1 i e).2) (fun e=>(hown2 i e).2)))).by hg13 (fun i e=>.inl (.inr (Option.some.inj e).symm))
  have hrw12:IsRw w3.heap.size w12 b15 r2:=hI9.rw.keep ⟨hg13.os.trans hfr.os,hg13.tape.trans hfr.tape,hg13.output.trans hfr.output,Nat.le_trans hfr.size hg13.size,fun i hi=>(hg13.block i (by omega) (fun e=>by have:=Option.some.inj e; omega)).trans (hfr.block i (by omega) (fun e=>by
   rcases e with e | e
   ·have:=(hown1 _ e).2; omega
   ·have:=(hown2 _ e).2; omega))⟩
  refine ⟨⟨_,_,_,_,_,i + 1,r2,ds ++ [ds1],al ++ [al1],D',rfl,by omega,hf46,hrw12,hh12,hA.1.keep (Fr.of_by hg13) hb6v hvB,hB.1.keep (Fr.of_by hg13) hb6v huB,hA.2.1.next hg13.size,hB.2.1.next hg13.size,hap',hlow2,by omega,by rw [List.length_append,List.length_singleton]; omega,by rw [List.length_append,List.length_singleton]; omega,?_⟩,by show n - (((i + 1:Nat):Int)).toNat < n - ((i:Nat):Int).toNat; omega⟩
  rw [hR,hRR,show n - (i + 1) = m by omega]
  simp
 obtain ⟨m1,hm1⟩:∃ m,n1 - kk = m + 1:=⟨n1 - kk - 1,by omega⟩
 rw [hm1,itemsR_succ] at hRR
 iterate 2 (any_goals (first
 | (with_reducible refine yN ?_)
 | ((with_reducible refine oG fun Kv hK=>?_); simp [go_sem]; refine hK _ _ ?_; clear hK Kv)))
 refine next_ok hInn.rw (fun w9 hr9 hg9 hx9=>?_)
 have hI9:=hInn.read hg9 hr9
 have hnl:=nextR_len r2
 generalize (nextR r2).1 = x at *
 generalize (nextR r2).2 = r3 at *
 refine mk1g x hx9 (fun v10 w10 h10 hi10 _=>?_)
 refine (hI9.next h10).addD hi10 (by omega) (fun dv2 w11 hI11=>?_)
 refine count_ok hI11.rw (fun w12 hr12 hg12=>?_)
 have hI12:=hI11.read hg12 hr12
 have hcl3:=countR_len r3
 generalize (countR r3).1 = n3 at *
 generalize (countR r3).2 = r4 at *
 obtain ⟨lv,hhr,hcr,hbr,hbi⟩:=id hI12.rw
 obtain ⟨ad,c,hlv,hcap,hnn⟩:=id hcr.2
 subst hlv
 iterate 3 (any_goals ((with_reducible refine oG fun Kv hK=>?_); simp [go_sem,hhr.are]; refine hK _ _ ?_; clear hK Kv))
 refine CI.to hcr n3 hcl3.2.2 (fun v13 hi13=>?_)
 refine Clone_ok hi13 (by rw [List.length_take]; omega) (fun v14 w14 ho14 h14 hown14=>?_)
 have hI14:=hI12.next h14
 obtain ⟨ad14,c14,hv14⟩:=owns_len ho14
 subst hv14
 refine lit_ints _ _ _ (fun g15 w15 h15 hg15 hh15'=>?_)
 have hI15:=hI14.next h15
 have h7s:=hI12.fr.size
 have h14s:=h14.size
 have h15s:=h15.size
 have hi14:Ints w14 (.slice ad14 (r4.left.take n3).length c14) (r4.left.take n3):=Ints.of_owns ho14 hi13.rng hi13.len
 refine hI15.addA (E:=fun i=>(Value.slice ad14 (r4.left.take n3).length c14).ownBlock = some i) hh15' ((hi14.fp.mono (fun i hi=>own_inB ho14 hi.1)).next h15 (fun i hi=>(owns_own ho14 hi).1)) (fun i hi=>?_) (by omega) (fun av2 w16 hI16=>?_)
 ·have e1:=hown14 i hi
  have e2:=(owns_own ho14 hi).1
  exact ⟨by omega,by omega,fun e=>by have:=(owns_own hI12.d e).1; omega,fun e=>by have:=(hI12.a.own e).1; omega⟩
 obtain ⟨lv2,hhr2,hcr2,hbr2,hbi2⟩:=id hI16.rw
 obtain ⟨ad2,c2,hlv2,hcap2,hnn2⟩:=id hcr2.2
 subst hlv2
 iterate 3 (any_goals ((with_reducible refine oG fun Kv hK=>?_); simp [go_sem,hhr2.are]; refine hK _ _ ?_; clear hK Kv))
 refine CI.from hcr2 n3 hcl3.2.2 (fun v17 hc17 hb17=>?_)
 obtain ⟨ad17,c17,hv17,_,_⟩:=id hc17.2
 subst hv17
 iterate 2 (any_goals ((with_reducible refine oG fun Kv hK=>?_); simp [go_sem]; refine hK _ _ ?_; clear hK Kv))
 refine arr_set (i:=0) sz_intsR rfl rfl hhr2 (by simp) (fun w18 hg18 hh18=>?_)
 have hI18:=hI16.read (r':=(takeR n3 r4).2) hg18 ⟨_,hh18,hc17.keep hg18.size (fun i hi hlt=>hg18.block i hlt (fun e=>(hbi2 i (hb17 ▸ hi)).2 (by first | exact Option.some.inj e | exact (Option.some.inj e).symm))),hbr2,fun i hi=>hbi2 i (hb17 ▸ hi)⟩
 have htl:(takeR n3 r4).2.left.length ≤ r4.left.length:=by unfold takeR; simp
 have eta:(takeR n3 r4).1 = r4.left.take n3:=rfl
 rw [eta] at hRR
 generalize (takeR n3 r4).2 = r5 at *
 repeat (any_goals ((with_reducible refine oG fun Kv hK=>?_); simp [go_sem]; (try simp (disch:=omega) only [wrapI64,wrapU8,wrapU32,wrapU64]); refine hK _ _ ?_; clear hK Kv))
 refine ⟨⟨_,_,_,kk + 1,r5,_,_,_,rfl,by omega,hI18,by omega,by rw [List.length_append,List.length_singleton]; omega,by rw [List.length_append,List.length_singleton]; omega,?_⟩,by show n1 - (((kk + 1:Nat):Int)).toNat < n1 - ((kk:Nat):Int).toNat; omega⟩
 rw [hRR,show n1 - (kk + 1) = m1 by omega]
 simp
end
end Go.Proofs
namespace Go.Proofs
open Go Go.Sh Go.RowKit FdSpec TkSpec CodeSpec PrSpec
section
variable {K:VK} {w w' w0 W:World} {L:List (Addr × Value)}
def SmJ {α:Type} (a b:List α) (w0:World) (vs:List Value) (w':World):Prop:=Bw w0 w' ∧ ∃ (u:Value) (i:Nat),vs = [u,.int .i64 (i:Int)] ∧ i ≤ a.length ∧ a.take i = b.take i
theorem SameInts_ok {v u:Value} {a b:List Int} (ha:Ints w v a) (hb:Ints w u b) (k:∀ w',Bw w w' → K (.bool (decide (a = b))) w'):callM Tryz.prog 62 #[v,u] K w:=by
 apply sh_62_ok
 unfold sh_62
 obtain ⟨ad1,c1,rfl⟩:=ha.isSlice
 obtain ⟨ad2,c2,rfl⟩:=hb.isSlice
 have l1:=ha.len
 have l2:=hb.len
 by_cases hl:¬ a.length = b.length
 ·have hl':¬ (a.length:Int) = b.length:=by omega
  have k:=k _ (Below.refl _ _)
  rw [decide_eq_false (by rintro rfl; exact hl rfl)] at k
  repeat (any_goals (first
  | (with_reducible refine yL ?_)
  | ((with_reducible refine oG fun Kv hK=>?_); simp [go_sem,hl']; refine hK _ _ ?_; clear hK Kv)))
  exact k
 have hl:a.length = b.length:=by omega
 have hl':(a.length:Int) = b.length:=by omega
 repeat (any_goals (first
 | (with_reducible refine yM ?_)
 | ((with_reducible refine oG fun Kv hK=>?_); simp [go_sem,hl']; refine hK _ _ ?_; clear hK Kv)))
 refine ⟨SmJ a b w,fun vs _=>match vs with | [_,.int _ i]=>a.length - i.toNat | _=>0,⟨Below.refl _ _,_,0,rfl,by omega,rfl⟩,?_⟩
 rintro _ _ w1 ⟨h1,u1,i,rfl,hi,he⟩
 by_cases hin:i = a.length
 ·have e:a = b:=by
   rw [List.take_of_length_le (by omega),List.take_of_length_le (by omega)] at he
   exact he
  have k:=k _ h1
  rw [decide_eq_true e] at k
  repeat (any_goals (first
  | (with_reducible refine yO ?_)
  | ((with_reducible refine oG fun Kv hK=>?_); simp [go_sem,hl']; refine hK _ _ ?_; clear hK Kv)))
  exact k
 obtain ⟨b1,o1,rfl,hb1,ca,ra,_⟩:=ha.at (i:=i) (by omega)
 obtain ⟨b2,o2,rfl,hb2,cb,rb,_⟩:=hb.at (i:=i) (by omega)
 have hib:(i:Int) < b.length:=by omega
 repeat (any_goals (first
 | (with_reducible refine yN ?_)
 | ((with_reducible refine oG fun Kv hK=>?_); simp [go_sem,hl']; refine hK _ _ ?_; clear hK Kv)))
 refine ⟨Below w.heap.size w,h1.trans .drawn,?_⟩
 by_cases hx:a[i] = b[i]
 ·repeat (any_goals ((with_reducible refine idOQ ?_); (with_reducible refine oQ_of ⟨_,rfl⟩ (fun W0 hW0=>by (refine oG (fun Kv hK=>?_)); simp [go_sem,ca _ hW0,cb _ hW0,hl',hx]; (first | exact hK _ _ ⟨rfl,rfl⟩ | exact ⟨by omega,hK _ _ ⟨rfl,rfl⟩⟩)) ?_)))
  intro w2 h2
  repeat (any_goals (first
  | (with_reducible refine yM ?_)
  | ((with_reducible refine oG fun Kv hK=>?_); simp [go_sem,hx]; (try simp (disch:=omega) only [wrapI64,wrapU8,wrapU32,wrapU64]); refine hK _ _ ?_; clear hK Kv)))
  refine ⟨⟨h2,_,i + 1,rfl,by omega,?_⟩,by show a.length - (((i + 1:Nat):Int)).toNat < a.length - ((i:Nat):Int).toNat; omega⟩
  rw [List.take_succ_eq_append_getElem (by omega),List.take_succ_eq_append_getElem (by omega),he,hx]
 ·repeat (any_goals ((with_reducible refine idOQ ?_); (with_reducible refine oQ_of ⟨_,rfl⟩ (fun W0 hW0=>by (refine oG (fun Kv hK=>?_)); simp [go_sem,ca _ hW0,cb _ hW0,hl',hx]; (first | exact hK _ _ ⟨rfl,rfl⟩ | exact ⟨by omega,hK _ _ ⟨rfl,rfl⟩⟩)) ?_)))
  intro w2 h2
  have k:=k _ h2
  rw [decide_eq_false (by rintro rfl; exact hx rfl)] at k
  repeat (any_goals (with_reducible refine yL ?_))
  exact k
theorem SameLists_ok {v u:Value} {a b:List (List Int)} (ha:ListsR w v a) (hb:ListsR w u b) (k:∀ w',Bw w w' → K (.bool (decide (a = b))) w'):callM Tryz.prog 105 #[v,u] K w:=by
 apply sh_105_ok
 unfold sh_105
 obtain ⟨ad1,c1,rfl⟩:=ha.isSlice
 obtain ⟨ad2,c2,rfl⟩:=hb.isSlice
 have l1:=ha.len
 have l2:=hb.len
 by_cases hl:¬ a.length = b.length
 ·have hl':¬ (a.length:Int) = b.length:=by omega
  have k:=k _ (Below.refl _ _)
  rw [decide_eq_false (by rintro rfl; exact hl rfl)] at k
  repeat (any_goals (first
  | (with_reducible refine yL ?_)
  | ((with_reducible refine oG fun Kv hK=>?_); simp [go_sem,hl']; refine hK _ _ ?_; clear hK Kv)))
  exact k
 have hl:a.length = b.length:=by omega
 have hl':(a.length:Int) = b.length:=by omega
 repeat (any_goals (first
 | (with_reducible refine yM ?_)
 | ((with_reducible refine oG fun Kv hK=>?_); simp [go_sem,hl']; refine hK _ _ ?_; clear hK Kv)))
 refine ⟨SmJ a b w,fun vs _=>match vs with | [_,.int _ i]=>a.length - i.toNat | _=>0,⟨Below.refl _ _,_,0,rfl,by omega,rfl⟩,?_⟩
 rintro _ _ w1 ⟨h1,u1,i,rfl,hi,he⟩
 by_cases hin:i = a.length
 ·have e:a = b:=by
   rw [List.take_of_length_le (by omega),List.take_of_length_le (by omega)] at he
   exact he
  have k:=k _ h1
  rw [decide_eq_true e] at k
  repeat (any_goals (first
  | (with_reducible refine yO ?_)
  | ((with_reducible refine oG fun Kv hK=>?_); simp [go_sem,hl']; refine hK _ _ ?_; clear hK Kv)))
  exact k
 obtain ⟨b1,o1,v1,rfl,hb1,ca,ia⟩:=ha.one (i:=i) (by omega)
 obtain ⟨b2,o2,v2,rfl,hb2,cb,ib⟩:=hb.one (i:=i) (by omega)
 have hib:(i:Int) < b.length:=by omega
 repeat (any_goals (first
 | (with_reducible refine yN ?_)
 | ((with_reducible refine oG fun Kv hK=>?_); simp [go_sem,hl']; refine hK _ _ ?_; clear hK Kv)))
 refine ⟨Below w.heap.size w,h1.trans .drawn,?_⟩
 repeat (any_goals ((with_reducible refine idOQ ?_); (with_reducible refine oQ_of ⟨_,rfl⟩ (fun W0 hW0=>by (refine oG (fun Kv hK=>?_)); simp [go_sem,(hW0.cell hb1).trans ca,(hW0.cell hb2).trans cb,hl']; (first | exact hK _ _ ⟨rfl,rfl⟩ | exact ⟨by omega,hK _ _ ⟨rfl,rfl⟩⟩)) ?_)))
 refine callQ_of (fun W hW=>SameInts_ok (ia.next hW) (ib.next hW) (fun w' hb=>⟨rfl,hW.on hb⟩)) ?_
 by_cases hx:a[i] = b[i]
 ·rw [decide_eq_true hx]
  repeat (any_goals ((with_reducible refine idOQ ?_); (with_reducible refine oQ_of ⟨_,rfl⟩ (fun W0 hW0=>by (refine oG (fun Kv hK=>?_)); simp [go_sem,hl',hx]; (first | exact hK _ _ ⟨rfl,rfl⟩ | exact ⟨by omega,hK _ _ ⟨rfl,rfl⟩⟩)) ?_)))
  intro w2 h2
  repeat (any_goals (first
  | (with_reducible refine yM ?_)
  | ((with_reducible refine oG fun Kv hK=>?_); simp [go_sem,hx]; (try simp (disch:=omega) only [wrapI64,wrapU8,wrapU32,wrapU64]); refine hK _ _ ?_; clear hK Kv)))
  refine ⟨⟨h2,_,i + 1,rfl,by omega,?_⟩,by show a.length - (((i + 1:Nat):Int)).toNat < a.length - ((i:Nat):Int).toNat; omega⟩
  rw [List.take_succ_eq_append_getElem (by omega),List.take_succ_eq_append_getElem (by omega),he,hx]
 ·rw [decide_eq_false hx]
  repeat (any_goals ((with_reducible refine idOQ ?_); (with_reducible refine oQ_of ⟨_,rfl⟩ (fun W0 hW0=>by (refine oG (fun Kv hK=>?_)); simp [go_sem,hl',hx]; (first | exact hK _ _ ⟨rfl,rfl⟩ | exact ⟨by omega,hK _ _ ⟨rfl,rfl⟩⟩)) ?_)))
  intro w2 h2
  have k:=k _ h2
  rw [decide_eq_false (by rintro rfl; exact hx rfl)] at k
  repeat (any_goals (with_reducible refine yL ?_))
  exact k
theorem SameNums_ok {v u:Value} {a b:List (List (List Int))} (ha:NumsR w v a) (hb:NumsR w u b) (k:∀ w',Bw w w' → K (.bool (decide (a = b))) w'):callM Tryz.prog 106 #[v,u] K w:=by
 apply sh_106_ok
 unfold sh_106
 obtain ⟨ad1,c1,rfl⟩:=ha.isSlice
 obtain ⟨ad2,c2,rfl⟩:=hb.isSlice
 have l1:=ha.len
 have l2:=hb.len
 by_cases hl:¬ a.length = b.length
 ·have hl':¬ (a.length:Int) = b.length:=by omega
  have k:=k _ (Below.refl _ _)
  rw [decide_eq_false (by rintro rfl; exact hl rfl)] at k
  repeat (any_goals (first
  | (with_reducible refine yL ?_)
  | ((with_reducible refine oG fun Kv hK=>?_); simp [go_sem,hl']; refine hK _ _ ?_; clear hK Kv)))
  exact k
 have hl:a.length = b.length:=by omega
 have hl':(a.length:Int) = b.length:=by omega
 repeat (any_goals (first
 | (with_reducible refine yM ?_)
 | ((with_reducible refine oG fun Kv hK=>?_); simp [go_sem,hl']; refine hK _ _ ?_; clear hK Kv)))
 refine ⟨SmJ a b w,fun vs _=>match vs with | [_,.int _ i]=>a.length - i.toNat | _=>0,⟨Below.refl _ _,_,0,rfl,by omega,rfl⟩,?_⟩
 rintro _ _ w1 ⟨h1,u1,i,rfl,hi,he⟩
 by_cases hin:i = a.length
 ·have e:a = b:=by
   rw [List.take_of_length_le (by omega),List.take_of_length_le (by omega)] at he
   exact he
  have k:=k _ h1
  rw [decide_eq_true e] at k
  repeat (any_goals (first
  | (with_reducible refine yO ?_)
  | ((with_reducible refine oG fun Kv hK=>?_); simp [go_sem,hl']; refine hK _ _ ?_; clear hK Kv)))
  exact k
 obtain ⟨b1,o1,v1,rfl,hb1,ca,ia⟩:=ha.one (i:=i) (by omega)
 obtain ⟨b2,o2,v2,rfl,hb2,cb,ib⟩:=hb.one (i:=i) (by omega)
 have hib:(i:Int) < b.length:=by omega
 repeat (any_goals (first
 | (with_reducible refine yN ?_)
 | ((with_reducible refine oG fun Kv hK=>?_); simp [go_sem,hl']; refine hK _ _ ?_; clear hK Kv)))
 refine ⟨Below w.heap.size w,h1.trans .drawn,?_⟩
 repeat (any_goals ((with_reducible refine idOQ ?_); (with_reducible refine oQ_of ⟨_,rfl⟩ (fun W0 hW0=>by (refine oG (fun Kv hK=>?_)); simp [go_sem,(hW0.cell hb1).trans ca,(hW0.cell hb2).trans cb,hl']; (first | exact hK _ _ ⟨rfl,rfl⟩ | exact ⟨by omega,hK _ _ ⟨rfl,rfl⟩⟩)) ?_)))
 refine callQ_of (fun W hW=>SameLists_ok (ia.next (atOf_stay ints_stay) hW) (ib.next (atOf_stay ints_stay) hW) (fun w' hb=>⟨rfl,hW.on hb⟩)) ?_
 by_cases hx:a[i] = b[i]
 ·rw [decide_eq_true hx]
  repeat (any_goals ((with_reducible refine idOQ ?_); (with_reducible refine oQ_of ⟨_,rfl⟩ (fun W0 hW0=>by (refine oG (fun Kv hK=>?_)); simp [go_sem,hl',hx]; (first | exact hK _ _ ⟨rfl,rfl⟩ | exact ⟨by omega,hK _ _ ⟨rfl,rfl⟩⟩)) ?_)))
  intro w2 h2
  repeat (any_goals (first
  | (with_reducible refine yM ?_)
  | ((with_reducible refine oG fun Kv hK=>?_); simp [go_sem,hx]; (try simp (disch:=omega) only [wrapI64,wrapU8,wrapU32,wrapU64]); refine hK _ _ ?_; clear hK Kv)))
  refine ⟨⟨h2,_,i + 1,rfl,by omega,?_⟩,by show a.length - (((i + 1:Nat):Int)).toNat < a.length - ((i:Nat):Int).toNat; omega⟩
  rw [List.take_succ_eq_append_getElem (by omega),List.take_succ_eq_append_getElem (by omega),he,hx]
 ·rw [decide_eq_false hx]
  repeat (any_goals ((with_reducible refine idOQ ?_); (with_reducible refine oQ_of ⟨_,rfl⟩ (fun W0 hW0=>by (refine oG (fun Kv hK=>?_)); simp [go_sem,hl',hx]; (first | exact hK _ _ ⟨rfl,rfl⟩ | exact ⟨by omega,hK _ _ ⟨rfl,rfl⟩⟩)) ?_)))
  intro w2 h2
  have k:=k _ h2
  rw [decide_eq_false (by rintro rfl; exact hx rfl)] at k
  repeat (any_goals (with_reducible refine yL ?_))
  exact k
theorem SameProof_ok {dv av dv2 av2:Value} {d d2:List (List Int)} {a a2:List (List (List Int))} (hd:ListsR w dv d) (ha:NumsR w av a) (hd2:ListsR w dv2 d2) (ha2:NumsR w av2 a2) (k:∀ w',Bw w w' → K (.bool (decide (d = d2) && decide (a = a2))) w'):callM Tryz.prog 20 #[prfV dv av,prfV dv2 av2] K w:=by
 apply sh_20_ok
 unfold sh_20
 have hd':=hd
 have ha':=ha
 have hd2':=hd2
 have ha2':=ha2
 obtain ⟨ad1,c1,rfl⟩:=hd.isSlice
 obtain ⟨ad2,c2,rfl⟩:=ha.isSlice
 obtain ⟨ad3,c3,rfl⟩:=hd2.isSlice
 obtain ⟨ad4,c4,rfl⟩:=ha2.isSlice
 refine box_kn (cs:=prfC (.slice ad1 d.length c1) (.slice ad2 a.length c2)) rfl (.start w) fun b1 W hk hb1 hbb=>?_
 refine box_kn (cs:=prfC (.slice ad3 d2.length c3) (.slice ad4 a2.length c4)) rfl hk fun b2 W2 hk hb2 hbb=>?_
 clear hb1 hb2 hbb
 repeat (any_goals ((with_reducible refine oG fun Kv hK=>?_); simp [go_sem,hk.cells]; refine hK _ _ ?_; clear hK Kv))
 refine SameLists_ok (hd'.next (atOf_stay ints_stay) hk.below) (hd2'.next (atOf_stay ints_stay) hk.below) (fun w3 h3=>?_)
 have hk:=hk.next h3
 by_cases hx:d = d2
 ·rw [decide_eq_true hx]
  rw [decide_eq_true hx,Bool.true_and] at k
  repeat (any_goals (first
  | (with_reducible refine zA ?_)
  | ((with_reducible refine oG fun Kv hK=>?_); simp [go_sem,hk.cells]; refine hK _ _ ?_; clear hK Kv)))
  refine SameNums_ok (ha'.next (atOf_stay lists_vstay) hk.below) (ha2'.next (atOf_stay lists_vstay) hk.below) (fun w4 h4=>?_)
  have hk:=hk.next h4
  have k:=k _ hk.below
  generalize decide (a = a2) = q at *
  repeat (any_goals (with_reducible refine yB ?_))
  exact k
 ·rw [decide_eq_false hx]
  rw [decide_eq_false hx,Bool.false_and] at k
  repeat (any_goals (with_reducible first|refine zB ?_|refine yC ?_))
  exact k _ hk.below
end
end Go.Proofs
namespace Go.Proofs
open Go Go.Sh Go.RowKit FdSpec TkSpec CodeSpec PrSpec
section
variable {K:VK} {w w' w0 W:World} {L:List (Addr × Value)}
theorem range_ex:PrSpec.rangeM ex (commitM ex 2 3) [12,1] = [bitC ex 12,bitC ex 1,lastC ex (commitM ex 2 3) (weighM ex [12,1]).1]:=by decide +kernel
theorem ex_R {v:Value} (hi:Ints w v [16,18]) (hT:DbT w):SetR w ex v:=⟨⟨by constructor <;> decide,by constructor <;> decide,by constructor <;> decide⟩,hi,by constructor <;> decide,hT⟩
theorem mk2g {T:TypeId} (x y:Int) (hx:I64 x) (hy:I64 y) (k:∀ v W,Bw w W → Ints W v [x,y] → Value.inBlock v = some w.heap.size → K v W):oM Tryz.prog (.buildSlice 24 2 #[(0,.tmp 0),(1,.tmp 1)]) T [.int .i64 x,.int .i64 y] K w:=by
 rw [oM_buildSlice2]
 have e:(Instr.buildSlice 24 2 #[(0,.int .i64 x),(1,.int .i64 y)]).run Tryz.prog w = .ok (.slice (some ⟨w.heap.size,0,none⟩) 2 2) (w.alloc (.cells #[.int .i64 x,.int .i64 y] 3)):=by kernel_rfl
 rw [e]
 exact k _ _ ((Below.refl _ w).alloc (Nat.le_refl _) _) (ints_alloc w [x,y] _ 2 (by simp; exact ⟨hx,hy⟩) (by simp)) rfl
theorem example_ok (hT:DbT w) (k:∀ w' v,Bw w w' → SetR w' ex v → K (stpV ex v) w'):callM Tryz.prog 86 #[] K w:=by
 apply sh_86_ok
 unfold sh_86
 refine alloc_mine (n:=5) al_stp rfl (.start w) fun g0 W3 hk hb3 hg0=>?_
 repeat (any_goals (first
 | ((with_reducible refine mk2g 16 18 i64lit i64lit ?_); intro v9 W9 hb9 hi9 hv9)
 | ((with_reducible refine oG fun Kv hK=>?_); simp [go_sem]; refine hK _ _ ?_; clear hK Kv)))
 have hlt:=mine_lt hk.mine
 have hk:=hk.next hb9
 obtain ⟨ad,c,rfl⟩:=hi9.isSlice
 repeat (any_goals ((with_reducible refine oG fun Kv hK=>?_); simp [go_sem]; refine hK _ _ ?_; clear hK Kv))
 refine store_stp ex ad 2 c hk (fun W3 hk hc hg3=>⟨_,by simp [go_sem,hc],k W3 _ hk.below (ex_R (ints_grown hi9 hg3 (fun i e1 e2=>?_)) (hT.next hk.below))⟩)
 rw [hv9] at e1
 cases e1
 have:=Option.some.inj e2
 omega
theorem sz_cls (w:World):(sizeOf 65).run Tryz.prog w = .ok 2 w:=by kernel_rfl
theorem al_cls (w:World):(Instr.alloc 65 true (.tuple #[])).run Tryz.prog w = .ok (.pointer (some ⟨w.heap.size,0,none⟩)) (w.alloc (.cells [.int .i64 0,.slice none 0 0].toArray 65)):=by kernel_rfl
theorem local_cls {T' T2:TypeId} (a:Int) (ad:Option Addr) (n c:Nat) (hk:Kn w0 L w)
  (k:∀ b W,Kn w0 (cellsOf L b 0 [.int .i64 a,.slice ad n c]) W → Bw w W → w.heap.size ≤ b → K (.pointer (some ⟨b,0,none⟩)) W) :
  oM Tryz.prog (.alloc 65) T' [] (fun v w=>oM Tryz.prog (.store 65 (.tmp 0) (.tmp 1)) T2 [v,.agg #[.int .i64 a,.slice ad n c]] (fun _ w=>K v w) w) w:=
 local_kn al_cls rfl sz_cls rfl rfl (clm_one a ad n c) hk k
theorem local_sig {T' T2:TypeId} (c z:Int) (hk:Kn w0 L w)
  (k:∀ b W,Kn w0 (cellsOf L b 0 (sigC c z)) W → Bw w W → w.heap.size ≤ b → K (.pointer (some ⟨b,0,none⟩)) W) :
  oM Tryz.prog (.alloc 74) T' [] (fun v w=>oM Tryz.prog (.store 74 (.tmp 0) (.tmp 1)) T2 [v,sigV c z] (fun _ w=>K v w) w) w:=
 local_kn al_sig rfl sz_sig rfl rfl (sig_one c z) hk k
theorem local_prf {T' T2:TypeId} (ad ad2:Option Addr) (n c n2 c2:Nat) (hk:Kn w0 L w)
  (k:∀ b W,Kn w0 (cellsOf L b 0 (prfC (.slice ad n c) (.slice ad2 n2 c2))) W → Bw w W → w.heap.size ≤ b → K (.pointer (some ⟨b,0,none⟩)) W) :
  oM Tryz.prog (.alloc 34) T' [] (fun v w=>oM Tryz.prog (.store 34 (.tmp 0) (.tmp 1)) T2 [v,prfV (.slice ad n c) (.slice ad2 n2 c2)] (fun _ w=>K v w) w) w:=
 local_kn al_prf rfl sz_prf rfl rfl (prf_one ad ad2 n c n2 c2) hk k
@[go_sem] theorem idx_cls (T:TypeId) (b o n c:Nat) (x:Int):oM Tryz.prog (.indexAddr 27 (.tmp 0) (.tmp 1)) T [.slice (some ⟨b,o,none⟩) n c,.int .i64 x] = onM (0 ≤ x ∧ x < n) (.pointer (some ⟨b,o + x.toNat * 2,none⟩)):=
 idx_row (K:=fun _ _=>True) _ T (by kernel_rfl) (fun w=>by kernel_rfl) b o n c x
@[go_sem] theorem idx_clm (T:TypeId) (b o n c:Nat) (x:Int):oM Tryz.prog (.indexAddr 63 (.tmp 0) (.tmp 1)) T [.slice (some ⟨b,o,none⟩) n c,.int .i64 x] = onM (0 ≤ x ∧ x < n) (.pointer (some ⟨b,o + x.toNat * 2,none⟩)):=
 idx_row (K:=fun _ _=>True) _ T (by kernel_rfl) (fun w=>by kernel_rfl) b o n c x
@[go_sem] theorem idx_knw' (T:TypeId) (b o n c:Nat) (x:Int):oM Tryz.prog (.indexAddr 114 (.tmp 0) (.tmp 1)) T [.slice (some ⟨b,o,none⟩) n c,.int .i64 x] = onM (0 ≤ x ∧ x < n) (.pointer (some ⟨b,o + x.toNat * 2,none⟩)):=idx_knw T b o n c x
@[go_sem] theorem idx_knws (T:TypeId) (b o n c:Nat) (x:Int):oM Tryz.prog (.indexAddr 28 (.tmp 0) (.tmp 1)) T [.slice (some ⟨b,o,none⟩) n c,.int .i64 x] = onM (0 ≤ x ∧ x < n) (.pointer (some ⟨b,o + x.toNat,none⟩)):=by
 have:=idx_row (K:=fun _ _=>True) (P:=Tryz.prog) (n:=1) 28 T (by kernel_rfl) (fun w=>by kernel_rfl) b o n c x
 rwa [Nat.mul_one] at this
theorem less_ok (hT:DbT w) (hl:Cd.LaidE w) (k:∀ w',Bw w w' → K (.bool true) w'):callM Tryz.prog 38 #[] K w:=by
 apply sh_38_ok
 unfold sh_38
 obtain ⟨f1,f2,f3,f4,f5,f6,f7,f8,f9⟩:=less_facts
 refine example_ok hT (fun w1 v1 h1 hs=>?_)
 have hs':=hs
 obtain ⟨ad,c,rfl⟩:=hs.ints.isSlice
 refine local_stp ex ad 2 c (.next (.start w) h1) (fun b1 W1 hk hb1 hg1=>?_)
 have hs1:=hs'.next hb1
 repeat (any_goals (first
 | ((with_reducible refine mk2 4 4 i64lit i64lit ?_); intro v9 W9 hb9 hi9)
 | ((with_reducible refine oG fun Kv hK=>?_); simp [go_sem,hk.cells]; refine hK _ _ ?_; clear hK Kv)))
 have hk:=hk.next hb9
 have hs1:=hs1.next hb9
 refine Weigh_ok ex [4,4] hs1 hi9 (fun w2 h2=>?_)
 rw [f1]
 have hk:=hk.next h2
 have hs1:=hs1.next h2
 repeat (any_goals (first
 | ((with_reducible refine mk2 1 2 i64lit i64lit ?_); intro v9 W9 hb9 hi9)
 | ((with_reducible refine oG fun Kv hK=>?_); simp [go_sem,hk.cells]; refine hK _ _ ?_; clear hK Kv)))
 have hk:=hk.next hb9
 have hs1:=hs1.next hb9
 refine Split_ok ex 2 [1,2] hs1 i64lit hi9 (fun w3 bv kv D h3 hbits hknow hD hap=>?_)
 rw [f2] at hbits hknow ⊢
 have hknow:=hknow.srow (by decide) (by decide)
 have hk:=hk.next h3
 have hs1:=hs1.next h3
 repeat (any_goals ((with_reducible refine oG fun Kv hK=>?_); simp [go_sem,hk.cells]; refine hK _ _ ?_; clear hK Kv))
 have hk:=hk.drew
 have hodr:Below w3.heap.size w3 { w3 with drawn:=w3.drawn + 1 }:=.drawn
 have hs1:=hs1.next hodr
 have hbits:=hbits.next hodr
 have hknow:=hknow.next (atOf_stay knws_vstay) hodr
 refine ⟨Nx { w3 with drawn:=w3.drawn + 1 },Below.refl _ _,rfl,?_⟩
 generalize ({ w3 with drawn:=w3.drawn + 1 }:World) = W at hk hs1 hbits hknow ⊢
 repeat (any_goals (first
 | (with_reducible refine pX ?_)
 | ((with_reducible refine idOH ?_); (with_reducible refine oH_of ⟨_,rfl⟩ (fun W0 hW0=>by (refine oG (fun Kv hK=>?_)); simp [go_sem,(hk.next hW0).cells]; (first | exact hK _ _ ⟨rfl,rfl⟩ | exact ⟨by omega,hK _ _ ⟨rfl,rfl⟩⟩)) ?_))))
 refine ⟨Nx,?_⟩
 apply monoE
 ·intro w1 h1
  exact Commit_ok ex 2 3 (hs1.next h1) i64lit i64lit (fun w2 h2=>⟨h1.on h2,h2,rfl⟩)
 rintro w9 h9 _ rfl
 have hk:=hk.next h9
 have hs1:=hs1.next h9
 have hbits:=hbits.next h9
 have hknow:=hknow.next (atOf_stay knws_vstay) h9
 refine Range_ok ex (commitM ex 2 3) [12,1] hs1 (commitM_I64 _ _ _) hbits (fun w4 gv h4 hgoal=>?_)
 have hk:=hk.next h4
 have hs1:=hs1.next h4
 have hbits:=hbits.next h4
 have hknow:=hknow.next (atOf_stay knws_vstay) h4
 rw [range_ex] at hgoal
 obtain ⟨gad,gc,rfl⟩:=id hgoal.isSlice
 obtain ⟨bad,bc,rfl⟩:=id hbits.isSlice
 obtain ⟨kad,kc,rfl⟩:=id hknow.isSlice
 have hbits:Ints w4 (.slice bad 2 bc) [12,1]:=hbits
 have hknow:KnowR w4 (.slice kad 2 kc) [[⟨true,[1]⟩,⟨false,[]⟩],[⟨false,[]⟩,⟨true,[2]⟩]]:=hknow
 have hgoal:GoalR w4 (.slice gad 3 gc) [bitC ex 12,bitC ex 1,lastC ex (commitM ex 2 3) (weighM ex [12,1]).1]:=hgoal
 simp only [List.length_cons,List.length_nil]
 repeat (any_goals (first
 | ((with_reducible refine mk2 12 1 i64lit i64lit ?_); intro v9 W9 hb9 hi9)
 | (with_reducible first|refine pureM_in ?_|refine zC ?_|refine yC ?_)
 | ((with_reducible refine oG fun Kv hK=>?_); simp [go_sem,hk.cells]; refine hK _ _ ?_; clear hK Kv)))
 have hk:=hk.next hb9
 refine SameInts_ok (hbits.next hb9) hi9 (fun w5 h5=>?_)
 have hk:=hk.next h5
 rw [decide_eq_true rfl]
 have hb45:=hb9.on h5
 repeat (any_goals (first
 | ((with_reducible refine mk2 1 2 i64lit i64lit ?_); intro v9 W9 hb9 hi9)
 | (with_reducible first|refine zC ?_|refine yC ?_)
 | ((with_reducible refine oG fun Kv hK=>?_); simp [go_sem,hk.cells]; refine hK _ _ ?_; clear hK Kv)))
 have hk:=hk.next hb9
 have hb4W:=hb45.on hb9
 refine Rest_ok ex 3 [1,2] (hs1.next hb4W) hi9 (fun w6 h6=>?_)
 rw [f3]
 have hk:=hk.next h6
 have hb46:=hb4W.on h6
 obtain ⟨bg,og,rfl,hbg,cc,hcl,hcell,gv,rfl,hI,hclm⟩:=(hgoal.next (atOf_stay cls_vstay) hb46).at (i:=2) (by decide)
 have g0:=hcell 0 _ rfl
 have g1:=hcell 1 _ rfl
 obtain ⟨gvad,gvc,rfl⟩:=id hclm.isSlice
 obtain ⟨bk,ok',kv0,rfl,hbk,ck0,hk0⟩:=(hknow.next (atOf_stay knws_vstay) hb46).one (i:=0) (by decide)
 obtain ⟨kvad,kvc,rfl⟩:=id hk0.isSlice
 have hclm:SRow 2 (AtOf 2 VClm) w6 (.slice gvad 1 gvc) [blindedM ex (overG ex.g (commitM ex 2 3) (weighM ex [12,1]).1)]:=hclm
 have hk0:KnwsR w6 (.slice kvad 2 kvc) [⟨true,[1]⟩,⟨false,[]⟩]:=hk0
 have g1:w6.cell? ⟨bg,og + 2 * 2 + 1,none⟩ = some (.slice gvad 1 gvc):=g1
 have g0:w6.cell? ⟨bg,og + 2 * 2 + 0,none⟩ = some (.int .i64 1):=g0
 have ck0:w6.cell? ⟨bk,ok' + 0,none⟩ = some (.slice kvad 2 kvc):=ck0
 have g0r:=g0
 have g1r:=g1
 simp only [Nat.reduceMul,Nat.reduceAdd,Nat.add_zero,Nat.add_assoc] at g0 g1 ck0
 obtain ⟨bw,ow,rfl,hbw,kc0,hkc0,hkcell0,kvv0,rfl,_⟩:=hk0.at (i:=0) (by decide)
 obtain ⟨bw',ow',e',_,kc1,hkc1,hkcell1,kvv1,rfl,_⟩:=hk0.at (i:=1) (by decide)
 cases e'
 have q0:=hkcell0 0 _ rfl
 have q1:=hkcell1 0 _ rfl
 have q0:w6.cell? ⟨bw,ow + 0 * 2 + 0,none⟩ = some (.bool true):=q0
 have q1:w6.cell? ⟨bw,ow + 1 * 2 + 0,none⟩ = some (.bool false):=q1
 simp only [Nat.reduceMul,Nat.reduceAdd,Nat.add_zero,Nat.add_assoc] at q0 q1
 have hcall:cellsAre w6 [(⟨bg,og + 4 + 1,none⟩,.slice gvad 1 gvc),(⟨bg,og + 5,none⟩,.slice gvad 1 gvc),(⟨bg,og + 4,none⟩,.int .i64 1),(⟨bk,ok',none⟩,.slice (some ⟨bw,ow,none⟩) 2 kvc),(⟨bw,ow,none⟩,.bool true),(⟨bw,ow + 2,none⟩,.bool false)]:=⟨g1,g1,g0,ck0,q0,q1,trivial⟩
 obtain ⟨bcl,ocl,rfl,hbcl,kcl,_,hclcell,clv,rfl,hClm⟩:=hclm.at (i:=0) (by decide)
 obtain ⟨ead,ec,rfl⟩:=id hClm.eqs.isSlice
 have p0:w6.cell? ⟨bcl,ocl + 0 * 2 + 0,none⟩ = some (.int .i64 1):=hclcell 0 _ rfl
 have p1:w6.cell? ⟨bcl,ocl + 0 * 2 + 1,none⟩ = some (.slice ead 1 ec):=hclcell 1 _ rfl
 obtain ⟨c0,hc0,hc1,hClm⟩:∃ c0:Clm,c0.vars = 1 ∧ HoldsM ex c0 [9] = true ∧ ClmR w6 c0 (.slice ead 1 ec):=⟨_,rfl,f5,hClm⟩
 simp only [Nat.reduceMul,Nat.reduceAdd,Nat.add_zero,Nat.add_assoc] at p0 p1
 have hk:Kn w ((⟨bcl,ocl,none⟩,.int .i64 1) :: (⟨bcl,ocl + 1,none⟩,.slice ead 1 ec) :: (⟨bk,ok',none⟩,.slice (some ⟨bw,ow,none⟩) 2 kvc) :: (⟨bw,ow,none⟩,.bool true) :: (⟨bw,ow + 2,none⟩,.bool false) :: (cellsOf [] b1 0 (stpC ex (.slice ad 2 c)))) w6:=⟨hk.below,p0,p1,ck0,q0,q1,hk.cells⟩
 iterate 13 (any_goals (first
 | (with_reducible first|refine pureM_in ?_|refine zC ?_|refine yC ?_|refine yM ?_)
 | ((with_reducible refine oG fun Kv hK=>?_); simp [go_sem,hk.cells,g0r,g1r]; refine hK _ _ ?_; clear hK Kv)))
 refine local_cls 1 (some ⟨bcl,ocl,none⟩) 1 gvc hk (fun b7 W7 hk hb7 hg7=>?_)
 repeat (any_goals (first
 | (with_reducible first|refine pureM_in ?_|refine zC ?_|refine yC ?_|refine yM ?_)
 | ((with_reducible refine oG fun Kv hK=>?_); simp [go_sem,hk.cells]; refine hK _ _ ?_; clear hK Kv)))
 have hb5W:=hb46.on hb7
 have hs7:=hs1.next hb5W
 have hsg:(signM ex 3 5 [104,101,108,108,111]).2 = true:=by unfold signM; rw [if_pos (by rw [f6,f7,f8]; rfl)]
 have hsd:=(sign_signed hsg).1
 rw [f9] at hsd
 have hlE:Cd.LaidE W7:=hl.below hk.below hl.size
 refine Sign_ok ex 3 5 [104,101,108,108,111] hs7 hlE.toLaid i64lit i64lit (by decide) (fun w8 h8=>?_)
 rw [hsg]
 generalize (signM ex 3 5 [104,101,108,108,111]).1.1 = sc at *
 generalize (signM ex 3 5 [104,101,108,108,111]).1.2 = sz at *
 have hk:=hk.next h8
 iterate 2 (any_goals ((with_reducible refine oG fun Kv hK=>?_); simp [go_sem]; refine hK _ _ ?_; clear hK Kv))
 refine local_sig sc sz hk (fun b9 W9 hk hb9 hg9=>?_)
 refine mk1g 4 i64lit (fun v10 w10 h10 hi10 hv10=>?_)
 obtain ⟨ad10,c10,rfl⟩:=hi10.isSlice
 refine lit_ints _ _ _ (fun g11 w11 h11 hg11 hh11=>?_)
 refine mk2g 5 6 i64lit i64lit (fun v12 w12 h12 hi12 hv12=>?_)
 obtain ⟨ad12,c12,rfl⟩:=hi12.isSlice
 refine lit_ints _ _ _ (fun g13 w13 h13 hg13 hh13=>?_)
 refine lit_lists _ _ _ (fun g14 w14 h14 hg14 hh14=>?_)
 have hd14:ListsR w14 (.slice (some ⟨g11,0,none⟩) 1 1) [[4]]:=srow_lit1 (((hh11.next h12).next h13).next h14) rfl ⟨_,rfl,(((hi10.next h11).next h12).next h13).next h14⟩
 have ha14:NumsR w14 (.slice (some ⟨g14,0,none⟩) 1 1) [[[5,6]]]:=srow_lit1 hh14 rfl ⟨_,rfl,srow_lit1 (hh13.next h14) rfl ⟨_,rfl,(hi12.next h13).next h14⟩⟩
 have hk:=((((hk.next h10).next h11).next h12).next h13).next h14
 iterate 1 (any_goals ((with_reducible refine oG fun Kv hK=>?_); simp [go_sem]; refine hK _ _ ?_; clear hK Kv))
 refine local_prf _ _ 1 1 1 1 hk (fun b15 W15 hk hb15 hg15=>?_)
 have hd15:=hd14.next (atOf_stay ints_stay) hb15
 have ha15:=ha14.next (atOf_stay lists_vstay) hb15
 repeat (any_goals ((with_reducible refine oG fun Kv hK=>?_); simp [go_sem,hk.cells]; refine hK _ _ ?_; clear hK Kv))
 have hlE:Cd.LaidE W15:=hl.below hk.below hl.size
 refine Encode_ok [[4]] [[[5,6]]] hd15 ha15 hlE.toLaid ⟨by decide,by decide,by decide⟩ (fun w16 h16=>?_)
 rw [show (encodeM [[4]] [[[5,6]]]).2 = true from by decide +kernel]
 have hk:=hk.next h16
 repeat (any_goals ((with_reducible refine oG fun Kv hK=>?_); simp [go_sem]; refine hK _ _ ?_; clear hK Kv))
 have hlE:Cd.LaidE w16:=hl.below hk.below hl.size
 have hde:decodeM (encodeM [[4]] [[[5,6]]]).1 = (([[4]],[[[5,6]]]),true):=decode_encode (by decide) (by simp [clauseL,itemL,InR]) (by decide)
 refine Decode_ok _ (by decide +kernel) hlE (fun w17 dv av h17 hdv hav=>?_)
 rw [hde] at hdv hav ⊢
 have hdv:ListsR w17 dv [[4]]:=hdv
 have hav:NumsR w17 av [[[5,6]]]:=hav
 obtain ⟨dad,dc,rfl⟩:=hdv.isSlice
 obtain ⟨aad,ac,rfl⟩:=hav.isSlice
 have hk:=hk.next h17
 iterate 2 (any_goals ((with_reducible refine oG fun Kv hK=>?_); simp [go_sem]; refine hK _ _ ?_; clear hK Kv))
 refine local_prf _ _ _ _ _ _ hk (fun b18 W18 hk hb18 hg18=>?_)
 have hk:=hk.drew
 have hodr:Below W18.heap.size W18 { W18 with drawn:=W18.drawn + 1 }:=.drawn
 have hd18:=((((hd15.next (atOf_stay ints_stay) h16).next (atOf_stay ints_stay) h17).next (atOf_stay ints_stay) hb18)).next (atOf_stay ints_stay) hodr
 have ha18:=((((ha15.next (atOf_stay lists_vstay) h16).next (atOf_stay lists_vstay) h17).next (atOf_stay lists_vstay) hb18)).next (atOf_stay lists_vstay) hodr
 have hdv:=(hdv.next (atOf_stay ints_stay) hb18).next (atOf_stay ints_stay) hodr
 have hav:=(hav.next (atOf_stay lists_vstay) hb18).next (atOf_stay lists_vstay) hodr
 have h7d:Below W7.heap.size W7 { W18 with drawn:=W18.drawn + 1 }:=((((((((((((h8.on hb9).on h10).on h11).on h12).on h13).on h14).on hb15).on h16).on h17).on hb18)).on hodr)
 have hs18:=hs7.next h7d
 have hClm18:=(hClm.next hb7).next h7d
 have hl18:=hlE.toLaid.below ((h17.on hb18).on hodr) hlE.toLaid.size
 refine ⟨Nx { W18 with drawn:=W18.drawn + 1 },Below.refl _ _,trivial,?_⟩
 generalize ({ W18 with drawn:=W18.drawn + 1 }:World) = W at hk hs18 hClm18 hd18 ha18 hdv hav hl18 ⊢
 have hH:∀ w1,Nx W w1 → ∀ lv,Ints w1 lv [9] → ∀ K':VK,(∀ w2,Bw w1 w2 → K' (.bool true) w2) → callM Tryz.prog 41 #[stpV ex (.slice ad 2 c),.agg #[.int .i64 1,.slice ead 1 ec],lv] K' w1:=by
  intro w1 h1 lv hi1 K' hk'
  have:=Holds_ok (K:=K') ex c0 [9] (hs18.next h1) (hClm18.next h1) hi1 (fun w2 h2=>by rw [hc1]; exact hk' w2 h2)
  unfold clmV at this
  rw [hc0] at this
  exact this
 repeat (any_goals ((with_reducible refine idOH ?_); (with_reducible refine oH_of ⟨_,rfl⟩ (fun W0 hW0=>by (refine oG (fun Kv hK=>?_)); simp [go_sem,(hk.next hW0).cells]; (first | exact hK _ _ ⟨rfl,rfl⟩ | exact ⟨by omega,hK _ _ ⟨rfl,rfl⟩⟩)) ?_)))
 refine ⟨Nx,?_⟩
 refine monoR (fun v w'=>Ints w' v [9]) (fun v w w1 hS h=>h.next hS) ?_ ?_
 ·intro w1 h1
  exact mk1 9 i64lit (fun v w2 h2 hi=>⟨h1.on h2,h2,hi⟩)
 apply monoE
 ·rintro w1 h1 v1 hi1
  exact hH w1 h1 v1 hi1 _ (fun w2 h2=>⟨h1.on h2,h2,rfl⟩)
 repeat (apply monoE; focus (intro w9 h9; (repeat (intro v9 e9; try (obtain rfl:=e9))); (repeat (any_goals (first
  | (with_reducible first|refine pureM_in ?_|refine zA ?_|refine yB ?_)
  | ((with_reducible refine oG fun Kv hK=>?_); simp [go_sem,(hk.next h9).cells]; refine hK _ _ ?_; clear hK Kv)))); exact ⟨h9,Below.refl _ _,rfl⟩))
 apply monoE
 ·(intro w9 h9; repeat (intro v9 e9; try (obtain rfl:=e9)))
  repeat (any_goals (with_reducible refine zA ?_))
  refine Signed_ok ex 18 [104,101,108,108,111] sc sz (hs18.next h9) (hl18.below h9 hl18.size) i64lit (by decide) (fun w2 h2=>?_)
  rw [hsd]
  exact ⟨h9.on h2,h2,rfl⟩
 repeat (apply monoE; focus (intro w9 h9; (repeat (intro v9 e9; try (obtain rfl:=e9))); (repeat (any_goals (first
  | (with_reducible first|refine pureM_in ?_|refine zA ?_|refine yB ?_)
  | ((with_reducible refine oG fun Kv hK=>?_); simp [go_sem,(hk.next h9).cells]; refine hK _ _ ?_; clear hK Kv)))); exact ⟨h9,Below.refl _ _,rfl⟩))
 (intro w9 h9; repeat (intro v9 e9; try (obtain rfl:=e9)))
 repeat (any_goals (with_reducible refine zA ?_))
 refine SameProof_ok (hd18.next (atOf_stay ints_stay) h9) (ha18.next (atOf_stay lists_vstay) h9) (hdv.next (atOf_stay ints_stay) h9) (hav.next (atOf_stay lists_vstay) h9) (fun w2 h2=>?_)
 rw [decide_eq_true rfl,decide_eq_true rfl]
 repeat (any_goals (with_reducible refine yB ?_))
 exact k _ (hk.next (h9.on h2)).below
end
end Go.Proofs
namespace Go.Proofs
open Go Go.Sh Tryz
end Go.Proofs
namespace Go.Proofs
open Go Go.Sh Go.RowKit FdSpec TkSpec CodeSpec PrSpec
section
variable {K:VK} {w w' w0 W:World} {L:List (Addr × Value)}
end
end Go.Proofs
namespace Go.Proofs
open Go Go.Sh Go.RowKit FdSpec TkSpec CodeSpec PrSpec
section
variable {K:VK} {w w' w0 W:World} {L:List (Addr × Value)}
theorem flat_take_step {α:Type} (f:α → List Int):∀ (l:List α) (i:Nat) (x:α),l[i]? = some x → (l.take (i + 1)).flatMap f = (l.take i).flatMap f ++ f x
 | [],i,x,h=>by simp at h
 | a :: l,0,x,h=>by simp at h; subst h; simp
 | a :: l,i + 1,x,h=>by
  have:=flat_take_step f l i x (by simpa using h)
  simp only [List.take_succ_cons,List.flatMap_cons,this,List.append_assoc]
theorem flat_step_le {α:Type} (f:α → List Int):∀ (l:List α) (i:Nat) (x:α),l[i]? = some x → ((l.take i).flatMap f).length + (f x).length ≤ (l.flatMap f).length
 | [],i,x,h=>by simp at h
 | a :: l,0,x,h=>by simp at h; subst h; simp
 | a :: l,i + 1,x,h=>by
  have:=flat_step_le f l i x (by simpa using h)
  simp only [List.take_succ_cons,List.flatMap_cons,List.length_append]
  omega
def TxJ {α:Type} (f:α → List Int) (pre:List Int) (l:List α) (w0:World) (vs:List Value) (w':World):Prop:=Bw w0 w' ∧ ∃ (ov:Value) (i:Nat),vs = [ov,.int .i64 (i:Int)] ∧ i ≤ l.length ∧ OwnI w' w0.heap.size ov (pre ++ (l.take i).flatMap f)
theorem local_clm {T' T2:TypeId} (a:Int) (ad:Option Addr) (n c:Nat) (hk:Kn w0 L w)
  (k:∀ b W,Kn w0 (cellsOf L b 0 [.int .i64 a,.slice ad n c]) W → Bw w W → w.heap.size ≤ b → K (.pointer (some ⟨b,0,none⟩)) W) :
  oM Tryz.prog (.alloc 69) T' [] (fun v w=>oM Tryz.prog (.store 69 (.tmp 0) (.tmp 1)) T2 [v,.agg #[.int .i64 a,.slice ad n c]] (fun _ w=>K v w) w) w:=
 local_kn al_clm rfl sz_clm rfl rfl (clm_one a ad n c) hk k
theorem cells_after {b:Nat} {cs:List Value} {ov:Value} {B:Nat} {l:List Int} {w1 w2:World} (h:cellsAre w1 (cellsOf [] b 0 cs)) (hg:w1.grownBy w2 ov.ownBlock) (ho:∀ i,ov.ownBlock = some i → i < b):cellsAre w2 (cellsOf [] b 0 cs):=
 cells_fr h (Fr.of_by' hg) (fun p hp=>⟨cells_lt h p hp,fun e=>by
  rcases cellsOf_mem _ _ _ hp with h1 | h1
  ·have:=ho _ e; omega
  ·cases h1⟩)
theorem goal_in {goal:List Cls} {gv:Value} (hg:GoalR w gv goal):∀ x ∈ goalL goal,InR x:=by
 intro x hx
 have hlen:=hg.len
 obtain ⟨gad,gc,rfl⟩:=id hg.isSlice
 rcases List.mem_cons.1 hx with rfl | hx
 ·unfold InR; omega
 obtain ⟨c,hc,hx⟩:=List.mem_flatMap.1 hx
 obtain ⟨i,hi,rfl⟩:=List.getElem_of_mem hc
 obtain ⟨_,_,_,_,_,_,_,cv,_,hI,hrow⟩:=hg.at (i:=i) hi
 generalize goal[i] = c at *
 have hlen:=hrow.len
 obtain ⟨_,_,rfl⟩:=id hrow.isSlice
 simp only [clsL,List.mem_cons] at hx
 rcases hx with rfl | rfl | hx
 ·exact (InR_iff _).2 hI
 ·unfold InR; omega
 obtain ⟨m,hm,hx⟩:=List.mem_flatMap.1 hx
 obtain ⟨i,hi,rfl⟩:=List.getElem_of_mem hm
 obtain ⟨_,_,_,_,_,_,_,mv,_,hmr⟩:=hrow.at (i:=i) hi
 generalize c.claims[i] = m at *
 have hrow:=hmr.eqs
 have hlen:=hrow.len
 obtain ⟨_,_,rfl⟩:=id hrow.isSlice
 simp only [clmL,List.mem_cons] at hx
 rcases hx with rfl | rfl | hx
 ·exact (InR_iff _).2 hmr.vars
 ·unfold InR; omega
 obtain ⟨e,he,hx⟩:=List.mem_flatMap.1 hx
 obtain ⟨i,hi,rfl⟩:=List.getElem_of_mem he
 obtain ⟨_,_,_,_,ev,_,_,hrow,hI⟩:=hrow.at (i:=i) hi
 generalize m.eqs[i] = e at *
 have hlen:=hrow.len
 obtain ⟨_,_,rfl⟩:=id hrow.isSlice
 simp only [eqnL,List.mem_cons] at hx
 rcases hx with rfl | rfl | hx
 ·exact (InR_iff _).2 hI
 ·unfold InR; omega
 obtain ⟨t,ht,hx⟩:=List.mem_flatMap.1 hx
 obtain ⟨i,hi,rfl⟩:=List.getElem_of_mem ht
 obtain ⟨_,_,_,_,_,_,i0,i1⟩:=hrow.at (i:=i) hi
 simp only [trmL,List.mem_cons,List.not_mem_nil,or_false] at hx
 rcases hx with rfl | rfl
 ·exact (InR_iff _).2 i0
 ·exact (InR_iff _).2 i1
theorem Text_ok (goal:List Cls) {gv:Value} (hg:GoalR w gv goal) (hN:(goalL goal).length ≤ 1000000) (hl:Cd.Laid w) (k:∀ w',Bw w w' → K (.string ⟨(textM goal).toArray⟩) w'):callM Tryz.prog 25 #[gv] K w:=by
 apply sh_25_ok
 unfold sh_25
 have hg':=hg
 obtain ⟨gad,gc,rfl⟩:=hg.isSlice
 have hgl:=hg'.len
 have hNN:1 + (goal.flatMap clsL).length ≤ 1000000:=by unfold goalL at hN; simp only [List.length_cons] at hN; omega
 iterate 1 (any_goals ((with_reducible refine oG fun Kv hK=>?_); simp [go_sem]; refine hK _ _ ?_; clear hK Kv))
 refine mk1o _ (fun v1 w1 h1 ho1=>?_)
 repeat (any_goals ((with_reducible refine oG fun Kv hK=>?_); simp [go_sem]; refine hK _ _ ?_; clear hK Kv))
 refine ⟨TxJ clsL [(goal.length:Int)] goal w,grMu goal.length,⟨h1,_,0,rfl,by omega,by simpa using ho1⟩,?_⟩
 have hpre0:[(goal.length:Int)].length + (goal.flatMap clsL).length ≤ 1000000:=by simp only [List.length_cons,List.length_nil]; omega
 rintro _ _ wA ⟨hbA,ovA,iA,rfl,hiA,hoA⟩
 by_cases hin:iA = goal.length
 ·rw [List.take_of_length_le (by omega)] at hoA
  have hoA:OwnI wA w.heap.size ovA (goalL goal):=hoA
  have hinr:∀ x ∈ goalL goal,InR x:=goal_in hg'
  have hle:=encNums_le hinr (by omega)
  repeat (any_goals (first
  | (with_reducible refine yO ?_)
  | ((with_reducible refine oG fun Kv hK=>?_); simp [go_sem]; refine hK _ _ ?_; clear hK Kv)))
  refine Cd.pNums_ok _ _ (hl.below hbA hl.size) (Ints.rowOf (hoA.ints (fun x hx=>(InR_iff x).1 (hinr x hx)) (by omega))) hinr (by omega) (fun w4 h4=>?_)
  exact k _ (hbA.on h4)
 have eA:goal[iA]? = some goal[iA]:=gE (by omega)
 have hstA:=flat_take_step clsL _ _ _ eA
 have hleA:=flat_step_le clsL _ _ _ eA
 obtain ⟨cbA,coA,rfl,hltA,csA,_,hcellA,cvA,rfl,hIA,hrowA⟩:=hg'.at (i:=iA) (by omega)
 have c0A:=hcellA 0 _ rfl
 have c1A:=hcellA 1 _ rfl
 simp only [Nat.add_zero] at c0A
 generalize goal[iA] = c at *
 obtain ⟨cadA,ccA,rfl⟩:=hrowA.isSlice
 have hlenA:=hrowA.len
 have hllA:(iA:Int) < goal.length:=by omega
 iterate 4 (any_goals (first
 | (with_reducible refine yL ?_)
 | ((with_reducible refine oG fun Kv hK=>?_); simp [go_sem,(hbA.cell hltA).trans c0A,(hbA.cell hltA).trans c1A,hllA]; refine hK _ _ ?_; clear hK Kv)))
 refine local_cls _ _ _ _ (.start wA) (fun bA WA hkA hbbA hgbA=>?_)
 iterate 5 (any_goals ((with_reducible refine oG fun Kv hK=>?_); simp [go_sem,hkA.cells]; refine hK _ _ ?_; clear hK Kv))
 refine mk2 _ _ hIA (by unfold I64; omega) (fun v2 w3 h3 hi3=>?_)
 have hb3:=(hbA.on hbbA).on h3
 have ho3:=(hoA.keep hbbA).keep h3
 have hfxA:(clsL c).length = 2 + (c.claims.flatMap clmL).length:=by simp only [clsL,List.length_cons]; omega
 refine appendNg ho3 hb3.size hi3 (by simp only [List.length_append,List.length_cons,List.length_nil] at hpre0 ⊢; omega) (fun v4 w4 ho4 hg4 hv4=>?_)
 have hb4:=hb3.grown hg4 hb3.size (fun j hj=>(owns_own ho3 hj).2.1)
 have hc4:=cells_after (B:=0) (l:=[]) (hkA.next h3).cells hg4 (fun i e=>by have:=(owns_own hoA e).1; omega)
 iterate 3 (any_goals ((with_reducible refine oG fun Kv hK=>?_); simp [go_sem,hc4]; refine hK _ _ ?_; clear hK Kv))
 refine ⟨TxJ clmL ([(goal.length:Int)] ++ (goal.take iA).flatMap clsL ++ [c.need,(c.claims.length:Int)]) c.claims w,grMu c.claims.length,⟨hb4,_,0,rfl,by omega,by simpa using ho4⟩,?_⟩
 have hpreA:([(goal.length:Int)] ++ (goal.take iA).flatMap clsL ++ [c.need,(c.claims.length:Int)]).length + (c.claims.flatMap clmL).length ≤ 1000000:=by simp only [List.length_append,List.length_cons,List.length_nil] at hpre0 ⊢; omega
 clear hc4 ho4 hb4 hg4 hv4 ho3 hb3 hi3 h3 hkA hbbA hgbA
 rintro _ _ wB ⟨hbB,ovB,iB,rfl,hiB,hoB⟩
 by_cases hinB:iB = c.claims.length
 ·rw [List.take_of_length_le (l:=c.claims) (by omega)] at hoB
  repeat (any_goals (first
  | (with_reducible refine yO ?_)
  | ((with_reducible refine oG fun Kv hK=>?_); simp [go_sem]; (try simp (disch:=omega) only [wrapI64,wrapU8,wrapU32,wrapU64]); refine hK _ _ ?_; clear hK Kv)))
  refine ⟨⟨hbB,_,iA + 1,rfl,by omega,?_⟩,by simp only [grMu_eq]; omega⟩
  rw [hstA]
  simpa [clsL] using hoB
 have eB:c.claims[iB]? = some c.claims[iB]:=gE (by omega)
 have hstB:=flat_take_step clmL _ _ _ eB
 have hleB:=flat_step_le clmL _ _ _ eB
 obtain ⟨cbB,coB,rfl,hltB,csB,_,hcellB,cvB,rfl,hmB⟩:=hrowA.at (i:=iB) (by omega)
 have hIB:=hmB.vars
 have hrowB:=hmB.eqs
 have c0B:=hcellB 0 _ rfl
 have c1B:=hcellB 1 _ rfl
 simp only [Nat.add_zero] at c0B
 generalize c.claims[iB] = m at *
 obtain ⟨cadB,ccB,rfl⟩:=hrowB.isSlice
 have hlenB:=hrowB.len
 have hllB:(iB:Int) < c.claims.length:=by omega
 iterate 4 (any_goals (first
 | (with_reducible refine yL ?_)
 | ((with_reducible refine oG fun Kv hK=>?_); simp [go_sem,(hbB.cell hltB).trans c0B,(hbB.cell hltB).trans c1B,hllB]; refine hK _ _ ?_; clear hK Kv)))
 refine local_clm _ _ _ _ (.start wB) (fun bB WB hkB hbbB hgbB=>?_)
 iterate 5 (any_goals ((with_reducible refine oG fun Kv hK=>?_); simp [go_sem,hkB.cells]; refine hK _ _ ?_; clear hK Kv))
 refine mk2 _ _ hIB (by unfold I64; omega) (fun v2 w3 h3 hi3=>?_)
 have hb3:=(hbB.on hbbB).on h3
 have ho3:=(hoB.keep hbbB).keep h3
 have hfxB:(clmL m).length = 2 + (m.eqs.flatMap eqnL).length:=by simp only [clmL,List.length_cons]; omega
 refine appendNg ho3 hb3.size hi3 (by simp only [List.length_append,List.length_cons,List.length_nil] at hpreA ⊢; omega) (fun v4 w4 ho4 hg4 hv4=>?_)
 have hb4:=hb3.grown hg4 hb3.size (fun j hj=>(owns_own ho3 hj).2.1)
 have hc4:=cells_after (B:=0) (l:=[]) (hkB.next h3).cells hg4 (fun i e=>by have:=(owns_own hoB e).1; omega)
 iterate 3 (any_goals ((with_reducible refine oG fun Kv hK=>?_); simp [go_sem,hc4]; refine hK _ _ ?_; clear hK Kv))
 refine ⟨TxJ eqnL (([(goal.length:Int)] ++ (goal.take iA).flatMap clsL ++ [c.need,(c.claims.length:Int)]) ++ (c.claims.take iB).flatMap clmL ++ [m.vars,(m.eqs.length:Int)]) m.eqs w,grMu m.eqs.length,⟨hb4,_,0,rfl,by omega,by simpa using ho4⟩,?_⟩
 have hpreB:(([(goal.length:Int)] ++ (goal.take iA).flatMap clsL ++ [c.need,(c.claims.length:Int)]) ++ (c.claims.take iB).flatMap clmL ++ [m.vars,(m.eqs.length:Int)]).length + (m.eqs.flatMap eqnL).length ≤ 1000000:=by simp only [List.length_append,List.length_cons,List.length_nil] at hpreA ⊢; omega
 clear hc4 ho4 hb4 hg4 hv4 ho3 hb3 hi3 h3 hkB hbbB hgbB
 rintro _ _ wC ⟨hbC,ovC,iC,rfl,hiC,hoC⟩
 by_cases hinC:iC = m.eqs.length
 ·rw [List.take_of_length_le (l:=m.eqs) (by omega)] at hoC
  repeat (any_goals (first
  | (with_reducible refine yO ?_)
  | ((with_reducible refine oG fun Kv hK=>?_); simp [go_sem]; (try simp (disch:=omega) only [wrapI64,wrapU8,wrapU32,wrapU64]); refine hK _ _ ?_; clear hK Kv)))
  refine ⟨⟨hbC,_,iB + 1,rfl,by omega,?_⟩,by simp only [grMu_eq]; omega⟩
  rw [hstB]
  simpa [clmL] using hoC
 have eC:m.eqs[iC]? = some m.eqs[iC]:=gE (by omega)
 have hstC:=flat_take_step eqnL _ _ _ eC
 have hleC:=flat_step_le eqnL _ _ _ eC
 obtain ⟨cbC,coC,rfl,hltC,cvC,c0C,c1C,hrowC,hIC⟩:=hrowB.at (i:=iC) (by omega)
 generalize m.eqs[iC] = e at *
 obtain ⟨cadC,ccC,rfl⟩:=hrowC.isSlice
 have hlenC:=hrowC.len
 have hllC:(iC:Int) < m.eqs.length:=by omega
 iterate 4 (any_goals (first
 | (with_reducible refine yL ?_)
 | ((with_reducible refine oG fun Kv hK=>?_); simp [go_sem,(hbC.cell hltC).trans c0C,(hbC.cell hltC).trans c1C,hllC]; refine hK _ _ ?_; clear hK Kv)))
 refine local_eqn e _ _ _ (.start wC) (fun bC WC hkC hbbC hgbC=>?_)
 iterate 5 (any_goals ((with_reducible refine oG fun Kv hK=>?_); simp [go_sem,hkC.cells]; refine hK _ _ ?_; clear hK Kv))
 refine mk2 _ _ hIC (by unfold I64; omega) (fun v2 w3 h3 hi3=>?_)
 have hb3:=(hbC.on hbbC).on h3
 have ho3:=(hoC.keep hbbC).keep h3
 have hfxC:(eqnL e).length = 2 + (e.terms.flatMap trmL).length:=by simp only [eqnL,List.length_cons]; omega
 refine appendNg ho3 hb3.size hi3 (by simp only [List.length_append,List.length_cons,List.length_nil] at hpreB ⊢; omega) (fun v4 w4 ho4 hg4 hv4=>?_)
 have hb4:=hb3.grown hg4 hb3.size (fun j hj=>(owns_own ho3 hj).2.1)
 have hc4:=cells_after (B:=0) (l:=[]) (hkC.next h3).cells hg4 (fun i e=>by have:=(owns_own hoC e).1; omega)
 iterate 3 (any_goals ((with_reducible refine oG fun Kv hK=>?_); simp [go_sem,hc4]; refine hK _ _ ?_; clear hK Kv))
 refine ⟨TxJ trmL ((([(goal.length:Int)] ++ (goal.take iA).flatMap clsL ++ [c.need,(c.claims.length:Int)]) ++ (c.claims.take iB).flatMap clmL ++ [m.vars,(m.eqs.length:Int)]) ++ (m.eqs.take iC).flatMap eqnL ++ [e.target,(e.terms.length:Int)]) e.terms w,grMu e.terms.length,⟨hb4,_,0,rfl,by omega,by simpa using ho4⟩,?_⟩
 have hpreC:((([(goal.length:Int)] ++ (goal.take iA).flatMap clsL ++ [c.need,(c.claims.length:Int)]) ++ (c.claims.take iB).flatMap clmL ++ [m.vars,(m.eqs.length:Int)]) ++ (m.eqs.take iC).flatMap eqnL ++ [e.target,(e.terms.length:Int)]).length + (e.terms.flatMap trmL).length ≤ 1000000:=by simp only [List.length_append,List.length_cons,List.length_nil] at hpreB ⊢; omega
 clear hc4 ho4 hb4 hg4 hv4 ho3 hb3 hi3 h3 hkC hbbC hgbC
 rintro _ _ wD ⟨hbD,ovD,iD,rfl,hiD,hoD⟩
 by_cases hinD:iD = e.terms.length
 ·rw [List.take_of_length_le (l:=e.terms) (by omega)] at hoD
  repeat (any_goals (first
  | (with_reducible refine yO ?_)
  | ((with_reducible refine oG fun Kv hK=>?_); simp [go_sem]; (try simp (disch:=omega) only [wrapI64,wrapU8,wrapU32,wrapU64]); refine hK _ _ ?_; clear hK Kv)))
  refine ⟨⟨hbD,_,iC + 1,rfl,by omega,?_⟩,by simp only [grMu_eq]; omega⟩
  rw [hstC]
  simpa [eqnL] using hoD
 have eD:e.terms[iD]? = some e.terms[iD]:=gE (by omega)
 have hstD:=flat_take_step trmL _ _ _ eD
 have hleD:=flat_step_le trmL _ _ _ eD
 obtain ⟨cbD,coD,rfl,hltD,c0D,c1D,i0D,i1D⟩:=hrowC.at (i:=iD) (by omega)
 generalize e.terms[iD] = t at *
 have hllD:(iD:Int) < e.terms.length:=by omega
 iterate 4 (any_goals (first
 | (with_reducible refine yL ?_)
 | ((with_reducible refine oG fun Kv hK=>?_); simp [go_sem,(hbD.cell hltD).trans c0D,(hbD.cell hltD).trans c1D,hllD]; refine hK _ _ ?_; clear hK Kv)))
 refine local_trm t (.start wD) (fun bD WD hkD hbbD hgbD=>?_)
 iterate 4 (any_goals ((with_reducible refine oG fun Kv hK=>?_); simp [go_sem,hkD.cells]; refine hK _ _ ?_; clear hK Kv))
 refine mk2 _ _ i0D i1D (fun v2 w3 h3 hi3=>?_)
 have hb3:=(hbD.on hbbD).on h3
 have ho3:=(hoD.keep hbbD).keep h3
 have hfxD:(trmL t).length = 2:=rfl
 refine appendNg ho3 hb3.size hi3 (by simp only [List.length_append,List.length_cons,List.length_nil] at hpreC ⊢; omega) (fun v4 w4 ho4 hg4 hv4=>?_)
 have hb4:=hb3.grown hg4 hb3.size (fun j hj=>(owns_own ho3 hj).2.1)
 repeat (any_goals ((with_reducible refine oG fun Kv hK=>?_); simp [go_sem]; (try simp (disch:=omega) only [wrapI64,wrapU8,wrapU32,wrapU64]); refine hK _ _ ?_; clear hK Kv))
 refine ⟨⟨hb4,_,iD + 1,rfl,by omega,?_⟩,by simp only [grMu_eq]; omega⟩
 rw [hstD]
 simpa [trmL] using ho4
end
end Go.Proofs
namespace Go.Proofs
open FdSpec TkSpec CodeSpec PrSpec
def rowP (i k:Nat) (l:List Clm):List (Nat × Nat × Clm):=(l.zipIdx k).map fun p=>(i,p.2,p.1)
def places (o:Nat) (goal:List Cls):List (Nat × Nat × Clm):=(goal.zipIdx o).flatMap fun p=>rowP p.2 0 p.1.claims
theorem rowP_cons (i k:Nat) (c:Clm) (l:List Clm):rowP i k (c :: l) = (i,k,c) :: rowP i (k + 1) l:=by
 unfold rowP; simp [List.zipIdx_cons]
theorem places_cons (o:Nat) (c:Cls) (l:List Cls):places o (c :: l) = rowP o 0 c.claims ++ places (o + 1) l:=by
 unfold places; simp [List.zipIdx_cons]
theorem rowP_shift (i k:Nat):∀ l:List Clm,rowP i (k + 1) l = (rowP i k l).map fun p=>(p.1,p.2.1 + 1,p.2.2)
 | []=>rfl
 | c :: l=>by rw [rowP_cons,rowP_cons,rowP_shift i (k + 1) l]; rfl
theorem rowP_up (i k:Nat):∀ l:List Clm,rowP (i + 1) k l = (rowP i k l).map fun p=>(p.1 + 1,p.2)
 | []=>rfl
 | c :: l=>by rw [rowP_cons,rowP_cons,rowP_up i (k + 1) l]; rfl
theorem places_shift (o:Nat):∀ l:List Cls,places (o + 1) l = (places o l).map fun p=>(p.1 + 1,p.2)
 | []=>rfl
 | c :: l=>by rw [places_cons,places_cons,places_shift (o + 1) l,rowP_up,List.map_append]
def dareAt (ds:List (List Int)) (i k:Nat):Int:=(ds.getD i []).getD k 0
def numsAt (ns:List (List (List Int))) (i k:Nat):List Int:=(ns.getD i []).getD k []
def comAt (s:Stp) (ds:List (List Int)) (ns:List (List (List Int))) (p:Nat × Nat × Clm):List Int:=commitsM s p.2.2 (dareAt ds p.1 p.2.1) (numsAt ns p.1 p.2.1)
theorem commitsC_eq {s:Stp}:∀ (l:List Clm) (d:List Int) (n:List (List Int)) (i:Nat),d.length = l.length → n.length = l.length → (rowP i 0 l).flatMap (fun p=>commitsM s p.2.2 (d.getD p.2.1 0) (n.getD p.2.1 [])) = commitsC s l d n
 | [],_,_,_,_,_=>by simp [rowP,commitsC]
 | c :: l,[],_,_,h,_=>by simp at h
 | c :: l,_ :: _,[],_,_,h=>by simp at h
 | c :: l,d :: ds,n :: ns,i,h1,h2=>by
  rw [rowP_cons,Nat.zero_add,rowP_shift i 0 l,List.flatMap_cons,List.flatMap_map]
  simp only [List.getD_cons_succ,List.getD_cons_zero]
  rw [commitsC_eq l ds ns i (by simpa using h1) (by simpa using h2)]
  rfl
theorem commitsL_eq {s:Stp}:∀ (goal:List Cls) (ds:List (List Int)) (ns:List (List (List Int))),ds.length = goal.length → ns.length = goal.length →
  (∀ (i:Nat) (c:Cls) (d:List Int) (n:List (List Int)),goal[i]? = some c → ds[i]? = some d → ns[i]? = some n → d.length = c.claims.length ∧ n.length = c.claims.length) → (places 0 goal).flatMap (comAt s ds ns) = commitsL s goal ds ns
 | [],_,_,_,_,_=>by simp [places,commitsL]
 | c :: l,[],_,h,_,_=>by simp at h
 | c :: l,_ :: _,[],_,h,_=>by simp at h
 | c :: l,d :: ds,n :: ns,h1,h2,hp=>by
  obtain ⟨a,b⟩:=hp 0 c d n rfl rfl rfl
  have ih:=commitsL_eq (s:=s) l ds ns (by simpa using h1) (by simpa using h2) (fun i c' d' n' a1 a2 a3=>hp (i + 1) c' d' n' (by simpa using a1) (by simpa using a2) (by simpa using a3))
  rw [places_cons,Nat.zero_add,places_shift 0 l,List.flatMap_append,List.flatMap_map]
  have e1:(rowP 0 0 c.claims).flatMap (comAt s (d :: ds) (n :: ns)) = commitsC s c.claims d n:=by
   rw [← commitsC_eq c.claims d n 0 a b]
   have:∀ p ∈ rowP 0 0 c.claims,comAt s (d :: ds) (n :: ns) p = commitsM s p.2.2 (d.getD p.2.1 0) (n.getD p.2.1 []):=by
    intro p hp
    unfold rowP at hp
    obtain ⟨q,_,rfl⟩:=List.mem_map.1 hp
    rfl
   rw [List.flatMap_def,List.flatMap_def,List.map_congr_left this]
  rw [e1]
  show _ = commitsC s c.claims d n ++ commitsL s l ds ns
  rw [← ih]
  rfl
end Go.Proofs
namespace Go.Proofs
open Go Go.Sh Go.RowKit FdSpec TkSpec CodeSpec PrSpec
theorem rowP_append (i k:Nat) (a b:List Clm):rowP i k (a ++ b) = rowP i k a ++ rowP i (k + a.length) b:=by
 unfold rowP; rw [List.zipIdx_append,List.map_append]
theorem places_append (o:Nat) (a b:List Cls):places o (a ++ b) = places o a ++ places (o + a.length) b:=by
 unfold places; rw [List.zipIdx_append,List.flatMap_append]
theorem places_one (o:Nat) (c:Cls):places o [c] = rowP o 0 c.claims:=by
 unfold places; simp
theorem rowP_one (i k:Nat) (c:Clm):rowP i k [c] = [(i,k,c)]:=by
 unfold rowP; simp
theorem places_step {goal:List Cls} {i:Nat} {c:Cls} (h:goal[i]? = some c):places 0 (goal.take (i + 1)) = places 0 (goal.take i) ++ rowP i 0 c.claims:=by
 have hi:i < goal.length:=(gS h).1
 rw [List.take_add_one,h,places_append]
 simp only [Option.toList,places_one]
 rw [List.length_take,Nat.min_eq_left (by omega),Nat.zero_add]
theorem rowP_step {i k:Nat} {l:List Clm} {c:Clm} (h:l[k]? = some c):rowP i 0 (l.take (k + 1)) = rowP i 0 (l.take k) ++ [(i,k,c)]:=by
 have hi:k < l.length:=(gS h).1
 rw [List.take_add_one,h,rowP_append]
 simp only [Option.toList,rowP_one]
 rw [List.length_take,Nat.min_eq_left (by omega),Nat.zero_add]
theorem places_part {goal:List Cls} {i k:Nat} {c:Cls} (h:goal[i]? = some c):places 0 (goal.take i) ++ rowP i 0 (c.claims.take k) <+: places 0 goal:=by
 have h1:places 0 (goal.take (i + 1)) <+: places 0 goal:=by
  refine ⟨places (0 + (goal.take (i + 1)).length) (goal.drop (i + 1)),?_⟩
  rw [← places_append,List.take_append_drop]
 rw [places_step h] at h1
 refine List.IsPrefix.trans ?_ h1
 refine ⟨rowP i (0 + (c.claims.take k).length) (c.claims.drop k),?_⟩
 rw [List.append_assoc,← rowP_append,List.take_append_drop]
theorem places_mem {goal:List Cls} {i k:Nat} {cl:Cls} {c:Clm} (h:goal[i]? = some cl) (hk:cl.claims[k]? = some c):(i,k,c) ∈ places 0 goal:=by
 unfold places rowP
 simp only [List.mem_flatMap,List.mem_map,Prod.mk.injEq,Prod.exists]
 exact ⟨cl,i,by rw [List.mem_zipIdx_iff_getElem?]; simpa using h,c,k,by rw [List.mem_zipIdx_iff_getElem?]; simpa using hk,rfl,rfl,rfl⟩
structure Itm (goal:List Cls) (w:World) where
 i:Nat
 k:Nat
 cl:Cls
 c:Clm
 v:Value
 hi:goal[i]? = some cl
 hk:cl.claims[k]? = some c
 hv:ClmR w c v
@[reducible] def plcV (i k:Int):Value:=.agg #[.int .i64 i,.int .i64 k]
def Itm.enc {goal:List Cls} {w:World} (x:Itm goal w):Array Value:=#[plcV x.i x.k,clmV x.c x.v]
def Itm.at {goal:List Cls} {w:World} (x:Itm goal w):Nat × Nat × Clm:=(x.i,x.k,x.c)
section
variable {K:VK} {w w' w0 W:World} {L:List (Addr × Value)}
theorem yield_mono {F:Fence} {m:Nat} {P:Program} {l:Nat} {args:Array Value} {W:World} {R R':Ending → WK} (h:YieldAt F m P l args W R) (hr:∀ e w,R e w → R' e w):YieldAt F m P l args W R':=by
 obtain ⟨fn,tmps,a,b,h1,h2⟩:=h
 exact ⟨fn,tmps,a,b,h1,h2.mono hr⟩
def PrePl (goal:List Cls) (w:World) (J:List (Itm goal w) → WK) (l:List (Nat × Nat × Clm)) (W:World):Prop:=Bw w W ∧ ∃ pre,pre.map Itm.at = l ∧ J pre W
theorem PrePl.next {goal:List Cls} {w:World} {J:List (Itm goal w) → WK} {l:List (Nat × Nat × Clm)} {W W':World} {B:Nat} (hJ:AbidesFrom B J) (h:PrePl goal w J l W) (hb:Bw W W'):PrePl goal w J l W':=by
 obtain ⟨h1,pre,h2,h3⟩:=h
 exact ⟨h1.on hb,pre,h2,hJ pre W W' none h3 ⟨hb.os,hb.tape,hb.output,hb.size,fun k hk _=>hb.block k hk⟩ (fun r e=>by cases e)⟩
def CtJ1 (goal:List Cls) (w:World) (J:List (Itm goal w) → WK) (vs:List Value) (W:World):Prop:=∃ (u0 u1:Value) (i:Nat),vs = [u0,u1,.int .i64 (i:Int)] ∧ i ≤ goal.length ∧ PrePl goal w J (places 0 (goal.take i)) W
def CtJ2 (goal:List Cls) (w:World) (J:List (Itm goal w) → WK) (i:Nat) (c:Cls) (vs:List Value) (W:World):Prop:=∃ (u0:Value) (k:Nat),vs = [u0,.int .i64 (k:Int)] ∧ k ≤ c.claims.length ∧ PrePl goal w J (places 0 (goal.take i) ++ rowP i 0 (c.claims.take k)) W
theorem claims_seq {goal:List Cls} {gv:Value} {g:Nat} (hg:GoalR w gv goal) (hww:Bw w w') (hlt:g < w'.heap.size) (hc:w'.cell? ⟨g,0,none⟩ = some gv) :
  SeqStopsK Fence.wide 9 Tryz.prog 158 #[.pointer (some ⟨g,0,none⟩)] (Itm.enc (goal:=goal) (w:=w)) (Below w.heap.size) (fun xs=>xs.map Itm.at = places 0 goal) (fun pre=>pre.map Itm.at <+: places 0 goal) (places 0 goal).length w':=by
 intro l J Jx W hb hJ hJx hY h0
 refine CallsIn.mono (sh_158_ok (m:=0) (a0:=.func (.yield l) #[] #[]) (a1:=.pointer (some ⟨g,0,none⟩)) (w:=W) (K:=fun _ W'=>(∃ xs:List (Itm goal w),xs.map Itm.at = places 0 goal ∧ J xs W') ∨ (∃ pre:List (Itm goal w),pre.map Itm.at <+: places 0 goal ∧ Jx pre W')) ?_) (fun e W' h=>by obtain ⟨v,h1,h2⟩:=h; exact ⟨⟨v,h1⟩,h2⟩)
 unfold sh_158
 obtain ⟨ad,cap,rfl⟩:=hg.isSlice
 have hln:=hg.len
 have hc0:=(hb.cell hlt).trans hc
 have hb:=hww.on hb
 repeat (any_goals ((with_reducible refine oG fun Kv hK=>?_); simp [go_sem,hc0]; refine hK _ _ ?_; clear hK Kv))
 refine ⟨CtJ1 goal w J,(fun vs _=>match vs with | [_,_,.int _ i]=>goal.length - i.toNat | _=>0),⟨_,_,0,rfl,by omega,hb,[],rfl,h0⟩,?_⟩
 rintro _ _ W1 ⟨u0,u1,i,rfl,hi,hp⟩
 by_cases hin:i = goal.length
 ·repeat (any_goals (first
  | (with_reducible refine yO ?_)
  | ((with_reducible refine oG fun Kv hK=>?_); simp [go_sem,hc0]; refine hK _ _ ?_; clear hK Kv)))
  obtain ⟨h1,pre,h2,h3⟩:=hp
  rw [hin,List.take_length] at h2
  exact .inl ⟨pre,h2,h3⟩
 have e1:goal[i]? = some goal[i]:=gE (by omega)
 obtain ⟨b1,o1,rfl,hlt1,cs1,_,hcell1,v1,rfl,hI1,hrow1⟩:=hg.at (i:=i) (by omega)
 have c01:=hcell1 0 _ rfl
 have c11:=hcell1 1 _ rfl
 simp only [Nat.add_zero] at c01
 generalize goal[i] = c at *
 obtain ⟨ad1,cp1,rfl⟩:=hrow1.isSlice
 have hln1:=hrow1.len
 have hll1:(i:Int) < goal.length:=by omega
 have hW1:=hp.1
 iterate 4 (any_goals (first
 | (with_reducible refine yL ?_)
 | ((with_reducible refine oG fun Kv hK=>?_); simp [go_sem,(hW1.cell hlt1).trans c01,(hW1.cell hlt1).trans c11,hll1]; refine hK _ _ ?_; clear hK Kv)))
 refine local_cls _ _ _ _ (.start W1) (fun b2 W2 hk2 hb2 hg2=>?_)
 have hp:=hp.next hJ hb2
 iterate 3 (any_goals ((with_reducible refine oG fun Kv hK=>?_); simp [go_sem,hk2.cells]; refine hK _ _ ?_; clear hK Kv))
 refine ⟨CtJ2 goal w J i c,(fun vs _=>match vs with | [_,.int _ k]=>c.claims.length - k.toNat | _=>0),⟨_,0,rfl,by omega,by simpa [rowP] using hp⟩,?_⟩
 clear hp hk2 hb2 hg2 hW1
 rintro _ _ W3 ⟨u2,k,rfl,hk,hp⟩
 by_cases hkn:k = c.claims.length
 ·rw [hkn,List.take_length,← places_step e1] at hp
  repeat (any_goals (first
  | (with_reducible refine yO ?_)
  | ((with_reducible refine oG fun Kv hK=>?_); simp [go_sem]; (try simp (disch:=omega) only [wrapI64,wrapU8,wrapU32,wrapU64]); refine hK _ _ ?_; clear hK Kv)))
  refine ⟨⟨_,_,i + 1,rfl,by omega,hp⟩,by show goal.length - (((i + 1:Nat):Int)).toNat < goal.length - ((i:Nat):Int).toNat; omega⟩
 have e3:c.claims[k]? = some c.claims[k]:=gE (by omega)
 obtain ⟨b3,o3,rfl,hlt3,cs3,_,hcell3,v3,rfl,hm3⟩:=hrow1.at (i:=k) (by omega)
 have c03:=hcell3 0 _ rfl
 have c13:=hcell3 1 _ rfl
 simp only [Nat.add_zero] at c03
 generalize c.claims[k] = m at *
 obtain ⟨ad3,cp3,hv3⟩:=hm3.eqs.isSlice
 subst hv3
 have hll3:(k:Int) < c.claims.length:=by omega
 have hW3:=hp.1
 iterate 4 (any_goals (first
 | (with_reducible refine yL ?_)
 | ((with_reducible refine oG fun Kv hK=>?_); simp [go_sem,(hW3.cell hlt3).trans c03,(hW3.cell hlt3).trans c13,hll3]; refine hK _ _ ?_; clear hK Kv)))
 refine local_clm _ _ _ _ (.start W3) (fun b4 W4 hk4 hb4 hg4=>?_)
 have hp:=hp.next hJ hb4
 iterate 2 (any_goals ((with_reducible refine oG fun Kv hK=>?_); simp [go_sem,hk4.cells]; refine hK _ _ ?_; clear hK Kv))
 obtain ⟨hW4,pre,hpre,hJp⟩:=hp
 have hst:=rowP_step (i:=i) e3
 have hpt:places 0 (goal.take i) ++ rowP i 0 (c.claims.take (k + 1)) <+: places 0 goal:=places_part e1
 rw [hst,← List.append_assoc,← hpre] at hpt
 have hlen:pre.length < (places 0 goal).length:=by
  have:=hpt.length_le
  simp only [List.length_append,List.length_map,List.length_cons,List.length_nil] at this
  omega
 have hx:∃ x:Itm goal w,x = ⟨i,k,c,m,_,e1,e3,hm3⟩:=⟨_,rfl⟩
 obtain ⟨x,hx⟩:=hx
 have hat:(pre ++ [x]).map Itm.at = places 0 (goal.take i) ++ rowP i 0 (c.claims.take (k + 1)):=by
  rw [List.map_append,hpre,hst,List.append_assoc,hx]
  rfl
 refine ⟨l,rfl,yield_mono (by have h:=hY pre x W4 hJp hlen; rw [hx] at h; exact h) ?_⟩
 rintro e W5 (⟨rfl,h5,hk5⟩ | ⟨rfl,h5⟩)
 ·refine ⟨_,rfl,?_⟩
  repeat (any_goals (first
  | (with_reducible refine yM ?_)
  | ((with_reducible refine oG fun Kv hK=>?_); simp [go_sem]; (try simp (disch:=omega) only [wrapI64,wrapU8,wrapU32,wrapU64]); refine hK _ _ ?_; clear hK Kv)))
  refine ⟨⟨_,k + 1,rfl,by omega,hW4.trans hk5,pre ++ [x],hat,by rw [hx]; exact h5⟩,by show c.claims.length - (((k + 1:Nat):Int)).toNat < c.claims.length - ((k:Nat):Int).toNat; omega⟩
 ·refine ⟨_,rfl,?_⟩
  repeat (any_goals (first
  | (with_reducible refine yL ?_)
  | ((with_reducible refine oG fun Kv hK=>?_); simp [go_sem]; refine hK _ _ ?_; clear hK Kv)))
  refine .inr ⟨pre ++ [x],?_,by rw [hx]; exact h5⟩
  rw [hat]
  exact places_part e1
end
end Go.Proofs
namespace Go.Proofs
open Go Go.Sh Go.RowKit FdSpec TkSpec CodeSpec PrSpec
section
variable {K:VK} {w w' w0 W W':World} {L:List (Addr × Value)} {g n B:Nat} {row:Option Nat}
def OwnS (B:Nat) (W:World):Nat → Prop:=fun i=>B ≤ i ∧ ∃ o:Obj,W.heap[i]? = some o ∧ o.isCells = false
theorem own_fr (hg:W.grownBy W' row) (hr:∀ r,row = some r → B ≤ r ∧ ∃ o:Obj,W.heap[r]? = some o ∧ o.isCells = false):Fr (OwnS B W) W W':=by
 refine ⟨hg.os,hg.tape,hg.output,hg.size,fun i hi hn=>hg.block i hi (fun e=>hn ?_)⟩
 exact hr i (by first | exact e | exact e.symm)
theorem put_fr {D:Nat} {o:Obj} (o':Obj) (hD:B ≤ D) (hl:W.heap[D]? = some o) (ho:o.isCells = false):Fr (OwnS B W) W (W.putObj D o'):=
 own_fr (grownBy_putObj' W D o') (fun r e=>by cases e; exact ⟨hD,o,hl,ho⟩)
theorem cell_obj {a:Addr} {u:Value} (h:W.cell? a = some u):∃ o,W.heap[a.block]? = some o ∧ o.isCells = true:=by
 unfold World.cell? at h
 cases e:W.heap[a.block]? with
 | none=>rw [e] at h; simp at h
 | some o=>
  refine ⟨o,rfl,?_⟩
  rw [e] at h
  cases o <;> first | rfl | (simp at h)
theorem cellsAre_mem {L:List (Addr × Value)} (h:cellsAre W L):∀ p ∈ L,W.cell? p.1 = some p.2:=by
 induction L with
 | nil=>intro p hp; cases hp
 | cons a l ih=>
  intro p hp
  rcases List.mem_cons.1 hp with rfl | hp
  ·exact h.1
  ·exact ih h.2 p hp
theorem own_not {i:Nat} {o:Obj} (h:W.heap[i]? = some o) (ho:o.isCells = true):¬ OwnS B W i:=by
 rintro ⟨_,o',h1,h2⟩
 rw [h] at h1
 cases h1
 rw [ho] at h2
 cases h2
theorem own_below (h:Bw w0 W) (hB:w0.heap.size ≤ B) (hf:Fr (OwnS B W) W W'):Bw w0 W':=
 ⟨hf.os.trans h.os,hf.tape.trans h.tape,hf.output.trans h.output,Nat.le_trans h.size hf.size,fun k hk=>(hf.block k (Nat.lt_of_lt_of_le hk h.size) (fun x=>by have:=x.1; omega)).trans (h.block k hk)⟩
theorem own_kn (h:Kn w0 L W) (hB:w0.heap.size ≤ B) (hf:Fr (OwnS B W) W W'):Kn w0 L W':=
 ⟨own_below h.below hB hf,cells_fr h.cells hf fun p hp=>⟨cells_lt h.cells p hp,by
  obtain ⟨o,h1,h2⟩:=cell_obj (cellsAre_mem h.cells p hp)
  exact own_not h1 h2⟩⟩
theorem own_mine (h:Mine W g n) (hf:Fr (OwnS B W) W W'):Mine W' g n:=by
 obtain ⟨cur,T,h1,h2⟩:=h
 refine ⟨cur,T,?_,h2⟩
 rw [hf.block g (Array.getElem?_eq_some_iff.1 h1).1 (own_not h1 rfl)]
 exact h1
theorem own_knm (h:KnM w0 L g n W) (hB:w0.heap.size ≤ B) (hf:Fr (OwnS B W) W W'):KnM w0 L g n W':=⟨own_kn h.kn hB hf,own_mine h.mine hf,h.base,h.off⟩
theorem keeps_below (h:Bw W W'):KeepsFrom B W W':=⟨h.size,fun k o _ hk _=>by rw [h.block k (Array.getElem?_eq_some_iff.1 hk).1]; exact hk⟩
theorem keeps_mine {g:Nat} (hg:W.grownBy W' (some g)) (hm:Mine W g n):KeepsFrom B W W':=⟨hg.size,fun k o _ hk ho=>by
 obtain ⟨cur,T,h1,_⟩:=hm
 rw [hg.block k (Array.getElem?_eq_some_iff.1 hk).1 (fun e=>by cases e; rw [h1] at hk; cases hk; cases ho)]
 exact hk⟩
theorem ret_bool {b:Bool} (hc:W.cell? ⟨g,0,none⟩ = some (.bool b)) (k:K (.bool b) W):∃ r,(do loadVar 4 (← asAddr (.pointer (some ⟨g,0,none⟩))):Sem Value).run Tryz.prog W = .ok r W ∧ K r W:=by
 refine ⟨.bool b,?_,k⟩
 show (Instr.loadAt 4 (.pointer (some ⟨g,0,none⟩))).run Tryz.prog W = _
 simp [go_sem,hc]
theorem al_bool (w:World):(Instr.alloc 4 true (.tuple #[])).run Tryz.prog w = .ok (.pointer (some ⟨w.heap.size,0,none⟩)) (w.alloc (.cells [.bool false].toArray 4)):=by kernel_rfl
theorem sz_bool (w:World):(sizeOf 4).run Tryz.prog w = .ok 1 w:=by kernel_rfl
theorem store_bool {T':TypeId} {b:Bool} (hk:KnM w0 L g 1 w) (k:∀ W,KnM w0 L g 1 W → w.grownBy W (some g) → W.cell? ⟨g,0,none⟩ = some (.bool b) → K undef W) :
  oM Tryz.prog (.store 4 (.tmp 0) (.tmp 1)) T' [.pointer (some ⟨g,0,none⟩),.bool b] K w:=by
 obtain ⟨W,e,hg,hm,hc⟩:=store_run (P:=Tryz.prog) (w:=w) (W:=w) (T:=4) (x:=.bool b) (xs:=[.bool b]) sz_bool rfl rfl (by intro u hu; rw [List.mem_singleton] at hu; subst hu; rfl) hk.mine
 rw [oM_store,e]
 exact k W ⟨hk.kn.wrote hg hk.base hk.off,hm,hk.base,hk.off⟩ hg hc.1
theorem claims_ok {gv:Value} {goal:List Cls} (hg:GoalR w gv goal) (k:∀ g W,Bw w W → w.heap.size ≤ g → g < W.heap.size → W.cell? ⟨g,0,none⟩ = some gv → K (.func (.func 158) #[] #[.pointer (some ⟨g,0,none⟩)]) W):callM Tryz.prog 93 #[gv] K w:=by
 apply sh_93_ok
 unfold sh_93
 obtain ⟨ad,c,rfl⟩:=hg.isSlice
 refine box_kn (cs:=[.slice ad goal.length c]) rfl (.start w) fun b1 W hk hb1 hbb=>?_
 have h1:=cells_lt hk.cells _ (List.mem_singleton.2 rfl)
 have h2:=hk.cells.1
 repeat (any_goals ((with_reducible refine oG fun Kv hK=>?_); simp [go_sem]; refine hK _ _ ?_; clear hK Kv))
 exact k _ _ hb1 hbb h1 h2
theorem range_claims {goal:List Cls} {gv:Value} {A:Array Value → (List Value → World → Prop) → WK} {Bd:Array Value → List Value → Env → (WK) → (WK) → WK} {Kd Kr:Nat → WK}
  (hg:GoalR w gv goal) (hww:Bw w w') (hlt:g < w'.heap.size) (hc:w'.cell? ⟨g,0,none⟩ = some gv)
  (I Ix:List (Itm goal w) → WK) (M:Itm goal w → List Value → World → Prop)
  (hI:∀ pre W W',I pre W → Fr (OwnS w'.heap.size W) W W' → I pre W') (hIx:∀ pre W W',Ix pre W → Fr (OwnS w'.heap.size W) W W' → Ix pre W') (hM:∀ x l W W',M x l W → Fr (OwnS w'.heap.size W) W W' → M x l W') (h0:I [] w')
  (hA:∀ pre x W,I pre W → A x.enc (fun l W1=>KeepsFrom w'.heap.size W W1 ∧ Below w.heap.size W W1 ∧ I pre W1 ∧ M x l W1) W)
  (hB:∀ pre x l u W,I pre W → M x l W → pre.length < (places 0 goal).length → Bd x.enc l u (fun W2=>KeepsFrom w'.heap.size W W2 ∧ Below w.heap.size W W2 ∧ I (pre ++ [x]) W2) (fun W2=>KeepsFrom w'.heap.size W W2 ∧ Ix (pre ++ [x]) W2) W)
  (hd:∀ D xs W,w'.heap.size ≤ D → xs.map Itm.at = places 0 goal → I xs W → W.heap[D]? = some (.deferred (some [])) → Kd D W)
  (hs:∀ D pre W,w'.heap.size ≤ D → pre.map Itm.at <+: places 0 goal → Ix pre W → W.heap[D]? = some (.deferred (some [])) → Kr D W) :
  Go.Sh.rangeM Tryz.prog (.func (.func 158) #[] #[.pointer (some ⟨g,0,none⟩)]) 2 w' A Bd Kd Kr:=
 ⟨158,_,Itm goal w,Itm.enc,Below w.heap.size,_,_,_,rfl,by kernel_rfl,claims_seq hg hww hlt hc,fun _=>rfl,fun h k=>h.trans k,fun X l o o' hl h _ _=>(belowK_b (n₀:=w.heap.size) hww.size X l o o' hl h (by assumption) (by assumption)),
  I,Ix,M,fun s X Y row h1 h2 h3=>hI _ _ _ h1 (own_fr h2 h3),fun s X Y row h1 h2 h3=>hIx _ _ _ h1 (own_fr h2 h3),fun x l s X Y row h1 h2 h3=>hM _ _ _ _ h1 (own_fr h2 h3),h0,hA,hB,hd,hs⟩
end
end Go.Proofs
namespace Go.Proofs
open Go Go.Sh Go.RowKit FdSpec TkSpec CodeSpec PrSpec
section
variable {K:VK} {w w' w0 W W':World} {L:List (Addr × Value)} {g n B:Nat} {row:Option Nat}
theorem own_cells (h:cellsAre W L) (hf:Fr (OwnS B W) W W'):cellsAre W' L:=
 cells_fr h hf fun p hp=>⟨cells_lt h p hp,by
  obtain ⟨o,h1,h2⟩:=cell_obj (cellsAre_mem h p hp)
  exact own_not h1 h2⟩
theorem own_cell {a:Addr} {u:Value} (h:W.cell? a = some u) (hf:Fr (OwnS B W) W W'):W'.cell? a = some u:=(own_cells (L:=[(a,u)]) ⟨h,trivial⟩ hf).1
theorem local_clsM {T' T2:TypeId} (a:Int) (ad:Option Addr) (m c:Nat) (hk:KnM w0 L g n w)
  (k:∀ b W,KnM w0 (cellsOf L b 0 [.int .i64 a,.slice ad m c]) g n W → Bw w W → w.heap.size ≤ b → K (.pointer (some ⟨b,0,none⟩)) W) :
  oM Tryz.prog (.alloc 65) T' [] (fun v w=>oM Tryz.prog (.store 65 (.tmp 0) (.tmp 1)) T2 [v,.agg #[.int .i64 a,.slice ad m c]] (fun _ w=>K v w) w) w:=
 local_knm al_cls rfl sz_cls rfl rfl (clm_one a ad m c) hk k
theorem all_places {f:Clm → Bool} {goal:List Cls}:(∀ p ∈ places 0 goal,f p.2.2 = true) → (goal.all fun c=>c.claims.all f) = true:=by
 intro h
 rw [List.all_eq_true]
 intro cl hcl
 rw [List.all_eq_true]
 intro c hc
 obtain ⟨i,hi,rfl⟩:=List.getElem_of_mem hcl
 obtain ⟨k,hk,rfl⟩:=List.getElem_of_mem hc
 exact h _ (places_mem (gE hi) (gE hk))
theorem itm_mem {goal:List Cls} {w:World} (x:Itm goal w) {f:Clm → Bool} (h:f x.c = false):(goal.all fun c=>c.claims.all f) = false:=by
 rw [Bool.eq_false_iff]
 intro h2
 have h3:=List.all_eq_true.1 (List.all_eq_true.1 h2 x.cl (List.mem_of_getElem? x.hi)) x.c (List.mem_of_getElem? x.hk)
 rw [h] at h3
 cases h3
theorem all_items {goal:List Cls} {w:World} {xs:List (Itm goal w)} {f:Clm → Bool} (h:xs.map Itm.at = places 0 goal) (ha:∀ x ∈ xs,f x.c = true):(goal.all fun c=>c.claims.all f) = true:=by
 refine all_places fun p hp=>?_
 rw [← h,List.mem_map] at hp
 obtain ⟨x,hx,rfl⟩:=hp
 exact ha x hx
def VgJ (s:Stp) (goal:List Cls) (w0:World) (L:List (Addr × Value)) (rb:Nat) (vs:List Value) (W:World):Prop:=KnM w0 L rb 1 W ∧ ∃ (u0:Value) (i:Nat),vs = [u0,.int .i64 (i:Int)] ∧ i ≤ goal.length ∧ (goal.take i).all (clsFine s) = true
theorem ValidGoal_ok (s:Stp) {sv gv:Value} {goal:List Cls} (hs:SetR w s sv) (hg:GoalR w gv goal) (k:∀ w',Bw w w' → K (.bool (goalM s goal)) w'):callM Tryz.prog 23 #[stpV s sv,gv] K w:=by
 apply sh_23_ok
 unfold sh_23
 have hs':=hs
 have hg':=hg
 obtain ⟨ad,c,rfl⟩:=hs.ints.isSlice
 obtain ⟨gad,gc,rfl⟩:=hg.isSlice
 have hln:=hg.len
 refine box_kn (cs:=stpC s (.slice ad s.bases.length c)) rfl (.start w) fun b1 W hk hb1 hbb=>?_
 refine alloc_mine (zs:=[.bool false]) al_bool rfl hk fun rb W hk hb2 hgb=>?_
 clear hb1 hb2
 have no:goalM s goal = false → ∀ {L:List (Addr × Value)} {W:World} {T:TypeId},KnM w L rb 1 W → oM Tryz.prog (.store 4 (.tmp 0) (.tmp 1)) T [.pointer (some ⟨rb,0,none⟩),.bool false] (fun _ w=>∃ r,(do loadVar 4 (← asAddr (.pointer (some ⟨rb,0,none⟩))):Sem Value).run Tryz.prog w = .ok r w ∧ K r w) W:=by
  intro hf L W T hk
  refine store_bool hk fun W hk hgr hc=>ret_bool hc ?_
  have k:=k _ hk.below
  rwa [hf] at k
 repeat (any_goals ((with_reducible refine oG fun Kv hK=>?_); simp [go_sem,hk.cells]; refine hK _ _ ?_; clear hK Kv))
 refine ValidSetup_ok s (hs'.next hk.below) (fun w2 h2=>?_)
 have hk:=hk.next h2
 cases hvs:validS s with
 | false=>
  repeat (any_goals (first
  | (with_reducible first|refine zD ?_|refine yB ?_|refine yL ?_)
  | ((with_reducible refine oG fun Kv hK=>?_); simp [go_sem]; refine hK _ _ ?_; clear hK Kv)))
  exact no (by simp [goalM,hvs]) hk
 | true=>
 by_cases h1:goal.length < 1
 ·have h1':(goal.length:Int) < 1:=by omega
  repeat (any_goals (first
  | (with_reducible first|refine pureM_in ?_|((refine idGd ?_); first|refine zC ?_|refine zD ?_)|((refine idPick ?_); first|refine yB ?_|refine yC ?_)|refine yL ?_)
  | ((with_reducible refine oG fun Kv hK=>?_); simp [go_sem,h1']; refine hK _ _ ?_; clear hK Kv)))
  exact no (by simp [goalM,show ¬ 1 ≤ goal.length by omega]) hk
 by_cases h3:300 < goal.length
 ·have h3':(300:Int) < goal.length:=by omega
  have h1':¬ (goal.length:Int) < 1:=by omega
  repeat (any_goals (first
  | (with_reducible first|refine pureM_in ?_|refine zC ?_|refine yC ?_|refine yL ?_)
  | ((with_reducible refine oG fun Kv hK=>?_); simp [go_sem,h1',h3']; refine hK _ _ ?_; clear hK Kv)))
  exact no (by simp [goalM,show ¬ goal.length ≤ 300 by omega]) hk
 have h1':¬ (goal.length:Int) < 1:=by omega
 have h3':¬ (300:Int) < goal.length:=by omega
 repeat (any_goals (first
 | (with_reducible first|refine pureM_in ?_|refine zC ?_|refine yC ?_|refine yM ?_)
 | ((with_reducible refine oG fun Kv hK=>?_); simp [go_sem,h1',h3']; refine hK _ _ ?_; clear hK Kv)))
 refine ⟨VgJ s goal w _ rb,grMu goal.length,⟨hk,_,0,rfl,by omega,rfl⟩,?_⟩
 clear hk h2
 rintro _ _ W1 ⟨hk,u0,i,rfl,hi,hall⟩
 by_cases hin:i = goal.length
 ·rw [hin,List.take_length] at hall
  repeat (any_goals (first
  | (with_reducible refine yO ?_)
  | ((with_reducible refine oG fun Kv hK=>?_); simp [go_sem]; refine hK _ _ ?_; clear hK Kv)))
  refine claims_ok (hg'.next (atOf_stay cls_vstay) hk.below) (fun cb W2 hb2 hcb hlt hcell=>?_)
  have hk:=hk.next hb2
  refine range_claims (w:=w) hg' hk.below hlt hcell
   (fun pre W=>KnM w (cellsOf [] b1 0 (stpC s (.slice ad s.bases.length c))) rb 1 W ∧ ∀ x ∈ pre,claimM s x.c = true)
   (fun pre W=>Bw w W ∧ W.cell? ⟨rb,0,none⟩ = some (.bool false) ∧ ∃ x ∈ pre,claimM s x.c = false)
   (fun x l W=>∃ b,l = [.pointer (some ⟨b,0,none⟩)] ∧ cellsAre W (cellsOf [] b 0 (clmC x.c x.v)))
   (fun pre W W' h hf=>⟨own_knm h.1 hk.below.size hf,h.2⟩)
   (fun pre W W' h hf=>⟨own_below h.1 hk.below.size hf,own_cell h.2.1 hf,h.2.2⟩)
   (fun x l W W' h hf=>by obtain ⟨b,e,h⟩:=h; exact ⟨b,e,own_cells h hf⟩)
   ⟨hk,fun x hx=>by cases hx⟩ ?_ ?_ ?_ ?_
  ·rintro pre x W ⟨hk,hp⟩
   obtain ⟨xad,xc,hxv⟩:=x.hv.eqs.isSlice
   have e:x.enc.getD 1 undef = .agg #[.int .i64 x.c.vars,.slice xad x.c.eqs.length xc]:=by rw [← hxv]; rfl
   dsimp only
   rw [e]
   refine local_clm _ _ _ _ (.start W) (fun b W' hk' hb hgb=>?_)
   exact ⟨keeps_below hb,hb.mono hk.below.size,⟨hk.next hb,hp⟩,b,rfl,by rw [hxv]; exact hk'.cells⟩
  ·rintro pre x l u W ⟨hk,hp⟩ ⟨b,rfl,hm⟩ hlen
   obtain ⟨xad,xc,hxv⟩:=x.hv.eqs.isSlice
   rw [hxv] at hm
   dsimp only
   repeat (any_goals ((with_reducible refine oG fun Kv hK=>?_); simp [go_sem,hk.cells,hm]; refine hK _ _ ?_; clear hK Kv))
   have hx':=x.hv.next hk.below
   rw [hxv] at hx'
   refine validClaim_ok s x.c (hs'.next hk.below) hx' (fun W' hb=>?_)
   have hk2:=hk.next hb
   cases hcl:claimM s x.c with
   | false=>
    repeat (any_goals (first
    | (with_reducible refine yL ?_)
    | ((with_reducible refine oG fun Kv hK=>?_); simp [go_sem]; refine hK _ _ ?_; clear hK Kv)))
    refine store_bool hk2 fun W'' hk3 hgr hc=>?_
    exact ⟨(keeps_below hb).trans (keeps_mine hgr hk2.mine),hk3.below,hc,x,by simp,hcl⟩
   | true=>
    repeat (any_goals (first
    | (with_reducible refine yM ?_)
    | ((with_reducible refine oG fun Kv hK=>?_); simp [go_sem]; refine hK _ _ ?_; clear hK Kv)))
    refine ⟨keeps_below hb,hb.mono hk.below.size,hk2,fun y hy=>?_⟩
    rcases List.mem_append.1 hy with hy | hy
    ·exact hp y hy
    ·rw [List.mem_singleton.1 hy]; exact hcl
  ·rintro D xs W hD hxs ⟨hk2,hp⟩ hh
   have hgD:rb < D:=Nat.lt_of_lt_of_le (Nat.lt_of_lt_of_le (mine_lt hk.mine) (Nat.le_refl _)) hD
   refine store_bool hk2 fun W'' hk3 hgr hc=>?_
   have hh2:W''.heap[D]? = some (.deferred (some [])):=by
    rw [hgr.block D (Array.getElem?_eq_some_iff.1 hh).1 (fun e=>by cases e; omega)]; exact hh
   have hf:=put_fr (B:=W2.heap.size) (.deferred none) hD hh2 rfl
   refine ⟨hh2,ret_bool (own_cell hc hf) ?_⟩
   have k:=k _ (own_below hk3.below hk.below.size hf)
   have e:goalM s goal = true:=by
    unfold goalM
    rw [hvs,hall,all_items hxs hp]
    simp
    omega
   rwa [e] at k
  ·rintro D pre W hD hpre ⟨hk3,hc,x,hx,hcl⟩ hh
   have hf:=put_fr (B:=W2.heap.size) (.deferred none) hD hh rfl
   refine ⟨hh,ret_bool (own_cell hc hf) ?_⟩
   have k:=k _ (own_below hk3 hk.below.size hf)
   have e:goalM s goal = false:=by
    unfold goalM
    rw [itm_mem x hcl]
    simp
   rwa [e] at k
 have e1:goal[i]? = some goal[i]:=gE (by omega)
 obtain ⟨b1,o1,rfl,hlt1,cs1,_,hcell1,v1,rfl,hI1,hrow1⟩:=hg'.at (i:=i) (by omega)
 have c01:=hcell1 0 _ rfl
 have c11:=hcell1 1 _ rfl
 simp only [Nat.add_zero] at c01
 have bad:clsFine s goal[i] = false → goalM s goal = false:=by
  intro h
  have:goal.all (clsFine s) = false:=by
   rw [Bool.eq_false_iff]
   intro h2
   have:=List.all_eq_true.1 h2 goal[i] (List.getElem_mem _)
   rw [h] at this
   cases this
  simp [goalM,this]
 have hst:clsFine s goal[i] = true → (goal.take (i + 1)).all (clsFine s) = true:=by
  intro h
  rw [List.take_add_one,List.all_append,hall,e1]
  simp [h]
 generalize goal[i] = cl at *
 obtain ⟨ad1,cp1,rfl⟩:=hrow1.isSlice
 have hln1:=hrow1.len
 have hll1:(i:Int) < goal.length:=by omega
 iterate 4 (any_goals (first
 | (with_reducible refine yL ?_)
 | ((with_reducible refine oG fun Kv hK=>?_); simp [go_sem,(hk.below.cell hlt1).trans c01,(hk.below.cell hlt1).trans c11,hll1]; refine hK _ _ ?_; clear hK Kv)))
 refine local_clsM _ _ _ _ hk (fun b2 W2 hk2 hb2 hg2=>?_)
 have hk3:=hk.next hb2
 by_cases a1:cl.claims.length < 1
 ·have a1':(cl.claims.length:Int) < 1:=by omega
  repeat (any_goals (first
  | (with_reducible first|refine zD ?_|refine yB ?_|refine yL ?_)
  | ((with_reducible refine oG fun Kv hK=>?_); simp [go_sem,hk2.cells,a1']; refine hK _ _ ?_; clear hK Kv)))
  exact no (bad (by simp [clsFine,show ¬ 1 ≤ cl.claims.length by omega])) hk3
 have a1':¬ (cl.claims.length:Int) < 1:=by omega
 by_cases a2:16 < cl.claims.length
 ·have a2':(16:Int) < cl.claims.length:=by omega
  repeat (any_goals (first
  | (with_reducible first|refine pureM_in ?_|((refine idGd ?_); first|refine zC ?_|refine zD ?_)|((refine idPick ?_); first|refine yB ?_|refine yC ?_)|refine yL ?_)
  | ((with_reducible refine oG fun Kv hK=>?_); simp [go_sem,hk2.cells,a1',a2']; refine hK _ _ ?_; clear hK Kv)))
  exact no (bad (by simp [clsFine,show ¬ cl.claims.length ≤ 16 by omega])) hk3
 have a2':¬ (16:Int) < cl.claims.length:=by omega
 by_cases a3:¬ (cl.claims.length:Int) < s.g.Q
 ·have a3':s.g.Q ≤ (cl.claims.length:Int):=by omega
  repeat (any_goals (first
  | (with_reducible first|refine pureM_in ?_|((refine idGd ?_); first|refine zC ?_|refine zD ?_)|((refine idPick ?_); first|refine yB ?_|refine yC ?_)|refine yL ?_)
  | ((with_reducible refine oG fun Kv hK=>?_); simp [go_sem,hk2.cells,a1',a2',a3']; refine hK _ _ ?_; clear hK Kv)))
  exact no (bad (by simp [clsFine,a3])) hk3
 have a3':¬ s.g.Q ≤ (cl.claims.length:Int):=by omega
 by_cases a4:cl.need < 1
 ·repeat (any_goals (first
  | (with_reducible first|refine pureM_in ?_|((refine idGd ?_); first|refine zC ?_|refine zD ?_)|((refine idPick ?_); first|refine yB ?_|refine yC ?_)|refine yL ?_)
  | ((with_reducible refine oG fun Kv hK=>?_); simp [go_sem,hk2.cells,a1',a2',a3',a4]; refine hK _ _ ?_; clear hK Kv)))
  exact no (bad (by simp [clsFine,show ¬ 1 ≤ cl.need by omega])) hk3
 by_cases a5:(cl.claims.length:Int) < cl.need
 ·repeat (any_goals (first
  | (with_reducible first|refine pureM_in ?_|refine zC ?_|refine yC ?_|refine yL ?_)
  | ((with_reducible refine oG fun Kv hK=>?_); simp [go_sem,hk2.cells,a1',a2',a3',a4,a5]; refine hK _ _ ?_; clear hK Kv)))
  exact no (bad (by simp [clsFine,show ¬ cl.need ≤ cl.claims.length by omega])) hk3
 repeat (any_goals (first
 | (with_reducible first|refine pureM_in ?_|refine zC ?_|refine yC ?_|refine yM ?_)
 | ((with_reducible refine oG fun Kv hK=>?_); simp [go_sem,hk2.cells,a1',a2',a3',a4,a5]; (try simp (disch:=omega) only [wrapI64,wrapU8,wrapU32,wrapU64]); refine hK _ _ ?_; clear hK Kv)))
 refine ⟨⟨hk3,_,i + 1,rfl,by omega,hst ?_⟩,by simp only [grMu_eq]; omega⟩
 unfold clsFine
 simp
 omega
end
end Go.Proofs
namespace Go.Proofs
open Go Go.Sh Go.RowKit FdSpec TkSpec CodeSpec PrSpec
section
variable {K:VK} {w w' w0 W W':World} {L:List (Addr × Value)} {g n B:Nat} {row:Option Nat}
theorem al_plc (w:World):(Instr.alloc 127 true (.tuple #[])).run Tryz.prog w = .ok (.pointer (some ⟨w.heap.size,0,none⟩)) (w.alloc (.cells [.int .i64 0,.int .i64 0].toArray 127)):=by kernel_rfl
theorem sz_plc (w:World):(sizeOf 127).run Tryz.prog w = .ok 2 w:=by kernel_rfl
theorem plc_one (a b:Int):∀ u ∈ ([.int .i64 a,.int .i64 b]:List Value),u.oneCell' = true:=by
 intro u hu
 simp only [List.mem_cons,List.not_mem_nil,or_false] at hu
 rcases hu with rfl | rfl <;> rfl
theorem local_plc {T' T2:TypeId} (a b:Int) (hk:Kn w0 L w)
  (k:∀ p W,Kn w0 (cellsOf L p 0 [.int .i64 a,.int .i64 b]) W → Bw w W → w.heap.size ≤ p → K (.pointer (some ⟨p,0,none⟩)) W) :
  oM Tryz.prog (.alloc 127) T' [] (fun v w=>oM Tryz.prog (.store 127 (.tmp 0) (.tmp 1)) T2 [v,.agg #[.int .i64 a,.int .i64 b]] (fun _ w=>K v w) w) w:=
 local_kn al_plc rfl sz_plc rfl rfl (plc_one a b) hk k
theorem enc0 {goal:List Cls} (x:Itm goal w):x.enc.getD 0 undef = .agg #[.int .i64 x.i,.int .i64 x.k]:=rfl
theorem enc1 {goal:List Cls} (x:Itm goal w):x.enc.getD 1 undef = .agg #[.int .i64 x.c.vars,x.v]:=rfl
def PcM {goal:List Cls} (x:Itm goal w) (l:List Value) (W:World):Prop:=∃ p b,l = [.pointer (some ⟨p,0,none⟩),.pointer (some ⟨b,0,none⟩)] ∧ cellsAre W (cellsOf (cellsOf [] p 0 [.int .i64 x.i,.int .i64 x.k]) b 0 (clmC x.c x.v))
def ShJ (s:Stp) (goal:List Cls) (ds:List (List Int)) (ns:List (List (List Int))) (w0:World) (L:List (Addr × Value)) (rb:Nat) (vs:List Value) (W:World):Prop:=KnM w0 L rb 1 W ∧ ∃ (u0:Value) (i:Nat),vs = [u0,.int .i64 (i:Int)] ∧ i ≤ goal.length ∧
 ∀ (j:Nat) (c:Cls) (d:List Int) (n:List (List Int)),j < i → goal[j]? = some c → ds[j]? = some d → ns[j]? = some n → shapeOf s c d n = true
theorem shaped_ok (s:Stp) {sv gv dv nv:Value} {goal:List Cls} {ds:List (List Int)} {ns:List (List (List Int))} (hs:SetR w s sv) (hg:GoalR w gv goal) (hd:ListsR w dv ds) (hn:NumsR w nv ns)
  (k:∀ w',Bw w w' → K (.bool (shapedM s goal ds ns)) w'):callM Tryz.prog 91 #[stpV s sv,gv,dv,nv] K w:=by
 apply sh_91_ok
 unfold sh_91
 have hs':=hs
 have hg':=hg
 obtain ⟨ad,c,rfl⟩:=hs.ints.isSlice
 obtain ⟨gad,gc,rfl⟩:=hg.isSlice
 obtain ⟨dad,dc,rfl⟩:=hd.isSlice
 obtain ⟨nad,nc,rfl⟩:=hn.isSlice
 have hlg:=hg.len
 have hld:=hd.len
 have hln:=hn.len
 refine box_kn (cs:=stpC s (.slice ad s.bases.length c)) rfl (.start w) fun b1 W hk hb1 hbb=>?_
 refine box_kn (cs:=[.slice nad ns.length nc]) rfl hk fun b2 W hk hb2 hbb2=>?_
 refine alloc_mine (zs:=[.bool false]) al_bool rfl hk fun rb W hk hb3 hgb=>?_
 clear hb1 hb2 hb3
 have no:shapedM s goal ds ns = false → ∀ {L:List (Addr × Value)} {W:World} {T:TypeId},KnM w L rb 1 W → oM Tryz.prog (.store 4 (.tmp 0) (.tmp 1)) T [.pointer (some ⟨rb,0,none⟩),.bool false] (fun _ w=>∃ r,(do loadVar 4 (← asAddr (.pointer (some ⟨rb,0,none⟩))):Sem Value).run Tryz.prog w = .ok r w ∧ K r w) W:=by
  intro hf L W T hk
  refine store_bool hk fun W hk hgr hc=>ret_bool hc ?_
  have k:=k _ hk.below
  rwa [hf] at k
 by_cases e1:¬ ds.length = goal.length
 ·have e1':¬ (ds.length:Int) = goal.length:=by omega
  repeat (any_goals (first
  | (with_reducible first|refine zD ?_|refine yB ?_|refine yL ?_)
  | ((with_reducible refine oG fun Kv hK=>?_); simp [go_sem,hk.cells,e1']; refine hK _ _ ?_; clear hK Kv)))
  exact no (by simp [shapedM,e1]) hk
 have e1:ds.length = goal.length:=by omega
 have e1':(ds.length:Int) = goal.length:=by omega
 by_cases e2:¬ ns.length = goal.length
 ·have e2':¬ (ns.length:Int) = goal.length:=by omega
  repeat (any_goals (first
  | (with_reducible first|refine pureM_in ?_|refine zC ?_|refine yC ?_|refine yL ?_)
  | ((with_reducible refine oG fun Kv hK=>?_); simp [go_sem,hk.cells,e1',e2']; refine hK _ _ ?_; clear hK Kv)))
  exact no (by simp [shapedM,e2]) hk
 have e2:ns.length = goal.length:=by omega
 have e2':(ns.length:Int) = goal.length:=by omega
 repeat (any_goals (first
 | (with_reducible first|refine pureM_in ?_|refine zC ?_|refine yC ?_|refine yM ?_)
 | ((with_reducible refine oG fun Kv hK=>?_); simp [go_sem,hk.cells,e1',e2']; refine hK _ _ ?_; clear hK Kv)))
 refine ⟨ShJ s goal ds ns w _ rb,grMu goal.length,⟨hk,_,0,rfl,by omega,fun j c d n hj=>by omega⟩,?_⟩
 clear hk
 rintro _ _ W1 ⟨hk,u0,i,rfl,hi,hall⟩
 by_cases hin:i = goal.length
 ·subst hin
  have hall':∀ (j:Nat) (c:Cls) (d:List Int) (n:List (List Int)),goal[j]? = some c → ds[j]? = some d → ns[j]? = some n → shapeOf s c d n = true:=fun j c d n h1 h2 h3=>hall j c d n (gS h1).1 h1 h2 h3
  repeat (any_goals (first
  | (with_reducible refine yM ?_)
  | ((with_reducible refine oG fun Kv hK=>?_); simp [go_sem]; refine hK _ _ ?_; clear hK Kv)))
  refine claims_ok (hg'.next (atOf_stay cls_vstay) hk.below) (fun cb W2 hb2 hcb hlt hcell=>?_)
  have hk:=hk.next hb2
  refine range_claims (w:=w) hg' hk.below hlt hcell
   (fun pre W=>KnM w (cellsOf (cellsOf [] b1 0 (stpC s (.slice ad s.bases.length c))) b2 0 [.slice nad ns.length nc]) rb 1 W ∧ ∀ x ∈ pre,∀ n l,ns[x.i]? = some n → n[x.k]? = some l → exponentsM s l x.c.vars = true)
   (fun pre W=>Bw w W ∧ W.cell? ⟨rb,0,none⟩ = some (.bool false) ∧ shapedM s goal ds ns = false)
   PcM
   (fun pre W W' h hf=>⟨own_knm h.1 hk.below.size hf,h.2⟩)
   (fun pre W W' h hf=>⟨own_below h.1 hk.below.size hf,own_cell h.2.1 hf,h.2.2⟩)
   (fun x l W W' h hf=>by obtain ⟨p,b,e,h⟩:=h; exact ⟨p,b,e,own_cells h hf⟩)
   ⟨hk,fun x hx=>by cases hx⟩ ?_ ?_ ?_ ?_
  ·rintro pre x W ⟨hk,hp⟩
   obtain ⟨xad,xc,hxv⟩:=x.hv.eqs.isSlice
   dsimp only
   rw [enc0,enc1,hxv]
   refine local_plc _ _ (.start W) (fun p W1 hk1 hb1 hgp=>?_)
   refine local_clm _ _ _ _ hk1 (fun b W2 hk2 hb2 hgb=>?_)
   have hb:=hk2.below
   exact ⟨keeps_below hb,hb.mono hk.below.size,⟨hk.next hb,hp⟩,p,b,rfl,by rw [hxv]; exact hk2.cells⟩
  ·rintro pre x l u W ⟨hk,hp⟩ ⟨p,b,rfl,hm⟩ hlen
   obtain ⟨xad,xc,hxv⟩:=x.hv.eqs.isSlice
   rw [hxv] at hm
   have hi:=(gS x.hi).1
   have hki:=(gS x.hk).1
   have en:ns[x.i]? = some ns[x.i]:=gE (by omega)
   have ed:ds[x.i]? = some ds[x.i]:=gE (by omega)
   have hsh:=hall' _ _ _ _ x.hi ed en
   simp only [shapeOf,Bool.and_eq_true,decide_eq_true_eq] at hsh
   obtain ⟨bn,on,rfl,hltn,csn,_,hcelln,vn,rfl,hrown⟩:=hn.at (i:=x.i) (by omega)
   have cn:=hcelln 0 _ rfl
   simp only [Nat.add_zero,Nat.mul_one] at cn
   have en':∃ n,ns[x.i] = n:=⟨_,rfl⟩
   obtain ⟨n,en'⟩:=en'
   rw [en'] at hrown en hsh
   have hkn:x.k < n.length:=by omega
   obtain ⟨had,hc',rfl⟩:=hrown.isSlice
   have el:n[x.k]? = some n[x.k]:=gE hkn
   obtain ⟨bl,ol,rfl,hltl,csl,_,hcelll,vl,rfl,hrowl⟩:=hrown.at (i:=x.k) hkn
   have cl:=hcelll 0 _ rfl
   simp only [Nat.add_zero,Nat.mul_one] at cl
   have hi1:(x.i:Int) < ns.length:=by omega
   have hi2:(x.k:Int) < n.length:=by omega
   generalize n[x.k] = l at *
   dsimp only
   have hk9:=hk.drew
   have hb9:Below W.heap.size W { W with drawn:=W.drawn + 1 }:=.drawn
   have hm:=cellsAre_keep hm (fun a ha=>hb9.cell ha)
   refine ⟨Nx { W with drawn:=W.drawn + 1 },Below.refl _ _,rfl,?_⟩
   generalize ({ W with drawn:=W.drawn + 1 }:World) = W9 at hk9 hb9 hm ⊢
   repeat (any_goals ((with_reducible refine idOH ?_); (with_reducible refine oH_of ⟨_,rfl⟩ (fun W0 hW0=>by (refine oG (fun Kv hK=>?_)); simp [go_sem,(hk9.next hW0).cells,cellsAre_keep hm (fun a ha=>hW0.cell ha),((hk9.next hW0).below.cell hltn).trans cn,((hk9.next hW0).below.cell hltl).trans cl,hi1,hi2]; (first | exact hK _ _ ⟨rfl,rfl⟩ | exact ⟨by omega,hK _ _ ⟨rfl,rfl⟩⟩)) ?_)))
   refine ⟨Nx,fun W3 h3=>?_⟩
   have hk3:=hk9.next h3
   refine exponents_ok s x.c.vars (hs'.next hk3.below) (hrowl.next hk3.below) (fun W4 hb4=>?_)
   have hk4:=hk3.next hb4
   have hb:=(hb9.on h3).on hb4
   cases hcl:exponentsM s l x.c.vars with
   | false=>
    repeat (any_goals (first
    | (with_reducible refine yL ?_)
    | ((with_reducible refine oG fun Kv hK=>?_); simp [go_sem]; refine hK _ _ ?_; clear hK Kv)))
    refine store_bool hk4 fun W'' hk5 hgr hc=>?_
    refine ⟨(keeps_below hb).trans (keeps_mine hgr hk4.mine),hk5.below,hc,?_⟩
    rw [Bool.eq_false_iff]
    intro hsm
    unfold shapedM at hsm
    simp only [Bool.and_eq_true] at hsm
    have:=shapedC_at (shapedL_at hsm.2 x.hi ed en).2 x.hk el
    rw [hcl] at this
    cases this
   | true=>
    repeat (any_goals (first
    | (with_reducible refine yM ?_)
    | ((with_reducible refine oG fun Kv hK=>?_); simp [go_sem]; refine hK _ _ ?_; clear hK Kv)))
    refine ⟨keeps_below hb,hb.mono hk.below.size,hk4,fun y hy=>?_⟩
    rcases List.mem_append.1 hy with hy | hy
    ·exact hp y hy
    ·rw [List.mem_singleton.1 hy]
     intro n' l' h1 h2
     rw [en] at h1
     cases h1
     rw [el] at h2
     cases h2
     exact hcl
  ·rintro D xs W hD hxs ⟨hk2,hp⟩ hh
   have hgD:rb < D:=Nat.lt_of_lt_of_le (mine_lt hk.mine) hD
   refine store_bool hk2 fun W'' hk3 hgr hc=>?_
   have hh2:W''.heap[D]? = some (.deferred (some [])):=by
    rw [hgr.block D (Array.getElem?_eq_some_iff.1 hh).1 (fun e=>by cases e; omega)]; exact hh
   have hf:=put_fr (B:=W2.heap.size) (.deferred none) hD hh2 rfl
   refine ⟨hh2,ret_bool (own_cell hc hf) ?_⟩
   have k:=k _ (own_below hk3.below hk.below.size hf)
   have e:shapedM s goal ds ns = true:=by
    unfold shapedM
    rw [decide_eq_true e1,decide_eq_true e2,shapedL_of e1 e2 (fun i c d n h1 h2 h3=>⟨hall' i c d n h1 h2 h3,fun k' x l h4 h5=>?_⟩)]
    ·rfl
    ·have hm:=places_mem h1 h4
     rw [← hxs,List.mem_map] at hm
     obtain ⟨y,hy,hye⟩:=hm
     simp only [Itm.at,Prod.mk.injEq] at hye
     obtain ⟨rfl,rfl,rfl⟩:=hye
     exact hp y hy n l h3 h5
   rwa [e] at k
  ·rintro D pre W hD hpre ⟨hk3,hc,hcl⟩ hh
   have hf:=put_fr (B:=W2.heap.size) (.deferred none) hD hh rfl
   refine ⟨hh,ret_bool (own_cell hc hf) ?_⟩
   have k:=k _ (own_below hk3 hk.below.size hf)
   rwa [hcl] at k
 have eg:goal[i]? = some goal[i]:=gE (by omega)
 have ed:ds[i]? = some ds[i]:=gE (by omega)
 have en:ns[i]? = some ns[i]:=gE (by omega)
 obtain ⟨b1',o1,rfl,hlt1,cs1,_,hcell1,v1,rfl,hI1,hrow1⟩:=hg'.at (i:=i) (by omega)
 obtain ⟨bd,od,rfl,hltd,csd,_,hcelld,vd,rfl,hrowd⟩:=hd.at (i:=i) (by omega)
 obtain ⟨bn,on,rfl,hltn,csn,_,hcelln,vn,rfl,hrown⟩:=hn.at (i:=i) (by omega)
 have c01:=hcell1 0 _ rfl
 have c11:=hcell1 1 _ rfl
 have cd:=hcelld 0 _ rfl
 have cn:=hcelln 0 _ rfl
 simp only [Nat.add_zero,Nat.mul_one] at c01 cd cn
 generalize goal[i] = cl at *
 generalize ds[i] = d at *
 generalize ns[i] = nn at *
 have bad:shapeOf s cl d nn = false → shapedM s goal ds ns = false:=by
  intro h
  rw [Bool.eq_false_iff]
  intro hsm
  unfold shapedM at hsm
  simp only [Bool.and_eq_true] at hsm
  have:=(shapedL_at hsm.2 eg ed en).1
  rw [h] at this
  cases this
 obtain ⟨ad1,cp1,rfl⟩:=hrow1.isSlice
 obtain ⟨ad2,cp2,rfl⟩:=hrown.isSlice
 have hln1:=hrow1.len
 have hln2:=hrown.len
 have hll1:(i:Int) < goal.length:=by omega
 have hll2:(i:Int) < ds.length:=by omega
 have hll3:(i:Int) < ns.length:=by omega
 iterate 4 (any_goals (first
 | (with_reducible refine yL ?_)
 | ((with_reducible refine oG fun Kv hK=>?_); simp [go_sem,(hk.below.cell hlt1).trans c01,(hk.below.cell hlt1).trans c11,hll1]; refine hK _ _ ?_; clear hK Kv)))
 refine local_clsM _ _ _ _ hk (fun b4 W4 hk4 hb4 hg4=>?_)
 have hk:=(hk.next hb4).drew
 have hk4:=hk4.drew
 refine ⟨Nx { W4 with drawn:=W4.drawn + 1 },Below.refl _ _,rfl,?_⟩
 generalize ({ W4 with drawn:=W4.drawn + 1 }:World) = W5 at hk hk4 ⊢
 repeat (any_goals (first
 | (with_reducible refine pX ?_)
 | ((with_reducible refine idOH ?_); (with_reducible refine oH_of ⟨_,rfl⟩ (fun W0 hW0=>by (refine oG (fun Kv hK=>?_)); simp [go_sem,(hk4.next hW0).cells,((hk4.next hW0).below.cell hltd).trans cd,hll2]; (first | exact hK _ _ ⟨rfl,rfl⟩ | exact ⟨by omega,hK _ _ ⟨rfl,rfl⟩⟩)) ?_))))
 refine ⟨Nx,?_⟩
 cases hex:exponentsM s d cl.claims.length with
 | false=>
  apply monoE (x:=.bool false)
  ·intro w1 h1
   exact exponents_ok s _ (hs'.next (hk.next h1).below) (hrowd.next (hk.next h1).below) (fun w2 h2=>by rw [hex]; exact ⟨h1.on h2,h2,rfl⟩)
  repeat (apply monoE; focus (intro w9 h9; (repeat (intro v9 e9; try (obtain rfl:=e9))); (repeat (any_goals (first
   | (with_reducible refine zD ?_)
   | ((with_reducible refine oG fun Kv hK=>?_); simp [go_sem]; refine hK _ _ ?_; clear hK Kv)))); exact ⟨h9,Below.refl _ _,rfl⟩))
  (intro w9 h9; repeat (intro v9 e9; try (obtain rfl:=e9)))
  repeat (any_goals (with_reducible first|refine zD ?_|refine yB ?_|refine yL ?_))
  exact no (bad (by simp [shapeOf,hex])) (hk.next h9)
 | true=>
  apply monoE (x:=.bool true)
  ·intro w1 h1
   exact exponents_ok s _ (hs'.next (hk.next h1).below) (hrowd.next (hk.next h1).below) (fun w2 h2=>by rw [hex]; exact ⟨h1.on h2,h2,rfl⟩)
  repeat (apply monoE; focus (intro w9 h9; (repeat (intro v9 e9; try (obtain rfl:=e9))); (repeat (any_goals (first
   | (with_reducible first|refine pureM_in ?_|refine zC ?_)
   | ((with_reducible refine oG fun Kv hK=>?_); simp [go_sem,(hk4.next h9).cells,((hk4.next h9).below.cell hltn).trans cn,hll3]; refine hK _ _ ?_; clear hK Kv)))); exact ⟨h9,Below.refl _ _,rfl⟩))
  by_cases e5:¬ nn.length = cl.claims.length
  ·have e5':¬ (nn.length:Int) = cl.claims.length:=by omega
   (intro w9 h9; repeat (intro v9 e9; try (obtain rfl:=e9)))
   repeat (any_goals (first
   | (with_reducible first|refine zC ?_|refine yC ?_|refine yL ?_)
   | ((with_reducible refine oG fun Kv hK=>?_); simp [go_sem,e5']; refine hK _ _ ?_; clear hK Kv)))
   exact no (bad (by simp [shapeOf,e5])) (hk.next h9)
  ·have e5:nn.length = cl.claims.length:=by omega
   have e5':(nn.length:Int) = cl.claims.length:=by omega
   (intro w9 h9; repeat (intro v9 e9; try (obtain rfl:=e9)))
   repeat (any_goals (first
   | (with_reducible first|refine zC ?_|refine yC ?_|refine yM ?_)
   | ((with_reducible refine oG fun Kv hK=>?_); simp [go_sem,e5']; (try simp (disch:=omega) only [wrapI64,wrapU8,wrapU32,wrapU64]); refine hK _ _ ?_; clear hK Kv)))
   refine ⟨⟨hk.next h9,_,i + 1,rfl,by omega,fun j c' d' n' hj h1 h2 h3=>?_⟩,by simp only [grMu_eq]; omega⟩
   by_cases hji:j < i
   ·exact hall j c' d' n' hji h1 h2 h3
   ·obtain rfl:j = i:=by omega
    rw [eg] at h1
    rw [ed] at h2
    rw [en] at h3
    cases h1; cases h2; cases h3
    simp [shapeOf,hex,e5]
end
end Go.Proofs
namespace Go.Proofs
open Go Go.Sh Go.RowKit FdSpec TkSpec CodeSpec PrSpec
section
variable {K:VK} {w w' w0 W W':World} {L:List (Addr × Value)} {g n B:Nat} {row:Option Nat}
def CmJ (l:List Int) (w0:World) (vs:List Value) (W:World):Prop:=Bw w0 W ∧ ∃ (v:Value) (i:Nat),vs = [v,.int .i64 (i:Int)] ∧ i ≤ l.length ∧ OwnI W w0.heap.size v (l.take i)
theorem commitments_ok (s:Stp) (c:Clm) (dare:Int) (an:List Int) {sv cv av:Value} (hs:SetR w s sv) (hc:ClmR w c cv) (hd:I64 dare) (ha:Ints w av an) (hlen:c.eqs.length < 1000) (hfit:∀ e ∈ c.eqs,e.terms.length < 1000 ∧ ∀ t ∈ e.terms,0 ≤ t.var ∧ t.var < an.length)
  (k:∀ v w',Bw w w' → OwnI w' w.heap.size v (commitsM s c dare an) → K v w'):callM Tryz.prog 141 #[stpV s sv,clmV c cv,.int .i64 dare,av] K w:=by
 apply sh_141_ok
 unfold sh_141
 have hs':=hs
 obtain ⟨ad,cc,rfl⟩:=hs.ints.isSlice
 obtain ⟨ead,ec,rfl⟩:=hc.eqs.isSlice
 have hle:=hc.eqs.len
 refine box_kn (cs:=stpC s (.slice ad s.bases.length cc)) rfl (.start w) fun b1 W hk hb1 hbb=>?_
 refine box_kn (cs:=clmC c (.slice ead c.eqs.length ec)) rfl hk fun b2 W hk hb2 hbb2=>?_
 clear hb1 hb2
 have hcl:(commitsM s c dare an).length = c.eqs.length:=by simp [commitsM]
 repeat (any_goals ((with_reducible refine oG fun Kv hK=>?_); simp [go_sem,hk.cells]; refine hK _ _ ?_; clear hK Kv))
 refine ⟨CmJ (commitsM s c dare an) W,grMu c.eqs.length,⟨Below.refl _ _,_,0,rfl,by omega,own_none⟩,?_⟩
 rintro _ _ w1 ⟨h1,v,i,rfl,hi,ho⟩
 rw [hcl] at hi
 have hk1:=hk.next h1
 by_cases hin:i = c.eqs.length
 ·repeat (any_goals (first
  | (with_reducible refine yO ?_)
  | ((with_reducible refine oG fun Kv hK=>?_); simp [go_sem]; refine hK _ _ ?_; clear hK Kv)))
  rw [List.take_of_length_le (by omega)] at ho
  exact k _ _ hk1.below (owns_up ho (fun j hj=>Nat.le_trans hk.below.size (owns_own ho hj).2.1))
 have ee:c.eqs[i]? = some c.eqs[i]:=gE (by omega)
 have hfe:=hfit _ (List.getElem_mem (by omega:i < c.eqs.length))
 have hst:(commitsM s c dare an)[i]? = some (overG s.g (leftM s c.eqs[i] an) (powerG s.g c.eqs[i].target dare)):=by
  unfold commitsM
  rw [List.getElem?_map,ee]
  rfl
 obtain ⟨bC,oC,rfl,hltC,cvC,c0C,c1C,hrowC,hIC⟩:=hc.eqs.at (i:=i) (by omega)
 generalize c.eqs[i] = e at *
 obtain ⟨cadC,ccC,rfl⟩:=hrowC.isSlice
 have hllC:(i:Int) < c.eqs.length:=by omega
 iterate 4 (any_goals (first
 | (with_reducible refine yL ?_)
 | ((with_reducible refine oG fun Kv hK=>?_); simp [go_sem,(hk1.below.cell hltC).trans c0C,(hk1.below.cell hltC).trans c1C,hllC]; refine hK _ _ ?_; clear hK Kv)))
 refine local_eqn e _ _ _ hk1 (fun b3 W3 hk3 hb3 hg3=>?_)
 have ho:=(ho.keep hb3).keep .drawn
 have h3:=(h1.on hb3).on (.drawn (B:=W3.heap.size))
 have hk:=hk3.drew
 refine ⟨Nx { W3 with drawn:=W3.drawn + 1 },Below.refl _ _,rfl,?_⟩
 generalize ({ W3 with drawn:=W3.drawn + 1 }:World) = W4 at hk ho h3 ⊢
 repeat (any_goals (first
 | (with_reducible refine pX ?_)
 | ((with_reducible refine idOH ?_); (with_reducible refine oH_of ⟨_,rfl⟩ (fun W0 hW0=>by (refine oG (fun Kv hK=>?_)); simp [go_sem,(hk.next hW0).cells]; (first | exact hK _ _ ⟨rfl,rfl⟩ | exact ⟨by omega,hK _ _ ⟨rfl,rfl⟩⟩)) ?_))))
 refine ⟨Nx,?_⟩
 apply monoE
 ·intro w5 h5
  exact left_ok s e an (hs'.next (hk.next h5).below) (hrowC.next trm_stay (hk.next h5).below) hIC (ha.next (hk.next h5).below) hfe.1 (fun t ht=>by have:=hfe.2 t ht; omega) (fun w6 h6=>⟨h5.on h6,h6,rfl⟩)
 apply monoE
 ·intro w5 h5
  exact Power_ok _ _ _ (fun w6 h6=>⟨h5.on h6,h6,rfl⟩)
 apply monoE
 ·rintro w5 h5 _ rfl _ rfl
  exact Over_ok _ _ _ (fun w6 h6=>⟨h5.on h6,h6,rfl⟩)
 refine monoR (fun v w'=>Ints w' v [overG s.g (leftM s e an) (powerG s.g e.target dare)]) (fun v w w1 hS h=>h.next hS) ?_ ?_
 ·rintro w5 h5 _ rfl
  exact mk1 _ (overG_I64 _ _ _) (fun v w6 h6 hi=>⟨h5.on h6,h6,hi⟩)
 rintro w9 h9 _ rfl _ rfl _ rfl v9 hi9
 refine append1 (ho.keep h9) (Nat.le_trans h3.size h9.size) hi9 (by simp only [List.length_take]; omega) (fun v10 w10 ho10 h10=>?_)
 repeat (any_goals ((with_reducible refine oG fun Kv hK=>?_); simp [go_sem]; (try simp (disch:=omega) only [wrapI64,wrapU8,wrapU32,wrapU64]); refine hK _ _ ?_; clear hK Kv))
 refine ⟨⟨(h3.on h9).trans h10,_,i + 1,rfl,by omega,?_⟩,by simp only [grMu_eq]; omega⟩
 rw [← take_snoc' hst]
 exact ho10
end
end Go.Proofs
