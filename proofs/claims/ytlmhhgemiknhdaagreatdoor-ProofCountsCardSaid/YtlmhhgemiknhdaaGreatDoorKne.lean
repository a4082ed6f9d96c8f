/- Parts of the proof of the seat's statements (LawKit, OpenKit, OpenKit2, RK, PrEnc, GrH, RK2, RK7, GrI, GrJ, ShGr2, GrK, PrDec, GrM, HLs, GrN, GrO, HL10, GrQ, GrR, PrShape, PrPlace, CtA, CtB, CtC, CtD, CtE, CtF, CtG, CtH, PrFits, CtI, CtJ, CtK, CtL, CtM, LinLaw, LinLaw2, LinLaw3, LinLaw4, LinLaw5, PrOpen, LinLaw6, LinLaw7, LinLaw8, LinLaw9): lemmas about the given translation and plain laws. No condition of their own. -/
import Derived.Test.YtlmhhgemiknhdaaGreatDoorKnd
import Derived.ProofKit
import Derived.LaidMore
import Derived.OpenShut
import Derived.Carry
import Derived.SizedLaws
import Derived.Stop.Joined
import Derived.Deep.Slices
import Derived.Deep.Fields
import Derived.LaidSub
import Derived.Test.YtlmhhgemiknhdaaGreatDoorRows
import Derived.Test.YtlmhhgemiknhdaaGreatDoorCards
import Derived.Test.YtlmhhgemiknhdaaGreatDoorTie
import Derived.SevenTiedAt
import Derived.Test.YtlmhhgemiknhdaaGreatDoorProg
set_option linter.all false
set_option maxRecDepth 100000
namespace Go.Sh
open Go Go.ChangeShapes Go.WideShapes Go.ChangeAt Go.RowKit
section
variable {H:Type} {enc:TypeId × Value → H} {P:Program}
theorem trodAll_below (hl:laidOutB P = true) {W W':World} (hb:Below W.heap.size W W') :
  ∀ (ts:List TypeId) (vs:List Value) (ds:List (DataW H)) (ps:List MemPlace),(ts.all fun t=>P.readableRec t && decide (t < P.types.size)) = true →
  DataW.TrodAll enc P W 0 (fun _=>true) true ts vs ds ps → (∀ x ∈ ps,x.block < W.heap.size) → DataW.TrodAll enc P W' 0 (fun b=>decide (b < W.heap.size)) true ts vs ds ps
 | [],[],[],_,_,h,_=>h
 | t :: ts,v :: vs,d :: ds,ps,ht,h,hlt=>by
  obtain ⟨p,q,h1,h2,rfl⟩:=h
  simp only [List.all_cons,Bool.and_eq_true,decide_eq_true_eq] at ht
  exact ⟨p,q,Below.trod hl ht.1.1 ht.1.2 h1 hb (fun x hx=>hlt x (by simp [hx])),trodAll_below hl hb ts vs ds q ht.2 h2 (fun x hx=>hlt x (by simp [hx])),rfl⟩
 | [],_ :: _,_,_,_,h,_=>h.elim
 | [],[],_ :: _,_,_,h,_=>h.elim
 | _ :: _,[],_,_,_,h,_=>h.elim
 | _ :: _,_ :: _,[],_,_,h,_=>h.elim
theorem trodAll_length {W:World} {b:Nat} {sp:Nat → Bool} {hd:Bool}:∀ (ts:List TypeId) (vs:List Value) (ds:List (DataW H)) (ps:List MemPlace),DataW.TrodAll enc P W b sp hd ts vs ds ps → ds.length = ts.length ∧ vs.length = ts.length
 | [],[],[],_,_=>⟨rfl,rfl⟩
 | t :: ts,v :: vs,d :: ds,ps,h=>by
  obtain ⟨p,q,h1,h2,rfl⟩:=h
  have:=trodAll_length ts vs ds q h2
  simp [this]
 | [],_ :: _,_,_,h=>h.elim
 | [],[],_ :: _,_,h=>h.elim
 | _ :: _,[],_,_,h=>h.elim
 | _ :: _,_ :: _,[],_,h=>h.elim
theorem trodL_cons {W:World} {b:Nat} {sp:Nat → Bool} {hd:Bool} {t:TypeId} {ts:List TypeId} {vs:List Value} {ds:List (DataW H)} {ps:List MemPlace} (h:DataW.TrodAll enc P W b sp hd (t :: ts) vs ds ps) :
  ∃ v d vs' ds' p q,vs = v :: vs' ∧ ds = d :: ds' ∧ DataW.Trod enc P W b sp hd t v d p ∧ DataW.TrodAll enc P W b sp hd ts vs' ds' q ∧ ps = p ++ q:=by
 match vs,ds,h with
 | v :: vs,d :: ds,h=>
  obtain ⟨p,q,h1,h2,rfl⟩:=h
  exact ⟨v,d,vs,ds,p,q,rfl,rfl,h1,h2,rfl⟩
 | [],_,h=>exact h.elim
 | _ :: _,[],h=>exact h.elim
theorem trodL0 {W:World} {b:Nat} {sp:Nat → Bool} {hd:Bool} {vs:List Value} {ds:List (DataW H)} {ps:List MemPlace} (h:DataW.TrodAll enc P W b sp hd [] vs ds ps):vs = [] ∧ ds = [] ∧ ps = []:=by
 match vs,ds,h with
 | [],[],h=>exact ⟨rfl,rfl,h⟩
theorem law_post {fn:Func} {s:ChangeSpec} {tb:TypeId} {apart:Bool} {W W':World} {args:Array Value} {ds gs:List (DataW H)} {before:List MemPlace} (hl:laidOutB P = true)
  (hrt:fn.resultTypes = #[tb]) (hub:P.underlying tb = some .bool) (hpar:(fn.params.toList.all fun t=>P.readableRec t && decide (t < P.types.size)) = true) (hvars:s.vars = [])
  (hspec:∀ ds:List (DataW H),ds.length = fn.params.toList.length → s.fn H ds = { results:=[.lit (.bool true)],args:=ds })
  (hW:DataW.Whole enc P fn.params.toList s.vars apart W args.toList ds gs before) (hb:Below W.heap.size W W'):s.post enc P fn apart true false false W args (.bool true) W':=by
 have hW0:=hW
 have hlt:=hW.lt
 obtain ⟨p,q,hA,hV,rfl,_,_⟩:=hW
 rw [hvars] at hV
 obtain ⟨rfl,rfl⟩:=trodVars_none hV
 have hlen:=(trodAll_length _ _ _ _ hA).1
 have hs:=hspec ds hlen
 rw [List.append_nil] at hlt hW0
 refine ⟨ds,[],p,[],p,[],hW0,?_,?_,?_,hb.frame _,fun h=>by cases h⟩
 ·rw [List.append_nil,hs,hrt]
  exact trodAll_mk1 (shut_bool hub true)
 ·rw [List.append_nil,hs]
  exact trodAll_below hl hb _ _ _ _ hpar hA hlt
 ·rw [hvars,List.append_nil,hs]
  rfl
theorem law_lifted_laid {C:Checked} {os:Os} {f:FuncId} {fn:Func} {s:ChangeSpec} {tb:TypeId} {L:List (String × DataW Unit)} (own:ownKnob C.prog.godebug = none) (started:os.Started) (noInit:C.prog.inits.idxOf? f = none) (hfn:C.prog.funcs[f]? = some fn)
  (hl:laidOutB C.prog = true) (hrt:fn.resultTypes = #[tb]) (hub:C.prog.underlying tb = some .bool) (hpar:(fn.params.toList.all fun t=>C.prog.readableRec t && decide (t < C.prog.types.size)) = true) (hvars:s.vars = [])
  (hspec:∀ ds:List (DataW H),ds.length = fn.params.toList.length → s.fn H ds = { results:=[.lit (.bool true)],args:=ds })
  (witness:∃ (w:World) (tape:Tape) (i:Input),w.os = os ∧ (w.forCall tape i).Shaped C.prog ∧ i.vars = [] ∧ Input.okWide C.prog (w.forCall tape i) .any w.heap.size f i ∧
   ((s.pre enc C.prog fn [] false (w.forCall tape i).memory i.args ∧ laidMetH C.prog L (w.forCall tape i).memory) ∧ sizedMet enc C.prog fn (OpenSpec.ofChange s) false (w.forCall tape i).memory i.args) ∧ ({}:Assume).holds C.prog (lone (Frame.enter C.prog f i.args .normal) [] (w.forCall tape i)))
  (contract:∀ (W:World) (base:Nat) (args:List Value) (ds:List (DataW H)) (p:List MemPlace),(∀ (j:Nat) t v,fn.params.toList[j]? = some t → args[j]? = some v → Value.okWide C.prog W .any base t v) →
   DataW.TrodAll enc C.prog W 0 (fun _=>true) true fn.params.toList args ds p → (DataW.weightsEach C.prog fn.params.toList ds).all (· ≤ reachBytes) = true → (∀ x ∈ p,x.block < W.heap.size) →
   laidMetH C.prog L W →
   callM C.prog f args.toArray (fun v W'=>v = .bool true ∧ Below W.heap.size W W') W) :
  ReturnsInHanded {} C os f .any (fun w args=>(s.pre enc C.prog fn [] false w args ∧ laidMetH C.prog L w) ∧ sizedMet enc C.prog fn (OpenSpec.ofChange s) false w args)
   (s.post enc C.prog fn false true false false):=by
 refine returnsInHanded_of_change_and (X:=fun w _=>laidMetH C.prog L w) (fun _ _ _ hh h=>h.of_heap hh) own started noInit hfn witness ?_
 intro W base args ds gs before hval hW _ hsz hX _
 have hW0:=hW
 have hlt:=hW.lt
 obtain ⟨p,q,hA,hV,rfl,_,_⟩:=hW
 rw [hvars] at hV
 obtain ⟨rfl,rfl⟩:=trodVars_none hV
 have hsz':(DataW.weightsEach C.prog fn.params.toList ds).all (· ≤ reachBytes) = true:=by
  simpa [hvars,ChangeSpec.plain,DataSpec.varTypes] using hsz
 have hc:=contract W base args.toList ds p (fun j t v h1 h2=>hval j t v (by simpa using h1) (by simpa using h2)) hA hsz' (fun x hx=>hlt x (by simp [hx])) hX
 refine hc.mono fun e W' h=>?_
 obtain ⟨v,rfl,rfl,hb⟩:=h
 exact ⟨_,rfl,law_post hl hrt hub hpar hvars hspec hW0 hb⟩
end
end Go.Sh
namespace Go.Sh
open Go Go.ChangeShapes Go.WideShapes Go.ChangeAt Go.RowKit Go.Deep
section
variable {H:Type} {enc:TypeId × Value → H} {P:Program} {w:World} {sp:Nat → Bool} {hd:Bool}
theorem addr_add' (b o k:Nat):(⟨b,o,none⟩:Addr).add k = ⟨b,o + k,none⟩:=by
 unfold Addr.add
 split
 ·rename_i h; rw [h]; rfl
 ·rfl
theorem cell_lt {a:Addr} {v:Value} (h:w.cell? a = some v):a.block < w.heap.size ∧ a.spot = none:=by
 unfold World.cell? at h
 split at h
 ·rename_i c t f hh
  refine ⟨(Array.getElem?_eq_some_iff.1 hh).1,?_⟩
  split at h
  ·cases h
  ·rename_i hs
   cases hsp:a.spot with
   | none=>rfl
   | some x=>rw [hsp] at hs; exact absurd rfl hs
 ·cases h
theorem open_fields {e:TypeId} {fs:Array Field} {n:Nat} {cs:List Value} {D:DataW H × List MemPlace} (he:P.underlying e = some (.struct fs)) (hone:oneCellFields P fs = true) (hC:P.cellsOf e = fs.size)
  (h:DataW.trod enc P w 0 sp hd n e cs = some D) :
  cs.length = fs.size ∧ ∀ (j:Nat) (f:Field),fs[j]? = some f → ∃ (v:Value) (y:DataW H × List MemPlace) (m:Nat),cs[j]? = some v ∧ DataW.trod enc P w 0 sp hd m f.type [v] = some y:=by
 obtain ⟨xs,m,_,_,hcl,hxl,hf⟩:=DataW.trod_struct he h
 rw [hC] at hcl
 refine ⟨hcl,fun j f hj=>?_⟩
 obtain ⟨ho,hk⟩:=hone_of hone j f hj
 have hjl:j < fs.size:=(Array.getElem?_eq_some_iff.1 hj).1
 have h1:=hf j f hj
 rw [ho,hk,List.drop_eq_getElem_cons (by omega),List.getElem?_eq_getElem (by omega:j < xs.length)] at h1
 exact ⟨_,_,m,List.getElem?_eq_getElem (by omega),h1⟩
end
end Go.Sh
namespace Go.Sh
open Go Go.ChangeShapes Go.WideShapes Go.ChangeAt Go.RowKit Go.Deep
section
variable {H:Type} {enc:TypeId × Value → H} {P:Program} {w:World} {sp:Nat → Bool} {hd:Bool}
theorem rowOpen {α:Type} (mk:α → Value) (Q:α → Prop) {t e:TypeId} {v:Value} {n:Nat} {D:DataW H × List MemPlace} (ht:P.underlying t = some (.slice e)) (hC:P.cellsOf e = 1)
  (hrd:∀ (V:Value) (n:Nat) (D:DataW H × List MemPlace),DataW.trod enc P w 0 sp hd n e [V] = some D → ∃ x,V = mk x ∧ Q x) (h:DataW.trod enc P w 0 sp hd n t [v] = some D) :
  ∃ l:List α,(∃ ad c,v = .slice ad l.length c ∧ (l = [] ∨ ∃ b o,ad = some ⟨b,o,none⟩ ∧ b < w.heap.size ∧ ∀ (i:Nat) (h:i < l.length),w.cell? ⟨b,o + i,none⟩ = some (mk l[i]))) ∧ l.length ≤ maxLen ∧ ∀ x ∈ l,Q x:=by
 rcases open_slice1 ht hC h with ⟨hcs,_⟩ | ⟨a',len,cap,m,n',V,D',Pl,hcs,_,hl,hm,hmm,_,hi⟩
 ·simp only [List.cons.injEq,and_true] at hcs
  subst hcs
  exact ⟨[],⟨none,0,rfl,.inl rfl⟩,by simp,by simp⟩
 ·simp only [List.cons.injEq,and_true] at hcs
  subst hcs
  have hml:len ≤ m:=by rw [hmm]; split <;> omega
  have key:∀ i:Fin len,∃ x,V i = mk x ∧ Q x:=fun i=>hrd _ _ _ (hi i (by have:=i.2; omega)).2
  refine ⟨List.ofFn (fun i=>(key i).choose),⟨some a',cap,by rw [List.length_ofFn],?_⟩,by rw [List.length_ofFn]; omega,?_⟩
  ·by_cases h0:len = 0
   ·left; subst h0; rfl
   ·right
    have h00:=(hi 0 (by omega)).1
    have e0:a'.add 0 = a':=by simp [Addr.add]
    rw [e0] at h00
    obtain ⟨hb,hs⟩:=cell_lt h00
    obtain ⟨b,o,s⟩:=a'
    simp only at hs hb
    subst hs
    refine ⟨b,o,rfl,hb,fun i hil=>?_⟩
    rw [List.length_ofFn] at hil
    have h1:=(hi i (by omega)).1
    rw [addr_add'] at h1
    rw [h1,List.getElem_ofFn]
    have:=(key ⟨i,hil⟩).choose_spec.1
    exact congrArg some this
  ·intro x hx
   rw [List.mem_ofFn] at hx
   obtain ⟨i,rfl⟩:=hx
   exact (key i).choose_spec.2
theorem trodIface {t:TypeId} {ms:Array (String × TypeId)} {cs:List Value} {n:Nat} {nm:String} {d:DataW H} {ps:List MemPlace} (ht:P.underlying t = some (.interface ms)) (h:DataW.trod enc P w 0 sp false n t cs = some (.iface nm d,ps)):∃ u v,cs = [.iface u v]:=by
 cases n with
 | zero=>simp [DataW.trod] at h
 | succ n=>
  unfold DataW.trod at h
  rw [ht] at h
  match cs,h with
  | [.iface u v],_=>exact ⟨u,v,rfl⟩
  | [.nilIface],h=>simp at h
  | [],h=>simp at h
  | [.int _ _],h=>simp at h
  | [.bool _],h=>simp at h
  | [.string _],h=>simp at h
  | [.pointer _],h=>simp at h
  | [.slice _ _ _],h=>simp at h
  | [.map _],h=>simp at h
  | [.float _ _],h=>simp at h
  | [.complex _ _ _],h=>simp at h
  | [.agg _],h=>simp at h
  | [.tuple _],h=>simp at h
  | [.func _ _ _],h=>simp at h
  | [.nilFunc],h=>simp at h
  | [.chan _],h=>simp at h
  | _ :: _ :: _,h=>simp at h
end
end Go.Sh
namespace Go.Proofs
open Go Go.Sh Go.RowKit Go.Lib CodeSpec TkSpec FdSpec PrSpec Go.ChangeShapes Go.WideShapes Go.ChangeAt Go.Deep
abbrev laidList:List (String × DataW Unit):=YtlmhhgemiknhdaaGreatDoor.Rows.proofSignsRow.laid
abbrev lname (i:Nat):String:=(laidList.map (·.1)).getD i default
theorem var_of_laid {W:World} {nm:String} {d:DataW Unit} (hf:(laidList.filter fun x=>x.1 == nm) = [(nm,d)]) (h:laidMetH Tryz.prog laidList W):laidMet Tryz.prog [(nm,d)] W:=by
 rw [MakeChecks.laidMetH_plain _ _ _ (by kernel_rfl)] at h
 have:=h.filter (fun x=>x.1 == nm)
 rwa [hf] at this
theorem tab_laid {W:World} (h:laidMetH Tryz.prog laidList W):TabIs Tryz.prog W tabName .u64 pow10Tab:=
 tabIs_of_head (rest:=[]) (t:=261) (e:=150) (n:=20) Cd.gTab (by kernel_rfl) Tryz.underlying261 Tryz.underlying150 (by kernel_rfl) (by kernel_rfl)
  (var_of_laid (d:=tabData .u64 pow10Tab) (by kernel_rfl) h)
theorem gDb:Tryz.prog.globalNamed (lname 1) = some 2:=by kernel_rfl
theorem db_laid {W:World} (h:laidMetH Tryz.prog laidList W):TabIs Tryz.prog W (lname 1) .u8 (Lib.deBruijn64tab.map (fun n:Nat=>(n:Int))):=
 tabIs_of_head (rest:=[]) (t:=244) (e:=5) (n:=64) gDb (by kernel_rfl) Tryz.underlying244 Tryz.underlying5 (by kernel_rfl) (by kernel_rfl)
  (var_of_laid (d:=tabData .u8 (Lib.deBruijn64tab.map (fun n:Nat=>(n:Int)))) (by kernel_rfl) h)
theorem db_of {W:World} (h:laidMetH Tryz.prog laidList W):DbT W:=by
 have ht:=db_laid h
 have hl:(Lib.deBruijn64tab.map (fun n:Nat=>(n:Int))).length = 64:=by decide +kernel
 have hc:∀ j,j < 64 → W.cell? ⟨2,j,none⟩ = some (.int .u8 (Lib.deBruijn64tab.getD j 0:Nat)):=fun j hj=>by
  rw [ht.cell gDb j (by omega)]
  have:(Lib.deBruijn64tab.map (fun n:Nat=>(n:Int))).getD j 0 = ((Lib.deBruijn64tab.getD j 0:Nat):Int):=by
   rw [List.getD_eq_getElem?_getD,List.getD_eq_getElem?_getD,List.getElem?_map]
   cases Lib.deBruijn64tab[j]? <;> rfl
  rw [this]
 refine ⟨?_,hc⟩
 have h0:=hc 0 (by omega)
 by_cases hlt:2 < W.heap.size
 ·exact hlt
 ·unfold World.cell? at h0
  rw [Array.getElem?_eq_none (by show W.heap.size ≤ 2; omega)] at h0
  simp at h0
theorem err_laid {W:World} {nm:String} {x:DataW Unit} {g:Nat} (hg:Tryz.prog.globalNamed nm = some g) (hty:(Tryz.prog.globals[g]?).map (·.type) = some 215) (hf:(laidList.filter fun x=>x.1 == nm) = [(nm,x)]) (hx:∃ nt d,x = .iface nt d) (h:laidMetH Tryz.prog laidList W) :
  ∃ te pe,W.cell? ⟨g,0,none⟩ = some (.iface te pe):=by
 obtain ⟨nt,d,rfl⟩:=hx
 obtain ⟨ps,⟨g0,t0,cs0,f0,p0,q0,hg0,ht0,hv0,hd0,_,_⟩,_,_⟩:=var_of_laid hf h
 obtain rfl:=Option.some.inj (hg.symm.trans hg0)
 obtain rfl:=Option.some.inj (hty.symm.trans ht0)
 obtain ⟨u,y,hcs⟩:=trodIface Tryz.underlying215 hd0
 have:=World.var?_cell hg hv0 0
 refine ⟨u,y,?_⟩
 rw [this]
 have e:cs0[0]? = cs0.toList[0]?:=by simp
 rw [e,hcs]; rfl
theorem heap8 {W:World} (h:laidMetH Tryz.prog laidList W):8 ≤ W.heap.size:=by
 obtain ⟨ps,⟨g0,t0,cs0,f0,p0,q0,hg0,ht0,hv0,hd0,_,_⟩,_,_⟩:=var_of_laid (nm:=lname 0) (d:=YtlmhhgemiknhdaaGreatDoor.Rows.laid_math_bits_deBruijn32tab) (by kernel_rfl) h
 have hg:Tryz.prog.globalNamed (lname 0) = some 7:=by kernel_rfl
 unfold World.var? at hv0
 rw [hg] at hv0
 simp only [Option.bind_some] at hv0
 split at hv0
 ·rename_i cs t f hh
  have:=(Array.getElem?_eq_some_iff.1 hh).1
  omega
 ·cases hv0
theorem laid_of {W:World} (h:laidMetH Tryz.prog laidList W):Cd.LaidE W:=
 ⟨⟨tab_laid h,heap8 h⟩,err_laid (nm:=lname 4) (x:=YtlmhhgemiknhdaaGreatDoor.Rows.laid_strconv_ErrSyntax) (by kernel_rfl) (by kernel_rfl) (by kernel_rfl) ⟨_,_,rfl⟩ h,err_laid (nm:=lname 3) (x:=YtlmhhgemiknhdaaGreatDoor.Rows.laid_strconv_ErrRange) (by kernel_rfl) (by kernel_rfl) (by kernel_rfl) ⟨_,_,rfl⟩ h⟩
theorem own:ownKnob Tryz.prog.godebug = none:=by kernel_rfl
theorem laidOut:laidOutB Tryz.prog = true:=by kernel_rfl
theorem door_met (os:Os) (args:Array Value):laidMetH Tryz.prog laidList ((World.doorLaid Tryz.prog 400 os).forCall (fun _ _=>0) ⟨#[],args,[]⟩).memory:=
 laidMetH_of_parts3 (fuel:=8) (laidMet_of_run' 8 (by kernel_rfl) (by kernel_rfl)) (by kernel_rfl) (by kernel_rfl)
theorem intR {n:Int} (h:(Lit.int .i64 n).wf = true):I64 n:=by
 simp only [Lit.wf,Bool.and_eq_true,decide_eq_true_eq] at h
 exact (InR_iff n).1 h
section
variable {H:Type} {enc:TypeId × Value → H} {w:World} {sp:Nat → Bool} {hd:Bool}
theorem ints_of_row {v:Value} {l:List Int} (h:∃ ad c,v = .slice ad l.length c ∧ (l = [] ∨ ∃ b o,ad = some ⟨b,o,none⟩ ∧ b < w.heap.size ∧ ∀ (i:Nat) (h:i < l.length),w.cell? ⟨b,o + i,none⟩ = some (Value.int .i64 l[i]))) (h0:∀ c,v = .slice none l.length c → l.length = 0 ∧ c = 0) (hl:l.length ≤ maxLen) (hr:∀ x ∈ l,I64 x):Ints w v l:=by
 obtain ⟨ad,c,rfl,h⟩:=h
 refine ⟨⟨ad,c,rfl,fun e=>?_,?_⟩,hr,hl⟩
 ·subst e
  exact h0 c rfl
 ·rcases h with h | ⟨b,o,rfl,hlt,hc⟩
  ·exact .inl h
  ·refine .inr ⟨b,o,rfl,hlt,fun k x hk=>?_⟩
   rw [flat_int] at hk
   obtain ⟨hk1,hk2⟩:=List.getElem?_eq_some_iff.1 hk
   have hk1:k < l.length:=by rw [List.length_map] at hk1; exact hk1
   rw [hc k hk1,← hk2,List.getElem_map]
theorem nil_len {t:TypeId} {n m:Nat} {c:Nat} {D:DataW H × List MemPlace} (ht:Tryz.prog.underlying t = some (.slice 3)) (h:DataW.trod enc Tryz.prog w 0 sp hd n t [.slice none m c] = some D):m = 0 ∧ c = 0:=by
 rcases open_slice1 ht (by kernel_rfl) h with ⟨hcs,_⟩ | ⟨a',len,cap,m,n',V,D',Pl,hcs,_⟩
 ·simp only [List.cons.injEq,and_true,Value.slice.injEq] at hcs
  exact hcs.2
 ·simp only [List.cons.injEq,and_true,Value.slice.injEq] at hcs
  exact absurd hcs.1 (by simp)
theorem open_ints {v:Value} {n:Nat} {D:DataW H × List MemPlace} (h:DataW.trod enc Tryz.prog w 0 sp hd n 24 [v] = some D):∃ l,Ints w v l:=by
 have h':=h
 obtain ⟨l,h1,h2,h3⟩:=rowOpen (Value.int .i64) I64 Tryz.underlying24 (by kernel_rfl) (fun V n D h=>by
  obtain ⟨k,e,_,hw⟩:=DataW.trod_int Tryz.underlying3 h
  simp only [List.cons.injEq,and_true] at e
  exact ⟨k,e,intR hw⟩) h
 exact ⟨l,ints_of_row h1 (fun c e=>by subst e; exact nil_len Tryz.underlying24 h') h2 h3⟩
theorem open_grp {cs:List Value} {n:Nat} {D:DataW H × List MemPlace} (h:DataW.trod enc Tryz.prog w 0 sp hd n 23 cs = some D):∃ g:Grp,cs = [.int .i64 g.P,.int .i64 g.Q,.int .i64 g.G] ∧ GrpR g:=by
 obtain ⟨hcl,hf⟩:=open_fields Tryz.underlying23 (by kernel_rfl) (by kernel_rfl) h
 obtain ⟨v0,y0,m0,c0,f0⟩:=hf 0 _ rfl
 obtain ⟨v1,y1,m1,c1,f1⟩:=hf 1 _ rfl
 obtain ⟨v2,y2,m2,c2,f2⟩:=hf 2 _ rfl
 obtain ⟨k0,e0,_,w0⟩:=DataW.trod_int Tryz.underlying3 f0
 obtain ⟨k1,e1,_,w1⟩:=DataW.trod_int Tryz.underlying3 f1
 obtain ⟨k2,e2,_,w2⟩:=DataW.trod_int Tryz.underlying3 f2
 simp only [List.cons.injEq,and_true] at e0 e1 e2
 have h6:cs.length = 3:=hcl
 refine ⟨⟨k0,k1,k2⟩,?_,⟨intR w0,intR w1,intR w2⟩⟩
 match cs,h6 with
 | [x0,x1,x2],_=>
  simp only [List.getElem?_cons_zero,List.getElem?_cons_succ,Option.some.injEq] at c0 c1 c2
  rw [c0,c1,c2,e0,e1,e2]
theorem cells_stp:Tryz.prog.cellsOf 26 = 5:=by kernel_rfl
theorem cells_grp:Tryz.prog.cellsOf 23 = 3:=by kernel_rfl
theorem cells_ints:Tryz.prog.cellsOf 24 = 1:=by kernel_rfl
theorem cells_int:Tryz.prog.cellsOf 3 = 1:=by kernel_rfl
theorem open_stp {b0:Nat} {v:Value} {d:DataW H} {ps:List MemPlace} (hT:DbT w) (hval:Value.okWide Tryz.prog w .any b0 26 v) (h:DataW.Trod enc Tryz.prog w 0 sp hd 26 v d ps):∃ s x,v = stpV s x ∧ SetR w s x:=by
 obtain ⟨cs,rfl,hs⟩:=okWide_struct Tryz.underlying26 hval
 obtain ⟨fuel,hf⟩:=h
 have hf:DataW.trod enc Tryz.prog w 0 sp hd fuel 26 cs.toList = some (d,ps):=hf
 obtain ⟨xs,m,_,_,hcl,hxl,hf⟩:=DataW.trod_struct Tryz.underlying26 hf
 rw [cells_stp] at hcl
 have hcs:cs = cs.toList.toArray:=by simp
 rw [hcs]
 clear hs hcs
 generalize cs.toList = l at *
 have hxl:xs.length = 3:=hxl
 match l,hcl,xs,hxl with
 | [x0,x1,x2,x3,x4],_,[y0,y1,y2],_=>
  have f0:DataW.trod enc Tryz.prog w 0 sp hd m 23 (([x0,x1,x2,x3,x4].drop 0).take (Tryz.prog.cellsOf 23)) = some y0:=hf 0 _ rfl
  have f1:DataW.trod enc Tryz.prog w 0 sp hd m 24 (([x0,x1,x2,x3,x4].drop 3).take (Tryz.prog.cellsOf 24)) = some y1:=hf 1 _ rfl
  have f2:DataW.trod enc Tryz.prog w 0 sp hd m 3 (([x0,x1,x2,x3,x4].drop 4).take (Tryz.prog.cellsOf 3)) = some y2:=hf 2 _ rfl
  rw [cells_grp] at f0
  rw [cells_ints] at f1
  rw [cells_int] at f2
  obtain ⟨g,eg,hg⟩:=open_grp f0
  obtain ⟨l3,h3⟩:=open_ints f1
  obtain ⟨k4,e4,_,w4⟩:=DataW.trod_int Tryz.underlying3 f2
  simp only [List.drop_zero,List.take_succ_cons,List.take_zero,List.drop_succ_cons,List.cons.injEq,and_true] at eg e4
  obtain ⟨e0,e1,e2⟩:=eg
  exact ⟨⟨g,l3,k4⟩,x3,by rw [e0,e1,e2,e4],⟨hg,h3,intR w4,hT⟩⟩
end
end Go.Proofs
namespace PrSpec
open FdSpec TkSpec CodeSpec FdPoly GrLaw
theorem itemL_take:∀ (d:List Int) (a:List (List Int)) (k:Nat) (x:Int) (y:List Int),d[k]? = some x → a[k]? = some y → itemL (d.take (k + 1)) (a.take (k + 1)) = itemL (d.take k) (a.take k) ++ (x :: (y.length:Int) :: y)
 | [],_,_,_,_,h,_=>by simp at h
 | _ :: _,[],_,_,_,_,h=>by simp at h
 | d :: ds,a :: asx,0,x,y,h,h2=>by
  simp at h h2
  subst h; subst h2
  simp [itemL]
 | d :: ds,a :: asx,k + 1,x,y,h,h2=>by
  have:=itemL_take ds asx k x y (by simpa using h) (by simpa using h2)
  simp only [List.take_succ_cons,itemL,this,List.cons_append,List.append_assoc]
theorem clauseL_take:∀ (d:List (List Int)) (a:List (List (List Int))) (k:Nat) (x:List Int) (y:List (List Int)),d[k]? = some x → a[k]? = some y → clauseL (d.take (k + 1)) (a.take (k + 1)) = clauseL (d.take k) (a.take k) ++ ((x.length:Int) :: itemL x y)
 | [],_,_,_,_,h,_=>by simp at h
 | _ :: _,[],_,_,_,_,h=>by simp at h
 | d :: ds,a :: asx,0,x,y,h,h2=>by
  simp at h h2
  subst h; subst h2
  simp [clauseL]
 | d :: ds,a :: asx,k + 1,x,y,h,h2=>by
  have:=clauseL_take ds asx k x y (by simpa using h) (by simpa using h2)
  simp only [List.take_succ_cons,clauseL,this,List.cons_append,List.append_assoc]
theorem even_iff:∀ (ds:List (List Int)) (asx:List (List (List Int))),evenL ds asx = true ↔ ds.length = asx.length ∧ ∀ (i:Nat) (d:List Int) (a:List (List Int)),ds[i]? = some d → asx[i]? = some a → d.length = a.length
 | [],[]=>by simp [evenL]
 | [],a :: asx=>by simp [evenL]
 | d :: ds,[]=>by simp [evenL]
 | d :: ds,a :: asx=>by
  have ih:=even_iff ds asx
  simp only [evenL,Bool.and_eq_true,decide_eq_true_eq,ih,List.length_cons,Nat.add_right_cancel_iff]
  constructor
  ·rintro ⟨h1,h2,h3⟩
   refine ⟨h2,fun i=>?_⟩
   cases i with
   | zero=>intro d' a' e1 e2; simp at e1 e2; subst e1; subst e2; exact h1
   | succ i=>intro d' a' e1 e2; exact h3 i d' a' (by simpa using e1) (by simpa using e2)
  ·rintro ⟨h2,h3⟩
   exact ⟨h3 0 d a (by simp) (by simp),h2,fun i d' a' e1 e2=>h3 (i + 1) d' a' (by simpa using e1) (by simpa using e2)⟩
theorem itemL_in:∀ (d:List Int) (a:List (List Int)),(∀ x ∈ d,InR x) → (∀ y ∈ a,(y.length:Int) ≤ 9223372036854775807 ∧ ∀ x ∈ y,InR x) → ∀ x ∈ itemL d a,InR x
 | [],_,_,_=>by simp [itemL]
 | _ :: _,[],_,_=>by simp [itemL]
 | d :: ds,a :: asx,h1,h2=>by
  intro x hx
  simp only [itemL,List.mem_cons,List.mem_append] at hx
  have h3:=h2 a (by simp)
  rcases hx with rfl | rfl | hx | hx
  ·exact h1 _ (by simp)
  ·unfold InR; omega
  ·exact h3.2 x hx
  ·exact itemL_in ds asx (fun x hx=>h1 x (by simp [hx])) (fun y hy=>h2 y (by simp [hy])) x hx
theorem clauseL_in:∀ (d:List (List Int)) (a:List (List (List Int))),(∀ y ∈ d,(y.length:Int) ≤ 9223372036854775807 ∧ ∀ x ∈ y,InR x) → (∀ z ∈ a,∀ y ∈ z,(y.length:Int) ≤ 9223372036854775807 ∧ ∀ x ∈ y,InR x) → ∀ x ∈ clauseL d a,InR x
 | [],_,_,_=>by simp [clauseL]
 | _ :: _,[],_,_=>by simp [clauseL]
 | d :: ds,a :: asx,h1,h2=>by
  intro x hx
  simp only [clauseL,List.mem_cons,List.mem_append] at hx
  have h3:=h1 d (by simp)
  rcases hx with rfl | hx | hx
  ·unfold InR; omega
  ·exact itemL_in d a h3.2 (fun y hy=>h2 a (by simp) y hy) x hx
  ·exact clauseL_in ds asx (fun y hy=>h1 y (by simp [hy])) (fun z hz=>h2 z (by simp [hz])) x hx
end PrSpec
namespace PrSpec
open FdSpec TkSpec CodeSpec FdPoly GrLaw
theorem itemL_le {N:Nat}:∀ (d:List Int) (a:List (List Int)),(∀ y ∈ a,y.length ≤ N) → (itemL d a).length ≤ (N + 2) * d.length
 | [],_,_=>by simp [itemL]
 | _ :: _,[],_=>by simp [itemL]
 | d :: ds,a :: asx,h=>by
  have ih:=itemL_le ds asx (fun y hy=>h y (by simp [hy]))
  have h1:=h a (by simp)
  simp only [itemL,List.length_cons,List.length_append,Nat.mul_add,Nat.mul_one]
  omega
theorem clauseL_le {N:Nat}:∀ (d:List (List Int)) (a:List (List (List Int))),(∀ y ∈ d,y.length ≤ N) → (∀ z ∈ a,∀ y ∈ z,y.length ≤ N) → (clauseL d a).length ≤ ((N + 2) * N + 1) * d.length
 | [],_,_,_=>by simp [clauseL]
 | _ :: _,[],_,_=>by simp [clauseL]
 | d :: ds,a :: asx,h,h2=>by
  have ih:=clauseL_le ds asx (fun y hy=>h y (by simp [hy])) (fun z hz=>h2 z (by simp [hz]))
  have h1:=itemL_le d a (h2 a (by simp))
  have h3:=h d (by simp)
  have h4:(N + 2) * d.length ≤ (N + 2) * N:=Nat.mul_le_mul_left _ h3
  simp only [clauseL,List.length_cons,List.length_append,Nat.mul_add,Nat.mul_one]
  simp only [Nat.add_mul,Nat.mul_add,Nat.one_mul,Nat.mul_one] at *
  omega
structure SmallP (N:Nat) (ds:List (List Int)) (asx:List (List (List Int))):Prop where
 n:ds.length ≤ N
 d:∀ y ∈ ds,y.length ≤ N
 a:∀ z ∈ asx,∀ y ∈ z,y.length ≤ N
theorem clauseL_small {ds:List (List Int)} {asx:List (List (List Int))} (h:SmallP 1000 ds asx) (i:Nat):(clauseL (ds.take i) (asx.take i)).length ≤ 1002001000:=by
 have:=clauseL_le (N:=1000) (ds.take i) (asx.take i) (fun y hy=>h.d y (List.mem_of_mem_take hy)) (fun z hz=>h.a z (List.mem_of_mem_take hz))
 have h2:(ds.take i).length ≤ 1000:=by rw [List.length_take]; have:=h.n; omega
 have h3:((1000 + 2) * 1000 + 1) * (ds.take i).length ≤ ((1000 + 2) * 1000 + 1) * 1000:=Nat.mul_le_mul_left _ h2
 omega
end PrSpec
namespace Go.Proofs
open Go Go.Sh Go.RowKit FdSpec TkSpec CodeSpec PrSpec
section
variable {K:Value → World → Prop} {w w' w0 W:World} {L:List (Addr × Value)}
theorem _root_.Go.Proofs.SRow.one {α:Type} {R:World → Value → α → Prop} {ad:Option Addr} {m c:Nat} {l:List α} (h:SRow 1 (AtOf 1 (VOne R)) w (.slice ad m c) l) {i:Nat} (hi:i < l.length):∃ b o v,ad = some ⟨b,o,none⟩ ∧ b < w.heap.size ∧ w.cell? ⟨b,o + i,none⟩ = some v ∧ R w v l[i]:=by
 obtain ⟨b,o,rfl,hlt,cs,hc,h1,v,rfl,h2⟩:=h.at hi
 refine ⟨b,o,v,rfl,hlt,?_,h2⟩
 have:=h1 0 v rfl
 rwa [Nat.mul_one,Nat.add_zero] at this
theorem appendNg {B:Nat} {T:TypeId} {v xv:Value} {l m:List Int} (ho:OwnI w B v l) (hB:B ≤ w.heap.size) (hx:Ints w xv m) (hl:l.length + m.length < 1099511627776)
  (k:∀ v' w',OwnI w' B v' (l ++ m) → w.grownBy w' v.ownBlock → (∀ i,v'.ownBlock = some i → v.ownBlock = some i ∨ w.heap.size ≤ i) → K v' w'):oM Tryz.prog (.call { callee:=.builtin .append,args:=#[.tmp 0,.tmp 1],argTypes:=#[24,24] }) T [v,xv] K w:=by
 obtain ⟨⟨ad,c,rfl,h0,hc⟩,hr,_⟩:=hx
 have hfl:(flat intC m).length = m.length:=by rw [flat_int]; simp
 refine append_at 24 T 3 ((Tryz.prog.info? 3).getD default) (.int .i64 0) 1 8 (by kernel_rfl) (by kernel_rfl) (by kernel_rfl) (by kernel_rfl) (by kernel_rfl) (by kernel_rfl) (by omega) (owns_base ho (Nat.zero_le _)) (flat intC m) (by rw [hfl]; omega) h0 ?_ ?_ (by simp only [maxLen]; omega) (by omega) ?_
 ·rintro a ha j u hj
  rcases hc with hc | ⟨b,o,e,hlt,hcell⟩
  ·subst hc; simp [flat] at hj
  ·rw [e] at ha
   cases ha
   rw [add_none]
   exact hcell j u hj
 ·intro u hu
  rw [flat_int] at hu
  obtain ⟨n,_,rfl⟩:=List.mem_map.1 hu
  rfl
 ·intro v' w' ho' hg hv
  refine k v' w' ?_ hg hv
  show w'.ownsRow B 3 1 v' (l ++ m).length (flat intC (l ++ m))
  rw [List.length_append,flat_append]
  exact owns_up ho' (fun i hi=>(hv i hi).elim (fun h=>(owns_own ho h).2.1) (fun h=>Nat.le_trans hB h))
theorem mk1o {T:TypeId} (x:Int) (k:∀ v W,Below w.heap.size w W → OwnI W w.heap.size v [x] → K v W):oM Tryz.prog (.buildSlice 24 1 #[(0,.tmp 0)]) T [.int .i64 x] K w:=by
 rw [oM_buildSlice1]
 have e:(Instr.buildSlice 24 1 #[(0,.int .i64 x)]).run Tryz.prog w = .ok (.slice (some ⟨w.heap.size,0,none⟩) 1 1) (w.alloc (.cells #[.int .i64 x] 3)):=by kernel_rfl
 rw [e]
 exact k _ _ ((Below.refl _ w).alloc (Nat.le_refl _) _) (World.ownsRow_lit w #[.int .i64 x] 1 (Nat.le_refl _) (by decide) rfl)
@[go_sem] theorem idx_lists (T:TypeId) (b o n c:Nat) (x:Int):oM Tryz.prog (.indexAddr 30 (.tmp 0) (.tmp 1)) T [.slice (some ⟨b,o,none⟩) n c,.int .i64 x] = onM (0 ≤ x ∧ x < n) (.pointer (some ⟨b,o + x.toNat,none⟩)):=by
 have:=idx_row (K:=fun _ _=>True) (P:=Tryz.prog) (n:=1) 30 T (by kernel_rfl) (fun w=>by kernel_rfl) b o n c x
 rwa [Nat.mul_one] at this
@[go_sem] theorem idx_nums (T:TypeId) (b o n c:Nat) (x:Int):oM Tryz.prog (.indexAddr 29 (.tmp 0) (.tmp 1)) T [.slice (some ⟨b,o,none⟩) n c,.int .i64 x] = onM (0 ≤ x ∧ x < n) (.pointer (some ⟨b,o + x.toNat,none⟩)):=by
 have:=idx_row (K:=fun _ _=>True) (P:=Tryz.prog) (n:=1) 29 T (by kernel_rfl) (fun w=>by kernel_rfl) b o n c x
 rwa [Nat.mul_one] at this
@[reducible] def prfC (dv av:Value):List Value:=[dv,av]
@[reducible] def prfV (dv av:Value):Value:=.agg #[dv,av]
theorem encNums_le {l:List Int} (h:∀ x ∈ l,InR x) (hl:l.length ≤ 10000000000):(encList (l.map encInt)).length ≤ 22 * l.length + 30:=by
 have h3:(Lib.itoa (l.length:Int)).length ≤ 20:=itoa_len _ (by unfold InR; omega)
 have h4:∀ l:List Int,(∀ x ∈ l,InR x) → ((l.map encInt).flatten).length ≤ 22 * l.length:=by
  intro l
  induction l with
  | nil=>simp
  | cons a l ih=>
   intro h
   have h1:=Cd.encInt_len a (h a (by simp))
   have h2:=ih (fun x hx=>h x (by simp [hx]))
   simp only [List.map_cons,List.flatten_cons,List.length_append,List.length_cons]
   omega
 have h5:=h4 l h
 simp only [encList,List.length_append,List.length_cons,List.length_nil,List.length_map] at *
 omega
def EnJ (ds:List (List Int)) (ls:List (List (List Int))) (w0:World) (vs:List Value) (w':World):Prop:=Below w0.heap.size w0 w' ∧ ∃ (u1 u2 ov u5 u6:Value) (i:Nat),vs = [u1,u2,.string ⟨#[]⟩,.bool false,ov,u5,u6,.int .i64 (i:Int)] ∧ i ≤ ds.length ∧
 OwnI w' w0.heap.size ov ((ds.length:Int) :: clauseL (ds.take i) (ls.take i)) ∧ ∀ (j:Nat) (d:List Int) (a:List (List Int)),j < i → ds[j]? = some d → ls[j]? = some a → d.length = a.length
def EiJ (w0 w1:World) (pre:List Int) (d:List Int) (a:List (List Int)) (vs:List Value) (w':World):Prop:=Below w0.heap.size w0 w' ∧ ∃ (u1 u2 ov:Value) (k:Nat),vs = [u1,u2,ov,.int .i64 (k:Int)] ∧ k ≤ d.length ∧ OwnI w' w0.heap.size ov (pre ++ itemL (d.take k) (a.take k))
theorem Encode_ok (ds:List (List Int)) (ls:List (List (List Int))) {dv av:Value} (hd:ListsR w dv ds) (ha:NumsR w av ls) (hl:Cd.Laid w) (hsm:SmallP 1000 ds ls)
  (k:∀ w',Below w.heap.size w w' → K (.tuple #[.string ⟨(encodeM ds ls).1.toArray⟩,.bool (encodeM ds ls).2]) w'):callM Tryz.prog 51 #[prfV dv av] K w:=by
 apply sh_51_ok
 unfold sh_51
 have hd':=hd
 have ha':=ha
 obtain ⟨dad,dc,rfl⟩:=hd.isSlice
 obtain ⟨aad,ac,rfl⟩:=ha.isSlice
 refine box_kn (cs:=prfC (.slice dad ds.length dc) (.slice aad ls.length ac)) rfl (.start w) fun b1 W hk hb1 hbb=>?_
 clear hb1 hbb
 have no:evenL ds ls = false → ∀ w',Below w.heap.size w w' → K (.tuple #[.string ⟨#[]⟩,.bool false]) w':=fun e w' hb=>by
  have:=k w' hb
  unfold encodeM at this
  rw [e] at this
  exact this
 by_cases hln:¬ ds.length = ls.length
 ·have hln':¬ (ds.length:Int) = ls.length:=by omega
  repeat (any_goals (first
  | (with_reducible refine yL ?_)
  | ((with_reducible refine oM_gen fun Kv hK=>?_); simp [go_sem,hk.cells,hln']; refine hK _ _ ?_; clear hK Kv)))
  refine no ?_ _ hk.below
  cases e:evenL ds ls with
  | false=>rfl
  | true=>exact absurd ((even_iff ds ls).1 e).1 hln
 have hln:ds.length = ls.length:=by omega
 have hln':(ds.length:Int) = ls.length:=by omega
 iterate 11 (any_goals (first
 | (with_reducible refine yM ?_)
 | ((with_reducible refine oM_gen fun Kv hK=>?_); simp [go_sem,hk.cells,hln']; refine hK _ _ ?_; clear hK Kv)))
 refine mk1o _ (fun v1 w1 h1 ho1=>?_)
 have hk0:=hk
 have hk:=hk.next h1
 repeat (any_goals ((with_reducible refine oM_gen fun Kv hK=>?_); simp [go_sem,hk.cells]; refine hK _ _ ?_; clear hK Kv))
 refine ⟨EnJ ds ls W,(fun vs _=>match vs with | [_,_,_,_,_,_,_,.int _ i]=>ds.length - i.toNat | _=>0),⟨h1,_,_,_,_,_,0,rfl,by omega,by simpa [clauseL,hln] using ho1,fun j d a hj=>by omega⟩,?_⟩
 rintro _ _ w3 ⟨hb3,u1,u2,ov,u5,u6,i,rfl,hi,ho,hev⟩
 have hWs:=hb3.size
 have hdlen:=hd'.len
 have hcl:=clauseL_small hsm i
 have hk:=hk0.next hb3
 by_cases hin:i = ds.length
 ·have hall:evenL ds ls = true:=(even_iff ds ls).2 ⟨hln,fun j d a e1 e2=>hev j d a (by rw [hin]; exact (List.getElem?_eq_some_iff.1 e1).1) e1 e2⟩
  rw [List.take_of_length_le (by omega),List.take_of_length_le (by omega)] at ho
  have hinr:∀ x ∈ (ds.length:Int) :: clauseL ds ls,InR x:=by
   intro x hx
   rcases List.mem_cons.1 hx with rfl | hx
   ·unfold InR; omega
   ·refine clauseL_in ds ls (fun y hy=>?_) (fun z hz y hy=>?_) x hx
    ·obtain ⟨j,hj,rfl⟩:=List.getElem_of_mem hy
     obtain ⟨_,_,_,_,_,_,h⟩:=hd'.one (i:=j) hj
     exact ⟨by have:=h.len; omega,fun x hx=>(InR_iff x).2 (h.rng x hx)⟩
    ·obtain ⟨j,hj,rfl⟩:=List.getElem_of_mem hz
     obtain ⟨_,_,v,_,_,_,h⟩:=ha'.one (i:=j) hj
     obtain ⟨j2,hj2,rfl⟩:=List.getElem_of_mem hy
     obtain ⟨ad,c,rfl⟩:=h.isSlice
     obtain ⟨_,_,_,_,_,_,h⟩:=h.one (i:=j2) hj2
     exact ⟨by have:=h.len; omega,fun x hx=>(InR_iff x).2 (h.rng x hx)⟩
  have hcl2:(clauseL ds ls).length ≤ 1002001000:=by
   have:=clauseL_small hsm ds.length
   rwa [List.take_of_length_le (by omega),List.take_of_length_le (by omega)] at this
  have hle:=encNums_le hinr (by rw [List.length_cons]; omega)
  repeat (any_goals (first
  | (with_reducible refine yO ?_)
  | ((with_reducible refine oM_gen fun Kv hK=>?_); simp [go_sem,hk.cells]; refine hK _ _ ?_; clear hK Kv)))
  refine Cd.pNums_ok _ _ (hl.below hk.below hl.size) (Ints.rowOf (ho.ints (fun x hx=>(InR_iff x).1 (hinr x hx)) (by rw [List.length_cons]; omega))) hinr (by rw [List.length_cons] at hle; omega) (fun w4 h4=>?_)
  skip
  have:=k _ (hk.next h4).below
  unfold encodeM at this
  rw [hall,if_pos rfl] at this
  exact this
 obtain ⟨b5,o5,v5,rfl,hb5,c5,i5⟩:=hd'.one (i:=i) (by omega)
 obtain ⟨b6,o6,v6,rfl,hb6,c6,i6⟩:=ha'.one (i:=i) (by omega)
 have e5:ds[i]? = some ds[i]:=List.getElem?_eq_getElem (by omega)
 have e6:ls[i]? = some ls[i]:=List.getElem?_eq_getElem (by omega)
 have m5:ds[i] ∈ ds:=List.getElem_mem _
 have m6:ls[i] ∈ ls:=List.getElem_mem _
 have hstep:=clauseL_take ds ls i _ _ e5 e6
 generalize ds[i] = d at *
 generalize ls[i] = a at *
 obtain ⟨ad5,cp5,rfl⟩:=i5.isSlice
 obtain ⟨ad6,cp6,rfl⟩:=i6.isSlice
 by_cases hda:¬ d.length = a.length
 ·have hda':¬ (d.length:Int) = a.length:=by omega
  repeat (any_goals (first
  | (with_reducible ((refine idCond ?_); first|refine yL ?_|refine yN ?_))
  | ((with_reducible refine oM_gen fun Kv hK=>?_); simp [go_sem,hk.cells,(hk.below.cell hb5).trans c5,(hk.below.cell hb6).trans c6,hda']; (first|refine hK _ _ ?_|refine And.intro (by omega) (hK _ _ ?_)); clear hK Kv)))
  refine no ?_ _ hk.below
  cases e:evenL ds ls with
  | false=>rfl
  | true=>exact absurd (((even_iff ds ls).1 e).2 i d a e5 e6) hda
 have hda:d.length = a.length:=by omega
 have hda':(d.length:Int) = a.length:=by omega
 iterate 13 (any_goals (first
 | (with_reducible ((refine idCond ?_); first|refine yM ?_|refine yN ?_))
 | ((with_reducible refine oM_gen fun Kv hK=>?_); simp [go_sem,hk.cells,(hk.below.cell hb5).trans c5,(hk.below.cell hb6).trans c6,hda']; (first|refine hK _ _ ?_|refine And.intro (by omega) (hK _ _ ?_)); clear hK Kv)))
 refine mk1g _ (by have:=i5.len; unfold I64; omega) (fun v7 w7 h7 hi7 _=>?_)
 have hb7:=hb3.on h7
 refine append1g (ho.keep h7) hb7.size hi7 (by rw [List.length_cons]; omega) (fun v8 w8 ho8 hg8 hv8=>?_)
 have hoo:=fun j hj=>owns_own (i:=j) (ho.keep h7) hj
 have hb8:=hb7.grown hg8 hb7.size (fun j hj=>(hoo j hj).2.1)
 rw [← hda] at ho8
 iterate 1 (any_goals ((with_reducible refine oM_gen fun Kv hK=>?_); simp [go_sem]; refine hK _ _ ?_; clear hK Kv))
 have hil:=itemL_le (N:=1000) d a (hsm.a a m6)
 have hdl:=hsm.d d m5
 have hil2:(1000 + 2) * d.length ≤ (1000 + 2) * 1000:=Nat.mul_le_mul_left _ hdl
 refine ⟨EiJ W w8 (((ds.length:Int) :: clauseL (ds.take i) (ls.take i)) ++ [(d.length:Int)]) d a,(fun vs _=>match vs with | [_,_,_,.int _ i]=>d.length - i.toNat | _=>0),⟨hb8,_,_,_,0,rfl,by omega,by simpa [itemL] using ho8⟩,?_⟩
 rintro _ _ w9 ⟨hb9,u8,u9,ov,j,rfl,hj,ho⟩
 have hk:=hk0.next hb9
 by_cases hjn:j = d.length
 ·rw [List.take_of_length_le (l:=d) (by omega),List.take_of_length_le (l:=a) (by omega)] at ho
  repeat (any_goals (first
  | (with_reducible refine yO ?_)
  | ((with_reducible refine oM_gen fun Kv hK=>?_); simp [go_sem]; (try simp (disch:=omega) only [wrapI64,wrapU8,wrapU32,wrapU64]); refine hK _ _ ?_; clear hK Kv)))
  refine ⟨⟨hb9,_,_,_,_,_,i + 1,rfl,by omega,?_,?_⟩,by show ds.length - (((i + 1:Nat):Int)).toNat < ds.length - ((i:Nat):Int).toNat; omega⟩
  ·rw [hstep]
   simpa using ho
  ·intro j' d' a' hj' e1 e2
   by_cases h:j' = i
   ·subst h
    rw [e5] at e1; rw [e6] at e2
    cases e1; cases e2
    exact hda
   ·exact hev j' d' a' (by omega) e1 e2
 obtain ⟨b10,o10,rfl,hb10,c10,r10,_⟩:=i5.at (i:=j) (by omega)
 obtain ⟨b11,o11,v11,rfl,hb11,c11,i11⟩:=i6.one (i:=j) (by omega)
 have e10:d[j]? = some d[j]:=List.getElem?_eq_getElem (by omega)
 have e11:a[j]? = some a[j]:=List.getElem?_eq_getElem (by omega)
 have m11:a[j] ∈ a:=List.getElem_mem _
 have hin2:=itemL_take d a j _ _ e10 e11
 have hyl:=hsm.a a m6 _ m11
 have hil3:=itemL_le (N:=1000) (d.take j) (a.take j) (fun y hy=>hsm.a a m6 y (List.mem_of_mem_take hy))
 have hil4:(1000 + 2) * (d.take j).length ≤ (1000 + 2) * 1000:=Nat.mul_le_mul_left _ (by rw [List.length_take]; omega)
 generalize d[j] = x at *
 generalize a[j] = y at *
 obtain ⟨ad11,cp11,rfl⟩:=i11.isSlice
 have hal:a.length ≤ 9223372036854775807:=by omega
 have hjl:(j:Int) < a.length:=by omega
 have hil0:(i:Int) < ls.length:=by omega
 repeat (any_goals (first
 | (with_reducible refine yN ?_)
 | ((with_reducible refine oM_gen fun Kv hK=>?_); simp [go_sem,c10 _ hk.below]; (first|refine hK _ _ ?_|refine And.intro (by omega) (hK _ _ ?_)); clear hK Kv)))
 have hk10:=hk.drew
 have hb10':Below W.heap.size W { w9 with drawn:=w9.drawn + 1 }:=hb9.on .drawn
 have ho10:=ho.keep (.drawn (w:=w9) (B:=w9.heap.size))
 refine ⟨fun w'=>Below W.heap.size W w',hb10',?_⟩
 generalize ({ w9 with drawn:=w9.drawn + 1 }:World) = W9 at hk10 hb10' ho10 ⊢
 have ylI:I64 (y.length:Int):=by have:=i11.len; unfold I64; omega
 repeat (any_goals (first
 | ((with_reducible refine mk2 x (y.length:Int) r10 ylI ?_); intro v12 w12 h12 hi12)
 | (with_reducible refine pureH_in ?_)
 | ((with_reducible refine idOH ?_); (with_reducible refine oH_of ⟨_,rfl⟩ (fun W0 hW0=>by (refine oM_gen (fun Kv hK=>?_)); simp [go_sem,(hk0.next hW0).cells,((hk0.next hW0).below.cell hb6).trans c6,((hk0.next hW0).below.cell hb11).trans c11]; (first | exact hK _ _ ⟨rfl,rfl⟩ | exact ⟨by omega,hK _ _ ⟨rfl,rfl⟩⟩)) ?_))))
 have hb12:=hb10'.on h12
 refine ⟨hb12,?_⟩
 have hpl:(((ds.length:Int) :: clauseL (ds.take i) (ls.take i)) ++ [(d.length:Int)] ++ itemL (d.take j) (a.take j)).length ≤ 1003003003:=by
  rw [List.length_append,List.length_append,List.length_cons,List.length_singleton]; omega
 have ho12:=ho10.keep h12
 refine appendNg ho12 hb12.size hi12 (by simp only [List.length_cons,List.length_nil] at hpl ⊢; omega) (fun v13 w13 ho13 hg13 hv13=>?_)
 have hb13:=hb12.grown hg13 hb12.size (fun j hj=>(owns_own ho12 hj).2.1)
 refine ⟨hb13,?_⟩
 refine appendNg ho13 hb13.size (i11.next (hk0.next hb13).below) (by rw [List.length_append]; simp only [List.length_cons,List.length_nil] at hpl ⊢; omega) (fun v14 w14 ho14 hg14 hv14=>?_)
 have hb14:=hb13.grown hg14 hb13.size (fun j hj=>(owns_own ho13 hj).2.1)
 refine ⟨hb14,hb14,?_⟩
 repeat (any_goals ((with_reducible refine oM_gen fun Kv hK=>?_); simp [go_sem]; (try simp (disch:=omega) only [wrapI64,wrapU8,wrapU32,wrapU64]); refine hK _ _ ?_; clear hK Kv))
 refine ⟨⟨hb14,_,_,_,j + 1,rfl,by omega,?_⟩,by show d.length - (((j + 1:Nat):Int)).toNat < d.length - ((j:Nat):Int).toNat; omega⟩
 rw [hin2]
 simpa using ho14
end
end Go.Proofs
namespace Go.Proofs
open Go Go.Sh Go.RowKit Go.Lib CodeSpec TkSpec FdSpec PrSpec Go.ChangeShapes Go.WideShapes Go.ChangeAt Go.Deep
section
variable {H:Type} {enc:TypeId × Value → H} {w:World} {sp:Nat → Bool} {hd:Bool}
theorem rowsOpen {P:Program} {α:Type} {n:Nat} {At:World → Nat → Nat → α → Prop} {t e:TypeId} {v:Value} {m0:Nat} {D:DataW H × List MemPlace} (ht:P.underlying t = some (.slice e)) (hC:P.cellsOf e = n) (hn:0 < n)
  (hrd:∀ (cs:List Value) (b p m:Nat) (D:DataW H × List MemPlace),cs.length = n → (∀ (j:Nat) (u:Value),cs[j]? = some u → w.cell? ⟨b,p + j,none⟩ = some u) → DataW.trod enc P w 0 sp hd m e cs = some D → ∃ x,At w b p x)
  (h:DataW.trod enc P w 0 sp hd m0 t [v] = some D):∃ l:List α,SRow n At w v l:=by
 rcases open_slice ht h with ⟨hcs,_⟩ | ⟨a',len,cap,m,n',D',Pl,hcs,_,hl,hm,hmm,_,hi⟩
 ·simp only [List.cons.injEq,and_true] at hcs
  subst hcs
  exact ⟨[],⟨none,0,rfl,.inl rfl⟩,by simp⟩
 ·simp only [List.cons.injEq,and_true] at hcs
  subst hcs
  subst hC
  have hml:len ≤ m:=by rw [hmm]; split <;> omega
  by_cases h0:len = 0
  ·subst h0
   exact ⟨[],⟨some a',cap,rfl,.inl rfl⟩,by simp⟩
  obtain ⟨cs0,hc0,_⟩:=hi 0 (by omega)
  obtain ⟨_,hl0,h00⟩:=World.cells?_some hc0
  have h00:=h00 0 hn
  rw [Nat.zero_mul] at h00
  have e0:(a'.add 0).add 0 = a':=by simp [Addr.add]
  rw [e0,List.getElem?_eq_getElem (by omega)] at h00
  obtain ⟨hb,hs⟩:=cell_lt h00
  obtain ⟨b,o,s⟩:=a'
  simp only at hs hb
  subst hs
  have key:∀ i:Fin len,∃ x,At w b (o + i * P.cellsOf e) x:=fun i=>by
   obtain ⟨cs,hc,ht2⟩:=hi i (by have:=i.2; omega)
   obtain ⟨_,hcl,hat⟩:=World.cells?_some hc
   refine hrd cs b (o + i * P.cellsOf e) _ _ hcl (fun j u hj=>?_) ht2
   have hjl:=(List.getElem?_eq_some_iff.1 hj).1
   have:=hat j (by omega)
   rw [addr_add',addr_add'] at this
   rw [this,hj]
  refine ⟨List.ofFn (fun i=>(key i).choose),⟨some ⟨b,o,none⟩,cap,by rw [List.length_ofFn],.inr ⟨b,o,rfl,hb,fun i hil=>?_⟩⟩,by rw [List.length_ofFn]; simp only [maxLen] at hm; omega⟩
  rw [List.length_ofFn] at hil
  rw [List.getElem_ofFn]
  exact (key ⟨i,hil⟩).choose_spec
theorem open_trms {v:Value} {n:Nat} {D:DataW H × List MemPlace} (h:DataW.trod enc Tryz.prog w 0 sp hd n 142 [v] = some D):∃ l,SRow 2 TrmAt w v l:=
 rowsOpen Tryz.underlying142 (by kernel_rfl) (by decide) (fun cs b p m D hl hc ht=>by
  match cs,hl with
  | [x0,x1],_=>
   obtain ⟨_,hf⟩:=open_fields Tryz.underlying146 (by kernel_rfl) (by kernel_rfl) ht
   obtain ⟨v0,y0,m0,c0,f0⟩:=hf 0 _ rfl
   obtain ⟨v1,y1,m1,c1,f1⟩:=hf 1 _ rfl
   obtain ⟨k0,e0,_,w0⟩:=DataW.trod_int Tryz.underlying3 f0
   obtain ⟨k1,e1,_,w1⟩:=DataW.trod_int Tryz.underlying3 f1
   simp only [List.cons.injEq,and_true] at e0 e1
   simp only [List.getElem?_cons_zero,List.getElem?_cons_succ,Option.some.injEq] at c0 c1
   subst c0; subst c1; subst e0; subst e1
   exact ⟨⟨k0,k1⟩,hc 0 _ rfl,hc 1 _ rfl,intR w0,intR w1⟩) h
theorem open_eqns {v:Value} {n:Nat} {D:DataW H × List MemPlace} (h:DataW.trod enc Tryz.prog w 0 sp hd n 67 [v] = some D):∃ l,SRow 2 EqnAt w v l:=
 rowsOpen Tryz.underlying67 (by kernel_rfl) (by decide) (fun cs b p m D hl hc ht=>by
  match cs,hl with
  | [x0,x1],_=>
   obtain ⟨_,hf⟩:=open_fields Tryz.underlying144 (by kernel_rfl) (by kernel_rfl) ht
   obtain ⟨v0,y0,m0,c0,f0⟩:=hf 0 _ rfl
   obtain ⟨v1,y1,m1,c1,f1⟩:=hf 1 _ rfl
   obtain ⟨k0,e0,_,w0⟩:=DataW.trod_int Tryz.underlying3 f0
   obtain ⟨l1,h1⟩:=open_trms f1
   simp only [List.cons.injEq,and_true] at e0
   simp only [List.getElem?_cons_zero,List.getElem?_cons_succ,Option.some.injEq] at c0 c1
   subst c0; subst c1; subst e0
   exact ⟨⟨k0,l1⟩,x1,hc 0 _ rfl,hc 1 _ rfl,h1,intR w0⟩) h
end
end Go.Proofs
namespace Go.Proofs
open Go Go.Sh Go.RowKit Go.Lib CodeSpec TkSpec FdSpec PrSpec Go.ChangeShapes Go.WideShapes Go.ChangeAt Go.Deep
section
variable {H:Type} {enc:TypeId × Value → H} {w:World} {sp:Nat → Bool} {hd:Bool}
theorem open_cla {b0:Nat} {v:Value} {d:DataW H} {ps:List MemPlace} (hval:Value.okWide Tryz.prog w .any b0 69 v) (h:DataW.Trod enc Tryz.prog w 0 sp hd 69 v d ps):∃ c x,v = clmV c x ∧ ClmR w c x:=by
 obtain ⟨cs,rfl,hs⟩:=okWide_struct Tryz.underlying69 hval
 obtain ⟨fuel,hf⟩:=h
 obtain ⟨hcl,hf⟩:=open_fields Tryz.underlying69 (by kernel_rfl) (by kernel_rfl) hf
 obtain ⟨v0,y0,m0,c0,f0⟩:=hf 0 _ rfl
 obtain ⟨v1,y1,m1,c1,f1⟩:=hf 1 _ rfl
 obtain ⟨k0,e0,_,w0⟩:=DataW.trod_int Tryz.underlying3 f0
 obtain ⟨l1,h1⟩:=open_eqns f1
 simp only [List.cons.injEq,and_true] at e0
 refine ⟨⟨k0,l1⟩,v1,?_,intR w0,h1⟩
 have h6:cs.toList.length = 2:=hcl
 have c0:cs.toList[0]? = some v0:=c0
 have c1:cs.toList[1]? = some v1:=c1
 have hcs:cs = cs.toList.toArray:=by simp
 rw [hcs]
 clear hs hcs
 generalize cs.toList = l at *
 match l,h6 with
 | [x0,x1],_=>
  simp only [List.getElem?_cons_zero,List.getElem?_cons_succ,Option.some.injEq] at c0 c1
  rw [c0,c1,e0]
end
end Go.Proofs
namespace Go.Proofs
open Go Go.Sh Go.RowKit FdSpec TkSpec CodeSpec PrSpec
section
variable {K:Value → World → Prop} {w w' w0 W:World} {L:List (Addr × Value)}
abbrev ListG (B:Nat) (D:Nat → Prop) (w:World) (v:Value) (l:List (List Int)):Prop:=GRow 1 24 (VOne Ints) B D w v l
abbrev NumG (B:Nat) (D:Nat → Prop) (w:World) (v:Value) (l:List (List (List Int))):Prop:=GRow 1 30 (VOne ListsR) B D w v l
theorem lit_ints {T:TypeId} (ad:Option Addr) (n c:Nat) (k:∀ g W,Below w.heap.size w W → w.heap.size ≤ g → Holds W g 24 [.slice ad n c] → K (.slice (some ⟨g,0,none⟩) 1 1) W):oM Tryz.prog (.buildSlice 30 1 #[(0,.tmp 0)]) T [.slice ad n c] K w:=by
 rw [oM_buildSlice1]; exact lit_run (by kernel_rfl) k
theorem lit_lists {T:TypeId} (ad:Option Addr) (n c:Nat) (k:∀ g W,Below w.heap.size w W → w.heap.size ≤ g → Holds W g 30 [.slice ad n c] → K (.slice (some ⟨g,0,none⟩) 1 1) W):oM Tryz.prog (.buildSlice 29 1 #[(0,.tmp 0)]) T [.slice ad n c] K w:=by
 rw [oM_buildSlice1]; exact lit_run (by kernel_rfl) k
theorem ints_append {B g c n:Nat} {D:Nat → Prop} {v:Value} {l:List (List Int)} {x:List Int} {T:TypeId} (h:ListG B D w v l) (hB:B ≤ w.heap.size) {b:Nat} {ad:Option Addr} (hh:Holds w b 24 [.slice ad n c])
  (hx:FP D w (fun w=>Ints w (.slice ad n c) x)) (hD:Off D w v) (hl:l.length < 1099511627776)
  (k:∀ v' w',ListG B D w' v' (l ++ [x]) → w.grownBy w' v.ownBlock → (∀ i,v'.ownBlock = some i → v.ownBlock = some i ∨ w.heap.size ≤ i) → Off D w' v' → K v' w') :
  oM Tryz.prog (.call { callee:=.builtin .append,args:=#[.tmp 0,.tmp 1],argTypes:=#[30,30] }) T [v,.slice (some ⟨b,0,none⟩) 1 g] K w:=by
 refine grow_append 30 T ((Tryz.prog.info? 24).getD default) (.slice none 0 0) 24 (by kernel_rfl) (by kernel_rfl) (by kernel_rfl) (by kernel_rfl) (by kernel_rfl) (by kernel_rfl) (by decide) (by decide)
  h hB (xs:=[.slice ad n c]) rfl ?_ (row_one _ _ _) (hx.imp fun w h=>⟨_,rfl,h⟩) hD hl k
 intro j u hj
 rw [cell_of_block hh]
 simpa using hj
theorem lists_append {B g c n:Nat} {D:Nat → Prop} {v:Value} {l:List (List (List Int))} {x:List (List Int)} {T:TypeId} (h:NumG B D w v l) (hB:B ≤ w.heap.size) {b:Nat} {ad:Option Addr} (hh:Holds w b 30 [.slice ad n c])
  (hx:FP D w (fun w=>ListsR w (.slice ad n c) x)) (hD:Off D w v) (hl:l.length < 1099511627776)
  (k:∀ v' w',NumG B D w' v' (l ++ [x]) → w.grownBy w' v.ownBlock → (∀ i,v'.ownBlock = some i → v.ownBlock = some i ∨ w.heap.size ≤ i) → Off D w' v' → K v' w') :
  oM Tryz.prog (.call { callee:=.builtin .append,args:=#[.tmp 0,.tmp 1],argTypes:=#[29,29] }) T [v,.slice (some ⟨b,0,none⟩) 1 g] K w:=by
 refine grow_append 29 T ((Tryz.prog.info? 30).getD default) (.slice none 0 0) 24 (by kernel_rfl) (by kernel_rfl) (by kernel_rfl) (by kernel_rfl) (by kernel_rfl) (by kernel_rfl) (by decide) (by decide)
  h hB (xs:=[.slice ad n c]) rfl ?_ (row_one _ _ _) (hx.imp fun w h=>⟨_,rfl,h⟩) hD hl k
 intro j u hj
 rw [cell_of_block hh]
 simpa using hj
structure Duo (B:Nat) (D:Nat → Prop) (W:World) (v0 u0:Value) (w:World) (v u:Value) (l:List (List Int)) (m:List (List (List Int))):Prop where
 fr:Fr (fun i=>v0.ownBlock = some i ∨ u0.ownBlock = some i) W w
 a:ListG B D w v l
 b:NumG B D w u m
 oa:Off D w v
 ob:Off D w u
 ap:apart v u
 la:∀ i,v.ownBlock = some i → v0.ownBlock = some i ∨ W.heap.size ≤ i
 lb:∀ i,u.ownBlock = some i → u0.ownBlock = some i ∨ W.heap.size ≤ i
 B:B ≤ W.heap.size
theorem Duo.start {B:Nat} {D:Nat → Prop} {v u:Value} {l:List (List Int)} {m:List (List (List Int))} (a:ListG B D w v l) (b:NumG B D w u m) (oa:Off D w v) (ob:Off D w u) (ap:apart v u) (hB:B ≤ w.heap.size):Duo B D w v u w v u l m:=
 ⟨Fr.refl _ _,a,b,oa,ob,ap,fun _ h=>.inl h,fun _ h=>.inl h,hB⟩
section
variable {B:Nat} {D:Nat → Prop} {v0 u0 v u:Value} {l:List (List Int)} {m:List (List (List Int))}
theorem Duo.next (h:Duo B D W v0 u0 w v u l m) (hb:Below w.heap.size w w'):Duo B D W v0 u0 w' v u l m:=
 ⟨h.fr.trans (S':=fun _=>False) (Fr.of_below hb) (fun _ h=>h.elim),h.a.next hb (fun i hi=>(h.oa i hi).1),h.b.next hb (fun i hi=>(h.oa i hi).1),h.oa.next hb.size,h.ob.next hb.size,h.ap,h.la,h.lb,h.B⟩
theorem Duo.addA {b g n c:Nat} {ad:Option Addr} {x:List Int} {T:TypeId} (h:Duo B D W v0 u0 w v u l m) (hh:Holds w b 24 [.slice ad n c]) (hx:FP D W (fun w=>Ints w (.slice ad n c) x)) (hD0:∀ i,D i → i < W.heap.size ∧ v0.ownBlock ≠ some i ∧ u0.ownBlock ≠ some i) (hl:l.length < 1099511627776)
  (k:∀ v' w',Duo B D W v0 u0 w' v' u (l ++ [x]) m → w.grownBy w' v.ownBlock → K v' w') :
  oM Tryz.prog (.call { callee:=.builtin .append,args:=#[.tmp 0,.tmp 1],argTypes:=#[30,30] }) T [v,.slice (some ⟨b,0,none⟩) 1 g] K w:=by
 have hx':=hx.fr h.fr (fun i hi=>⟨(hD0 i hi).1,fun e=>e.elim (hD0 i hi).2.1 (hD0 i hi).2.2⟩)
 refine ints_append h.a (Nat.le_trans h.B h.fr.size) hh hx' h.oa hl (fun v' w' hg hb hv ho=>k v' w' ⟨h.fr.by hb (fun i e=>(h.la i e).imp .inl id),hg,?_,ho,h.ob.next hb.size,?_,?_,h.lb,h.B⟩ hb)
 ·exact h.b.keep (Fr.of_by' hb) (fun i hi=>⟨(h.oa i hi).1,(h.oa i hi).2⟩) (fun i hi e=>h.ap i e hi)
 ·intro i e1 e2
  rcases hv i e1 with h1 | h1
  ·exact h.ap i h1 e2
  ·have:=(h.b.own e2).1; omega
 ·intro i e1
  rcases hv i e1 with h1 | h1
  ·exact h.la i h1
  ·exact .inr (Nat.le_trans h.fr.size h1)
theorem Duo.addB {b g n c:Nat} {ad:Option Addr} {x:List (List Int)} {T:TypeId} (h:Duo B D W v0 u0 w v u l m) (hh:Holds w b 30 [.slice ad n c]) (hx:FP D W (fun w=>ListsR w (.slice ad n c) x)) (hD0:∀ i,D i → i < W.heap.size ∧ v0.ownBlock ≠ some i ∧ u0.ownBlock ≠ some i) (hl:m.length < 1099511627776)
  (k:∀ u' w',Duo B D W v0 u0 w' v u' l (m ++ [x]) → w.grownBy w' u.ownBlock → K u' w') :
  oM Tryz.prog (.call { callee:=.builtin .append,args:=#[.tmp 0,.tmp 1],argTypes:=#[29,29] }) T [u,.slice (some ⟨b,0,none⟩) 1 g] K w:=by
 have hx':=hx.fr h.fr (fun i hi=>⟨(hD0 i hi).1,fun e=>e.elim (hD0 i hi).2.1 (hD0 i hi).2.2⟩)
 refine lists_append h.b (Nat.le_trans h.B h.fr.size) hh hx' h.ob hl (fun u' w' hg hb hv ho=>k u' w' ⟨h.fr.by hb (fun i e=>(h.lb i e).imp .inr id),?_,hg,h.oa.next hb.size,ho,?_,h.la,?_,h.B⟩ hb)
 ·exact h.a.keep (Fr.of_by' hb) (fun i hi=>⟨(h.ob i hi).1,(h.ob i hi).2⟩) (fun i hi e=>h.ap i hi e)
 ·intro i e1 e2
  rcases hv i e2 with h1 | h1
  ·exact h.ap i e1 h1
  ·have:=(h.a.own e1).1; omega
 ·intro i e1
  rcases hv i e1 with h1 | h1
  ·exact h.lb i h1
  ·exact .inr (Nat.le_trans h.fr.size h1)
end
end
end Go.Proofs
namespace Go.Proofs
open Go Go.Sh Go.RowKit FdSpec TkSpec CodeSpec PrSpec
section
variable {K:Value → World → Prop} {w w' w0 W:World} {L:List (Addr × Value)}
def CI (w:World) (v:Value) (l:List Int):Prop:=Ints w v l ∧ ∃ ad c,v = .slice ad l.length c ∧ l.length ≤ c ∧ (ad = none → c = 0)
theorem inBlock_add (a:Addr) (k n c n2 c2:Nat):Value.inBlock (.slice (Option.map (fun x=>x.add k) (some a)) n c) = Value.inBlock (.slice (some a) n2 c2):=by
 rw [Option.map_some]
 obtain ⟨b,o,e⟩:=a
 cases e <;> simp [Value.inBlock,Addr.add] <;> split <;> rfl
theorem CI.from {T:TypeId} {v:Value} {l:List Int} (h:CI w v l) (i:Nat) (hi:i ≤ l.length)
  (k:∀ v',CI w v' (l.drop i) → Value.inBlock v' = Value.inBlock v → K v' w):oM Tryz.prog (.slice 24 (.tmp 0) (some (.tmp 1)) none none) T [v,.int .i64 (i:Int)] K w:=by
 obtain ⟨hI,ad,c,hv,hcap,hnn⟩:=h
 subst hv
 obtain ⟨⟨ad0,c0,hv0,h0,hc⟩,hr,hln⟩:=hI
 injection hv0 with ea _ ec
 subst ea; subst ec
 have ht:Tryz.prog.underlying 24 = some (.slice (Tryz.prog.elem 24)):=by kernel_rfl
 have hs:(sizeOf (Tryz.prog.elem 24)).run Tryz.prog w = .ok 1 w:=by kernel_rfl
 rw [oM_sliceFrom,run_sliceAt_slice w _ _ _ _ _ ht,run_slice_l w _ _ l.length c ht .i64 i (by omega) (by omega),hs]
 simp only [Result.andThen_ok,sliced,Int.toNat_natCast]
 have hdr:∀ n ∈ l.drop i,I64 n:=fun n hn=>hr n (List.mem_of_mem_drop hn)
 by_cases hci:c = i
 ·rw [if_pos hci]
  have hnil:l.drop i = []:=List.drop_of_length_le (by omega)
  have e:l.length - i = (l.drop i).length:=by rw [List.length_drop]
  rw [e]
  refine k _ ⟨⟨⟨ad,_,rfl,fun ha=>⟨by rw [hnil]; rfl,by omega⟩,.inl hnil⟩,hdr,by rw [hnil]; simp⟩,ad,_,rfl,by rw [hnil]; simp,fun ha=>by omega⟩ ?_
  cases ad <;> rfl
 ·rw [if_neg hci]
  cases ad with
  | none=>have:=hnn rfl; omega
  | some a=>
   have e:l.length - i = (l.drop i).length:=by rw [List.length_drop]
   rw [e]
   rcases hc with hc | ⟨b,o,ha,hlt,hcell⟩
   ·have:l.length = 0:=by rw [hc]; rfl
    refine k _ ⟨⟨⟨_,_,rfl,(fun ha=>by cases ha),.inl (by rw [hc]; simp)⟩,hdr,by rw [List.length_drop]; omega⟩,_,_,rfl,by rw [List.length_drop]; omega,fun ha=>by cases ha⟩ (inBlock_add _ _ _ _ _ _)
   ·cases ha
    refine k _ ⟨⟨⟨_,_,rfl,(fun ha=>by cases ha),.inr ⟨b,o + i * 1,by rw [Option.map_some,add_none],hlt,fun j u hj=>?_⟩⟩,hdr,by rw [List.length_drop]; omega⟩,_,_,rfl,by rw [List.length_drop]; omega,fun ha=>by cases ha⟩ (inBlock_add _ _ _ _ _ _)
    have:=hcell (i + j) u (by rw [flat_int] at hj ⊢; rw [List.map_drop,List.getElem?_drop] at hj; exact hj)
    rwa [show o + i * 1 + j = o + (i + j) by omega]
theorem CI.from1 {T:TypeId} {v:Value} {l:List Int} (h:CI w v l) (hi:1 ≤ l.length)
  (k:∀ v',CI w v' (l.drop 1) → Value.inBlock v' = Value.inBlock v → K v' w):oM Tryz.prog (.slice 24 (.tmp 0) (some (.tmp 1)) none none) T [v,.int .i64 1] K w:=CI.from h 1 hi k
theorem CI.to {T:TypeId} {v:Value} {l:List Int} (h:CI w v l) (i:Nat) (hi:i ≤ l.length)
  (k:∀ v',Ints w v' (l.take i) → K v' w):oM Tryz.prog (.slice 24 (.tmp 0) none (some (.tmp 1)) none) T [v,.int .i64 (i:Int)] K w:=by
 obtain ⟨hI,ad,c,hv,hcap,hnn⟩:=h
 subst hv
 obtain ⟨⟨ad0,c0,hv0,h0,hc⟩,hr,hln⟩:=hI
 injection hv0 with ea _ ec
 subst ea; subst ec
 have ht:Tryz.prog.underlying 24 = some (.slice (Tryz.prog.elem 24)):=by kernel_rfl
 have e:i = (l.take i).length:=by rw [List.length_take]; omega
 refine sliceTo_at (sz:=1) ht (fun w=>by kernel_rfl) i (by omega) ?_
 have hlt:(l.take i).length ≤ l.length:=by rw [List.length_take]; omega
 have hn0:ad = none → c = 0:=hnn
 rw [show (Value.slice ad i c) = .slice ad (l.take i).length c by rw [← e]]
 refine k _ ⟨⟨ad,c,rfl,fun ha=>⟨?_,hn0 ha⟩,?_⟩,fun n hn=>hr n (List.mem_of_mem_take hn),by omega⟩
 ·have:=hn0 ha; omega
 ·rcases hc with hc | ⟨b,o,ha,hlt',hcell⟩
  ·exact .inl (by rw [hc]; simp)
  ·refine .inr ⟨b,o,ha,hlt',fun j u hj=>hcell j u ?_⟩
   rw [flat_int] at hj ⊢
   rw [List.map_take] at hj
   exact (List.getElem?_eq_some_iff.1 hj).elim fun h1 h2=>by
    rw [List.getElem_take] at h2
    rw [List.getElem?_eq_some_iff]
    exact ⟨by rw [List.length_take] at h1; omega,h2⟩
theorem CI.keep {v:Value} {l:List Int} (h:CI w v l) (hs:w.heap.size ≤ w'.heap.size) (hk:∀ i,Value.inBlock v = some i → i < w.heap.size → w'.heap[i]? = w.heap[i]?):CI w' v l:=
 ⟨⟨h.1.row.keep hs hk,h.1.rng,h.1.len⟩,h.2⟩
def IsRw (B:Nat) (w:World) (b:Nat) (r:Rw):Prop:=∃ lv,Holds w b 160 [lv,.bool r.bad] ∧ CI w lv r.left ∧ b < B ∧ ∀ i,Value.inBlock lv = some i → i < B ∧ i ≠ b
theorem IsRw.keep {B b:Nat} {r:Rw} (h:IsRw B w b r) (hb:Below B w w'):IsRw B w' b r:=by
 obtain ⟨lv,h1,h2,h3,h4⟩:=h
 exact ⟨lv,(hb.block _ h3).trans h1,h2.keep hb.size (fun i hi _=>hb.block i (h4 i hi).1),h3,h4⟩
theorem sz_intsR (w:World):(sizeOf 24).run Tryz.prog w = .ok 1 w:=by kernel_rfl
theorem sz_boolR (w:World):(sizeOf 4).run Tryz.prog w = .ok 1 w:=by kernel_rfl
theorem next_ok {B b:Nat} {r:Rw} (hr:IsRw B w b r) (k:∀ w',IsRw B w' b (nextR r).2 → w.grownBy w' (some b) → I64 (nextR r).1 → K (.int .i64 (nextR r).1) w'):callM Tryz.prog 134 #[.pointer (some ⟨b,0,none⟩)] K w:=by
 apply sh_134_ok
 unfold sh_134
 obtain ⟨lv,h1,h2,h3,h4⟩:=hr
 obtain ⟨ad,c,rfl,hcap,hnn⟩:=id h2.2
 have hc:=h1.are
 have hlen:=h2.1.len
 obtain ⟨l,bad⟩:=r
 cases l with
 | nil=>
  repeat (any_goals (first
  | (with_reducible refine yL ?_)
  | ((with_reducible refine oM_gen fun Kv hK=>?_); simp [go_sem,hc]; refine hK _ _ ?_; clear hK Kv)))
  refine arr_set (i:=1) sz_boolR rfl rfl h1 (by simp) (fun w2 hg hh=>?_)
  skip
  exact k _ ⟨_,hh,h2.keep hg.size (fun i hi hlt=>hg.block i hlt (fun e=>(h4 i hi).2 (by first | exact Option.some.inj e | exact (Option.some.inj e).symm))),h3,h4⟩ hg I64_0
 | cons x l=>
  have hne:¬ ((x :: l).length:Int) = 0:=by simp; omega
  obtain ⟨b5,o5,rfl,hb5,cx,rx,_⟩:=h2.1.at (i:=0) (by simp)
  have cx':=cx w (Below.refl _ _)
  simp only [List.getElem_cons_zero,Nat.add_zero] at cx' rx
  repeat (any_goals (first
  | ((with_reducible refine CI.from1 h2 (by simp) ?_); intro v' hv' hvb)
  | (with_reducible refine yO ?_)
  | ((with_reducible refine oM_gen fun Kv hK=>?_); simp [go_sem,hc,hne,cx']; refine hK _ _ ?_; clear hK Kv)))
  obtain ⟨ad',c',rfl,hcap',hnn'⟩:=id hv'.2
  refine arr_set (i:=0) sz_intsR rfl rfl h1 (by simp) (fun w2 hg hh=>?_)
  exact k _ ⟨_,hh,hv'.keep hg.size (fun i hi hlt=>hg.block i hlt (fun e=>(h4 i (hvb ▸ hi)).2 (by first | exact Option.some.inj e | exact (Option.some.inj e).symm))),h3,fun i hi=>h4 i (hvb ▸ hi)⟩ hg rx
theorem grown_two {w1 w2:World} {b:Option Nat} (h:w.grownBy w1 b) (k:w1.grownBy w2 b):w.grownBy w2 b:=
 ⟨k.os.trans h.os,k.tape.trans h.tape,k.output.trans h.output,Nat.le_trans h.size k.size,fun i hi hn=>(k.block i (Nat.lt_of_lt_of_le hi h.size) hn).trans (h.block i hi hn)⟩
theorem count_ok {B b:Nat} {r:Rw} (hr:IsRw B w b r) (k:∀ w',IsRw B w' b (countR r).2 → w.grownBy w' (some b) → K (.int .i64 ((countR r).1:Int)) w'):callM Tryz.prog 133 #[.pointer (some ⟨b,0,none⟩)] K w:=by
 apply sh_133_ok
 unfold sh_133
 refine next_ok hr (fun w1 hr1 hg1 hI=>?_)
 have hr1':=hr1
 obtain ⟨lv,h1,h2,h3,h4⟩:=hr1
 obtain ⟨ad,c,rfl,hcap,hnn⟩:=id h2.2
 have hc:=h1.are
 unfold countR at k
 have bad:((nextR r).1 < 0 ∨ ((nextR r).2.left.length:Int) < (nextR r).1) → ∀ (K':Prop),(∀ w2,w1.grownBy w2 (some b) → Holds w2 b 160 [.slice ad (nextR r).2.left.length c,.bool true] → K (.int .i64 0) w2):=fun hb _ w2 hg2 hh2=>by
  rw [if_pos hb] at k
  exact k w2 ⟨_,hh2,h2.keep hg2.size (fun i hi hlt=>hg2.block i hlt (fun e=>(h4 i hi).2 (by first | exact Option.some.inj e | exact (Option.some.inj e).symm))),h3,h4⟩ (grown_two hg1 hg2)
 by_cases hn:(nextR r).1 < 0
 ·repeat (any_goals (first
  | (with_reducible first|refine zD ?_|refine yB ?_|refine yL ?_)
  | ((with_reducible refine oM_gen fun Kv hK=>?_); simp [go_sem,hc,hn]; refine hK _ _ ?_; clear hK Kv)))
  refine arr_set (i:=1) sz_boolR rfl rfl h1 (by simp) (fun w2 hg hh=>?_)
  skip
  exact bad (.inl hn) True w2 hg hh
 by_cases hm:((nextR r).2.left.length:Int) < (nextR r).1
 ·repeat (any_goals (first
  | (with_reducible first|refine pureM_in ?_|refine zC ?_|refine yC ?_|refine yL ?_)
  | ((with_reducible refine oM_gen fun Kv hK=>?_); simp [go_sem,hc,hn,hm]; refine hK _ _ ?_; clear hK Kv)))
  refine arr_set (i:=1) sz_boolR rfl rfl h1 (by simp) (fun w2 hg hh=>?_)
  skip
  exact bad (.inr hm) True w2 hg hh
 rw [if_neg (by omega)] at k
 repeat (any_goals (first
 | (with_reducible first|refine pureM_in ?_|refine zC ?_|refine yC ?_|refine yM ?_)
 | ((with_reducible refine oM_gen fun Kv hK=>?_); simp [go_sem,hc,hn,hm]; refine hK _ _ ?_; clear hK Kv)))
 have:=k w1 hr1' hg1
 rw [Int.toNat_of_nonneg (by omega)] at this
 exact this
end
end Go.Proofs
namespace Go.Sh
open Go Go.RowKit
section
variable {P:Program} {w w':World} {K:Value → World → Prop}
theorem below_of_grown (h:w.grownBy w' none):Below w.heap.size w w':=⟨h.os,h.tape,h.output,h.size,fun i hi=>h.block i hi (fun e=>by cases e)⟩
theorem append_at2 (t T e:TypeId) (i:TypeInfo) (z:Value) (size bytes:Nat) (ht:P.underlying t = some (.slice e)) (hi:P.info? e = some i) (hz:i.zero = some z)
  (hsize:i.size = size) (hby:i.bytes = bytes) (hzs:z.cells.size = size) (hsz:0 < size)
  {v:Value} {n:Nat} {xs:List Value} (hown:w.ownsRow 0 e size v n xs)
  {a:Addr} {m c:Nat} (news:List Value) (hl:news.length = m * size) (hnews:∀ j u,news[j]? = some u → w.cell? (a.add j) = some u) (h1:∀ u ∈ news,u.oneCell' = true)
  (h63:n + m ≤ maxLen) (hbytes:(n + m) * bytes ≤ 140737488355328)
  (k:∀ v' w',w'.ownsRow 0 e size v' (n + m) (xs ++ news) → w.grownBy w' v.ownBlock → (∀ i,v'.ownBlock = some i → v.ownBlock = some i ∨ w.heap.size ≤ i) →
   (Below w.heap.size w w' ∨ ∃ g cap,v = .slice (some ⟨g,0,none⟩) n cap ∧ v' = .slice (some ⟨g,0,none⟩) (n + m) cap) → K v' w') :
  oM P (.call { callee:=.builtin .append,args:=#[.tmp 0,.tmp 1],argTypes:=#[t,t] }) T [v,.slice (some a) m c] K w:=by
 rw [oM_append]
 rcases hown.2 with ⟨hv,hn⟩ | ⟨g,cap,cur,hv,hb,hg,hnc,hm,hcs,htk⟩
 ·have h':w.ownsRow w.heap.size e size v n xs:=⟨hown.1,.inl ⟨hv,hn⟩⟩
  obtain ⟨v',w',hr,ho,hgr,_⟩:=run_append_own (P:=P) (w:=w) w.heap.size t T e i z size bytes ht hi hz hsize hby hzs hsz v n xs h' a m c news hl hnews h1 h63 hbytes (Nat.le_refl _)
  rw [hr]
  refine k v' w' (owns_base ho (Nat.zero_le _)) hgr (fun j hj=>.inr (owns_own ho hj).2.1) (.inl ?_)
  subst hv
  exact below_of_grown hgr
 ·by_cases hroom:n + m ≤ cap
  ·subst hv
   obtain ⟨w',hr,ho,hgr⟩:=run_append_fits (P:=P) (w:=w) 0 t T e i size ht hi hsize g n cap xs hown a m c news hl hnews h1 hroom
   rw [hr]
   exact k _ w' ho hgr (fun j hj=>.inl hj) (.inr ⟨g,cap,rfl,rfl⟩)
  ·obtain ⟨v',w',hr,ho,hgr,_⟩:=run_append_own (P:=P) (w:=w) 0 t T e i z size bytes ht hi hz hsize hby hzs hsz v n xs hown a m c news hl hnews h1 h63 hbytes (Nat.zero_le _)
   subst hsize
   subst hv
   have holds:∀ j u,xs[j]? = some u → w.cell? ((⟨g,0,none⟩:Addr).add j) = some u:=hown.cells (g:=g) rfl
   have hr2:=run_append_grow (P:=P) (w:=w) t T e i z ht hi hz ⟨g,0,none⟩ n cap xs hown.1 holds a m c news hl hnews (by omega) (by simp only [maxLen] at h63; omega) (growslice_fits (by omega) (by rw [hby]; exact hbytes))
   rw [hr] at hr2
   rw [hr]
   cases hr2
   exact k _ _ ho hgr (fun j hj=>by cases hj; exact .inr (Nat.le_refl _)) (.inl (((Below.refl _ w).drew).alloc (Nat.le_refl _) _))
end
section
variable {α:Type} {n:Nat} {e:TypeId} {V:World → List Value → α → Prop} {B:Nat} {D:Nat → Prop} {w w':World} {v:Value} {l:List α}
theorem owns_part {B:Nat} {e:TypeId} {sz:Nat} {g n m cap:Nat} {xs ys:List Value} (h:w.ownsRow B e sz (.slice (some ⟨g,0,none⟩) (n + m) cap) (n + m) (xs ++ ys)) (hx:xs.length = n * sz):w.ownsRow B e sz (.slice (some ⟨g,0,none⟩) n cap) n xs:=by
 rcases h.2 with ⟨h,_⟩ | ⟨g1,cap1,cur1,hv,hb,hg1,hc,hm,hs1,ht⟩
 ·cases h
 cases hv
 refine ⟨hx,.inr ⟨g,cap,cur1,rfl,hb,hg1,by omega,by omega,hs1,?_⟩⟩
 have h2:=congrArg (List.take (n * sz)) ht
 rw [List.take_take,List.take_left' hx,Nat.min_eq_left (Nat.mul_le_mul_right _ (by omega))] at h2
 exact h2
theorem grow_append2 {P:Program} {K:Value → World → Prop} (t T:TypeId) (i:TypeInfo) (z:Value) (bytes:Nat) (ht:P.underlying t = some (.slice e)) (hi:P.info? e = some i) (hz:i.zero = some z)
  (hsize:i.size = n) (hby:i.bytes = bytes) (hzs:z.cells.size = n) (hn:0 < n) (hbb:bytes ≤ 64)
  (h:GRow n e V B D w v l) (hB:B ≤ w.heap.size) {b o c:Nat} {x:α} {xs:List Value} (hxl:xs.length = n) (hcell:∀ (j:Nat) (u:Value),xs[j]? = some u → w.cell? ⟨b,o + j,none⟩ = some u) (h1:∀ u ∈ xs,u.oneCell' = true)
  (hx:FP D w (fun w=>V w xs x)) (hD:∀ i,D i → i < w.heap.size ∧ v.ownBlock ≠ some i) (hl:l.length < 1099511627776)
  (k:∀ v' w',GRow n e V B D w' v' (l ++ [x]) → w.grownBy w' v.ownBlock → (∀ i,v'.ownBlock = some i → v.ownBlock = some i ∨ w.heap.size ≤ i) → (∀ i,D i → i < w'.heap.size ∧ v'.ownBlock ≠ some i) →
   GRow n e V B D w' v l → (∀ u,GRow n e V B D w u (l ++ [x]) → GRow n e V B D w' u (l ++ [x])) → K v' w') :
  oM P (.call { callee:=.builtin .append,args:=#[.tmp 0,.tmp 1],argTypes:=#[t,t] }) T [v,.slice (some ⟨b,o,none⟩) 1 c] K w:=by
 obtain ⟨cs,ho,hf⟩:=h.ex
 have hlx:(flat Cl.cs cs).length = l.length * n:=ho.1
 refine append_at2 t T e i z n bytes ht hi hz hsize hby hzs hn (owns_base ho (Nat.zero_le _)) xs (by omega) ?_ h1 (by simp only [maxLen]; omega) (by have:(l.length + 1) * bytes ≤ 1099511627776 * 64:=Nat.mul_le_mul (by omega) hbb; omega) ?_
 ·intro j u hj
  rw [add_none]
  exact hcell j u hj
 ·intro v' w' ho' hg hv hor
  have hf':=hf.by hg hD
  have hDw:∀ i,D i → i < w.heap.size:=fun i hi=>(hD i hi).1
  have hnew:GRow n e V B D w' v' (l ++ [x]):=by
   refine ⟨cs ++ [⟨xs,hxl⟩],?_,?_⟩
   ·have e2:flat Cl.cs (cs ++ [(⟨xs,hxl⟩:Cl n)]) = flat Cl.cs cs ++ xs:=by rw [flat_snoc]; rfl
    have e1:(l ++ [x]).length = l.length + 1:=by simp
    rw [e1,e2]
    exact owns_up ho' (fun i hi=>(hv i hi).elim (fun h=>(owns_own ho h).2.1) (fun h=>Nat.le_trans hB h))
   ·have hx':=hx.by hg hD
    refine (hf'.both hx').imp ?_
    rintro w2 ⟨⟨hc1,hc2⟩,hx2⟩
    refine ⟨by simp [hc1],fun i c y hi hy=>?_⟩
    by_cases hlt:i < cs.length
    ·rw [List.getElem?_append_left hlt] at hi
     rw [List.getElem?_append_left (by omega)] at hy
     exact hc2 i c y hi hy
    ·rw [List.getElem?_append_right (by omega)] at hi
     rw [List.getElem?_append_right (by omega)] at hy
     have:i - cs.length = 0:=by
      have:=(List.getElem?_eq_some_iff.1 hi).1
      simp at this
      omega
     rw [this] at hi
     rw [show i - l.length = 0 by omega] at hy
     simp at hi hy
     subst hi; subst hy
     exact hx2
  refine k v' w' hnew hg hv ?_ ?_ ?_
  ·intro i hi
   obtain ⟨h2,h3⟩:=hD i hi
   refine ⟨Nat.lt_of_lt_of_le h2 hg.size,fun e=>?_⟩
   rcases hv i e with h4 | h4
   ·exact h3 h4
   ·omega
  ·rcases hor with hb | ⟨g,cap,e1,e2⟩
   ·exact h.next hb hDw
   ·subst e1; subst e2
    exact ⟨cs,owns_up (owns_part ho' hlx) (fun i hi=>(owns_own ho hi).2.1),hf'⟩
  ·intro u hu
   rcases hor with hb | ⟨g,cap,e1,e2⟩
   ·exact hu.next hb hDw
   ·obtain ⟨cu,hou,hfu⟩:=hu.ex
    by_cases hug:u.ownBlock = v.ownBlock
    ·obtain ⟨gv,hgv⟩:∃ gv,v.ownBlock = some gv:=⟨g,by rw [e1]; rfl⟩
     have hug':u = v':=by
      rcases hou.2 with ⟨_,h0⟩ | ⟨g1,cap1,cur1,hu1,_,hg1,_,_,hs1,_⟩
      ·simp at h0
      rcases ho.2 with ⟨hv1,_⟩ | ⟨g2,cap2,cur2,hv2,_,hg2,_,_,hs2,_⟩
      ·rw [hv1] at hgv; cases hgv
      rw [hv2] at e1
      cases e1
      have e3:g1 = g:=by
       rw [hu1,hv2] at hug
       exact Option.some.inj hug
      subst e3
      rw [hg1] at hg2
      cases hg2
      rw [hs1] at hs2
      rw [hu1,e2,Nat.eq_of_mul_eq_mul_right hn hs2]
      simp
     rw [hug']
     exact hnew
    ·exact hu.keep (Fr.of_by' hg) (fun i hi=>⟨hDw i hi,(hD i hi).2⟩) (fun i hi e=>hug (hi.trans e.symm))
end
end Go.Sh
namespace Go.Proofs
open Go Go.Sh Go.RowKit FdSpec TkSpec CodeSpec PrSpec
section
variable {K:Value → World → Prop} {w w' w0 W:World} {L:List (Addr × Value)}
theorem ints_append2 {B g c n:Nat} {D:Nat → Prop} {v:Value} {l:List (List Int)} {x:List Int} {T:TypeId} (h:ListG B D w v l) (hB:B ≤ w.heap.size) {b:Nat} {ad:Option Addr} (hh:Holds w b 24 [.slice ad n c])
  (hx:FP D w (fun w=>Ints w (.slice ad n c) x)) (hD:Off D w v) (hl:l.length < 1099511627776)
  (k:∀ v' w',ListG B D w' v' (l ++ [x]) → w.grownBy w' v.ownBlock → (∀ i,v'.ownBlock = some i → v.ownBlock = some i ∨ w.heap.size ≤ i) → Off D w' v' → ListG B D w' v l → (∀ u,ListG B D w u (l ++ [x]) → ListG B D w' u (l ++ [x])) → K v' w') :
  oM Tryz.prog (.call { callee:=.builtin .append,args:=#[.tmp 0,.tmp 1],argTypes:=#[30,30] }) T [v,.slice (some ⟨b,0,none⟩) 1 g] K w:=by
 refine grow_append2 30 T ((Tryz.prog.info? 24).getD default) (.slice none 0 0) 24 (by kernel_rfl) (by kernel_rfl) (by kernel_rfl) (by kernel_rfl) (by kernel_rfl) (by kernel_rfl) (by decide) (by decide)
  h hB (xs:=[.slice ad n c]) rfl ?_ (row_one _ _ _) (hx.imp fun w h=>⟨_,rfl,h⟩) hD hl k
 intro j u hj
 rw [cell_of_block hh]
 simpa using hj
theorem lists_append2 {B g c n:Nat} {D:Nat → Prop} {v:Value} {l:List (List (List Int))} {x:List (List Int)} {T:TypeId} (h:NumG B D w v l) (hB:B ≤ w.heap.size) {b:Nat} {ad:Option Addr} (hh:Holds w b 30 [.slice ad n c])
  (hx:FP D w (fun w=>ListsR w (.slice ad n c) x)) (hD:Off D w v) (hl:l.length < 1099511627776)
  (k:∀ v' w',NumG B D w' v' (l ++ [x]) → w.grownBy w' v.ownBlock → (∀ i,v'.ownBlock = some i → v.ownBlock = some i ∨ w.heap.size ≤ i) → Off D w' v' → NumG B D w' v l → (∀ u,NumG B D w u (l ++ [x]) → NumG B D w' u (l ++ [x])) → K v' w') :
  oM Tryz.prog (.call { callee:=.builtin .append,args:=#[.tmp 0,.tmp 1],argTypes:=#[29,29] }) T [v,.slice (some ⟨b,0,none⟩) 1 g] K w:=by
 refine grow_append2 29 T ((Tryz.prog.info? 30).getD default) (.slice none 0 0) 24 (by kernel_rfl) (by kernel_rfl) (by kernel_rfl) (by kernel_rfl) (by kernel_rfl) (by kernel_rfl) (by decide) (by decide)
  h hB (xs:=[.slice ad n c]) rfl ?_ (row_one _ _ _) (hx.imp fun w h=>⟨_,rfl,h⟩) hD hl k
 intro j u hj
 rw [cell_of_block hh]
 simpa using hj
structure DuoI (B:Nat) (D:Nat → Prop) (W:World) (v0 u0 xv yv:Value) (l:List (List Int)) (m:List (List (List Int))) (x:List Int) (y:List (List Int)):Prop where
 a:ListG B D W v0 l
 b:NumG B D W u0 m
 oa:Off D W v0
 ob:Off D W u0
 ap:apart v0 u0
 B:B ≤ W.heap.size
 x:FP D W (fun w=>Ints w xv x)
 y:FP D W (fun w=>ListsR w yv y)
 l:l.length < 1099511627776
 m:m.length < 1099511627776
def DuoC (B:Nat) (D:Nat → Prop) (W:World) (v0 u0:Value) (l:List (List Int)) (m:List (List (List Int))) (w:World):Prop:=Fr (fun i=>v0.ownBlock = some i ∨ u0.ownBlock = some i) W w ∧ ListG B D w v0 l ∧ NumG B D w u0 m
def DuoA (B:Nat) (D:Nat → Prop) (W:World) (v0:Value) (l:List (List Int)) (v:Value) (w:World):Prop:=ListG B D w v l ∧ Off D w v ∧ ∀ i,v.ownBlock = some i → v0.ownBlock = some i ∨ W.heap.size ≤ i
def DuoB (B:Nat) (D:Nat → Prop) (W:World) (u0:Value) (m:List (List (List Int))) (u:Value) (w:World):Prop:=NumG B D w u m ∧ Off D w u ∧ ∀ i,u.ownBlock = some i → u0.ownBlock = some i ∨ W.heap.size ≤ i
def DuoS (B:Nat) (D:Nat → Prop) (W:World) (v0 u0:Value) (l:List (List Int)) (m:List (List (List Int))) (w w1:World):Prop:=Fr (fun i=>v0.ownBlock = some i ∨ u0.ownBlock = some i) w w1 ∧ (∀ v,DuoA B D W v0 l v w → DuoA B D W v0 l v w1) ∧ (∀ u,DuoB B D W u0 m u w → DuoB B D W u0 m u w1)
def LitV (W:World) (T:TypeId) (x:Value) (v:Value) (w:World):Prop:=∃ g,v = .slice (some ⟨g,0,none⟩) 1 1 ∧ W.heap.size ≤ g ∧ Holds w g T [x]
theorem duo_below {B:Nat} {D:Nat → Prop} {v0 u0:Value} {l l2:List (List Int)} {m m2:List (List (List Int))} (h:DuoC B D W v0 u0 l m w) (hD:∀ i,D i → i < W.heap.size) (hb:Below w.heap.size w w'):DuoC B D W v0 u0 l m w' ∧ DuoS B D W v0 u0 l2 m2 w w':=by
 have hDw:∀ i,D i → i < w.heap.size:=fun i hi=>Nat.lt_of_lt_of_le (hD i hi) h.1.size
 exact ⟨⟨h.1.trans (S':=fun _=>False) (Fr.of_below hb) (fun _ h=>h.elim),h.2.1.next hb hDw,h.2.2.next hb hDw⟩,Fr.of_below hb,
  fun v hv=>⟨hv.1.next hb hDw,hv.2.1.next hb.size,hv.2.2⟩,fun v hv=>⟨hv.1.next hb hDw,hv.2.1.next hb.size,hv.2.2⟩⟩
theorem own_types {e e':TypeId} (hne:e ≠ e') {B B' n n' m m':Nat} {v u:Value} {xs ys:List Value} (h:w.ownsRow B e n v m xs) (k:w.ownsRow B' e' n' u m' ys):apart v u:=by
 intro i h1 h2
 obtain ⟨_,_,c1,e1⟩:=owns_own h h1
 obtain ⟨_,_,c2,e2⟩:=owns_own k h2
 rw [e1] at e2
 injection e2 with e2
 injection e2 with _ e3
 exact hne e3
theorem duo_free {Tail:Value → Value → Value → World → Prop} {B b6 i1:Nat} {D:Nat → Prop} {v0 u0:Value} {adx ady:Option Addr} {nx cx ny cy:Nat} {l:List (List Int)} {m:List (List (List Int))} {x':List Int} {y:List (List Int)} {T6 T1 T2 T3 T4 T5:TypeId}
  (h:DuoI B D W v0 u0 (.slice adx nx cx) (.slice ady ny cy) l m x' y)
  (hfa:∀ (K':Value → World → Prop) (w:World),K' (.pointer (some ⟨b6,i1,none⟩)) w → oM Tryz.prog (.fieldAddr T6 (.tmp 0) i1) T5 [.pointer (some ⟨b6,0,none⟩)] K' w)
  (k:∀ w v u,Fr (fun i=>v0.ownBlock = some i ∨ u0.ownBlock = some i) W w → DuoA B D W v0 (l ++ [x']) v w → DuoB B D W u0 (m ++ [y]) u w → apart v u → Tail v u (.pointer (some ⟨b6,i1,none⟩)) w) :
  ∃ S:World → World → Prop,∃ R1:Value → World → Prop,(∀ v w w1,S w w1 → R1 v w → R1 v w1) ∧
   (∀ w,DuoC B D W v0 u0 l m w → oM Tryz.prog (.buildSlice 30 1 #[(0,.tmp 0)]) T1 [.slice adx nx cx] (fun v w1=>DuoC B D W v0 u0 l m w1 ∧ S w w1 ∧ R1 v w1) w) ∧
   (∃ R2:Value → World → Prop,(∀ v w w1,S w w1 → R2 v w → R2 v w1) ∧
   (∀ w,DuoC B D W v0 u0 l m w → ∀ v1,R1 v1 w → oM Tryz.prog (.call { callee:=.builtin .append,args:=#[.tmp 0,.tmp 1],argTypes:=#[30,30] }) T2 [v0,v1] (fun v w1=>DuoC B D W v0 u0 l m w1 ∧ S w w1 ∧ R2 v w1) w) ∧
   (∃ R3:Value → World → Prop,(∀ v w w1,S w w1 → R3 v w → R3 v w1) ∧
   (∀ w,DuoC B D W v0 u0 l m w → oM Tryz.prog (.buildSlice 29 1 #[(0,.tmp 0)]) T3 [.slice ady ny cy] (fun v w1=>DuoC B D W v0 u0 l m w1 ∧ S w w1 ∧ R3 v w1) w) ∧
   (∃ R4:Value → World → Prop,(∀ v w w1,S w w1 → R4 v w → R4 v w1) ∧
   (∀ w,DuoC B D W v0 u0 l m w → ∀ v1,R3 v1 w → oM Tryz.prog (.call { callee:=.builtin .append,args:=#[.tmp 0,.tmp 1],argTypes:=#[29,29] }) T4 [u0,v1] (fun v w1=>DuoC B D W v0 u0 l m w1 ∧ S w w1 ∧ R4 v w1) w) ∧
   (∃ R5:Value → World → Prop,(∀ v w w1,S w w1 → R5 v w → R5 v w1) ∧
   (∀ w,DuoC B D W v0 u0 l m w → oM Tryz.prog (.fieldAddr T6 (.tmp 0) i1) T5 [.pointer (some ⟨b6,0,none⟩)] (fun v w1=>DuoC B D W v0 u0 l m w1 ∧ S w w1 ∧ R5 v w1) w) ∧
   (∀ w,DuoC B D W v0 u0 l m w → ∀ v1,R1 v1 w → ∀ v2,R2 v2 w → ∀ v3,R3 v3 w → ∀ v4,R4 v4 w → ∀ v5,R5 v5 w → Tail v2 v4 v5 w))))):=by
 have hD:∀ i,D i → i < W.heap.size:=fun i hi=>(h.oa i hi).1
 have hDo:∀ i,D i → i < W.heap.size ∧ ¬ (v0.ownBlock = some i ∨ u0.ownBlock = some i):=fun i hi=>⟨hD i hi,fun e=>e.elim (h.oa i hi).2 (h.ob i hi).2⟩
 have hv0:∀ i,v0.ownBlock = some i → i < W.heap.size:=fun i hi=>(h.a.own hi).1
 have hu0:∀ i,u0.ownBlock = some i → i < W.heap.size:=fun i hi=>(h.b.own hi).1
 have hlit:∀ (T:TypeId) (x v:Value) (w w1:World),DuoS B D W v0 u0 (l ++ [x']) (m ++ [y]) w w1 → LitV W T x v w → LitV W T x v w1:=by
  rintro T x v w w1 hS ⟨g,rfl,hg,hh⟩
  refine ⟨g,rfl,hg,(hS.1.block g hh.lt (fun e=>?_)).trans hh⟩
  rcases e with e | e
  ·have:=hv0 g e; omega
  ·have:=hu0 g e; omega
 refine ⟨DuoS B D W v0 u0 (l ++ [x']) (m ++ [y]),LitV W 24 (.slice adx nx cx),fun v w w1=>hlit _ _ v w w1,?_,DuoA B D W v0 (l ++ [x']),fun v w w1 hS hv=>hS.2.1 v hv,?_,
  LitV W 30 (.slice ady ny cy),fun v w w1=>hlit _ _ v w w1,?_,DuoB B D W u0 (m ++ [y]),fun v w w1 hS hv=>hS.2.2 v hv,?_,fun v _=>v = .pointer (some ⟨b6,i1,none⟩),fun _ _ _ _ h=>h,?_,?_⟩
 ·intro w hC
  refine lit_ints _ _ _ (fun g w1 hb hg hh=>?_)
  have h2:=duo_below hC hD hb (l2:=l ++ [x']) (m2:=m ++ [y])
  exact ⟨h2.1,h2.2,g,rfl,Nat.le_trans hC.1.size hg,hh⟩
 ·rintro w hC _ ⟨g,rfl,hg,hh⟩
  have hws:=hC.1.size
  refine ints_append2 hC.2.1 (Nat.le_trans h.B hws) hh (h.x.fr hC.1 hDo) (fun i hi=>⟨Nat.lt_of_lt_of_le (hD i hi) hws,(h.oa i hi).2⟩) h.l (fun v' w' hg' hb hv ho hold hst=>?_)
  have hDv:∀ i,D i → i < w.heap.size ∧ ¬ v0.ownBlock = some i:=fun i hi=>⟨Nat.lt_of_lt_of_le (hD i hi) hws,(h.oa i hi).2⟩
  refine ⟨⟨hC.1.by hb (fun i e=>.inl (.inl e)),hold,hC.2.2.keep (Fr.of_by' hb) hDv (fun i hi e=>h.ap i e hi)⟩,⟨(Fr.of_by' hb).mono (fun i _ e=>.inl e),fun v hv=>⟨hst v hv.1,hv.2.1.next hb.size,hv.2.2⟩,fun u hu=>⟨hu.1.keep (Fr.of_by' hb) hDv (fun i hi e=>?_),hu.2.1.next hb.size,hu.2.2⟩⟩,
   hg',ho,fun i hi=>(hv i hi).imp id (fun e=>Nat.le_trans hws e)⟩
  rcases hu.2.2 i hi with e2 | e2
  ·exact h.ap i e e2
  ·have:=hv0 i e; omega
 ·intro w hC
  refine lit_lists _ _ _ (fun g w1 hb hg hh=>?_)
  have h2:=duo_below hC hD hb (l2:=l ++ [x']) (m2:=m ++ [y])
  exact ⟨h2.1,h2.2,g,rfl,Nat.le_trans hC.1.size hg,hh⟩
 ·rintro w hC _ ⟨g,rfl,hg,hh⟩
  have hws:=hC.1.size
  refine lists_append2 hC.2.2 (Nat.le_trans h.B hws) hh (h.y.fr hC.1 hDo) (fun i hi=>⟨Nat.lt_of_lt_of_le (hD i hi) hws,(h.ob i hi).2⟩) h.m (fun v' w' hg' hb hv ho hold hst=>?_)
  have hDv:∀ i,D i → i < w.heap.size ∧ ¬ u0.ownBlock = some i:=fun i hi=>⟨Nat.lt_of_lt_of_le (hD i hi) hws,(h.ob i hi).2⟩
  refine ⟨⟨hC.1.by hb (fun i e=>.inl (.inr e)),hC.2.1.keep (Fr.of_by' hb) hDv (fun i hi e=>h.ap i hi e),hold⟩,⟨(Fr.of_by' hb).mono (fun i _ e=>.inr e),fun v hv=>⟨hv.1.keep (Fr.of_by' hb) hDv (fun i hi e=>?_),hv.2.1.next hb.size,hv.2.2⟩,fun u hu=>⟨hst u hu.1,hu.2.1.next hb.size,hu.2.2⟩⟩,
   hg',ho,fun i hi=>(hv i hi).imp id (fun e=>Nat.le_trans hws e)⟩
  rcases hv.2.2 i hi with e2 | e2
  ·exact h.ap i e2 e
  ·have:=hu0 i e; omega
 ·intro w hC
  refine hfa _ _ ?_
  have h2:=duo_below hC hD (Below.refl _ _) (l2:=l ++ [x']) (m2:=m ++ [y])
  exact ⟨h2.1,h2.2,rfl⟩
 ·rintro w hC _ _ v hv _ _ u hu _ rfl
  refine k w v u hC.1 hv hu ?_
  obtain ⟨_,o1,_⟩:=hv.1.ex
  obtain ⟨_,o2,_⟩:=hu.1.ex
  exact own_types (by decide) o1 o2
end
end Go.Proofs
namespace PrSpec
open FdSpec TkSpec CodeSpec FdPoly GrLaw
def doneR (r:Rd):Bool:=!r.bad && decide (r.rest = [])
def rowsM (vs:List Int):(List (List Int) × List (List (List Int))) × Rw:=clausesR (countR ⟨vs,false⟩).1 (countR ⟨vs,false⟩).2
def decodeM (s:Bytes):(List (List Int) × List (List (List Int))) × Bool:=
 if doneR (rdNums ⟨s,false⟩).2 && !(rowsM (rdNums ⟨s,false⟩).1).2.bad && decide ((rowsM (rdNums ⟨s,false⟩).1).2.left = []) then ((rowsM (rdNums ⟨s,false⟩).1).1,true) else (([],[]),false)
theorem encInt_pos (n:Int):1 ≤ (encInt n).length:=by simp [encInt]
theorem encNums_pos (vs:List Int):vs.length ≤ (encNums vs).length:=by
 have:vs.length ≤ ((vs.map encInt).flatten).length:=by
  induction vs with
  | nil=>simp
  | cons a l ih=>
   have:=encInt_pos a
   simp only [List.map_cons,List.flatten_cons,List.length_append,List.length_cons]
   omega
 simp only [encNums,encList,List.length_append,List.length_cons]
 omega
theorem rdNums_len (s:Bytes):(rdNums ⟨s,false⟩).1.length ≤ s.length:=by
 rcases rdNums_some ⟨s,false⟩ Rd.ok_good with h | ⟨vs,t,h,e,_⟩
 ·rw [h]; simp
 ·rw [h]
  have e2:s = encNums vs ++ t:=congrArg Rd.rest e
  have:=encNums_pos vs
  rw [e2,List.length_append]
  show vs.length ≤ _
  omega
theorem clauseL_len:∀ (ds:List (List Int)) (asx:List (List (List Int))),evenL ds asx = true → ds.length ≤ (clauseL ds asx).length
 | [],_,_=>by simp
 | _ :: _,[],h=>by simp [evenL] at h
 | d :: ds,a :: asx,h=>by
  simp only [evenL,Bool.and_eq_true] at h
  have:=clauseL_len ds asx h.2
  simp only [clauseL,List.length_cons,List.length_append]
  omega
theorem decode_encode {ds:List (List Int)} {asx:List (List (List Int))} (he:evenL ds asx = true) (hin:∀ x ∈ (ds.length:Int) :: clauseL ds asx,InR x) (hl:(((ds.length:Int) :: clauseL ds asx).length:Int) ≤ 9223372036854775807):decodeM (encodeM ds asx).1 = ((ds,asx),true):=by
 unfold encodeM
 rw [if_pos he]
 have h1:=rdNums_enc ((ds.length:Int) :: clauseL ds asx) [] hl hin
 rw [List.append_nil] at h1
 have h2:rowsM ((ds.length:Int) :: clauseL ds asx) = ((ds,asx),⟨[],false⟩):=by
  unfold rowsM
  have hle:=clauseL_len ds asx he
  rw [count_cons hle]
  have:=clauses_enc ds asx [] false he
  rwa [List.append_nil] at this
 unfold decodeM
 simp only [h1,h2]
 simp [doneR]
end PrSpec
namespace Go.Proofs
open Go Go.Sh Go.RowKit FdSpec TkSpec CodeSpec PrSpec
section
variable {K:Value → World → Prop} {w w' w0 W:World} {L:List (Addr × Value)}
theorem nextR_len (r:Rw):(nextR r).2.left.length ≤ r.left.length:=by
 unfold nextR; split <;> simp_all
theorem countR_len (r:Rw):(countR r).2.left.length ≤ r.left.length ∧ (countR r).1 ≤ r.left.length ∧ (countR r).1 ≤ (countR r).2.left.length:=by
 have:=nextR_len r
 unfold countR
 split
 ·exact ⟨this,Nat.zero_le _,Nat.zero_le _⟩
 ·rename_i h
  refine ⟨this,?_,?_⟩ <;> simp only <;> omega
structure Inn (B b:Nat) (W w:World) (r:Rw) (dv av:Value) (ds:List Int) (al:List (List Int)) (D:Nat → Prop):Prop where
 fr:Fr (fun i=>i = b) W w
 rw:IsRw B w b r
 B:B ≤ W.heap.size
 d:OwnI w W.heap.size dv ds
 a:ListG W.heap.size D w av al
 od:Off D w dv
 oa:Off D w av
 ap:apart dv av
 low:∀ i,D i → W.heap.size ≤ i
 rng:∀ x ∈ ds,I64 x
section
variable {B b:Nat} {r r':Rw} {dv av:Value} {ds:List Int} {al:List (List Int)} {D:Nat → Prop}
theorem IsRw.lt (h:IsRw B w b r):b < B:=by obtain ⟨_,_,_,h,_⟩:=h; exact h
theorem Inn.start (hr:IsRw B W b r) (hB:B ≤ W.heap.size):Inn B b W W r (.slice none 0 0) (.slice none 0 0) [] [] (fun _=>False):=
 ⟨Fr.refl _ _,hr,hB,own_none,.nil,fun i h=>h.elim,fun i h=>h.elim,(fun i h=>by cases h),fun i h=>h.elim,by simp⟩
theorem Inn.read (h:Inn B b W w r dv av ds al D) (hg:w.grownBy w' (some b)) (hr:IsRw B w' b r'):Inn B b W w' r' dv av ds al D:=by
 have hb:=h.rw.lt
 have hWB:=h.B
 exact ⟨h.fr.by hg (fun i e=>.inl (Option.some.inj e).symm),hr,h.B,
  owns_keep h.d (fun i hi=>hg.block i (owns_own h.d hi).1 (fun e=>by have:=(owns_own h.d hi).2.1; have:=Option.some.inj e; omega)),
  h.a.keep (Fr.of_by hg) (fun i hi=>⟨(h.od i hi).1,fun e=>by have:=h.low i hi; omega⟩) (fun i hi e=>by have:=(h.a.own hi).2; omega),
  h.od.next hg.size,h.oa.next hg.size,h.ap,h.low,h.rng⟩
theorem Inn.next (h:Inn B b W w r dv av ds al D) (hb:Below w.heap.size w w'):Inn B b W w' r dv av ds al D:=
 ⟨h.fr.trans (S':=fun _=>False) (Fr.of_below hb) (fun _ h=>h.elim),h.rw.keep (hb.mono (Nat.le_trans h.B h.fr.size)),h.B,h.d.keep hb,h.a.next hb (fun i hi=>(h.od i hi).1),h.od.next hb.size,h.oa.next hb.size,h.ap,h.low,h.rng⟩
theorem Inn.rwBy (h:Inn B b W w r dv av ds al D) {o:Option Nat} (hg:w.grownBy w' o) (ho:∀ i,o = some i → W.heap.size ≤ i):IsRw B w' b r:=
 h.rw.keep ⟨hg.os,hg.tape,hg.output,hg.size,fun i hi=>hg.block i (by have:=h.B; have:=h.fr.size; omega) (fun e=>by have h1:=ho i e.symm; have:=h.B; omega)⟩
theorem Inn.addD {T:TypeId} {xv:Value} {x:Int} (h:Inn B b W w r dv av ds al D) (hx:Ints w xv [x]) (hl:ds.length < 1099511627776)
  (k:∀ v w',Inn B b W w' r v av (ds ++ [x]) al D → K v w'):oM Tryz.prog (.call { callee:=.builtin .append,args:=#[.tmp 0,.tmp 1],argTypes:=#[24,24] }) T [dv,xv] K w:=by
 have hown:=fun i (hi:dv.ownBlock = some i)=>(owns_own h.d hi)
 refine append1g h.d h.fr.size hx hl (fun v w' ho hg hv=>k v w' ⟨h.fr.by hg (fun i e=>.inr (hown i e).2.1),h.rwBy hg (fun i e=>(hown i e).2.1),h.B,ho,h.a.keep (Fr.of_by' hg) (fun i hi=>⟨(h.od i hi).1,(h.od i hi).2⟩) (fun i hi e=>h.ap i e hi),?_,h.oa.next hg.size,?_,h.low,?_⟩)
 ·intro i hi
  refine ⟨Nat.lt_of_lt_of_le (h.od i hi).1 hg.size,fun e=>?_⟩
  rcases hv i e with h1 | h1
  ·exact (h.od i hi).2 h1
  ·have:=(h.od i hi).1; omega
 ·intro i e1 e2
  rcases hv i e1 with h1 | h1
  ·exact h.ap i h1 e2
  ·have:=(h.a.own e2).1; omega
 ·intro y hy
  rcases List.mem_append.1 hy with hy | hy
  ·exact h.rng y hy
  ·exact hx.rng y hy
theorem Inn.addA {T:TypeId} {g n c gb:Nat} {ad:Option Addr} {x:List Int} {E:Nat → Prop} (h:Inn B b W w r dv av ds al D) (hh:Holds w gb 24 [.slice ad n c]) (hx:FP E w (fun w=>Ints w (.slice ad n c) x)) (hE:∀ i,E i → W.heap.size ≤ i ∧ i < w.heap.size ∧ dv.ownBlock ≠ some i ∧ av.ownBlock ≠ some i) (hl:al.length < 1099511627776)
  (k:∀ v w',Inn B b W w' r dv v ds (al ++ [x]) (fun i=>D i ∨ E i) → K v w'):oM Tryz.prog (.call { callee:=.builtin .append,args:=#[.tmp 0,.tmp 1],argTypes:=#[30,30] }) T [av,.slice (some ⟨gb,0,none⟩) 1 g] K w:=by
 have hD':Off (fun i=>D i ∨ E i) w av:=fun i hi=>hi.elim (h.oa i) (fun hi=>⟨(hE i hi).2.1,(hE i hi).2.2.2⟩)
 have hD2:Off (fun i=>D i ∨ E i) w dv:=fun i hi=>hi.elim (h.od i) (fun hi=>⟨(hE i hi).2.1,(hE i hi).2.2.1⟩)
 refine ints_append (h.a.mono fun i hi=>.inl hi) h.fr.size hh (hx.mono fun i hi=>.inr hi) hD' hl (fun v w' hg hb hv ho=>k v w' ⟨h.fr.by hb (fun i e=>.inr (h.a.own e).2),h.rwBy hb (fun i e=>(h.a.own e).2),h.B,owns_keep h.d (fun i hi=>hb.block i (owns_own h.d hi).1 (fun e=>h.ap i hi (by first | exact e | exact e.symm))),hg,hD2.next hb.size,ho,?_,?_,h.rng⟩)
 ·intro i e1 e2
  rcases hv i e2 with h1 | h1
  ·exact h.ap i e1 h1
  ·have:=(owns_own h.d e1).1; omega
 ·rintro i (hi | hi)
  ·exact h.low i hi
  ·exact (hE i hi).1
end
theorem itemsR_succ (k:Nat) (r:Rw):itemsR (k + 1) r = (((nextR r).1 :: (itemsR k (takeR (countR (nextR r).2).1 (countR (nextR r).2).2).2).1.1,(takeR (countR (nextR r).2).1 (countR (nextR r).2).2).1 :: (itemsR k (takeR (countR (nextR r).2).1 (countR (nextR r).2).2).2).1.2),(itemsR k (takeR (countR (nextR r).2).1 (countR (nextR r).2).2).2).2):=rfl
theorem clausesR_succ (k:Nat) (r:Rw):clausesR (k + 1) r = (((itemsR (countR r).1 (countR r).2).1.1 :: (clausesR k (itemsR (countR r).1 (countR r).2).2).1.1,(itemsR (countR r).1 (countR r).2).1.2 :: (clausesR k (itemsR (countR r).1 (countR r).2).2).1.2),(clausesR k (itemsR (countR r).1 (countR r).2).2).2):=rfl
def IjJ (B b N:Nat) (W:World) (n:Nat) (R:(List Int × List (List Int)) × Rw) (vs:List Value) (w':World):Prop:=∃ (dv u av:Value) (k:Nat) (r:Rw) (ds:List Int) (al:List (List Int)) (D:Nat → Prop),vs = [dv,u,av,.int .i64 (k:Int)] ∧ k ≤ n ∧ Inn B b W w' r dv av ds al D ∧ r.left.length ≤ N ∧ ds.length = k ∧ al.length = k ∧
 R = ((ds ++ (itemsR (n - k) r).1.1,al ++ (itemsR (n - k) r).1.2),(itemsR (n - k) r).2)
@[reducible] def zPv:Value:=prfV (.slice none 0 0) (.slice none 0 0)
theorem al_prf (w:World):(Instr.alloc 34 true (.tuple #[])).run Tryz.prog w = .ok (.pointer (some ⟨w.heap.size,0,none⟩)) (w.alloc (.cells [.slice none 0 0,.slice none 0 0].toArray 34)):=by kernel_rfl
theorem sz_prf (w:World):(sizeOf 34).run Tryz.prog w = .ok 2 w:=by kernel_rfl
theorem prf_one (ad ad2:Option Addr) (n c n2 c2:Nat):∀ u ∈ prfC (.slice ad n c) (.slice ad2 n2 c2),u.oneCell' = true:=by
 intro u hu
 simp only [prfC,List.mem_cons,List.not_mem_nil,or_false] at hu
 rcases hu with rfl | rfl <;> rfl
theorem build_row (T:TypeId) (ad:Option Addr) (n c:Nat):oM Tryz.prog (Go.Op.build 160 #[(0,(.tmp 0))]) T [.slice ad n c] = pureM (.agg #[.slice ad n c,.bool false]):=by
 funext K w
 kernel_rfl
def OjJ (B3 b15 b6 N n:Nat) (W:World) (R:(List (List Int) × List (List (List Int))) × Rw) (vs:List Value) (w':World):Prop:=∃ (u1 u2 u3 dv av:Value) (i:Nat) (r:Rw) (ds:List (List Int)) (al:List (List (List Int))) (D:Nat → Prop),vs = [u1,u2,u3,.int .i64 (i:Int)] ∧ i ≤ n ∧ Fr (fun j=>j = b15 ∨ j = b6) W w' ∧ IsRw B3 w' b15 r ∧ Holds w' b6 34 [dv,av] ∧
 ListG W.heap.size D w' dv ds ∧ NumG W.heap.size D w' av al ∧ Off D w' dv ∧ Off D w' av ∧ apart dv av ∧ (∀ j,D j → W.heap.size ≤ j) ∧ r.left.length ≤ N ∧ ds.length = i ∧ al.length = i ∧
 R = ((ds ++ (clausesR (n - i) r).1.1,al ++ (clausesR (n - i) r).1.2),(clausesR (n - i) r).2)
theorem knm_fr {S:Nat → Prop} {g n:Nat} (h:KnM w0 [] g n w) (hf:Fr S w w') (hS:∀ i,S i → w0.heap.size ≤ i ∧ i ≠ g):KnM w0 [] g n w':=by
 have hlt:=mine_lt h.mine
 refine ⟨⟨⟨hf.os.trans h.kn.below.os,hf.tape.trans h.kn.below.tape,hf.output.trans h.kn.below.output,Nat.le_trans h.kn.below.size hf.size,fun i hi=>(hf.block i (Nat.lt_of_lt_of_le hi h.kn.below.size) (fun e=>by have:=(hS i e).1; omega)).trans (h.kn.below.block i hi)⟩,trivial⟩,?_,h.base,h.off⟩
 obtain ⟨cur,T,h1,h2⟩:=h.mine
 exact ⟨cur,T,(hf.block g hlt (fun e=>(hS g e).2 rfl)).trans h1,h2⟩
theorem own_inB {B:Nat} {v:Value} {l:List Int} (h:OwnI w B v l) {i:Nat} (hi:Value.inBlock v = some i):v.ownBlock = some i:=by
 rcases h.2 with ⟨rfl,_⟩ | ⟨g,cap,cur,rfl,_⟩
 ·cases hi
 ·exact hi
theorem Decode_ok (s:Bytes) (hs:s.length < 1000000000) (hl:Cd.LaidE w) (k:∀ w' dv av,Below w.heap.size w w' → ListsR w' dv (decodeM s).1.1 → NumsR w' av (decodeM s).1.2 → K (.tuple #[prfV dv av,.bool (decodeM s).2]) w'):callM Tryz.prog 52 #[.string ⟨s.toArray⟩] K w:=by
 apply sh_52_ok
 unfold sh_52
 refine alloc_mine (n:=2) al_prf rfl (.start w) fun g W2 hk hb2 hg=>?_
 have hgW:=mine_lt hk.mine
 refine Cd.open_ok s (fun w1 hr1 hb1=>?_)
 have hk1:=hk.next hb1
 have hl1:=hl.below hk1.below hl.size
 have h8:8 ≤ W2.heap.size:=Nat.le_trans hl.size hb2.size
 refine Cd.itemsNum_ok W2.heap.size _ hl1 h8 (by show s.length < _; omega) Rd.ok_good hr1 (fun v w2 hr2 hg2 ho2=>?_)
 have hfr:FrG W2.heap.size w1 w2:=(Fr.refl _ _).by hg2 (fun i e=>.inl (Option.some.inj e).symm)
 have hk2:=hk1.fr hfr (by simp) (by omega) hb2.size
 have hvl:=rdNums_len s
 have hdec:decodeM s = if doneR (rdNums ⟨s,false⟩).2 && !(rowsM (rdNums ⟨s,false⟩).1).2.bad && decide ((rowsM (rdNums ⟨s,false⟩).1).2.left = []) then ((rowsM (rdNums ⟨s,false⟩).1).1,true) else (([],[]),false):=rfl
 have k2:∀ w' dv av r,decodeM s = r → Below w.heap.size w w' → ListsR w' dv r.1.1 → NumsR w' av r.1.2 → K (.tuple #[prfV dv av,.bool r.2]) w':=fun w' dv av r e hb h1 h2=>by rw [← e] at h1 h2 ⊢; exact k w' dv av hb h1 h2
 clear k
 obtain ⟨⟨vs,r2⟩,hrd⟩:∃ p,rdNums ⟨s,false⟩ = p:=⟨_,rfl⟩
 rw [hrd] at hdec hr2 ho2 hvl
 simp only at hdec hr2 ho2 hvl
 have bad:∀ w2 (hk:KnM w [] g 2 w2),decodeM s = (([],[]),false) →
   oM Tryz.prog (Go.Op.store 34 (.tmp 0) (.tmp 1)) 0 [.pointer (some ⟨g,0,none⟩),zPv] (fun _ w=>
    ∃ r,(do loadVar 34 (← asAddr (.pointer (some ⟨g,0,none⟩))):Sem Value).run Tryz.prog w = .ok r w ∧ K (.tuple #[r,(.bool false)]) w) w2:=fun w2 hk e=>
  store_mine sz_prf rfl rfl (prf_one none none 0 0 0 0) hk (fun W3 hk hc=>⟨_,by simp [go_sem,hc],k2 _ _ _ _ e hk.below SRow.nil SRow.nil⟩)
 obtain ⟨vad,vc,rfl⟩:=owns_len ho2
 rw [build_row]
 refine arr_box (cs:=[.slice vad vs.length vc,.bool false]) rfl (fun b15 w3 h3 hg3 hh3=>?_)
 have hk3:=hk2.next h3
 have hr3:Cd.IsRd w3 W2.heap.size r2:=by
  unfold Cd.IsRd at hr2 ⊢
  exact (h3.block _ (Array.getElem?_eq_some_iff.1 hr2).1).trans hr2
 refine Cd.done_ok _ r2 hr3 ?_
 have hdd:Cd.rdDone r2 = doneR r2:=rfl
 rw [hdd]
 cases hd:doneR r2 with
 | false=>
  rw [hd] at hdec
  repeat (any_goals (first
  | (with_reducible refine yL ?_)
  | ((with_reducible refine oM_gen fun Kv hK=>?_); simp [go_sem]; refine hK _ _ ?_; clear hK Kv)))
  exact bad _ hk3 (by rw [hdec]; simp)
 | true=>
 rw [hd,Bool.true_and] at hdec
 iterate 2 (any_goals (first
 | (with_reducible refine yM ?_)
 | ((with_reducible refine oM_gen fun Kv hK=>?_); simp [go_sem]; refine hK _ _ ?_; clear hK Kv)))
 refine arr_alloc al_prf (fun b6 w4 h4 hg4 hh4=>?_)
 have hk4:=hk3.next h4
 have hh15:=hh3.next h4
 have hin:∀ x ∈ vs,I64 x:=by
  rcases rdNums_some ⟨s,false⟩ Rd.ok_good with h | ⟨vs',t,h,_,_,h'⟩
  ·rw [hrd] at h; cases h; simp
  ·rw [hrd] at h; cases h; exact fun x hx=>(InR_iff x).1 (h' x hx)
 have ho2':w2.ownsRow w1.heap.size 3 1 (.slice vad vs.length vc) vs.length (flat intC vs):=by rw [flat_int]; exact ho2
 have hints:Ints w2 (.slice vad vs.length vc) vs:=Ints.of_owns ho2' hin (by omega)
 have hcc:CI w2 (.slice vad vs.length vc) vs:=by
  refine ⟨hints,vad,vc,rfl,?_,?_⟩
  ·rcases ho2'.2 with ⟨h1,h2⟩ | ⟨g',cap,cur,h1,_,_,h2,_⟩
   ·injection h1 with ha hb hc; omega
   ·injection h1 with ha hb hc; omega
  ·rintro rfl
   rcases ho2'.2 with ⟨h1,h2⟩ | ⟨g',cap,cur,h1,_,_,h2,_⟩
   ·injection h1
   ·cases h1
 have hin2:∀ i,Value.inBlock (.slice vad vs.length vc) = some i → i < w2.heap.size:=fun i hi=>by
  rcases ho2'.2 with ⟨h1,_⟩ | ⟨g',cap,cur,h1,_,h2,_⟩
  ·injection h1 with ha hb hc; subst ha; cases hi
  ·cases h1; cases hi; exact (Array.getElem?_eq_some_iff.1 h2).1
 have s3:=h3.size
 have s4:=h4.size
 have hrw:IsRw w3.heap.size w4 b15 ⟨vs,false⟩:=⟨_,hh15,hcc.keep (by omega) (fun i hi _=>(h4.block i (by have:=hin2 i hi; omega)).trans (h3.block i (hin2 i hi))),hh3.lt,fun i hi=>⟨by have:=hin2 i hi; omega,by have:=hin2 i hi; omega⟩⟩
 refine count_ok hrw (fun w5 hr5 hg5=>?_)
 have hcl:=countR_len ⟨vs,false⟩
 have hn:(countR ⟨vs,false⟩).1 < 1000000000:=by have:=hcl.2.1; simp only at this; omega
 have hN:(countR ⟨vs,false⟩).2.left.length ≤ 1000000000:=by have:=hcl.1; simp only at this; omega
 have hR0:rowsM vs = clausesR (countR ⟨vs,false⟩).1 (countR ⟨vs,false⟩).2:=rfl
 generalize rowsM vs = R at *
 generalize (countR ⟨vs,false⟩).1 = n at *
 generalize (countR ⟨vs,false⟩).2 = r0 at *
 have hlt15:=hh15.lt
 have hlt6:=hh4.lt
 have hg4:g < w4.heap.size:=mine_lt hk4.mine
 have hne:b6 ≠ b15:=by have:=hh3.lt; omega
 have hh6:=hh4.other hg5 hne
 refine ⟨OjJ w3.heap.size b15 b6 1000000000 n w4 R,(fun vs _=>match vs with | [_,_,_,.int _ i]=>n - i.toNat | _=>0),⟨_,_,_,_,_,0,r0,[],[],fun _=>False,rfl,by omega,Fr.of_by hg5 |>.mono (fun i _ e=>.inl e),hr5,hh6,.nil,.nil,fun i h=>h.elim,fun i h=>h.elim,(fun i h=>by cases h),fun i h=>h.elim,hN,rfl,rfl,by simpa using hR0⟩,?_⟩
 rintro _ _ w6 ⟨u1,u2,u3,dv,av,i,r,ds,al,D,rfl,hi,hfr6,hr6,hh6,hgd,hga,hod,hoa,hap,hlow,hN,hdl,hal,hR⟩
 obtain ⟨dad,dc,rfl⟩:=hgd.isSlice
 obtain ⟨aad,ac,rfl⟩:=hga.isSlice
 have hk6:KnM w [] g 2 w6:=knm_fr hk4 hfr6 (fun j hj=>by
  have:=hk2.below.size
  rcases hj with rfl | rfl
  ·exact ⟨by omega,by have:=mine_lt hk2.mine; omega⟩
  ·exact ⟨by omega,by have:=mine_lt hk3.mine; omega⟩)
 by_cases hin:i = n
 ·rw [show n - i = 0 by omega] at hR
  have hR:R = ((ds,al),r):=by rw [hR]; simp [clausesR]
  obtain ⟨lv,hhr,hcr,hbr,hbi⟩:=id hr6
  obtain ⟨ad,c,rfl,hcap,hnn⟩:=id hcr.2
  rw [hR] at hdec
  have hll:=hcr.1.len
  cases hbad:r.bad with
  | true=>
   rw [hbad] at hhr
   repeat (any_goals (first
   | (with_reducible first|refine zD ?_|refine yB ?_|((refine idCond ?_); first|refine yL ?_|refine yO ?_))
   | ((with_reducible refine oM_gen fun Kv hK=>?_); simp [go_sem,hhr.are]; refine hK _ _ ?_; clear hK Kv)))
   exact bad _ hk6 (by rw [hdec]; simp [hbad])
  | false=>
  rw [hbad] at hhr
  by_cases hl0:(0:Int) < r.left.length
  ·have hl0':¬ r.left = []:=fun e=>by rw [e] at hl0; simp at hl0
   repeat (any_goals (first
   | (with_reducible first|refine pureM_in ?_|refine zC ?_|refine yC ?_|((refine idCond ?_); first|refine yN ?_|refine yO ?_))
   | ((with_reducible refine oM_gen fun Kv hK=>?_); simp [go_sem,hhr.are,hl0]; refine hK _ _ ?_; clear hK Kv)))
   exact bad _ hk6 (by rw [hdec]; simp [hl0'])
  ·have hl0':r.left = []:=List.eq_nil_of_length_eq_zero (by omega)
   repeat (any_goals (first
   | (with_reducible first|refine pureM_in ?_|refine zC ?_|refine yC ?_|refine yO ?_)
   | ((with_reducible refine oM_gen fun Kv hK=>?_); simp [go_sem,hhr.are,hl0,hh6.are]; refine hK _ _ ?_; clear hK Kv)))
   have hdec:decodeM s = ((ds,al),true):=by rw [hdec]; simp [hbad,hl0']
   obtain ⟨W3,e3,hg3',hm3,hc3⟩:=store_run (P:=Tryz.prog) (w:=w6) (W:=w6) sz_prf (x:=prfV (.slice dad ds.length dc) (.slice aad al.length ac)) (xs:=prfC (.slice dad ds.length dc) (.slice aad al.length ac)) rfl rfl (prf_one dad aad ds.length dc al.length ac) hk6.mine
   rw [oM_store,e3]
   have hk7:=hk6.kn.wrote hg3' hk6.base hk6.off
   have hDg:∀ i,D i → i < w6.heap.size ∧ ¬ i = g:=fun i hi=>⟨(hod i hi).1,fun e=>by have:=hlow i hi; omega⟩
   have hgd3:=hgd.keep (Fr.of_by hg3') hDg (fun i hi e=>by have:=(hgd.own hi).2; omega)
   have hga3:=hga.keep (Fr.of_by hg3') hDg (fun i hi e=>by have:=(hga.own hi).2; omega)
   exact ⟨prfV (.slice dad ds.length dc) (.slice aad al.length ac),by simp [go_sem,hc3],k2 W3 _ _ _ hdec hk7.below (hgd3.srow (by decide) (show ds.length ≤ _ by omega)) (hga3.srow (by decide) (show al.length ≤ _ by omega))⟩
 obtain ⟨m,hm⟩:∃ m,n - i = m + 1:=⟨n - i - 1,by omega⟩
 rw [hm,clausesR_succ] at hR
 iterate 2 (any_goals (first
 | (with_reducible refine yN ?_)
 | ((with_reducible refine oM_gen fun Kv hK=>?_); simp [go_sem]; refine hK _ _ ?_; clear hK Kv)))
 refine count_ok hr6 (fun w7 hr7 hg7=>?_)
 have hcl:=countR_len r
 have hn1:(countR r).1 < 1000000000 + 1:=by omega
 have hN1:(countR r).2.left.length ≤ 1000000000:=by omega
 generalize (countR r).1 = n1 at *
 generalize (countR r).2 = r1 at *
 have hB7:w4.heap.size ≤ w7.heap.size:=Nat.le_trans hfr6.size hg7.size
 refine ⟨IjJ w3.heap.size b15 1000000000 w7 n1 (itemsR n1 r1),(fun vs _=>match vs with | [_,_,_,.int _ i]=>n1 - i.toNat | _=>0),⟨_,_,_,0,r1,[],[],fun _=>False,rfl,by omega,Inn.start hr7 (Nat.le_trans s4 hB7),hN1,rfl,rfl,by simp⟩,?_⟩
 generalize hR1:itemsR n1 r1 = R1 at *
 rintro _ _ w8 ⟨dv1,u4,av1,kk,r2,ds1,al1,D1,rfl,hkk,hInn,hN2,hdl1,hal1,hRR⟩
 obtain ⟨d1ad,d1c,hdv1⟩:=owns_len hInn.d
 subst hdv1
 obtain ⟨a1ad,a1c,hav1⟩:=hInn.a.isSlice
 subst hav1
 by_cases hkn:kk = n1
 ·rw [show n1 - kk = 0 by omega] at hRR
  have hRR:R1 = ((ds1,al1),r2):=by rw [hRR]; simp [itemsR]
  have h6s:=hg7.size
  have h7s:=hInn.fr.size
  have hf68:Fr (fun j=>j = b15) w6 w8:=(Fr.of_by hg7).trans hInn.fr (fun i e=>.inl e)
  have h46:=hfr6.size
  have hD8:∀ i,D i → i < w6.heap.size ∧ ¬ i = b15:=fun i hi=>⟨(hod i hi).1,fun e=>by have:=hlow i hi; omega⟩
  have hgd8:=hgd.keep hf68 hD8 (fun i hi e=>by have:=(hgd.own hi).2; omega)
  have hga8:=hga.keep hf68 hD8 (fun i hi e=>by have:=(hga.own hi).2; omega)
  have hh8:Holds w8 b6 34 [.slice dad ds.length dc,.slice aad al.length ac]:=(hf68.block b6 hh6.lt (fun e=>hne e)).trans hh6
  have hodr:Below w8.heap.size w8 { w8 with drawn:=w8.drawn + 1 }:=.drawn
  have hI9:=hInn.next hodr
  have hgd9:=hgd8.next hodr (fun i hi=>Nat.lt_of_lt_of_le (hD8 i hi).1 (Nat.le_trans h6s h7s))
  have hga9:=hga8.next hodr (fun i hi=>Nat.lt_of_lt_of_le (hD8 i hi).1 (Nat.le_trans h6s h7s))
  have hh9:=hh8.next hodr
  have hs89:({ w8 with drawn:=w8.drawn + 1 }:World).heap.size = w8.heap.size:=rfl
  have hf69:Fr (fun j=>j = b15) w6 { w8 with drawn:=w8.drawn + 1 }:=hf68.drew
  have hown1:=fun i hi=>(hgd.own (i:=i) hi)
  have hown2:=fun i hi=>(hga.own (i:=i) hi)
  generalize hW9:({ w8 with drawn:=w8.drawn + 1 }:World) = W9 at *
  have hd1:=fun i (hi:(Value.slice d1ad ds1.length d1c).ownBlock = some i)=>owns_own hI9.d hi
  have ha1:=fun i (hi:(Value.slice a1ad al1.length a1c).ownBlock = some i)=>hI9.a.own hi
  have hoff:∀ (v:Value),(∀ i,v.ownBlock = some i → i < w6.heap.size) → Off D w6 v → Off (fun i=>D i ∨ D1 i ∨ (Value.slice d1ad ds1.length d1c).ownBlock = some i ∨ (Value.slice a1ad al1.length a1c).ownBlock = some i) W9 v:=by
   intro v hv hDv i hi
   rcases hi with hi | hi | hi | hi
   ·exact ⟨by have:=(hDv i hi).1; omega,(hDv i hi).2⟩
   ·exact ⟨(hI9.od i hi).1,fun e=>by have:=hv i e; have:=hI9.low i hi; omega⟩
   ·exact ⟨(hd1 i hi).1,fun e=>by have:=hv i e; have:=(hd1 i hi).2.1; omega⟩
   ·exact ⟨(ha1 i hi).1,fun e=>by have:=hv i e; have:=(ha1 i hi).2; omega⟩
  have hlow':∀ i,(D i ∨ D1 i ∨ (Value.slice d1ad ds1.length d1c).ownBlock = some i ∨ (Value.slice a1ad al1.length a1c).ownBlock = some i) → w4.heap.size ≤ i:=by
   intro i hi
   rcases hi with hi | hi | hi | hi
   ·exact hlow i hi
   ·have:=hI9.low i hi; omega
   ·have:=(hd1 i hi).2.1; omega
   ·have:=(ha1 i hi).2; omega
  have hduo:DuoI w4.heap.size (fun i=>D i ∨ D1 i ∨ (Value.slice d1ad ds1.length d1c).ownBlock = some i ∨ (Value.slice a1ad al1.length a1c).ownBlock = some i) W9 (.slice dad ds.length dc) (.slice aad al.length ac) (.slice d1ad ds1.length d1c) (.slice a1ad al1.length a1c) ds al ds1 al1:=
   ⟨hgd9.mono (fun i hi=>.inl hi),hga9.mono (fun i hi=>.inl hi),hoff _ (fun i hi=>(hown1 i hi).1) hod,hoff _ (fun i hi=>(hown2 i hi).1) hoa,hap,by omega,
    ((hI9.d.ints hI9.rng (by omega)).fp).mono (fun i hi=>.inr (.inr (.inl (own_inB hI9.d hi.1)))),(hI9.a.fp (by decide) (by omega)).mono (fun i hi=>hi.elim (fun h=>.inr (.inl h)) (fun h=>.inr (.inr (.inr h)))),by omega,by omega⟩
  obtain ⟨D',hD',hlow2⟩:∃ D':Nat → Prop,D' = (fun i=>D i ∨ D1 i ∨ (Value.slice d1ad ds1.length d1c).ownBlock = some i ∨ (Value.slice a1ad al1.length a1c).ownBlock = some i) ∧ ∀ i,D' i → w4.heap.size ≤ i:=⟨_,rfl,fun i hi=>hlow' i hi⟩
  rw [← hD'] at hduo
  clear hD' hlow' hoff
  have h6W:b6 < W9.heap.size:=hh9.lt
  have hcell:∀ w',Fr (fun i=>(Value.slice dad ds.length dc).ownBlock = some i ∨ (Value.slice aad al.length ac).ownBlock = some i) W9 w' → Holds w' b6 34 [.slice dad ds.length dc,.slice aad al.length ac]:=fun w' h=>(h.block b6 h6W (fun e=>by
   rcases e with e | e
   ·have:=(hown1 _ e).2; omega
   ·have:=(hown2 _ e).2; omega)).trans hh9
  have hcellC:∀ w',DuoC w4.heap.size D' W9 (.slice dad ds.length dc) (.slice aad al.length ac) ds al w' → Holds w' b6 34 [.slice dad ds.length dc,.slice aad al.length ac]:=fun w' h=>hcell w' h.1
  repeat (any_goals (first
  | (with_reducible refine yO ?_)
  | ((with_reducible refine oM_gen fun Kv hK=>?_); simp [go_sem]; refine hK _ _ ?_; clear hK Kv)))
  refine ⟨DuoC w4.heap.size D' W9 (.slice dad ds.length dc) (.slice aad al.length ac) ds al,by rw [hW9]; exact ⟨Fr.refl _ _,hduo.a,hduo.b⟩,rfl,?_⟩
  repeat (any_goals (first
  | (with_reducible refine pureH_in ?_)
  | ((with_reducible refine idOH ?_); (with_reducible refine oH_of ⟨_,rfl⟩ (fun W0 hW0=>by (refine oM_gen (fun Kv hK=>?_)); simp [go_sem,(hcellC _ hW0).are]; (first | exact hK _ _ ⟨rfl,rfl⟩ | exact ⟨by omega,hK _ _ ⟨rfl,rfl⟩⟩)) ?_))))
  refine duo_free hduo (i1:=0) (fun K' w h=>?_) (fun w v u hfr hA hB hap'=>?_)
  ·repeat (any_goals ((with_reducible refine oM_gen fun Kv hK=>?_); simp [go_sem]; refine hK _ _ ?_; clear hK Kv))
   exact h
  have hh10:=hcell w hfr
  obtain ⟨vad',vc',rfl⟩:=hA.1.isSlice
  obtain ⟨uad',uc',rfl⟩:=hB.1.isSlice
  refine arr_set (i:=0) sz_intsR rfl rfl hh10 (by simp) (fun w11 hg11 hh11=>?_)
  iterate 1 (any_goals ((with_reducible refine oM_gen fun Kv hK=>?_); simp [go_sem]; refine hK _ _ ?_; clear hK Kv))
  refine arr_set (i:=1) sz_intsR rfl rfl hh11 (by simp) (fun w12 hg12 hh12=>?_)
  repeat (any_goals ((with_reducible refine oM_gen fun Kv hK=>?_); simp [go_sem]; (try simp (disch:=omega) only [wrapI64,wrapU8,wrapU32,wrapU64]); refine hK _ _ ?_; clear hK Kv))
  have hg13:=grown_two hg11 hg12
  have hws:=hfr.size
  have hb6v:∀ i,D' i → i < w.heap.size ∧ ¬ i = b6:=fun i hi=>⟨(hA.2.1 i hi).1,fun e=>by have:=hlow2 i hi; omega⟩
  have hvB:∀ i,(Value.slice vad' (ds ++ [ds1]).length vc').ownBlock = some i → ¬ i = b6:=fun i hi e=>by have:=(hA.1.own hi).2; omega
  have huB:∀ i,(Value.slice uad' (al ++ [al1]).length uc').ownBlock = some i → ¬ i = b6:=fun i hi e=>by have:=(hB.1.own hi).2; omega
  have hf46:Fr (fun j=>j = b15 ∨ j = b6) w4 w12:=((hfr6.trans hf69 (fun i e=>.inl (.inl e))).trans hfr (fun i e=>.inr (e.elim (fun e=>(hown1 i e).2) (fun e=>(hown2 i e).2)))).by hg13 (fun i e=>.inl (.inr (Option.some.inj e).symm))
  have hrw12:IsRw w3.heap.size w12 b15 r2:=hI9.rw.keep ⟨hg13.os.trans hfr.os,hg13.tape.trans hfr.tape,hg13.output.trans hfr.output,Nat.le_trans hfr.size hg13.size,fun i hi=>(hg13.block i (by omega) (fun e=>by have:=Option.some.inj e; omega)).trans (hfr.block i (by omega) (fun e=>by
   rcases e with e | e
   ·have:=(hown1 _ e).2; omega
   ·have:=(hown2 _ e).2; omega))⟩
  refine ⟨⟨_,_,_,_,_,i + 1,r2,ds ++ [ds1],al ++ [al1],D',rfl,by omega,hf46,hrw12,hh12,hA.1.keep (Fr.of_by hg13) hb6v hvB,hB.1.keep (Fr.of_by hg13) hb6v huB,hA.2.1.next hg13.size,hB.2.1.next hg13.size,hap',hlow2,by omega,by rw [List.length_append,List.length_singleton]; omega,by rw [List.length_append,List.length_singleton]; omega,?_⟩,by show n - (((i + 1:Nat):Int)).toNat < n - ((i:Nat):Int).toNat; omega⟩
  rw [hR,hRR,show n - (i + 1) = m by omega]
  simp
 obtain ⟨m1,hm1⟩:∃ m,n1 - kk = m + 1:=⟨n1 - kk - 1,by omega⟩
 rw [hm1,itemsR_succ] at hRR
 iterate 2 (any_goals (first
 | (with_reducible refine yN ?_)
 | ((with_reducible refine oM_gen fun Kv hK=>?_); simp [go_sem]; refine hK _ _ ?_; clear hK Kv)))
 refine next_ok hInn.rw (fun w9 hr9 hg9 hx9=>?_)
 have hI9:=hInn.read hg9 hr9
 have hnl:=nextR_len r2
 generalize (nextR r2).1 = x at *
 generalize (nextR r2).2 = r3 at *
 refine mk1g x hx9 (fun v10 w10 h10 hi10 _=>?_)
 refine (hI9.next h10).addD hi10 (by omega) (fun dv2 w11 hI11=>?_)
 refine count_ok hI11.rw (fun w12 hr12 hg12=>?_)
 have hI12:=hI11.read hg12 hr12
 have hcl3:=countR_len r3
 generalize (countR r3).1 = n3 at *
 generalize (countR r3).2 = r4 at *
 obtain ⟨lv,hhr,hcr,hbr,hbi⟩:=id hI12.rw
 obtain ⟨ad,c,hlv,hcap,hnn⟩:=id hcr.2
 subst hlv
 iterate 3 (any_goals ((with_reducible refine oM_gen fun Kv hK=>?_); simp [go_sem,hhr.are]; refine hK _ _ ?_; clear hK Kv))
 refine CI.to hcr n3 hcl3.2.2 (fun v13 hi13=>?_)
 refine Clone_ok hi13 (by rw [List.length_take]; omega) (fun v14 w14 ho14 h14 hown14=>?_)
 have hI14:=hI12.next h14
 obtain ⟨ad14,c14,hv14⟩:=owns_len ho14
 subst hv14
 refine lit_ints _ _ _ (fun g15 w15 h15 hg15 hh15'=>?_)
 have hI15:=hI14.next h15
 have h7s:=hI12.fr.size
 have h14s:=h14.size
 have h15s:=h15.size
 have hi14:Ints w14 (.slice ad14 (r4.left.take n3).length c14) (r4.left.take n3):=Ints.of_owns ho14 hi13.rng hi13.len
 refine hI15.addA (E:=fun i=>(Value.slice ad14 (r4.left.take n3).length c14).ownBlock = some i) hh15' ((hi14.fp.mono (fun i hi=>own_inB ho14 hi.1)).next h15 (fun i hi=>(owns_own ho14 hi).1)) (fun i hi=>?_) (by omega) (fun av2 w16 hI16=>?_)
 ·have e1:=hown14 i hi
  have e2:=(owns_own ho14 hi).1
  exact ⟨by omega,by omega,fun e=>by have:=(owns_own hI12.d e).1; omega,fun e=>by have:=(hI12.a.own e).1; omega⟩
 obtain ⟨lv2,hhr2,hcr2,hbr2,hbi2⟩:=id hI16.rw
 obtain ⟨ad2,c2,hlv2,hcap2,hnn2⟩:=id hcr2.2
 subst hlv2
 iterate 3 (any_goals ((with_reducible refine oM_gen fun Kv hK=>?_); simp [go_sem,hhr2.are]; refine hK _ _ ?_; clear hK Kv))
 refine CI.from hcr2 n3 hcl3.2.2 (fun v17 hc17 hb17=>?_)
 obtain ⟨ad17,c17,hv17,_,_⟩:=id hc17.2
 subst hv17
 iterate 2 (any_goals ((with_reducible refine oM_gen fun Kv hK=>?_); simp [go_sem]; refine hK _ _ ?_; clear hK Kv))
 refine arr_set (i:=0) sz_intsR rfl rfl hhr2 (by simp) (fun w18 hg18 hh18=>?_)
 have hI18:=hI16.read (r':=(takeR n3 r4).2) hg18 ⟨_,hh18,hc17.keep hg18.size (fun i hi hlt=>hg18.block i hlt (fun e=>(hbi2 i (hb17 ▸ hi)).2 (by first | exact Option.some.inj e | exact (Option.some.inj e).symm))),hbr2,fun i hi=>hbi2 i (hb17 ▸ hi)⟩
 have htl:(takeR n3 r4).2.left.length ≤ r4.left.length:=by unfold takeR; simp
 have eta:(takeR n3 r4).1 = r4.left.take n3:=rfl
 rw [eta] at hRR
 generalize (takeR n3 r4).2 = r5 at *
 repeat (any_goals ((with_reducible refine oM_gen fun Kv hK=>?_); simp [go_sem]; (try simp (disch:=omega) only [wrapI64,wrapU8,wrapU32,wrapU64]); refine hK _ _ ?_; clear hK Kv))
 refine ⟨⟨_,_,_,kk + 1,r5,_,_,_,rfl,by omega,hI18,by omega,by rw [List.length_append,List.length_singleton]; omega,by rw [List.length_append,List.length_singleton]; omega,?_⟩,by show n1 - (((kk + 1:Nat):Int)).toNat < n1 - ((kk:Nat):Int).toNat; omega⟩
 rw [hRR,show n1 - (kk + 1) = m1 by omega]
 simp
end
end Go.Proofs
namespace Go.Proofs
open Go Go.Sh Tryz
def sh_62 (a0 a1:Value) (K:Value → World → Prop) (w:World):Prop:=
 oM prog (.call (Go.Call.mk (.builtin .len) #[(.tmp 0)] #[24])) 3 [a0] (fun v7 w=>
 oM prog (.call (Go.Call.mk (.builtin .len) #[(.tmp 0)] #[24])) 3 [a1] (fun v9 w=>
 oM prog (.binOp .neq 3 (.tmp 0) (.tmp 1) 3) 4 [v7,v9] (fun v10 w=>
 condM v10
 (K (.bool false) w)
 (loopM [(.bool false),(.int .i64 0)] w (fun J_4 m_5 l_6 u_l_6 w0_l_6=>(fun w=>(
 oM prog (.call (Go.Call.mk (.builtin .len) #[(.tmp 0)] #[24])) 3 [a0] (fun v13 w=>
 oM prog (.binOp .lss 3 (.tmp 0) (.tmp 1) 3) 4 [(l_6.getD 1 undef),v13] (fun v14 w=>
 condM v14
 (quietM w (fun C_9=>(oQ prog (.indexAddr 24 (.tmp 0) (.tmp 1)) 0 [a0,(l_6.getD 1 undef)] C_9 (fun v19=>
 oQ prog (.load 3 (.tmp 0)) 3 [v19] C_9 (fun v20=>
 oQ prog (.indexAddr 24 (.tmp 0) (.tmp 1)) 0 [a1,(l_6.getD 1 undef)] C_9 (fun v23=>
 oQ prog (.load 3 (.tmp 0)) 3 [v23] C_9 (fun v24=>
 oQ prog (.binOp .neq 3 (.tmp 0) (.tmp 1) 3) 4 [v20,v24] C_9 (fun v25=>
 ∀ w,C_9 w → (condM v25
 (K (.bool false) w)
 (oM prog (.binOp .add 3 (.tmp 0) (.tmp 1) 3) 3 [(l_6.getD 1 undef),(.int .i64 1)] (fun v16 w=>
 J_4 [(l_6.getD 0 undef),v16] w ∧ m_5 [(l_6.getD 0 undef),v16] w < m_5 l_6 w0_l_6) w))))))))))
 (K (.bool true) w)) w) w)) w0_l_6))) w) w) w
theorem sh_62_ok {a0 a1:Value} {K:Value → World → Prop} {w:World} (h:sh_62 a0 a1 K w):callM prog 62 #[a0,a1] K w:=
 calls_of_code (fun _=>0) (fn:=Tryz.f62) (rs:=[.tmp 4]) Tryz.func62 rfl rfl (by kernel_rfl) (Nat.le_of_ble_eq_true rfl) (Eq.mp (by kernel_rfl) h)
def sh_105 (a0 a1:Value) (K:Value → World → Prop) (w:World):Prop:=
 oM prog (.call (Go.Call.mk (.builtin .len) #[(.tmp 0)] #[30])) 3 [a0] (fun v7 w=>
 oM prog (.call (Go.Call.mk (.builtin .len) #[(.tmp 0)] #[30])) 3 [a1] (fun v9 w=>
 oM prog (.binOp .neq 3 (.tmp 0) (.tmp 1) 3) 4 [v7,v9] (fun v10 w=>
 condM v10
 (K (.bool false) w)
 (loopM [(.bool false),(.int .i64 0)] w (fun J_4 m_5 l_6 u_l_6 w0_l_6=>(fun w=>(
 oM prog (.call (Go.Call.mk (.builtin .len) #[(.tmp 0)] #[30])) 3 [a0] (fun v13 w=>
 oM prog (.binOp .lss 3 (.tmp 0) (.tmp 1) 3) 4 [(l_6.getD 1 undef),v13] (fun v14 w=>
 condM v14
 (quietM w (fun C_9=>(oQ prog (.indexAddr 30 (.tmp 0) (.tmp 1)) 0 [a0,(l_6.getD 1 undef)] C_9 (fun v19=>
 oQ prog (.load 24 (.tmp 0)) 24 [v19] C_9 (fun v20=>
 oQ prog (.indexAddr 30 (.tmp 0) (.tmp 1)) 0 [a1,(l_6.getD 1 undef)] C_9 (fun v23=>
 oQ prog (.load 24 (.tmp 0)) 24 [v23] C_9 (fun v24=>
 callQ prog 62 #[v20,v24] C_9 (fun v25=>
 oQ prog (.unOp .not 4 (.tmp 0)) 4 [v25] C_9 (fun v26=>
 ∀ w,C_9 w → (condM v26
 (K (.bool false) w)
 (oM prog (.binOp .add 3 (.tmp 0) (.tmp 1) 3) 3 [(l_6.getD 1 undef),(.int .i64 1)] (fun v16 w=>
 J_4 [(l_6.getD 0 undef),v16] w ∧ m_5 [(l_6.getD 0 undef),v16] w < m_5 l_6 w0_l_6) w)))))))))))
 (K (.bool true) w)) w) w)) w0_l_6))) w) w) w
theorem sh_105_ok {a0 a1:Value} {K:Value → World → Prop} {w:World} (h:sh_105 a0 a1 K w):callM prog 105 #[a0,a1] K w:=
 calls_of_code (fun _=>0) (fn:=Tryz.f105) (rs:=[.tmp 4]) Tryz.func105 rfl rfl (by kernel_rfl) (Nat.le_of_ble_eq_true rfl) (Eq.mp (by kernel_rfl) h)
def sh_106 (a0 a1:Value) (K:Value → World → Prop) (w:World):Prop:=
 oM prog (.call (Go.Call.mk (.builtin .len) #[(.tmp 0)] #[29])) 3 [a0] (fun v7 w=>
 oM prog (.call (Go.Call.mk (.builtin .len) #[(.tmp 0)] #[29])) 3 [a1] (fun v9 w=>
 oM prog (.binOp .neq 3 (.tmp 0) (.tmp 1) 3) 4 [v7,v9] (fun v10 w=>
 condM v10
 (K (.bool false) w)
 (loopM [(.bool false),(.int .i64 0)] w (fun J_4 m_5 l_6 u_l_6 w0_l_6=>(fun w=>(
 oM prog (.call (Go.Call.mk (.builtin .len) #[(.tmp 0)] #[29])) 3 [a0] (fun v13 w=>
 oM prog (.binOp .lss 3 (.tmp 0) (.tmp 1) 3) 4 [(l_6.getD 1 undef),v13] (fun v14 w=>
 condM v14
 (quietM w (fun C_9=>(oQ prog (.indexAddr 29 (.tmp 0) (.tmp 1)) 0 [a0,(l_6.getD 1 undef)] C_9 (fun v19=>
 oQ prog (.load 30 (.tmp 0)) 30 [v19] C_9 (fun v20=>
 oQ prog (.indexAddr 29 (.tmp 0) (.tmp 1)) 0 [a1,(l_6.getD 1 undef)] C_9 (fun v23=>
 oQ prog (.load 30 (.tmp 0)) 30 [v23] C_9 (fun v24=>
 callQ prog 105 #[v20,v24] C_9 (fun v25=>
 oQ prog (.unOp .not 4 (.tmp 0)) 4 [v25] C_9 (fun v26=>
 ∀ w,C_9 w → (condM v26
 (K (.bool false) w)
 (oM prog (.binOp .add 3 (.tmp 0) (.tmp 1) 3) 3 [(l_6.getD 1 undef),(.int .i64 1)] (fun v16 w=>
 J_4 [(l_6.getD 0 undef),v16] w ∧ m_5 [(l_6.getD 0 undef),v16] w < m_5 l_6 w0_l_6) w)))))))))))
 (K (.bool true) w)) w) w)) w0_l_6))) w) w) w
theorem sh_106_ok {a0 a1:Value} {K:Value → World → Prop} {w:World} (h:sh_106 a0 a1 K w):callM prog 106 #[a0,a1] K w:=
 calls_of_code (fun _=>0) (fn:=Tryz.f106) (rs:=[.tmp 4]) Tryz.func106 rfl rfl (by kernel_rfl) (Nat.le_of_ble_eq_true rfl) (Eq.mp (by kernel_rfl) h)
def sh_20 (a0 a1:Value) (K:Value → World → Prop) (w:World):Prop:=
 oM prog (.box 34 (.tmp 0)) 0 [a0] (fun v2 w=>
 oM prog (.box 34 (.tmp 0)) 0 [a1] (fun v3 w=>
 oM prog (.fieldAddr 34 (.tmp 0) 0) 0 [v2] (fun v5 w=>
 oM prog (.load 30 (.tmp 0)) 30 [v5] (fun v6 w=>
 oM prog (.fieldAddr 34 (.tmp 0) 0) 0 [v3] (fun v7 w=>
 oM prog (.load 30 (.tmp 0)) 30 [v7] (fun v8 w=>
 callM prog 105 #[v6,v8] (fun v9 w=>
 gdM (gd v9 true) (oM prog (.fieldAddr 34 (.tmp 0) 1) 0 [v2]) (fun v11 w=>
 gdM (gd v9 true) (oM prog (.load 29 (.tmp 0)) 29 [v11]) (fun v12 w=>
 gdM (gd v9 true) (oM prog (.fieldAddr 34 (.tmp 0) 1) 0 [v3]) (fun v13 w=>
 gdM (gd v9 true) (oM prog (.load 29 (.tmp 0)) 29 [v13]) (fun v14 w=>
 gdM (gd v9 true) (callM prog 106 #[v12,v14]) (fun v15 w=>
 oM prog (.pick (.tmp 0) (.tmp 1) (.tmp 2)) 4 [v9,v15,(.bool false)] (fun v16 w=>
 K v16 w) w) w) w) w) w) w) w) w) w) w) w) w) w
theorem sh_20_ok {a0 a1:Value} {K:Value → World → Prop} {w:World} (h:sh_20 a0 a1 K w):callM prog 20 #[a0,a1] K w:=
 calls_of_code (fun _=>0) (fn:=Tryz.f20) (rs:=[.tmp 4]) Tryz.func20 rfl rfl (by kernel_rfl) (Nat.le_of_ble_eq_true rfl) (Eq.mp (by kernel_rfl) h)
def sh_86 (K:Value → World → Prop) (w:World):Prop:=
 oM prog (.alloc 26) 0 [] (fun v0 w=>
 oM prog (.build 23 #[(0,(.tmp 0)),(1,(.tmp 1)),(2,(.tmp 2))]) 23 [(.int .i64 23),(.int .i64 11),(.int .i64 4)] (fun v1 w=>
 oM prog (.buildSlice 24 2 #[(0,(.tmp 0)),(1,(.tmp 1))]) 24 [(.int .i64 16),(.int .i64 18)] (fun v2 w=>
 oM prog (.build 26 #[(0,(.tmp 0)),(1,(.tmp 1)),(2,(.tmp 2))]) 26 [v1,v2,(.int .i64 12)] (fun v3 w=>
 oM prog (.store 26 (.tmp 0) (.tmp 1)) 0 [v0,v3] (fun _ w=>
 ∃ r_5,(do loadVar 26 (← asAddr v0):Sem Value).run prog w = .ok r_5 w ∧ K r_5 w) w) w) w) w) w
theorem sh_86_ok {K:Value → World → Prop} {w:World} (h:sh_86 K w):callM prog 86 #[] K w:=
 calls_of_code (fun _=>0) (fn:=Tryz.f86) (rs:=[.cell 0 26]) Tryz.func86 rfl rfl (by kernel_rfl) (Nat.le_of_ble_eq_true rfl) (Eq.mp (by kernel_rfl) h)
def sh_39 (a0:Value) (K:Value → World → Prop) (w:World):Prop:=
 oM prog (.box 26 (.tmp 0)) 0 [a0] (fun v1 w=>
 oM prog (.fieldAddr 26 (.tmp 0) 1) 0 [v1] (fun v3 w=>
 oM prog (.load 24 (.tmp 0)) 24 [v3] (fun v4 w=>
 oM prog (.call (Go.Call.mk (.builtin .len) #[(.tmp 0)] #[24])) 3 [v4] (fun v5 w=>
 oM prog (.binOp .leq 3 (.tmp 0) (.tmp 1) 3) 4 [v5,(.int .i64 9)] (fun v6 w=>
 K v6 w) w) w) w) w) w
theorem sh_39_ok {a0:Value} {K:Value → World → Prop} {w:World} (h:sh_39 a0 K w):callM prog 39 #[a0] K w:=
 calls_of_code (fun _=>0) (fn:=Tryz.f39) (rs:=[.tmp 2]) Tryz.func39 rfl rfl (by kernel_rfl) (Nat.le_of_ble_eq_true rfl) (Eq.mp (by kernel_rfl) h)
def sh_38 (K:Value → World → Prop) (w:World):Prop:=
 callM prog 86 #[] (fun v16 w=>
 oM prog (.alloc 26) 0 [] (fun v1 w=>
 oM prog (.store 26 (.tmp 0) (.tmp 1)) 0 [v1,v16] (fun _ w=>
 oM prog (.load 26 (.tmp 0)) 26 [v1] (fun v18 w=>
 oM prog (.buildSlice 24 2 #[(0,(.tmp 0)),(1,(.tmp 1))]) 24 [(.int .i64 4),(.int .i64 4)] (fun v19 w=>
 callM prog 74 #[v18,v19] (fun v20 w=>
 oM prog (.extract (.tmp 0) 0) 3 [v20] (fun v21 w=>
 oM prog (.extract (.tmp 0) 1) 4 [v20] (fun v22 w=>
 oM prog (.load 26 (.tmp 0)) 26 [v1] (fun v24 w=>
 oM prog (.buildSlice 24 2 #[(0,(.tmp 0)),(1,(.tmp 1))]) 24 [(.int .i64 1),(.int .i64 2)] (fun v25 w=>
 callM prog 76 #[v24,(.int .i64 2),v25] (fun v26 w=>
 oM prog (.extract (.tmp 0) 0) 24 [v26] (fun v27 w=>
 oM prog (.extract (.tmp 0) 1) 28 [v26] (fun v28 w=>
 oM prog (.extract (.tmp 0) 2) 4 [v26] (fun v29 w=>
 heldM w (fun C_14 w=>(((true:Bool) = true) ∧ (oH prog (.load 26 (.tmp 0)) 26 [v1] C_14 (fun v30=>
 oH prog (.load 26 (.tmp 0)) 26 [v1] C_14 (fun v31=>
 pureH v27 C_14 (fun v33=>
 ∃ S_18:World → World → Prop,∃ R_19:Value → World → Prop,(∀ v w w_1,S_18 w w_1 → R_19 v w → R_19 v w_1) ∧
 (∀ w,C_14 w → (callM prog 44 #[v31,(.int .i64 2),(.int .i64 3)] (fun v w_1=>C_14 w_1 ∧ S_18 w w_1 ∧ R_19 v w_1) w)) ∧
 (∀ w,C_14 w → ∀ v32,R_19 v32 w → (
 callM prog 40 #[v30,v32,v33] (fun v34 w=>
 oM prog (.unOp .not 4 (.tmp 0)) 4 [v22] (fun v36 w=>
 gdM (gd v36 false) (pureM v21) (fun v38 w=>
 gdM (gd v36 false) (oM prog (.binOp .neq 3 (.tmp 0) (.const (.int .i64 18)) 3) 4 [v38]) (fun v39 w=>
 oM prog (.pick (.tmp 0) (.tmp 1) (.tmp 2)) 4 [v36,(.bool true),v39] (fun v40 w=>
 gdM (gd v40 false) (pureM v29) (fun v42 w=>
 gdM (gd v40 false) (oM prog (.unOp .not 4 (.tmp 0)) 4 [v42]) (fun v43 w=>
 oM prog (.pick (.tmp 0) (.tmp 1) (.tmp 2)) 4 [v40,(.bool true),v43] (fun v44 w=>
 gdM (gd v44 false) (pureM v27) (fun v46 w=>
 gdM (gd v44 false) (oM prog (.buildSlice 24 2 #[(0,(.tmp 0)),(1,(.tmp 1))]) 24 [(.int .i64 12),(.int .i64 1)]) (fun v47 w=>
 gdM (gd v44 false) (callM prog 62 #[v46,v47]) (fun v48 w=>
 gdM (gd v44 false) (oM prog (.unOp .not 4 (.tmp 0)) 4 [v48]) (fun v49 w=>
 oM prog (.pick (.tmp 0) (.tmp 1) (.tmp 2)) 4 [v44,(.bool true),v49] (fun v50 w=>
 gdM (gd v50 false) (oM prog (.load 26 (.tmp 0)) 26 [v1]) (fun v52 w=>
 gdM (gd v50 false) (oM prog (.buildSlice 24 2 #[(0,(.tmp 0)),(1,(.tmp 1))]) 24 [(.int .i64 1),(.int .i64 2)]) (fun v53 w=>
 gdM (gd v50 false) (callM prog 71 #[v52,(.int .i64 3),v53]) (fun v54 w=>
 gdM (gd v50 false) (oM prog (.binOp .neq 3 (.tmp 0) (.const (.int .i64 9)) 3) 4 [v54]) (fun v55 w=>
 oM prog (.pick (.tmp 0) (.tmp 1) (.tmp 2)) 4 [v50,(.bool true),v55] (fun v56 w=>
 gdM (gd v56 false) (pureM v34) (fun v58 w=>
 gdM (gd v56 false) (oM prog (.call (Go.Call.mk (.builtin .len) #[(.tmp 0)] #[27])) 3 [v58]) (fun v59 w=>
 gdM (gd v56 false) (oM prog (.binOp .neq 3 (.tmp 0) (.const (.int .i64 3)) 3) 4 [v59]) (fun v60 w=>
 oM prog (.pick (.tmp 0) (.tmp 1) (.tmp 2)) 4 [v56,(.bool true),v60] (fun v61 w=>
 condM v61
 (K (.bool false) w)
 (oM prog (.indexAddr 27 (.tmp 0) (.tmp 1)) 0 [v34,(.int .i64 2)] (fun v63 w=>
 oM prog (.load 65 (.tmp 0)) 65 [v63] (fun v64 w=>
 oM prog (.alloc 65) 0 [] (fun v8 w=>
 oM prog (.store 65 (.tmp 0) (.tmp 1)) 0 [v8,v64] (fun _ w=>
 oM prog (.fieldAddr 65 (.tmp 0) 1) 0 [v8] (fun v65 w=>
 oM prog (.load 63 (.tmp 0)) 63 [v65] (fun v66 w=>
 oM prog (.call (Go.Call.mk (.builtin .len) #[(.tmp 0)] #[63])) 3 [v66] (fun v67 w=>
 oM prog (.binOp .neq 3 (.tmp 0) (.const (.int .i64 1)) 3) 4 [v67] (fun v68 w=>
 gdM (gd v68 false) (pureM v28) (fun v70 w=>
 gdM (gd v68 false) (oM prog (.call (Go.Call.mk (.builtin .len) #[(.tmp 0)] #[28])) 3 [v70]) (fun v71 w=>
 gdM (gd v68 false) (oM prog (.binOp .neq 3 (.tmp 0) (.const (.int .i64 2)) 3) 4 [v71]) (fun v72 w=>
 oM prog (.pick (.tmp 0) (.tmp 1) (.tmp 2)) 4 [v68,(.bool true),v72] (fun v73 w=>
 gdM (gd v73 false) (pureM v28) (fun v75 w=>
 gdM (gd v73 false) (oM prog (.indexAddr 28 (.tmp 0) (.tmp 1)) 0 [v75,(.int .i64 0)]) (fun v76 w=>
 gdM (gd v73 false) (oM prog (.load 114 (.tmp 0)) 114 [v76]) (fun v77 w=>
 gdM (gd v73 false) (oM prog (.call (Go.Call.mk (.builtin .len) #[(.tmp 0)] #[114])) 3 [v77]) (fun v78 w=>
 gdM (gd v73 false) (oM prog (.binOp .neq 3 (.tmp 0) (.const (.int .i64 2)) 3) 4 [v78]) (fun v79 w=>
 oM prog (.pick (.tmp 0) (.tmp 1) (.tmp 2)) 4 [v73,(.bool true),v79] (fun v80 w=>
 gdM (gd v80 false) (pureM v28) (fun v82 w=>
 gdM (gd v80 false) (oM prog (.indexAddr 28 (.tmp 0) (.tmp 1)) 0 [v82,(.int .i64 0)]) (fun v83 w=>
 gdM (gd v80 false) (oM prog (.load 114 (.tmp 0)) 114 [v83]) (fun v84 w=>
 gdM (gd v80 false) (oM prog (.indexAddr 114 (.tmp 0) (.tmp 1)) 0 [v84,(.int .i64 0)]) (fun v85 w=>
 gdM (gd v80 false) (oM prog (.fieldAddr 113 (.tmp 0) 0) 0 [v85]) (fun v86 w=>
 gdM (gd v80 false) (oM prog (.load 4 (.tmp 0)) 4 [v86]) (fun v87 w=>
 gdM (gd v80 false) (oM prog (.unOp .not 4 (.tmp 0)) 4 [v87]) (fun v88 w=>
 oM prog (.pick (.tmp 0) (.tmp 1) (.tmp 2)) 4 [v80,(.bool true),v88] (fun v89 w=>
 gdM (gd v89 false) (pureM v28) (fun v91 w=>
 gdM (gd v89 false) (oM prog (.indexAddr 28 (.tmp 0) (.tmp 1)) 0 [v91,(.int .i64 0)]) (fun v92 w=>
 gdM (gd v89 false) (oM prog (.load 114 (.tmp 0)) 114 [v92]) (fun v93 w=>
 gdM (gd v89 false) (oM prog (.indexAddr 114 (.tmp 0) (.tmp 1)) 0 [v93,(.int .i64 1)]) (fun v94 w=>
 gdM (gd v89 false) (oM prog (.fieldAddr 113 (.tmp 0) 0) 0 [v94]) (fun v95 w=>
 gdM (gd v89 false) (oM prog (.load 4 (.tmp 0)) 4 [v95]) (fun v96 w=>
 oM prog (.pick (.tmp 0) (.tmp 1) (.tmp 2)) 4 [v89,(.bool true),v96] (fun v97 w=>
 condM v97
 (K (.bool false) w)
 (oM prog (.load 26 (.tmp 0)) 26 [v1] (fun v99 w=>
 callM prog 45 #[v99,(.int .i64 3),(.int .i64 5),(.string ⟨#[104,101,108,108,111]⟩)] (fun v100 w=>
 oM prog (.extract (.tmp 0) 0) 74 [v100] (fun v101 w=>
 oM prog (.extract (.tmp 0) 1) 4 [v100] (fun v102 w=>
 oM prog (.alloc 74) 0 [] (fun v9 w=>
 oM prog (.store 74 (.tmp 0) (.tmp 1)) 0 [v9,v101] (fun _ w=>
 oM prog (.buildSlice 24 1 #[(0,(.tmp 0))]) 24 [(.int .i64 4)] (fun v103 w=>
 oM prog (.buildSlice 30 1 #[(0,(.tmp 0))]) 30 [v103] (fun v104 w=>
 oM prog (.buildSlice 24 2 #[(0,(.tmp 0)),(1,(.tmp 1))]) 24 [(.int .i64 5),(.int .i64 6)] (fun v105 w=>
 oM prog (.buildSlice 30 1 #[(0,(.tmp 0))]) 30 [v105] (fun v106 w=>
 oM prog (.buildSlice 29 1 #[(0,(.tmp 0))]) 29 [v106] (fun v107 w=>
 oM prog (.build 34 #[(0,(.tmp 0)),(1,(.tmp 1))]) 34 [v104,v107] (fun v108 w=>
 oM prog (.alloc 34) 0 [] (fun v11 w=>
 oM prog (.store 34 (.tmp 0) (.tmp 1)) 0 [v11,v108] (fun _ w=>
 oM prog (.load 34 (.tmp 0)) 34 [v11] (fun v110 w=>
 callM prog 51 #[v110] (fun v111 w=>
 oM prog (.extract (.tmp 0) 0) 9 [v111] (fun v112 w=>
 oM prog (.extract (.tmp 0) 1) 4 [v111] (fun v113 w=>
 callM prog 52 #[v112] (fun v116 w=>
 oM prog (.extract (.tmp 0) 0) 34 [v116] (fun v117 w=>
 oM prog (.extract (.tmp 0) 1) 4 [v116] (fun v118 w=>
 oM prog (.alloc 34) 0 [] (fun v14 w=>
 oM prog (.store 34 (.tmp 0) (.tmp 1)) 0 [v14,v117] (fun _ w=>
 heldM w (fun C_95 w=>(((true:Bool) = true) ∧ (oH prog (.load 26 (.tmp 0)) 26 [v1] C_95 (fun v119=>
 oH prog (.fieldAddr 65 (.tmp 0) 1) 0 [v8] C_95 (fun v120=>
 oH prog (.load 63 (.tmp 0)) 63 [v120] C_95 (fun v121=>
 oH prog (.indexAddr 63 (.tmp 0) (.tmp 1)) 0 [v121,(.int .i64 0)] C_95 (fun v122=>
 oH prog (.load 69 (.tmp 0)) 69 [v122] C_95 (fun v123=>
 ∃ S_101:World → World → Prop,∃ R_102:Value → World → Prop,(∀ v w w_1,S_101 w w_1 → R_102 v w → R_102 v w_1) ∧
 (∀ w,C_95 w → (oM prog (.buildSlice 24 1 #[(0,(.tmp 0))]) 24 [(.int .i64 9)] (fun v w_1=>C_95 w_1 ∧ S_101 w w_1 ∧ R_102 v w_1) w)) ∧
 (∃ R_103:Value → World → Prop,(∀ v w w_1,S_101 w w_1 → R_103 v w → R_103 v w_1) ∧
 (∀ w,C_95 w → ∀ v124,R_102 v124 w → (callM prog 41 #[v119,v123,v124] (fun v w_1=>C_95 w_1 ∧ S_101 w w_1 ∧ R_103 v w_1) w)) ∧
 (∃ R_105:Value → World → Prop,(∀ v w w_1,S_101 w w_1 → R_105 v w → R_105 v w_1) ∧
 (∀ w,C_95 w → ∀ v125,R_103 v125 w → (C_95 w ∧ S_101 w w ∧ R_105 v125 w)) ∧
 (∃ R_107:Value → World → Prop,(∀ v w w_1,S_101 w w_1 → R_107 v w → R_107 v w_1) ∧
 (∀ w,C_95 w → ∀ v126,R_105 v126 w → (gdM (gd v126 true) (pureM v102) (fun v w_1=>C_95 w_1 ∧ S_101 w w_1 ∧ R_107 v w_1) w)) ∧
 (∃ R_109:Value → World → Prop,(∀ v w w_1,S_101 w w_1 → R_109 v w → R_109 v w_1) ∧
 (∀ w,C_95 w → ∀ v126,R_105 v126 w → ∀ v127,R_107 v127 w → (oM prog (.pick (.tmp 0) (.tmp 1) (.tmp 2)) 4 [v126,v127,(.bool false)] (fun v w_1=>C_95 w_1 ∧ S_101 w w_1 ∧ R_109 v w_1) w)) ∧
 (∃ R_112:Value → World → Prop,(∀ v w w_1,S_101 w w_1 → R_112 v w → R_112 v w_1) ∧
 (∀ w,C_95 w → ∀ v128,R_109 v128 w → (C_95 w ∧ S_101 w w ∧ R_112 v128 w)) ∧
 (∃ R_114:Value → World → Prop,(∀ v w w_1,S_101 w w_1 → R_114 v w → R_114 v w_1) ∧
 (∀ w,C_95 w → ∀ v129,R_112 v129 w → (gdM (gd v129 true) (oM prog (.load 26 (.tmp 0)) 26 [v1]) (fun v w_1=>C_95 w_1 ∧ S_101 w w_1 ∧ R_114 v w_1) w)) ∧
 (∃ R_116:Value → World → Prop,(∀ v w w_1,S_101 w w_1 → R_116 v w → R_116 v w_1) ∧
 (∀ w,C_95 w → ∀ v129,R_112 v129 w → (gdM (gd v129 true) (oM prog (.load 74 (.tmp 0)) 74 [v9]) (fun v w_1=>C_95 w_1 ∧ S_101 w w_1 ∧ R_116 v w_1) w)) ∧
 (∃ R_118:Value → World → Prop,(∀ v w w_1,S_101 w w_1 → R_118 v w → R_118 v w_1) ∧
 (∀ w,C_95 w → ∀ v129,R_112 v129 w → ∀ v130,R_114 v130 w → ∀ v131,R_116 v131 w → (gdM (gd v129 true) (callM prog 47 #[v130,(.int .i64 18),(.string ⟨#[104,101,108,108,111]⟩),v131]) (fun v w_1=>C_95 w_1 ∧ S_101 w w_1 ∧ R_118 v w_1) w)) ∧
 (∃ R_122:Value → World → Prop,(∀ v w w_1,S_101 w w_1 → R_122 v w → R_122 v w_1) ∧
 (∀ w,C_95 w → ∀ v129,R_112 v129 w → ∀ v132,R_118 v132 w → (oM prog (.pick (.tmp 0) (.tmp 1) (.tmp 2)) 4 [v129,v132,(.bool false)] (fun v w_1=>C_95 w_1 ∧ S_101 w w_1 ∧ R_122 v w_1) w)) ∧
 (∃ R_125:Value → World → Prop,(∀ v w w_1,S_101 w w_1 → R_125 v w → R_125 v w_1) ∧
 (∀ w,C_95 w → ∀ v133,R_122 v133 w → (C_95 w ∧ S_101 w w ∧ R_125 v133 w)) ∧
 (∃ R_127:Value → World → Prop,(∀ v w w_1,S_101 w w_1 → R_127 v w → R_127 v w_1) ∧
 (∀ w,C_95 w → ∀ v134,R_125 v134 w → (gdM (gd v134 true) (pureM v113) (fun v w_1=>C_95 w_1 ∧ S_101 w w_1 ∧ R_127 v w_1) w)) ∧
 (∃ R_129:Value → World → Prop,(∀ v w w_1,S_101 w w_1 → R_129 v w → R_129 v w_1) ∧
 (∀ w,C_95 w → ∀ v134,R_125 v134 w → ∀ v135,R_127 v135 w → (oM prog (.pick (.tmp 0) (.tmp 1) (.tmp 2)) 4 [v134,v135,(.bool false)] (fun v w_1=>C_95 w_1 ∧ S_101 w w_1 ∧ R_129 v w_1) w)) ∧
 (∃ R_132:Value → World → Prop,(∀ v w w_1,S_101 w w_1 → R_132 v w → R_132 v w_1) ∧
 (∀ w,C_95 w → ∀ v136,R_129 v136 w → (C_95 w ∧ S_101 w w ∧ R_132 v136 w)) ∧
 (∃ R_134:Value → World → Prop,(∀ v w w_1,S_101 w w_1 → R_134 v w → R_134 v w_1) ∧
 (∀ w,C_95 w → ∀ v137,R_132 v137 w → (gdM (gd v137 true) (pureM v118) (fun v w_1=>C_95 w_1 ∧ S_101 w w_1 ∧ R_134 v w_1) w)) ∧
 (∃ R_136:Value → World → Prop,(∀ v w w_1,S_101 w w_1 → R_136 v w → R_136 v w_1) ∧
 (∀ w,C_95 w → ∀ v137,R_132 v137 w → ∀ v138,R_134 v138 w → (oM prog (.pick (.tmp 0) (.tmp 1) (.tmp 2)) 4 [v137,v138,(.bool false)] (fun v w_1=>C_95 w_1 ∧ S_101 w w_1 ∧ R_136 v w_1) w)) ∧
 (∃ R_139:Value → World → Prop,(∀ v w w_1,S_101 w w_1 → R_139 v w → R_139 v w_1) ∧
 (∀ w,C_95 w → ∀ v139,R_136 v139 w → (C_95 w ∧ S_101 w w ∧ R_139 v139 w)) ∧
 (∃ R_141:Value → World → Prop,(∀ v w w_1,S_101 w w_1 → R_141 v w → R_141 v w_1) ∧
 (∀ w,C_95 w → ∀ v140,R_139 v140 w → (gdM (gd v140 true) (oM prog (.load 34 (.tmp 0)) 34 [v11]) (fun v w_1=>C_95 w_1 ∧ S_101 w w_1 ∧ R_141 v w_1) w)) ∧
 (∃ R_143:Value → World → Prop,(∀ v w w_1,S_101 w w_1 → R_143 v w → R_143 v w_1) ∧
 (∀ w,C_95 w → ∀ v140,R_139 v140 w → (gdM (gd v140 true) (oM prog (.load 34 (.tmp 0)) 34 [v14]) (fun v w_1=>C_95 w_1 ∧ S_101 w w_1 ∧ R_143 v w_1) w)) ∧
 (∀ w,C_95 w → ∀ v124,R_102 v124 w → ∀ v125,R_103 v125 w → ∀ v126,R_105 v126 w → ∀ v127,R_107 v127 w → ∀ v128,R_109 v128 w → ∀ v129,R_112 v129 w → ∀ v130,R_114 v130 w → ∀ v131,R_116 v131 w → ∀ v132,R_118 v132 w → ∀ v133,R_122 v133 w → ∀ v134,R_125 v134 w → ∀ v135,R_127 v135 w → ∀ v136,R_129 v136 w → ∀ v137,R_132 v137 w → ∀ v138,R_134 v138 w → ∀ v139,R_136 v139 w → ∀ v140,R_139 v140 w → ∀ v141,R_141 v141 w → ∀ v142,R_143 v142 w → (
 gdM (gd v140 true) (callM prog 20 #[v141,v142]) (fun v143 w=>
 oM prog (.pick (.tmp 0) (.tmp 1) (.tmp 2)) 4 [v140,v143,(.bool false)] (fun v144 w=>
 K v144 w) w) w))))))))))))))))))))))))))))) w) w) w) w) w) w) w) w) w) w) w) w) w) w) w) w) w) w) w) w) w) w) w)) w) w) w) w) w) w) w) w) w) w) w) w) w) w) w) w) w) w) w) w) w) w) w) w) w) w) w) w) w) w) w) w) w)) w) w) w) w) w) w) w) w) w) w) w) w) w) w) w) w) w) w) w) w) w) w))))))))) w) w) w) w) w) w) w) w) w) w) w) w) w) w
theorem sh_38_ok {K:Value → World → Prop} {w:World} (h:sh_38 K w):callM prog 38 #[] K w:=
 calls_of_code (fun i=>bif Nat.beq i 4 then .free [0,1,3] [2] [4,5] else bif Nat.beq i 14 then .free [0,1,2,3,4] [5,6,7,8,9,10,11,12,13,14,15,16,17,18,19,20,21,22,23] [24,25,26] else 0) (fn:=Tryz.f38) (rs:=[.tmp 0]) Tryz.func38 rfl rfl (by kernel_rfl) (Nat.le_of_ble_eq_true rfl) (Eq.mp (by kernel_rfl) h)
end Go.Proofs
namespace Go.Proofs
open Go Go.Sh Go.RowKit FdSpec TkSpec CodeSpec PrSpec
section
variable {K:Value → World → Prop} {w w' w0 W:World} {L:List (Addr × Value)}
def SmJ {α:Type} (a b:List α) (w0:World) (vs:List Value) (w':World):Prop:=Below w0.heap.size w0 w' ∧ ∃ (u:Value) (i:Nat),vs = [u,.int .i64 (i:Int)] ∧ i ≤ a.length ∧ a.take i = b.take i
theorem SameInts_ok {v u:Value} {a b:List Int} (ha:Ints w v a) (hb:Ints w u b) (k:∀ w',Below w.heap.size w w' → K (.bool (decide (a = b))) w'):callM Tryz.prog 62 #[v,u] K w:=by
 apply sh_62_ok
 unfold sh_62
 obtain ⟨ad1,c1,rfl⟩:=ha.isSlice
 obtain ⟨ad2,c2,rfl⟩:=hb.isSlice
 have l1:=ha.len
 have l2:=hb.len
 by_cases hl:¬ a.length = b.length
 ·have hl':¬ (a.length:Int) = b.length:=by omega
  have k:=k _ (Below.refl _ _)
  rw [decide_eq_false (by rintro rfl; exact hl rfl)] at k
  repeat (any_goals (first
  | (with_reducible refine yL ?_)
  | ((with_reducible refine oM_gen fun Kv hK=>?_); simp [go_sem,hl']; refine hK _ _ ?_; clear hK Kv)))
  exact k
 have hl:a.length = b.length:=by omega
 have hl':(a.length:Int) = b.length:=by omega
 repeat (any_goals (first
 | (with_reducible refine yM ?_)
 | ((with_reducible refine oM_gen fun Kv hK=>?_); simp [go_sem,hl']; refine hK _ _ ?_; clear hK Kv)))
 refine ⟨SmJ a b w,fun vs _=>match vs with | [_,.int _ i]=>a.length - i.toNat | _=>0,⟨Below.refl _ _,_,0,rfl,by omega,rfl⟩,?_⟩
 rintro _ _ w1 ⟨h1,u1,i,rfl,hi,he⟩
 by_cases hin:i = a.length
 ·have e:a = b:=by
   rw [List.take_of_length_le (by omega),List.take_of_length_le (by omega)] at he
   exact he
  have k:=k _ h1
  rw [decide_eq_true e] at k
  repeat (any_goals (first
  | (with_reducible refine yO ?_)
  | ((with_reducible refine oM_gen fun Kv hK=>?_); simp [go_sem,hl']; refine hK _ _ ?_; clear hK Kv)))
  exact k
 obtain ⟨b1,o1,rfl,hb1,ca,ra,_⟩:=ha.at (i:=i) (by omega)
 obtain ⟨b2,o2,rfl,hb2,cb,rb,_⟩:=hb.at (i:=i) (by omega)
 have hib:(i:Int) < b.length:=by omega
 repeat (any_goals (first
 | (with_reducible refine yN ?_)
 | ((with_reducible refine oM_gen fun Kv hK=>?_); simp [go_sem,hl']; refine hK _ _ ?_; clear hK Kv)))
 refine ⟨Below w.heap.size w,h1.trans .drawn,?_⟩
 by_cases hx:a[i] = b[i]
 ·repeat (any_goals ((with_reducible refine idOQ ?_); (with_reducible refine oQ_of ⟨_,rfl⟩ (fun W0 hW0=>by (refine oM_gen (fun Kv hK=>?_)); simp [go_sem,ca _ hW0,cb _ hW0,hl',hx]; (first | exact hK _ _ ⟨rfl,rfl⟩ | exact ⟨by omega,hK _ _ ⟨rfl,rfl⟩⟩)) ?_)))
  intro w2 h2
  repeat (any_goals (first
  | (with_reducible refine yM ?_)
  | ((with_reducible refine oM_gen fun Kv hK=>?_); simp [go_sem,hx]; (try simp (disch:=omega) only [wrapI64,wrapU8,wrapU32,wrapU64]); refine hK _ _ ?_; clear hK Kv)))
  refine ⟨⟨h2,_,i + 1,rfl,by omega,?_⟩,by show a.length - (((i + 1:Nat):Int)).toNat < a.length - ((i:Nat):Int).toNat; omega⟩
  rw [List.take_succ_eq_append_getElem (by omega),List.take_succ_eq_append_getElem (by omega),he,hx]
 ·repeat (any_goals ((with_reducible refine idOQ ?_); (with_reducible refine oQ_of ⟨_,rfl⟩ (fun W0 hW0=>by (refine oM_gen (fun Kv hK=>?_)); simp [go_sem,ca _ hW0,cb _ hW0,hl',hx]; (first | exact hK _ _ ⟨rfl,rfl⟩ | exact ⟨by omega,hK _ _ ⟨rfl,rfl⟩⟩)) ?_)))
  intro w2 h2
  have k:=k _ h2
  rw [decide_eq_false (by rintro rfl; exact hx rfl)] at k
  repeat (any_goals (with_reducible refine yL ?_))
  exact k
theorem SameLists_ok {v u:Value} {a b:List (List Int)} (ha:ListsR w v a) (hb:ListsR w u b) (k:∀ w',Below w.heap.size w w' → K (.bool (decide (a = b))) w'):callM Tryz.prog 105 #[v,u] K w:=by
 apply sh_105_ok
 unfold sh_105
 obtain ⟨ad1,c1,rfl⟩:=ha.isSlice
 obtain ⟨ad2,c2,rfl⟩:=hb.isSlice
 have l1:=ha.len
 have l2:=hb.len
 by_cases hl:¬ a.length = b.length
 ·have hl':¬ (a.length:Int) = b.length:=by omega
  have k:=k _ (Below.refl _ _)
  rw [decide_eq_false (by rintro rfl; exact hl rfl)] at k
  repeat (any_goals (first
  | (with_reducible refine yL ?_)
  | ((with_reducible refine oM_gen fun Kv hK=>?_); simp [go_sem,hl']; refine hK _ _ ?_; clear hK Kv)))
  exact k
 have hl:a.length = b.length:=by omega
 have hl':(a.length:Int) = b.length:=by omega
 repeat (any_goals (first
 | (with_reducible refine yM ?_)
 | ((with_reducible refine oM_gen fun Kv hK=>?_); simp [go_sem,hl']; refine hK _ _ ?_; clear hK Kv)))
 refine ⟨SmJ a b w,fun vs _=>match vs with | [_,.int _ i]=>a.length - i.toNat | _=>0,⟨Below.refl _ _,_,0,rfl,by omega,rfl⟩,?_⟩
 rintro _ _ w1 ⟨h1,u1,i,rfl,hi,he⟩
 by_cases hin:i = a.length
 ·have e:a = b:=by
   rw [List.take_of_length_le (by omega),List.take_of_length_le (by omega)] at he
   exact he
  have k:=k _ h1
  rw [decide_eq_true e] at k
  repeat (any_goals (first
  | (with_reducible refine yO ?_)
  | ((with_reducible refine oM_gen fun Kv hK=>?_); simp [go_sem,hl']; refine hK _ _ ?_; clear hK Kv)))
  exact k
 obtain ⟨b1,o1,v1,rfl,hb1,ca,ia⟩:=ha.one (i:=i) (by omega)
 obtain ⟨b2,o2,v2,rfl,hb2,cb,ib⟩:=hb.one (i:=i) (by omega)
 have hib:(i:Int) < b.length:=by omega
 repeat (any_goals (first
 | (with_reducible refine yN ?_)
 | ((with_reducible refine oM_gen fun Kv hK=>?_); simp [go_sem,hl']; refine hK _ _ ?_; clear hK Kv)))
 refine ⟨Below w.heap.size w,h1.trans .drawn,?_⟩
 repeat (any_goals ((with_reducible refine idOQ ?_); (with_reducible refine oQ_of ⟨_,rfl⟩ (fun W0 hW0=>by (refine oM_gen (fun Kv hK=>?_)); simp [go_sem,(hW0.cell hb1).trans ca,(hW0.cell hb2).trans cb,hl']; (first | exact hK _ _ ⟨rfl,rfl⟩ | exact ⟨by omega,hK _ _ ⟨rfl,rfl⟩⟩)) ?_)))
 refine callQ_of (fun W hW=>SameInts_ok (ia.next hW) (ib.next hW) (fun w' hb=>⟨rfl,hW.on hb⟩)) ?_
 by_cases hx:a[i] = b[i]
 ·rw [decide_eq_true hx]
  repeat (any_goals ((with_reducible refine idOQ ?_); (with_reducible refine oQ_of ⟨_,rfl⟩ (fun W0 hW0=>by (refine oM_gen (fun Kv hK=>?_)); simp [go_sem,hl',hx]; (first | exact hK _ _ ⟨rfl,rfl⟩ | exact ⟨by omega,hK _ _ ⟨rfl,rfl⟩⟩)) ?_)))
  intro w2 h2
  repeat (any_goals (first
  | (with_reducible refine yM ?_)
  | ((with_reducible refine oM_gen fun Kv hK=>?_); simp [go_sem,hx]; (try simp (disch:=omega) only [wrapI64,wrapU8,wrapU32,wrapU64]); refine hK _ _ ?_; clear hK Kv)))
  refine ⟨⟨h2,_,i + 1,rfl,by omega,?_⟩,by show a.length - (((i + 1:Nat):Int)).toNat < a.length - ((i:Nat):Int).toNat; omega⟩
  rw [List.take_succ_eq_append_getElem (by omega),List.take_succ_eq_append_getElem (by omega),he,hx]
 ·rw [decide_eq_false hx]
  repeat (any_goals ((with_reducible refine idOQ ?_); (with_reducible refine oQ_of ⟨_,rfl⟩ (fun W0 hW0=>by (refine oM_gen (fun Kv hK=>?_)); simp [go_sem,hl',hx]; (first | exact hK _ _ ⟨rfl,rfl⟩ | exact ⟨by omega,hK _ _ ⟨rfl,rfl⟩⟩)) ?_)))
  intro w2 h2
  have k:=k _ h2
  rw [decide_eq_false (by rintro rfl; exact hx rfl)] at k
  repeat (any_goals (with_reducible refine yL ?_))
  exact k
theorem SameNums_ok {v u:Value} {a b:List (List (List Int))} (ha:NumsR w v a) (hb:NumsR w u b) (k:∀ w',Below w.heap.size w w' → K (.bool (decide (a = b))) w'):callM Tryz.prog 106 #[v,u] K w:=by
 apply sh_106_ok
 unfold sh_106
 obtain ⟨ad1,c1,rfl⟩:=ha.isSlice
 obtain ⟨ad2,c2,rfl⟩:=hb.isSlice
 have l1:=ha.len
 have l2:=hb.len
 by_cases hl:¬ a.length = b.length
 ·have hl':¬ (a.length:Int) = b.length:=by omega
  have k:=k _ (Below.refl _ _)
  rw [decide_eq_false (by rintro rfl; exact hl rfl)] at k
  repeat (any_goals (first
  | (with_reducible refine yL ?_)
  | ((with_reducible refine oM_gen fun Kv hK=>?_); simp [go_sem,hl']; refine hK _ _ ?_; clear hK Kv)))
  exact k
 have hl:a.length = b.length:=by omega
 have hl':(a.length:Int) = b.length:=by omega
 repeat (any_goals (first
 | (with_reducible refine yM ?_)
 | ((with_reducible refine oM_gen fun Kv hK=>?_); simp [go_sem,hl']; refine hK _ _ ?_; clear hK Kv)))
 refine ⟨SmJ a b w,fun vs _=>match vs with | [_,.int _ i]=>a.length - i.toNat | _=>0,⟨Below.refl _ _,_,0,rfl,by omega,rfl⟩,?_⟩
 rintro _ _ w1 ⟨h1,u1,i,rfl,hi,he⟩
 by_cases hin:i = a.length
 ·have e:a = b:=by
   rw [List.take_of_length_le (by omega),List.take_of_length_le (by omega)] at he
   exact he
  have k:=k _ h1
  rw [decide_eq_true e] at k
  repeat (any_goals (first
  | (with_reducible refine yO ?_)
  | ((with_reducible refine oM_gen fun Kv hK=>?_); simp [go_sem,hl']; refine hK _ _ ?_; clear hK Kv)))
  exact k
 obtain ⟨b1,o1,v1,rfl,hb1,ca,ia⟩:=ha.one (i:=i) (by omega)
 obtain ⟨b2,o2,v2,rfl,hb2,cb,ib⟩:=hb.one (i:=i) (by omega)
 have hib:(i:Int) < b.length:=by omega
 repeat (any_goals (first
 | (with_reducible refine yN ?_)
 | ((with_reducible refine oM_gen fun Kv hK=>?_); simp [go_sem,hl']; refine hK _ _ ?_; clear hK Kv)))
 refine ⟨Below w.heap.size w,h1.trans .drawn,?_⟩
 repeat (any_goals ((with_reducible refine idOQ ?_); (with_reducible refine oQ_of ⟨_,rfl⟩ (fun W0 hW0=>by (refine oM_gen (fun Kv hK=>?_)); simp [go_sem,(hW0.cell hb1).trans ca,(hW0.cell hb2).trans cb,hl']; (first | exact hK _ _ ⟨rfl,rfl⟩ | exact ⟨by omega,hK _ _ ⟨rfl,rfl⟩⟩)) ?_)))
 refine callQ_of (fun W hW=>SameLists_ok (ia.next (atOf_stay ints_stay) hW) (ib.next (atOf_stay ints_stay) hW) (fun w' hb=>⟨rfl,hW.on hb⟩)) ?_
 by_cases hx:a[i] = b[i]
 ·rw [decide_eq_true hx]
  repeat (any_goals ((with_reducible refine idOQ ?_); (with_reducible refine oQ_of ⟨_,rfl⟩ (fun W0 hW0=>by (refine oM_gen (fun Kv hK=>?_)); simp [go_sem,hl',hx]; (first | exact hK _ _ ⟨rfl,rfl⟩ | exact ⟨by omega,hK _ _ ⟨rfl,rfl⟩⟩)) ?_)))
  intro w2 h2
  repeat (any_goals (first
  | (with_reducible refine yM ?_)
  | ((with_reducible refine oM_gen fun Kv hK=>?_); simp [go_sem,hx]; (try simp (disch:=omega) only [wrapI64,wrapU8,wrapU32,wrapU64]); refine hK _ _ ?_; clear hK Kv)))
  refine ⟨⟨h2,_,i + 1,rfl,by omega,?_⟩,by show a.length - (((i + 1:Nat):Int)).toNat < a.length - ((i:Nat):Int).toNat; omega⟩
  rw [List.take_succ_eq_append_getElem (by omega),List.take_succ_eq_append_getElem (by omega),he,hx]
 ·rw [decide_eq_false hx]
  repeat (any_goals ((with_reducible refine idOQ ?_); (with_reducible refine oQ_of ⟨_,rfl⟩ (fun W0 hW0=>by (refine oM_gen (fun Kv hK=>?_)); simp [go_sem,hl',hx]; (first | exact hK _ _ ⟨rfl,rfl⟩ | exact ⟨by omega,hK _ _ ⟨rfl,rfl⟩⟩)) ?_)))
  intro w2 h2
  have k:=k _ h2
  rw [decide_eq_false (by rintro rfl; exact hx rfl)] at k
  repeat (any_goals (with_reducible refine yL ?_))
  exact k
theorem SameProof_ok {dv av dv2 av2:Value} {d d2:List (List Int)} {a a2:List (List (List Int))} (hd:ListsR w dv d) (ha:NumsR w av a) (hd2:ListsR w dv2 d2) (ha2:NumsR w av2 a2) (k:∀ w',Below w.heap.size w w' → K (.bool (decide (d = d2) && decide (a = a2))) w'):callM Tryz.prog 20 #[prfV dv av,prfV dv2 av2] K w:=by
 apply sh_20_ok
 unfold sh_20
 have hd':=hd
 have ha':=ha
 have hd2':=hd2
 have ha2':=ha2
 obtain ⟨ad1,c1,rfl⟩:=hd.isSlice
 obtain ⟨ad2,c2,rfl⟩:=ha.isSlice
 obtain ⟨ad3,c3,rfl⟩:=hd2.isSlice
 obtain ⟨ad4,c4,rfl⟩:=ha2.isSlice
 refine box_kn (cs:=prfC (.slice ad1 d.length c1) (.slice ad2 a.length c2)) rfl (.start w) fun b1 W hk hb1 hbb=>?_
 refine box_kn (cs:=prfC (.slice ad3 d2.length c3) (.slice ad4 a2.length c4)) rfl hk fun b2 W2 hk hb2 hbb=>?_
 clear hb1 hb2 hbb
 repeat (any_goals ((with_reducible refine oM_gen fun Kv hK=>?_); simp [go_sem,hk.cells]; refine hK _ _ ?_; clear hK Kv))
 refine SameLists_ok (hd'.next (atOf_stay ints_stay) hk.below) (hd2'.next (atOf_stay ints_stay) hk.below) (fun w3 h3=>?_)
 have hk:=hk.next h3
 by_cases hx:d = d2
 ·rw [decide_eq_true hx]
  rw [decide_eq_true hx,Bool.true_and] at k
  repeat (any_goals (first
  | (with_reducible refine zA ?_)
  | ((with_reducible refine oM_gen fun Kv hK=>?_); simp [go_sem,hk.cells]; refine hK _ _ ?_; clear hK Kv)))
  refine SameNums_ok (ha'.next (atOf_stay lists_vstay) hk.below) (ha2'.next (atOf_stay lists_vstay) hk.below) (fun w4 h4=>?_)
  have hk:=hk.next h4
  have k:=k _ hk.below
  generalize decide (a = a2) = q at *
  repeat (any_goals (with_reducible refine yB ?_))
  exact k
 ·rw [decide_eq_false hx]
  rw [decide_eq_false hx,Bool.false_and] at k
  repeat (any_goals (with_reducible first|refine zB ?_|refine yC ?_))
  exact k _ hk.below
end
end Go.Proofs
namespace Go.Proofs
open Go Go.Sh Go.RowKit FdSpec TkSpec CodeSpec PrSpec
section
variable {K:Value → World → Prop} {w w' w0 W:World} {L:List (Addr × Value)}
theorem range_ex:PrSpec.rangeM ex (commitM ex 2 3) [12,1] = [bitC ex 12,bitC ex 1,lastC ex (commitM ex 2 3) (weighM ex [12,1]).1]:=by decide +kernel
theorem ex_R {v:Value} (hi:Ints w v [16,18]) (hT:DbT w):SetR w ex v:=⟨⟨by constructor <;> decide,by constructor <;> decide,by constructor <;> decide⟩,hi,by constructor <;> decide,hT⟩
theorem mk2g {T:TypeId} (x y:Int) (hx:I64 x) (hy:I64 y) (k:∀ v W,Below w.heap.size w W → Ints W v [x,y] → Value.inBlock v = some w.heap.size → K v W):oM Tryz.prog (.buildSlice 24 2 #[(0,.tmp 0),(1,.tmp 1)]) T [.int .i64 x,.int .i64 y] K w:=by
 rw [oM_buildSlice2]
 have e:(Instr.buildSlice 24 2 #[(0,.int .i64 x),(1,.int .i64 y)]).run Tryz.prog w = .ok (.slice (some ⟨w.heap.size,0,none⟩) 2 2) (w.alloc (.cells #[.int .i64 x,.int .i64 y] 3)):=by kernel_rfl
 rw [e]
 exact k _ _ ((Below.refl _ w).alloc (Nat.le_refl _) _) (ints_alloc w [x,y] _ 2 (by simp; exact ⟨hx,hy⟩) (by simp)) rfl
theorem example_ok (hT:DbT w) (k:∀ w' v,Below w.heap.size w w' → SetR w' ex v → K (stpV ex v) w'):callM Tryz.prog 86 #[] K w:=by
 apply sh_86_ok
 unfold sh_86
 refine alloc_mine (n:=5) al_stp rfl (.start w) fun g0 W3 hk hb3 hg0=>?_
 repeat (any_goals (first
 | ((with_reducible refine mk2g 16 18 i64lit i64lit ?_); intro v9 W9 hb9 hi9 hv9)
 | ((with_reducible refine oM_gen fun Kv hK=>?_); simp [go_sem]; refine hK _ _ ?_; clear hK Kv)))
 have hlt:=mine_lt hk.mine
 have hk:=hk.next hb9
 obtain ⟨ad,c,rfl⟩:=hi9.isSlice
 repeat (any_goals ((with_reducible refine oM_gen fun Kv hK=>?_); simp [go_sem]; refine hK _ _ ?_; clear hK Kv))
 refine store_stp ex ad 2 c hk (fun W3 hk hc hg3=>⟨_,by simp [go_sem,hc],k W3 _ hk.below (ex_R (ints_grown hi9 hg3 (fun i e1 e2=>?_)) (hT.next hk.below))⟩)
 rw [hv9] at e1
 cases e1
 have:=Option.some.inj e2
 omega
theorem sz_cls (w:World):(sizeOf 65).run Tryz.prog w = .ok 2 w:=by kernel_rfl
theorem al_cls (w:World):(Instr.alloc 65 true (.tuple #[])).run Tryz.prog w = .ok (.pointer (some ⟨w.heap.size,0,none⟩)) (w.alloc (.cells [.int .i64 0,.slice none 0 0].toArray 65)):=by kernel_rfl
theorem local_cls {T' T2:TypeId} (a:Int) (ad:Option Addr) (n c:Nat) (hk:Kn w0 L w)
  (k:∀ b W,Kn w0 (cellsOf L b 0 [.int .i64 a,.slice ad n c]) W → Below w.heap.size w W → w.heap.size ≤ b → K (.pointer (some ⟨b,0,none⟩)) W) :
  oM Tryz.prog (.alloc 65) T' [] (fun v w=>oM Tryz.prog (.store 65 (.tmp 0) (.tmp 1)) T2 [v,.agg #[.int .i64 a,.slice ad n c]] (fun _ w=>K v w) w) w:=
 local_kn al_cls rfl sz_cls rfl rfl (clm_one a ad n c) hk k
theorem local_sig {T' T2:TypeId} (c z:Int) (hk:Kn w0 L w)
  (k:∀ b W,Kn w0 (cellsOf L b 0 (sigC c z)) W → Below w.heap.size w W → w.heap.size ≤ b → K (.pointer (some ⟨b,0,none⟩)) W) :
  oM Tryz.prog (.alloc 74) T' [] (fun v w=>oM Tryz.prog (.store 74 (.tmp 0) (.tmp 1)) T2 [v,sigV c z] (fun _ w=>K v w) w) w:=
 local_kn al_sig rfl sz_sig rfl rfl (sig_one c z) hk k
theorem local_prf {T' T2:TypeId} (ad ad2:Option Addr) (n c n2 c2:Nat) (hk:Kn w0 L w)
  (k:∀ b W,Kn w0 (cellsOf L b 0 (prfC (.slice ad n c) (.slice ad2 n2 c2))) W → Below w.heap.size w W → w.heap.size ≤ b → K (.pointer (some ⟨b,0,none⟩)) W) :
  oM Tryz.prog (.alloc 34) T' [] (fun v w=>oM Tryz.prog (.store 34 (.tmp 0) (.tmp 1)) T2 [v,prfV (.slice ad n c) (.slice ad2 n2 c2)] (fun _ w=>K v w) w) w:=
 local_kn al_prf rfl sz_prf rfl rfl (prf_one ad ad2 n c n2 c2) hk k
@[go_sem] theorem idx_cls (T:TypeId) (b o n c:Nat) (x:Int):oM Tryz.prog (.indexAddr 27 (.tmp 0) (.tmp 1)) T [.slice (some ⟨b,o,none⟩) n c,.int .i64 x] = onM (0 ≤ x ∧ x < n) (.pointer (some ⟨b,o + x.toNat * 2,none⟩)):=
 idx_row (K:=fun _ _=>True) _ T (by kernel_rfl) (fun w=>by kernel_rfl) b o n c x
@[go_sem] theorem idx_clm (T:TypeId) (b o n c:Nat) (x:Int):oM Tryz.prog (.indexAddr 63 (.tmp 0) (.tmp 1)) T [.slice (some ⟨b,o,none⟩) n c,.int .i64 x] = onM (0 ≤ x ∧ x < n) (.pointer (some ⟨b,o + x.toNat * 2,none⟩)):=
 idx_row (K:=fun _ _=>True) _ T (by kernel_rfl) (fun w=>by kernel_rfl) b o n c x
@[go_sem] theorem idx_knw' (T:TypeId) (b o n c:Nat) (x:Int):oM Tryz.prog (.indexAddr 114 (.tmp 0) (.tmp 1)) T [.slice (some ⟨b,o,none⟩) n c,.int .i64 x] = onM (0 ≤ x ∧ x < n) (.pointer (some ⟨b,o + x.toNat * 2,none⟩)):=idx_knw T b o n c x
@[go_sem] theorem idx_knws (T:TypeId) (b o n c:Nat) (x:Int):oM Tryz.prog (.indexAddr 28 (.tmp 0) (.tmp 1)) T [.slice (some ⟨b,o,none⟩) n c,.int .i64 x] = onM (0 ≤ x ∧ x < n) (.pointer (some ⟨b,o + x.toNat,none⟩)):=by
 have:=idx_row (K:=fun _ _=>True) (P:=Tryz.prog) (n:=1) 28 T (by kernel_rfl) (fun w=>by kernel_rfl) b o n c x
 rwa [Nat.mul_one] at this
theorem less_ok (hT:DbT w) (hl:Cd.LaidE w) (k:∀ w',Below w.heap.size w w' → K (.bool true) w'):callM Tryz.prog 38 #[] K w:=by
 apply sh_38_ok
 unfold sh_38
 obtain ⟨f1,f2,f3,f4,f5,f6,f7,f8,f9⟩:=less_facts
 refine example_ok hT (fun w1 v1 h1 hs=>?_)
 have hs':=hs
 obtain ⟨ad,c,rfl⟩:=hs.ints.isSlice
 refine local_stp ex ad 2 c (.next (.start w) h1) (fun b1 W1 hk hb1 hg1=>?_)
 have hs1:=hs'.next hb1
 repeat (any_goals (first
 | ((with_reducible refine mk2 4 4 i64lit i64lit ?_); intro v9 W9 hb9 hi9)
 | ((with_reducible refine oM_gen fun Kv hK=>?_); simp [go_sem,hk.cells]; refine hK _ _ ?_; clear hK Kv)))
 have hk:=hk.next hb9
 have hs1:=hs1.next hb9
 refine Weigh_ok ex [4,4] hs1 hi9 (fun w2 h2=>?_)
 rw [f1]
 have hk:=hk.next h2
 have hs1:=hs1.next h2
 repeat (any_goals (first
 | ((with_reducible refine mk2 1 2 i64lit i64lit ?_); intro v9 W9 hb9 hi9)
 | ((with_reducible refine oM_gen fun Kv hK=>?_); simp [go_sem,hk.cells]; refine hK _ _ ?_; clear hK Kv)))
 have hk:=hk.next hb9
 have hs1:=hs1.next hb9
 refine Split_ok ex 2 [1,2] hs1 i64lit hi9 (fun w3 bv kv D h3 hbits hknow hD hap=>?_)
 rw [f2] at hbits hknow ⊢
 have hknow:=hknow.srow (by decide) (by decide)
 have hk:=hk.next h3
 have hs1:=hs1.next h3
 repeat (any_goals ((with_reducible refine oM_gen fun Kv hK=>?_); simp [go_sem,hk.cells]; refine hK _ _ ?_; clear hK Kv))
 have hk:=hk.drew
 have hodr:Below w3.heap.size w3 { w3 with drawn:=w3.drawn + 1 }:=.drawn
 have hs1:=hs1.next hodr
 have hbits:=hbits.next hodr
 have hknow:=hknow.next (atOf_stay knws_vstay) hodr
 refine ⟨Nx { w3 with drawn:=w3.drawn + 1 },Below.refl _ _,rfl,?_⟩
 generalize ({ w3 with drawn:=w3.drawn + 1 }:World) = W at hk hs1 hbits hknow ⊢
 repeat (any_goals (first
 | (with_reducible refine pureH_in ?_)
 | ((with_reducible refine idOH ?_); (with_reducible refine oH_of ⟨_,rfl⟩ (fun W0 hW0=>by (refine oM_gen (fun Kv hK=>?_)); simp [go_sem,(hk.next hW0).cells]; (first | exact hK _ _ ⟨rfl,rfl⟩ | exact ⟨by omega,hK _ _ ⟨rfl,rfl⟩⟩)) ?_))))
 refine ⟨Nx,?_⟩
 apply monoE
 ·intro w1 h1
  exact Commit_ok ex 2 3 (hs1.next h1) i64lit i64lit (fun w2 h2=>⟨h1.on h2,h2,rfl⟩)
 rintro w9 h9 _ rfl
 have hk:=hk.next h9
 have hs1:=hs1.next h9
 have hbits:=hbits.next h9
 have hknow:=hknow.next (atOf_stay knws_vstay) h9
 refine Range_ok ex (commitM ex 2 3) [12,1] hs1 (commitM_I64 _ _ _) hbits (fun w4 gv h4 hgoal=>?_)
 have hk:=hk.next h4
 have hs1:=hs1.next h4
 have hbits:=hbits.next h4
 have hknow:=hknow.next (atOf_stay knws_vstay) h4
 rw [range_ex] at hgoal
 obtain ⟨gad,gc,rfl⟩:=id hgoal.isSlice
 obtain ⟨bad,bc,rfl⟩:=id hbits.isSlice
 obtain ⟨kad,kc,rfl⟩:=id hknow.isSlice
 have hbits:Ints w4 (.slice bad 2 bc) [12,1]:=hbits
 have hknow:KnowR w4 (.slice kad 2 kc) [[⟨true,[1]⟩,⟨false,[]⟩],[⟨false,[]⟩,⟨true,[2]⟩]]:=hknow
 have hgoal:GoalR w4 (.slice gad 3 gc) [bitC ex 12,bitC ex 1,lastC ex (commitM ex 2 3) (weighM ex [12,1]).1]:=hgoal
 simp only [List.length_cons,List.length_nil]
 repeat (any_goals (first
 | ((with_reducible refine mk2 12 1 i64lit i64lit ?_); intro v9 W9 hb9 hi9)
 | (with_reducible first|refine pureM_in ?_|refine zC ?_|refine yC ?_)
 | ((with_reducible refine oM_gen fun Kv hK=>?_); simp [go_sem,hk.cells]; refine hK _ _ ?_; clear hK Kv)))
 have hk:=hk.next hb9
 refine SameInts_ok (hbits.next hb9) hi9 (fun w5 h5=>?_)
 have hk:=hk.next h5
 rw [decide_eq_true rfl]
 have hb45:=hb9.on h5
 repeat (any_goals (first
 | ((with_reducible refine mk2 1 2 i64lit i64lit ?_); intro v9 W9 hb9 hi9)
 | (with_reducible first|refine zC ?_|refine yC ?_)
 | ((with_reducible refine oM_gen fun Kv hK=>?_); simp [go_sem,hk.cells]; refine hK _ _ ?_; clear hK Kv)))
 have hk:=hk.next hb9
 have hb4W:=hb45.on hb9
 refine Rest_ok ex 3 [1,2] (hs1.next hb4W) hi9 (fun w6 h6=>?_)
 rw [f3]
 have hk:=hk.next h6
 have hb46:=hb4W.on h6
 obtain ⟨bg,og,rfl,hbg,cc,hcl,hcell,gv,rfl,hI,hclm⟩:=(hgoal.next (atOf_stay cls_vstay) hb46).at (i:=2) (by decide)
 have g0:=hcell 0 _ rfl
 have g1:=hcell 1 _ rfl
 obtain ⟨gvad,gvc,rfl⟩:=id hclm.isSlice
 obtain ⟨bk,ok',kv0,rfl,hbk,ck0,hk0⟩:=(hknow.next (atOf_stay knws_vstay) hb46).one (i:=0) (by decide)
 obtain ⟨kvad,kvc,rfl⟩:=id hk0.isSlice
 have hclm:SRow 2 (AtOf 2 VClm) w6 (.slice gvad 1 gvc) [blindedM ex (overG ex.g (commitM ex 2 3) (weighM ex [12,1]).1)]:=hclm
 have hk0:KnwsR w6 (.slice kvad 2 kvc) [⟨true,[1]⟩,⟨false,[]⟩]:=hk0
 have g1:w6.cell? ⟨bg,og + 2 * 2 + 1,none⟩ = some (.slice gvad 1 gvc):=g1
 have g0:w6.cell? ⟨bg,og + 2 * 2 + 0,none⟩ = some (.int .i64 1):=g0
 have ck0:w6.cell? ⟨bk,ok' + 0,none⟩ = some (.slice kvad 2 kvc):=ck0
 have g0r:=g0
 have g1r:=g1
 simp only [Nat.reduceMul,Nat.reduceAdd,Nat.add_zero,Nat.add_assoc] at g0 g1 ck0
 obtain ⟨bw,ow,rfl,hbw,kc0,hkc0,hkcell0,kvv0,rfl,_⟩:=hk0.at (i:=0) (by decide)
 obtain ⟨bw',ow',e',_,kc1,hkc1,hkcell1,kvv1,rfl,_⟩:=hk0.at (i:=1) (by decide)
 cases e'
 have q0:=hkcell0 0 _ rfl
 have q1:=hkcell1 0 _ rfl
 have q0:w6.cell? ⟨bw,ow + 0 * 2 + 0,none⟩ = some (.bool true):=q0
 have q1:w6.cell? ⟨bw,ow + 1 * 2 + 0,none⟩ = some (.bool false):=q1
 simp only [Nat.reduceMul,Nat.reduceAdd,Nat.add_zero,Nat.add_assoc] at q0 q1
 have hcall:cellsAre w6 [(⟨bg,og + 4 + 1,none⟩,.slice gvad 1 gvc),(⟨bg,og + 5,none⟩,.slice gvad 1 gvc),(⟨bg,og + 4,none⟩,.int .i64 1),(⟨bk,ok',none⟩,.slice (some ⟨bw,ow,none⟩) 2 kvc),(⟨bw,ow,none⟩,.bool true),(⟨bw,ow + 2,none⟩,.bool false)]:=⟨g1,g1,g0,ck0,q0,q1,trivial⟩
 obtain ⟨bcl,ocl,rfl,hbcl,kcl,_,hclcell,clv,rfl,hClm⟩:=hclm.at (i:=0) (by decide)
 obtain ⟨ead,ec,rfl⟩:=id hClm.eqs.isSlice
 have p0:w6.cell? ⟨bcl,ocl + 0 * 2 + 0,none⟩ = some (.int .i64 1):=hclcell 0 _ rfl
 have p1:w6.cell? ⟨bcl,ocl + 0 * 2 + 1,none⟩ = some (.slice ead 1 ec):=hclcell 1 _ rfl
 obtain ⟨c0,hc0,hc1,hClm⟩:∃ c0:Clm,c0.vars = 1 ∧ HoldsM ex c0 [9] = true ∧ ClmR w6 c0 (.slice ead 1 ec):=⟨_,rfl,f5,hClm⟩
 simp only [Nat.reduceMul,Nat.reduceAdd,Nat.add_zero,Nat.add_assoc] at p0 p1
 have hk:Kn w ((⟨bcl,ocl,none⟩,.int .i64 1) :: (⟨bcl,ocl + 1,none⟩,.slice ead 1 ec) :: (⟨bk,ok',none⟩,.slice (some ⟨bw,ow,none⟩) 2 kvc) :: (⟨bw,ow,none⟩,.bool true) :: (⟨bw,ow + 2,none⟩,.bool false) :: (cellsOf [] b1 0 (stpC ex (.slice ad 2 c)))) w6:=⟨hk.below,p0,p1,ck0,q0,q1,hk.cells⟩
 iterate 13 (any_goals (first
 | (with_reducible first|refine pureM_in ?_|refine zC ?_|refine yC ?_|refine yM ?_)
 | ((with_reducible refine oM_gen fun Kv hK=>?_); simp [go_sem,hk.cells,g0r,g1r]; refine hK _ _ ?_; clear hK Kv)))
 refine local_cls 1 (some ⟨bcl,ocl,none⟩) 1 gvc hk (fun b7 W7 hk hb7 hg7=>?_)
 repeat (any_goals (first
 | (with_reducible first|refine pureM_in ?_|refine zC ?_|refine yC ?_|refine yM ?_)
 | ((with_reducible refine oM_gen fun Kv hK=>?_); simp [go_sem,hk.cells]; refine hK _ _ ?_; clear hK Kv)))
 have hb5W:=hb46.on hb7
 have hs7:=hs1.next hb5W
 have hsg:(signM ex 3 5 [104,101,108,108,111]).2 = true:=by unfold signM; rw [if_pos (by rw [f6,f7,f8]; rfl)]
 have hsd:=(sign_signed hsg).1
 rw [f9] at hsd
 have hlE:Cd.LaidE W7:=hl.below hk.below hl.size
 refine Sign_ok ex 3 5 [104,101,108,108,111] hs7 hlE.toLaid i64lit i64lit (by decide) (fun w8 h8=>?_)
 rw [hsg]
 generalize (signM ex 3 5 [104,101,108,108,111]).1.1 = sc at *
 generalize (signM ex 3 5 [104,101,108,108,111]).1.2 = sz at *
 have hk:=hk.next h8
 iterate 2 (any_goals ((with_reducible refine oM_gen fun Kv hK=>?_); simp [go_sem]; refine hK _ _ ?_; clear hK Kv))
 refine local_sig sc sz hk (fun b9 W9 hk hb9 hg9=>?_)
 refine mk1g 4 i64lit (fun v10 w10 h10 hi10 hv10=>?_)
 obtain ⟨ad10,c10,rfl⟩:=hi10.isSlice
 refine lit_ints _ _ _ (fun g11 w11 h11 hg11 hh11=>?_)
 refine mk2g 5 6 i64lit i64lit (fun v12 w12 h12 hi12 hv12=>?_)
 obtain ⟨ad12,c12,rfl⟩:=hi12.isSlice
 refine lit_ints _ _ _ (fun g13 w13 h13 hg13 hh13=>?_)
 refine lit_lists _ _ _ (fun g14 w14 h14 hg14 hh14=>?_)
 have hd14:ListsR w14 (.slice (some ⟨g11,0,none⟩) 1 1) [[4]]:=srow_lit1 (((hh11.next h12).next h13).next h14) rfl ⟨_,rfl,(((hi10.next h11).next h12).next h13).next h14⟩
 have ha14:NumsR w14 (.slice (some ⟨g14,0,none⟩) 1 1) [[[5,6]]]:=srow_lit1 hh14 rfl ⟨_,rfl,srow_lit1 (hh13.next h14) rfl ⟨_,rfl,(hi12.next h13).next h14⟩⟩
 have hk:=((((hk.next h10).next h11).next h12).next h13).next h14
 iterate 1 (any_goals ((with_reducible refine oM_gen fun Kv hK=>?_); simp [go_sem]; refine hK _ _ ?_; clear hK Kv))
 refine local_prf _ _ 1 1 1 1 hk (fun b15 W15 hk hb15 hg15=>?_)
 have hd15:=hd14.next (atOf_stay ints_stay) hb15
 have ha15:=ha14.next (atOf_stay lists_vstay) hb15
 repeat (any_goals ((with_reducible refine oM_gen fun Kv hK=>?_); simp [go_sem,hk.cells]; refine hK _ _ ?_; clear hK Kv))
 have hlE:Cd.LaidE W15:=hl.below hk.below hl.size
 refine Encode_ok [[4]] [[[5,6]]] hd15 ha15 hlE.toLaid ⟨by decide,by decide,by decide⟩ (fun w16 h16=>?_)
 rw [show (encodeM [[4]] [[[5,6]]]).2 = true from by decide +kernel]
 have hk:=hk.next h16
 repeat (any_goals ((with_reducible refine oM_gen fun Kv hK=>?_); simp [go_sem]; refine hK _ _ ?_; clear hK Kv))
 have hlE:Cd.LaidE w16:=hl.below hk.below hl.size
 have hde:decodeM (encodeM [[4]] [[[5,6]]]).1 = (([[4]],[[[5,6]]]),true):=decode_encode (by decide) (by simp [clauseL,itemL,InR]) (by decide)
 refine Decode_ok _ (by decide +kernel) hlE (fun w17 dv av h17 hdv hav=>?_)
 rw [hde] at hdv hav ⊢
 have hdv:ListsR w17 dv [[4]]:=hdv
 have hav:NumsR w17 av [[[5,6]]]:=hav
 obtain ⟨dad,dc,rfl⟩:=hdv.isSlice
 obtain ⟨aad,ac,rfl⟩:=hav.isSlice
 have hk:=hk.next h17
 iterate 2 (any_goals ((with_reducible refine oM_gen fun Kv hK=>?_); simp [go_sem]; refine hK _ _ ?_; clear hK Kv))
 refine local_prf _ _ _ _ _ _ hk (fun b18 W18 hk hb18 hg18=>?_)
 have hk:=hk.drew
 have hodr:Below W18.heap.size W18 { W18 with drawn:=W18.drawn + 1 }:=.drawn
 have hd18:=((((hd15.next (atOf_stay ints_stay) h16).next (atOf_stay ints_stay) h17).next (atOf_stay ints_stay) hb18)).next (atOf_stay ints_stay) hodr
 have ha18:=((((ha15.next (atOf_stay lists_vstay) h16).next (atOf_stay lists_vstay) h17).next (atOf_stay lists_vstay) hb18)).next (atOf_stay lists_vstay) hodr
 have hdv:=(hdv.next (atOf_stay ints_stay) hb18).next (atOf_stay ints_stay) hodr
 have hav:=(hav.next (atOf_stay lists_vstay) hb18).next (atOf_stay lists_vstay) hodr
 have h7d:Below W7.heap.size W7 { W18 with drawn:=W18.drawn + 1 }:=((((((((((((h8.on hb9).on h10).on h11).on h12).on h13).on h14).on hb15).on h16).on h17).on hb18)).on hodr)
 have hs18:=hs7.next h7d
 have hClm18:=(hClm.next hb7).next h7d
 have hl18:=hlE.toLaid.below ((h17.on hb18).on hodr) hlE.toLaid.size
 refine ⟨Nx { W18 with drawn:=W18.drawn + 1 },Below.refl _ _,trivial,?_⟩
 generalize ({ W18 with drawn:=W18.drawn + 1 }:World) = W at hk hs18 hClm18 hd18 ha18 hdv hav hl18 ⊢
 have hH:∀ w1,Nx W w1 → ∀ lv,Ints w1 lv [9] → ∀ K':Value → World → Prop,(∀ w2,Below w1.heap.size w1 w2 → K' (.bool true) w2) → callM Tryz.prog 41 #[stpV ex (.slice ad 2 c),.agg #[.int .i64 1,.slice ead 1 ec],lv] K' w1:=by
  intro w1 h1 lv hi1 K' hk'
  have:=Holds_ok (K:=K') ex c0 [9] (hs18.next h1) (hClm18.next h1) hi1 (fun w2 h2=>by rw [hc1]; exact hk' w2 h2)
  unfold clmV at this
  rw [hc0] at this
  exact this
 repeat (any_goals ((with_reducible refine idOH ?_); (with_reducible refine oH_of ⟨_,rfl⟩ (fun W0 hW0=>by (refine oM_gen (fun Kv hK=>?_)); simp [go_sem,(hk.next hW0).cells]; (first | exact hK _ _ ⟨rfl,rfl⟩ | exact ⟨by omega,hK _ _ ⟨rfl,rfl⟩⟩)) ?_)))
 refine ⟨Nx,?_⟩
 refine monoR (fun v w'=>Ints w' v [9]) (fun v w w1 hS h=>h.next hS) ?_ ?_
 ·intro w1 h1
  exact mk1 9 i64lit (fun v w2 h2 hi=>⟨h1.on h2,h2,hi⟩)
 apply monoE
 ·rintro w1 h1 v1 hi1
  exact hH w1 h1 v1 hi1 _ (fun w2 h2=>⟨h1.on h2,h2,rfl⟩)
 repeat (apply monoE; focus (intro w9 h9; (repeat (intro v9 e9; try (obtain rfl:=e9))); (repeat (any_goals (first
  | (with_reducible first|refine pureM_in ?_|refine zA ?_|refine yB ?_)
  | ((with_reducible refine oM_gen fun Kv hK=>?_); simp [go_sem,(hk.next h9).cells]; refine hK _ _ ?_; clear hK Kv)))); exact ⟨h9,Below.refl _ _,rfl⟩))
 apply monoE
 ·(intro w9 h9; repeat (intro v9 e9; try (obtain rfl:=e9)))
  repeat (any_goals (with_reducible refine zA ?_))
  refine Signed_ok ex 18 [104,101,108,108,111] sc sz (hs18.next h9) (hl18.below h9 hl18.size) i64lit (by decide) (fun w2 h2=>?_)
  rw [hsd]
  exact ⟨h9.on h2,h2,rfl⟩
 repeat (apply monoE; focus (intro w9 h9; (repeat (intro v9 e9; try (obtain rfl:=e9))); (repeat (any_goals (first
  | (with_reducible first|refine pureM_in ?_|refine zA ?_|refine yB ?_)
  | ((with_reducible refine oM_gen fun Kv hK=>?_); simp [go_sem,(hk.next h9).cells]; refine hK _ _ ?_; clear hK Kv)))); exact ⟨h9,Below.refl _ _,rfl⟩))
 (intro w9 h9; repeat (intro v9 e9; try (obtain rfl:=e9)))
 repeat (any_goals (with_reducible refine zA ?_))
 refine SameProof_ok (hd18.next (atOf_stay ints_stay) h9) (ha18.next (atOf_stay lists_vstay) h9) (hdv.next (atOf_stay ints_stay) h9) (hav.next (atOf_stay lists_vstay) h9) (fun w2 h2=>?_)
 rw [decide_eq_true rfl,decide_eq_true rfl]
 repeat (any_goals (with_reducible refine yB ?_))
 exact k _ (hk.next (h9.on h2)).below
end
end Go.Proofs
namespace Go.Proofs
open Go Go.Sh Tryz
def sh_54 (a0:Value) (K:Value → World → Prop) (w:World):Prop:=
 oM prog (.box 69 (.tmp 0)) 0 [a0] (fun v1 w=>
 loopM [(.bool false),(.int .i64 0)] w (fun J_2 m_3 l_4 u_l_4 w0_l_4=>(fun w=>(
 oM prog (.fieldAddr 69 (.tmp 0) 1) 0 [v1] (fun v5 w=>
 oM prog (.load 67 (.tmp 0)) 67 [v5] (fun v6 w=>
 oM prog (.call (Go.Call.mk (.builtin .len) #[(.tmp 0)] #[67])) 3 [v6] (fun v7 w=>
 oM prog (.binOp .lss 3 (.tmp 0) (.tmp 1) 3) 4 [(l_4.getD 1 undef),v7] (fun v8 w=>
 gdM (gd v8 true) (pureM (l_4.getD 1 undef)) (fun v10 w=>
 gdM (gd v8 true) (oM prog (.binOp .lss 3 (.tmp 0) (.tmp 1) 3) 4 [v10,(.int .i64 5)]) (fun v11 w=>
 oM prog (.pick (.tmp 0) (.tmp 1) (.tmp 2)) 4 [v8,v11,(.bool false)] (fun v12 w=>
 condM v12
 (oM prog (.fieldAddr 69 (.tmp 0) 1) 0 [v1] (fun v15 w=>
 oM prog (.load 67 (.tmp 0)) 67 [v15] (fun v16 w=>
 oM prog (.indexAddr 67 (.tmp 0) (.tmp 1)) 0 [v16,(l_4.getD 1 undef)] (fun v18 w=>
 oM prog (.fieldAddr 144 (.tmp 0) 1) 0 [v18] (fun v19 w=>
 oM prog (.load 142 (.tmp 0)) 142 [v19] (fun v20 w=>
 oM prog (.call (Go.Call.mk (.builtin .len) #[(.tmp 0)] #[142])) 3 [v20] (fun v21 w=>
 oM prog (.binOp .gtr 3 (.tmp 0) (.tmp 1) 3) 4 [v21,(.int .i64 6)] (fun v22 w=>
 condM v22
 (K (.bool false) w)
 (oM prog (.binOp .add 3 (.tmp 0) (.tmp 1) 3) 3 [(l_4.getD 1 undef),(.int .i64 1)] (fun v14 w=>
 J_2 [(l_4.getD 0 undef),v14] w ∧ m_3 [(l_4.getD 0 undef),v14] w < m_3 l_4 w0_l_4) w)) w) w) w) w) w) w) w)
 (oM prog (.fieldAddr 69 (.tmp 0) 1) 0 [v1] (fun v23 w=>
 oM prog (.load 67 (.tmp 0)) 67 [v23] (fun v24 w=>
 oM prog (.call (Go.Call.mk (.builtin .len) #[(.tmp 0)] #[67])) 3 [v24] (fun v25 w=>
 oM prog (.binOp .leq 3 (.tmp 0) (.tmp 1) 3) 4 [v25,(.int .i64 4)] (fun v26 w=>
 gdM (gd v26 true) (oM prog (.fieldAddr 69 (.tmp 0) 0) 0 [v1]) (fun v28 w=>
 gdM (gd v26 true) (oM prog (.load 3 (.tmp 0)) 3 [v28]) (fun v29 w=>
 gdM (gd v26 true) (oM prog (.binOp .leq 3 (.tmp 0) (.tmp 1) 3) 4 [v29,(.int .i64 6)]) (fun v30 w=>
 gdM (gd v26 true) (pureM v30) (fun v31 w=>
 gdM (gd v31 false) (oM prog (.fieldAddr 69 (.tmp 0) 0) 0 [v1]) (fun v32 w=>
 gdM (gd v31 false) (oM prog (.load 3 (.tmp 0)) 3 [v32]) (fun v33 w=>
 gdM (gd v31 false) (oM prog (.binOp .gtr 3 (.tmp 0) (.tmp 1) 3) 4 [v33,(.int .i64 120)]) (fun v34 w=>
 gdM (gd v31 false) (pureM v34) (fun v35 w=>
 gdM (gd v35 true) (oM prog (.fieldAddr 69 (.tmp 0) 0) 0 [v1]) (fun v36 w=>
 gdM (gd v35 true) (oM prog (.load 3 (.tmp 0)) 3 [v36]) (fun v37 w=>
 gdM (gd v35 true) (oM prog (.binOp .leq 3 (.tmp 0) (.tmp 1) 3) 4 [v37,(.int .i64 130)]) (fun v38 w=>
 gdM (gd v31 false) (oM prog (.pick (.tmp 0) (.tmp 1) (.tmp 2)) 4 [v35,v38,(.bool false)]) (fun v39 w=>
 gdM (gd v26 true) (oM prog (.pick (.tmp 0) (.tmp 1) (.tmp 2)) 4 [v31,(.bool true),v39]) (fun v40 w=>
 oM prog (.pick (.tmp 0) (.tmp 1) (.tmp 2)) 4 [v26,v40,(.bool false)] (fun v41 w=>
 K v41 w) w) w) w) w) w) w) w) w) w) w) w) w) w) w) w) w) w) w)) w) w) w) w) w) w) w)) w0_l_4)) w
theorem sh_54_ok {a0:Value} {K:Value → World → Prop} {w:World} (h:sh_54 a0 K w):callM prog 54 #[a0] K w:=
 calls_of_code (fun _=>0) (fn:=Tryz.f54) (rs:=[.tmp 2]) Tryz.func54 rfl rfl (by kernel_rfl) (Nat.le_of_ble_eq_true rfl) (Eq.mp (by kernel_rfl) h)
end Go.Proofs
namespace Go.Proofs
open Go Go.Sh Go.RowKit FdSpec TkSpec CodeSpec PrSpec
section
variable {K:Value → World → Prop} {w w' w0 W:World} {L:List (Addr × Value)}
end
end Go.Proofs
namespace Go.Proofs
open Go Go.Sh Go.RowKit FdSpec TkSpec CodeSpec PrSpec
section
variable {K:Value → World → Prop} {w w' w0 W:World} {L:List (Addr × Value)}
theorem local_clm {T' T2:TypeId} (a:Int) (ad:Option Addr) (n c:Nat) (hk:Kn w0 L w)
  (k:∀ b W,Kn w0 (cellsOf L b 0 [.int .i64 a,.slice ad n c]) W → Below w.heap.size w W → w.heap.size ≤ b → K (.pointer (some ⟨b,0,none⟩)) W) :
  oM Tryz.prog (.alloc 69) T' [] (fun v w=>oM Tryz.prog (.store 69 (.tmp 0) (.tmp 1)) T2 [v,.agg #[.int .i64 a,.slice ad n c]] (fun _ w=>K v w) w) w:=
 local_kn al_clm rfl sz_clm rfl rfl (clm_one a ad n c) hk k
end
end Go.Proofs
namespace Go.Proofs
open FdSpec TkSpec CodeSpec PrSpec
end Go.Proofs
namespace Go.Proofs
open FdSpec TkSpec CodeSpec PrSpec
def rowP (i k:Nat) (l:List Clm):List (Nat × Nat × Clm):=(l.zipIdx k).map fun p=>(i,p.2,p.1)
def places (o:Nat) (goal:List Cls):List (Nat × Nat × Clm):=(goal.zipIdx o).flatMap fun p=>rowP p.2 0 p.1.claims
end Go.Proofs
namespace Go.Proofs
open Go Go.Sh Go.RowKit FdSpec TkSpec CodeSpec PrSpec
theorem rowP_append (i k:Nat) (a b:List Clm):rowP i k (a ++ b) = rowP i k a ++ rowP i (k + a.length) b:=by
 unfold rowP; rw [List.zipIdx_append,List.map_append]
theorem places_append (o:Nat) (a b:List Cls):places o (a ++ b) = places o a ++ places (o + a.length) b:=by
 unfold places; rw [List.zipIdx_append,List.flatMap_append]
theorem places_one (o:Nat) (c:Cls):places o [c] = rowP o 0 c.claims:=by
 unfold places; simp
theorem rowP_one (i k:Nat) (c:Clm):rowP i k [c] = [(i,k,c)]:=by
 unfold rowP; simp
theorem places_step {goal:List Cls} {i:Nat} {c:Cls} (h:goal[i]? = some c):places 0 (goal.take (i + 1)) = places 0 (goal.take i) ++ rowP i 0 c.claims:=by
 have hi:i < goal.length:=(List.getElem?_eq_some_iff.1 h).1
 rw [List.take_add_one,h,places_append]
 simp only [Option.toList,places_one]
 rw [List.length_take,Nat.min_eq_left (by omega),Nat.zero_add]
theorem rowP_step {i k:Nat} {l:List Clm} {c:Clm} (h:l[k]? = some c):rowP i 0 (l.take (k + 1)) = rowP i 0 (l.take k) ++ [(i,k,c)]:=by
 have hi:k < l.length:=(List.getElem?_eq_some_iff.1 h).1
 rw [List.take_add_one,h,rowP_append]
 simp only [Option.toList,rowP_one]
 rw [List.length_take,Nat.min_eq_left (by omega),Nat.zero_add]
theorem places_part {goal:List Cls} {i k:Nat} {c:Cls} (h:goal[i]? = some c):places 0 (goal.take i) ++ rowP i 0 (c.claims.take k) <+: places 0 goal:=by
 have h1:places 0 (goal.take (i + 1)) <+: places 0 goal:=by
  refine ⟨places (0 + (goal.take (i + 1)).length) (goal.drop (i + 1)),?_⟩
  rw [← places_append,List.take_append_drop]
 rw [places_step h] at h1
 refine List.IsPrefix.trans ?_ h1
 refine ⟨rowP i (0 + (c.claims.take k).length) (c.claims.drop k),?_⟩
 rw [List.append_assoc,← rowP_append,List.take_append_drop]
theorem places_mem {goal:List Cls} {i k:Nat} {cl:Cls} {c:Clm} (h:goal[i]? = some cl) (hk:cl.claims[k]? = some c):(i,k,c) ∈ places 0 goal:=by
 unfold places rowP
 simp only [List.mem_flatMap,List.mem_map,Prod.mk.injEq,Prod.exists]
 exact ⟨cl,i,by rw [List.mem_zipIdx_iff_getElem?]; simpa using h,c,k,by rw [List.mem_zipIdx_iff_getElem?]; simpa using hk,rfl,rfl,rfl⟩
structure Itm (goal:List Cls) (w:World) where
 i:Nat
 k:Nat
 cl:Cls
 c:Clm
 v:Value
 hi:goal[i]? = some cl
 hk:cl.claims[k]? = some c
 hv:ClmR w c v
@[reducible] def plcV (i k:Int):Value:=.agg #[.int .i64 i,.int .i64 k]
def Itm.enc {goal:List Cls} {w:World} (x:Itm goal w):Array Value:=#[plcV x.i x.k,clmV x.c x.v]
def Itm.at {goal:List Cls} {w:World} (x:Itm goal w):Nat × Nat × Clm:=(x.i,x.k,x.c)
section
variable {K:Value → World → Prop} {w w' w0 W:World} {L:List (Addr × Value)}
theorem yield_mono {F:Fence} {m:Nat} {P:Program} {l:Nat} {args:Array Value} {W:World} {R R':Ending → World → Prop} (h:YieldAt F m P l args W R) (hr:∀ e w,R e w → R' e w):YieldAt F m P l args W R':=by
 obtain ⟨fn,tmps,a,b,h1,h2⟩:=h
 exact ⟨fn,tmps,a,b,h1,h2.mono hr⟩
def PrePl (goal:List Cls) (w:World) (J:List (Itm goal w) → World → Prop) (l:List (Nat × Nat × Clm)) (W:World):Prop:=Below w.heap.size w W ∧ ∃ pre,pre.map Itm.at = l ∧ J pre W
theorem PrePl.next {goal:List Cls} {w:World} {J:List (Itm goal w) → World → Prop} {l:List (Nat × Nat × Clm)} {W W':World} {B:Nat} (hJ:AbidesFrom B J) (h:PrePl goal w J l W) (hb:Below W.heap.size W W'):PrePl goal w J l W':=by
 obtain ⟨h1,pre,h2,h3⟩:=h
 exact ⟨h1.on hb,pre,h2,hJ pre W W' none h3 ⟨hb.os,hb.tape,hb.output,hb.size,fun k hk _=>hb.block k hk⟩ (fun r e=>by cases e)⟩
def CtJ1 (goal:List Cls) (w:World) (J:List (Itm goal w) → World → Prop) (vs:List Value) (W:World):Prop:=∃ (u0 u1:Value) (i:Nat),vs = [u0,u1,.int .i64 (i:Int)] ∧ i ≤ goal.length ∧ PrePl goal w J (places 0 (goal.take i)) W
def CtJ2 (goal:List Cls) (w:World) (J:List (Itm goal w) → World → Prop) (i:Nat) (c:Cls) (vs:List Value) (W:World):Prop:=∃ (u0:Value) (k:Nat),vs = [u0,.int .i64 (k:Int)] ∧ k ≤ c.claims.length ∧ PrePl goal w J (places 0 (goal.take i) ++ rowP i 0 (c.claims.take k)) W
theorem claims_seq {goal:List Cls} {gv:Value} {g:Nat} (hg:GoalR w gv goal) (hww:Below w.heap.size w w') (hlt:g < w'.heap.size) (hc:w'.cell? ⟨g,0,none⟩ = some gv) :
  SeqStopsK Fence.wide 9 Tryz.prog 158 #[.pointer (some ⟨g,0,none⟩)] (Itm.enc (goal:=goal) (w:=w)) (Below w.heap.size) (fun xs=>xs.map Itm.at = places 0 goal) (fun pre=>pre.map Itm.at <+: places 0 goal) (places 0 goal).length w':=by
 intro l J Jx W hb hJ hJx hY h0
 refine CallsIn.mono (sh_158_ok (m:=0) (a0:=.func (.yield l) #[] #[]) (a1:=.pointer (some ⟨g,0,none⟩)) (w:=W) (K:=fun _ W'=>(∃ xs:List (Itm goal w),xs.map Itm.at = places 0 goal ∧ J xs W') ∨ (∃ pre:List (Itm goal w),pre.map Itm.at <+: places 0 goal ∧ Jx pre W')) ?_) (fun e W' h=>by obtain ⟨v,h1,h2⟩:=h; exact ⟨⟨v,h1⟩,h2⟩)
 unfold sh_158
 obtain ⟨ad,cap,rfl⟩:=hg.isSlice
 have hln:=hg.len
 have hc0:=(hb.cell hlt).trans hc
 have hb:=hww.on hb
 repeat (any_goals ((with_reducible refine oM_gen fun Kv hK=>?_); simp [go_sem,hc0]; refine hK _ _ ?_; clear hK Kv))
 refine ⟨CtJ1 goal w J,(fun vs _=>match vs with | [_,_,.int _ i]=>goal.length - i.toNat | _=>0),⟨_,_,0,rfl,by omega,hb,[],rfl,h0⟩,?_⟩
 rintro _ _ W1 ⟨u0,u1,i,rfl,hi,hp⟩
 by_cases hin:i = goal.length
 ·repeat (any_goals (first
  | (with_reducible refine yO ?_)
  | ((with_reducible refine oM_gen fun Kv hK=>?_); simp [go_sem,hc0]; refine hK _ _ ?_; clear hK Kv)))
  obtain ⟨h1,pre,h2,h3⟩:=hp
  rw [hin,List.take_length] at h2
  exact .inl ⟨pre,h2,h3⟩
 have e1:goal[i]? = some goal[i]:=List.getElem?_eq_getElem (by omega)
 obtain ⟨b1,o1,rfl,hlt1,cs1,_,hcell1,v1,rfl,hI1,hrow1⟩:=hg.at (i:=i) (by omega)
 have c01:=hcell1 0 _ rfl
 have c11:=hcell1 1 _ rfl
 simp only [Nat.add_zero] at c01
 generalize goal[i] = c at *
 obtain ⟨ad1,cp1,rfl⟩:=hrow1.isSlice
 have hln1:=hrow1.len
 have hll1:(i:Int) < goal.length:=by omega
 have hW1:=hp.1
 iterate 4 (any_goals (first
 | (with_reducible refine yL ?_)
 | ((with_reducible refine oM_gen fun Kv hK=>?_); simp [go_sem,(hW1.cell hlt1).trans c01,(hW1.cell hlt1).trans c11,hll1]; refine hK _ _ ?_; clear hK Kv)))
 refine local_cls _ _ _ _ (.start W1) (fun b2 W2 hk2 hb2 hg2=>?_)
 have hp:=hp.next hJ hb2
 iterate 3 (any_goals ((with_reducible refine oM_gen fun Kv hK=>?_); simp [go_sem,hk2.cells]; refine hK _ _ ?_; clear hK Kv))
 refine ⟨CtJ2 goal w J i c,(fun vs _=>match vs with | [_,.int _ k]=>c.claims.length - k.toNat | _=>0),⟨_,0,rfl,by omega,by simpa [rowP] using hp⟩,?_⟩
 clear hp hk2 hb2 hg2 hW1
 rintro _ _ W3 ⟨u2,k,rfl,hk,hp⟩
 by_cases hkn:k = c.claims.length
 ·rw [hkn,List.take_length,← places_step e1] at hp
  repeat (any_goals (first
  | (with_reducible refine yO ?_)
  | ((with_reducible refine oM_gen fun Kv hK=>?_); simp [go_sem]; (try simp (disch:=omega) only [wrapI64,wrapU8,wrapU32,wrapU64]); refine hK _ _ ?_; clear hK Kv)))
  refine ⟨⟨_,_,i + 1,rfl,by omega,hp⟩,by show goal.length - (((i + 1:Nat):Int)).toNat < goal.length - ((i:Nat):Int).toNat; omega⟩
 have e3:c.claims[k]? = some c.claims[k]:=List.getElem?_eq_getElem (by omega)
 obtain ⟨b3,o3,rfl,hlt3,cs3,_,hcell3,v3,rfl,hm3⟩:=hrow1.at (i:=k) (by omega)
 have c03:=hcell3 0 _ rfl
 have c13:=hcell3 1 _ rfl
 simp only [Nat.add_zero] at c03
 generalize c.claims[k] = m at *
 obtain ⟨ad3,cp3,hv3⟩:=hm3.eqs.isSlice
 subst hv3
 have hll3:(k:Int) < c.claims.length:=by omega
 have hW3:=hp.1
 iterate 4 (any_goals (first
 | (with_reducible refine yL ?_)
 | ((with_reducible refine oM_gen fun Kv hK=>?_); simp [go_sem,(hW3.cell hlt3).trans c03,(hW3.cell hlt3).trans c13,hll3]; refine hK _ _ ?_; clear hK Kv)))
 refine local_clm _ _ _ _ (.start W3) (fun b4 W4 hk4 hb4 hg4=>?_)
 have hp:=hp.next hJ hb4
 iterate 2 (any_goals ((with_reducible refine oM_gen fun Kv hK=>?_); simp [go_sem,hk4.cells]; refine hK _ _ ?_; clear hK Kv))
 obtain ⟨hW4,pre,hpre,hJp⟩:=hp
 have hst:=rowP_step (i:=i) e3
 have hpt:places 0 (goal.take i) ++ rowP i 0 (c.claims.take (k + 1)) <+: places 0 goal:=places_part e1
 rw [hst,← List.append_assoc,← hpre] at hpt
 have hlen:pre.length < (places 0 goal).length:=by
  have:=hpt.length_le
  simp only [List.length_append,List.length_map,List.length_cons,List.length_nil] at this
  omega
 have hx:∃ x:Itm goal w,x = ⟨i,k,c,m,_,e1,e3,hm3⟩:=⟨_,rfl⟩
 obtain ⟨x,hx⟩:=hx
 have hat:(pre ++ [x]).map Itm.at = places 0 (goal.take i) ++ rowP i 0 (c.claims.take (k + 1)):=by
  rw [List.map_append,hpre,hst,List.append_assoc,hx]
  rfl
 refine ⟨l,rfl,yield_mono (by have h:=hY pre x W4 hJp hlen; rw [hx] at h; exact h) ?_⟩
 rintro e W5 (⟨rfl,h5,hk5⟩ | ⟨rfl,h5⟩)
 ·refine ⟨_,rfl,?_⟩
  repeat (any_goals (first
  | (with_reducible refine yM ?_)
  | ((with_reducible refine oM_gen fun Kv hK=>?_); simp [go_sem]; (try simp (disch:=omega) only [wrapI64,wrapU8,wrapU32,wrapU64]); refine hK _ _ ?_; clear hK Kv)))
  refine ⟨⟨_,k + 1,rfl,by omega,hW4.trans hk5,pre ++ [x],hat,by rw [hx]; exact h5⟩,by show c.claims.length - (((k + 1:Nat):Int)).toNat < c.claims.length - ((k:Nat):Int).toNat; omega⟩
 ·refine ⟨_,rfl,?_⟩
  repeat (any_goals (first
  | (with_reducible refine yL ?_)
  | ((with_reducible refine oM_gen fun Kv hK=>?_); simp [go_sem]; refine hK _ _ ?_; clear hK Kv)))
  refine .inr ⟨pre ++ [x],?_,by rw [hx]; exact h5⟩
  rw [hat]
  exact places_part e1
end
end Go.Proofs
namespace Go.Proofs
open Go Go.Sh Go.RowKit FdSpec TkSpec CodeSpec PrSpec
section
variable {K:Value → World → Prop} {w w' w0 W W':World} {L:List (Addr × Value)} {g n B:Nat} {row:Option Nat}
def OwnS (B:Nat) (W:World):Nat → Prop:=fun i=>B ≤ i ∧ ∃ o:Obj,W.heap[i]? = some o ∧ o.isCells = false
theorem own_fr (hg:W.grownBy W' row) (hr:∀ r,row = some r → B ≤ r ∧ ∃ o:Obj,W.heap[r]? = some o ∧ o.isCells = false):Fr (OwnS B W) W W':=by
 refine ⟨hg.os,hg.tape,hg.output,hg.size,fun i hi hn=>hg.block i hi (fun e=>hn ?_)⟩
 exact hr i (by first | exact e | exact e.symm)
theorem put_fr {D:Nat} {o:Obj} (o':Obj) (hD:B ≤ D) (hl:W.heap[D]? = some o) (ho:o.isCells = false):Fr (OwnS B W) W (W.putObj D o'):=
 own_fr (grownBy_putObj' W D o') (fun r e=>by cases e; exact ⟨hD,o,hl,ho⟩)
theorem cell_obj {a:Addr} {u:Value} (h:W.cell? a = some u):∃ o,W.heap[a.block]? = some o ∧ o.isCells = true:=by
 unfold World.cell? at h
 cases e:W.heap[a.block]? with
 | none=>rw [e] at h; simp at h
 | some o=>
  refine ⟨o,rfl,?_⟩
  rw [e] at h
  cases o <;> first | rfl | (simp at h)
theorem cellsAre_mem {L:List (Addr × Value)} (h:cellsAre W L):∀ p ∈ L,W.cell? p.1 = some p.2:=by
 induction L with
 | nil=>intro p hp; cases hp
 | cons a l ih=>
  intro p hp
  rcases List.mem_cons.1 hp with rfl | hp
  ·exact h.1
  ·exact ih h.2 p hp
theorem own_not {i:Nat} {o:Obj} (h:W.heap[i]? = some o) (ho:o.isCells = true):¬ OwnS B W i:=by
 rintro ⟨_,o',h1,h2⟩
 rw [h] at h1
 cases h1
 rw [ho] at h2
 cases h2
theorem own_below (h:Below w0.heap.size w0 W) (hB:w0.heap.size ≤ B) (hf:Fr (OwnS B W) W W'):Below w0.heap.size w0 W':=
 ⟨hf.os.trans h.os,hf.tape.trans h.tape,hf.output.trans h.output,Nat.le_trans h.size hf.size,fun k hk=>(hf.block k (Nat.lt_of_lt_of_le hk h.size) (fun x=>by have:=x.1; omega)).trans (h.block k hk)⟩
theorem own_kn (h:Kn w0 L W) (hB:w0.heap.size ≤ B) (hf:Fr (OwnS B W) W W'):Kn w0 L W':=
 ⟨own_below h.below hB hf,cells_fr h.cells hf fun p hp=>⟨cells_lt h.cells p hp,by
  obtain ⟨o,h1,h2⟩:=cell_obj (cellsAre_mem h.cells p hp)
  exact own_not h1 h2⟩⟩
theorem own_mine (h:Mine W g n) (hf:Fr (OwnS B W) W W'):Mine W' g n:=by
 obtain ⟨cur,T,h1,h2⟩:=h
 refine ⟨cur,T,?_,h2⟩
 rw [hf.block g (Array.getElem?_eq_some_iff.1 h1).1 (own_not h1 rfl)]
 exact h1
theorem own_knm (h:KnM w0 L g n W) (hB:w0.heap.size ≤ B) (hf:Fr (OwnS B W) W W'):KnM w0 L g n W':=⟨own_kn h.kn hB hf,own_mine h.mine hf,h.base,h.off⟩
theorem keeps_below (h:Below W.heap.size W W'):KeepsFrom B W W':=⟨h.size,fun k o _ hk _=>by rw [h.block k (Array.getElem?_eq_some_iff.1 hk).1]; exact hk⟩
theorem keeps_mine {g:Nat} (hg:W.grownBy W' (some g)) (hm:Mine W g n):KeepsFrom B W W':=⟨hg.size,fun k o _ hk ho=>by
 obtain ⟨cur,T,h1,_⟩:=hm
 rw [hg.block k (Array.getElem?_eq_some_iff.1 hk).1 (fun e=>by cases e; rw [h1] at hk; cases hk; cases ho)]
 exact hk⟩
theorem ret_bool {b:Bool} (hc:W.cell? ⟨g,0,none⟩ = some (.bool b)) (k:K (.bool b) W):∃ r,(do loadVar 4 (← asAddr (.pointer (some ⟨g,0,none⟩))):Sem Value).run Tryz.prog W = .ok r W ∧ K r W:=by
 refine ⟨.bool b,?_,k⟩
 show (Instr.loadAt 4 (.pointer (some ⟨g,0,none⟩))).run Tryz.prog W = _
 simp [go_sem,hc]
theorem al_bool (w:World):(Instr.alloc 4 true (.tuple #[])).run Tryz.prog w = .ok (.pointer (some ⟨w.heap.size,0,none⟩)) (w.alloc (.cells [.bool false].toArray 4)):=by kernel_rfl
theorem sz_bool (w:World):(sizeOf 4).run Tryz.prog w = .ok 1 w:=by kernel_rfl
theorem store_bool {T':TypeId} {b:Bool} (hk:KnM w0 L g 1 w) (k:∀ W,KnM w0 L g 1 W → w.grownBy W (some g) → W.cell? ⟨g,0,none⟩ = some (.bool b) → K undef W) :
  oM Tryz.prog (.store 4 (.tmp 0) (.tmp 1)) T' [.pointer (some ⟨g,0,none⟩),.bool b] K w:=by
 obtain ⟨W,e,hg,hm,hc⟩:=store_run (P:=Tryz.prog) (w:=w) (W:=w) (T:=4) (x:=.bool b) (xs:=[.bool b]) sz_bool rfl rfl (by intro u hu; rw [List.mem_singleton] at hu; subst hu; rfl) hk.mine
 rw [oM_store,e]
 exact k W ⟨hk.kn.wrote hg hk.base hk.off,hm,hk.base,hk.off⟩ hg hc.1
theorem claims_ok {gv:Value} {goal:List Cls} (hg:GoalR w gv goal) (k:∀ g W,Below w.heap.size w W → w.heap.size ≤ g → g < W.heap.size → W.cell? ⟨g,0,none⟩ = some gv → K (.func (.func 158) #[] #[.pointer (some ⟨g,0,none⟩)]) W):callM Tryz.prog 93 #[gv] K w:=by
 apply sh_93_ok
 unfold sh_93
 obtain ⟨ad,c,rfl⟩:=hg.isSlice
 refine box_kn (cs:=[.slice ad goal.length c]) rfl (.start w) fun b1 W hk hb1 hbb=>?_
 have h1:=cells_lt hk.cells _ (List.mem_singleton.2 rfl)
 have h2:=hk.cells.1
 repeat (any_goals ((with_reducible refine oM_gen fun Kv hK=>?_); simp [go_sem]; refine hK _ _ ?_; clear hK Kv))
 exact k _ _ hb1 hbb h1 h2
theorem range_claims {goal:List Cls} {gv:Value} {A:Array Value → (List Value → World → Prop) → World → Prop} {Bd:Array Value → List Value → Env → (World → Prop) → (World → Prop) → World → Prop} {Kd Kr:Nat → World → Prop}
  (hg:GoalR w gv goal) (hww:Below w.heap.size w w') (hlt:g < w'.heap.size) (hc:w'.cell? ⟨g,0,none⟩ = some gv)
  (I Ix:List (Itm goal w) → World → Prop) (M:Itm goal w → List Value → World → Prop)
  (hI:∀ pre W W',I pre W → Fr (OwnS w'.heap.size W) W W' → I pre W') (hIx:∀ pre W W',Ix pre W → Fr (OwnS w'.heap.size W) W W' → Ix pre W') (hM:∀ x l W W',M x l W → Fr (OwnS w'.heap.size W) W W' → M x l W') (h0:I [] w')
  (hA:∀ pre x W,I pre W → A x.enc (fun l W1=>KeepsFrom w'.heap.size W W1 ∧ Below w.heap.size W W1 ∧ I pre W1 ∧ M x l W1) W)
  (hB:∀ pre x l u W,I pre W → M x l W → pre.length < (places 0 goal).length → Bd x.enc l u (fun W2=>KeepsFrom w'.heap.size W W2 ∧ Below w.heap.size W W2 ∧ I (pre ++ [x]) W2) (fun W2=>KeepsFrom w'.heap.size W W2 ∧ Ix (pre ++ [x]) W2) W)
  (hd:∀ D xs W,w'.heap.size ≤ D → xs.map Itm.at = places 0 goal → I xs W → W.heap[D]? = some (.deferred (some [])) → Kd D W)
  (hs:∀ D pre W,w'.heap.size ≤ D → pre.map Itm.at <+: places 0 goal → Ix pre W → W.heap[D]? = some (.deferred (some [])) → Kr D W) :
  Go.Sh.rangeM Tryz.prog (.func (.func 158) #[] #[.pointer (some ⟨g,0,none⟩)]) 2 w' A Bd Kd Kr:=
 ⟨158,_,Itm goal w,Itm.enc,Below w.heap.size,_,_,_,rfl,by kernel_rfl,claims_seq hg hww hlt hc,fun _=>rfl,fun h k=>h.trans k,fun X l o o' hl h _ _=>(belowK_b (n₀:=w.heap.size) hww.size X l o o' hl h (by assumption) (by assumption)),
  I,Ix,M,fun s X Y row h1 h2 h3=>hI _ _ _ h1 (own_fr h2 h3),fun s X Y row h1 h2 h3=>hIx _ _ _ h1 (own_fr h2 h3),fun x l s X Y row h1 h2 h3=>hM _ _ _ _ h1 (own_fr h2 h3),h0,hA,hB,hd,hs⟩
end
end Go.Proofs
namespace Go.Proofs
open Go Go.Sh Go.RowKit FdSpec TkSpec CodeSpec PrSpec
section
variable {K:Value → World → Prop} {w w' w0 W W':World} {L:List (Addr × Value)} {g n B:Nat} {row:Option Nat}
theorem own_cells (h:cellsAre W L) (hf:Fr (OwnS B W) W W'):cellsAre W' L:=
 cells_fr h hf fun p hp=>⟨cells_lt h p hp,by
  obtain ⟨o,h1,h2⟩:=cell_obj (cellsAre_mem h p hp)
  exact own_not h1 h2⟩
theorem own_cell {a:Addr} {u:Value} (h:W.cell? a = some u) (hf:Fr (OwnS B W) W W'):W'.cell? a = some u:=(own_cells (L:=[(a,u)]) ⟨h,trivial⟩ hf).1
theorem local_clsM {T' T2:TypeId} (a:Int) (ad:Option Addr) (m c:Nat) (hk:KnM w0 L g n w)
  (k:∀ b W,KnM w0 (cellsOf L b 0 [.int .i64 a,.slice ad m c]) g n W → Below w.heap.size w W → w.heap.size ≤ b → K (.pointer (some ⟨b,0,none⟩)) W) :
  oM Tryz.prog (.alloc 65) T' [] (fun v w=>oM Tryz.prog (.store 65 (.tmp 0) (.tmp 1)) T2 [v,.agg #[.int .i64 a,.slice ad m c]] (fun _ w=>K v w) w) w:=
 local_knm al_cls rfl sz_cls rfl rfl (clm_one a ad m c) hk k
theorem all_places {f:Clm → Bool} {goal:List Cls}:(∀ p ∈ places 0 goal,f p.2.2 = true) → (goal.all fun c=>c.claims.all f) = true:=by
 intro h
 rw [List.all_eq_true]
 intro cl hcl
 rw [List.all_eq_true]
 intro c hc
 obtain ⟨i,hi,rfl⟩:=List.getElem_of_mem hcl
 obtain ⟨k,hk,rfl⟩:=List.getElem_of_mem hc
 exact h _ (places_mem (List.getElem?_eq_getElem hi) (List.getElem?_eq_getElem hk))
theorem itm_mem {goal:List Cls} {w:World} (x:Itm goal w) {f:Clm → Bool} (h:f x.c = false):(goal.all fun c=>c.claims.all f) = false:=by
 rw [Bool.eq_false_iff]
 intro h2
 have h3:=List.all_eq_true.1 (List.all_eq_true.1 h2 x.cl (List.mem_of_getElem? x.hi)) x.c (List.mem_of_getElem? x.hk)
 rw [h] at h3
 cases h3
theorem all_items {goal:List Cls} {w:World} {xs:List (Itm goal w)} {f:Clm → Bool} (h:xs.map Itm.at = places 0 goal) (ha:∀ x ∈ xs,f x.c = true):(goal.all fun c=>c.claims.all f) = true:=by
 refine all_places fun p hp=>?_
 rw [← h,List.mem_map] at hp
 obtain ⟨x,hx,rfl⟩:=hp
 exact ha x hx
def VgJ (s:Stp) (goal:List Cls) (w0:World) (L:List (Addr × Value)) (rb:Nat) (vs:List Value) (W:World):Prop:=KnM w0 L rb 1 W ∧ ∃ (u0:Value) (i:Nat),vs = [u0,.int .i64 (i:Int)] ∧ i ≤ goal.length ∧ (goal.take i).all (clsFine s) = true
theorem ValidGoal_ok (s:Stp) {sv gv:Value} {goal:List Cls} (hs:SetR w s sv) (hg:GoalR w gv goal) (k:∀ w',Below w.heap.size w w' → K (.bool (goalM s goal)) w'):callM Tryz.prog 23 #[stpV s sv,gv] K w:=by
 apply sh_23_ok
 unfold sh_23
 have hs':=hs
 have hg':=hg
 obtain ⟨ad,c,rfl⟩:=hs.ints.isSlice
 obtain ⟨gad,gc,rfl⟩:=hg.isSlice
 have hln:=hg.len
 refine box_kn (cs:=stpC s (.slice ad s.bases.length c)) rfl (.start w) fun b1 W hk hb1 hbb=>?_
 refine alloc_mine (zs:=[.bool false]) al_bool rfl hk fun rb W hk hb2 hgb=>?_
 clear hb1 hb2
 have no:goalM s goal = false → ∀ {L:List (Addr × Value)} {W:World} {T:TypeId},KnM w L rb 1 W → oM Tryz.prog (.store 4 (.tmp 0) (.tmp 1)) T [.pointer (some ⟨rb,0,none⟩),.bool false] (fun _ w=>∃ r,(do loadVar 4 (← asAddr (.pointer (some ⟨rb,0,none⟩))):Sem Value).run Tryz.prog w = .ok r w ∧ K r w) W:=by
  intro hf L W T hk
  refine store_bool hk fun W hk hgr hc=>ret_bool hc ?_
  have k:=k _ hk.below
  rwa [hf] at k
 repeat (any_goals ((with_reducible refine oM_gen fun Kv hK=>?_); simp [go_sem,hk.cells]; refine hK _ _ ?_; clear hK Kv))
 refine ValidSetup_ok s (hs'.next hk.below) (fun w2 h2=>?_)
 have hk:=hk.next h2
 cases hvs:validS s with
 | false=>
  repeat (any_goals (first
  | (with_reducible first|refine zD ?_|refine yB ?_|refine yL ?_)
  | ((with_reducible refine oM_gen fun Kv hK=>?_); simp [go_sem]; refine hK _ _ ?_; clear hK Kv)))
  exact no (by simp [goalM,hvs]) hk
 | true=>
 by_cases h1:goal.length < 1
 ·have h1':(goal.length:Int) < 1:=by omega
  repeat (any_goals (first
  | (with_reducible first|refine pureM_in ?_|((refine idGd ?_); first|refine zC ?_|refine zD ?_)|((refine idPick ?_); first|refine yB ?_|refine yC ?_)|refine yL ?_)
  | ((with_reducible refine oM_gen fun Kv hK=>?_); simp [go_sem,h1']; refine hK _ _ ?_; clear hK Kv)))
  exact no (by simp [goalM,show ¬ 1 ≤ goal.length by omega]) hk
 by_cases h3:300 < goal.length
 ·have h3':(300:Int) < goal.length:=by omega
  have h1':¬ (goal.length:Int) < 1:=by omega
  repeat (any_goals (first
  | (with_reducible first|refine pureM_in ?_|refine zC ?_|refine yC ?_|refine yL ?_)
  | ((with_reducible refine oM_gen fun Kv hK=>?_); simp [go_sem,h1',h3']; refine hK _ _ ?_; clear hK Kv)))
  exact no (by simp [goalM,show ¬ goal.length ≤ 300 by omega]) hk
 have h1':¬ (goal.length:Int) < 1:=by omega
 have h3':¬ (300:Int) < goal.length:=by omega
 repeat (any_goals (first
 | (with_reducible first|refine pureM_in ?_|refine zC ?_|refine yC ?_|refine yM ?_)
 | ((with_reducible refine oM_gen fun Kv hK=>?_); simp [go_sem,h1',h3']; refine hK _ _ ?_; clear hK Kv)))
 refine ⟨VgJ s goal w _ rb,grMu goal.length,⟨hk,_,0,rfl,by omega,rfl⟩,?_⟩
 clear hk h2
 rintro _ _ W1 ⟨hk,u0,i,rfl,hi,hall⟩
 by_cases hin:i = goal.length
 ·rw [hin,List.take_length] at hall
  repeat (any_goals (first
  | (with_reducible refine yO ?_)
  | ((with_reducible refine oM_gen fun Kv hK=>?_); simp [go_sem]; refine hK _ _ ?_; clear hK Kv)))
  refine claims_ok (hg'.next (atOf_stay cls_vstay) hk.below) (fun cb W2 hb2 hcb hlt hcell=>?_)
  have hk:=hk.next hb2
  refine range_claims (w:=w) hg' hk.below hlt hcell
   (fun pre W=>KnM w (cellsOf [] b1 0 (stpC s (.slice ad s.bases.length c))) rb 1 W ∧ ∀ x ∈ pre,claimM s x.c = true)
   (fun pre W=>Below w.heap.size w W ∧ W.cell? ⟨rb,0,none⟩ = some (.bool false) ∧ ∃ x ∈ pre,claimM s x.c = false)
   (fun x l W=>∃ b,l = [.pointer (some ⟨b,0,none⟩)] ∧ cellsAre W (cellsOf [] b 0 (clmC x.c x.v)))
   (fun pre W W' h hf=>⟨own_knm h.1 hk.below.size hf,h.2⟩)
   (fun pre W W' h hf=>⟨own_below h.1 hk.below.size hf,own_cell h.2.1 hf,h.2.2⟩)
   (fun x l W W' h hf=>by obtain ⟨b,e,h⟩:=h; exact ⟨b,e,own_cells h hf⟩)
   ⟨hk,fun x hx=>by cases hx⟩ ?_ ?_ ?_ ?_
  ·rintro pre x W ⟨hk,hp⟩
   obtain ⟨xad,xc,hxv⟩:=x.hv.eqs.isSlice
   have e:x.enc.getD 1 undef = .agg #[.int .i64 x.c.vars,.slice xad x.c.eqs.length xc]:=by rw [← hxv]; rfl
   dsimp only
   rw [e]
   refine local_clm _ _ _ _ (.start W) (fun b W' hk' hb hgb=>?_)
   exact ⟨keeps_below hb,hb.mono hk.below.size,⟨hk.next hb,hp⟩,b,rfl,by rw [hxv]; exact hk'.cells⟩
  ·rintro pre x l u W ⟨hk,hp⟩ ⟨b,rfl,hm⟩ hlen
   obtain ⟨xad,xc,hxv⟩:=x.hv.eqs.isSlice
   rw [hxv] at hm
   dsimp only
   repeat (any_goals ((with_reducible refine oM_gen fun Kv hK=>?_); simp [go_sem,hk.cells,hm]; refine hK _ _ ?_; clear hK Kv))
   have hx':=x.hv.next hk.below
   rw [hxv] at hx'
   refine validClaim_ok s x.c (hs'.next hk.below) hx' (fun W' hb=>?_)
   have hk2:=hk.next hb
   cases hcl:claimM s x.c with
   | false=>
    repeat (any_goals (first
    | (with_reducible refine yL ?_)
    | ((with_reducible refine oM_gen fun Kv hK=>?_); simp [go_sem]; refine hK _ _ ?_; clear hK Kv)))
    refine store_bool hk2 fun W'' hk3 hgr hc=>?_
    exact ⟨(keeps_below hb).trans (keeps_mine hgr hk2.mine),hk3.below,hc,x,by simp,hcl⟩
   | true=>
    repeat (any_goals (first
    | (with_reducible refine yM ?_)
    | ((with_reducible refine oM_gen fun Kv hK=>?_); simp [go_sem]; refine hK _ _ ?_; clear hK Kv)))
    refine ⟨keeps_below hb,hb.mono hk.below.size,hk2,fun y hy=>?_⟩
    rcases List.mem_append.1 hy with hy | hy
    ·exact hp y hy
    ·rw [List.mem_singleton.1 hy]; exact hcl
  ·rintro D xs W hD hxs ⟨hk2,hp⟩ hh
   have hgD:rb < D:=Nat.lt_of_lt_of_le (Nat.lt_of_lt_of_le (mine_lt hk.mine) (Nat.le_refl _)) hD
   refine store_bool hk2 fun W'' hk3 hgr hc=>?_
   have hh2:W''.heap[D]? = some (.deferred (some [])):=by
    rw [hgr.block D (Array.getElem?_eq_some_iff.1 hh).1 (fun e=>by cases e; omega)]; exact hh
   have hf:=put_fr (B:=W2.heap.size) (.deferred none) hD hh2 rfl
   refine ⟨hh2,ret_bool (own_cell hc hf) ?_⟩
   have k:=k _ (own_below hk3.below hk.below.size hf)
   have e:goalM s goal = true:=by
    unfold goalM
    rw [hvs,hall,all_items hxs hp]
    simp
    omega
   rwa [e] at k
  ·rintro D pre W hD hpre ⟨hk3,hc,x,hx,hcl⟩ hh
   have hf:=put_fr (B:=W2.heap.size) (.deferred none) hD hh rfl
   refine ⟨hh,ret_bool (own_cell hc hf) ?_⟩
   have k:=k _ (own_below hk3 hk.below.size hf)
   have e:goalM s goal = false:=by
    unfold goalM
    rw [itm_mem x hcl]
    simp
   rwa [e] at k
 have e1:goal[i]? = some goal[i]:=List.getElem?_eq_getElem (by omega)
 obtain ⟨b1,o1,rfl,hlt1,cs1,_,hcell1,v1,rfl,hI1,hrow1⟩:=hg'.at (i:=i) (by omega)
 have c01:=hcell1 0 _ rfl
 have c11:=hcell1 1 _ rfl
 simp only [Nat.add_zero] at c01
 have bad:clsFine s goal[i] = false → goalM s goal = false:=by
  intro h
  have:goal.all (clsFine s) = false:=by
   rw [Bool.eq_false_iff]
   intro h2
   have:=List.all_eq_true.1 h2 goal[i] (List.getElem_mem _)
   rw [h] at this
   cases this
  simp [goalM,this]
 have hst:clsFine s goal[i] = true → (goal.take (i + 1)).all (clsFine s) = true:=by
  intro h
  rw [List.take_add_one,List.all_append,hall,e1]
  simp [h]
 generalize goal[i] = cl at *
 obtain ⟨ad1,cp1,rfl⟩:=hrow1.isSlice
 have hln1:=hrow1.len
 have hll1:(i:Int) < goal.length:=by omega
 iterate 4 (any_goals (first
 | (with_reducible refine yL ?_)
 | ((with_reducible refine oM_gen fun Kv hK=>?_); simp [go_sem,(hk.below.cell hlt1).trans c01,(hk.below.cell hlt1).trans c11,hll1]; refine hK _ _ ?_; clear hK Kv)))
 refine local_clsM _ _ _ _ hk (fun b2 W2 hk2 hb2 hg2=>?_)
 have hk3:=hk.next hb2
 by_cases a1:cl.claims.length < 1
 ·have a1':(cl.claims.length:Int) < 1:=by omega
  repeat (any_goals (first
  | (with_reducible first|refine zD ?_|refine yB ?_|refine yL ?_)
  | ((with_reducible refine oM_gen fun Kv hK=>?_); simp [go_sem,hk2.cells,a1']; refine hK _ _ ?_; clear hK Kv)))
  exact no (bad (by simp [clsFine,show ¬ 1 ≤ cl.claims.length by omega])) hk3
 have a1':¬ (cl.claims.length:Int) < 1:=by omega
 by_cases a2:16 < cl.claims.length
 ·have a2':(16:Int) < cl.claims.length:=by omega
  repeat (any_goals (first
  | (with_reducible first|refine pureM_in ?_|((refine idGd ?_); first|refine zC ?_|refine zD ?_)|((refine idPick ?_); first|refine yB ?_|refine yC ?_)|refine yL ?_)
  | ((with_reducible refine oM_gen fun Kv hK=>?_); simp [go_sem,hk2.cells,a1',a2']; refine hK _ _ ?_; clear hK Kv)))
  exact no (bad (by simp [clsFine,show ¬ cl.claims.length ≤ 16 by omega])) hk3
 have a2':¬ (16:Int) < cl.claims.length:=by omega
 by_cases a3:¬ (cl.claims.length:Int) < s.g.Q
 ·have a3':s.g.Q ≤ (cl.claims.length:Int):=by omega
  repeat (any_goals (first
  | (with_reducible first|refine pureM_in ?_|((refine idGd ?_); first|refine zC ?_|refine zD ?_)|((refine idPick ?_); first|refine yB ?_|refine yC ?_)|refine yL ?_)
  | ((with_reducible refine oM_gen fun Kv hK=>?_); simp [go_sem,hk2.cells,a1',a2',a3']; refine hK _ _ ?_; clear hK Kv)))
  exact no (bad (by simp [clsFine,a3])) hk3
 have a3':¬ s.g.Q ≤ (cl.claims.length:Int):=by omega
 by_cases a4:cl.need < 1
 ·repeat (any_goals (first
  | (with_reducible first|refine pureM_in ?_|((refine idGd ?_); first|refine zC ?_|refine zD ?_)|((refine idPick ?_); first|refine yB ?_|refine yC ?_)|refine yL ?_)
  | ((with_reducible refine oM_gen fun Kv hK=>?_); simp [go_sem,hk2.cells,a1',a2',a3',a4]; refine hK _ _ ?_; clear hK Kv)))
  exact no (bad (by simp [clsFine,show ¬ 1 ≤ cl.need by omega])) hk3
 by_cases a5:(cl.claims.length:Int) < cl.need
 ·repeat (any_goals (first
  | (with_reducible first|refine pureM_in ?_|refine zC ?_|refine yC ?_|refine yL ?_)
  | ((with_reducible refine oM_gen fun Kv hK=>?_); simp [go_sem,hk2.cells,a1',a2',a3',a4,a5]; refine hK _ _ ?_; clear hK Kv)))
  exact no (bad (by simp [clsFine,show ¬ cl.need ≤ cl.claims.length by omega])) hk3
 repeat (any_goals (first
 | (with_reducible first|refine pureM_in ?_|refine zC ?_|refine yC ?_|refine yM ?_)
 | ((with_reducible refine oM_gen fun Kv hK=>?_); simp [go_sem,hk2.cells,a1',a2',a3',a4,a5]; (try simp (disch:=omega) only [wrapI64,wrapU8,wrapU32,wrapU64]); refine hK _ _ ?_; clear hK Kv)))
 refine ⟨⟨hk3,_,i + 1,rfl,by omega,hst ?_⟩,by simp only [grMu_eq]; omega⟩
 unfold clsFine
 simp
 omega
end
end Go.Proofs
namespace Go.Proofs
open Go Go.Sh Go.RowKit FdSpec TkSpec CodeSpec PrSpec
section
variable {K:Value → World → Prop} {w w' w0 W W':World} {L:List (Addr × Value)} {g n B:Nat} {row:Option Nat}
end
end Go.Proofs
namespace Go.Proofs
open Go Go.Sh Go.RowKit FdSpec TkSpec CodeSpec PrSpec
section
variable {K:Value → World → Prop} {w w' w0 W W':World} {L:List (Addr × Value)} {g n B:Nat} {row:Option Nat}
end
end Go.Proofs
namespace Go.Proofs
open Go Go.Sh Go.RowKit FdSpec TkSpec CodeSpec PrSpec
section
variable {K:Value → World → Prop} {w w' w0 W W':World} {L:List (Addr × Value)} {g n B:Nat} {row:Option Nat}
theorem keeps_by {b:Option Nat} (hg:W.grownBy W' b) (hb:∀ i,b = some i → ∃ cur T,W.heap[i]? = some (.cells cur T (0,0))):KeepsFrom B W W':=⟨hg.size,fun k o _ hk ho=>by
 rw [hg.block k (Array.getElem?_eq_some_iff.1 hk).1 (fun e=>by
  obtain ⟨cur,T,h1⟩:=hb k (by first | exact e | exact e.symm)
  rw [h1] at hk; cases hk; cases ho)]
 exact hk⟩
theorem knm_by {b:Option Nat} (h:KnM w0 L g n W) (hg:W.grownBy W' b) (hb:∀ i,b = some i → B ≤ i) (h1:g < B) (h2:∀ p ∈ L,p.1.block < B) (h3:w0.heap.size ≤ B):KnM w0 L g n W':=by
 have hf:=Fr.of_by' hg
 refine ⟨⟨h.below.grown hg h.below.size (fun k hk=>by have:=hb k (by first | exact hk | exact hk.symm); omega),cells_fr h.cells hf (fun p hp=>⟨cells_lt h.cells p hp,fun e=>by have:=hb _ e; have:=h2 p hp; omega⟩)⟩,?_,h.base,h.off⟩
 obtain ⟨cur,T,h4,h5⟩:=h.mine
 exact ⟨cur,T,by rw [hf.block g (Array.getElem?_eq_some_iff.1 h4).1 (fun e=>by have:=hb _ e; omega)]; exact h4,h5⟩
structure VarI (w0:World) (L:List (Addr × Value)) (cb B:Nat) (l:List Int) (W:World):Prop where
 knm:KnM w0 L cb 1 W
 ex:∃ ad c,W.cell? ⟨cb,0,none⟩ = some (.slice ad l.length c) ∧ OwnI W B (.slice ad l.length c) l
 b1:cb < B
 b2:∀ p ∈ L,p.1.block < B
 b3:w0.heap.size ≤ B
 b4:B ≤ W.heap.size
variable {cb:Nat} {l m:List Int}
theorem VarI.next (h:VarI w0 L cb B l W) (hb:Below W.heap.size W W'):VarI w0 L cb B l W':=by
 obtain ⟨ad,c,h1,h2⟩:=h.ex
 exact ⟨h.knm.next hb,⟨ad,c,(hb.cell (mine_lt h.knm.mine)).trans h1,h2.keep hb⟩,h.b1,h.b2,h.b3,Nat.le_trans h.b4 hb.size⟩
theorem VarI.own {C:Nat} (h:VarI w0 L cb B l W) (hC:w0.heap.size ≤ C) (hf:Fr (OwnS C W) W W'):VarI w0 L cb B l W':=by
 obtain ⟨ad,c,h1,h2⟩:=h.ex
 refine ⟨own_knm h.knm hC hf,⟨ad,c,own_cell h1 hf,owns_keep h2 (fun i hi=>?_)⟩,h.b1,h.b2,h.b3,Nat.le_trans h.b4 hf.size⟩
 obtain ⟨h3,_,cur,h4⟩:=owns_own h2 hi
 exact hf.block i h3 (own_not h4 rfl)
theorem VarI.add {C:Nat} {ad:Option Addr} {c:Nat} {xv:Value} {T T2:TypeId} {Q:World → Prop} (h:VarI w0 L cb B l W) (ho:OwnI W B (.slice ad l.length c) l) (hx:Ints W xv m) (hl:l.length + m.length < 1099511627776)
  (k:∀ W2,VarI w0 L cb B (l ++ m) W2 → KeepsFrom C W W2 → Below w0.heap.size W W2 → Q W2) :
  oM Tryz.prog (.call { callee:=.builtin .append,args:=#[.tmp 0,.tmp 1],argTypes:=#[24,24] }) T [.slice ad l.length c,xv] (fun v' w=>oM Tryz.prog (.store 24 (.tmp 0) (.tmp 1)) T2 [.pointer (some ⟨cb,0,none⟩),v'] (fun _ w=>Q w) w) W:=by
 refine appendNg ho h.b4 hx hl (fun v' w1 ho1 hg1 hv1=>?_)
 obtain ⟨ad',c',rfl⟩:=owns_len ho1
 have hbB:∀ i,(Value.slice ad l.length c).ownBlock = some i → B ≤ i:=fun i e=>(owns_own ho e).2.1
 have hk1:=knm_by h.knm hg1 hbB h.b1 h.b2 h.b3
 obtain ⟨W2,e,hg2,hm2,hc2⟩:=store_run (P:=Tryz.prog) (w:=w1) (W:=w1) (T:=24) (x:=.slice ad' (l ++ m).length c') (xs:=[.slice ad' (l ++ m).length c']) sz_ints rfl rfl (by intro u hu; rw [List.mem_singleton] at hu; subst hu; rfl) hk1.mine
 rw [oM_store,e]
 have hk2:KnM w0 L cb 1 W2:=⟨hk1.kn.wrote hg2 hk1.base hk1.off,hm2,hk1.base,hk1.off⟩
 have hB1:Below w0.heap.size W w1:=(Below.refl w0.heap.size W).grown hg1 h.knm.below.size (fun k hk=>by have:=hbB k (by first | exact hk | exact hk.symm); have:=h.b3; omega)
 refine k W2 ⟨hk2,⟨ad',c',hc2.1,owns_keep ho1 (fun i hi=>hg2.block i (owns_own ho1 hi).1 (fun e=>by cases e; have:=(owns_own ho1 hi).2.1; have:=h.b1; omega))⟩,h.b1,h.b2,h.b3,Nat.le_trans h.b4 (Nat.le_trans hg1.size hg2.size)⟩ ?_ ?_
 ·exact (keeps_by hg1 (fun i e=>by obtain ⟨_,_,cur,h4⟩:=owns_own ho e; exact ⟨cur,_,h4⟩)).trans (keeps_mine hg2 hk1.mine)
 ·exact hB1.grown hg2 (Nat.le_trans h.knm.below.size hB1.size) (fun k hk=>by have:=hk1.base; cases hk; omega)
end
end Go.Proofs
namespace Go.Proofs
open Go Go.Sh Go.RowKit FdSpec TkSpec CodeSpec PrSpec
section
variable {K:Value → World → Prop} {w w' w0 W W':World} {L:List (Addr × Value)} {g n B:Nat} {row:Option Nat}
end
end Go.Proofs
namespace Go.Proofs
open Go Go.Sh Go.RowKit FdSpec TkSpec CodeSpec PrSpec
section
variable {K:Value → World → Prop} {w w' w0 W W':World} {L:List (Addr × Value)} {g n B:Nat} {row:Option Nat}
end
end Go.Proofs
namespace Go.Proofs
open FdSpec TkSpec CodeSpec PrSpec
end Go.Proofs
namespace Go.Proofs
open Go Go.Sh Go.RowKit FdSpec TkSpec CodeSpec PrSpec
section
variable {K:Value → World → Prop} {w w' w0 W W':World} {L:List (Addr × Value)} {g n B:Nat} {row:Option Nat}
end
end Go.Proofs
namespace Go.Proofs
open Go Go.Sh Go.RowKit FdSpec TkSpec CodeSpec PrSpec
structure Bit (l:List Int) where
 i:Nat
 c:Int
 h:l[i]? = some c
def Bit.enc {l:List Int} (x:Bit l):Array Value:=#[.int .i64 x.i,.int .i64 x.c]
section
variable {K:Value → World → Prop} {w w' w0 W W':World} {L:List (Addr × Value)} {g n B:Nat} {row:Option Nat}
def KpB (n g:Nat) (A B:World):Prop:=Below n A B ∧ ∀ o,A.heap[g]? = some o → B.heap[g]? = some o
theorem KpB.trans {n g:Nat} {A B C:World} (h:KpB n g A B) (k:KpB n g B C):KpB n g A C:=⟨h.1.trans k.1,fun o ho=>k.2 o (h.2 o ho)⟩
theorem KpB.cell {n g:Nat} {A B:World} {u:Value} (h:KpB n g A B) (hc:A.cell? ⟨g,0,none⟩ = some u):B.cell? ⟨g,0,none⟩ = some u:=by
 obtain ⟨o,h1,_⟩:=cell_obj hc
 have h1:A.heap[g]? = some o:=h1
 rw [← hc]
 unfold World.cell?
 rw [h1,h.2 o h1]
end
end Go.Proofs
namespace Go.Proofs
open Go Go.Sh Go.RowKit FdSpec TkSpec CodeSpec PrSpec FdPoly
section
variable {K:Value → World → Prop} {w w' w0 W W':World} {L:List (Addr × Value)} {g n B:Nat} {row:Option Nat}
theorem al_int (w:World):(Instr.alloc 3 true (.tuple #[])).run Tryz.prog w = .ok (.pointer (some ⟨w.heap.size,0,none⟩)) (w.alloc (.cells [.int .i64 0].toArray 3)):=by kernel_rfl
theorem sz_int1 (w:World):(sizeOf 3).run Tryz.prog w = .ok 1 w:=by kernel_rfl
end
end Go.Proofs
namespace Go.Proofs
open Go Go.Sh Go.RowKit FdSpec TkSpec CodeSpec PrSpec
section
variable {K:Value → World → Prop} {w w' w0 W W':World} {L:List (Addr × Value)} {g n B:Nat} {row:Option Nat}
@[reducible] def uqV (n:Int):Value:=.int .u64 n
structure Met (q:Int) (pre:List Int) (l:List (Int × Value)):Prop where
 nd:(l.map (·.1)).Nodup
 mem:∀ k,k ∈ l.map (·.1) ↔ k ∈ pre.map (fun x=>x % q)
 le:l.length ≤ pre.length
 len:l.length = pre.length ↔ (pre.map fun x=>x % q).Nodup
theorem Met.put {q:Int} {pre:List Int} {l:List (Int × Value)} (h:Met q pre l) (x:Int) (v:Value):Met q (pre ++ [x]) (putA l (x % q) v):=by
 have hk:=keys_put l (x % q) v
 have hlen:(putA l (x % q) v).length = ((putA l (x % q) v).map (·.1)).length:=by simp
 by_cases hs:(lookA l (x % q)).isSome
 ·rw [if_pos hs] at hk
  have hm:=(lookA_isSome l (x % q)).1 hs
  have hm':=(h.mem _).1 hm
  refine ⟨nodup_put l _ v h.nd,fun k=>?_,?_,?_⟩
  ·rw [hk,h.mem k,List.map_append,List.mem_append]
   refine ⟨.inl,fun e=>e.elim id fun e=>?_⟩
   simp only [List.map_cons,List.map_nil,List.mem_singleton] at e
   rw [e]; exact hm'
  ·rw [hlen,hk,List.length_map,List.length_append]
   have:=h.le
   omega
  ·rw [hlen,hk,List.length_map,List.length_append]
   have:=h.le
   refine ⟨fun e=>by simp only [List.length_cons,List.length_nil] at e; omega,fun e=>?_⟩
   rw [List.map_append,List.nodup_append] at e
   exact (e.2.2 _ hm' _ (by simp) rfl).elim
 ·rw [if_neg hs] at hk
  have hm:x % q ∉ l.map (·.1):=fun e=>hs ((lookA_isSome l (x % q)).2 e)
  have hm':x % q ∉ pre.map (fun x=>x % q):=fun e=>hm ((h.mem _).2 e)
  refine ⟨nodup_put l _ v h.nd,fun k=>?_,?_,?_⟩
  ·rw [hk,List.mem_append,h.mem k,List.map_append,List.mem_append]
   simp
  ·rw [hlen,hk,List.length_append,List.length_map,List.length_append]
   have:=h.le
   simp only [List.length_cons,List.length_nil]
   omega
  ·rw [hlen,hk,List.length_append,List.length_map,List.length_append,List.map_append,List.nodup_append]
   simp only [List.length_cons,List.length_nil]
   rw [show l.length + (0 + 1) = pre.length + (0 + 1) ↔ l.length = pre.length by omega,h.len]
   refine ⟨fun e=>⟨e,by simp,fun a ha b hb=>?_⟩,fun e=>e.1⟩
   simp only [List.map_cons,List.map_nil,List.mem_singleton] at hb
   rw [hb]
   rintro rfl
   exact hm' ha
theorem prime_okN {q:Int} (h:primeM q = true):okN q:=by
 unfold primeM at h
 by_cases h1:q < 2 ∨ 2305843009213693952 ≤ q
 ·rw [if_pos h1] at h
  cases h
 ·unfold okN
  omega
end
end Go.Proofs
namespace Go.Proofs
open Go Go.Sh Go.RowKit FdSpec TkSpec CodeSpec PrSpec FdPoly
section
variable {K:Value → World → Prop} {w w' w0 W W':World} {L:List (Addr × Value)} {g n B:Nat} {row:Option Nat}
structure RowP (W:World) (B g c:Nat) (l:List Int):Prop where
 cells:∃ cur,W.heap[g]? = some (.cells cur 3 (0,0)) ∧ cur.size = c ∧ cur.toList.take l.length = l.map (Value.int .i64)
 le:l.length ≤ c
 base:B ≤ g
 max:c ≤ maxLen
theorem RowP.of {ad:Option Addr} {c:Nat} {l:List Int} (h:OwnI W B (.slice ad l.length c) l) (hl:l ≠ []):∃ g,ad = some ⟨g,0,none⟩ ∧ RowP W B g c l:=by
 rcases h.2 with ⟨h1,h2⟩ | ⟨g,cap,cur,h1,hb,hg,hc,hm,hs,ht⟩
 ·exact absurd (List.length_eq_zero_iff.1 h2) hl
 ·cases h1
  refine ⟨g,rfl,⟨cur,hg,by simpa using hs,?_⟩,hc,hb,hm⟩
  rw [Nat.mul_one,flat_int] at ht
  exact ht
theorem RowP.owns {c:Nat} {l:List Int} (h:RowP W B g c l):OwnI W B (.slice (some ⟨g,0,none⟩) l.length c) l:=by
 obtain ⟨cur,hg,hs,ht⟩:=h.cells
 refine ⟨by rw [flat_int]; simp,.inr ⟨g,c,cur,rfl,h.base,hg,h.le,h.max,by simpa using hs,?_⟩⟩
 rw [Nat.mul_one,flat_int]
 exact ht
theorem RowP.lt {c:Nat} {l:List Int} (h:RowP W B g c l):g < W.heap.size:=by
 obtain ⟨cur,hg,_⟩:=h.cells
 exact (Array.getElem?_eq_some_iff.1 hg).1
theorem RowP.next {c:Nat} {l:List Int} (h:RowP W B g c l) (hb:Below W.heap.size W W'):RowP W' B g c l:=by
 obtain ⟨cur,hg,hr⟩:=h.cells
 exact ⟨⟨cur,by rw [hb.block g h.lt]; exact hg,hr⟩,h.le,h.base,h.max⟩
theorem RowP.cell {c:Nat} {l:List Int} (h:RowP W B g c l) {i:Nat} {x:Int} (hx:l[i]? = some x):W.cell? ⟨g,i,none⟩ = some (.int .i64 x):=by
 obtain ⟨cur,hg,hs,ht⟩:=h.cells
 have hi:=(List.getElem?_eq_some_iff.1 hx).1
 have h1:(cur.toList.take l.length)[i]? = some (.int .i64 x):=by rw [ht,List.getElem?_map,hx]; rfl
 rw [List.getElem?_take_of_lt hi] at h1
 unfold World.cell?
 rw [hg]
 simpa using h1
theorem RowP.set {c:Nat} {l:List Int} {i:Nat} {x:Int} {T':TypeId} (h:RowP W B g c l) (hi:i < l.length) (k:∀ W',W.grownBy W' (some g) → RowP W' B g c (l.set i x) → K undef W') :
  oM Tryz.prog (.store 3 (.tmp 0) (.tmp 1)) T' [.pointer (some ⟨g,i,none⟩),.int .i64 x] K W:=by
 obtain ⟨cur,hg,hs,ht⟩:=h.cells
 have hh:Holds W g 3 cur.toList:=by
  unfold Holds
  simpa using hg
 have hle:=h.le
 refine arr_set (w:=W) (T:=3) sz_int1 rfl rfl hh (by simpa [hs] using Nat.lt_of_lt_of_le hi hle) (fun W2 h2 h3=>k W2 h2 ⟨⟨(cur.toList.set i (.int .i64 x)).toArray,h3,by simpa using hs,?_⟩,by simpa using hle,h.base,h.max⟩)
 simp only [List.length_set]
 show (cur.toList.set i (.int .i64 x)).take l.length = _
 rw [List.take_set,ht,List.map_set]
theorem RowP.other {b:Option Nat} {c:Nat} {l:List Int} (h:RowP W B g c l) (hg:W.grownBy W' b) (hb:b ≠ some g):RowP W' B g c l:=by
 obtain ⟨cur,h1,hr⟩:=h.cells
 exact ⟨⟨cur,by rw [hg.block g h.lt (fun e=>hb (by first | exact e | exact e.symm))]; exact h1,hr⟩,h.le,h.base,h.max⟩
end
end Go.Proofs
namespace LinLaw
open FdSpec FdPoly
def dot:List Int → List Int → Int
 | a :: r,x :: w=>a * x + dot r w
 | _,_=>0
def rowSub (q:Int) (r:List Int) (by_:Int) (t:List Int):List Int:=(r.zip t).map fun p=>subM q p.1 (mulM q by_ p.2)
def rowMul (q:Int) (r:List Int) (v:Int):List Int:=r.map fun x=>mulM q x v
abbrev Mat:=List (List Int)
def clearM (q:Int) (m:Mat) (k col:Nat):Mat:=m.mapIdx fun i r=>if i = k ∨ r.getD col 0 = 0 then r else rowSub q r (r.getD col 0) (m.getD k [])
def swapM (m:Mat) (k j:Nat):Mat:=(m.set k (m.getD j [])).set j (m.getD k [])
def colM (inv:Int → Int) (q:Int) (m:Mat) (pv:List Nat) (col:Nat):Mat × List Nat:=
 match (m.drop pv.length).findIdx? fun r=>decide (r.getD col 0 ≠ 0) with
 | none=>(m,pv)
 | some d=>
  let k:=pv.length
  let m1:=swapM m k (k + d)
  let m2:=m1.set k (rowMul q (m1.getD k []) (inv ((m1.getD k []).getD col 0)))
  (clearM q m2 k col,pv ++ [col])
def reduceM (inv:Int → Int) (q:Int):List Nat → Mat → List Nat → Mat × List Nat
 | [],m,pv=>(m,pv)
 | c :: cs,m,pv=>reduceM inv q cs (colM inv q m pv c).1 (colM inv q m pv c).2
def Sr (q:Int) (w r:List Int):Prop:=q ∣ dot r w
def Sat (q:Int) (m:Mat) (w:List Int):Prop:=∀ r ∈ m,Sr q w r
theorem dot_sub {q:Int} (hq:okN q) (b:Int):∀ (r t w:List Int),r.length = t.length → q ∣ dot (rowSub q r b t) w - (dot r w - b * dot t w)
 | [],[],w,_=>by simp [rowSub,dot]
 | [],_ :: _,w,h=>by simp at h
 | _ :: _,[],w,h=>by simp at h
 | a :: r,x :: t,[],_=>by simp [rowSub,dot]
 | a :: r,x :: t,y :: w,h=>by
  have ih:=dot_sub hq b r t w (by simpa using h)
  have h1:=subM_dvd (n:=q) (a:=a) (b:=mulM q b x) hq
  have h2:=mulM_dvd (n:=q) (a:=b) (b:=x) hq
  simp only [rowSub,List.zip_cons_cons,List.map_cons,dot]
  obtain ⟨u,hu⟩:=ih
  obtain ⟨v,hv⟩:=h1
  obtain ⟨z,hz⟩:=h2
  simp only [rowSub] at hu
  refine ⟨u + v * y - z * y,?_⟩
  grind
theorem dot_mul {q:Int} (hq:okN q) (b:Int):∀ (r w:List Int),q ∣ dot (rowMul q r b) w - b * dot r w
 | [],w=>by simp [rowMul,dot]
 | a :: r,[]=>by simp [rowMul,dot]
 | a :: r,y :: w=>by
  have ih:=dot_mul hq b r w
  have h2:=mulM_dvd (n:=q) (a:=a) (b:=b) hq
  simp only [rowMul,List.map_cons,dot]
  obtain ⟨u,hu⟩:=ih
  obtain ⟨z,hz⟩:=h2
  simp only [rowMul] at hu
  refine ⟨u + z * y,?_⟩
  grind
theorem sr_sub {q:Int} (hq:okN q) {b:Int} {r t w:List Int} (hl:r.length = t.length) (ht:Sr q w t):Sr q w (rowSub q r b t) ↔ Sr q w r:=by
 obtain ⟨u,hu⟩:=dot_sub hq b r t w hl
 obtain ⟨v,hv⟩:=ht
 unfold Sr
 constructor
 ·rintro ⟨z,hz⟩
  exact ⟨z - u + b * v,by grind⟩
 ·rintro ⟨z,hz⟩
  exact ⟨u + z - b * v,by grind⟩
theorem sr_mul {q:Int} (hq:okN q) {b c:Int} (hb:q ∣ b * c - 1) {r w:List Int}:Sr q w (rowMul q r b) ↔ Sr q w r:=by
 obtain ⟨u,hu⟩:=dot_mul hq b r w
 obtain ⟨e,he⟩:=hb
 unfold Sr
 constructor
 ·rintro ⟨z,hz⟩
  refine ⟨c * (z - u) - e * dot r w,?_⟩
  grind
 ·rintro ⟨z,hz⟩
  exact ⟨u + b * z,by grind⟩
structure Ok (q:Int) (n:Nat) (m:Mat):Prop where
 len:∀ r ∈ m,r.length = n
 rng:∀ r ∈ m,∀ x ∈ r,0 ≤ x ∧ x < q
theorem ok_set {q:Int} {n:Nat} {m:Mat} (h:Ok q n m) (k:Nat) {r:List Int} (hl:r.length = n) (hr:∀ x ∈ r,0 ≤ x ∧ x < q):Ok q n (m.set k r):=by
 constructor
 ·intro t ht
  rcases List.mem_or_eq_of_mem_set ht with ht | rfl
  ·exact h.len t ht
  ·exact hl
 ·intro t ht
  rcases List.mem_or_eq_of_mem_set ht with ht | rfl
  ·exact h.rng t ht
  ·exact hr
theorem getD_mem {m:Mat} {k:Nat} (hk:k < m.length):m.getD k [] ∈ m:=by
 rw [List.getD_eq_getElem?_getD,List.getElem?_eq_getElem hk]
 exact List.getElem_mem hk
theorem swap_ok {q:Int} {n:Nat} {m:Mat} (h:Ok q n m) {k j:Nat} (hk:k < m.length) (hj:j < m.length):Ok q n (swapM m k j):=
 ok_set (ok_set h k (h.len _ (getD_mem hj)) (h.rng _ (getD_mem hj))) j (h.len _ (getD_mem hk)) (h.rng _ (getD_mem hk))
theorem swap_len (m:Mat) (k j:Nat):(swapM m k j).length = m.length:=by simp [swapM]
theorem swap_get {m:Mat} {k j:Nat} (hk:k < m.length) (hj:j < m.length) (i:Nat):(swapM m k j).getD i [] = if i = j then m.getD k [] else if i = k then m.getD j [] else m.getD i []:=by
 simp only [swapM,List.getD_eq_getElem?_getD,List.getElem?_set,List.length_set]
 by_cases h1:i = j
 ·rw [if_pos h1,if_pos h1.symm,if_pos (by omega)]
  rfl
 ·rw [if_neg h1,if_neg (show ¬ j = i by omega)]
  by_cases h2:i = k
  ·rw [if_pos h2,if_pos h2.symm,if_pos (by omega)]
   rfl
  ·rw [if_neg h2,if_neg (show ¬ k = i by omega)]
theorem sat_iff {q:Int} {m:Mat} {w:List Int}:Sat q m w ↔ ∀ i,i < m.length → Sr q w (m.getD i []):=by
 constructor
 ·intro h i hi
  exact h _ (getD_mem hi)
 ·intro h r hr
  obtain ⟨i,hi,rfl⟩:=List.mem_iff_getElem.1 hr
  have:=h i hi
  rw [List.getD_eq_getElem?_getD,List.getElem?_eq_getElem hi] at this
  exact this
theorem swap_sat {q:Int} {m:Mat} {w:List Int} {k j:Nat} (hk:k < m.length) (hj:j < m.length):Sat q (swapM m k j) w ↔ Sat q m w:=by
 rw [sat_iff,sat_iff,swap_len]
 constructor
 ·intro h i hi
  by_cases h1:i = j
  ·have:=h k hk
   rw [swap_get hk hj] at this
   subst h1
   by_cases h2:k = i
   ·subst h2; rw [if_pos rfl] at this; exact this
   ·rw [if_neg h2,if_pos rfl] at this; exact this
  ·by_cases h2:i = k
   ·have:=h j hj
    rw [swap_get hk hj,if_pos rfl] at this
    rw [h2]; exact this
   ·have:=h i hi
    rw [swap_get hk hj,if_neg h1,if_neg h2] at this
    exact this
 ·intro h i hi
  rw [swap_get hk hj]
  split
  ·exact h k hk
  ·split
   ·exact h j hj
   ·exact h i hi
theorem set_sat {q:Int} {m:Mat} {w:List Int} {k:Nat} (hk:k < m.length) {r:List Int} (h:Sr q w r ↔ Sr q w (m.getD k [])):Sat q (m.set k r) w ↔ Sat q m w:=by
 rw [sat_iff,sat_iff,List.length_set]
 have key:∀ i,(m.set k r).getD i [] = if i = k then r else m.getD i []:=by
  intro i
  simp only [List.getD_eq_getElem?_getD,List.getElem?_set]
  by_cases h1:i = k
  ·rw [if_pos h1,if_pos h1.symm,if_pos (by omega)]; rfl
  ·rw [if_neg h1,if_neg (show ¬ k = i by omega)]
 constructor
 ·intro g i hi
  have:=g i hi
  rw [key] at this
  split at this
  ·rename_i e; rw [e]; exact h.1 this
  ·exact this
 ·intro g i hi
  rw [key]
  split
  ·exact h.2 (g k hk)
  ·exact g i hi
theorem clear_len (q:Int) (m:Mat) (k col:Nat):(clearM q m k col).length = m.length:=by simp [clearM]
theorem clear_get (q:Int) {m:Mat} (k col:Nat) {i:Nat} (hi:i < m.length):(clearM q m k col).getD i [] = if i = k ∨ (m.getD i []).getD col 0 = 0 then m.getD i [] else rowSub q (m.getD i []) ((m.getD i []).getD col 0) (m.getD k []):=by
 simp only [clearM,List.getD_eq_getElem?_getD,List.getElem?_mapIdx,List.getElem?_eq_getElem hi,Option.map_some,Option.getD_some]
theorem clear_sat {q:Int} (hq:okN q) {n:Nat} {m:Mat} (h:Ok q n m) {w:List Int} {k col:Nat} (hk:k < m.length):Sat q (clearM q m k col) w ↔ Sat q m w:=by
 rw [sat_iff,sat_iff,clear_len]
 have hkk:(clearM q m k col).getD k [] = m.getD k []:=by rw [clear_get q k col hk,if_pos (.inl rfl)]
 have len:∀ i,i < m.length → (m.getD i []).length = (m.getD k []).length:=fun i hi=>by rw [h.len _ (getD_mem hi),h.len _ (getD_mem hk)]
 constructor
 ·intro g i hi
  have hs:=g k hk
  rw [hkk] at hs
  have:=g i hi
  rw [clear_get q k col hi] at this
  split at this
  ·exact this
  ·exact (sr_sub hq (len i hi) hs).1 this
 ·intro g i hi
  rw [clear_get q k col hi]
  split
  ·exact g i hi
  ·exact (sr_sub hq (len i hi) (g k hk)).2 (g i hi)
theorem clear_ok {q:Int} (hq:okN q) {n:Nat} {m:Mat} (h:Ok q n m) {k col:Nat} (hk:k < m.length):Ok q n (clearM q m k col):=by
 have key:∀ r ∈ clearM q m k col,r ∈ m ∨ ∃ i,i < m.length ∧ r = rowSub q (m.getD i []) ((m.getD i []).getD col 0) (m.getD k []):=by
  intro r hr
  obtain ⟨i,hi,rfl⟩:=List.mem_iff_getElem.1 hr
  rw [clear_len] at hi
  have:=clear_get q k col hi
  rw [List.getD_eq_getElem?_getD,List.getElem?_eq_getElem (by rw [clear_len]; exact hi),Option.getD_some] at this
  rw [this]
  split
  ·exact .inl (getD_mem hi)
  ·exact .inr ⟨i,hi,rfl⟩
 constructor
 ·intro r hr
  rcases key r hr with h1 | ⟨i,hi,rfl⟩
  ·exact h.len r h1
  ·rw [rowSub,List.length_map,List.length_zip,h.len _ (getD_mem hi),h.len _ (getD_mem hk)]; omega
 ·intro r hr x hx
  rcases key r hr with h1 | ⟨i,hi,rfl⟩
  ·exact h.rng r h1 x hx
  ·rw [rowSub] at hx
   obtain ⟨p,_,rfl⟩:=List.mem_map.1 hx
   exact subM_range _ _ _ hq
end LinLaw
namespace LinLaw
open FdSpec FdPoly
theorem sub_get {q:Int} {r t:List Int} (b:Int) {c:Nat} (h1:c < r.length) (h2:c < t.length):(rowSub q r b t).getD c 0 = subM q (r.getD c 0) (mulM q b (t.getD c 0)):=by
 simp only [rowSub,List.getD_eq_getElem?_getD,List.getElem?_map,List.getElem?_eq_getElem h1,List.getElem?_eq_getElem h2,Option.getD_some]
 rw [List.getElem?_eq_getElem (by rw [List.length_zip]; omega)]
 simp
theorem mul_get {q:Int} {r:List Int} (b:Int) {c:Nat} (h1:c < r.length):(rowMul q r b).getD c 0 = mulM q (r.getD c 0) b:=by
 simp only [rowMul,List.getD_eq_getElem?_getD,List.getElem?_map,List.getElem?_eq_getElem h1,Option.map_some,Option.getD_some]
theorem getD_rng {q:Int} {r:List Int} (hq:0 < q) (h:∀ x ∈ r,0 ≤ x ∧ x < q) (c:Nat):0 ≤ r.getD c 0 ∧ r.getD c 0 < q:=by
 rw [List.getD_eq_getElem?_getD]
 rcases e:r[c]? with _ | x
 ·exact ⟨Int.le_refl _,hq⟩
 ·exact h x (List.mem_of_getElem? e)
theorem mulM_zero {q:Int} (hq:okN q) (a:Int):mulM q a 0 = 0 ∧ mulM q 0 a = 0:=by simp [mulM,hq]
theorem subM_self {q:Int} (hq:okN q) {a:Int} (h:0 ≤ a ∧ a < q):subM q a 0 = a:=by
 simp only [subM,if_pos hq,Int.sub_zero]
 exact Int.emod_eq_of_lt h.1 h.2
theorem subM_one {q:Int} (hq:okN q) {a:Int} (h:0 ≤ a ∧ a < q):subM q a (mulM q a 1) = 0:=by
 simp only [subM,mulM,if_pos hq,Int.mul_one]
 rw [Int.emod_eq_of_lt h.1 h.2,Int.sub_self,Int.zero_emod]
structure Red (q:Int) (m:Mat) (pv:List Nat) (col:Nat):Prop where
 one:∀ t,t < pv.length → (m.getD t []).getD (pv.getD t 0) 0 = 1
 zero:∀ t,t < pv.length → ∀ i,i < m.length → i ≠ t → (m.getD i []).getD (pv.getD t 0) 0 = 0
 low:∀ c,c < col → ∀ i,pv.length ≤ i → i < m.length → (m.getD i []).getD c 0 = 0
 lt:∀ t,t < pv.length → pv.getD t 0 < col
 kle:pv.length ≤ m.length
theorem red_start (q:Int) (m:Mat):Red q m [] 0:=⟨fun t h=>by simp at h,fun t h=>by simp at h,fun c h=>by omega,fun t h=>by simp at h,Nat.zero_le _⟩
theorem getD_set {m:Mat} {k:Nat} (hk:k < m.length) (r:List Int) (i:Nat):(m.set k r).getD i [] = if i = k then r else m.getD i []:=by
 simp only [List.getD_eq_getElem?_getD,List.getElem?_set]
 by_cases h1:i = k
 ·rw [if_pos h1,if_pos h1.symm,if_pos (by omega)]; rfl
 ·rw [if_neg h1,if_neg (show ¬ k = i by omega)]
theorem pvA {pv:List Nat} (col:Nat) {t:Nat} (h:t < pv.length):(pv ++ [col]).getD t 0 = pv.getD t 0:=by
 simp only [List.getD_eq_getElem?_getD,List.getElem?_append_left h]
theorem pvB {pv:List Nat} (col:Nat) {t:Nat} (h:t = pv.length):(pv ++ [col]).getD t 0 = col:=by
 subst h; simp [List.getD_eq_getElem?_getD]
theorem col_step {inv:Int → Int} {q:Int} (hq:okN q) (h1q:1 < q) (hinv:∀ a,0 < a → a < q → mulM q a (inv a) = 1) {n:Nat} {m:Mat} {pv:List Nat} {col:Nat} (h:Ok q n m) (hc:col < n) (g:Red q m pv col) :
  Ok q n (colM inv q m pv col).1 ∧ (colM inv q m pv col).1.length = m.length ∧ Red q (colM inv q m pv col).1 (colM inv q m pv col).2 (col + 1) ∧ ∀ w,Sat q (colM inv q m pv col).1 w ↔ Sat q m w:=by
 have q0:0 < q:=by omega
 have gk:=g.kle
 unfold colM
 split
 ·rename_i hf
  dsimp only
  refine ⟨h,rfl,⟨g.one,g.zero,fun c hcc i hi1 hi2=>?_,fun t ht=>by have:=g.lt t ht; omega,gk⟩,fun w=>Iff.rfl⟩
  by_cases e:c = col
  ·subst e
   have hm:m.getD i [] ∈ m.drop pv.length:=by
    rw [List.getD_eq_getElem?_getD,List.getElem?_eq_getElem hi2,Option.getD_some]
    rw [List.mem_iff_getElem]
    refine ⟨i - pv.length,by rw [List.length_drop]; omega,?_⟩
    rw [List.getElem_drop]
    congr 1
    omega
   have:=List.findIdx?_eq_none_iff.1 hf _ hm
   simpa using this
  ·exact g.low c (by omega) i hi1 hi2
 ·rename_i d hf
  dsimp only
  obtain ⟨hd,hd1,_⟩:=List.findIdx?_eq_some_iff_getElem.1 hf
  rw [List.length_drop] at hd
  generalize hk:pv.length = k at *
  have kl:k < m.length:=by omega
  have jl:k + d < m.length:=by omega
  have hne:(m.getD (k + d) []).getD col 0 ≠ 0:=by
   rw [List.getElem_drop] at hd1
   rw [List.getD_eq_getElem?_getD (l:=m),List.getElem?_eq_getElem jl,Option.getD_some]
   simpa using hd1
  have o1:=swap_ok h kl jl
  have s1:=swap_len m k (k + d)
  have g1:=fun i=>swap_get kl jl i
  have ss:=fun w=>swap_sat (q:=q) (w:=w) kl jl
  generalize swapM m k (k + d) = m1 at *
  have e1k:m1.getD k [] = m.getD (k + d) []:=by
   rw [g1]
   split
   ·rename_i e; rw [← e]
   ·rw [if_pos rfl]
  have k1:k < m1.length:=by omega
  have hp:=getD_rng q0 (o1.rng _ (getD_mem k1)) col
  rw [e1k] at hp
  have hpos:0 < (m.getD (k + d) []).getD col 0:=by omega
  rw [e1k]
  generalize hv:inv ((m.getD (k + d) []).getD col 0) = v at *
  have hmul:mulM q ((m.getD (k + d) []).getD col 0) v = 1:=by rw [← hv]; exact hinv _ hpos hp.2
  have lk:(m.getD (k + d) []).length = n:=h.len _ (getD_mem jl)
  have o2:Ok q n (m1.set k (rowMul q (m.getD (k + d) []) v)):=ok_set o1 k (by rw [rowMul,List.length_map,lk]) (fun x hx=>by
   obtain ⟨y,_,rfl⟩:=List.mem_map.1 hx
   exact mulM_range _ _ _ hq)
  have g2:=fun i=>getD_set k1 (rowMul q (m.getD (k + d) []) v) i
  have s2:(m1.set k (rowMul q (m.getD (k + d) []) v)).length = m.length:=by rw [List.length_set,s1]
  have sat2:∀ w,Sat q (m1.set k (rowMul q (m.getD (k + d) []) v)) w ↔ Sat q m w:=fun w=>by
   have hdv:q ∣ v * (m.getD (k + d) []).getD col 0 - 1:=by
    have:=mulM_dvd (n:=q) (a:=(m.getD (k + d) []).getD col 0) (b:=v) hq
    rw [hmul] at this
    obtain ⟨z,hz⟩:=this
    exact ⟨-z,by grind⟩
   rw [set_sat k1 (by rw [e1k]; exact sr_mul hq hdv)]
   exact ss w
  have s2k:k < (m1.set k (rowMul q (m.getD (k + d) []) v)).length:=by omega
  have o3:=clear_ok hq o2 (col:=col) s2k
  have s3:=clear_len q (m1.set k (rowMul q (m.getD (k + d) []) v)) k col
  have sat3:=fun w=>clear_sat hq o2 (w:=w) (col:=col) s2k
  have g3:=fun i hi=>clear_get q (m:=m1.set k (rowMul q (m.getD (k + d) []) v)) k col (i:=i) hi
  have row2:=fun i (hi:i < (m1.set k (rowMul q (m.getD (k + d) []) v)).length)=>(⟨o2.len _ (getD_mem hi),o2.rng _ (getD_mem hi)⟩:_ ∧ _)
  generalize hm2:m1.set k (rowMul q (m.getD (k + d) []) v) = m2 at *
  have e2k:m2.getD k [] = rowMul q (m.getD (k + d) []) v:=by rw [g2,if_pos rfl]
  have pk:(m2.getD k []).getD col 0 = 1:=by rw [e2k,mul_get v (by omega),hmul]
  have zk:∀ c,c < n → (m.getD (k + d) []).getD c 0 = 0 → (m2.getD k []).getD c 0 = 0:=fun c hc hz=>by rw [e2k,mul_get v (by omega),hz]; exact (mulM_zero hq v).2
  have e3k:(clearM q m2 k col).getD k [] = m2.getD k []:=by rw [g3 k s2k,if_pos (.inl rfl)]
  have keep:∀ i,i < m2.length → ∀ c,c < n → (m2.getD k []).getD c 0 = 0 → ((clearM q m2 k col).getD i []).getD c 0 = (m2.getD i []).getD c 0:=by
   intro i hi c hc hz
   rw [g3 i hi]
   split
   ·rfl
   ·have r1:=row2 i hi
    have r2:=row2 k s2k
    rw [sub_get _ (by omega) (by omega),hz,(mulM_zero hq _).1]
    exact subM_self hq (getD_rng q0 r1.2 c)
  have gone:∀ i,i < m2.length → i ≠ k → ((clearM q m2 k col).getD i []).getD col 0 = 0:=by
   intro i hi hik
   rw [g3 i hi]
   split
   ·rename_i hz
    rcases hz with hz | hz
    ·exact absurd hz hik
    ·exact hz
   ·have r1:=row2 i hi
    have r2:=row2 k s2k
    rw [sub_get _ (by omega) (by omega),pk]
    exact subM_one hq (getD_rng q0 r1.2 col)
  have old:∀ i,i ≠ k → m2.getD i [] = if i = k + d then m.getD k [] else m.getD i []:=by
   intro i hik
   rw [g2,if_neg hik,g1]
   split
   ·rfl
   ·rfl
  have pvn:∀ t,t < k → pv.getD t 0 < n:=fun t ht=>by have:=g.lt t (by omega); omega
  have zp:∀ t,t < k → (m2.getD k []).getD (pv.getD t 0) 0 = 0:=fun t ht=>zk _ (pvn t ht) (g.zero t (by omega) (k + d) jl (by omega))
  refine ⟨o3,by omega,⟨?_,?_,?_,?_,?_⟩,fun w=>(sat3 w).trans (sat2 w)⟩
  ·intro t ht
   simp only [List.length_append,List.length_cons,List.length_nil,hk] at ht
   by_cases e:t < k
   ·rw [pvA col (show t < pv.length by omega),keep t (by omega) _ (pvn t e) (zp t e),old t (by omega),if_neg (by omega)]
    exact g.one t (by omega)
   ·have et:t = k:=by omega
    subst et
    rw [pvB col hk.symm,e3k,pk]
  ·intro t ht i hi hit
   simp only [List.length_append,List.length_cons,List.length_nil,hk] at ht
   rw [s3] at hi
   by_cases e:t < k
   ·rw [pvA col (show t < pv.length by omega),keep i hi _ (pvn t e) (zp t e)]
    by_cases hik:i = k
    ·rw [hik]; exact zp t e
    ·rw [old i hik]
     split
     ·exact g.zero t (by omega) k kl (by omega)
     ·exact g.zero t (by omega) i (by omega) hit
   ·have et:t = k:=by omega
    subst et
    rw [pvB col hk.symm]
    exact gone i hi hit
  ·intro c hcc i hi1 hi2
   simp only [List.length_append,List.length_cons,List.length_nil,hk] at hi1
   rw [s3] at hi2
   by_cases e:c = col
   ·rw [e]; exact gone i hi2 (by omega)
   ·rw [keep i hi2 c (by omega) (zk c (by omega) (g.low c (by omega) (k + d) (by omega) jl)),old i (by omega)]
    split
    ·exact g.low c (by omega) k (by omega) kl
    ·exact g.low c (by omega) i (by omega) (by omega)
  ·intro t ht
   simp only [List.length_append,List.length_cons,List.length_nil,hk] at ht
   by_cases e:t < k
   ·rw [pvA col (show t < pv.length by omega)]
    have:=g.lt t (by omega)
    omega
   ·have et:t = k:=by omega
    subst et
    rw [pvB col hk.symm]
    omega
  ·simp only [List.length_append,List.length_cons,List.length_nil,hk]
   omega
theorem reduce_all {inv:Int → Int} {q:Int} (hq:okN q) (h1q:1 < q) (hinv:∀ a,0 < a → a < q → mulM q a (inv a) = 1) {n:Nat}:∀ (k c:Nat) {m:Mat} {pv:List Nat},Ok q n m → c + k ≤ n → Red q m pv c →
  Ok q n (reduceM inv q (List.range' c k) m pv).1 ∧ (reduceM inv q (List.range' c k) m pv).1.length = m.length ∧ Red q (reduceM inv q (List.range' c k) m pv).1 (reduceM inv q (List.range' c k) m pv).2 (c + k) ∧ ∀ w,Sat q (reduceM inv q (List.range' c k) m pv).1 w ↔ Sat q m w
 | 0,c,m,pv,h,_,g=>⟨h,rfl,g,fun w=>Iff.rfl⟩
 | k + 1,c,m,pv,h,hc,g=>by
  obtain ⟨a1,a2,a3,a4⟩:=col_step hq h1q hinv h (show c < n by omega) g
  obtain ⟨b1,b2,b3,b4⟩:=reduce_all hq h1q hinv k (c + 1) a1 (by omega) a3
  rw [List.range'_succ,reduceM]
  exact ⟨b1,b2.trans a2,by rw [show c + (k + 1) = c + 1 + k by omega]; exact b3,fun w=>(b4 w).trans (a4 w)⟩
end LinLaw
namespace LinLaw
open FdSpec FdPoly
def S (n:Nat) (f:Nat → Nat):Nat:=((List.range n).map f).sum
theorem S_succ (n:Nat) (f:Nat → Nat):S (n + 1) f = S n f + f n:=by
 simp [S,List.range_succ]
theorem S_zero (f:Nat → Nat):S 0 f = 0:=rfl
theorem S_add (f g:Nat → Nat):∀ n,S n (fun x=>f x + g x) = S n f + S n g
 | 0=>rfl
 | n + 1=>by rw [S_succ,S_succ,S_succ,S_add f g n]; omega
theorem S_const (c:Nat):∀ n,S n (fun _=>c) = n * c
 | 0=>by simp [S_zero]
 | n + 1=>by rw [S_succ,S_const c n,Nat.succ_mul]
theorem S_congr {f g:Nat → Nat}:∀ n,(∀ x,x < n → f x = g x) → S n f = S n g
 | 0,_=>rfl
 | n + 1,h=>by rw [S_succ,S_succ,S_congr n (fun x hx=>h x (by omega)),h n (by omega)]
theorem S_swap (f:Nat → Nat → Nat) (m:Nat):∀ n,S n (fun x=>S m (f x)) = S m (fun y=>S n (fun x=>f x y))
 | 0=>by
  have:S m (fun y=>S 0 fun x=>f x y) = S m (fun _=>0):=rfl
  rw [this,S_const]; simp [S_zero]
 | n + 1=>by
  rw [S_succ,S_swap f m n]
  have:(fun y=>S (n + 1) fun x=>f x y) = fun y=>(S n fun x=>f x y) + f n y:=by
   funext y; rw [S_succ]
  rw [this,S_add]
def I (p:Prop) [Decidable p]:Nat:=if p then 1 else 0
theorem S_point {c:Nat}:∀ n,S n (fun x=>I (x = c)) = if c < n then 1 else 0
 | 0=>by simp [S_zero]
 | n + 1=>by
  rw [S_succ,S_point n]
  unfold I
  by_cases h:n = c
  ·subst h; simp
  ·rw [if_neg h]
   by_cases h2:c < n
   ·rw [if_pos h2,if_pos (by omega)]
   ·rw [if_neg h2,if_neg (by omega)]
theorem S_one {q:Nat} (hq:0 < q) (c:Int):S q (fun x=>I ((q:Int) ∣ (x:Int) - c)) = 1:=by
 have h0:=Int.emod_nonneg c (show (q:Int) ≠ 0 by omega)
 have h1:=Int.emod_lt_of_pos c (show (0:Int) < q by omega)
 have key:∀ x,x < q → I ((q:Int) ∣ (x:Int) - c) = I (x = (c % q).toNat):=by
  intro x hx
  have hiff:(q:Int) ∣ (x:Int) - c ↔ x = (c % q).toNat:=by
   constructor
   ·intro h
    have e:=Int.emod_emod_of_dvd c (Int.dvd_refl (q:Int))
    have h2:((x:Int) - c) % q = 0:=Int.emod_eq_zero_of_dvd h
    have h3:(x:Int) % q = c % q:=Int.emod_eq_emod_iff_emod_sub_eq_zero.2 h2
    rw [Int.emod_eq_of_lt (by omega) (by omega)] at h3
    omega
   ·intro h
    have h3:(x:Int) = c % q:=by omega
    rw [h3]
    exact mod_dvd (q:Int) c
  unfold I
  by_cases h:x = (c % q).toNat
  ·rw [if_pos h,if_pos (hiff.2 h)]
  ·rw [if_neg h,if_neg (fun k=>h (hiff.1 k))]
 rw [S_congr q key,S_point,if_pos (by omega)]
theorem I_congr {p r:Prop} [Decidable p] [Decidable r] (h:p ↔ r):I p = I r:=by
 unfold I
 by_cases hp:p
 ·rw [if_pos hp,if_pos (h.1 hp)]
 ·rw [if_neg hp,if_neg (fun k=>hp (h.2 k))]
theorem I_zero {p:Prop} [Decidable p] (h:¬ p):I p = 0:=by unfold I; rw [if_neg h]
theorem I_one {p:Prop} [Decidable p] (h:p):I p = 1:=by unfold I; rw [if_pos h]
instance (q:Int) (w r:List Int):Decidable (Sr q w r):=inferInstanceAs (Decidable (q ∣ dot r w))
instance (q:Int) (m:Mat) (w:List Int):Decidable (Sat q m w):=inferInstanceAs (Decidable (∀ r ∈ m,Sr q w r))
def Cons (m:Mat) (k n:Nat):Prop:=∀ i,k ≤ i → i < m.length → (m.getD i []).getD n 0 = 0
theorem row1 {r:List Int} (h:r.length = 2):r = [r.getD 0 0,r.getD 1 0]:=by
 match r,h with
 | [a,b],_=>rfl
theorem row2' {r:List Int} (h:r.length = 3):r = [r.getD 0 0,r.getD 1 0,r.getD 2 0]:=by
 match r,h with
 | [a,b,c],_=>rfl
theorem dvd_rng {q a:Int} (h:0 ≤ a ∧ a < q):q ∣ a ↔ a = 0:=by
 constructor
 ·intro hd
  have:=Int.emod_eq_zero_of_dvd hd
  rw [Int.emod_eq_of_lt h.1 h.2] at this
  exact this
 ·rintro rfl; exact ⟨0,by omega⟩
theorem Red.diff {q:Int} {m:Mat} {pv:List Nat} {col:Nat} (g:Red q m pv col) {t u:Nat} (ht:t < pv.length) (hu:u < pv.length) (htu:t ≠ u):pv.getD t 0 ≠ pv.getD u 0:=by
 intro e
 have h1:=g.one t ht
 have h2:=g.zero u hu t (by have:=g.kle; omega) htu
 rw [← e,h1] at h2
 cases h2
theorem count1 {q:Nat} (h1q:1 < q) {m:Mat} {pv:List Nat} (h:Ok q 2 m) (g:Red q m pv 1) :
  pv.length ≤ 1 ∧ (Cons m pv.length 1 → S q (fun x=>I (Sat q m [(x:Int),-1])) = q ^ (1 - pv.length)) ∧ (¬ Cons m pv.length 1 → ∀ x,¬ Sat q m [x,-1]):=by
 have k1:pv.length ≤ 1:=by
  apply Classical.byContradiction
  intro hn
  have a:=g.lt 0 (by omega)
  have b:=g.lt 1 (by omega)
  exact g.diff (t:=0) (u:=1) (by omega) (by omega) (by omega) (by omega)
 have sr:∀ i,i < m.length → ∀ x,Sr q [x,-1] (m.getD i []) ↔ (q:Int) ∣ (m.getD i []).getD 0 0 * x - (m.getD i []).getD 1 0:=by
  intro i hi x
  have e:=row1 (h.len _ (getD_mem hi))
  unfold Sr
  rw [e]
  simp only [dot,List.getD_cons_zero,List.getD_cons_succ]
  rw [show (m.getD i []).getD 0 0 * x + ((m.getD i []).getD 1 0 * -1 + 0) = (m.getD i []).getD 0 0 * x - (m.getD i []).getD 1 0 by omega]
 have low:∀ i,pv.length ≤ i → i < m.length → ∀ x,Sr q [x,-1] (m.getD i []) ↔ (m.getD i []).getD 1 0 = 0:=by
  intro i h1 h2 x
  rw [sr i h2,g.low 0 (by omega) i h1 h2,Int.zero_mul,Int.zero_sub,Int.dvd_neg]
  exact dvd_rng (getD_rng (by omega) (h.rng _ (getD_mem h2)) 1)
 refine ⟨k1,fun hc=>?_,fun hc x hs=>hc fun i h1 h2=>(low i h1 h2 x).1 ((sat_iff.1 hs) i h2)⟩
 rcases hk:pv.length with _ | k
 ·have:∀ x,x < q → I (Sat q m [(x:Int),-1]) = 1:=fun x _=>I_one (sat_iff.2 fun i hi=>(low i (by omega) hi x).2 (hc i (by omega) hi))
  rw [S_congr q this,S_const]
  simp
 ·have hk0:k = 0:=by omega
  subst hk0
  have m0:0 < m.length:=by have:=g.kle; omega
  have p0:pv.getD 0 0 = 0:=by have:=g.lt 0 (by omega); omega
  have e1:=g.one 0 (by omega)
  rw [p0] at e1
  have:∀ x,x < q → I (Sat q m [(x:Int),-1]) = I ((q:Int) ∣ (x:Int) - (m.getD 0 []).getD 1 0):=fun x _=>I_congr (by
   have e:=sr 0 m0 x
   rw [e1,Int.one_mul] at e
   rw [← e,sat_iff]
   constructor
   ·intro hs; exact hs 0 m0
   ·intro hs i hi
    by_cases hi0:i = 0
    ·rw [hi0]; exact hs
    ·exact (low i (by omega) hi x).2 (hc i (by omega) hi))
  rw [S_congr q this,S_one (by omega)]
  simp
end LinLaw
namespace LinLaw
open FdSpec FdPoly
theorem count2 {q:Nat} (h1q:1 < q) {m:Mat} {pv:List Nat} (h:Ok q 3 m) (g:Red q m pv 2) :
  pv.length ≤ 2 ∧ (Cons m pv.length 2 → S q (fun x=>S q fun y=>I (Sat q m [(x:Int),(y:Int),-1])) = q ^ (2 - pv.length)) ∧ (¬ Cons m pv.length 2 → ∀ x y,¬ Sat q m [x,y,-1]):=by
 have k2:pv.length ≤ 2:=by
  apply Classical.byContradiction
  intro hn
  have a:=g.lt 0 (by omega)
  have b:=g.lt 1 (by omega)
  have c:=g.lt 2 (by omega)
  have d1:=g.diff (t:=0) (u:=1) (by omega) (by omega) (by omega)
  have d2:=g.diff (t:=0) (u:=2) (by omega) (by omega) (by omega)
  have d3:=g.diff (t:=1) (u:=2) (by omega) (by omega) (by omega)
  omega
 have sr:∀ i,i < m.length → ∀ x y,Sr q [x,y,-1] (m.getD i []) ↔ (q:Int) ∣ (m.getD i []).getD 0 0 * x + (m.getD i []).getD 1 0 * y - (m.getD i []).getD 2 0:=by
  intro i hi x y
  have e:=row2' (h.len _ (getD_mem hi))
  unfold Sr
  rw [e]
  simp only [dot,List.getD_cons_zero,List.getD_cons_succ]
  rw [show (m.getD i []).getD 0 0 * x + ((m.getD i []).getD 1 0 * y + ((m.getD i []).getD 2 0 * -1 + 0)) = (m.getD i []).getD 0 0 * x + (m.getD i []).getD 1 0 * y - (m.getD i []).getD 2 0 by omega]
 have low:∀ i,pv.length ≤ i → i < m.length → ∀ x y,Sr q [x,y,-1] (m.getD i []) ↔ (m.getD i []).getD 2 0 = 0:=by
  intro i h1 h2 x y
  rw [sr i h2,g.low 0 (by omega) i h1 h2,g.low 1 (by omega) i h1 h2,Int.zero_mul,Int.zero_mul,Int.add_zero,Int.zero_sub,Int.dvd_neg]
  exact dvd_rng (getD_rng (by omega) (h.rng _ (getD_mem h2)) 2)
 refine ⟨k2,fun hc=>?_,fun hc x y hs=>hc fun i h1 h2=>(low i h1 h2 x y).1 ((sat_iff.1 hs) i h2)⟩
 have kle:=g.kle
 have hk:pv.length = 0 ∨ pv.length = 1 ∨ pv.length = 2:=by omega
 rcases hk with hk | hk | hk
 ·have:∀ x,x < q → (S q fun y=>I (Sat q m [(x:Int),(y:Int),-1])) = q:=fun x _=>by
   have:∀ y,y < q → I (Sat q m [(x:Int),(y:Int),-1]) = 1:=fun y _=>I_one (sat_iff.2 fun i hi=>(low i (by omega) hi x y).2 (hc i (by omega) hi))
   rw [S_congr q this,S_const]; omega
  rw [S_congr q this,S_const,hk]
  rw [Nat.sub_zero,Nat.pow_two]
 ·have m0:0 < m.length:=by omega
  have only:∀ x y,Sat q m [x,y,-1] ↔ (q:Int) ∣ (m.getD 0 []).getD 0 0 * x + (m.getD 0 []).getD 1 0 * y - (m.getD 0 []).getD 2 0:=fun x y=>by
   rw [← sr 0 m0,sat_iff]
   constructor
   ·intro hs; exact hs 0 m0
   ·intro hs i hi
    by_cases hi0:i = 0
    ·rw [hi0]; exact hs
    ·exact (low i (by omega) hi x y).2 (hc i (by omega) hi)
  have e1:=g.one 0 (by omega)
  have lt:=g.lt 0 (by omega)
  rw [hk]
  have hp:pv.getD 0 0 = 0 ∨ pv.getD 0 0 = 1:=by omega
  rcases hp with hp | hp
  ·rw [hp] at e1
   rw [S_swap]
   have:∀ y,y < q → (S q fun x=>I (Sat q m [(x:Int),(y:Int),-1])) = 1:=fun y _=>by
    have:∀ x,x < q → I (Sat q m [(x:Int),(y:Int),-1]) = I ((q:Int) ∣ (x:Int) - ((m.getD 0 []).getD 2 0 - (m.getD 0 []).getD 1 0 * y)):=fun x _=>I_congr (by
     rw [only,e1,Int.one_mul]
     rw [show (x:Int) + (m.getD 0 []).getD 1 0 * y - (m.getD 0 []).getD 2 0 = (x:Int) - ((m.getD 0 []).getD 2 0 - (m.getD 0 []).getD 1 0 * y) by omega])
    rw [S_congr q this,S_one (by omega)]
   rw [S_congr q this,S_const]
   simp
  ·rw [hp] at e1
   have:∀ x,x < q → (S q fun y=>I (Sat q m [(x:Int),(y:Int),-1])) = 1:=fun x _=>by
    have:∀ y,y < q → I (Sat q m [(x:Int),(y:Int),-1]) = I ((q:Int) ∣ (y:Int) - ((m.getD 0 []).getD 2 0 - (m.getD 0 []).getD 0 0 * x)):=fun y _=>I_congr (by
     rw [only,e1,Int.one_mul]
     rw [show (m.getD 0 []).getD 0 0 * (x:Int) + y - (m.getD 0 []).getD 2 0 = (y:Int) - ((m.getD 0 []).getD 2 0 - (m.getD 0 []).getD 0 0 * x) by omega])
    rw [S_congr q this,S_one (by omega)]
   rw [S_congr q this,S_const]
   simp
 ·have m0:0 < m.length:=by omega
  have m1:1 < m.length:=by omega
  have only:∀ x y,Sat q m [x,y,-1] ↔ ((q:Int) ∣ (m.getD 0 []).getD 0 0 * x + (m.getD 0 []).getD 1 0 * y - (m.getD 0 []).getD 2 0) ∧ ((q:Int) ∣ (m.getD 1 []).getD 0 0 * x + (m.getD 1 []).getD 1 0 * y - (m.getD 1 []).getD 2 0):=fun x y=>by
   rw [← sr 0 m0,← sr 1 m1,sat_iff]
   constructor
   ·intro hs; exact ⟨hs 0 m0,hs 1 m1⟩
   ·intro hs i hi
    by_cases hi0:i = 0
    ·rw [hi0]; exact hs.1
    ·by_cases hi1:i = 1
     ·rw [hi1]; exact hs.2
     ·exact (low i (by omega) hi x y).2 (hc i (by omega) hi)
  have e1:=g.one 0 (by omega)
  have e2:=g.one 1 (by omega)
  have z1:=g.zero 0 (by omega) 1 m1 (by omega)
  have z2:=g.zero 1 (by omega) 0 m0 (by omega)
  have l0:=g.lt 0 (by omega)
  have l1:=g.lt 1 (by omega)
  have df:=g.diff (t:=0) (u:=1) (by omega) (by omega) (by omega)
  rw [hk]
  have two:∃ c d:Int,∀ x y,Sat q m [x,y,-1] ↔ ((q:Int) ∣ x - c) ∧ ((q:Int) ∣ y - d):=by
   have hp:pv.getD 0 0 = 0 ∨ pv.getD 0 0 = 1:=by omega
   rcases hp with hp | hp
   ·have hp1:pv.getD 1 0 = 1:=by omega
    rw [hp] at e1 z1
    rw [hp1] at e2 z2
    refine ⟨(m.getD 0 []).getD 2 0,(m.getD 1 []).getD 2 0,fun x y=>?_⟩
    rw [only,e1,z1,e2,z2,Int.zero_mul,Int.zero_mul,Int.one_mul,Int.one_mul,Int.add_zero,Int.zero_add]
   ·have hp1:pv.getD 1 0 = 0:=by omega
    rw [hp] at e1 z1
    rw [hp1] at e2 z2
    refine ⟨(m.getD 1 []).getD 2 0,(m.getD 0 []).getD 2 0,fun x y=>?_⟩
    rw [only,e1,z1,e2,z2,Int.zero_mul,Int.zero_mul,Int.one_mul,Int.one_mul,Int.add_zero,Int.zero_add]
    exact And.comm
  obtain ⟨c,d,hcd⟩:=two
  have:∀ x,x < q → (S q fun y=>I (Sat q m [(x:Int),(y:Int),-1])) = I ((q:Int) ∣ (x:Int) - c):=fun x _=>by
   by_cases hx:(q:Int) ∣ (x:Int) - c
   ·have:∀ y,y < q → I (Sat q m [(x:Int),(y:Int),-1]) = I ((q:Int) ∣ (y:Int) - d):=fun y _=>I_congr (by rw [hcd]; exact ⟨fun h=>h.2,fun h=>⟨hx,h⟩⟩)
    rw [S_congr q this,S_one (by omega),I_one hx]
   ·have:∀ y,y < q → I (Sat q m [(x:Int),(y:Int),-1]) = 0:=fun y _=>I_zero (by rw [hcd]; exact fun h=>hx h.1)
    rw [S_congr q this,S_const,I_zero hx]; simp
  rw [S_congr q this,S_one (by omega)]
  simp
end LinLaw
namespace LinLaw
open FdSpec FdPoly
def outM (m:Mat) (n:Nat):Nat → List Nat → List Int → List Int
 | _,[],o=>o
 | i,p :: pv,o=>outM m n (i + 1) pv (o.set p ((m.getD i []).getD n 0))
theorem sat_basic1 {q:Nat} (h1q:1 < q) {m:Mat} {pv:List Nat} (h:Ok q 2 m) (g:Red q m pv 1) (hc:Cons m pv.length 1):∃ x,outM m 1 0 pv [0] = [x] ∧ Sat q m [x,-1] ∧ 0 ≤ x ∧ x < q:=by
 have sr:∀ i,i < m.length → ∀ x,Sr q [x,-1] (m.getD i []) ↔ (q:Int) ∣ (m.getD i []).getD 0 0 * x - (m.getD i []).getD 1 0:=by
  intro i hi x
  have e:=row1 (h.len _ (getD_mem hi))
  unfold Sr
  rw [e]
  simp only [dot,List.getD_cons_zero,List.getD_cons_succ]
  rw [show (m.getD i []).getD 0 0 * x + ((m.getD i []).getD 1 0 * -1 + 0) = (m.getD i []).getD 0 0 * x - (m.getD i []).getD 1 0 by omega]
 have k1:=(count1 h1q h g).1
 have kle:=g.kle
 have low:∀ i,pv.length ≤ i → i < m.length → ∀ x,Sr q [x,-1] (m.getD i []):=by
  intro i h1 h2 x
  rw [sr i h2,g.low 0 (by omega) i h1 h2,hc i h1 h2]
  exact ⟨0,by omega⟩
 match pv,g,hc,k1,kle,low with
 | [],g,hc,_,_,low=>exact ⟨0,rfl,sat_iff.2 fun i hi=>low i (by simp) hi 0,by omega,by omega⟩
 | [p],g,hc,_,kle,low=>
  simp only [List.length_cons,List.length_nil] at kle
  have p0:p = 0:=by have:=g.lt 0 (by simp); simp only [List.getD_cons_zero] at this; omega
  subst p0
  have e1:=g.one 0 (by simp)
  simp only [List.getD_cons_zero] at e1
  have r:=getD_rng (q:=q) (by omega) (h.rng _ (getD_mem (show 0 < m.length by omega))) 1
  refine ⟨(m.getD 0 []).getD 1 0,rfl,sat_iff.2 fun i hi=>?_,r.1,r.2⟩
  by_cases hi0:i = 0
  ·subst hi0
   rw [sr 0 hi,e1]
   exact ⟨0,by omega⟩
  ·exact low i (by simp; omega) hi _
 | _ :: _ :: _,_,_,k1,_,_=>simp at k1
theorem sat_basic2 {q:Nat} (h1q:1 < q) {m:Mat} {pv:List Nat} (h:Ok q 3 m) (g:Red q m pv 2) (hc:Cons m pv.length 2):∃ x y,outM m 2 0 pv [0,0] = [x,y] ∧ Sat q m [x,y,-1] ∧ (0 ≤ x ∧ x < q) ∧ 0 ≤ y ∧ y < q:=by
 have sr:∀ i,i < m.length → ∀ x y,Sr q [x,y,-1] (m.getD i []) ↔ (q:Int) ∣ (m.getD i []).getD 0 0 * x + (m.getD i []).getD 1 0 * y - (m.getD i []).getD 2 0:=by
  intro i hi x y
  have e:=row2' (h.len _ (getD_mem hi))
  unfold Sr
  rw [e]
  simp only [dot,List.getD_cons_zero,List.getD_cons_succ]
  rw [show (m.getD i []).getD 0 0 * x + ((m.getD i []).getD 1 0 * y + ((m.getD i []).getD 2 0 * -1 + 0)) = (m.getD i []).getD 0 0 * x + (m.getD i []).getD 1 0 * y - (m.getD i []).getD 2 0 by omega]
 have k2:=(count2 h1q h g).1
 have kle:=g.kle
 have low:∀ i,pv.length ≤ i → i < m.length → ∀ x y,Sr q [x,y,-1] (m.getD i []):=by
  intro i h1 h2 x y
  rw [sr i h2,g.low 0 (by omega) i h1 h2,g.low 1 (by omega) i h1 h2,hc i h1 h2]
  exact ⟨0,by omega⟩
 have rg:∀ i,i < m.length → ∀ c,0 ≤ (m.getD i []).getD c 0 ∧ (m.getD i []).getD c 0 < q:=fun i hi c=>getD_rng (q:=q) (by omega) (h.rng _ (getD_mem hi)) c
 match pv,g,hc,k2,kle,low with
 | [],g,hc,_,_,low=>exact ⟨0,0,rfl,sat_iff.2 fun i hi=>low i (by simp) hi 0 0,⟨by omega,by omega⟩,by omega,by omega⟩
 | [p],g,hc,_,kle,low=>
  simp only [List.length_cons,List.length_nil] at kle
  have lt:=g.lt 0 (by simp)
  have e1:=g.one 0 (by simp)
  simp only [List.getD_cons_zero] at e1 lt
  have r:=rg 0 (by omega) 2
  have hp:p = 0 ∨ p = 1:=by omega
  rcases hp with rfl | rfl
  ·refine ⟨(m.getD 0 []).getD 2 0,0,rfl,sat_iff.2 fun i hi=>?_,r,by omega,by omega⟩
   by_cases hi0:i = 0
   ·subst hi0
    rw [sr 0 hi,e1]
    exact ⟨0,by omega⟩
   ·exact low i (by simp; omega) hi _ _
  ·refine ⟨0,(m.getD 0 []).getD 2 0,rfl,sat_iff.2 fun i hi=>?_,⟨by omega,by omega⟩,r.1,r.2⟩
   by_cases hi0:i = 0
   ·subst hi0
    rw [sr 0 hi,e1]
    exact ⟨0,by omega⟩
   ·exact low i (by simp; omega) hi _ _
 | [p,p'],g,hc,_,kle,low=>
  simp only [List.length_cons,List.length_nil] at kle
  have l0:=g.lt 0 (by simp)
  have l1:=g.lt 1 (by simp)
  have e1:=g.one 0 (by simp)
  have e2:=g.one 1 (by simp)
  have z1:=g.zero 0 (by simp) 1 (by omega) (by omega)
  have z2:=g.zero 1 (by simp) 0 (by omega) (by omega)
  have df:=g.diff (t:=0) (u:=1) (by simp) (by simp) (by omega)
  simp only [List.getD_cons_zero,List.getD_cons_succ] at e1 e2 z1 z2 l0 l1 df
  have r0:=rg 0 (by omega) 2
  have r1:=rg 1 (by omega) 2
  have hp:(p = 0 ∧ p' = 1) ∨ (p = 1 ∧ p' = 0):=by omega
  rcases hp with ⟨rfl,rfl⟩ | ⟨rfl,rfl⟩
  ·refine ⟨(m.getD 0 []).getD 2 0,(m.getD 1 []).getD 2 0,rfl,sat_iff.2 fun i hi=>?_,r0,r1⟩
   by_cases hi0:i = 0
   ·subst hi0
    rw [sr 0 hi,e1,z2]
    exact ⟨0,by omega⟩
   ·by_cases hi1:i = 1
    ·subst hi1
     rw [sr 1 hi,z1,e2]
     exact ⟨0,by omega⟩
    ·exact low i (by simp; omega) hi _ _
  ·refine ⟨(m.getD 1 []).getD 2 0,(m.getD 0 []).getD 2 0,rfl,sat_iff.2 fun i hi=>?_,r1,r0⟩
   by_cases hi0:i = 0
   ·subst hi0
    rw [sr 0 hi,e1,z2]
    exact ⟨0,by omega⟩
   ·by_cases hi1:i = 1
    ·subst hi1
     rw [sr 1 hi,z1,e2]
     exact ⟨0,by omega⟩
    ·exact low i (by simp; omega) hi _ _
 | _ :: _ :: _ :: _,_,_,k2,_,_=>simp at k2
structure Same (n:Nat) (m m':Mat):Prop where
 len:m.length = m'.length
 at_:∀ i,i < m.length → ∀ c,c < n → (m.getD i []).getD c 0 = (m'.getD i []).getD c 0
theorem find_same {n:Nat} {m m':Mat} (h:Same n m m') {col k:Nat} (hc:col < n):(m.drop k).findIdx? (fun r=>decide (r.getD col 0 ≠ 0)) = (m'.drop k).findIdx? (fun r=>decide (r.getD col 0 ≠ 0)):=by
 have e:m.map (fun r=>r.getD col 0) = m'.map (fun r=>r.getD col 0):=by
  apply List.ext_getElem
  ·simp [h.len]
  ·intro i h1 h2
   simp only [List.length_map] at h1 h2
   have:=h.at_ i h1 col hc
   rw [List.getD_eq_getElem?_getD (l:=m),List.getD_eq_getElem?_getD (l:=m'),List.getElem?_eq_getElem h1,List.getElem?_eq_getElem h2,Option.getD_some,Option.getD_some] at this
   simpa using this
 have key:∀ l:Mat,l.findIdx? (fun r=>decide (r.getD col 0 ≠ 0)) = (l.map (fun r=>r.getD col 0)).findIdx? (fun x=>decide (x ≠ 0)):=fun l=>by
  rw [List.findIdx?_map]; rfl
 rw [key,key,List.map_drop,List.map_drop,e]
theorem col_same {inv:Int → Int} {q:Int} {n n1 n2:Nat} {m m':Mat} {pv:List Nat} {col:Nat} (h:Ok q n1 m) (h':Ok q n2 m') (l1:n ≤ n1) (l2:n ≤ n2) (hs:Same n m m') (hc:col < n) :
  (colM inv q m pv col).2 = (colM inv q m' pv col).2 ∧ Same n (colM inv q m pv col).1 (colM inv q m' pv col).1:=by
 unfold colM
 rw [find_same hs hc]
 split
 ·exact ⟨rfl,hs⟩
 ·rename_i d hf
  dsimp only
  refine ⟨rfl,?_⟩
  obtain ⟨hd,_,_⟩:=List.findIdx?_eq_some_iff_getElem.1 hf
  rw [List.length_drop,← hs.len] at hd
  generalize pv.length = k at *
  have kl:k < m.length:=by omega
  have jl:k + d < m.length:=by omega
  have kl':k < m'.length:=by rw [← hs.len]; exact kl
  have jl':k + d < m'.length:=by rw [← hs.len]; exact jl
  have o1:=swap_ok h kl jl
  have o1':=swap_ok h' kl' jl'
  have s1:Same n (swapM m k (k + d)) (swapM m' k (k + d)):=by
   refine ⟨by rw [swap_len,swap_len,hs.len],fun i hi c hcc=>?_⟩
   rw [swap_len] at hi
   rw [swap_get kl jl,swap_get kl' jl']
   split
   ·exact hs.at_ k kl c hcc
   ·split
    ·exact hs.at_ _ jl c hcc
    ·exact hs.at_ i hi c hcc
  have sl:=swap_len m k (k + d)
  have sl':=swap_len m' k (k + d)
  generalize swapM m k (k + d) = a at *
  generalize swapM m' k (k + d) = a' at *
  have ka:k < a.length:=by omega
  have ka':k < a'.length:=by omega
  have la:=o1.len _ (getD_mem ka)
  have la':=o1'.len _ (getD_mem ka')
  have ev:(a.getD k []).getD col 0 = (a'.getD k []).getD col 0:=s1.at_ k ka col hc
  rw [ev]
  generalize inv ((a'.getD k []).getD col 0) = v
  have s2:Same n (a.set k (rowMul q (a.getD k []) v)) (a'.set k (rowMul q (a'.getD k []) v)):=by
   refine ⟨by simp [s1.len],fun i hi c hcc=>?_⟩
   rw [List.length_set] at hi
   rw [getD_set ka,getD_set ka']
   split
   ·rw [mul_get v (by omega),mul_get v (by omega),s1.at_ k ka c hcc]
   ·exact s1.at_ i hi c hcc
  have b2:∀ r ∈ a.set k (rowMul q (a.getD k []) v),r.length = n1:=by
   intro r hr
   rcases List.mem_or_eq_of_mem_set hr with hr | rfl
   ·exact o1.len r hr
   ·rw [rowMul,List.length_map,la]
  have b2':∀ r ∈ a'.set k (rowMul q (a'.getD k []) v),r.length = n2:=by
   intro r hr
   rcases List.mem_or_eq_of_mem_set hr with hr | rfl
   ·exact o1'.len r hr
   ·rw [rowMul,List.length_map,la']
  have kb:k < (a.set k (rowMul q (a.getD k []) v)).length:=by rw [List.length_set]; exact ka
  have kb':k < (a'.set k (rowMul q (a'.getD k []) v)).length:=by rw [List.length_set]; exact ka'
  generalize a.set k (rowMul q (a.getD k []) v) = b at *
  generalize a'.set k (rowMul q (a'.getD k []) v) = b' at *
  refine ⟨by rw [clear_len,clear_len,s2.len],fun i hi c hcc=>?_⟩
  rw [clear_len] at hi
  have hi':i < b'.length:=by rw [← s2.len]; exact hi
  rw [clear_get q k col hi,clear_get q k col hi',s2.at_ i hi col hc]
  have r1:=b2 _ (getD_mem hi)
  have r2:=b2' _ (getD_mem hi')
  have r3:=b2 _ (getD_mem kb)
  have r4:=b2' _ (getD_mem kb')
  split
  ·exact s2.at_ i hi c hcc
  ·rw [sub_get _ (by omega) (by omega),sub_get _ (by omega) (by omega),s2.at_ i hi c hcc,s2.at_ k kb c hcc]
theorem reduce_same {inv:Int → Int} {q:Int} (hq:okN q) (h1q:1 < q) (hinv:∀ a,0 < a → a < q → mulM q a (inv a) = 1) {n n1 n2:Nat} (l1:n ≤ n1) (l2:n ≤ n2):∀ (k c:Nat) {m m':Mat} {pv:List Nat},Ok q n1 m → Ok q n2 m' → c + k ≤ n → Red q m pv c → Red q m' pv c → Same n m m' →
  (reduceM inv q (List.range' c k) m pv).2 = (reduceM inv q (List.range' c k) m' pv).2
 | 0,c,m,m',pv,_,_,_,_,_,_=>rfl
 | k + 1,c,m,m',pv,h,h',hc,g,g',hs=>by
  obtain ⟨a1,a2⟩:=col_same (inv:=inv) (pv:=pv) (col:=c) h h' l1 l2 hs (by omega)
  obtain ⟨b1,_,b3,_⟩:=col_step hq h1q hinv h (show c < n1 by omega) g
  obtain ⟨c1,_,c3,_⟩:=col_step hq h1q hinv h' (show c < n2 by omega) g'
  rw [List.range'_succ,reduceM,reduceM]
  rw [a1] at b3 ⊢
  exact reduce_same hq h1q hinv l1 l2 k (c + 1) b1 c1 (by omega) b3 c3 a2
end LinLaw
namespace PrSpec
open FdSpec TkSpec CodeSpec FdPoly GrLaw
theorem prod_cg {g:Grp} (h:Gv g) {bs es:List Int} (hl:bs.length = es.length):Cg g.P (prodG g bs es).1 (PX g (bs.zip es)) ∧ 0 ≤ (prodG g bs es).1 ∧ (prodG g bs es).1 < g.P:=by
 have hp:=h.okP
 have hq:=h.okQ
 have hp0:0 < g.P:=by have:=hp.1; omega
 unfold prodG
 rw [if_pos ⟨hp,hq,hl⟩]
 have h1:=prodL_cg h (bs.zip es) (1 % g.P)
 have h2:=prodL_range h (bs.zip es) (1 % g.P) ⟨Int.emod_nonneg _ (by omega),Int.emod_lt_of_pos _ hp0⟩
 refine ⟨h1.trans ?_,h2⟩
 have:=(Cg.mod g.P 1).mul (Cg.refl g.P (PX g (bs.zip es)))
 rwa [Int.one_mul] at this
end PrSpec
namespace LinLaw
open FdSpec FdPoly GrLaw TkSpec PrSpec
def tab (P G:Nat):Nat → Nat → List Nat
 | 0,_=>[]
 | k + 1,y=>y :: tab P G k (y * G % P)
def chk (P Q:Nat):Bool:=(List.range P).all fun G=>!(decide (2 ≤ G) && decide (G ^ Q % P = 1)) || (decide (tab P G Q 1).Nodup && (List.range P).all fun x=>!(decide (1 ≤ x) && decide (x ^ Q % P = 1)) || (tab P G Q 1).contains x)
theorem chk5:chk 11 5 = true:=by decide +kernel
theorem chk11:chk 23 11 = true:=by decide +kernel
theorem chk23:chk 47 23 = true:=by decide +kernel
theorem chk29:chk 59 29 = true:=by decide +kernel
theorem small_q:∀ q:Fin 30,primeM ((q.val:Nat):Int) = true → primeM (2 * ((q.val:Nat):Int) + 1) = true → 5 ≤ q.val → q.val = 5 ∨ q.val = 11 ∨ q.val = 23 ∨ q.val = 29:=by decide +kernel
theorem tab_get (P G:Nat):∀ (k j i:Nat),i < k → (tab P G k (G ^ j % P))[i]? = some (G ^ (j + i) % P)
 | 0,_,_,h=>by omega
 | k + 1,j,0,_=>by simp [tab]
 | k + 1,j,i + 1,h=>by
  have e:G ^ j % P * G % P = G ^ (j + 1) % P:=by rw [Nat.pow_succ,Nat.mod_mul_mod]
  rw [tab,List.getElem?_cons_succ,e,tab_get P G k (j + 1) i (by omega)]
  congr 3
  omega
theorem tab_len (P G:Nat):∀ (k y:Nat),(tab P G k y).length = k
 | 0,_=>rfl
 | k + 1,y=>by rw [tab,List.length_cons,tab_len P G k]
structure Small (g:Grp):Prop where
 v:Gv g
 lo:5 ≤ g.Q
 p:g.P = 2 * g.Q + 1
 g2:2 ≤ g.G
 gp:g.G < g.P
 c:chk g.P.toNat g.Q.toNat = true
theorem small_of {g:Grp} (h:validG g = true) (hq:g.Q ≤ 29):Small g:=by
 have hv:=gv_of h
 have q0:=hv.q0
 have p:=hv.p
 have hp:primeM g.Q = true ∧ primeM g.P = true:=by
  unfold validG at h
  split at h
  ·cases h
  ·simp only [Bool.and_eq_true] at h
   exact h.1
 have lo:5 ≤ g.Q:=by
  unfold validG at h
  split at h
  ·cases h
  ·rename_i hc; omega
 have gg:2 ≤ g.G ∧ g.G < g.P:=by
  unfold validG at h
  split at h
  ·cases h
  ·rename_i hc; omega
 have:=small_q ⟨g.Q.toNat,by omega⟩ (by rw [show ((g.Q.toNat:Nat):Int) = g.Q by omega]; exact hp.1) (by rw [show 2 * ((g.Q.toNat:Nat):Int) + 1 = g.P by omega]; exact hp.2) (by show 5 ≤ g.Q.toNat; omega)
 simp only at this
 refine ⟨hv,lo,p,gg.1,gg.2,?_⟩
 rcases this with e | e | e | e
 ·rw [e,show g.P.toNat = 11 by omega]; exact chk5
 ·rw [e,show g.P.toNat = 23 by omega]; exact chk11
 ·rw [e,show g.P.toNat = 47 by omega]; exact chk23
 ·rw [e,show g.P.toNat = 59 by omega]; exact chk29
end LinLaw
namespace LinLaw
open FdSpec FdPoly GrLaw TkSpec PrSpec
theorem pw_nat {P G:Int} (hP:0 ≤ P) (hG:0 ≤ G) (n:Nat):pw P G n = ((G.toNat ^ n % P.toNat:Nat):Int):=by
 unfold pw
 rw [Int.natCast_emod,Int.natCast_pow,Int.toNat_of_nonneg hG,Int.toNat_of_nonneg hP]
def logM (g:Grp) (x:Int):Int:=match (List.range g.Q.toNat).find? fun i=>decide (pw g.P g.G i = x) with | some i=>i | none=>-1
variable {g:Grp}
theorem Small.tab_all (h:Small g):(tab g.P.toNat g.G.toNat g.Q.toNat 1).Nodup ∧ ∀ x:Int,1 ≤ x → x < g.P → pw g.P x g.Q.toNat = 1 → ∃ i,i < g.Q.toNat ∧ pw g.P g.G i = x:=by
 have hp:=h.p
 have lo:=h.lo
 have hc:=h.c
 unfold chk at hc
 rw [List.all_eq_true] at hc
 have gr:2 ≤ g.G ∧ g.G < g.P:=⟨h.g2,h.gp⟩
 have hG:=hc g.G.toNat (List.mem_range.2 (by omega))
 have e1:g.G.toNat ^ g.Q.toNat % g.P.toNat = 1:=by
  have:=h.v.gq
  rw [pw_nat (by omega) (by omega)] at this
  omega
 simp only [e1,decide_true,Bool.and_true,Bool.or_eq_true,Bool.not_eq_true',decide_eq_false_iff_not,Bool.and_eq_true,decide_eq_true_eq,List.all_eq_true] at hG
 obtain ⟨hn,hx⟩:=hG.resolve_left (by omega)
 refine ⟨hn,fun x x1 x2 hxq=>?_⟩
 have hm:=hx x.toNat (List.mem_range.2 (by omega))
 have e2:x.toNat ^ g.Q.toNat % g.P.toNat = 1:=by
  rw [pw_nat (by omega) (by omega)] at hxq
  omega
 rw [e2] at hm
 have hmem:x.toNat ∈ tab g.P.toNat g.G.toNat g.Q.toNat 1:=by
  rcases hm with hm | hm
  ·exfalso
   simp at hm
   omega
  ·simpa using hm
 obtain ⟨i,hi⟩:=List.mem_iff_getElem?.1 hmem
 have hl:i < g.Q.toNat:=by
  have:=(List.getElem?_eq_some_iff.1 hi).1
  rwa [tab_len] at this
 have ht:=tab_get g.P.toNat g.G.toNat g.Q.toNat 0 i hl
 rw [Nat.pow_zero,Nat.mod_eq_of_lt (show 1 < g.P.toNat by omega),Nat.zero_add,hi,Option.some.injEq] at ht
 refine ⟨i,hl,?_⟩
 rw [pw_nat (by omega) (by omega),← ht]
 omega
theorem Small.inj (h:Small g) {i j:Nat} (hi:i < g.Q.toNat) (hj:j < g.Q.toNat) (e:pw g.P g.G i = pw g.P g.G j):i = j:=by
 have hp:=h.p
 have lo:=h.lo
 have hn:=h.tab_all.1
 have t:=fun i hi=>tab_get g.P.toNat g.G.toNat g.Q.toNat 0 i hi
 have gr:2 ≤ g.G:=h.g2
 rw [pw_nat (by omega) (by omega),pw_nat (by omega) (by omega)] at e
 have t1:=t i hi
 have t2:=t j hj
 rw [Nat.pow_zero,Nat.mod_eq_of_lt (show 1 < g.P.toNat by omega),Nat.zero_add] at t1 t2
 have e':g.G.toNat ^ i % g.P.toNat = g.G.toNat ^ j % g.P.toNat:=by omega
 rw [e',← t2] at t1
 exact (List.getElem?_inj (by rw [tab_len]; exact hi) hn).1 t1
theorem Small.log (h:Small g) {x:Int} (hx:elemG g x = true):0 ≤ logM g x ∧ logM g x < g.Q ∧ pw g.P g.G (logM g x).toNat = x:=by
 have lo:=h.lo
 simp only [elemG,Bool.and_eq_true,decide_eq_true_eq] at hx
 obtain ⟨i,hi,e⟩:=h.tab_all.2 x hx.1.1.1 hx.1.1.2 hx.2
 unfold logM
 split
 ·rename_i j hj
  have h1:=List.mem_of_find?_eq_some hj
  have h2:=List.find?_some hj
  simp only [decide_eq_true_eq] at h2
  have:=List.mem_range.1 h1
  exact ⟨by omega,by omega,by simpa using h2⟩
 ·rename_i hj
  have:=List.find?_eq_none.1 hj i (List.mem_range.2 hi)
  simp [e] at this
theorem Small.same (h:Small g) (a b:Int):Cg g.P (Ex g g.G a) (Ex g g.G b) ↔ g.Q ∣ a - b:=by
 have lo:=h.lo
 have a0:=Int.emod_nonneg a (show g.Q ≠ 0 by omega)
 have a1:=Int.emod_lt_of_pos a (show 0 < g.Q by omega)
 have b0:=Int.emod_nonneg b (show g.Q ≠ 0 by omega)
 have b1:=Int.emod_lt_of_pos b (show 0 < g.Q by omega)
 constructor
 ·intro hc
  have e:=hc.emod
  have:=h.inj (i:=(a % g.Q).toNat) (j:=(b % g.Q).toNat) (by omega) (by omega) e
  have e2:a % g.Q = b % g.Q:=by omega
  exact Int.dvd_of_emod_eq_zero (Int.emod_eq_emod_iff_emod_sub_eq_zero.1 e2)
 ·intro hd
  have e2:a % g.Q = b % g.Q:=Int.emod_eq_emod_iff_emod_sub_eq_zero.2 (Int.emod_eq_zero_of_dvd hd)
  rw [Ex_cong e2]
  exact Cg.refl _ _
theorem Small.ex (h:Small g) {x:Int} (hx:elemG g x = true):Cg g.P x (Ex g g.G (logM g x)):=by
 obtain ⟨l0,l1,e⟩:=h.log hx
 have lo:=h.lo
 unfold Ex
 rw [Int.emod_eq_of_lt l0 l1]
 have:=Cg.mod g.P (g.G ^ (logM g x).toNat)
 have e':g.G ^ (logM g x).toNat % g.P = x:=e
 rw [e'] at this
 exact this
theorem Small.prod (h:Small g) (f:Int → Int):∀ (l:List Trm),(∀ t ∈ l,elemG g t.base = true) → Cg g.P (PX g (l.map fun t=>(t.base,f t.var))) (Ex g g.G ((l.map fun t=>logM g t.base * f t.var).sum))
 | [],_=>by simp [PX,Ex_zero]; exact Cg.refl _ _
 | t :: l,he=>by
  have ih:=h.prod f l fun u hu=>he u (by simp [hu])
  have hg:=El.gen h.v
  simp only [List.map_cons,PX,List.sum_cons]
  refine Cg.trans ?_ (Ex_add h.v hg _ _).symm
  refine Cg.mul ?_ ih
  exact (Ex_cg (h.ex (he t (by simp))) _).trans (Ex_mul h.v hg _ _).symm
end LinLaw
namespace LinLaw
open FdSpec FdPoly GrLaw TkSpec PrSpec
variable {g:Grp}
theorem dot_append:∀ (r v:List Int) (b:Int),r.length = v.length → dot (r ++ [b]) (v ++ [-1]) = dot r v - b
 | [],[],b,_=>by simp [dot]
 | [],_ :: _,_,h=>by simp at h
 | _ :: _,[],_,h=>by simp at h
 | a :: r,x :: v,b,h=>by
  have:=dot_append r v b (by simpa using h)
  simp only [List.cons_append,dot,this]
  omega
theorem dot_set {q:Int} (hq:okN q) (l:Int):∀ (r v:List Int) (i:Nat),i < r.length → r.length = v.length → q ∣ dot (r.set i (addM q (r.getD i 0) l)) v - (dot r v + l * v.getD i 0)
 | [],_,_,h,_=>by simp at h
 | _ :: _,[],_,_,h=>by simp at h
 | a :: r,x :: v,0,_,_=>by
  obtain ⟨k,hk⟩:=addM_dvd (n:=q) (a:=a) (b:=l) hq
  simp only [List.set_cons_zero,List.getD_cons_zero,dot]
  exact ⟨k * x,by grind⟩
 | a :: r,x :: v,i + 1,h,h2=>by
  obtain ⟨k,hk⟩:=dot_set hq l r v i (by simpa using h) (by simpa using h2)
  simp only [List.set_cons_succ,List.getD_cons_succ,dot]
  exact ⟨k,by rw [← hk]; omega⟩
def rowG (g:Grp):List Trm → List Int → List Int
 | [],r=>r
 | t :: l,r=>rowG g l (r.set t.var.toNat (addM g.Q (r.getD t.var.toNat 0) (logM g t.base)))
theorem rowG_len (g:Grp):∀ (l:List Trm) (r:List Int),(rowG g l r).length = r.length
 | [],r=>rfl
 | t :: l,r=>by rw [rowG,rowG_len g l,List.length_set]
theorem rowG_dot (h:Small g):∀ (l:List Trm) (r v:List Int),(∀ t ∈ l,t.var.toNat < r.length) → r.length = v.length → g.Q ∣ dot (rowG g l r) v - (dot r v + (l.map fun t=>logM g t.base * v.getD t.var.toNat 0).sum)
 | [],r,v,_,_=>by simp [rowG]
 | t :: l,r,v,ht,hl=>by
  obtain ⟨k,hk⟩:=rowG_dot h l (r.set t.var.toNat (addM g.Q (r.getD t.var.toNat 0) (logM g t.base))) v (fun u hu=>by rw [List.length_set]; exact ht u (by simp [hu])) (by rw [List.length_set]; exact hl)
  obtain ⟨m,hm⟩:=dot_set h.v.okQ (logM g t.base) r v t.var.toNat (ht t (by simp)) hl
  rw [rowG,List.map_cons,List.sum_cons]
  exact ⟨k + m,by rw [Int.mul_add,← hk,← hm]; omega⟩
theorem dot_zero:∀ (n:Nat) (v:List Int),dot (List.replicate n 0) v = 0
 | 0,v=>by simp [dot]
 | n + 1,[]=>by simp [dot,List.replicate_succ]
 | n + 1,x :: v=>by simp [dot,List.replicate_succ,dot_zero n v]
theorem eq_iff {s:Stp} (h:Small s.g) {n:Int} {e:Eqn} (hf:eqnFine s n e = true) {v:List Int} (hv:(v.length:Int) = n) :
  leftM s e v = e.target ↔ Sr s.g.Q (v ++ [-1]) (rowG s.g e.terms (List.replicate v.length 0) ++ [logM s.g e.target]):=by
 simp only [eqnFine,trmFine,Bool.and_eq_true,List.all_eq_true,decide_eq_true_eq] at hf
 obtain ⟨⟨ht,_⟩,hb⟩:=hf
 have hte:=ht
 simp only [elemG,Bool.and_eq_true,decide_eq_true_eq] at hte
 have hl:(rowG s.g e.terms (List.replicate v.length 0)).length = v.length:=by rw [rowG_len,List.length_replicate]
 unfold Sr
 rw [dot_append _ _ _ hl]
 obtain ⟨k,hk⟩:=rowG_dot h e.terms (List.replicate v.length 0) v (fun t hh=>by rw [List.length_replicate]; have:=(hb t hh).1; omega) (by simp)
 rw [dot_zero,Int.zero_add] at hk
 have hz:(e.terms.map fun t=>t.base).zip (e.terms.map fun t=>v.getD t.var.toNat 0) = e.terms.map fun t=>(t.base,v.getD t.var.toNat 0):=by
  rw [List.zip_map']
 obtain ⟨p1,p2,p3⟩:=prod_cg h.v (bs:=e.terms.map fun t=>t.base) (es:=e.terms.map fun t=>v.getD t.var.toNat 0) (by simp)
 rw [hz] at p1
 have p4:=h.prod (fun n=>v.getD n.toNat 0) e.terms fun t hh=>(hb t hh).2
 have p5:=h.ex ht
 have key:leftM s e v = e.target ↔ Cg s.g.P (leftM s e v) e.target:=⟨fun e=>by rw [e]; exact Cg.refl _ _,fun c=>c.eq ⟨p2,p3⟩ ⟨by omega,hte.1.1.2⟩⟩
 rw [key]
 have c1:Cg s.g.P (leftM s e v) (Ex s.g s.g.G ((e.terms.map fun t=>logM s.g t.base * v.getD t.var.toNat 0).sum)):=p1.trans p4
 have c2:Cg s.g.P (leftM s e v) e.target ↔ Cg s.g.P (Ex s.g s.g.G ((e.terms.map fun t=>logM s.g t.base * v.getD t.var.toNat 0).sum)) (Ex s.g s.g.G (logM s.g e.target)):=
  ⟨fun c=>c1.symm.trans (c.trans p5),fun c=>c1.trans (c.trans p5.symm)⟩
 rw [c2,h.same]
 constructor
 ·rintro ⟨m,hm⟩
  exact ⟨k + m,by rw [Int.mul_add,← hk,← hm]; omega⟩
 ·rintro ⟨m,hm⟩
  exact ⟨m - k,by rw [Int.mul_sub,← hk,← hm]; omega⟩
def matG (s:Stp) (c:Clm):Mat:=c.eqs.map fun e=>rowG s.g e.terms (List.replicate c.vars.toNat 0) ++ [logM s.g e.target]
theorem holds_iff {s:Stp} (h:Small s.g) {c:Clm} (hc:claimM s c = true) {v:List Int} (hv:exponentsM s v c.vars = true):holdsM s c v = true ↔ Sat s.g.Q (matG s c) (v ++ [-1]):=by
 have hl:(v.length:Int) = c.vars:=by
  simp only [exponentsM,Bool.and_eq_true,decide_eq_true_eq] at hv
  exact hv.1
 have hf:∀ e ∈ c.eqs,eqnFine s c.vars e = true:=by
  simp only [claimM,Bool.and_eq_true,List.all_eq_true] at hc
  exact hc.2
 have hn:c.vars.toNat = v.length:=by omega
 simp only [holdsM,hv,Bool.true_and,Bool.not_eq_true',List.any_eq_false,decide_eq_false_iff_not,Classical.not_not]
 unfold Sat matG
 constructor
 ·intro g r hr
  obtain ⟨e,he,rfl⟩:=List.mem_map.1 hr
  rw [hn]
  exact (eq_iff h (hf e he) hl).1 (g e he)
 ·intro g e he
  have:=g _ (List.mem_map.2 ⟨e,he,rfl⟩)
  rw [hn] at this
  exact (eq_iff h (hf e he) hl).2 this
end LinLaw
namespace LinLaw
open FdSpec FdPoly GrLaw TkSpec PrSpec
variable {s:Stp} {c:Clm}
theorem rowG_rng (h:Small s.g):∀ (l:List Trm) (r:List Int),(∀ x ∈ r,0 ≤ x ∧ x < s.g.Q) → ∀ x ∈ rowG s.g l r,0 ≤ x ∧ x < s.g.Q
 | [],r,hr=>hr
 | t :: l,r,hr=>by
  rw [rowG]
  refine rowG_rng h l _ fun x hx=>?_
  rcases List.mem_or_eq_of_mem_set hx with hx | rfl
  ·exact hr x hx
  ·exact addM_range _ _ _ h.v.okQ
theorem matG_ok (h:Small s.g) (hc:claimM s c = true):Ok s.g.Q (c.vars.toNat + 1) (matG s c):=by
 have lo:=h.lo
 have hf:∀ e ∈ c.eqs,elemG s.g e.target = true:=by
  simp only [claimM,Bool.and_eq_true,List.all_eq_true,eqnFine] at hc
  exact fun e he=>(hc.2 e he).1.1
 constructor
 ·intro r hr
  obtain ⟨e,he,rfl⟩:=List.mem_map.1 hr
  rw [List.length_append,rowG_len,List.length_replicate]
  rfl
 ·intro r hr x hx
  obtain ⟨e,he,rfl⟩:=List.mem_map.1 hr
  rcases List.mem_append.1 hx with hx | hx
  ·refine rowG_rng h _ _ (fun y hy=>?_) x hx
   rw [List.eq_of_mem_replicate hy]
   exact ⟨Int.le_refl _,by omega⟩
  ·simp only [List.mem_singleton] at hx
   subst hx
   obtain ⟨a,b,_⟩:=h.log (hf e he)
   exact ⟨a,b⟩
def matZ (s:Stp) (c:Clm):Mat:=c.eqs.map fun e=>rowG s.g e.terms (List.replicate c.vars.toNat 0) ++ [0]
theorem matZ_ok (h:Small s.g):Ok s.g.Q (c.vars.toNat + 1) (matZ s c):=by
 have lo:=h.lo
 constructor
 ·intro r hr
  obtain ⟨e,he,rfl⟩:=List.mem_map.1 hr
  rw [List.length_append,rowG_len,List.length_replicate]
  rfl
 ·intro r hr x hx
  obtain ⟨e,he,rfl⟩:=List.mem_map.1 hr
  rcases List.mem_append.1 hx with hx | hx
  ·refine rowG_rng h _ _ (fun y hy=>?_) x hx
   rw [List.eq_of_mem_replicate hy]
   exact ⟨Int.le_refl _,by omega⟩
  ·simp only [List.mem_singleton] at hx
   subst hx
   exact ⟨Int.le_refl _,by omega⟩
theorem mat_same:Same c.vars.toNat (matG s c) (matZ s c):=by
 refine ⟨by simp [matG,matZ],fun i hi k hk=>?_⟩
 simp only [matG,List.length_map] at hi
 simp only [matG,matZ,List.getD_eq_getElem?_getD,List.getElem?_map,List.getElem?_eq_getElem hi,Option.map_some,Option.getD_some]
 rw [List.getElem?_append_left (by rw [rowG_len,List.length_replicate]; exact hk),List.getElem?_append_left (by rw [rowG_len,List.length_replicate]; exact hk)]
theorem exps1 {x:Nat} (hv:c.vars = 1) (hx:(x:Int) < s.g.Q):exponentsM s [(x:Int)] c.vars = true:=by
 simp [exponentsM,exponentM,hv,hx]
theorem exps2 {x y:Nat} (hv:c.vars = 2) (hx:(x:Int) < s.g.Q) (hy:(y:Int) < s.g.Q):exponentsM s [(x:Int),(y:Int)] c.vars = true:=by
 simp [exponentsM,exponentM,hv,hx,hy]
theorem counts1 (h:Small s.g) (hc:claimM s c = true) (hv:c.vars = 1) {inv:Int → Int} (hinv:∀ a,0 < a → a < s.g.Q → mulM s.g.Q a (inv a) = 1) :
  let R:=reduceM inv s.g.Q (List.range' 0 1) (matG s c) []
  let n:=S s.g.Q.toNat fun x=>I (holdsM s c [(x:Int)] = true)
  (Cons R.1 R.2.length 1 ↔ 0 < n) ∧ (Cons R.1 R.2.length 1 → holdsM s c (outM R.1 1 0 R.2 [0]) = true) ∧ R.2.length ≤ 1 ∧ (n = 0 ∨ n = s.g.Q.toNat ^ (1 - R.2.length)) ∧
   R.2.length = (reduceM inv s.g.Q (List.range' 0 1) (matZ s c) []).2.length:=by
 have lo:=h.lo
 have ok:=matG_ok h hc
 have okZ:=matZ_ok (c:=c) h
 have sm:=mat_same (s:=s) (c:=c)
 have hn:c.vars.toNat = 1:=by omega
 rw [hn] at ok okZ sm
 have hQ:((s.g.Q.toNat:Nat):Int) = s.g.Q:=by omega
 obtain ⟨a1,a2,a3,a4⟩:=reduce_all h.v.okQ (by omega) hinv 1 0 ok (by omega) (red_start _ _)
 have rs:=reduce_same h.v.okQ (by omega) hinv (n:=1) (n1:=2) (n2:=2) (by omega) (by omega) 1 0 ok okZ (by omega) (red_start _ _) (red_start _ _) sm
 intro R n
 have eR:R = reduceM inv s.g.Q (List.range' 0 1) (matG s c) []:=rfl
 rw [← eR] at a1 a2 a3 a4 rs
 rw [← rs]
 clear_value R
 rw [← hQ] at a1 a3
 obtain ⟨c1,c2,c3⟩:=count1 (q:=s.g.Q.toNat) (by omega) a1 a3
 have en:n = S s.g.Q.toNat fun x=>I (Sat ((s.g.Q.toNat:Nat):Int) R.1 [(x:Int),-1]):=S_congr _ fun x hx=>I_congr (by
  rw [hQ,a4,holds_iff h hc (exps1 hv (by omega))]
  rfl)
 have pos:Cons R.1 R.2.length 1 → 0 < n:=fun hcon=>by
  rw [en,c2 hcon]
  exact Nat.pow_pos (by omega)
 have zero:¬ Cons R.1 R.2.length 1 → n = 0:=fun hcon=>by
  have:∀ x,x < s.g.Q.toNat → I (Sat ((s.g.Q.toNat:Nat):Int) R.1 [(x:Int),-1]) = 0:=fun x _=>I_zero (c3 hcon x)
  rw [en,S_congr _ this,S_const]
  rfl
 refine ⟨⟨pos,fun hp=>Classical.byContradiction fun hn=>by have:=zero hn; omega⟩,fun hcon=>?_,c1,?_,rfl⟩
 ·obtain ⟨x,e,hs,x0,x1⟩:=sat_basic1 (q:=s.g.Q.toNat) (by omega) a1 a3 hcon
  rw [e]
  rw [hQ,a4] at hs
  have:=holds_iff h hc (v:=[x]) (by simp [exponentsM,exponentM,hv,x0]; omega)
  exact this.2 hs
 ·by_cases hcon:Cons R.1 R.2.length 1
  ·right; rw [en,c2 hcon]
  ·left; exact zero hcon
theorem counts2 (h:Small s.g) (hc:claimM s c = true) (hv:c.vars = 2) {inv:Int → Int} (hinv:∀ a,0 < a → a < s.g.Q → mulM s.g.Q a (inv a) = 1) :
  let R:=reduceM inv s.g.Q (List.range' 0 2) (matG s c) []
  let n:=S s.g.Q.toNat fun x=>S s.g.Q.toNat fun y=>I (holdsM s c [(x:Int),(y:Int)] = true)
  (Cons R.1 R.2.length 2 ↔ 0 < n) ∧ (Cons R.1 R.2.length 2 → holdsM s c (outM R.1 2 0 R.2 [0,0]) = true) ∧ R.2.length ≤ 2 ∧ (n = 0 ∨ n = s.g.Q.toNat ^ (2 - R.2.length)) ∧
   R.2.length = (reduceM inv s.g.Q (List.range' 0 2) (matZ s c) []).2.length:=by
 have lo:=h.lo
 have ok:=matG_ok h hc
 have okZ:=matZ_ok (c:=c) h
 have sm:=mat_same (s:=s) (c:=c)
 have hn:c.vars.toNat = 2:=by omega
 rw [hn] at ok okZ sm
 have hQ:((s.g.Q.toNat:Nat):Int) = s.g.Q:=by omega
 obtain ⟨a1,a2,a3,a4⟩:=reduce_all h.v.okQ (by omega) hinv 2 0 ok (by omega) (red_start _ _)
 have rs:=reduce_same h.v.okQ (by omega) hinv (n:=2) (n1:=3) (n2:=3) (by omega) (by omega) 2 0 ok okZ (by omega) (red_start _ _) (red_start _ _) sm
 intro R n
 have eR:R = reduceM inv s.g.Q (List.range' 0 2) (matG s c) []:=rfl
 rw [← eR] at a1 a2 a3 a4 rs
 rw [← rs]
 clear_value R
 rw [← hQ] at a1 a3
 obtain ⟨c1,c2,c3⟩:=count2 (q:=s.g.Q.toNat) (by omega) a1 a3
 have en:n = S s.g.Q.toNat fun x=>S s.g.Q.toNat fun y=>I (Sat ((s.g.Q.toNat:Nat):Int) R.1 [(x:Int),(y:Int),-1]):=S_congr _ fun x hx=>S_congr _ fun y hy=>I_congr (by
  rw [hQ,a4,holds_iff h hc (exps2 hv (by omega) (by omega))]
  rfl)
 have pos:Cons R.1 R.2.length 2 → 0 < n:=fun hcon=>by
  rw [en,c2 hcon]
  exact Nat.pow_pos (by omega)
 have zero:¬ Cons R.1 R.2.length 2 → n = 0:=fun hcon=>by
  have:∀ x,x < s.g.Q.toNat → (S s.g.Q.toNat fun y=>I (Sat ((s.g.Q.toNat:Nat):Int) R.1 [(x:Int),(y:Int),-1])) = 0:=fun x _=>by
   have:∀ y,y < s.g.Q.toNat → I (Sat ((s.g.Q.toNat:Nat):Int) R.1 [(x:Int),(y:Int),-1]) = 0:=fun y _=>I_zero (c3 hcon x y)
   rw [S_congr _ this,S_const]
   rfl
  rw [en,S_congr _ this,S_const]
  rfl
 refine ⟨⟨pos,fun hp=>Classical.byContradiction fun hn=>by have:=zero hn; omega⟩,fun hcon=>?_,c1,?_,rfl⟩
 ·obtain ⟨x,y,e,hs,⟨x0,x1⟩,y0,y1⟩:=sat_basic2 (q:=s.g.Q.toNat) (by omega) a1 a3 hcon
  rw [e]
  rw [hQ,a4] at hs
  have:=holds_iff h hc (v:=[x,y]) (by simp [exponentsM,exponentM,hv,x0,y0]; omega)
  exact this.2 hs
 ·by_cases hcon:Cons R.1 R.2.length 2
  ·right; rw [en,c2 hcon]
  ·left; exact zero hcon
end LinLaw
