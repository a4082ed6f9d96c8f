/- Parts of the proof of the seat's statements (LawKit, OpenKit, OpenKit2, LZ, LZf, RgB, RgC, HRe, FpA, FpB, TkQ, FpC, FpD, FpE, TpO, FpF, HRg, LaA, FpG, FpH, TzN, HLTicketBlind, TzB, HLTicketFollows, TzF): lemmas about the given translation and plain laws. No condition of their own. -/
import Derived.Test.YtpfjmfgnlpnflaaGreatDoorZfe
import Derived.ProofKit
import Derived.LaidMore
import Derived.OpenShut
import Derived.Carry
import Derived.SizedLaws
import Derived.Stop.Joined
import Derived.Deep.Slices
import Derived.Deep.Fields
import Derived.LaidSub
import Derived.Test.YtpfjmfgnlpnflaaGreatDoorRows
import Derived.Test.YtpfjmfgnlpnflaaGreatDoorCards
import Derived.Test.YtpfjmfgnlpnflaaGreatDoorTie
import Derived.SevenTiedAt
import Derived.Test.YtpfjmfgnlpnflaaGreatDoorProg
set_option linter.all false
set_option maxRecDepth 100000
namespace Go.Sh
open Go Go.ChangeShapes Go.WideShapes Go.ChangeAt Go.RowKit
section
variable {H:Type} {enc:TypeId × Value → H} {P:Program}
theorem trodAll_below (hl:laidOutB P = true) {W W':World} (hb:Below W.heap.size W W') :
  ∀ (ts:List TypeId) (vs:List Value) (ds:List (DataW H)) (ps:List MemPlace),(ts.all fun t=>P.readableRec t && decide (t < P.types.size)) = true →
  DataW.TrodAll enc P W 0 (fun _=>true) true ts vs ds ps → (∀ x ∈ ps,x.block < W.heap.size) → DataW.TrodAll enc P W' 0 (fun b=>decide (b < W.heap.size)) true ts vs ds ps
 | [],[],[],_,_,h,_=>h
 | t :: ts,v :: vs,d :: ds,ps,ht,h,hlt=>by
  obtain ⟨p,q,h1,h2,rfl⟩:=h
  simp only [List.all_cons,Bool.and_eq_true,decide_eq_true_eq] at ht
  exact ⟨p,q,Below.trod hl ht.1.1 ht.1.2 h1 hb (fun x hx=>hlt x (by simp [hx])),trodAll_below hl hb ts vs ds q ht.2 h2 (fun x hx=>hlt x (by simp [hx])),rfl⟩
 | [],_ :: _,_,_,_,h,_=>h.elim
 | [],[],_ :: _,_,_,h,_=>h.elim
 | _ :: _,[],_,_,_,h,_=>h.elim
 | _ :: _,_ :: _,[],_,_,h,_=>h.elim
theorem trodAll_length {W:World} {b:Nat} {sp:Nat → Bool} {hd:Bool}:∀ (ts:List TypeId) (vs:List Value) (ds:List (DataW H)) (ps:List MemPlace),DataW.TrodAll enc P W b sp hd ts vs ds ps → ds.length = ts.length ∧ vs.length = ts.length
 | [],[],[],_,_=>⟨rfl,rfl⟩
 | t :: ts,v :: vs,d :: ds,ps,h=>by
  obtain ⟨p,q,h1,h2,rfl⟩:=h
  have:=trodAll_length ts vs ds q h2
  simp [this]
 | [],_ :: _,_,_,h=>h.elim
 | [],[],_ :: _,_,h=>h.elim
 | _ :: _,[],_,_,h=>h.elim
 | _ :: _,_ :: _,[],_,h=>h.elim
theorem trodL_cons {W:World} {b:Nat} {sp:Nat → Bool} {hd:Bool} {t:TypeId} {ts:List TypeId} {vs:List Value} {ds:List (DataW H)} {ps:List MemPlace} (h:DataW.TrodAll enc P W b sp hd (t :: ts) vs ds ps) :
  ∃ v d vs' ds' p q,vs = v :: vs' ∧ ds = d :: ds' ∧ DataW.Trod enc P W b sp hd t v d p ∧ DataW.TrodAll enc P W b sp hd ts vs' ds' q ∧ ps = p ++ q:=by
 match vs,ds,h with
 | v :: vs,d :: ds,h=>
  obtain ⟨p,q,h1,h2,rfl⟩:=h
  exact ⟨v,d,vs,ds,p,q,rfl,rfl,h1,h2,rfl⟩
 | [],_,h=>exact h.elim
 | _ :: _,[],h=>exact h.elim
theorem trodL0 {W:World} {b:Nat} {sp:Nat → Bool} {hd:Bool} {vs:List Value} {ds:List (DataW H)} {ps:List MemPlace} (h:DataW.TrodAll enc P W b sp hd [] vs ds ps):vs = [] ∧ ds = [] ∧ ps = []:=by
 match vs,ds,h with
 | [],[],h=>exact ⟨rfl,rfl,h⟩
theorem law_post {fn:Func} {s:ChangeSpec} {tb:TypeId} {apart:Bool} {W W':World} {args:Array Value} {ds gs:List (DataW H)} {before:List MemPlace} (hl:laidOutB P = true)
  (hrt:fn.resultTypes = #[tb]) (hub:P.underlying tb = some .bool) (hpar:(fn.params.toList.all fun t=>P.readableRec t && decide (t < P.types.size)) = true) (hvars:s.vars = [])
  (hspec:∀ ds:List (DataW H),ds.length = fn.params.toList.length → s.fn H ds = { results:=[.lit (.bool true)],args:=ds })
  (hW:DataW.Whole enc P fn.params.toList s.vars apart W args.toList ds gs before) (hb:Below W.heap.size W W'):s.post enc P fn apart true false false W args (.bool true) W':=by
 have hW0:=hW
 have hlt:=hW.lt
 obtain ⟨p,q,hA,hV,rfl,_,_⟩:=hW
 rw [hvars] at hV
 obtain ⟨rfl,rfl⟩:=trodVars_none hV
 have hlen:=(trodAll_length _ _ _ _ hA).1
 have hs:=hspec ds hlen
 rw [List.append_nil] at hlt hW0
 refine ⟨ds,[],p,[],p,[],hW0,?_,?_,?_,hb.frame _,fun h=>by cases h⟩
 ·rw [List.append_nil,hs,hrt]
  exact trodAll_mk1 (shut_bool hub true)
 ·rw [List.append_nil,hs]
  exact trodAll_below hl hb _ _ _ _ hpar hA hlt
 ·rw [hvars,List.append_nil,hs]
  rfl
theorem law_lifted {C:Checked} {os:Os} {f:FuncId} {fn:Func} {s:ChangeSpec} {tb:TypeId} (own:ownKnob C.prog.godebug = none) (started:os.Started) (noInit:C.prog.inits.idxOf? f = none) (hfn:C.prog.funcs[f]? = some fn)
  (hl:laidOutB C.prog = true) (hrt:fn.resultTypes = #[tb]) (hub:C.prog.underlying tb = some .bool) (hpar:(fn.params.toList.all fun t=>C.prog.readableRec t && decide (t < C.prog.types.size)) = true) (hvars:s.vars = [])
  (hspec:∀ ds:List (DataW H),ds.length = fn.params.toList.length → s.fn H ds = { results:=[.lit (.bool true)],args:=ds })
  (witness:∃ (w:World) (tape:Tape) (i:Input),w.os = os ∧ (w.forCall tape i).Shaped C.prog ∧ i.vars = [] ∧ Input.okWide C.prog (w.forCall tape i) .any w.heap.size f i ∧
   s.pre6 enc C.prog fn [] false (w.forCall tape i).memory i.args ∧ ({}:Assume).holds C.prog (lone (Frame.enter C.prog f i.args .normal) [] (w.forCall tape i)))
  (contract:∀ (W:World) (base:Nat) (args:List Value) (ds:List (DataW H)) (p:List MemPlace),(∀ (j:Nat) t v,fn.params.toList[j]? = some t → args[j]? = some v → Value.okWide C.prog W .any base t v) →
   DataW.TrodAll enc C.prog W 0 (fun _=>true) true fn.params.toList args ds p → (DataW.weightsEach C.prog fn.params.toList ds).all (· ≤ reachBytes) = true → (∀ x ∈ p,x.block < W.heap.size) →
   callM C.prog f args.toArray (fun v W'=>v = .bool true ∧ Below W.heap.size W W') W) :
  ReturnsInHanded {} C os f .any (s.pre6 enc C.prog fn [] false) (s.post enc C.prog fn false true false false):=by
 refine returnsInHanded_of_change_sized own started noInit hfn witness ?_
 intro W base args ds gs before hval hW _ hsz _
 have hW0:=hW
 have hlt:=hW.lt
 obtain ⟨p,q,hA,hV,rfl,_,_⟩:=hW
 rw [hvars] at hV
 obtain ⟨rfl,rfl⟩:=trodVars_none hV
 have hsz':(DataW.weightsEach C.prog fn.params.toList ds).all (· ≤ reachBytes) = true:=by
  simpa [hvars,ChangeSpec.plain,DataSpec.varTypes] using hsz
 have hc:=contract W base args.toList ds p (fun j t v h1 h2=>hval j t v (by simpa using h1) (by simpa using h2)) hA hsz' (fun x hx=>hlt x (by simp [hx]))
 refine hc.mono fun e W' h=>?_
 obtain ⟨v,rfl,rfl,hb⟩:=h
 exact ⟨_,rfl,law_post hl hrt hub hpar hvars hspec hW0 hb⟩
theorem law_lifted_laid {C:Checked} {os:Os} {f:FuncId} {fn:Func} {s:ChangeSpec} {tb:TypeId} {L:List (String × DataW Unit)} (own:ownKnob C.prog.godebug = none) (started:os.Started) (noInit:C.prog.inits.idxOf? f = none) (hfn:C.prog.funcs[f]? = some fn)
  (hl:laidOutB C.prog = true) (hrt:fn.resultTypes = #[tb]) (hub:C.prog.underlying tb = some .bool) (hpar:(fn.params.toList.all fun t=>C.prog.readableRec t && decide (t < C.prog.types.size)) = true) (hvars:s.vars = [])
  (hspec:∀ ds:List (DataW H),ds.length = fn.params.toList.length → s.fn H ds = { results:=[.lit (.bool true)],args:=ds })
  (witness:∃ (w:World) (tape:Tape) (i:Input),w.os = os ∧ (w.forCall tape i).Shaped C.prog ∧ i.vars = [] ∧ Input.okWide C.prog (w.forCall tape i) .any w.heap.size f i ∧
   ((s.pre enc C.prog fn [] false (w.forCall tape i).memory i.args ∧ laidMetH C.prog L (w.forCall tape i).memory) ∧ sizedMet enc C.prog fn (OpenSpec.ofChange s) false (w.forCall tape i).memory i.args) ∧ ({}:Assume).holds C.prog (lone (Frame.enter C.prog f i.args .normal) [] (w.forCall tape i)))
  (contract:∀ (W:World) (base:Nat) (args:List Value) (ds:List (DataW H)) (p:List MemPlace),(∀ (j:Nat) t v,fn.params.toList[j]? = some t → args[j]? = some v → Value.okWide C.prog W .any base t v) →
   DataW.TrodAll enc C.prog W 0 (fun _=>true) true fn.params.toList args ds p → (DataW.weightsEach C.prog fn.params.toList ds).all (· ≤ reachBytes) = true → (∀ x ∈ p,x.block < W.heap.size) →
   laidMetH C.prog L W →
   callM C.prog f args.toArray (fun v W'=>v = .bool true ∧ Below W.heap.size W W') W) :
  ReturnsInHanded {} C os f .any (fun w args=>(s.pre enc C.prog fn [] false w args ∧ laidMetH C.prog L w) ∧ sizedMet enc C.prog fn (OpenSpec.ofChange s) false w args)
   (s.post enc C.prog fn false true false false):=by
 refine returnsInHanded_of_change_and (X:=fun w _=>laidMetH C.prog L w) (fun _ _ _ hh h=>h.of_heap hh) own started noInit hfn witness ?_
 intro W base args ds gs before hval hW _ hsz hX _
 have hW0:=hW
 have hlt:=hW.lt
 obtain ⟨p,q,hA,hV,rfl,_,_⟩:=hW
 rw [hvars] at hV
 obtain ⟨rfl,rfl⟩:=trodVars_none hV
 have hsz':(DataW.weightsEach C.prog fn.params.toList ds).all (· ≤ reachBytes) = true:=by
  simpa [hvars,ChangeSpec.plain,DataSpec.varTypes] using hsz
 have hc:=contract W base args.toList ds p (fun j t v h1 h2=>hval j t v (by simpa using h1) (by simpa using h2)) hA hsz' (fun x hx=>hlt x (by simp [hx])) hX
 refine hc.mono fun e W' h=>?_
 obtain ⟨v,rfl,rfl,hb⟩:=h
 exact ⟨_,rfl,law_post hl hrt hub hpar hvars hspec hW0 hb⟩
end
end Go.Sh
namespace Go.Sh
open Go Go.ChangeShapes Go.WideShapes Go.ChangeAt Go.RowKit Go.Deep
section
variable {H:Type} {enc:TypeId × Value → H} {P:Program} {w:World} {sp:Nat → Bool} {hd:Bool}
theorem addr_add' (b o k:Nat):(⟨b,o,none⟩:Addr).add k = ⟨b,o + k,none⟩:=by
 unfold Addr.add
 split
 ·rename_i h; rw [h]; rfl
 ·rfl
theorem cell_lt {a:Addr} {v:Value} (h:w.cell? a = some v):a.block < w.heap.size ∧ a.spot = none:=by
 unfold World.cell? at h
 split at h
 ·rename_i c t f hh
  refine ⟨(Array.getElem?_eq_some_iff.1 hh).1,?_⟩
  split at h
  ·cases h
  ·rename_i hs
   cases hsp:a.spot with
   | none=>rfl
   | some x=>rw [hsp] at hs; exact absurd rfl hs
 ·cases h
theorem open_fields {e:TypeId} {fs:Array Field} {n:Nat} {cs:List Value} {D:DataW H × List MemPlace} (he:P.underlying e = some (.struct fs)) (hone:oneCellFields P fs = true) (hC:P.cellsOf e = fs.size)
  (h:DataW.trod enc P w 0 sp hd n e cs = some D) :
  cs.length = fs.size ∧ ∀ (j:Nat) (f:Field),fs[j]? = some f → ∃ (v:Value) (y:DataW H × List MemPlace) (m:Nat),cs[j]? = some v ∧ DataW.trod enc P w 0 sp hd m f.type [v] = some y:=by
 obtain ⟨xs,m,_,_,hcl,hxl,hf⟩:=DataW.trod_struct he h
 rw [hC] at hcl
 refine ⟨hcl,fun j f hj=>?_⟩
 obtain ⟨ho,hk⟩:=hone_of hone j f hj
 have hjl:j < fs.size:=(Array.getElem?_eq_some_iff.1 hj).1
 have h1:=hf j f hj
 rw [ho,hk,List.drop_eq_getElem_cons (by omega),List.getElem?_eq_getElem (by omega:j < xs.length)] at h1
 exact ⟨_,_,m,List.getElem?_eq_getElem (by omega),h1⟩
end
end Go.Sh
namespace Go.Sh
open Go Go.ChangeShapes Go.WideShapes Go.ChangeAt Go.RowKit Go.Deep
section
variable {H:Type} {enc:TypeId × Value → H} {P:Program} {w:World} {sp:Nat → Bool} {hd:Bool}
theorem rowOpen {α:Type} (mk:α → Value) (Q:α → Prop) {t e:TypeId} {v:Value} {n:Nat} {D:DataW H × List MemPlace} (ht:P.underlying t = some (.slice e)) (hC:P.cellsOf e = 1)
  (hrd:∀ (V:Value) (n:Nat) (D:DataW H × List MemPlace),DataW.trod enc P w 0 sp hd n e [V] = some D → ∃ x,V = mk x ∧ Q x) (h:DataW.trod enc P w 0 sp hd n t [v] = some D) :
  ∃ l:List α,(∃ ad c,v = .slice ad l.length c ∧ (l = [] ∨ ∃ b o,ad = some ⟨b,o,none⟩ ∧ b < w.heap.size ∧ ∀ (i:Nat) (h:i < l.length),w.cell? ⟨b,o + i,none⟩ = some (mk l[i]))) ∧ l.length ≤ maxLen ∧ ∀ x ∈ l,Q x:=by
 rcases open_slice1 ht hC h with ⟨hcs,_⟩ | ⟨a',len,cap,m,n',V,D',Pl,hcs,_,hl,hm,hmm,_,hi⟩
 ·simp only [List.cons.injEq,and_true] at hcs
  subst hcs
  exact ⟨[],⟨none,0,rfl,.inl rfl⟩,by simp,by simp⟩
 ·simp only [List.cons.injEq,and_true] at hcs
  subst hcs
  have hml:len ≤ m:=by rw [hmm]; split <;> omega
  have key:∀ i:Fin len,∃ x,V i = mk x ∧ Q x:=fun i=>hrd _ _ _ (hi i (by have:=i.2; omega)).2
  refine ⟨List.ofFn (fun i=>(key i).choose),⟨some a',cap,by rw [List.length_ofFn],?_⟩,by rw [List.length_ofFn]; omega,?_⟩
  ·by_cases h0:len = 0
   ·left; subst h0; rfl
   ·right
    have h00:=(hi 0 (by omega)).1
    have e0:a'.add 0 = a':=by simp [Addr.add]
    rw [e0] at h00
    obtain ⟨hb,hs⟩:=cell_lt h00
    obtain ⟨b,o,s⟩:=a'
    simp only at hs hb
    subst hs
    refine ⟨b,o,rfl,hb,fun i hil=>?_⟩
    rw [List.length_ofFn] at hil
    have h1:=(hi i (by omega)).1
    rw [addr_add'] at h1
    rw [h1,List.getElem_ofFn]
    have:=(key ⟨i,hil⟩).choose_spec.1
    exact congrArg some this
  ·intro x hx
   rw [List.mem_ofFn] at hx
   obtain ⟨i,rfl⟩:=hx
   exact (key i).choose_spec.2
end
end Go.Sh
namespace Go.Proofs
open Go Go.Sh Go.RowKit Go.Lib CodeSpec TkSpec FdSpec Go.ChangeShapes Go.WideShapes Go.ChangeAt Go.Deep
abbrev laidList:List (String × DataW Unit):=YtpfjmfgnlpnflaaGreatDoor.Rows.ticketHonestRow.laid
abbrev lname (i:Nat):String:=(laidList.map (·.1)).getD i default
theorem var_of_laid {W:World} {nm:String} {d:DataW Unit} (hf:(laidList.filter fun x=>x.1 == nm) = [(nm,d)]) (h:laidMetH Tryz.prog laidList W):laidMet Tryz.prog [(nm,d)] W:=by
 rw [MakeChecks.laidMetH_plain _ _ _ (by kernel_rfl)] at h
 have:=h.filter (fun x=>x.1 == nm)
 rwa [hf] at this
theorem tab_laid {W:World} (h:laidMetH Tryz.prog laidList W):TabIs Tryz.prog W tabName .u64 pow10Tab:=
 tabIs_of_head (rest:=[]) (t:=245) (e:=139) (n:=20) Cd.gTab (by kernel_rfl) Tryz.underlying245 Tryz.underlying139 (by kernel_rfl) (by kernel_rfl)
  (var_of_laid (d:=tabData .u64 pow10Tab) (by kernel_rfl) h)
theorem gDb:Tryz.prog.globalNamed (lname 1) = some 2:=by kernel_rfl
theorem db_laid {W:World} (h:laidMetH Tryz.prog laidList W):TabIs Tryz.prog W (lname 1) .u8 (Lib.deBruijn64tab.map (fun n:Nat=>(n:Int))):=
 tabIs_of_head (rest:=[]) (t:=243) (e:=5) (n:=64) gDb (by kernel_rfl) Tryz.underlying243 Tryz.underlying5 (by kernel_rfl) (by kernel_rfl)
  (var_of_laid (d:=tabData .u8 (Lib.deBruijn64tab.map (fun n:Nat=>(n:Int)))) (by kernel_rfl) h)
theorem db_of {W:World} (h:laidMetH Tryz.prog laidList W):DbT W:=by
 have ht:=db_laid h
 have hl:(Lib.deBruijn64tab.map (fun n:Nat=>(n:Int))).length = 64:=by decide +kernel
 have hc:∀ j,j < 64 → W.cell? ⟨2,j,none⟩ = some (.int .u8 (Lib.deBruijn64tab.getD j 0:Nat)):=fun j hj=>by
  rw [ht.cell gDb j (by omega)]
  have:(Lib.deBruijn64tab.map (fun n:Nat=>(n:Int))).getD j 0 = ((Lib.deBruijn64tab.getD j 0:Nat):Int):=by
   rw [List.getD_eq_getElem?_getD,List.getD_eq_getElem?_getD,List.getElem?_map]
   cases Lib.deBruijn64tab[j]? <;> rfl
  rw [this]
 refine ⟨?_,hc⟩
 have h0:=hc 0 (by omega)
 by_cases hlt:2 < W.heap.size
 ·exact hlt
 ·unfold World.cell? at h0
  rw [Array.getElem?_eq_none (by show W.heap.size ≤ 2; omega)] at h0
  simp at h0
theorem heap8 {W:World} (h:laidMetH Tryz.prog laidList W):8 ≤ W.heap.size:=by
 obtain ⟨ps,⟨g0,t0,cs0,f0,p0,q0,hg0,ht0,hv0,hd0,_,_⟩,_,_⟩:=var_of_laid (nm:=lname 0) (d:=YtpfjmfgnlpnflaaGreatDoor.Rows.laid_math_bits_deBruijn32tab) (by kernel_rfl) h
 have hg:Tryz.prog.globalNamed (lname 0) = some 7:=by kernel_rfl
 unfold World.var? at hv0
 rw [hg] at hv0
 simp only [Option.bind_some] at hv0
 split at hv0
 ·rename_i cs t f hh
  have:=(Array.getElem?_eq_some_iff.1 hh).1
  omega
 ·cases hv0
theorem laid_of {W:World} (h:laidMetH Tryz.prog laidList W):Cd.Laid W:=⟨tab_laid h,heap8 h⟩
theorem ba_of1 (s:ByteArray):s = ⟨s.data.toList.toArray⟩:=by cases s; rfl
theorem ba_len (s:ByteArray):s.data.toList.length = s.size:=by simp
theorem own:ownKnob Tryz.prog.godebug = none:=by kernel_rfl
theorem laidOut:laidOutB Tryz.prog = true:=by kernel_rfl
theorem door_met (os:Os) (args:Array Value):laidMetH Tryz.prog laidList ((World.doorLaid Tryz.prog 400 os).forCall (fun _ _=>0) ⟨#[],args,[]⟩).memory:=
 laidMetH_of_parts3 (fuel:=8) (laidMet_of_run' 8 (by kernel_rfl) (by kernel_rfl)) (by kernel_rfl) (by kernel_rfl)
theorem intR {n:Int} (h:(Lit.int .i64 n).wf = true):I64 n:=by
 simp only [Lit.wf,Bool.and_eq_true,decide_eq_true_eq] at h
 exact (InR_iff n).1 h
section
variable {H:Type} {enc:TypeId × Value → H} {w:World} {sp:Nat → Bool} {hd:Bool}
theorem ints_of_row {v:Value} {l:List Int} (h:∃ ad c,v = .slice ad l.length c ∧ (l = [] ∨ ∃ b o,ad = some ⟨b,o,none⟩ ∧ b < w.heap.size ∧ ∀ (i:Nat) (h:i < l.length),w.cell? ⟨b,o + i,none⟩ = some (Value.int .i64 l[i]))) (h0:∀ c,v = .slice none l.length c → l.length = 0 ∧ c = 0) (hl:l.length ≤ maxLen) (hr:∀ x ∈ l,I64 x):Ints w v l:=by
 obtain ⟨ad,c,rfl,h⟩:=h
 refine ⟨⟨ad,c,rfl,fun e=>?_,?_⟩,hr,hl⟩
 ·subst e
  exact h0 c rfl
 ·rcases h with h | ⟨b,o,rfl,hlt,hc⟩
  ·exact .inl h
  ·refine .inr ⟨b,o,rfl,hlt,fun k x hk=>?_⟩
   rw [flat_int] at hk
   obtain ⟨hk1,hk2⟩:=List.getElem?_eq_some_iff.1 hk
   have hk1:k < l.length:=by rw [List.length_map] at hk1; exact hk1
   rw [hc k hk1,← hk2,List.getElem_map]
theorem nil_len {t:TypeId} {n m:Nat} {c:Nat} {D:DataW H × List MemPlace} (ht:Tryz.prog.underlying t = some (.slice 3)) (h:DataW.trod enc Tryz.prog w 0 sp hd n t [.slice none m c] = some D):m = 0 ∧ c = 0:=by
 rcases open_slice1 ht (by kernel_rfl) h with ⟨hcs,_⟩ | ⟨a',len,cap,m,n',V,D',Pl,hcs,_⟩
 ·simp only [List.cons.injEq,and_true,Value.slice.injEq] at hcs
  exact hcs.2
 ·simp only [List.cons.injEq,and_true,Value.slice.injEq] at hcs
  exact absurd hcs.1 (by simp)
theorem open_ints {v:Value} {n:Nat} {D:DataW H × List MemPlace} (h:DataW.trod enc Tryz.prog w 0 sp hd n 22 [v] = some D):∃ l,Ints w v l:=by
 have h':=h
 obtain ⟨l,h1,h2,h3⟩:=rowOpen (Value.int .i64) I64 Tryz.underlying22 (by kernel_rfl) (fun V n D h=>by
  obtain ⟨k,e,_,hw⟩:=DataW.trod_int Tryz.underlying3 h
  simp only [List.cons.injEq,and_true] at e
  exact ⟨k,e,intR hw⟩) h
 exact ⟨l,ints_of_row h1 (fun c e=>by subst e; exact nil_len Tryz.underlying22 h') h2 h3⟩
theorem open_list {b0:Nat} {v:Value} {d:DataW H} {ps:List MemPlace} (hval:Value.okWide Tryz.prog w .any b0 22 v) (h:DataW.Trod enc Tryz.prog w 0 sp hd 22 v d ps):∃ l,Ints w v l:=by
 obtain ⟨a,n,c,rfl⟩:=okWide_slice Tryz.underlying22 hval
 obtain ⟨fu,hf⟩:=h
 exact open_ints hf
theorem open_grp {cs:List Value} {n:Nat} {D:DataW H × List MemPlace} (h:DataW.trod enc Tryz.prog w 0 sp hd n 30 cs = some D):∃ g:Grp,cs = [.int .i64 g.P,.int .i64 g.Q,.int .i64 g.G] ∧ GrpR g:=by
 obtain ⟨hcl,hf⟩:=open_fields Tryz.underlying30 (by kernel_rfl) (by kernel_rfl) h
 obtain ⟨v0,y0,m0,c0,f0⟩:=hf 0 _ rfl
 obtain ⟨v1,y1,m1,c1,f1⟩:=hf 1 _ rfl
 obtain ⟨v2,y2,m2,c2,f2⟩:=hf 2 _ rfl
 obtain ⟨k0,e0,_,w0⟩:=DataW.trod_int Tryz.underlying3 f0
 obtain ⟨k1,e1,_,w1⟩:=DataW.trod_int Tryz.underlying3 f1
 obtain ⟨k2,e2,_,w2⟩:=DataW.trod_int Tryz.underlying3 f2
 simp only [List.cons.injEq,and_true] at e0 e1 e2
 have h6:cs.length = 3:=hcl
 refine ⟨⟨k0,k1,k2⟩,?_,⟨intR w0,intR w1,intR w2⟩⟩
 match cs,h6 with
 | [x0,x1,x2],_=>
  simp only [List.getElem?_cons_zero,List.getElem?_cons_succ,Option.some.injEq] at c0 c1 c2
  rw [c0,c1,c2,e0,e1,e2]
theorem cells_stp:Tryz.prog.cellsOf 32 = 5:=by kernel_rfl
theorem cells_grp:Tryz.prog.cellsOf 30 = 3:=by kernel_rfl
theorem cells_ints:Tryz.prog.cellsOf 22 = 1:=by kernel_rfl
theorem cells_int:Tryz.prog.cellsOf 3 = 1:=by kernel_rfl
theorem open_stp {b0:Nat} {v:Value} {d:DataW H} {ps:List MemPlace} (hT:DbT w) (hval:Value.okWide Tryz.prog w .any b0 32 v) (h:DataW.Trod enc Tryz.prog w 0 sp hd 32 v d ps):∃ s x,v = stpV s x ∧ SetR w s x:=by
 obtain ⟨cs,rfl,hs⟩:=okWide_struct Tryz.underlying32 hval
 obtain ⟨fuel,hf⟩:=h
 have hf:DataW.trod enc Tryz.prog w 0 sp hd fuel 32 cs.toList = some (d,ps):=hf
 obtain ⟨xs,m,_,_,hcl,hxl,hf⟩:=DataW.trod_struct Tryz.underlying32 hf
 rw [cells_stp] at hcl
 have hcs:cs = cs.toList.toArray:=by simp
 rw [hcs]
 clear hs hcs
 generalize cs.toList = l at *
 have hxl:xs.length = 3:=hxl
 match l,hcl,xs,hxl with
 | [x0,x1,x2,x3,x4],_,[y0,y1,y2],_=>
  have f0:DataW.trod enc Tryz.prog w 0 sp hd m 30 (([x0,x1,x2,x3,x4].drop 0).take (Tryz.prog.cellsOf 30)) = some y0:=hf 0 _ rfl
  have f1:DataW.trod enc Tryz.prog w 0 sp hd m 22 (([x0,x1,x2,x3,x4].drop 3).take (Tryz.prog.cellsOf 22)) = some y1:=hf 1 _ rfl
  have f2:DataW.trod enc Tryz.prog w 0 sp hd m 3 (([x0,x1,x2,x3,x4].drop 4).take (Tryz.prog.cellsOf 3)) = some y2:=hf 2 _ rfl
  rw [cells_grp] at f0
  rw [cells_ints] at f1
  rw [cells_int] at f2
  obtain ⟨g,eg,hg⟩:=open_grp f0
  obtain ⟨l3,h3⟩:=open_ints f1
  obtain ⟨k4,e4,_,w4⟩:=DataW.trod_int Tryz.underlying3 f2
  simp only [List.drop_zero,List.take_succ_cons,List.take_zero,List.drop_succ_cons,List.cons.injEq,and_true] at eg e4
  obtain ⟨e0,e1,e2⟩:=eg
  exact ⟨⟨g,l3,k4⟩,x3,by rw [e0,e1,e2,e4],⟨hg,h3,intR w4,hT⟩⟩
theorem open_bld {b0:Nat} {v:Value} {d:DataW H} {ps:List MemPlace} (hval:Value.okWide Tryz.prog w .any b0 45 v) (h:DataW.Trod enc Tryz.prog w 0 sp hd 45 v d ps):∃ b x,v = bldV b x ∧ BldR w b x:=by
 obtain ⟨cs,rfl,hs⟩:=okWide_struct Tryz.underlying45 hval
 obtain ⟨fuel,hf⟩:=h
 obtain ⟨hcl,hf⟩:=open_fields Tryz.underlying45 (by kernel_rfl) (by kernel_rfl) hf
 obtain ⟨v0,y0,m0,c0,f0⟩:=hf 0 _ rfl
 obtain ⟨v1,y1,m1,c1,f1⟩:=hf 1 _ rfl
 obtain ⟨v2,y2,m2,c2,f2⟩:=hf 2 _ rfl
 obtain ⟨v3,y3,m3,c3,f3⟩:=hf 3 _ rfl
 obtain ⟨k0,e0,_,w0⟩:=DataW.trod_int Tryz.underlying3 f0
 obtain ⟨k1,e1,_,w1⟩:=DataW.trod_int Tryz.underlying3 f1
 obtain ⟨k2,e2,_,w2⟩:=DataW.trod_int Tryz.underlying3 f2
 obtain ⟨l3,h3⟩:=open_ints f3
 simp only [List.cons.injEq,and_true] at e0 e1 e2
 refine ⟨⟨k0,k1,k2,l3⟩,v3,?_,⟨intR w0,intR w1,intR w2,h3⟩⟩
 have h6:cs.toList.length = 4:=hcl
 have c0:cs.toList[0]? = some v0:=c0
 have c1:cs.toList[1]? = some v1:=c1
 have c2:cs.toList[2]? = some v2:=c2
 have c3:cs.toList[3]? = some v3:=c3
 have hcs:cs = cs.toList.toArray:=by simp
 rw [hcs]
 clear hs hcs
 generalize cs.toList = l at *
 match l,h6 with
 | [x0,x1,x2,x3],_=>
  simp only [List.getElem?_cons_zero,List.getElem?_cons_succ,Option.some.injEq] at c0 c1 c2 c3
  rw [c0,c1,c2,c3,e0,e1,e2]
theorem open_mir {n:Nat} {cs:List Value} {D:DataW H × List MemPlace} (h:DataW.trod enc Tryz.prog w 0 sp hd n 24 cs = some D):∃ m v,cs = [v,.int .i64 m.blind] ∧ MirR w m v:=by
 obtain ⟨hcl,hf⟩:=open_fields Tryz.underlying24 (by kernel_rfl) (by kernel_rfl) h
 obtain ⟨v0,y0,m0,c0,f0⟩:=hf 0 _ rfl
 obtain ⟨v1,y1,m1,c1,f1⟩:=hf 1 _ rfl
 obtain ⟨l0,h0⟩:=open_ints f0
 obtain ⟨k1,e1,_,w1⟩:=DataW.trod_int Tryz.underlying3 f1
 simp only [List.cons.injEq,and_true] at e1
 have h6:cs.length = 2:=hcl
 refine ⟨⟨l0,k1⟩,v0,?_,⟨h0,intR w1⟩⟩
 match cs,h6 with
 | [x0,x1],_=>
  simp only [List.getElem?_cons_zero,List.getElem?_cons_succ,Option.some.injEq] at c0 c1
  rw [c0,c1,e1]
end
end Go.Proofs
namespace Go.Proofs
open Go Go.Sh Go.RowKit Go.Lib CodeSpec TkSpec FdSpec Go.ChangeShapes Go.WideShapes Go.ChangeAt Go.Deep
structure SRow {α:Type} (n:Nat) (At:World → Nat → Nat → α → Prop) (w:World) (v:Value) (l:List α):Prop where
 row:∃ ad c,v = .slice ad l.length c ∧ (l = [] ∨ ∃ b o,ad = some ⟨b,o,none⟩ ∧ b < w.heap.size ∧ ∀ (i:Nat) (h:i < l.length),At w b (o + i * n) l[i])
 len:l.length ≤ 9223372036854775807
section
variable {H:Type} {enc:TypeId × Value → H} {w:World} {sp:Nat → Bool} {hd:Bool}
theorem rowsOpen {P:Program} {α:Type} {n:Nat} {At:World → Nat → Nat → α → Prop} {t e:TypeId} {v:Value} {m0:Nat} {D:DataW H × List MemPlace} (ht:P.underlying t = some (.slice e)) (hC:P.cellsOf e = n) (hn:0 < n)
  (hrd:∀ (cs:List Value) (b p m:Nat) (D:DataW H × List MemPlace),cs.length = n → (∀ (j:Nat) (u:Value),cs[j]? = some u → w.cell? ⟨b,p + j,none⟩ = some u) → DataW.trod enc P w 0 sp hd m e cs = some D → ∃ x,At w b p x)
  (h:DataW.trod enc P w 0 sp hd m0 t [v] = some D):∃ l:List α,SRow n At w v l:=by
 rcases open_slice ht h with ⟨hcs,_⟩ | ⟨a',len,cap,m,n',D',Pl,hcs,_,hl,hm,hmm,_,hi⟩
 ·simp only [List.cons.injEq,and_true] at hcs
  subst hcs
  exact ⟨[],⟨none,0,rfl,.inl rfl⟩,by simp⟩
 ·simp only [List.cons.injEq,and_true] at hcs
  subst hcs
  subst hC
  have hml:len ≤ m:=by rw [hmm]; split <;> omega
  by_cases h0:len = 0
  ·subst h0
   exact ⟨[],⟨some a',cap,rfl,.inl rfl⟩,by simp⟩
  obtain ⟨cs0,hc0,_⟩:=hi 0 (by omega)
  obtain ⟨_,hl0,h00⟩:=World.cells?_some hc0
  have h00:=h00 0 hn
  rw [Nat.zero_mul] at h00
  have e0:(a'.add 0).add 0 = a':=by simp [Addr.add]
  rw [e0,List.getElem?_eq_getElem (by omega)] at h00
  obtain ⟨hb,hs⟩:=cell_lt h00
  obtain ⟨b,o,s⟩:=a'
  simp only at hs hb
  subst hs
  have key:∀ i:Fin len,∃ x,At w b (o + i * P.cellsOf e) x:=fun i=>by
   obtain ⟨cs,hc,ht2⟩:=hi i (by have:=i.2; omega)
   obtain ⟨_,hcl,hat⟩:=World.cells?_some hc
   refine hrd cs b (o + i * P.cellsOf e) _ _ hcl (fun j u hj=>?_) ht2
   have hjl:=(List.getElem?_eq_some_iff.1 hj).1
   have:=hat j (by omega)
   rw [addr_add',addr_add'] at this
   rw [this,hj]
  refine ⟨List.ofFn (fun i=>(key i).choose),⟨some ⟨b,o,none⟩,cap,by rw [List.length_ofFn],.inr ⟨b,o,rfl,hb,fun i hil=>?_⟩⟩,by rw [List.length_ofFn]; simp only [maxLen] at hm; omega⟩
  rw [List.length_ofFn] at hil
  rw [List.getElem_ofFn]
  exact (key ⟨i,hil⟩).choose_spec
theorem open_tktC {n:Nat} {cs:List Value} {D:DataW H × List MemPlace} (h:DataW.trod enc Tryz.prog w 0 sp hd n 41 cs = some D):∃ t:Tkt,cs = tktC t ∧ TktR t:=by
 obtain ⟨hcl,hf⟩:=open_fields Tryz.underlying41 (by kernel_rfl) (by kernel_rfl) h
 obtain ⟨v0,y0,m0,c0,f0⟩:=hf 0 _ rfl
 obtain ⟨v1,y1,m1,c1,f1⟩:=hf 1 _ rfl
 obtain ⟨v2,y2,m2,c2,f2⟩:=hf 2 _ rfl
 obtain ⟨v3,y3,m3,c3,f3⟩:=hf 3 _ rfl
 obtain ⟨v4,y4,m4,c4,f4⟩:=hf 4 _ rfl
 obtain ⟨v5,y5,m5,c5,f5⟩:=hf 5 _ rfl
 obtain ⟨k0,e0,_,w0⟩:=DataW.trod_int Tryz.underlying3 f0
 obtain ⟨k1,e1,_,w1⟩:=DataW.trod_int Tryz.underlying3 f1
 obtain ⟨k2,e2,_,w2⟩:=DataW.trod_int Tryz.underlying3 f2
 obtain ⟨k3,e3,_,w3⟩:=DataW.trod_int Tryz.underlying3 f3
 obtain ⟨k4,e4,_,w4⟩:=DataW.trod_int Tryz.underlying3 f4
 obtain ⟨k5,e5,_,w5⟩:=DataW.trod_int Tryz.underlying3 f5
 simp only [List.cons.injEq,and_true] at e0 e1 e2 e3 e4 e5
 refine ⟨⟨k0,k1,k2,k3,k4,k5⟩,?_,⟨intR w0,intR w1,intR w2,intR w3,intR w4,intR w5⟩⟩
 have h6:cs.length = 6:=hcl
 match cs,h6 with
 | [x0,x1,x2,x3,x4,x5],_=>
  simp only [List.getElem?_cons_zero,List.getElem?_cons_succ,Option.some.injEq] at c0 c1 c2 c3 c4 c5
  rw [c0,c1,c2,c3,c4,c5,e0,e1,e2,e3,e4,e5]
theorem open_offC {n:Nat} {cs:List Value} {D:DataW H × List MemPlace} (h:DataW.trod enc Tryz.prog w 0 sp hd n 37 cs = some D):∃ o:Off,cs = offC o ∧ OffR o:=by
 obtain ⟨hcl,hf⟩:=open_fields Tryz.underlying37 (by kernel_rfl) (by kernel_rfl) h
 obtain ⟨v0,y0,m0,c0,f0⟩:=hf 0 _ rfl
 obtain ⟨v1,y1,m1,c1,f1⟩:=hf 1 _ rfl
 obtain ⟨v2,y2,m2,c2,f2⟩:=hf 2 _ rfl
 obtain ⟨k0,e0,_,w0⟩:=DataW.trod_int Tryz.underlying3 f0
 obtain ⟨k1,e1,_,w1⟩:=DataW.trod_int Tryz.underlying3 f1
 obtain ⟨k2,e2,_,w2⟩:=DataW.trod_int Tryz.underlying3 f2
 simp only [List.cons.injEq,and_true] at e0 e1 e2
 refine ⟨⟨k0,k1,k2⟩,?_,⟨intR w0,intR w1,intR w2⟩⟩
 have h6:cs.length = 3:=hcl
 match cs,h6 with
 | [x0,x1,x2],_=>
  simp only [List.getElem?_cons_zero,List.getElem?_cons_succ,Option.some.injEq] at c0 c1 c2
  rw [c0,c1,c2,e0,e1,e2]
theorem open_spdC {n:Nat} {cs:List Value} {D:DataW H × List MemPlace} (h:DataW.trod enc Tryz.prog w 0 sp hd n 49 cs = some D):∃ (x:Spd) (v:Value),cs = spdC x v ∧ SpdR w x v:=by
 obtain ⟨hcl,hf⟩:=open_fields Tryz.underlying49 (by kernel_rfl) (by kernel_rfl) h
 obtain ⟨v0,y0,m0,c0,f0⟩:=hf 0 _ rfl
 obtain ⟨v1,y1,m1,c1,f1⟩:=hf 1 _ rfl
 obtain ⟨k0,e0,_,w0⟩:=DataW.trod_int Tryz.underlying3 f0
 obtain ⟨l1,h1⟩:=open_ints f1
 simp only [List.cons.injEq,and_true] at e0
 refine ⟨⟨k0,l1⟩,v1,?_,⟨intR w0,h1⟩⟩
 have h6:cs.length = 2:=hcl
 match cs,h6 with
 | [x0,x1],_=>
  simp only [List.getElem?_cons_zero,List.getElem?_cons_succ,Option.some.injEq] at c0 c1
  rw [c0,c1,e0]
theorem cells_off:Tryz.prog.cellsOf 37 = 3:=by kernel_rfl
theorem cells_ses:Tryz.prog.cellsOf 39 = 6:=by kernel_rfl
theorem cells_tkt:Tryz.prog.cellsOf 41 = 6:=by kernel_rfl
theorem cells_spd:Tryz.prog.cellsOf 49 = 2:=by kernel_rfl
theorem cells_str:Tryz.prog.cellsOf 9 = 1:=by kernel_rfl
theorem cells_lnk:Tryz.prog.cellsOf 91 = 9:=by kernel_rfl
theorem open_mirW {b0:Nat} {v:Value} {d:DataW H} {ps:List MemPlace} (hval:Value.okWide Tryz.prog w .any b0 24 v) (h:DataW.Trod enc Tryz.prog w 0 sp hd 24 v d ps):∃ m x,v = mirV m x ∧ MirR w m x:=by
 obtain ⟨cs,rfl,hs⟩:=okWide_struct Tryz.underlying24 hval
 obtain ⟨fuel,hf⟩:=h
 obtain ⟨m,x,e,hm⟩:=open_mir (show DataW.trod enc Tryz.prog w 0 sp hd fuel 24 cs.toList = some (d,ps) from hf)
 refine ⟨m,x,?_,hm⟩
 have hcs:cs = cs.toList.toArray:=by simp
 rw [hcs,e]
theorem open_ses {b0:Nat} {v:Value} {d:DataW H} {ps:List MemPlace} (hval:Value.okWide Tryz.prog w .any b0 39 v) (h:DataW.Trod enc Tryz.prog w 0 sp hd 39 v d ps):∃ s x,v = sesV s x ∧ SesR w s x:=by
 obtain ⟨cs,rfl,hs⟩:=okWide_struct Tryz.underlying39 hval
 obtain ⟨fuel,hf⟩:=h
 have hf:DataW.trod enc Tryz.prog w 0 sp hd fuel 39 cs.toList = some (d,ps):=hf
 obtain ⟨xs,m,_,_,hcl,hxl,hf⟩:=DataW.trod_struct Tryz.underlying39 hf
 rw [cells_ses] at hcl
 have hcs:cs = cs.toList.toArray:=by simp
 rw [hcs]
 clear hs hcs
 generalize cs.toList = l at *
 have hxl:xs.length = 4:=hxl
 match l,hcl,xs,hxl with
 | [x0,x1,x2,x3,x4,x5],_,[y0,y1,y2,y3],_=>
  have f0:DataW.trod enc Tryz.prog w 0 sp hd m 22 (([x0,x1,x2,x3,x4,x5].drop 0).take (Tryz.prog.cellsOf 22)) = some y0:=hf 0 _ rfl
  have f1:DataW.trod enc Tryz.prog w 0 sp hd m 37 (([x0,x1,x2,x3,x4,x5].drop 1).take (Tryz.prog.cellsOf 37)) = some y1:=hf 1 _ rfl
  have f2:DataW.trod enc Tryz.prog w 0 sp hd m 3 (([x0,x1,x2,x3,x4,x5].drop 4).take (Tryz.prog.cellsOf 3)) = some y2:=hf 2 _ rfl
  have f3:DataW.trod enc Tryz.prog w 0 sp hd m 3 (([x0,x1,x2,x3,x4,x5].drop 5).take (Tryz.prog.cellsOf 3)) = some y3:=hf 3 _ rfl
  rw [cells_ints] at f0
  rw [cells_off] at f1
  rw [cells_int] at f2 f3
  obtain ⟨l0,h0⟩:=open_ints f0
  obtain ⟨o,eo,ho⟩:=open_offC f1
  obtain ⟨k2,e2,_,w2⟩:=DataW.trod_int Tryz.underlying3 f2
  obtain ⟨k3,e3,_,w3⟩:=DataW.trod_int Tryz.underlying3 f3
  simp only [List.drop_zero,List.take_succ_cons,List.take_zero,List.drop_succ_cons,List.cons.injEq,and_true] at eo e2 e3 h0
  obtain ⟨eo0,eo1,eo2⟩:=eo
  exact ⟨⟨l0,o,k2,k3⟩,x0,by rw [eo0,eo1,eo2,e2,e3],⟨h0,ho,intR w2,intR w3⟩⟩
def LAt (w:World) (b p:Nat) (x:Lnk):Prop:=∃ av,SpdR w x.spend av ∧ LnkAt w b p x av ∧ TktR x.ticket ∧ x.terms.length ≤ 9223372036854775807
theorem open_lnks {b0:Nat} {v:Value} {d:DataW H} {ps:List MemPlace} (hval:Value.okWide Tryz.prog w .any b0 85 v) (h:DataW.Trod enc Tryz.prog w 0 sp hd 85 v d ps):∃ l,LnkRow w v l:=by
 obtain ⟨a,n,c,rfl⟩:=okWide_slice Tryz.underlying85 hval
 obtain ⟨fuel,hf⟩:=h
 have hf:DataW.trod enc Tryz.prog w 0 sp hd fuel 85 [.slice a n c] = some (d,ps):=hf
 obtain ⟨l,⟨ad,c',e,hr⟩,hlen⟩:=rowsOpen (At:=LAt) Tryz.underlying85 cells_lnk (by decide) (fun cs b p m D hl hc ht=>by
  obtain ⟨xs,m',_,_,hcl,hxl,hf⟩:=DataW.trod_struct Tryz.underlying91 ht
  have hxl:xs.length = 3:=hxl
  match cs,hl,xs,hxl with
  | [x0,x1,x2,x3,x4,x5,x6,x7,x8],_,[y0,y1,y2],_=>
   have f0:DataW.trod enc Tryz.prog w 0 sp hd m' 41 (([x0,x1,x2,x3,x4,x5,x6,x7,x8].drop 0).take (Tryz.prog.cellsOf 41)) = some y0:=hf 0 _ rfl
   have f1:DataW.trod enc Tryz.prog w 0 sp hd m' 49 (([x0,x1,x2,x3,x4,x5,x6,x7,x8].drop 6).take (Tryz.prog.cellsOf 49)) = some y1:=hf 1 _ rfl
   have f2:DataW.trod enc Tryz.prog w 0 sp hd m' 9 (([x0,x1,x2,x3,x4,x5,x6,x7,x8].drop 8).take (Tryz.prog.cellsOf 9)) = some y2:=hf 2 _ rfl
   rw [cells_tkt] at f0
   rw [cells_spd] at f1
   rw [cells_str] at f2
   obtain ⟨t,et,ht⟩:=open_tktC f0
   obtain ⟨x,av,ex,hx⟩:=open_spdC f1
   obtain ⟨s,es,_,hs⟩:=DataW.trod_string Tryz.underlying9 f2
   simp only [List.drop_zero,List.take_succ_cons,List.take_zero,List.drop_succ_cons,List.cons.injEq,and_true] at et ex es
   obtain ⟨t0,t1,t2,t3,t4,t5⟩:=et
   obtain ⟨s0,s1⟩:=ex
   subst s1
   refine ⟨⟨t,x,s.data.toList⟩,x7,hx,⟨?_,?_,?_,?_,?_,?_,?_,?_,?_⟩,ht,?_⟩
   ·rw [← t0]; exact hc 0 _ rfl
   ·rw [← t1]; exact hc 1 _ rfl
   ·rw [← t2]; exact hc 2 _ rfl
   ·rw [← t3]; exact hc 3 _ rfl
   ·rw [← t4]; exact hc 4 _ rfl
   ·rw [← t5]; exact hc 5 _ rfl
   ·rw [← s0]; exact hc 6 _ rfl
   ·exact hc 7 _ rfl
   ·rw [← ba_of1,← es]; exact hc 8 _ rfl
   ·simp only [ba_len]
    simp only [maxLen] at hs
    omega) hf
 rw [e]
 rcases hr with rfl | ⟨b,o,rfl,hb,hc⟩
 ·exact ⟨[],⟨ad,c',rfl,.inl rfl⟩,by simp,by simp,by simp⟩
 ·refine ⟨l,⟨some ⟨b,o,none⟩,c',rfl,.inr ⟨b,o,rfl,hb,fun i hi=>?_⟩⟩,fun x hx=>?_,fun x hx=>?_,hlen⟩
  ·obtain ⟨av,h1,h2,_⟩:=hc i hi
   exact ⟨av,h1,h2⟩
  ·obtain ⟨i,hi,rfl⟩:=List.getElem_of_mem hx
   obtain ⟨_,_,_,h3,_⟩:=hc i hi
   exact h3
  ·obtain ⟨i,hi,rfl⟩:=List.getElem_of_mem hx
   obtain ⟨_,_,_,_,h4⟩:=hc i hi
   exact h4
end
end Go.Proofs
namespace Go.Proofs
open Go Go.Sh Go.RowKit FdSpec TkSpec CodeSpec
section
variable {K:Value → World → Prop} {w w0:World} {L:List (Addr × Value)}
theorem keyM_eq (s:Stp) (x:Int):keyM s x = (elemG s.g x && !decide (x = 1)):=by
 unfold keyM elementsM
 simp [Bool.and_comm]
theorem Key_ok (s:Stp) (x:Int) {v:Value} (hs:SetR w s v) (k:∀ w',Below w.heap.size w w' → K (.bool (validS s && keyM s x)) w'):callM Tryz.prog 118 #[stpV s v,.int .i64 x] K w:=by
 apply sh_118_ok
 unfold sh_118
 obtain ⟨ad,cc,rfl⟩:=hs.ints.isSlice
 refine box_kn (cs:=stpC s (.slice ad s.bases.length cc)) rfl (.start w) fun b W hk hb1 hb=>?_
 rw [keyM_eq] at k
 refine Xa hk.cells ?_
 refine rValidSetup_ok s (hs.next hk.below) (fun w1 h=>?_)
 have hk:=hk.next h
 clear h hb1
 cases hv:validS s with
 | false=>
  rw [hv] at k
  refine Xa0 ?_
  exact k _ hk.below
 | true=>
 rw [hv,Bool.true_and] at k
 refine Xa hk.cells ?_
 refine rElement_ok s.g x hs.grp (fun w2 h=>?_)
 have hk:=hk.next h
 cases he:elemG s.g x with
 | false=>
  rw [he] at k
  refine Xa0 ?_
  exact k _ hk.below
 | true=>
 rw [he,Bool.true_and] at k
 refine Xa0 ?_
 exact k _ hk.below
theorem Blinds_ok (s:Stp) (b:Bld) {v bv:Value} (hv:validS s = true) (hs:SetR w s v) (hb:BldR w b bv) (k:∀ w',Below w.heap.size w w' → K (.bool (blindsM s b)) w'):callM Tryz.prog 108 #[stpV s v,bldV b bv] K w:=by
 apply sh_108_ok
 unfold sh_108
 obtain ⟨ad,cc,rfl⟩:=hs.ints.isSlice
 obtain ⟨yad,yc,rfl⟩:=hb.ys.isSlice
 refine box_kn (cs:=stpC s (.slice ad s.bases.length cc)) rfl (.start w) fun b1 W hk hb1 hbb=>?_
 refine box_kn (cs:=bldC b (.slice yad b.ys.length yc)) rfl hk fun b3 W3 hk hb3 hbb=>?_
 have hq:=validS_Q hv
 have hQR:=hs.grp.2.1
 unfold I64 at hQR
 unfold blindsM at k
 rw [numsM_two,Bool.and_assoc,Bool.and_assoc,Bool.and_assoc] at k
 refine Xa hk.cells ?_
 refine in_ok b.s 1 _ ?_
 rw [in_eq (by omega)]
 cases hn:numsM s 1 [b.s] with
 | false=>
  rw [hn] at k
  refine Xa0 ?_
  exact k _ hk.below
 | true=>
 rw [hn,Bool.true_and] at k
 refine Xa hk.cells ?_
 refine in_ok b.u 1 _ ?_
 rw [in_eq (by omega)]
 cases hn:numsM s 1 [b.u] with
 | false=>
  rw [hn] at k
  refine Xa0 ?_
  exact k _ hk.below
 | true=>
 rw [hn,Bool.true_and] at k
 refine Xa hk.cells ?_
 refine in_ok b.v 0 _ ?_
 rw [in_eq (by omega)]
 cases hn:numsM s 0 [b.v] with
 | false=>
  rw [hn] at k
  refine Xa0 ?_
  exact k _ hk.below
 | true=>
 rw [hn,Bool.true_and] at k
 refine Xa hk.cells ?_
 refine residues_ok s _ (by omega) (hs.next hk.below) (hb.ys.next hk.below) (by omega) (fun w2 h=>?_)
 have k:=k _ (hk.next h).below
 generalize (decide (b.ys.length = s.bases.length) && numsM s 0 b.ys) = r at *
 refine Xa0 ?_
 exact k
theorem number_ok (s:Stp) (t:Tkt) {v:Value} (ht:TktR t) (hs:SetR w s v) (k:∀ w',Below w.heap.size w w' → K (.int .i64 (innerQ s t)) w'):callM Tryz.prog 117 #[stpV s v,tktV t] K w:=by
 apply sh_117_ok
 unfold sh_117
 obtain ⟨ad,c,rfl⟩:=hs.ints.isSlice
 refine box_kn (cs:=stpC s (.slice ad s.bases.length c)) rfl (.start w) fun b W hk hb1 hb=>?_
 refine box_kn (cs:=tktC t) rfl hk fun b2 W2 hk hb2 hbb=>?_
 have hk:=hk.drew
 refine ⟨Nx { W2 with drawn:=W2.drawn + 1 },Below.refl _ _,rfl,?_⟩
 generalize ({ W2 with drawn:=W2.drawn + 1 }:World) = W at hk ⊢
 refine Xc (fun W0 hW0=>(hk.next hW0).cells) ?_
 refine ⟨Nx,monoR (fun v w'=>Ints w' v (innL t)) (fun v w w1 hS h=>h.next hS) ?_ ?_⟩
 ·intro w2 h2
  exact mk5 t.mark t.first t.z t.a t.b ht.mark ht.first ht.z ht.a ht.b (fun v w3 h3 hi=>⟨h2.on h3,h3,hi⟩)
 apply monoE
 ·rintro w2 h2 v2 hi
  exact Cd.qNums_ok (innL t) v2 (Ints.rowOf hi) (fun x hx=>(InR_iff x).2 (innL_all ht x hx)) (by have:=innL_len ht; unfold encNums at this; omega) (fun w3 h3=>⟨h2.on h3,h3,rfl⟩)
 rintro w2 h2 v2 hi _ rfl
 refine rNumber_ok _ _ (by have:=innL_len ht; unfold encNums at this; omega) (fun w4 h4=>?_)
 exact k _ ((hk.next h2).next h4).below
theorem drawn_ok (s:Stp) (o:Off) (b:Bld) {v lv bv:Value} {l:List Int} (ho:OffR o) (hs:SetR w s v) (hl:Ints w lv l) (hb:BldR w b bv) (k:∀ w',Below w.heap.size w w' → K (tktV (askTkt s l o b)) w') :
  callM Tryz.prog 148 #[stpV s v,lv,offV o,bldV b bv] K w:=by
 apply sh_148_ok
 unfold sh_148
 obtain ⟨ad,cc,rfl⟩:=hs.ints.isSlice
 obtain ⟨yad,yc,rfl⟩:=hb.ys.isSlice
 refine box_kn (cs:=stpC s (.slice ad s.bases.length cc)) rfl (.start w) fun b1 W hk hb1 hbb=>?_
 refine box_kn (cs:=offC o) rfl hk fun b2 W2 hk hb2 hbb=>?_
 refine box_kn (cs:=bldC b (.slice yad b.ys.length yc)) rfl hk fun b3 W3 hk hb3 hbb=>?_
 refine alloc_mine (n:=6) al_tkt rfl hk fun g W4 hk hb4 hg=>?_
 clear hb1 hb2 hb3 hb4
 have hk:=hk.drew
 refine ⟨Nx { W4 with drawn:=W4.drawn + 1 },Below.refl _ _,rfl,?_⟩
 generalize ({ W4 with drawn:=W4.drawn + 1 }:World) = W at hk ⊢
 refine Xc (fun W0 hW0=>(hk.next hW0).cells) ?_
 refine ⟨Nx,?_⟩
 apply monoE
 ·intro w1 h1
  exact qMark_ok s (hs.next (hk.next h1).below) (hl.next (hk.next h1).below) (fun w2 h2=>⟨h1.on h2,h2,rfl⟩)
 apply monoE
 ·rintro w1 h1 _ rfl
  exact qpower_ok s _ b.s (hs.next (hk.next h1).below) (fun w2 h2=>⟨h1.on h2,h2,rfl⟩)
 apply monoE
 ·intro w1 h1
  exact qproduct_ok s (hs.next (hk.next h1).below) (hb.ys.next (hk.next h1).below) (fun w2 h2=>⟨h1.on h2,h2,rfl⟩)
 apply monoE
 ·intro w1 h1
  exact qpower_ok s o.z b.s (hs.next (hk.next h1).below) (fun w2 h2=>⟨h1.on h2,h2,rfl⟩)
 repeat (apply monoE; focus (intro w9 h9; (repeat (intro v9 e9; try (obtain rfl:=e9))); (repeat (any_goals ((with_reducible refine oM_gen fun Kv hK=>?_); simp [go_sem,build_t3]; refine hK _ _ ?_; clear hK Kv))); exact ⟨h9,Below.refl _ _,rfl⟩))
 refine monoR (fun v w'=>∃ g2,v = ptr g2 0 ∧ W.heap.size ≤ g2 ∧ Holds w' g2 41 (tktC zT)) (fun v w w1 hS h=>h.imp fun g2 h=>⟨h.1,h.2.1,h.2.2.next hS⟩) ?_ ?_
 ·intro w1 h1
  exact arr_alloc al_tkt (fun g2 w2 h2 hg2 hh=>⟨h1.on h2,h2,g2,rfl,Nat.le_trans h1.size hg2,hh⟩)
 (intro w9 h9; repeat (intro v9 e9; try (obtain rfl:=e9)))
 obtain ⟨g2,rfl,hg2,hh⟩:=e9
 refine arr_store sz_tkt (xs:=tktC ⟨powerG s.g (markM s l).1 b.s,(prodG s.g s.bases b.ys).1,powerG s.g o.z b.s,0,0,0⟩) rfl rfl (tkt_one _) hh rfl (fun w10 hg10 hh=>?_)
 have h10:=grown_below h9 hg10 hg2
 clear hg10 h9
 have h10:=h10.on (.drawn (B:=w10.heap.size))
 have hh:=hh.next (.drawn (B:=w10.heap.size))
 refine ⟨Nx { w10 with drawn:=w10.drawn + 1 },Below.refl _ _,rfl,?_⟩
 generalize ({ w10 with drawn:=w10.drawn + 1 }:World) = W10 at h10 hh ⊢
 refine Xc (fun W0 hW0=>(hk.next (h10.on hW0)).cells) ?_
 refine ⟨Nx,?_⟩
 apply monoE
 ·intro w1 h1
  exact qpower_ok s o.a b.u (hs.next (hk.next (h10.on h1)).below) (fun w2 h2=>⟨h1.on h2,h2,rfl⟩)
 apply monoE
 ·intro w1 h1
  exact qpower_ok s _ b.v (hs.next (hk.next (h10.on h1)).below) (fun w2 h2=>⟨h1.on h2,h2,rfl⟩)
 rintro w1 h1 _ rfl _ rfl
 refine qtimes_ok s _ _ (hs.next (hk.next (h10.on h1)).below) (fun w2 h2=>?_)
 have hh:=(hh.next h1).next h2
 have h10:=(h10.on h1).on h2
 refine Xa0 ?_
 refine arr_set (i:=3) sz_int rfl rfl hh (show 3 < 6 by decide) (fun w10 hg10 hh=>?_)
 have hh:Holds w10 g2 41 (tktC ⟨powerG s.g (markM s l).1 b.s,(prodG s.g s.bases b.ys).1,powerG s.g o.z b.s,timesM s (powerG s.g o.a b.u) [genM s b.v],0,0⟩):=hh
 have h10:=grown_below h10 hg10 hg2
 clear hg10
 have h10:=h10.on (.drawn (B:=w10.heap.size))
 have hh:=hh.next (.drawn (B:=w10.heap.size))
 refine ⟨Nx { w10 with drawn:=w10.drawn + 1 },Below.refl _ _,rfl,?_⟩
 generalize ({ w10 with drawn:=w10.drawn + 1 }:World) = W10 at h10 hh ⊢
 refine Xc (fun W0 hW0=>An2 ((hk.next (h10.on hW0)).cells) ((hh.next hW0).are)) ?_
 refine ⟨Nx,?_⟩
 apply monoE
 ·intro w1 h1
  exact qmul_ok s b.s b.u (hs.next (hk.next (h10.on h1)).below) (fun w2 h2=>⟨h1.on h2,h2,rfl⟩)
 apply monoE
 ·rintro w1 h1 _ rfl
  exact qpower_ok s o.b _ (hs.next (hk.next (h10.on h1)).below) (fun w2 h2=>⟨h1.on h2,h2,rfl⟩)
 apply monoE
 ·intro w1 h1
  exact qpower_ok s _ b.v (hs.next (hk.next (h10.on h1)).below) (fun w2 h2=>⟨h1.on h2,h2,rfl⟩)
 rintro w1 h1 _ rfl _ rfl _ rfl
 refine qtimes_ok s _ _ (hs.next (hk.next (h10.on h1)).below) (fun w2 h2=>?_)
 have hh:=(hh.next h1).next h2
 have h10:=(h10.on h1).on h2
 refine Xa0 ?_
 refine arr_set (i:=4) sz_int rfl rfl hh (show 4 < 6 by decide) (fun w10 hg10 hh=>?_)
 have hh:Holds w10 g2 41 (tktC (askTkt s l o b)):=hh
 have h10:=grown_below h10 hg10 hg2
 have hk:=hk.next h10
 refine Xa hh.are ?_
 exact store_tkt (askTkt s l o b) hk (fun W3 hk hc=>⟨_,by simp [go_sem,hc],k _ hk.below⟩)
end
end Go.Proofs
namespace Go.Proofs
open Go Go.Sh Go.RowKit FdSpec TkSpec CodeSpec
section
variable {K:Value → World → Prop} {w w0:World} {L:List (Addr × Value)}
theorem usable_valid {s:Stp} {l:List Int} (h:(usableM s l).2 = true):validS s = true:=by
 cases hv:validS s with
 | true=>rfl
 | false=>
  unfold usableM markM at h
  rw [hv] at h
  simp at h
theorem local_tktH {K:Value → World → Prop} {T' T2:TypeId} (t:Tkt) (k:∀ b W,Holds W b 41 (tktC t) → Below w.heap.size w W → w.heap.size ≤ b → K (.pointer (some ⟨b,0,none⟩)) W) :
  oM Tryz.prog (.alloc 41) T' [] (fun v w=>oM Tryz.prog (.store 41 (.tmp 0) (.tmp 1)) T2 [v,tktV t] (fun _ w=>K v w) w) w:=
 arr_alloc al_tkt fun gq w3 h3 hgq hh=>arr_store sz_tkt (xs:=tktC t) rfl rfl (tkt_one t) hh rfl fun w4 hg4 hh=>k gq w4 hh (grown_below h3 hg4 hgq) hgq
theorem elements3 (s:Stp) (a b c:Int):elementsM s [a,b,c] = (elemG s.g a && (elemG s.g b && elemG s.g c)):=by
 unfold elementsM; simp
theorem qAsk_ok (s:Stp) (key:Int) (o:Off) (b:Bld) {v lv bv:Value} {l:List Int} (ho:OffR o) (hs:SetR w s v) (hl:Ints w lv l) (hb:BldR w b bv)
  (k:∀ w',Below w.heap.size w w' → K (.tuple #[.int .i64 (askM s key l o b).1,.int .i64 (askM s key l o b).2]) w') :
  callM Tryz.prog 146 #[stpV s v,.int .i64 key,lv,offV o,bldV b bv] K w:=by
 apply sh_146_ok
 unfold sh_146
 obtain ⟨ad,cc,rfl⟩:=hs.ints.isSlice
 have hb':=hb
 obtain ⟨yad,yc,rfl⟩:=hb.ys.isSlice
 refine box_kn (cs:=stpC s (.slice ad s.bases.length cc)) rfl (.start w) fun b1 W hk hb1 hbb=>?_
 refine box_kn (cs:=offC o) rfl hk fun b2 W2 hk hb2 hbb=>?_
 refine box_kn (cs:=bldC b (.slice yad b.ys.length yc)) rfl hk fun b3 W3 hk hb3 hbb=>?_
 clear hb1 hb2 hb3
 have k1:askFine s key l o b = false → ∀ w',Below w.heap.size w w' → K (.tuple #[.int .i64 0,.int .i64 1]) w':=fun hf w' hb=>by
  have:=k w' hb
  have e:askErr s key l o b = 1:=by unfold askErr; rw [hf]; rfl
  unfold askM at this
  rw [e] at this
  exact this
 refine Xa hk.cells ?_
 refine qUsable_ok s (hs.next hk.below) (hl.next hk.below) (fun w1 h=>?_)
 have hk:=hk.next h
 clear h
 cases hu:(usableM s l).2 with
 | false=>
  refine Xa0 ?_
  exact k1 (by unfold askFine; rw [hu]; simp) _ hk.below
 | true=>
 have hv:=usable_valid hu
 refine Xa hk.cells ?_
 refine Key_ok s key (hs.next hk.below) (fun w2 h=>?_)
 have hk:=hk.next h
 clear h
 rw [hv,Bool.true_and]
 cases hke:keyM s key with
 | false=>
  refine Xa0 ?_
  exact k1 (by unfold askFine; rw [hke]; simp) _ hk.below
 | true=>
 refine Xa hk.cells ?_
 refine rElement_ok s.g o.z hs.grp (fun w2 h=>?_)
 have hk:=hk.next h
 clear h
 cases he1:elemG s.g o.z with
 | false=>
  refine Xa hk.cells ?_
  exact k1 (by unfold askFine; rw [elements3,he1]; simp) _ hk.below
 | true=>
 refine Xa hk.cells ?_
 refine rElement_ok s.g o.a hs.grp (fun w2 h=>?_)
 have hk:=hk.next h
 clear h
 cases he2:elemG s.g o.a with
 | false=>
  refine Xa hk.cells ?_
  exact k1 (by unfold askFine; rw [elements3,he2]; simp) _ hk.below
 | true=>
 refine Xa hk.cells ?_
 refine rElement_ok s.g o.b hs.grp (fun w2 h=>?_)
 have hk:=hk.next h
 clear h
 cases he3:elemG s.g o.b with
 | false=>
  refine Xa hk.cells ?_
  exact k1 (by unfold askFine; rw [elements3,he3]; simp) _ hk.below
 | true=>
 by_cases hz1:o.z = 1
 ·refine Xa (An2 hk.cells @hz1) ?_
  exact k1 (by unfold askFine; rw [hz1]; simp) _ hk.below
 refine Xa (An2 hk.cells @hz1) ?_
 refine Blinds_ok s b hv (hs.next hk.below) (hb'.next hk.below) (fun w5 h=>?_)
 have hk:=hk.next h
 clear h
 cases hbl:blindsM s b with
 | false=>
  refine Xa0 ?_
  exact k1 (by unfold askFine; rw [hbl]; simp) _ hk.below
 | true=>
 have fine:askFine s key l o b = true:=by unfold askFine; rw [hu,hke,elements3,he1,he2,he3,hbl,decide_eq_false hz1]; rfl
 clear k1
 refine Xa0 ?_
 have hk:=hk.drew
 refine ⟨Nx { w5 with drawn:=w5.drawn + 1 },Below.refl _ _,rfl,?_⟩
 generalize ({ w5 with drawn:=w5.drawn + 1 }:World) = W at hk ⊢
 refine Xc (fun W0 hW0=>(hk.next hW0).cells) ?_
 refine ⟨Nx,?_⟩
 apply monoE
 ·intro w1 h1
  exact drawn_ok s o b ho (hs.next (hk.next h1).below) (hl.next (hk.next h1).below) (hb'.next (hk.next h1).below) (fun w2 h2=>⟨h1.on h2,h2,rfl⟩)
 rintro w1 h1 _ rfl
 have hk:=hk.next h1
 refine number_ok s _ (askTkt_R s l o b) (hs.next hk.below) (fun w3 h3=>?_)
 have hk:=hk.next h3
 unfold askM askErr askC at k
 rw [if_pos fine] at k
 generalize innerQ s (askTkt s l o b) = q at *
 by_cases hq0:q = 0
 ·rw [if_pos hq0] at k
  refine Xa @hq0 ?_
  exact k _ hk.below
 ·rw [if_neg hq0] at k
  refine Xa (An2 hk.cells @hq0) ?_
  refine qover_ok s q b.u (hs.next hk.below) (fun w4 h4=>?_)
  exact k _ (hk.next h4).below
theorem qFinish_ok (s:Stp) (key r:Int) (o:Off) (b:Bld) {v lv bv:Value} {l:List Int} (ho:OffR o) (hs:SetR w s v) (hl:Ints w lv l) (hb:BldR w b bv)
  (k:∀ w',Below w.heap.size w w' → K (.tuple #[tktV (finishM s key l o b r).1,.int .i64 (finishM s key l o b r).2]) w') :
  callM Tryz.prog 96 #[stpV s v,.int .i64 key,lv,offV o,bldV b bv,.int .i64 r] K w:=by
 apply sh_96_ok
 unfold sh_96
 obtain ⟨ad,cc,rfl⟩:=hs.ints.isSlice
 have hb':=hb
 obtain ⟨yad,yc,rfl⟩:=hb.ys.isSlice
 have k2:∀ w' x,finishM s key l o b r = x → Below w.heap.size w w' → K (.tuple #[tktV x.1,.int .i64 x.2]) w':=fun w' x e hb=>by rw [← e]; exact k w' hb
 clear k
 have hQR:=hs.grp.2.1
 unfold I64 at hQR
 refine box_kn (cs:=stpC s (.slice ad s.bases.length cc)) rfl (.start w) fun b1 W hk hb1 hbb=>?_
 refine box_kn (cs:=offC o) rfl hk fun b2 W2 hk hb2 hbb=>?_
 refine box_kn (cs:=bldC b (.slice yad b.ys.length yc)) rfl hk fun b3 W3 hk hb3 hbb=>?_
 refine alloc_mine (n:=6) al_tkt rfl hk fun g W hk hb4 hg=>?_
 clear hb1 hb2 hb3 hb4
 unfold finishM at k2
 refine Xa hk.cells ?_
 refine qAsk_ok s key o b ho (hs.next hk.below) (hl.next hk.below) (hb'.next hk.below) (fun w2 h2=>?_)
 have hk:=hk.next h2
 clear h2
 unfold askM
 by_cases he:askErr s key l o b = 0
 ·rw [he] at k2 ⊢
  rw [if_pos rfl]
  rw [if_neg (by decide)] at k2
  have hv:validS s = true:=by
   unfold askErr at he
   split at he
   ·rename_i hf
    unfold askFine at hf
    simp only [Bool.and_eq_true] at hf
    exact usable_valid hf.1.1.1.1
   ·cases he
  have hq:=validS_Q hv
  refine Xa hk.cells ?_
  refine in_ok r 0 _ ?_
  rw [in_eq (by omega)]
  cases hn:numsM s 0 [r] with
  | false=>
   rw [hn] at k2
   have k2:=fun w'=>k2 w' _ rfl
   refine Xa (An2 hk.cells @build_tkt0) ?_
   exact store_tkt zT hk (fun W3 hk hc=>⟨_,by simp [go_sem,hc],k2 _ hk.below⟩)
  | true=>
  rw [hn,if_neg (by decide)] at k2
  refine Xa0 ?_
  have hk:=hk.drew
  refine ⟨Nx { w2 with drawn:=w2.drawn + 1 },Below.refl _ _,rfl,?_⟩
  generalize ({ w2 with drawn:=w2.drawn + 1 }:World) = W at hk ⊢
  refine Xc (fun W0 hW0=>(hk.next hW0).cells) ?_
  refine ⟨Nx,?_⟩
  apply monoE
  ·intro w1 h1
   exact qpower_ok s _ r (hs.next (hk.next h1).below) (fun w2 h2=>⟨h1.on h2,h2,rfl⟩)
  apply monoE
  ·intro w1 h1
   exact qpower_ok s _ _ (hs.next (hk.next h1).below) (fun w2 h2=>⟨h1.on h2,h2,rfl⟩)
  rintro w1 h1 _ rfl _ rfl
  have hk:=hk.next h1
  clear h1
  refine qtimes_ok s _ _ (hs.next hk.below) (fun w3 h3=>?_)
  have hk:=hk.next h3
  clear h3
  have es:signedM s key (usableM s l).1 (askC s l o b) r o = (decide (powerG s.g s.g.G r = timesM s (powerG s.g key (askC s l o b)) [o.a]) && decide (powerG s.g (markM s l).1 r = timesM s (powerG s.g o.z (askC s l o b)) [o.b])):=rfl
  rw [es] at k2
  clear es
  refine Xa0 ?_
  generalize decide (powerG s.g s.g.G r = timesM s (powerG s.g key (askC s l o b)) [o.a]) = p1 at *
  have hk:=hk.drew
  refine ⟨Nx { w3 with drawn:=w3.drawn + 1 },Below.refl _ _,rfl,?_⟩
  generalize ({ w3 with drawn:=w3.drawn + 1 }:World) = W at hk ⊢
  refine Xc (fun W0 hW0=>(hk.next hW0).cells) ?_
  refine ⟨Nx,?_⟩
  apply monoE
  ·intro w1 h1
   exact qMark_ok s (hs.next (hk.next h1).below) (hl.next (hk.next h1).below) (fun w2 h2=>⟨h1.on h2,h2,rfl⟩)
  apply monoE
  ·rintro w1 h1 _ rfl
   exact qpower_ok s _ r (hs.next (hk.next h1).below) (fun w2 h2=>⟨h1.on h2,h2,rfl⟩)
  apply monoE
  ·intro w1 h1
   exact qpower_ok s _ _ (hs.next (hk.next h1).below) (fun w2 h2=>⟨h1.on h2,h2,rfl⟩)
  rintro w1 h1 _ rfl _ rfl _ rfl
  have hk:=hk.next h1
  clear h1
  refine qtimes_ok s _ _ (hs.next hk.below) (fun w3 h3=>?_)
  have hk:=hk.next h3
  clear h3
  by_cases hp2:powerG s.g (markM s l).1 r = timesM s (powerG s.g o.z (askC s l o b)) [o.b]
  rotate_left
  ·rw [decide_eq_false hp2,Bool.and_false] at k2
   have k2:=fun w'=>k2 w' _ rfl
   cases p1 with
   | false=>
    refine Xa (An3 hk.cells @build_tkt0 @hp2) ?_
    exact store_tkt zT hk (fun W3 hk hc=>⟨_,by simp [go_sem,hc],k2 _ hk.below⟩)
   | true=>
    refine Xa (An3 hk.cells @build_tkt0 @hp2) ?_
    exact store_tkt zT hk (fun W3 hk hc=>⟨_,by simp [go_sem,hc],k2 _ hk.below⟩)
  rw [decide_eq_true hp2,Bool.and_true] at k2
  cases p1 with
  | false=>
   have k2:=fun w'=>k2 w' _ rfl
   refine Xa (An3 hk.cells @build_tkt0 @hp2) ?_
   exact store_tkt zT hk (fun W3 hk hc=>⟨_,by simp [go_sem,hc],k2 _ hk.below⟩)
  | true=>
  rw [if_neg (by decide)] at k2
  have k2:=fun w'=>k2 w' _ rfl
  refine Xa (An2 hk.cells @hp2) ?_
  refine drawn_ok s o b ho (hs.next hk.below) (hl.next hk.below) (hb'.next hk.below) (fun w4 h4=>?_)
  have hk:=hk.next h4
  clear h4
  generalize askTkt s l o b = t at *
  have hglt:=mine_lt hk.mine
  have hcl:=cells_lt hk.cells
  have hk0:=hk.below
  refine local_tktH t fun gq w5 hh h5 hgq=>?_
  have hk:=hk.next h5
  have hgg:gq ≠ g:=by omega
  have hoq:=fun p hp=>Nat.ne_of_lt (Nat.lt_of_lt_of_le (hcl p hp) hgq)
  have hbq:w.heap.size ≤ gq:=by have:=hk0.size; omega
  have hk:=hk.drew
  have hh:=hh.next (.drawn (B:=w5.heap.size))
  refine ⟨Nx { w5 with drawn:=w5.drawn + 1 },Below.refl _ _,rfl,?_⟩
  generalize ({ w5 with drawn:=w5.drawn + 1 }:World) = W at hk hh ⊢
  refine Xc (fun W0 hW0=>(hk.next hW0).cells) ?_
  refine ⟨Nx,?_⟩
  apply monoE
  ·intro w1 h1
   exact qmul_ok s r b.u (hs.next (hk.next h1).below) (fun w2 h2=>⟨h1.on h2,h2,rfl⟩)
  rintro w1 h1 _ rfl
  have hk:=hk.next h1
  have hh:=hh.next h1
  refine rAdd_ok _ _ _ ?_
  refine Xa0 ?_
  refine arr_set (i:=5) sz_int rfl rfl hh (show 5 < 6 by decide) (fun w10 hg10 hh=>?_)
  have hk:=hk.wroteOther hg10 hoq hgg.symm hbq
  have hh:Holds w10 gq 41 (tktC { t with r:=plusQ s (mulQ s r [b.u]) b.v }):=hh
  refine Xa hh.are ?_
  exact store_tkt { t with r:=plusQ s (mulQ s r [b.u]) b.v } hk (fun W3 hk hc=>⟨_,by simp [go_sem,hc],k2 _ hk.below⟩)
 ·rw [if_neg he]
  rw [if_pos he] at k2
  have k2:=fun w'=>k2 w' _ rfl
  refine Xa (An3 hk.cells @he @build_tkt0) ?_
  exact store_tkt zT hk (fun W3 hk hc=>⟨_,by simp [go_sem,hc],k2 _ hk.below⟩)
end
end Go.Proofs
namespace Go.Proofs
open Go.Sh Tryz
def sh_149 (a0 a1:Value) (K:Value → World → Prop) (w:World):Prop:=
 oM prog (.box 30 (.tmp 0)) 0 [a0] (fun v2 w=>
 oM prog (.box 24 (.tmp 0)) 0 [a1] (fun v3 w=>
 oM prog (.alloc 32) 0 [] (fun v4 w=>
 oM prog (.load 30 (.tmp 0)) 30 [v2] (fun v8 w=>
 callM prog 156 #[v8] (fun v9 w=>
 oM prog (.unOp .not 4 (.tmp 0)) 4 [v9] (fun v10 w=>
 gdM (gd v10 false) (oM prog (.fieldAddr 24 (.tmp 0) 0) 0 [v3]) (fun v12 w=>
 gdM (gd v10 false) (oM prog (.load 22 (.tmp 0)) 22 [v12]) (fun v13 w=>
 gdM (gd v10 false) (oM prog (.call (Go.Call.mk (.builtin .len) #[(.tmp 0)] #[22])) 3 [v13]) (fun v14 w=>
 gdM (gd v10 false) (oM prog (.binOp .lss 3 (.tmp 0) (.tmp 1) 3) 4 [v14,(.int .i64 2)]) (fun v15 w=>
 oM prog (.pick (.tmp 0) (.tmp 1) (.tmp 2)) 4 [v10,(.bool true),v15] (fun v16 w=>
 gdM (gd v16 false) (oM prog (.fieldAddr 24 (.tmp 0) 0) 0 [v3]) (fun v18 w=>
 gdM (gd v16 false) (oM prog (.load 22 (.tmp 0)) 22 [v18]) (fun v19 w=>
 gdM (gd v16 false) (oM prog (.call (Go.Call.mk (.builtin .len) #[(.tmp 0)] #[22])) 3 [v19]) (fun v20 w=>
 gdM (gd v16 false) (oM prog (.binOp .gtr 3 (.tmp 0) (.tmp 1) 3) 4 [v20,(.int .i64 7)]) (fun v21 w=>
 oM prog (.pick (.tmp 0) (.tmp 1) (.tmp 2)) 4 [v16,(.bool true),v21] (fun v22 w=>
 gdM (gd v22 false) (oM prog (.fieldAddr 24 (.tmp 0) 1) 0 [v3]) (fun v24 w=>
 gdM (gd v22 false) (oM prog (.load 3 (.tmp 0)) 3 [v24]) (fun v25 w=>
 gdM (gd v22 false) (oM prog (.binOp .lss 3 (.tmp 0) (.tmp 1) 3) 4 [v25,(.int .i64 1)]) (fun v26 w=>
 oM prog (.pick (.tmp 0) (.tmp 1) (.tmp 2)) 4 [v22,(.bool true),v26] (fun v27 w=>
 gdM (gd v27 false) (oM prog (.fieldAddr 24 (.tmp 0) 1) 0 [v3]) (fun v29 w=>
 gdM (gd v27 false) (oM prog (.load 3 (.tmp 0)) 3 [v29]) (fun v30 w=>
 gdM (gd v27 false) (oM prog (.fieldAddr 30 (.tmp 0) 1) 0 [v2]) (fun v31 w=>
 gdM (gd v27 false) (oM prog (.load 3 (.tmp 0)) 3 [v31]) (fun v32 w=>
 gdM (gd v27 false) (oM prog (.binOp .geq 3 (.tmp 0) (.tmp 1) 3) 4 [v30,v32]) (fun v33 w=>
 oM prog (.pick (.tmp 0) (.tmp 1) (.tmp 2)) 4 [v27,(.bool true),v33] (fun v34 w=>
 condM v34
 (oM prog (.build 32 #[]) 32 [] (fun v35 w=>
 oM prog (.store 32 (.tmp 0) (.tmp 1)) 0 [v4,v35] (fun _ w=>
 ∃ r_28,(do loadVar 32 (← asAddr v4):Sem Value).run prog w = .ok r_28 w ∧ K (.tuple #[r_28,(.bool false)]) w) w) w)
 (heldM w (fun C_29 w=>(((true:Bool) = true) ∧ (oH prog (.load 30 (.tmp 0)) 30 [v2] C_29 (fun v36=>
 oH prog (.load 30 (.tmp 0)) 30 [v2] C_29 (fun v37=>
 oH prog (.fieldAddr 30 (.tmp 0) 2) 0 [v2] C_29 (fun v38=>
 oH prog (.load 3 (.tmp 0)) 3 [v38] C_29 (fun v39=>
 oH prog (.fieldAddr 24 (.tmp 0) 1) 0 [v3] C_29 (fun v40=>
 oH prog (.load 3 (.tmp 0)) 3 [v40] C_29 (fun v41=>
 ∃ S_36:World → World → Prop,∃ R_37:Value → World → Prop,(∀ v w w_1,S_36 w w_1 → R_37 v w → R_37 v w_1) ∧
 (∀ w,C_29 w → (callM prog 164 #[v37,v39,v41] (fun v w_1=>C_29 w_1 ∧ S_36 w w_1 ∧ R_37 v w_1) w)) ∧
 (∃ R_38:Value → World → Prop,(∀ v w w_1,S_36 w w_1 → R_38 v w → R_38 v w_1) ∧
 (∀ w,C_29 w → ∀ v42,R_37 v42 w → (oM prog (.build 32 #[(0,(.tmp 0)),(2,(.tmp 1))]) 32 [v36,v42] (fun v w_1=>C_29 w_1 ∧ S_36 w w_1 ∧ R_38 v w_1) w)) ∧
 (∃ R_40:Value → World → Prop,(∀ v w w_1,S_36 w w_1 → R_40 v w → R_40 v w_1) ∧
 (∀ w,C_29 w → (oM prog (.alloc 32) 0 [] (fun v w_1=>C_29 w_1 ∧ S_36 w w_1 ∧ R_40 v w_1) w)) ∧
 (∀ w,C_29 w → ∀ v42,R_37 v42 w → ∀ v43,R_38 v43 w → ∀ v6,R_40 v6 w → (
 oM prog (.store 32 (.tmp 0) (.tmp 1)) 0 [v6,v43] (fun _ w=>
 loopM [(.bool false),(.int .i64 0)] w (fun J_44 m_45 l_46 u_l_46 w0_l_46=>(fun w=>(
 oM prog (.fieldAddr 24 (.tmp 0) 0) 0 [v3] (fun v45 w=>
 oM prog (.load 22 (.tmp 0)) 22 [v45] (fun v46 w=>
 oM prog (.call (Go.Call.mk (.builtin .len) #[(.tmp 0)] #[22])) 3 [v46] (fun v47 w=>
 oM prog (.binOp .lss 3 (.tmp 0) (.tmp 1) 3) 4 [(l_46.getD 1 undef),v47] (fun v48 w=>
 condM v48
 (heldM w (fun C_51 w=>(((true:Bool) = true) ∧ (oH prog (.fieldAddr 24 (.tmp 0) 0) 0 [v3] C_51 (fun v51=>
 oH prog (.load 22 (.tmp 0)) 22 [v51] C_51 (fun v52=>
 pureH (l_46.getD 1 undef) C_51 (fun v53=>
 oH prog (.indexAddr 22 (.tmp 0) (.tmp 1)) 0 [v52,v53] C_51 (fun v54=>
 oH prog (.load 3 (.tmp 0)) 3 [v54] C_51 (fun v55=>
 oH prog (.binOp .lss 3 (.tmp 0) (.tmp 1) 3) 4 [v55,(.int .i64 1)] C_51 (fun v56=>
 pureH v56 C_51 (fun v57=>
 gdH (gd v57 false) (oH prog (.fieldAddr 24 (.tmp 0) 0) 0 [v3]) C_51 (fun v58=>
 gdH (gd v57 false) (oH prog (.load 22 (.tmp 0)) 22 [v58]) C_51 (fun v59=>
 gdH (gd v57 false) (pureH (l_46.getD 1 undef)) C_51 (fun v60=>
 gdH (gd v57 false) (oH prog (.indexAddr 22 (.tmp 0) (.tmp 1)) 0 [v59,v60]) C_51 (fun v61=>
 gdH (gd v57 false) (oH prog (.load 3 (.tmp 0)) 3 [v61]) C_51 (fun v62=>
 gdH (gd v57 false) (oH prog (.fieldAddr 30 (.tmp 0) 1) 0 [v2]) C_51 (fun v63=>
 gdH (gd v57 false) (oH prog (.load 3 (.tmp 0)) 3 [v63]) C_51 (fun v64=>
 gdH (gd v57 false) (oH prog (.binOp .geq 3 (.tmp 0) (.tmp 1) 3) 4 [v62,v64]) C_51 (fun v65=>
 oH prog (.pick (.tmp 0) (.tmp 1) (.tmp 2)) 4 [v57,(.bool true),v65] C_51 (fun v66=>
 ∃ S_68:World → World → Prop,∀ w,C_51 w → (
 condM v66
 (oM prog (.build 32 #[]) 32 [] (fun v67 w=>
 oM prog (.store 32 (.tmp 0) (.tmp 1)) 0 [v4,v67] (fun _ w=>
 ∃ r_70,(do loadVar 32 (← asAddr v4):Sem Value).run prog w = .ok r_70 w ∧ K (.tuple #[r_70,(.bool false)]) w) w) w)
 (heldM w (fun C_71 w=>(((true:Bool) = true) ∧ (oH prog (.fieldAddr 32 (.tmp 0) 1) 0 [v6] C_71 (fun v68=>
 oH prog (.load 22 (.tmp 0)) 22 [v68] C_71 (fun v69=>
 oH prog (.load 30 (.tmp 0)) 30 [v2] C_71 (fun v70=>
 oH prog (.fieldAddr 30 (.tmp 0) 2) 0 [v2] C_71 (fun v71=>
 oH prog (.load 3 (.tmp 0)) 3 [v71] C_71 (fun v72=>
 oH prog (.fieldAddr 24 (.tmp 0) 0) 0 [v3] C_71 (fun v73=>
 oH prog (.load 22 (.tmp 0)) 22 [v73] C_71 (fun v74=>
 pureH (l_46.getD 1 undef) C_71 (fun v75=>
 oH prog (.indexAddr 22 (.tmp 0) (.tmp 1)) 0 [v74,v75] C_71 (fun v76=>
 oH prog (.load 3 (.tmp 0)) 3 [v76] C_71 (fun v77=>
 ∃ S_82:World → World → Prop,∃ R_83:Value → World → Prop,(∀ v w w_1,S_82 w w_1 → R_83 v w → R_83 v w_1) ∧
 (∀ w,C_71 w → (callM prog 164 #[v70,v72,v77] (fun v w_1=>C_71 w_1 ∧ S_82 w w_1 ∧ R_83 v w_1) w)) ∧
 (∃ R_84:Value → World → Prop,(∀ v w w_1,S_82 w w_1 → R_84 v w → R_84 v w_1) ∧
 (∀ w,C_71 w → ∀ v78,R_83 v78 w → (oM prog (.buildSlice 22 1 #[(0,(.tmp 0))]) 22 [v78] (fun v w_1=>C_71 w_1 ∧ S_82 w w_1 ∧ R_84 v w_1) w)) ∧
 (∀ w,C_71 w → ∀ v78,R_83 v78 w → ∀ v79,R_84 v79 w → (
 oM prog (.call (Go.Call.mk (.builtin .append) #[(.tmp 0),(.tmp 1)] #[22,22])) 22 [v69,v79] (fun v80 w=>
 oM prog (.fieldAddr 32 (.tmp 0) 1) 0 [v6] (fun v81 w=>
 oM prog (.store 22 (.tmp 0) (.tmp 1)) 0 [v81,v80] (fun _ w=>
 oM prog (.binOp .add 3 (.tmp 0) (.tmp 1) 3) 3 [(l_46.getD 1 undef),(.int .i64 1)] (fun v50 w=>
 J_44 [(l_46.getD 0 undef),v50] w ∧ m_45 [(l_46.getD 0 undef),v50] w < m_45 l_46 w0_l_46) w) w) w) w))))))))))))))))))))))))))))))))))))))
 (oM prog (.load 32 (.tmp 0)) 32 [v6] (fun v82 w=>
 oM prog (.store 32 (.tmp 0) (.tmp 1)) 0 [v4,v82] (fun _ w=>
 ∃ r_92,(do loadVar 32 (← asAddr v4):Sem Value).run prog w = .ok r_92 w ∧ K (.tuple #[r_92,(.bool true)]) w) w) w)) w) w) w) w)) w0_l_46)) w))))))))))))))) w) w) w) w) w) w) w) w) w) w) w) w) w) w) w) w) w) w) w) w) w) w) w) w) w) w
theorem sh_149_ok {a0 a1:Value} {K:Value → World → Prop} {w:World} (h:sh_149 a0 a1 K w):callM prog 149 #[a0,a1] K w:=
 calls_of_code (fun i=>bif Nat.beq i 3 then .free [0,1,2,3,4,5] [6,7,8] [9] else bif Nat.beq i 7 then .free [0,1,2,3,4,5,6,7,8,9,10,11,12,13,14,15] [] [] else bif Nat.beq i 9 then .free [0,1,2,3,4,5,6,7,8,9] [10,11] [12,13,14] else 0) (fn:=Tryz.f149) (rs:=[.cell 4 32,.tmp 5]) Tryz.func149 rfl rfl (by kernel_rfl) (Nat.le_of_ble_eq_true rfl) (Eq.mp (by kernel_rfl) h)
def sh_97 (a0 a1:Value) (K:Value → World → Prop) (w:World):Prop:=
 oM prog (.box 32 (.tmp 0)) 0 [a0] (fun v2 w=>
 oM prog (.box 24 (.tmp 0)) 0 [a1] (fun v3 w=>
 oM prog (.fieldAddr 32 (.tmp 0) 0) 0 [v2] (fun v8 w=>
 oM prog (.load 30 (.tmp 0)) 30 [v8] (fun v9 w=>
 oM prog (.load 24 (.tmp 0)) 24 [v3] (fun v10 w=>
 callM prog 149 #[v9,v10] (fun v11 w=>
 oM prog (.extract (.tmp 0) 0) 32 [v11] (fun v12 w=>
 oM prog (.extract (.tmp 0) 1) 4 [v11] (fun v13 w=>
 oM prog (.alloc 32) 0 [] (fun v5 w=>
 oM prog (.store 32 (.tmp 0) (.tmp 1)) 0 [v5,v12] (fun _ w=>
 gdM (gd v13 true) (oM prog (.load 32 (.tmp 0)) 32 [v2]) (fun v16 w=>
 gdM (gd v13 true) (oM prog (.load 32 (.tmp 0)) 32 [v5]) (fun v17 w=>
 gdM (gd v13 true) (callM prog 150 #[v16,v17]) (fun v18 w=>
 oM prog (.pick (.tmp 0) (.tmp 1) (.tmp 2)) 4 [v13,v18,(.bool false)] (fun v19 w=>
 K v19 w) w) w) w) w) w) w) w) w) w) w) w) w) w) w
theorem sh_97_ok {a0 a1:Value} {K:Value → World → Prop} {w:World} (h:sh_97 a0 a1 K w):callM prog 97 #[a0,a1] K w:=
 calls_of_code (fun _=>0) (fn:=Tryz.f97) (rs:=[.tmp 4]) Tryz.func97 rfl rfl (by kernel_rfl) (Nat.le_of_ble_eq_true rfl) (Eq.mp (by kernel_rfl) h)
def sh_187 (a0 a1:Value) (K:Value → World → Prop) (w:World):Prop:=
 oM prog (.call (Go.Call.mk (.builtin .len) #[(.tmp 0)] #[22])) 3 [a0] (fun v7 w=>
 oM prog (.call (Go.Call.mk (.builtin .len) #[(.tmp 0)] #[22])) 3 [a1] (fun v9 w=>
 oM prog (.binOp .neq 3 (.tmp 0) (.tmp 1) 3) 4 [v7,v9] (fun v10 w=>
 condM v10
 (K (.bool false) w)
 (loopM [(.bool false),(.int .i64 0)] w (fun J_4 m_5 l_6 u_l_6 w0_l_6=>(fun w=>(
 oM prog (.call (Go.Call.mk (.builtin .len) #[(.tmp 0)] #[22])) 3 [a0] (fun v13 w=>
 oM prog (.binOp .lss 3 (.tmp 0) (.tmp 1) 3) 4 [(l_6.getD 1 undef),v13] (fun v14 w=>
 condM v14
 (heldM w (fun C_9 w=>(((true:Bool) = true) ∧ (pureH a0 C_9 (fun v17=>
 pureH (l_6.getD 1 undef) C_9 (fun v18=>
 oH prog (.indexAddr 22 (.tmp 0) (.tmp 1)) 0 [v17,v18] C_9 (fun v19=>
 oH prog (.load 3 (.tmp 0)) 3 [v19] C_9 (fun v20=>
 pureH a1 C_9 (fun v21=>
 pureH (l_6.getD 1 undef) C_9 (fun v22=>
 oH prog (.indexAddr 22 (.tmp 0) (.tmp 1)) 0 [v21,v22] C_9 (fun v23=>
 oH prog (.load 3 (.tmp 0)) 3 [v23] C_9 (fun v24=>
 oH prog (.binOp .neq 3 (.tmp 0) (.tmp 1) 3) 4 [v20,v24] C_9 (fun v25=>
 ∃ S_19:World → World → Prop,∀ w,C_9 w → (
 condM v25
 (K (.bool false) w)
 (oM prog (.binOp .add 3 (.tmp 0) (.tmp 1) 3) 3 [(l_6.getD 1 undef),(.int .i64 1)] (fun v16 w=>
 J_4 [(l_6.getD 0 undef),v16] w ∧ m_5 [(l_6.getD 0 undef),v16] w < m_5 l_6 w0_l_6) w)))))))))))))))
 (K (.bool true) w)) w) w)) w0_l_6))) w) w) w
theorem sh_187_ok {a0 a1:Value} {K:Value → World → Prop} {w:World} (h:sh_187 a0 a1 K w):callM prog 187 #[a0,a1] K w:=
 calls_of_code (fun _=>.free [0,1,2,3,4,5,6,7,8] [] []) (fn:=Tryz.f187) (rs:=[.tmp 4]) Tryz.func187 rfl rfl (by kernel_rfl) (Nat.le_of_ble_eq_true rfl) (Eq.mp (by kernel_rfl) h)
def sh_150 (a0 a1:Value) (K:Value → World → Prop) (w:World):Prop:=
 oM prog (.box 32 (.tmp 0)) 0 [a0] (fun v2 w=>
 oM prog (.box 32 (.tmp 0)) 0 [a1] (fun v3 w=>
 oM prog (.fieldAddr 32 (.tmp 0) 0) 0 [v2] (fun v5 w=>
 oM prog (.load 30 (.tmp 0)) 30 [v5] (fun v6 w=>
 oM prog (.fieldAddr 32 (.tmp 0) 0) 0 [v3] (fun v7 w=>
 oM prog (.load 30 (.tmp 0)) 30 [v7] (fun v8 w=>
 oM prog (.binOp .eql 30 (.tmp 0) (.tmp 1) 30) 4 [v6,v8] (fun v9 w=>
 gdM (gd v9 true) (oM prog (.fieldAddr 32 (.tmp 0) 2) 0 [v2]) (fun v11 w=>
 gdM (gd v9 true) (oM prog (.load 3 (.tmp 0)) 3 [v11]) (fun v12 w=>
 gdM (gd v9 true) (oM prog (.fieldAddr 32 (.tmp 0) 2) 0 [v3]) (fun v13 w=>
 gdM (gd v9 true) (oM prog (.load 3 (.tmp 0)) 3 [v13]) (fun v14 w=>
 gdM (gd v9 true) (oM prog (.binOp .eql 3 (.tmp 0) (.tmp 1) 3) 4 [v12,v14]) (fun v15 w=>
 oM prog (.pick (.tmp 0) (.tmp 1) (.tmp 2)) 4 [v9,v15,(.bool false)] (fun v16 w=>
 gdM (gd v16 true) (oM prog (.fieldAddr 32 (.tmp 0) 1) 0 [v2]) (fun v18 w=>
 gdM (gd v16 true) (oM prog (.load 22 (.tmp 0)) 22 [v18]) (fun v19 w=>
 gdM (gd v16 true) (oM prog (.fieldAddr 32 (.tmp 0) 1) 0 [v3]) (fun v20 w=>
 gdM (gd v16 true) (oM prog (.load 22 (.tmp 0)) 22 [v20]) (fun v21 w=>
 gdM (gd v16 true) (callM prog 187 #[v19,v21]) (fun v22 w=>
 oM prog (.pick (.tmp 0) (.tmp 1) (.tmp 2)) 4 [v16,v22,(.bool false)] (fun v23 w=>
 K v23 w) w) w) w) w) w) w) w) w) w) w) w) w) w) w) w) w) w) w) w
theorem sh_150_ok {a0 a1:Value} {K:Value → World → Prop} {w:World} (h:sh_150 a0 a1 K w):callM prog 150 #[a0,a1] K w:=
 calls_of_code (fun _=>0) (fn:=Tryz.f150) (rs:=[.tmp 4]) Tryz.func150 rfl rfl (by kernel_rfl) (Nat.le_of_ble_eq_true rfl) (Eq.mp (by kernel_rfl) h)
def sh_54 (a0 a1 a2:Value) (K:Value → World → Prop) (w:World):Prop:=
 oM prog (.box 32 (.tmp 0)) 0 [a0] (fun v3 w=>
 oM prog (.box 41 (.tmp 0)) 0 [a1] (fun v4 w=>
 oM prog (.box 49 (.tmp 0)) 0 [a2] (fun v5 w=>
 oM prog (.load 32 (.tmp 0)) 32 [v3] (fun v7 w=>
 oM prog (.load 41 (.tmp 0)) 41 [v4] (fun v8 w=>
 callM prog 51 #[v7,v8] (fun v9 w=>
 oM prog (.unOp .not 4 (.tmp 0)) 4 [v9] (fun v10 w=>
 gdM (gd v10 false) (oM prog (.fieldAddr 49 (.tmp 0) 0) 0 [v5]) (fun v12 w=>
 gdM (gd v10 false) (oM prog (.load 3 (.tmp 0)) 3 [v12]) (fun v13 w=>
 gdM (gd v10 false) (oM prog (.fieldAddr 32 (.tmp 0) 0) 0 [v3]) (fun v14 w=>
 gdM (gd v10 false) (oM prog (.fieldAddr 30 (.tmp 0) 1) 0 [v14]) (fun v15 w=>
 gdM (gd v10 false) (oM prog (.load 3 (.tmp 0)) 3 [v15]) (fun v16 w=>
 gdM (gd v10 false) (oM prog (.binOp .sub 3 (.tmp 0) (.tmp 1) 3) 3 [v16,(.int .i64 1)]) (fun v17 w=>
 gdM (gd v10 false) (callM prog 99 #[v13,(.int .i64 1),v17]) (fun v18 w=>
 gdM (gd v10 false) (oM prog (.unOp .not 4 (.tmp 0)) 4 [v18]) (fun v19 w=>
 oM prog (.pick (.tmp 0) (.tmp 1) (.tmp 2)) 4 [v10,(.bool true),v19] (fun v20 w=>
 gdM (gd v20 false) (oM prog (.load 32 (.tmp 0)) 32 [v3]) (fun v22 w=>
 gdM (gd v20 false) (oM prog (.fieldAddr 49 (.tmp 0) 1) 0 [v5]) (fun v23 w=>
 gdM (gd v20 false) (oM prog (.load 22 (.tmp 0)) 22 [v23]) (fun v24 w=>
 gdM (gd v20 false) (oM prog (.fieldAddr 32 (.tmp 0) 1) 0 [v3]) (fun v25 w=>
 gdM (gd v20 false) (oM prog (.load 22 (.tmp 0)) 22 [v25]) (fun v26 w=>
 gdM (gd v20 false) (oM prog (.call (Go.Call.mk (.builtin .len) #[(.tmp 0)] #[22])) 3 [v26]) (fun v27 w=>
 gdM (gd v20 false) (callM prog 121 #[v22,v24,v27]) (fun v28 w=>
 gdM (gd v20 false) (oM prog (.unOp .not 4 (.tmp 0)) 4 [v28]) (fun v29 w=>
 oM prog (.pick (.tmp 0) (.tmp 1) (.tmp 2)) 4 [v20,(.bool true),v29] (fun v30 w=>
 condM v30
 (K (.bool false) w)
 (heldM w (fun C_26 w=>(((true:Bool) = true) ∧ (oH prog (.load 32 (.tmp 0)) 32 [v3] C_26 (fun v31=>
 oH prog (.fieldAddr 49 (.tmp 0) 1) 0 [v5] C_26 (fun v32=>
 oH prog (.load 22 (.tmp 0)) 22 [v32] C_26 (fun v33=>
 oH prog (.load 32 (.tmp 0)) 32 [v3] C_26 (fun v35=>
 oH prog (.load 32 (.tmp 0)) 32 [v3] C_26 (fun v36=>
 oH prog (.fieldAddr 41 (.tmp 0) 0) 0 [v4] C_26 (fun v37=>
 oH prog (.load 3 (.tmp 0)) 3 [v37] C_26 (fun v38=>
 oH prog (.fieldAddr 49 (.tmp 0) 0) 0 [v5] C_26 (fun v39=>
 oH prog (.load 3 (.tmp 0)) 3 [v39] C_26 (fun v40=>
 oH prog (.fieldAddr 41 (.tmp 0) 1) 0 [v4] C_26 (fun v42=>
 oH prog (.load 3 (.tmp 0)) 3 [v42] C_26 (fun v43=>
 ∃ S_38:World → World → Prop,∃ R_39:Value → World → Prop,(∀ v w w_1,S_38 w w_1 → R_39 v w → R_39 v w_1) ∧
 (∀ w,C_26 w → (callM prog 122 #[v31,v33] (fun v w_1=>C_26 w_1 ∧ S_38 w w_1 ∧ R_39 v w_1) w)) ∧
 (∃ R_40:Value → World → Prop,(∀ v w w_1,S_38 w w_1 → R_40 v w → R_40 v w_1) ∧
 (∀ w,C_26 w → (callM prog 119 #[v36,v38,v40] (fun v w_1=>C_26 w_1 ∧ S_38 w w_1 ∧ R_40 v w_1) w)) ∧
 (∀ w,C_26 w → ∀ v34,R_39 v34 w → ∀ v41,R_40 v41 w → (
 callM prog 120 #[v35,v41,v43] (fun v44 w=>
 oM prog (.binOp .eql 3 (.tmp 0) (.tmp 1) 3) 4 [v34,v44] (fun v45 w=>
 K v45 w) w) w))))))))))))))))))) w) w) w) w) w) w) w) w) w) w) w) w) w) w) w) w) w) w) w) w) w) w) w) w) w
theorem sh_54_ok {a0 a1 a2:Value} {K:Value → World → Prop} {w:World} (h:sh_54 a0 a1 a2 K w):callM prog 54 #[a0,a1,a2] K w:=
 calls_of_code (fun _=>.free [0,1,2,4,5,6,7,8,9,11,12] [3,10] [13,14,15]) (fn:=Tryz.f54) (rs:=[.tmp 6]) Tryz.func54 rfl rfl (by kernel_rfl) (Nat.le_of_ble_eq_true rfl) (Eq.mp (by kernel_rfl) h)
def sh_57 (a0:Value) (K:Value → World → Prop) (w:World):Prop:=
 oM prog (.box 41 (.tmp 0)) 0 [a0] (fun v1 w=>
 oM prog (.fieldAddr 41 (.tmp 0) 0) 0 [v1] (fun v3 w=>
 oM prog (.load 3 (.tmp 0)) 3 [v3] (fun v4 w=>
 oM prog (.fieldAddr 41 (.tmp 0) 1) 0 [v1] (fun v5 w=>
 oM prog (.load 3 (.tmp 0)) 3 [v5] (fun v6 w=>
 oM prog (.fieldAddr 41 (.tmp 0) 2) 0 [v1] (fun v7 w=>
 oM prog (.load 3 (.tmp 0)) 3 [v7] (fun v8 w=>
 oM prog (.fieldAddr 41 (.tmp 0) 3) 0 [v1] (fun v9 w=>
 oM prog (.load 3 (.tmp 0)) 3 [v9] (fun v10 w=>
 oM prog (.fieldAddr 41 (.tmp 0) 4) 0 [v1] (fun v11 w=>
 oM prog (.load 3 (.tmp 0)) 3 [v11] (fun v12 w=>
 oM prog (.fieldAddr 41 (.tmp 0) 5) 0 [v1] (fun v13 w=>
 oM prog (.load 3 (.tmp 0)) 3 [v13] (fun v14 w=>
 oM prog (.buildSlice 22 6 #[(0,(.tmp 0)),(1,(.tmp 1)),(2,(.tmp 2)),(3,(.tmp 3)),(4,(.tmp 4)),(5,(.tmp 5))]) 22 [v4,v6,v8,v10,v12,v14] (fun v15 w=>
 callM prog 124 #[v15] (fun v16 w=>
 K v16 w) w) w) w) w) w) w) w) w) w) w) w) w) w) w) w
theorem sh_57_ok {a0:Value} {K:Value → World → Prop} {w:World} (h:sh_57 a0 K w):callM prog 57 #[a0] K w:=
 calls_of_code (fun _=>0) (fn:=Tryz.f57) (rs:=[.tmp 2]) Tryz.func57 rfl rfl (by kernel_rfl) (Nat.le_of_ble_eq_true rfl) (Eq.mp (by kernel_rfl) h)
def sh_51 (a0 a1:Value) (K:Value → World → Prop) (w:World):Prop:=
 oM prog (.box 32 (.tmp 0)) 0 [a0] (fun v2 w=>
 oM prog (.box 41 (.tmp 0)) 0 [a1] (fun v3 w=>
 oM prog (.load 32 (.tmp 0)) 32 [v2] (fun v7 w=>
 callM prog 106 #[v7] (fun v8 w=>
 oM prog (.unOp .not 4 (.tmp 0)) 4 [v8] (fun v9 w=>
 gdM (gd v9 false) (oM prog (.fieldAddr 41 (.tmp 0) 0) 0 [v3]) (fun v11 w=>
 gdM (gd v9 false) (oM prog (.load 3 (.tmp 0)) 3 [v11]) (fun v12 w=>
 gdM (gd v9 false) (oM prog (.binOp .eql 3 (.tmp 0) (.const (.int .i64 1)) 3) 4 [v12]) (fun v13 w=>
 oM prog (.pick (.tmp 0) (.tmp 1) (.tmp 2)) 4 [v9,(.bool true),v13] (fun v14 w=>
 gdM (gd v14 false) (oM prog (.fieldAddr 41 (.tmp 0) 5) 0 [v3]) (fun v16 w=>
 gdM (gd v14 false) (oM prog (.load 3 (.tmp 0)) 3 [v16]) (fun v17 w=>
 gdM (gd v14 false) (oM prog (.fieldAddr 32 (.tmp 0) 0) 0 [v2]) (fun v18 w=>
 gdM (gd v14 false) (oM prog (.fieldAddr 30 (.tmp 0) 1) 0 [v18]) (fun v19 w=>
 gdM (gd v14 false) (oM prog (.load 3 (.tmp 0)) 3 [v19]) (fun v20 w=>
 gdM (gd v14 false) (oM prog (.binOp .sub 3 (.tmp 0) (.tmp 1) 3) 3 [v20,(.int .i64 1)]) (fun v21 w=>
 gdM (gd v14 false) (callM prog 99 #[v17,(.int .i64 0),v21]) (fun v22 w=>
 gdM (gd v14 false) (oM prog (.unOp .not 4 (.tmp 0)) 4 [v22]) (fun v23 w=>
 oM prog (.pick (.tmp 0) (.tmp 1) (.tmp 2)) 4 [v14,(.bool true),v23] (fun v24 w=>
 condM v24
 (K (.bool false) w)
 (oM prog (.fieldAddr 41 (.tmp 0) 0) 0 [v3] (fun v25 w=>
 oM prog (.load 3 (.tmp 0)) 3 [v25] (fun v26 w=>
 oM prog (.fieldAddr 41 (.tmp 0) 1) 0 [v3] (fun v27 w=>
 oM prog (.load 3 (.tmp 0)) 3 [v27] (fun v28 w=>
 oM prog (.fieldAddr 41 (.tmp 0) 2) 0 [v3] (fun v29 w=>
 oM prog (.load 3 (.tmp 0)) 3 [v29] (fun v30 w=>
 oM prog (.fieldAddr 41 (.tmp 0) 3) 0 [v3] (fun v31 w=>
 oM prog (.load 3 (.tmp 0)) 3 [v31] (fun v32 w=>
 oM prog (.fieldAddr 41 (.tmp 0) 4) 0 [v3] (fun v33 w=>
 oM prog (.load 3 (.tmp 0)) 3 [v33] (fun v34 w=>
 oM prog (.buildSlice 22 5 #[(0,(.tmp 0)),(1,(.tmp 1)),(2,(.tmp 2)),(3,(.tmp 3)),(4,(.tmp 4))]) 22 [v26,v28,v30,v32,v34] (fun v35 w=>
 loopM [(.bool false),(.int .i64 0)] w (fun J_30 m_31 l_32 u_l_32 w0_l_32=>(fun w=>(
 oM prog (.call (Go.Call.mk (.builtin .len) #[(.tmp 0)] #[22])) 3 [v35] (fun v38 w=>
 oM prog (.binOp .lss 3 (.tmp 0) (.tmp 1) 3) 4 [(l_32.getD 1 undef),v38] (fun v39 w=>
 condM v39
 (heldM w (fun C_35 w=>(((true:Bool) = true) ∧ (oH prog (.fieldAddr 32 (.tmp 0) 0) 0 [v2] C_35 (fun v42=>
 oH prog (.load 30 (.tmp 0)) 30 [v42] C_35 (fun v43=>
 pureH v35 C_35 (fun v44=>
 pureH (l_32.getD 1 undef) C_35 (fun v45=>
 oH prog (.indexAddr 22 (.tmp 0) (.tmp 1)) 0 [v44,v45] C_35 (fun v46=>
 oH prog (.load 3 (.tmp 0)) 3 [v46] C_35 (fun v47=>
 ∃ S_42:World → World → Prop,∀ w,C_35 w → (
 callM prog 116 #[v43,v47] (fun v48 w=>
 oM prog (.unOp .not 4 (.tmp 0)) 4 [v48] (fun v49 w=>
 condM v49
 (K (.bool false) w)
 (oM prog (.binOp .add 3 (.tmp 0) (.tmp 1) 3) 3 [(l_32.getD 1 undef),(.int .i64 1)] (fun v41 w=>
 J_30 [(l_32.getD 0 undef),v41] w ∧ m_31 [(l_32.getD 0 undef),v41] w < m_31 l_32 w0_l_32) w)) w) w)))))))))))
 (K (.bool true) w)) w) w)) w0_l_32)) w) w) w) w) w) w) w) w) w) w) w)) w) w) w) w) w) w) w) w) w) w) w) w) w) w) w) w) w) w
theorem sh_51_ok {a0 a1:Value} {K:Value → World → Prop} {w:World} (h:sh_51 a0 a1 K w):callM prog 51 #[a0,a1] K w:=
 calls_of_code (fun _=>.free [0,1,2,3,4,5] [] [6,7]) (fn:=Tryz.f51) (rs:=[.tmp 4]) Tryz.func51 rfl rfl (by kernel_rfl) (Nat.le_of_ble_eq_true rfl) (Eq.mp (by kernel_rfl) h)
def sh_52 (a0 a1:Value) (K:Value → World → Prop) (w:World):Prop:=
 oM prog (.box 32 (.tmp 0)) 0 [a0] (fun v2 w=>
 oM prog (.box 41 (.tmp 0)) 0 [a1] (fun v3 w=>
 oM prog (.load 32 (.tmp 0)) 32 [v2] (fun v5 w=>
 oM prog (.load 41 (.tmp 0)) 41 [v3] (fun v6 w=>
 callM prog 51 #[v5,v6] (fun v7 w=>
 oM prog (.unOp .not 4 (.tmp 0)) 4 [v7] (fun v8 w=>
 condM v8
 (K (.int .i64 0) w)
 (oM prog (.load 32 (.tmp 0)) 32 [v2] (fun v9 w=>
 oM prog (.load 41 (.tmp 0)) 41 [v3] (fun v10 w=>
 callM prog 117 #[v9,v10] (fun v11 w=>
 K v11 w) w) w) w)) w) w) w) w) w) w
theorem sh_52_ok {a0 a1:Value} {K:Value → World → Prop} {w:World} (h:sh_52 a0 a1 K w):callM prog 52 #[a0,a1] K w:=
 calls_of_code (fun _=>0) (fn:=Tryz.f52) (rs:=[.tmp 4]) Tryz.func52 rfl rfl (by kernel_rfl) (Nat.le_of_ble_eq_true rfl) (Eq.mp (by kernel_rfl) h)
def sh_58 (a0 a1 a2:Value) (K:Value → World → Prop) (w:World):Prop:=
 oM prog (.box 32 (.tmp 0)) 0 [a0] (fun v3 w=>
 oM prog (.box 41 (.tmp 0)) 0 [a1] (fun v4 w=>
 oM prog (.load 32 (.tmp 0)) 32 [v3] (fun v8 w=>
 callM prog 106 #[v8] (fun v9 w=>
 oM prog (.unOp .not 4 (.tmp 0)) 4 [v9] (fun v10 w=>
 condM v10
 (K (.int .i64 0) w)
 (oM prog (.fieldAddr 32 (.tmp 0) 0) 0 [v3] (fun v11 w=>
 oM prog (.fieldAddr 30 (.tmp 0) 1) 0 [v11] (fun v12 w=>
 oM prog (.load 3 (.tmp 0)) 3 [v12] (fun v13 w=>
 oM prog (.binOp .quo 3 (.tmp 0) (.tmp 1) 3) 3 [v13,(.int .i64 2)] (fun v14 w=>
 heldM w (fun C_10 w=>(((true:Bool) = true) ∧ (pureH v14 C_10 (fun v15=>
 oH prog (.binOp .add 3 (.tmp 0) (.tmp 1) 3) 3 [v15,(.int .i64 1)] C_10 (fun v16=>
 oH prog (.load 41 (.tmp 0)) 41 [v4] C_10 (fun v17=>
 pureH a2 C_10 (fun v19=>
 oH prog (.fieldAddr 32 (.tmp 0) 0) 0 [v3] C_10 (fun v22=>
 oH prog (.fieldAddr 30 (.tmp 0) 1) 0 [v22] C_10 (fun v23=>
 oH prog (.load 3 (.tmp 0)) 3 [v23] C_10 (fun v24=>
 oH prog (.binOp .sub 3 (.tmp 0) (.tmp 1) 3) 3 [v24,(.int .i64 1)] C_10 (fun v25=>
 pureH v14 C_10 (fun v26=>
 oH prog (.binOp .sub 3 (.tmp 0) (.tmp 1) 3) 3 [v25,v26] C_10 (fun v27=>
 ∃ S_21:World → World → Prop,∃ R_22:Value → World → Prop,(∀ v w w_1,S_21 w w_1 → R_22 v w → R_22 v w_1) ∧
 (∀ w,C_10 w → (callM prog 57 #[v17] (fun v w_1=>C_10 w_1 ∧ S_21 w w_1 ∧ R_22 v w_1) w)) ∧
 (∃ R_23:Value → World → Prop,(∀ v w w_1,S_21 w w_1 → R_23 v w → R_23 v w_1) ∧
 (∀ w,C_10 w → (callM prog 126 #[v19] (fun v w_1=>C_10 w_1 ∧ S_21 w w_1 ∧ R_23 v w_1) w)) ∧
 (∃ R_24:Value → World → Prop,(∀ v w w_1,S_21 w w_1 → R_24 v w → R_24 v w_1) ∧
 (∀ w,C_10 w → ∀ v18,R_22 v18 w → ∀ v20,R_23 v20 w → (oM prog (.binOp .add 9 (.tmp 0) (.tmp 1) 9) 9 [v18,v20] (fun v w_1=>C_10 w_1 ∧ S_21 w w_1 ∧ R_24 v w_1) w)) ∧
 (∃ R_27:Value → World → Prop,(∀ v w w_1,S_21 w w_1 → R_27 v w → R_27 v w_1) ∧
 (∀ w,C_10 w → ∀ v21,R_24 v21 w → (callM prog 125 #[v21,v27] (fun v w_1=>C_10 w_1 ∧ S_21 w w_1 ∧ R_27 v w_1) w)) ∧
 (∀ w,C_10 w → ∀ v18,R_22 v18 w → ∀ v20,R_23 v20 w → ∀ v21,R_24 v21 w → ∀ v28,R_27 v28 w → (
 oM prog (.binOp .add 3 (.tmp 0) (.tmp 1) 3) 3 [v16,v28] (fun v29 w=>
 K v29 w) w))))))))))))))))))) w) w) w) w)) w) w) w) w) w
theorem sh_58_ok {a0 a1 a2:Value} {K:Value → World → Prop} {w:World} (h:sh_58 a0 a1 a2 K w):callM prog 58 #[a0,a1,a2] K w:=
 calls_of_code (fun _=>.free [0,1,2,4,7,8,9,10,11,12] [3,5,6,13] [14,15]) (fn:=Tryz.f58) (rs:=[.tmp 6]) Tryz.func58 rfl rfl (by kernel_rfl) (Nat.le_of_ble_eq_true rfl) (Eq.mp (by kernel_rfl) h)
def sh_100 (a0 a1 a2 a3 a4:Value) (K:Value → World → Prop) (w:World):Prop:=
 oM prog (.box 32 (.tmp 0)) 0 [a0] (fun v5 w=>
 oM prog (.box 39 (.tmp 0)) 0 [a2] (fun v7 w=>
 oM prog (.box 45 (.tmp 0)) 0 [a3] (fun v8 w=>
 oM prog (.box 41 (.tmp 0)) 0 [a4] (fun v9 w=>
 oM prog (.load 32 (.tmp 0)) 32 [v5] (fun v16 w=>
 oM prog (.fieldAddr 39 (.tmp 0) 0) 0 [v7] (fun v18 w=>
 oM prog (.load 22 (.tmp 0)) 22 [v18] (fun v19 w=>
 oM prog (.fieldAddr 39 (.tmp 0) 1) 0 [v7] (fun v20 w=>
 oM prog (.load 37 (.tmp 0)) 37 [v20] (fun v21 w=>
 oM prog (.load 45 (.tmp 0)) 45 [v8] (fun v22 w=>
 callM prog 146 #[v16,a1,v19,v21,v22] (fun v23 w=>
 oM prog (.extract (.tmp 0) 0) 3 [v23] (fun v24 w=>
 oM prog (.extract (.tmp 0) 1) 54 [v23] (fun v25 w=>
 oM prog (.load 32 (.tmp 0)) 32 [v5] (fun v27 w=>
 oM prog (.fieldAddr 39 (.tmp 0) 0) 0 [v7] (fun v29 w=>
 oM prog (.load 22 (.tmp 0)) 22 [v29] (fun v30 w=>
 oM prog (.fieldAddr 39 (.tmp 0) 1) 0 [v7] (fun v31 w=>
 oM prog (.load 37 (.tmp 0)) 37 [v31] (fun v32 w=>
 oM prog (.load 45 (.tmp 0)) 45 [v8] (fun v33 w=>
 oM prog (.fieldAddr 39 (.tmp 0) 3) 0 [v7] (fun v34 w=>
 oM prog (.load 3 (.tmp 0)) 3 [v34] (fun v35 w=>
 callM prog 96 #[v27,a1,v30,v32,v33,v35] (fun v36 w=>
 oM prog (.extract (.tmp 0) 0) 41 [v36] (fun v37 w=>
 oM prog (.extract (.tmp 0) 1) 54 [v36] (fun v38 w=>
 oM prog (.alloc 41) 0 [] (fun v13 w=>
 oM prog (.store 41 (.tmp 0) (.tmp 1)) 0 [v13,v37] (fun _ w=>
 oM prog (.binOp .eql 54 (.tmp 0) (.const (.int .i64 0)) 54) 4 [v25] (fun v40 w=>
 gdM (gd v40 true) (pureM v38) (fun v42 w=>
 gdM (gd v40 true) (oM prog (.binOp .eql 54 (.tmp 0) (.const (.int .i64 0)) 54) 4 [v42]) (fun v43 w=>
 oM prog (.pick (.tmp 0) (.tmp 1) (.tmp 2)) 4 [v40,v43,(.bool false)] (fun v44 w=>
 gdM (gd v44 true) (pureM v24) (fun v46 w=>
 gdM (gd v44 true) (oM prog (.fieldAddr 39 (.tmp 0) 2) 0 [v7]) (fun v47 w=>
 gdM (gd v44 true) (oM prog (.load 3 (.tmp 0)) 3 [v47]) (fun v48 w=>
 gdM (gd v44 true) (oM prog (.binOp .eql 3 (.tmp 0) (.tmp 1) 3) 4 [v46,v48]) (fun v49 w=>
 oM prog (.pick (.tmp 0) (.tmp 1) (.tmp 2)) 4 [v44,v49,(.bool false)] (fun v50 w=>
 gdM (gd v50 true) (oM prog (.load 41 (.tmp 0)) 41 [v13]) (fun v52 w=>
 gdM (gd v50 true) (oM prog (.load 41 (.tmp 0)) 41 [v9]) (fun v53 w=>
 gdM (gd v50 true) (oM prog (.binOp .eql 41 (.tmp 0) (.tmp 1) 41) 4 [v52,v53]) (fun v54 w=>
 oM prog (.pick (.tmp 0) (.tmp 1) (.tmp 2)) 4 [v50,v54,(.bool false)] (fun v55 w=>
 K v55 w) w) w) w) w) w) w) w) w) w) w) w) w) w) w) w) w) w) w) w) w) w) w) w) w) w) w) w) w) w) w) w) w) w) w) w) w) w) w) w
theorem sh_100_ok {a0 a1 a2 a3 a4:Value} {K:Value → World → Prop} {w:World} (h:sh_100 a0 a1 a2 a3 a4 K w):callM prog 100 #[a0,a1,a2,a3,a4] K w:=
 calls_of_code (fun _=>0) (fn:=Tryz.f100) (rs:=[.tmp 10]) Tryz.func100 rfl rfl (by kernel_rfl) (Nat.le_of_ble_eq_true rfl) (Eq.mp (by kernel_rfl) h)
def sh_53 (a0 a1 a2:Value) (K:Value → World → Prop) (w:World):Prop:=
 oM prog (.box 32 (.tmp 0)) 0 [a0] (fun v3 w=>
 oM prog (.box 41 (.tmp 0)) 0 [a2] (fun v5 w=>
 oM prog (.load 32 (.tmp 0)) 32 [v3] (fun v9 w=>
 oM prog (.load 41 (.tmp 0)) 41 [v5] (fun v10 w=>
 callM prog 52 #[v9,v10] (fun v11 w=>
 oM prog (.load 32 (.tmp 0)) 32 [v3] (fun v12 w=>
 callM prog 118 #[v12,a1] (fun v14 w=>
 oM prog (.unOp .not 4 (.tmp 0)) 4 [v14] (fun v15 w=>
 gdM (gd v15 false) (pureM v11) (fun v17 w=>
 gdM (gd v15 false) (oM prog (.binOp .eql 3 (.tmp 0) (.const (.int .i64 0)) 3) 4 [v17]) (fun v18 w=>
 oM prog (.pick (.tmp 0) (.tmp 1) (.tmp 2)) 4 [v15,(.bool true),v18] (fun v19 w=>
 condM v19
 (K (.bool false) w)
 (heldM w (fun C_12 w=>(((true:Bool) = true) ∧ (oH prog (.load 32 (.tmp 0)) 32 [v3] C_12 (fun v20=>
 oH prog (.fieldAddr 32 (.tmp 0) 0) 0 [v3] C_12 (fun v21=>
 oH prog (.fieldAddr 30 (.tmp 0) 2) 0 [v21] C_12 (fun v22=>
 oH prog (.load 3 (.tmp 0)) 3 [v22] C_12 (fun v23=>
 oH prog (.fieldAddr 41 (.tmp 0) 5) 0 [v5] C_12 (fun v24=>
 oH prog (.load 3 (.tmp 0)) 3 [v24] C_12 (fun v25=>
 oH prog (.load 32 (.tmp 0)) 32 [v3] C_12 (fun v27=>
 oH prog (.load 32 (.tmp 0)) 32 [v3] C_12 (fun v28=>
 pureH a1 C_12 (fun v29=>
 pureH v11 C_12 (fun v30=>
 oH prog (.fieldAddr 41 (.tmp 0) 3) 0 [v5] C_12 (fun v32=>
 oH prog (.load 3 (.tmp 0)) 3 [v32] C_12 (fun v33=>
 ∃ S_25:World → World → Prop,∃ R_26:Value → World → Prop,(∀ v w w_1,S_25 w w_1 → R_26 v w → R_26 v w_1) ∧
 (∀ w,C_12 w → (callM prog 119 #[v20,v23,v25] (fun v w_1=>C_12 w_1 ∧ S_25 w w_1 ∧ R_26 v w_1) w)) ∧
 (∃ R_27:Value → World → Prop,(∀ v w w_1,S_25 w w_1 → R_27 v w → R_27 v w_1) ∧
 (∀ w,C_12 w → (callM prog 119 #[v28,v29,v30] (fun v w_1=>C_12 w_1 ∧ S_25 w w_1 ∧ R_27 v w_1) w)) ∧
 (∀ w,C_12 w → ∀ v26,R_26 v26 w → ∀ v31,R_27 v31 w → (
 callM prog 120 #[v27,v31,v33] (fun v34 w=>
 oM prog (.binOp .eql 3 (.tmp 0) (.tmp 1) 3) 4 [v26,v34] (fun v35 w=>
 heldM w (fun C_32 w=>(((true:Bool) = true) ∧ (pureH v35 C_32 (fun v36=>
 pureH v36 C_32 (fun v37=>
 gdH (gd v37 true) (oH prog (.load 32 (.tmp 0)) 32 [v3]) C_32 (fun v38=>
 gdH (gd v37 true) (oH prog (.fieldAddr 41 (.tmp 0) 0) 0 [v5]) C_32 (fun v39=>
 gdH (gd v37 true) (oH prog (.load 3 (.tmp 0)) 3 [v39]) C_32 (fun v40=>
 gdH (gd v37 true) (oH prog (.fieldAddr 41 (.tmp 0) 5) 0 [v5]) C_32 (fun v41=>
 gdH (gd v37 true) (oH prog (.load 3 (.tmp 0)) 3 [v41]) C_32 (fun v42=>
 gdH (gd v37 true) (oH prog (.load 32 (.tmp 0)) 32 [v3]) C_32 (fun v44=>
 gdH (gd v37 true) (oH prog (.load 32 (.tmp 0)) 32 [v3]) C_32 (fun v45=>
 gdH (gd v37 true) (oH prog (.fieldAddr 41 (.tmp 0) 2) 0 [v5]) C_32 (fun v46=>
 gdH (gd v37 true) (oH prog (.load 3 (.tmp 0)) 3 [v46]) C_32 (fun v47=>
 gdH (gd v37 true) (pureH v11) C_32 (fun v48=>
 gdH (gd v37 true) (oH prog (.fieldAddr 41 (.tmp 0) 4) 0 [v5]) C_32 (fun v50=>
 gdH (gd v37 true) (oH prog (.load 3 (.tmp 0)) 3 [v50]) C_32 (fun v51=>
 ∃ S_47:World → World → Prop,∃ R_48:Value → World → Prop,(∀ v w w_1,S_47 w w_1 → R_48 v w → R_48 v w_1) ∧
 (∀ w,C_32 w → (gdM (gd v37 true) (callM prog 119 #[v38,v40,v42]) (fun v w_1=>C_32 w_1 ∧ S_47 w w_1 ∧ R_48 v w_1) w)) ∧
 (∃ R_49:Value → World → Prop,(∀ v w w_1,S_47 w w_1 → R_49 v w → R_49 v w_1) ∧
 (∀ w,C_32 w → (gdM (gd v37 true) (callM prog 119 #[v45,v47,v48]) (fun v w_1=>C_32 w_1 ∧ S_47 w w_1 ∧ R_49 v w_1) w)) ∧
 (∀ w,C_32 w → ∀ v43,R_48 v43 w → ∀ v49,R_49 v49 w → (
 gdM (gd v37 true) (callM prog 120 #[v44,v49,v51]) (fun v52 w=>
 gdM (gd v37 true) (oM prog (.binOp .eql 3 (.tmp 0) (.tmp 1) 3) 4 [v43,v52]) (fun v53 w=>
 oM prog (.pick (.tmp 0) (.tmp 1) (.tmp 2)) 4 [v37,v53,(.bool false)] (fun v54 w=>
 K v54 w) w) w) w))))))))))))))))))))) w) w)))))))))))))))))))) w) w) w) w) w) w) w) w) w) w) w
theorem sh_53_ok {a0 a1 a2:Value} {K:Value → World → Prop} {w:World} (h:sh_53 a0 a1 a2 K w):callM prog 53 #[a0,a1,a2] K w:=
 calls_of_code (fun i=>bif Nat.beq i 4 then .free [0,1,2,3,4,5,7,8,9,10,12,13] [6,11] [14,15,16] else bif Nat.beq i 5 then .free [0,1,2,3,4,5,6,8,9,10,11,12,14,15] [7,13] [16,17,18,19] else 0) (fn:=Tryz.f53) (rs:=[.tmp 6]) Tryz.func53 rfl rfl (by kernel_rfl) (Nat.le_of_ble_eq_true rfl) (Eq.mp (by kernel_rfl) h)
def sh_103 (a0 a1 a2:Value) (K:Value → World → Prop) (w:World):Prop:=
 oM prog (.box 32 (.tmp 0)) 0 [a0] (fun v3 w=>
 oM prog (.box 24 (.tmp 0)) 0 [a1] (fun v4 w=>
 callM prog 105 #[a2] (fun v11 w=>
 loopM [(.int .i64 0),(.int .i64 0)] w (fun J_4 m_5 l_6 u_l_6 w0_l_6=>(fun w=>(
 oM prog (.call (Go.Call.mk (.builtin .len) #[(.tmp 0)] #[22])) 3 [v11] (fun v14 w=>
 oM prog (.binOp .lss 3 (.tmp 0) (.tmp 1) 3) 4 [(l_6.getD 1 undef),v14] (fun v15 w=>
 condM v15
 (heldM w (fun C_9 w=>(((true:Bool) = true) ∧ (oH prog (.fieldAddr 32 (.tmp 0) 0) 0 [v3] C_9 (fun v18=>
 oH prog (.fieldAddr 30 (.tmp 0) 1) 0 [v18] C_9 (fun v19=>
 oH prog (.load 3 (.tmp 0)) 3 [v19] C_9 (fun v20=>
 pureH (l_6.getD 0 undef) C_9 (fun v21=>
 oH prog (.load 32 (.tmp 0)) 32 [v3] C_9 (fun v22=>
 pureH v11 C_9 (fun v23=>
 pureH (l_6.getD 1 undef) C_9 (fun v24=>
 oH prog (.indexAddr 22 (.tmp 0) (.tmp 1)) 0 [v23,v24] C_9 (fun v25=>
 oH prog (.load 3 (.tmp 0)) 3 [v25] C_9 (fun v26=>
 oH prog (.fieldAddr 24 (.tmp 0) 0) 0 [v4] C_9 (fun v27=>
 oH prog (.load 22 (.tmp 0)) 22 [v27] C_9 (fun v28=>
 pureH (l_6.getD 1 undef) C_9 (fun v29=>
 oH prog (.indexAddr 22 (.tmp 0) (.tmp 1)) 0 [v28,v29] C_9 (fun v30=>
 oH prog (.load 3 (.tmp 0)) 3 [v30] C_9 (fun v31=>
 ∃ S_24:World → World → Prop,∃ R_25:Value → World → Prop,(∀ v w w_1,S_24 w w_1 → R_25 v w → R_25 v w_1) ∧
 (∀ w,C_9 w → (callM prog 102 #[v22,v26,v31] (fun v w_1=>C_9 w_1 ∧ S_24 w w_1 ∧ R_25 v w_1) w)) ∧
 (∀ w,C_9 w → ∀ v32,R_25 v32 w → (
 callM prog 109 #[v20,v21,v32] (fun v33 w=>
 oM prog (.binOp .add 3 (.tmp 0) (.tmp 1) 3) 3 [(l_6.getD 1 undef),(.int .i64 1)] (fun v17 w=>
 J_4 [v33,v17] w ∧ m_5 [v33,v17] w < m_5 l_6 w0_l_6) w) w))))))))))))))))))))
 (K (l_6.getD 0 undef) w)) w) w)) w0_l_6)) w) w) w
theorem sh_103_ok {a0 a1 a2:Value} {K:Value → World → Prop} {w:World} (h:sh_103 a0 a1 a2 K w):callM prog 103 #[a0,a1,a2] K w:=
 calls_of_code (fun _=>.free [0,1,2,3,4,5,6,7,8,9,10,11,12,13] [14] [15,16]) (fn:=Tryz.f103) (rs:=[.tmp 6]) Tryz.func103 rfl rfl (by kernel_rfl) (Nat.le_of_ble_eq_true rfl) (Eq.mp (by kernel_rfl) h)
def sh_44 (a0 a1 a2 a3 a4 a5 a6:Value) (K:Value → World → Prop) (w:World):Prop:=
 oM prog (.box 32 (.tmp 0)) 0 [a0] (fun v7 w=>
 oM prog (.box 24 (.tmp 0)) 0 [a1] (fun v8 w=>
 oM prog (.box 39 (.tmp 0)) 0 [a3] (fun v10 w=>
 oM prog (.box 45 (.tmp 0)) 0 [a4] (fun v11 w=>
 oM prog (.box 39 (.tmp 0)) 0 [a5] (fun v12 w=>
 oM prog (.alloc 45) 0 [] (fun v14 w=>
 oM prog (.load 32 (.tmp 0)) 32 [v7] (fun v25 w=>
 oM prog (.fieldAddr 39 (.tmp 0) 0) 0 [v10] (fun v27 w=>
 oM prog (.load 22 (.tmp 0)) 22 [v27] (fun v28 w=>
 oM prog (.fieldAddr 39 (.tmp 0) 1) 0 [v10] (fun v29 w=>
 oM prog (.load 37 (.tmp 0)) 37 [v29] (fun v30 w=>
 oM prog (.load 45 (.tmp 0)) 45 [v11] (fun v31 w=>
 oM prog (.fieldAddr 39 (.tmp 0) 3) 0 [v10] (fun v32 w=>
 oM prog (.load 3 (.tmp 0)) 3 [v32] (fun v33 w=>
 callM prog 96 #[v25,a2,v28,v30,v31,v33] (fun v34 w=>
 oM prog (.extract (.tmp 0) 0) 41 [v34] (fun v35 w=>
 oM prog (.extract (.tmp 0) 1) 54 [v34] (fun v36 w=>
 oM prog (.alloc 41) 0 [] (fun v16 w=>
 oM prog (.store 41 (.tmp 0) (.tmp 1)) 0 [v16,v35] (fun _ w=>
 oM prog (.load 32 (.tmp 0)) 32 [v7] (fun v38 w=>
 oM prog (.fieldAddr 39 (.tmp 0) 0) 0 [v10] (fun v39 w=>
 oM prog (.load 22 (.tmp 0)) 22 [v39] (fun v40 w=>
 oM prog (.load 45 (.tmp 0)) 45 [v11] (fun v41 w=>
 callM prog 46 #[v38,v40,v41,a6] (fun v43 w=>
 oM prog (.extract (.tmp 0) 0) 49 [v43] (fun v44 w=>
 oM prog (.extract (.tmp 0) 1) 4 [v43] (fun v45 w=>
 oM prog (.alloc 49) 0 [] (fun v18 w=>
 oM prog (.store 49 (.tmp 0) (.tmp 1)) 0 [v18,v44] (fun _ w=>
 oM prog (.load 32 (.tmp 0)) 32 [v7] (fun v46 w=>
 oM prog (.load 24 (.tmp 0)) 24 [v8] (fun v47 w=>
 callM prog 97 #[v46,v47] (fun v48 w=>
 oM prog (.unOp .not 4 (.tmp 0)) 4 [v48] (fun v49 w=>
 gdM (gd v49 false) (pureM v36) (fun v51 w=>
 gdM (gd v49 false) (oM prog (.binOp .neq 54 (.tmp 0) (.const (.int .i64 0)) 54) 4 [v51]) (fun v52 w=>
 oM prog (.pick (.tmp 0) (.tmp 1) (.tmp 2)) 4 [v49,(.bool true),v52] (fun v53 w=>
 gdM (gd v53 false) (pureM v45) (fun v55 w=>
 gdM (gd v53 false) (oM prog (.unOp .not 4 (.tmp 0)) 4 [v55]) (fun v56 w=>
 oM prog (.pick (.tmp 0) (.tmp 1) (.tmp 2)) 4 [v53,(.bool true),v56] (fun v57 w=>
 gdM (gd v57 false) (oM prog (.load 32 (.tmp 0)) 32 [v7]) (fun v59 w=>
 gdM (gd v57 false) (oM prog (.fieldAddr 39 (.tmp 0) 0) 0 [v12]) (fun v60 w=>
 gdM (gd v57 false) (oM prog (.load 22 (.tmp 0)) 22 [v60]) (fun v61 w=>
 gdM (gd v57 false) (callM prog 98 #[v59,v61]) (fun v62 w=>
 gdM (gd v57 false) (oM prog (.unOp .not 4 (.tmp 0)) 4 [v62]) (fun v63 w=>
 oM prog (.pick (.tmp 0) (.tmp 1) (.tmp 2)) 4 [v57,(.bool true),v63] (fun v64 w=>
 gdM (gd v64 false) (oM prog (.fieldAddr 39 (.tmp 0) 2) 0 [v12]) (fun v66 w=>
 gdM (gd v64 false) (oM prog (.load 3 (.tmp 0)) 3 [v66]) (fun v67 w=>
 gdM (gd v64 false) (oM prog (.fieldAddr 32 (.tmp 0) 0) 0 [v7]) (fun v68 w=>
 gdM (gd v64 false) (oM prog (.fieldAddr 30 (.tmp 0) 1) 0 [v68]) (fun v69 w=>
 gdM (gd v64 false) (oM prog (.load 3 (.tmp 0)) 3 [v69]) (fun v70 w=>
 gdM (gd v64 false) (oM prog (.binOp .sub 3 (.tmp 0) (.tmp 1) 3) 3 [v70,(.int .i64 1)]) (fun v71 w=>
 gdM (gd v64 false) (callM prog 99 #[v67,(.int .i64 1),v71]) (fun v72 w=>
 gdM (gd v64 false) (oM prog (.unOp .not 4 (.tmp 0)) 4 [v72]) (fun v73 w=>
 oM prog (.pick (.tmp 0) (.tmp 1) (.tmp 2)) 4 [v64,(.bool true),v73] (fun v74 w=>
 gdM (gd v74 false) (oM prog (.fieldAddr 39 (.tmp 0) 3) 0 [v12]) (fun v76 w=>
 gdM (gd v74 false) (oM prog (.load 3 (.tmp 0)) 3 [v76]) (fun v77 w=>
 gdM (gd v74 false) (oM prog (.fieldAddr 32 (.tmp 0) 0) 0 [v7]) (fun v78 w=>
 gdM (gd v74 false) (oM prog (.fieldAddr 30 (.tmp 0) 1) 0 [v78]) (fun v79 w=>
 gdM (gd v74 false) (oM prog (.load 3 (.tmp 0)) 3 [v79]) (fun v80 w=>
 gdM (gd v74 false) (oM prog (.binOp .sub 3 (.tmp 0) (.tmp 1) 3) 3 [v80,(.int .i64 1)]) (fun v81 w=>
 gdM (gd v74 false) (callM prog 99 #[v77,(.int .i64 0),v81]) (fun v82 w=>
 gdM (gd v74 false) (oM prog (.unOp .not 4 (.tmp 0)) 4 [v82]) (fun v83 w=>
 oM prog (.pick (.tmp 0) (.tmp 1) (.tmp 2)) 4 [v74,(.bool true),v83] (fun v84 w=>
 condM v84
 (oM prog (.build 45 #[]) 45 [] (fun v85 w=>
 oM prog (.store 45 (.tmp 0) (.tmp 1)) 0 [v14,v85] (fun _ w=>
 ∃ r_62,(do loadVar 45 (← asAddr v14):Sem Value).run prog w = .ok r_62 w ∧ K (.tuple #[r_62,(.bool false)]) w) w) w)
 (oM prog (.load 32 (.tmp 0)) 32 [v7] (fun v86 w=>
 oM prog (.load 39 (.tmp 0)) 39 [v10] (fun v88 w=>
 oM prog (.load 45 (.tmp 0)) 45 [v11] (fun v89 w=>
 oM prog (.load 41 (.tmp 0)) 41 [v16] (fun v90 w=>
 callM prog 100 #[v86,a2,v88,v89,v90] (fun v91 w=>
 oM prog (.unOp .not 4 (.tmp 0)) 4 [v91] (fun v92 w=>
 condM v92
 (oM prog (.build 45 #[]) 45 [] (fun v93 w=>
 oM prog (.store 45 (.tmp 0) (.tmp 1)) 0 [v14,v93] (fun _ w=>
 ∃ r_70,(do loadVar 45 (← asAddr v14):Sem Value).run prog w = .ok r_70 w ∧ K (.tuple #[r_70,(.bool false)]) w) w) w)
 (oM prog (.fieldAddr 32 (.tmp 0) 0) 0 [v7] (fun v94 w=>
 oM prog (.fieldAddr 30 (.tmp 0) 1) 0 [v94] (fun v95 w=>
 oM prog (.load 3 (.tmp 0)) 3 [v95] (fun v96 w=>
 heldM w (fun C_74 w=>(((true:Bool) = true) ∧ (oH prog (.load 32 (.tmp 0)) 32 [v7] C_74 (fun v97=>
 oH prog (.load 32 (.tmp 0)) 32 [v7] C_74 (fun v98=>
 oH prog (.fieldAddr 45 (.tmp 0) 0) 0 [v11] C_74 (fun v99=>
 oH prog (.load 3 (.tmp 0)) 3 [v99] C_74 (fun v100=>
 oH prog (.load 32 (.tmp 0)) 32 [v7] C_74 (fun v101=>
 oH prog (.load 24 (.tmp 0)) 24 [v8] C_74 (fun v102=>
 oH prog (.fieldAddr 39 (.tmp 0) 0) 0 [v10] C_74 (fun v103=>
 oH prog (.load 22 (.tmp 0)) 22 [v103] C_74 (fun v104=>
 oH prog (.load 32 (.tmp 0)) 32 [v7] C_74 (fun v107=>
 oH prog (.load 24 (.tmp 0)) 24 [v8] C_74 (fun v108=>
 oH prog (.fieldAddr 39 (.tmp 0) 0) 0 [v12] C_74 (fun v109=>
 oH prog (.load 22 (.tmp 0)) 22 [v109] C_74 (fun v110=>
 oH prog (.load 32 (.tmp 0)) 32 [v7] C_74 (fun v113=>
 oH prog (.load 32 (.tmp 0)) 32 [v7] C_74 (fun v114=>
 oH prog (.load 41 (.tmp 0)) 41 [v16] C_74 (fun v115=>
 oH prog (.fieldAddr 39 (.tmp 0) 2) 0 [v12] C_74 (fun v117=>
 oH prog (.load 3 (.tmp 0)) 3 [v117] C_74 (fun v118=>
 ∃ S_92:World → World → Prop,∃ R_93:Value → World → Prop,(∀ v w w_1,S_92 w w_1 → R_93 v w → R_93 v w_1) ∧
 (∀ w,C_74 w → (callM prog 103 #[v101,v102,v104] (fun v w_1=>C_74 w_1 ∧ S_92 w w_1 ∧ R_93 v w_1) w)) ∧
 (∃ R_94:Value → World → Prop,(∀ v w w_1,S_92 w w_1 → R_94 v w → R_94 v w_1) ∧
 (∀ w,C_74 w → ∀ v105,R_93 v105 w → (callM prog 102 #[v98,v100,v105] (fun v w_1=>C_74 w_1 ∧ S_92 w w_1 ∧ R_94 v w_1) w)) ∧
 (∃ R_96:Value → World → Prop,(∀ v w w_1,S_92 w w_1 → R_96 v w → R_96 v w_1) ∧
 (∀ w,C_74 w → (callM prog 103 #[v107,v108,v110] (fun v w_1=>C_74 w_1 ∧ S_92 w w_1 ∧ R_96 v w_1) w)) ∧
 (∃ R_97:Value → World → Prop,(∀ v w w_1,S_92 w w_1 → R_97 v w → R_97 v w_1) ∧
 (∀ w,C_74 w → ∀ v106,R_94 v106 w → ∀ v111,R_96 v111 w → (callM prog 101 #[v97,v106,v111] (fun v w_1=>C_74 w_1 ∧ S_92 w w_1 ∧ R_97 v w_1) w)) ∧
 (∃ R_100:Value → World → Prop,(∀ v w w_1,S_92 w w_1 → R_100 v w → R_100 v w_1) ∧
 (∀ w,C_74 w → (callM prog 52 #[v114,v115] (fun v w_1=>C_74 w_1 ∧ S_92 w w_1 ∧ R_100 v w_1) w)) ∧
 (∃ R_101:Value → World → Prop,(∀ v w w_1,S_92 w w_1 → R_101 v w → R_101 v w_1) ∧
 (∀ w,C_74 w → ∀ v116,R_100 v116 w → (callM prog 101 #[v113,v116,v118] (fun v w_1=>C_74 w_1 ∧ S_92 w w_1 ∧ R_101 v w_1) w)) ∧
 (∃ R_103:Value → World → Prop,(∀ v w w_1,S_92 w w_1 → R_103 v w → R_103 v w_1) ∧
 (∀ w,C_74 w → ∀ v112,R_97 v112 w → ∀ v119,R_101 v119 w → (oM prog (.build 45 #[(0,(.tmp 0)),(1,(.tmp 1))]) 45 [v112,v119] (fun v w_1=>C_74 w_1 ∧ S_92 w w_1 ∧ R_103 v w_1) w)) ∧
 (∃ R_106:Value → World → Prop,(∀ v w w_1,S_92 w w_1 → R_106 v w → R_106 v w_1) ∧
 (∀ w,C_74 w → (oM prog (.alloc 45) 0 [] (fun v w_1=>C_74 w_1 ∧ S_92 w w_1 ∧ R_106 v w_1) w)) ∧
 (∀ w,C_74 w → ∀ v105,R_93 v105 w → ∀ v106,R_94 v106 w → ∀ v111,R_96 v111 w → ∀ v112,R_97 v112 w → ∀ v116,R_100 v116 w → ∀ v119,R_101 v119 w → ∀ v120,R_103 v120 w → ∀ v21,R_106 v21 w → (
 oM prog (.store 45 (.tmp 0) (.tmp 1)) 0 [v21,v120] (fun _ w=>
 heldM w (fun C_115 w=>(((true:Bool) = true) ∧ (pureH v96 C_115 (fun v121=>
 oH prog (.fieldAddr 41 (.tmp 0) 5) 0 [v16] C_115 (fun v122=>
 oH prog (.load 3 (.tmp 0)) 3 [v122] C_115 (fun v123=>
 oH prog (.load 32 (.tmp 0)) 32 [v7] C_115 (fun v124=>
 oH prog (.fieldAddr 39 (.tmp 0) 3) 0 [v12] C_115 (fun v125=>
 oH prog (.load 3 (.tmp 0)) 3 [v125] C_115 (fun v126=>
 oH prog (.fieldAddr 45 (.tmp 0) 1) 0 [v21] C_115 (fun v127=>
 oH prog (.load 3 (.tmp 0)) 3 [v127] C_115 (fun v128=>
 ∃ S_124:World → World → Prop,∃ R_125:Value → World → Prop,(∀ v w w_1,S_124 w w_1 → R_125 v w → R_125 v w_1) ∧
 (∀ w,C_115 w → (callM prog 102 #[v124,v126,v128] (fun v w_1=>C_115 w_1 ∧ S_124 w w_1 ∧ R_125 v w_1) w)) ∧
 (∀ w,C_115 w → ∀ v129,R_125 v129 w → (
 callM prog 104 #[v121,v123,v129] (fun v130 w=>
 oM prog (.fieldAddr 45 (.tmp 0) 2) 0 [v21] (fun v131 w=>
 oM prog (.store 3 (.tmp 0) (.tmp 1)) 0 [v131,v130] (fun _ w=>
 oM prog (.fieldAddr 39 (.tmp 0) 0) 0 [v12] (fun v132 w=>
 oM prog (.load 22 (.tmp 0)) 22 [v132] (fun v133 w=>
 callM prog 105 #[v133] (fun v134 w=>
 loopM [(.int .i64 0)] w (fun J_132 m_133 l_134 u_l_134 w0_l_134=>(fun w=>(
 oM prog (.call (Go.Call.mk (.builtin .len) #[(.tmp 0)] #[22])) 3 [v134] (fun v137 w=>
 oM prog (.binOp .lss 3 (.tmp 0) (.tmp 1) 3) 4 [(l_134.getD 0 undef),v137] (fun v138 w=>
 condM v138
 (heldM w (fun C_137 w=>(((true:Bool) = true) ∧ (oH prog (.fieldAddr 45 (.tmp 0) 3) 0 [v21] C_137 (fun v141=>
 oH prog (.load 22 (.tmp 0)) 22 [v141] C_137 (fun v142=>
 pureH v96 C_137 (fun v143=>
 oH prog (.fieldAddr 49 (.tmp 0) 1) 0 [v18] C_137 (fun v144=>
 oH prog (.load 22 (.tmp 0)) 22 [v144] C_137 (fun v145=>
 pureH (l_134.getD 0 undef) C_137 (fun v146=>
 oH prog (.indexAddr 22 (.tmp 0) (.tmp 1)) 0 [v145,v146] C_137 (fun v147=>
 oH prog (.load 3 (.tmp 0)) 3 [v147] C_137 (fun v148=>
 oH prog (.load 32 (.tmp 0)) 32 [v7] C_137 (fun v149=>
 oH prog (.load 32 (.tmp 0)) 32 [v7] C_137 (fun v150=>
 pureH a6 C_137 (fun v151=>
 oH prog (.fieldAddr 45 (.tmp 0) 0) 0 [v21] C_137 (fun v152=>
 oH prog (.load 3 (.tmp 0)) 3 [v152] C_137 (fun v153=>
 pureH v134 C_137 (fun v155=>
 pureH (l_134.getD 0 undef) C_137 (fun v156=>
 oH prog (.indexAddr 22 (.tmp 0) (.tmp 1)) 0 [v155,v156] C_137 (fun v157=>
 oH prog (.load 3 (.tmp 0)) 3 [v157] C_137 (fun v158=>
 ∃ S_155:World → World → Prop,∃ R_156:Value → World → Prop,(∀ v w w_1,S_155 w w_1 → R_156 v w → R_156 v w_1) ∧
 (∀ w,C_137 w → (callM prog 102 #[v150,v151,v153] (fun v w_1=>C_137 w_1 ∧ S_155 w w_1 ∧ R_156 v w_1) w)) ∧
 (∃ R_157:Value → World → Prop,(∀ v w w_1,S_155 w w_1 → R_157 v w → R_157 v w_1) ∧
 (∀ w,C_137 w → ∀ v154,R_156 v154 w → (callM prog 102 #[v149,v154,v158] (fun v w_1=>C_137 w_1 ∧ S_155 w w_1 ∧ R_157 v w_1) w)) ∧
 (∃ R_159:Value → World → Prop,(∀ v w w_1,S_155 w w_1 → R_159 v w → R_159 v w_1) ∧
 (∀ w,C_137 w → ∀ v159,R_157 v159 w → (callM prog 104 #[v143,v148,v159] (fun v w_1=>C_137 w_1 ∧ S_155 w w_1 ∧ R_159 v w_1) w)) ∧
 (∃ R_161:Value → World → Prop,(∀ v w w_1,S_155 w w_1 → R_161 v w → R_161 v w_1) ∧
 (∀ w,C_137 w → ∀ v160,R_159 v160 w → (oM prog (.buildSlice 22 1 #[(0,(.tmp 0))]) 22 [v160] (fun v w_1=>C_137 w_1 ∧ S_155 w w_1 ∧ R_161 v w_1) w)) ∧
 (∀ w,C_137 w → ∀ v154,R_156 v154 w → ∀ v159,R_157 v159 w → ∀ v160,R_159 v160 w → ∀ v161,R_161 v161 w → (
 oM prog (.call (Go.Call.mk (.builtin .append) #[(.tmp 0),(.tmp 1)] #[22,22])) 22 [v142,v161] (fun v162 w=>
 oM prog (.fieldAddr 45 (.tmp 0) 3) 0 [v21] (fun v163 w=>
 oM prog (.store 22 (.tmp 0) (.tmp 1)) 0 [v163,v162] (fun _ w=>
 oM prog (.binOp .add 3 (.tmp 0) (.tmp 1) 3) 3 [(l_134.getD 0 undef),(.int .i64 1)] (fun v140 w=>
 J_132 [v140] w ∧ m_133 [v140] w < m_133 l_134 w0_l_134) w) w) w) w))))))))))))))))))))))))))
 (oM prog (.load 32 (.tmp 0)) 32 [v7] (fun v164 w=>
 oM prog (.load 39 (.tmp 0)) 39 [v12] (fun v166 w=>
 oM prog (.load 45 (.tmp 0)) 45 [v21] (fun v167 w=>
 oM prog (.load 41 (.tmp 0)) 41 [v16] (fun v168 w=>
 callM prog 100 #[v164,a2,v166,v167,v168] (fun v169 w=>
 oM prog (.unOp .not 4 (.tmp 0)) 4 [v169] (fun v170 w=>
 condM v170
 (oM prog (.build 45 #[]) 45 [] (fun v171 w=>
 oM prog (.store 45 (.tmp 0) (.tmp 1)) 0 [v14,v171] (fun _ w=>
 ∃ r_177,(do loadVar 45 (← asAddr v14):Sem Value).run prog w = .ok r_177 w ∧ K (.tuple #[r_177,(.bool false)]) w) w) w)
 (oM prog (.load 45 (.tmp 0)) 45 [v21] (fun v172 w=>
 oM prog (.store 45 (.tmp 0) (.tmp 1)) 0 [v14,v172] (fun _ w=>
 ∃ r_179,(do loadVar 45 (← asAddr v14):Sem Value).run prog w = .ok r_179 w ∧ K (.tuple #[r_179,(.bool true)]) w) w) w)) w) w) w) w) w) w)) w) w)) w0_l_134)) w) w) w) w) w) w)))))))))))))) w)))))))))))))))))))))))))))))) w) w) w)) w) w) w) w) w) w)) w) w) w) w) w) w) w) w) w) w) w) w) w) w) w) w) w) w) w) w) w) w) w) w) w) w) w) w) w) w) w) w) w) w) w) w) w) w) w) w) w) w) w) w) w) w) w) w) w) w) w) w) w) w) w) w) w) w) w) w) w) w
theorem sh_44_ok {a0 a1 a2 a3 a4 a5 a6:Value} {K:Value → World → Prop} {w:World} (h:sh_44 a0 a1 a2 a3 a4 a5 a6 K w):callM prog 44 #[a0,a1,a2,a3,a4,a5,a6] K w:=
 calls_of_code (fun i=>bif Nat.beq i 8 then .free [0,1,2,3,4,5,6,7,10,11,12,13,16,17,18,20,21] [8,9,14,15,19,22,23,24] [25] else bif Nat.beq i 9 then .free [0,1,2,3,4,5,6,7] [8] [9,10,11] else bif Nat.beq i 14 then .free [0,1,2,3,4,5,6,7,8,9,10,11,12,14,15,16,17] [13,18,19,20] [21,22,23] else 0) (fn:=Tryz.f44) (rs:=[.cell 14 45,.tmp 15]) Tryz.func44 rfl rfl (by kernel_rfl) (Nat.le_of_ble_eq_true rfl) (Eq.mp (by kernel_rfl) h)
def sh_45 (a0 a1 a2 a3:Value) (K:Value → World → Prop) (w:World):Prop:=
 oM prog (.box 32 (.tmp 0)) 0 [a0] (fun v4 w=>
 oM prog (.load 32 (.tmp 0)) 32 [v4] (fun v11 w=>
 callM prog 106 #[v11] (fun v12 w=>
 oM prog (.unOp .not 4 (.tmp 0)) 4 [v12] (fun v13 w=>
 gdM (gd v13 false) (pureM a2) (fun v15 w=>
 gdM (gd v13 false) (oM prog (.call (Go.Call.mk (.builtin .len) #[(.tmp 0)] #[85])) 3 [v15]) (fun v16 w=>
 gdM (gd v13 false) (callM prog 99 #[v16,(.int .i64 1),(.int .i64 5)]) (fun v17 w=>
 gdM (gd v13 false) (oM prog (.unOp .not 4 (.tmp 0)) 4 [v17]) (fun v18 w=>
 oM prog (.pick (.tmp 0) (.tmp 1) (.tmp 2)) 4 [v13,(.bool true),v18] (fun v19 w=>
 condM v19
 (K (.bool false) w)
 (loopM [(.bool false),(.int .i64 0)] w (fun J_10 m_11 l_12 u_l_12 w0_l_12=>(fun w=>(
 oM prog (.call (Go.Call.mk (.builtin .len) #[(.tmp 0)] #[85])) 3 [a2] (fun v22 w=>
 oM prog (.binOp .lss 3 (.tmp 0) (.tmp 1) 3) 4 [(l_12.getD 1 undef),v22] (fun v23 w=>
 condM v23
 (oM prog (.indexAddr 85 (.tmp 0) (.tmp 1)) 0 [a2,(l_12.getD 1 undef)] (fun v28 w=>
 oM prog (.load 91 (.tmp 0)) 91 [v28] (fun v29 w=>
 oM prog (.alloc 91) 0 [] (fun v10 w=>
 oM prog (.store 91 (.tmp 0) (.tmp 1)) 0 [v10,v29] (fun _ w=>
 oM prog (.fieldAddr 91 (.tmp 0) 2) 0 [v10] (fun v30 w=>
 oM prog (.load 9 (.tmp 0)) 9 [v30] (fun v31 w=>
 oM prog (.call (Go.Call.mk (.builtin .len) #[(.tmp 0)] #[9])) 3 [v31] (fun v32 w=>
 oM prog (.binOp .gtr 3 (.tmp 0) (.tmp 1) 3) 4 [v32,(.int .i64 8000)] (fun v33 w=>
 gdM (gd v33 false) (oM prog (.load 32 (.tmp 0)) 32 [v4]) (fun v35 w=>
 gdM (gd v33 false) (pureM a1) (fun v36 w=>
 gdM (gd v33 false) (oM prog (.fieldAddr 91 (.tmp 0) 0) 0 [v10]) (fun v37 w=>
 gdM (gd v33 false) (oM prog (.load 41 (.tmp 0)) 41 [v37]) (fun v38 w=>
 gdM (gd v33 false) (callM prog 107 #[v35,v36,v38]) (fun v39 w=>
 gdM (gd v33 false) (oM prog (.unOp .not 4 (.tmp 0)) 4 [v39]) (fun v40 w=>
 oM prog (.pick (.tmp 0) (.tmp 1) (.tmp 2)) 4 [v33,(.bool true),v40] (fun v41 w=>
 gdM (gd v41 false) (oM prog (.load 32 (.tmp 0)) 32 [v4]) (fun v43 w=>
 gdM (gd v41 false) (oM prog (.fieldAddr 91 (.tmp 0) 0) 0 [v10]) (fun v44 w=>
 gdM (gd v41 false) (oM prog (.load 41 (.tmp 0)) 41 [v44]) (fun v45 w=>
 gdM (gd v41 false) (oM prog (.fieldAddr 91 (.tmp 0) 1) 0 [v10]) (fun v46 w=>
 gdM (gd v41 false) (oM prog (.load 49 (.tmp 0)) 49 [v46]) (fun v47 w=>
 gdM (gd v41 false) (callM prog 54 #[v43,v45,v47]) (fun v48 w=>
 gdM (gd v41 false) (oM prog (.unOp .not 4 (.tmp 0)) 4 [v48]) (fun v49 w=>
 oM prog (.pick (.tmp 0) (.tmp 1) (.tmp 2)) 4 [v41,(.bool true),v49] (fun v50 w=>
 condM v50
 (K (.bool false) w)
 (oM prog (.binOp .add 3 (.tmp 0) (.tmp 1) 3) 3 [(l_12.getD 1 undef),(.int .i64 1)] (fun v52 w=>
 oM prog (.call (Go.Call.mk (.builtin .len) #[(.tmp 0)] #[85])) 3 [a2] (fun v54 w=>
 oM prog (.binOp .eql 3 (.tmp 0) (.tmp 1) 3) 4 [v52,v54] (fun v55 w=>
 condM v55
 (oM prog (.fieldAddr 91 (.tmp 0) 2) 0 [v10] (fun v56 w=>
 oM prog (.load 9 (.tmp 0)) 9 [v56] (fun v57 w=>
 oM prog (.binOp .eql 9 (.tmp 0) (.const (.string ⟨#[]⟩)) 9) 4 [v57] (fun v58 w=>
 gdM (gd v58 true) (oM prog (.fieldAddr 91 (.tmp 0) 1) 0 [v10]) (fun v60 w=>
 gdM (gd v58 true) (oM prog (.fieldAddr 49 (.tmp 0) 0) 0 [v60]) (fun v61 w=>
 gdM (gd v58 true) (oM prog (.load 3 (.tmp 0)) 3 [v61]) (fun v62 w=>
 gdM (gd v58 true) (pureM a3) (fun v63 w=>
 gdM (gd v58 true) (oM prog (.binOp .eql 3 (.tmp 0) (.tmp 1) 3) 4 [v62,v63]) (fun v64 w=>
 oM prog (.pick (.tmp 0) (.tmp 1) (.tmp 2)) 4 [v58,v64,(.bool false)] (fun v65 w=>
 K v65 w) w) w) w) w) w) w) w) w) w)
 (heldM w (fun C_49 w=>(((true:Bool) = true) ∧ (oH prog (.fieldAddr 91 (.tmp 0) 1) 0 [v10] C_49 (fun v66=>
 oH prog (.fieldAddr 49 (.tmp 0) 0) 0 [v66] C_49 (fun v67=>
 oH prog (.load 3 (.tmp 0)) 3 [v67] C_49 (fun v68=>
 oH prog (.load 32 (.tmp 0)) 32 [v4] C_49 (fun v69=>
 pureH a2 C_49 (fun v70=>
 pureH (l_12.getD 1 undef) C_49 (fun v71=>
 oH prog (.binOp .add 3 (.tmp 0) (.tmp 1) 3) 3 [v71,(.int .i64 1)] C_49 (fun v72=>
 oH prog (.indexAddr 85 (.tmp 0) (.tmp 1)) 0 [v70,v72] C_49 (fun v73=>
 oH prog (.fieldAddr 91 (.tmp 0) 0) 0 [v73] C_49 (fun v74=>
 oH prog (.load 41 (.tmp 0)) 41 [v74] C_49 (fun v75=>
 oH prog (.fieldAddr 91 (.tmp 0) 2) 0 [v10] C_49 (fun v76=>
 oH prog (.load 9 (.tmp 0)) 9 [v76] C_49 (fun v77=>
 ∃ S_62:World → World → Prop,∃ R_63:Value → World → Prop,(∀ v w w_1,S_62 w w_1 → R_63 v w → R_63 v w_1) ∧
 (∀ w,C_49 w → (callM prog 58 #[v69,v75,v77] (fun v w_1=>C_49 w_1 ∧ S_62 w w_1 ∧ R_63 v w_1) w)) ∧
 (∀ w,C_49 w → ∀ v78,R_63 v78 w → (
 oM prog (.binOp .neq 3 (.tmp 0) (.tmp 1) 3) 4 [v68,v78] (fun v79 w=>
 condM v79
 (K (.bool false) w)
 (oM prog (.binOp .add 3 (.tmp 0) (.tmp 1) 3) 3 [(l_12.getD 1 undef),(.int .i64 1)] (fun v25 w=>
 J_10 [(l_12.getD 0 undef),v25] w ∧ m_11 [(l_12.getD 0 undef),v25] w < m_11 l_12 w0_l_12) w)) w))))))))))))))))))) w) w) w)) w) w) w) w) w) w) w) w) w) w) w) w) w) w) w) w) w) w) w) w) w) w) w)
 (K (.bool false) w)) w) w)) w0_l_12))) w) w) w) w) w) w) w) w) w
theorem sh_45_ok {a0 a1 a2 a3:Value} {K:Value → World → Prop} {w:World} (h:sh_45 a0 a1 a2 a3 K w):callM prog 45 #[a0,a1,a2,a3] K w:=
 calls_of_code (fun _=>.free [0,1,2,3,4,5,6,7,8,9,10,11] [12] [13]) (fn:=Tryz.f45) (rs:=[.tmp 8]) Tryz.func45 rfl rfl (by kernel_rfl) (Nat.le_of_ble_eq_true rfl) (Eq.mp (by kernel_rfl) h)
def sh_20 (a0 a1:Value) (K:Value → World → Prop) (w:World):Prop:=
 oM prog (.box 45 (.tmp 0)) 0 [a0] (fun v2 w=>
 oM prog (.box 45 (.tmp 0)) 0 [a1] (fun v3 w=>
 oM prog (.fieldAddr 45 (.tmp 0) 0) 0 [v2] (fun v5 w=>
 oM prog (.load 3 (.tmp 0)) 3 [v5] (fun v6 w=>
 oM prog (.fieldAddr 45 (.tmp 0) 0) 0 [v3] (fun v7 w=>
 oM prog (.load 3 (.tmp 0)) 3 [v7] (fun v8 w=>
 oM prog (.binOp .eql 3 (.tmp 0) (.tmp 1) 3) 4 [v6,v8] (fun v9 w=>
 gdM (gd v9 true) (oM prog (.fieldAddr 45 (.tmp 0) 1) 0 [v2]) (fun v11 w=>
 gdM (gd v9 true) (oM prog (.load 3 (.tmp 0)) 3 [v11]) (fun v12 w=>
 gdM (gd v9 true) (oM prog (.fieldAddr 45 (.tmp 0) 1) 0 [v3]) (fun v13 w=>
 gdM (gd v9 true) (oM prog (.load 3 (.tmp 0)) 3 [v13]) (fun v14 w=>
 gdM (gd v9 true) (oM prog (.binOp .eql 3 (.tmp 0) (.tmp 1) 3) 4 [v12,v14]) (fun v15 w=>
 oM prog (.pick (.tmp 0) (.tmp 1) (.tmp 2)) 4 [v9,v15,(.bool false)] (fun v16 w=>
 gdM (gd v16 true) (oM prog (.fieldAddr 45 (.tmp 0) 2) 0 [v2]) (fun v18 w=>
 gdM (gd v16 true) (oM prog (.load 3 (.tmp 0)) 3 [v18]) (fun v19 w=>
 gdM (gd v16 true) (oM prog (.fieldAddr 45 (.tmp 0) 2) 0 [v3]) (fun v20 w=>
 gdM (gd v16 true) (oM prog (.load 3 (.tmp 0)) 3 [v20]) (fun v21 w=>
 gdM (gd v16 true) (oM prog (.binOp .eql 3 (.tmp 0) (.tmp 1) 3) 4 [v19,v21]) (fun v22 w=>
 oM prog (.pick (.tmp 0) (.tmp 1) (.tmp 2)) 4 [v16,v22,(.bool false)] (fun v23 w=>
 gdM (gd v23 true) (oM prog (.fieldAddr 45 (.tmp 0) 3) 0 [v2]) (fun v25 w=>
 gdM (gd v23 true) (oM prog (.load 22 (.tmp 0)) 22 [v25]) (fun v26 w=>
 gdM (gd v23 true) (oM prog (.fieldAddr 45 (.tmp 0) 3) 0 [v3]) (fun v27 w=>
 gdM (gd v23 true) (oM prog (.load 22 (.tmp 0)) 22 [v27]) (fun v28 w=>
 gdM (gd v23 true) (callM prog 33 #[v26,v28]) (fun v29 w=>
 oM prog (.pick (.tmp 0) (.tmp 1) (.tmp 2)) 4 [v23,v29,(.bool false)] (fun v30 w=>
 K v30 w) w) w) w) w) w) w) w) w) w) w) w) w) w) w) w) w) w) w) w) w) w) w) w) w) w
theorem sh_20_ok {a0 a1:Value} {K:Value → World → Prop} {w:World} (h:sh_20 a0 a1 K w):callM prog 20 #[a0,a1] K w:=
 calls_of_code (fun _=>0) (fn:=Tryz.f20) (rs:=[.tmp 4]) Tryz.func20 rfl rfl (by kernel_rfl) (Nat.le_of_ble_eq_true rfl) (Eq.mp (by kernel_rfl) h)
def sh_46 (a0 a1 a2 a3:Value) (K:Value → World → Prop) (w:World):Prop:=
 oM prog (.box 32 (.tmp 0)) 0 [a0] (fun v4 w=>
 oM prog (.box 45 (.tmp 0)) 0 [a2] (fun v6 w=>
 oM prog (.alloc 49) 0 [] (fun v8 w=>
 oM prog (.load 32 (.tmp 0)) 32 [v4] (fun v13 w=>
 callM prog 98 #[v13,a1] (fun v15 w=>
 oM prog (.unOp .not 4 (.tmp 0)) 4 [v15] (fun v16 w=>
 gdM (gd v16 false) (oM prog (.load 32 (.tmp 0)) 32 [v4]) (fun v18 w=>
 gdM (gd v16 false) (oM prog (.load 45 (.tmp 0)) 45 [v6]) (fun v19 w=>
 gdM (gd v16 false) (callM prog 108 #[v18,v19]) (fun v20 w=>
 gdM (gd v16 false) (oM prog (.unOp .not 4 (.tmp 0)) 4 [v20]) (fun v21 w=>
 oM prog (.pick (.tmp 0) (.tmp 1) (.tmp 2)) 4 [v16,(.bool true),v21] (fun v22 w=>
 gdM (gd v22 false) (pureM a3) (fun v24 w=>
 gdM (gd v22 false) (oM prog (.fieldAddr 32 (.tmp 0) 0) 0 [v4]) (fun v25 w=>
 gdM (gd v22 false) (oM prog (.fieldAddr 30 (.tmp 0) 1) 0 [v25]) (fun v26 w=>
 gdM (gd v22 false) (oM prog (.load 3 (.tmp 0)) 3 [v26]) (fun v27 w=>
 gdM (gd v22 false) (oM prog (.binOp .sub 3 (.tmp 0) (.tmp 1) 3) 3 [v27,(.int .i64 1)]) (fun v28 w=>
 gdM (gd v22 false) (callM prog 99 #[v24,(.int .i64 1),v28]) (fun v29 w=>
 gdM (gd v22 false) (oM prog (.unOp .not 4 (.tmp 0)) 4 [v29]) (fun v30 w=>
 oM prog (.pick (.tmp 0) (.tmp 1) (.tmp 2)) 4 [v22,(.bool true),v30] (fun v31 w=>
 condM v31
 (oM prog (.build 49 #[]) 49 [] (fun v32 w=>
 oM prog (.store 49 (.tmp 0) (.tmp 1)) 0 [v8,v32] (fun _ w=>
 ∃ r_21,(do loadVar 49 (← asAddr v8):Sem Value).run prog w = .ok r_21 w ∧ K (.tuple #[r_21,(.bool false)]) w) w) w)
 (oM prog (.build 49 #[(0,(.tmp 0))]) 49 [a3] (fun v34 w=>
 oM prog (.alloc 49) 0 [] (fun v10 w=>
 oM prog (.store 49 (.tmp 0) (.tmp 1)) 0 [v10,v34] (fun _ w=>
 callM prog 105 #[a1] (fun v36 w=>
 loopM [(.int .i64 0)] w (fun J_25 m_26 l_27 u_l_27 w0_l_27=>(fun w=>(
 oM prog (.call (Go.Call.mk (.builtin .len) #[(.tmp 0)] #[22])) 3 [v36] (fun v39 w=>
 oM prog (.binOp .lss 3 (.tmp 0) (.tmp 1) 3) 4 [(l_27.getD 0 undef),v39] (fun v40 w=>
 condM v40
 (heldM w (fun C_30 w=>(((true:Bool) = true) ∧ (oH prog (.fieldAddr 49 (.tmp 0) 1) 0 [v10] C_30 (fun v43=>
 oH prog (.load 22 (.tmp 0)) 22 [v43] C_30 (fun v44=>
 oH prog (.fieldAddr 32 (.tmp 0) 0) 0 [v4] C_30 (fun v45=>
 oH prog (.fieldAddr 30 (.tmp 0) 1) 0 [v45] C_30 (fun v46=>
 oH prog (.load 3 (.tmp 0)) 3 [v46] C_30 (fun v47=>
 oH prog (.fieldAddr 45 (.tmp 0) 3) 0 [v6] C_30 (fun v48=>
 oH prog (.load 22 (.tmp 0)) 22 [v48] C_30 (fun v49=>
 pureH (l_27.getD 0 undef) C_30 (fun v50=>
 oH prog (.indexAddr 22 (.tmp 0) (.tmp 1)) 0 [v49,v50] C_30 (fun v51=>
 oH prog (.load 3 (.tmp 0)) 3 [v51] C_30 (fun v52=>
 oH prog (.load 32 (.tmp 0)) 32 [v4] C_30 (fun v53=>
 oH prog (.load 32 (.tmp 0)) 32 [v4] C_30 (fun v54=>
 pureH a3 C_30 (fun v55=>
 oH prog (.fieldAddr 45 (.tmp 0) 0) 0 [v6] C_30 (fun v56=>
 oH prog (.load 3 (.tmp 0)) 3 [v56] C_30 (fun v57=>
 pureH v36 C_30 (fun v59=>
 pureH (l_27.getD 0 undef) C_30 (fun v60=>
 oH prog (.indexAddr 22 (.tmp 0) (.tmp 1)) 0 [v59,v60] C_30 (fun v61=>
 oH prog (.load 3 (.tmp 0)) 3 [v61] C_30 (fun v62=>
 ∃ S_50:World → World → Prop,∃ R_51:Value → World → Prop,(∀ v w w_1,S_50 w w_1 → R_51 v w → R_51 v w_1) ∧
 (∀ w,C_30 w → (callM prog 102 #[v54,v55,v57] (fun v w_1=>C_30 w_1 ∧ S_50 w w_1 ∧ R_51 v w_1) w)) ∧
 (∃ R_52:Value → World → Prop,(∀ v w w_1,S_50 w w_1 → R_52 v w → R_52 v w_1) ∧
 (∀ w,C_30 w → ∀ v58,R_51 v58 w → (callM prog 102 #[v53,v58,v62] (fun v w_1=>C_30 w_1 ∧ S_50 w w_1 ∧ R_52 v w_1) w)) ∧
 (∃ R_54:Value → World → Prop,(∀ v w w_1,S_50 w w_1 → R_54 v w → R_54 v w_1) ∧
 (∀ w,C_30 w → ∀ v63,R_52 v63 w → (callM prog 109 #[v47,v52,v63] (fun v w_1=>C_30 w_1 ∧ S_50 w w_1 ∧ R_54 v w_1) w)) ∧
 (∃ R_56:Value → World → Prop,(∀ v w w_1,S_50 w w_1 → R_56 v w → R_56 v w_1) ∧
 (∀ w,C_30 w → ∀ v64,R_54 v64 w → (oM prog (.buildSlice 22 1 #[(0,(.tmp 0))]) 22 [v64] (fun v w_1=>C_30 w_1 ∧ S_50 w w_1 ∧ R_56 v w_1) w)) ∧
 (∀ w,C_30 w → ∀ v58,R_51 v58 w → ∀ v63,R_52 v63 w → ∀ v64,R_54 v64 w → ∀ v65,R_56 v65 w → (
 oM prog (.call (Go.Call.mk (.builtin .append) #[(.tmp 0),(.tmp 1)] #[22,22])) 22 [v44,v65] (fun v66 w=>
 oM prog (.fieldAddr 49 (.tmp 0) 1) 0 [v10] (fun v67 w=>
 oM prog (.store 22 (.tmp 0) (.tmp 1)) 0 [v67,v66] (fun _ w=>
 oM prog (.binOp .add 3 (.tmp 0) (.tmp 1) 3) 3 [(l_27.getD 0 undef),(.int .i64 1)] (fun v42 w=>
 J_25 [v42] w ∧ m_26 [v42] w < m_26 l_27 w0_l_27) w) w) w) w))))))))))))))))))))))))))))
 (oM prog (.load 49 (.tmp 0)) 49 [v10] (fun v68 w=>
 oM prog (.store 49 (.tmp 0) (.tmp 1)) 0 [v8,v68] (fun _ w=>
 ∃ r_66,(do loadVar 49 (← asAddr v8):Sem Value).run prog w = .ok r_66 w ∧ K (.tuple #[r_66,(.bool true)]) w) w) w)) w) w)) w0_l_27)) w) w) w) w)) w) w) w) w) w) w) w) w) w) w) w) w) w) w) w) w) w) w) w
theorem sh_46_ok {a0 a1 a2 a3:Value} {K:Value → World → Prop} {w:World} (h:sh_46 a0 a1 a2 a3 K w):callM prog 46 #[a0,a1,a2,a3] K w:=
 calls_of_code (fun _=>.free [0,1,2,3,4,5,6,7,8,9,10,11,12,13,14,16,17,18,19] [15,20,21,22] [23,24,25]) (fn:=Tryz.f46) (rs:=[.cell 8 49,.tmp 9]) Tryz.func46 rfl rfl (by kernel_rfl) (Nat.le_of_ble_eq_true rfl) (Eq.mp (by kernel_rfl) h)
end Go.Proofs
namespace Go.Proofs
open Go Go.Sh Go.RowKit FdSpec TkSpec CodeSpec
section
variable {K:Value → World → Prop} {w w0:World} {L:List (Addr × Value)}
theorem rSameInts_ok {v u:Value} {a b:List Int} (ha:Ints w v a) (hb:Ints w u b) (k:∀ w',Below w.heap.size w w' → K (.bool (decide (a = b))) w'):callM Tryz.prog 187 #[v,u] K w:=by
 apply sh_187_ok
 unfold sh_187
 obtain ⟨ad1,c1,rfl⟩:=ha.isSlice
 obtain ⟨ad2,c2,rfl⟩:=hb.isSlice
 have l1:=ha.len
 have l2:=hb.len
 by_cases hl:a.length = b.length
 ·refine Xa @hl ?_
  refine ⟨fun vs w'=>Below w.heap.size w w' ∧ ∃ (v:Value) (i:Nat),vs = [v,.int .i64 (i:Int)] ∧ i ≤ a.length ∧ a.take i = b.take i,fun vs _=>match vs with | [_,.int _ i]=>b.length - i.toNat | _=>0,⟨Below.refl _ _,_,0,rfl,by omega,rfl⟩,?_⟩
  rintro _ _ w1 ⟨h1,u1,i,rfl,hi,he⟩
  by_cases hin:i = b.length
  ·have e:a = b:=by
    rw [List.take_of_length_le (by omega),List.take_of_length_le (by omega)] at he
    exact he
   have k:=k _ h1
   rw [decide_eq_true e] at k
   refine Xa @hl ?_
   exact k
  ·obtain ⟨b1,o1,rfl,hb1,ca,ra,_⟩:=ha.at (i:=i) (by omega)
   obtain ⟨b2,o2,rfl,hb2,cb,rb,_⟩:=hb.at (i:=i) (by omega)
   refine Xa @hl ?_
   refine ⟨Below w.heap.size w,h1.trans .drawn,rfl,?_⟩
   by_cases hx:a[i] = b[i]
   ·refine Xf (fun W0 hW0=>An2 (ca _ hW0) (cb _ hW0)) (An2 @hl @hx) ?_
    refine ⟨Nx,fun w2 h2=>?_⟩
    refine Xa @hx ?_
    refine ⟨⟨h2,_,i + 1,rfl,by omega,?_⟩,by show b.length - (((i + 1:Nat):Int)).toNat < b.length - ((i:Nat):Int).toNat; omega⟩
    rw [List.take_succ_eq_append_getElem (by omega),List.take_succ_eq_append_getElem (by omega),he,hx]
   ·refine Xf (fun W0 hW0=>An2 (ca _ hW0) (cb _ hW0)) (An2 @hl @hx) ?_
    refine ⟨Nx,fun w2 h2=>?_⟩
    have k:=k _ h2
    rw [decide_eq_false (by rintro rfl; exact hx rfl)] at k
    refine Xa @hx ?_
    exact k
 ·have hl':¬ (a.length:Int) = b.length:=by omega
  have k:=k _ (Below.refl _ _)
  rw [decide_eq_false (by rintro rfl; exact hl rfl)] at k
  refine Xa @hl' ?_
  exact k
def RfJ (g:Grp) (R:Bool) (l:List Int) (w0:World) (vs:List Value) (w':World):Prop:=Below w0.heap.size w0 w' ∧ ∃ (u:Value) (i:Nat),vs = [u,.int .i64 (i:Int)] ∧ i ≤ l.length ∧ (l.drop i).all (elemG g) = R
theorem rFormed_ok (s:Stp) (t:Tkt) {v:Value} (ht:TktR t) (hs:SetR w s v) (k:∀ w',Below w.heap.size w w' → K (.bool (formedM s t)) w'):callM Tryz.prog 51 #[stpV s v,tktV t] K w:=by
 apply sh_51_ok
 unfold sh_51
 obtain ⟨ad,c,rfl⟩:=hs.ints.isSlice
 refine box_kn (cs:=stpC s (.slice ad s.bases.length c)) rfl (.start w) fun b W hk hb1 hb=>?_
 refine box_kn (cs:=tktC t) rfl hk fun b2 W2 hk hb2 hbb=>?_
 have hQR:=hs.grp.2.1
 unfold I64 at hQR
 unfold formedM at k
 refine Xa hk.cells ?_
 refine rValidSetup_ok s (hs.next hk.below) (fun w1 h=>?_)
 have hk:=hk.next h
 clear h hb1 hb2
 cases hv:validS s with
 | false=>
  rw [hv,Bool.false_and,Bool.false_and,Bool.false_and] at k
  refine Xa0 ?_
  exact k _ hk.below
 | true=>
 have hq:=validS_Q hv
 rw [hv,Bool.true_and] at k
 by_cases hm1:t.mark = 1
 ·rw [decide_eq_true hm1,Bool.not_true,Bool.false_and,Bool.false_and] at k
  refine Xa (An2 hk.cells @hm1) ?_
  exact k _ hk.below
 rw [decide_eq_false hm1,Bool.not_false,Bool.true_and,Bool.and_comm] at k
 refine Xa (An2 hk.cells @hm1) ?_
 refine in_ok t.r 0 _ ?_
 rw [in_eq (by omega)]
 cases hn:numsM s 0 [t.r] with
 | false=>
  rw [hn,Bool.false_and] at k
  refine Xa0 ?_
  exact k _ hk.below
 | true=>
 rw [hn,Bool.true_and] at k
 repeat (any_goals (first
 | ((with_reducible refine mk5 t.mark t.first t.z t.a t.b ht.mark ht.first ht.z ht.a ht.b ?_); intro v8 W8 hb8 hi8)
 | (with_reducible first|refine zC ?_|refine yC ?_|refine yM ?_)
 | ((with_reducible refine oM_gen fun Kv hK=>?_); simp [go_sem,hk.cells]; refine hK _ _ ?_; clear hK Kv)))
 have hk:=hk.next hb8
 obtain ⟨ad8,c8,rfl⟩:=hi8.isSlice
 unfold elementsM at k
 generalize [t.mark,t.first,t.z,t.a,t.b] = l at *
 have hll:=hi8.len
 refine ⟨RfJ s.g (l.all (elemG s.g)) l W8,grMu l.length,⟨Below.refl _ _,_,0,rfl,by omega,rfl⟩,?_⟩
 generalize l.all (elemG s.g) = R at *
 rintro _ _ w6 ⟨h6,u,i,rfl,hi,ha⟩
 have hk:=hk.next h6
 by_cases hin:i = l.length
 ·rw [List.drop_of_length_le (by omega),List.all_nil] at ha
  refine Xa0 ?_
  rw [← ha] at k
  exact k _ hk.below
 ·rw [List.drop_eq_getElem_cons (by omega),List.all_cons] at ha
  obtain ⟨b1,o1,rfl,hb1,ca,ra,_⟩:=hi8.at (i:=i) (by omega)
  refine Xa0 ?_
  have hk:=hk.drew
  have h6:=h6.on (.drawn (B:=w6.heap.size))
  refine ⟨Nx { w6 with drawn:=w6.drawn + 1 },Below.refl _ _,rfl,?_⟩
  generalize ({ w6 with drawn:=w6.drawn + 1 }:World) = W6 at hk h6 ⊢
  refine Xc (fun W0 hW0=>An2 ((hk.next hW0).cells) (ca _ (h6.on hW0))) ?_
  refine ⟨Nx,fun w7 h7=>?_⟩
  refine rElement_ok s.g _ hs.grp (fun w8 h8=>?_)
  have hk:=(hk.next h7).next h8
  cases he:elemG s.g l[i] with
  | false=>
   rw [he,Bool.false_and] at ha
   subst ha
   refine Xa0 ?_
   exact k _ hk.below
  | true=>
   rw [he,Bool.true_and] at ha
   refine Xa0 ?_
   refine ⟨⟨(h6.on h7).on h8,_,i + 1,rfl,by omega,ha⟩,?_⟩
   simp only [grMu_eq]; omega
theorem rInner_ok (s:Stp) (t:Tkt) {v:Value} (ht:TktR t) (hs:SetR w s v) (k:∀ w',Below w.heap.size w w' → K (.int .i64 (innM s t)) w'):callM Tryz.prog 52 #[stpV s v,tktV t] K w:=by
 apply sh_52_ok
 unfold sh_52
 obtain ⟨ad,c,rfl⟩:=hs.ints.isSlice
 refine box_kn (cs:=stpC s (.slice ad s.bases.length c)) rfl (.start w) fun b W hk hb1 hb=>?_
 refine box_kn (cs:=tktC t) rfl hk fun b2 W2 hk hb2 hbb=>?_
 unfold innM at k
 refine Xa hk.cells ?_
 refine rFormed_ok s t ht (hs.next hk.below) (fun w1 h=>?_)
 have hk:=hk.next h
 cases hf:formedM s t with
 | false=>
  rw [hf,if_neg (by decide)] at k
  refine Xa0 ?_
  exact k _ hk.below
 | true=>
 rw [hf,if_pos rfl] at k
 refine Xa hk.cells ?_
 exact number_ok s t ht (hs.next hk.below) (fun w2 h2=>k _ (hk.next h2).below)
end
end Go.Proofs
namespace Go.Proofs
open Go Go.Sh Go.RowKit FdSpec TkSpec CodeSpec
section
variable {K:Value → World → Prop} {w w0:World} {L:List (Addr × Value)}
theorem rVal_ok (s:Stp) (key:Int) (t:Tkt) {v:Value} (ht:TktR t) (hs:SetR w s v) (k:∀ w',Below w.heap.size w w' → K (.bool (validM s key t)) w'):callM Tryz.prog 53 #[stpV s v,.int .i64 key,tktV t] K w:=by
 apply sh_53_ok
 unfold sh_53
 obtain ⟨ad,c,rfl⟩:=hs.ints.isSlice
 refine box_kn (cs:=stpC s (.slice ad s.bases.length c)) rfl (.start w) fun b W hk hb1 hb=>?_
 refine box_kn (cs:=tktC t) rfl hk fun b2 W2 hk hb2 hbb=>?_
 clear hb1 hb2
 refine Xa hk.cells ?_
 refine rInner_ok s t ht (hs.next hk.below) (fun w1 h=>?_)
 have hk:=hk.next h
 clear h
 refine Xa hk.cells ?_
 refine Key_ok s key (hs.next hk.below) (fun w2 h=>?_)
 have hk:=hk.next h
 clear h
 unfold validM at k
 unfold innM
 cases hf:formedM s t with
 | false=>
  rw [hf,Bool.false_and,Bool.false_and,Bool.false_and] at k
  rw [if_neg (by decide)]
  generalize (validS s && keyM s key) = q
  cases q with
  | false=>
   refine Xa0 ?_
   exact k _ hk.below
  | true=>
   refine Xa0 ?_
   exact k _ hk.below
 | true=>
 rw [hf,Bool.true_and] at k
 rw [if_pos rfl]
 have hv:validS s = true:=by
  unfold formedM at hf
  simp only [Bool.and_eq_true] at hf
  exact hf.1.1.1
 rw [hv,Bool.true_and]
 cases hke:keyM s key with
 | false=>
  rw [hke,Bool.false_and,Bool.false_and] at k
  refine Xa0 ?_
  exact k _ hk.below
 | true=>
 rw [hke,Bool.true_and] at k
 by_cases h0:innerQ s t = 0
 ·rw [decide_eq_true h0,Bool.not_true,Bool.false_and] at k
  refine Xa @h0 ?_
  exact k _ hk.below
 rw [decide_eq_false h0,Bool.not_false,Bool.true_and] at k
 unfold signedM genM at k
 dsimp only at k
 generalize innerQ s t = q at *
 refine Xa @h0 ?_
 have hk:=hk.drew
 refine ⟨Nx { w2 with drawn:=w2.drawn + 1 },Below.refl _ _,rfl,?_⟩
 generalize ({ w2 with drawn:=w2.drawn + 1 }:World) = W at hk ⊢
 refine Xc (fun W0 hW0=>(hk.next hW0).cells) ?_
 refine ⟨Nx,?_⟩
 apply monoE
 ·intro w1 h1
  exact qpower_ok s _ t.r (hs.next (hk.next h1).below) (fun w2 h2=>⟨h1.on h2,h2,rfl⟩)
 apply monoE
 ·intro w1 h1
  exact qpower_ok s key q (hs.next (hk.next h1).below) (fun w2 h2=>⟨h1.on h2,h2,rfl⟩)
 rintro w1 h1 _ rfl _ rfl
 have hk:=hk.next h1
 clear h1
 refine qtimes_ok s _ _ (hs.next hk.below) (fun w3 h3=>?_)
 have hk:=hk.next h3
 clear h3
 refine Xa0 ?_
 generalize decide (powerG s.g s.g.G t.r = timesM s (powerG s.g key q) [t.a]) = p1 at *
 have hk:=hk.drew
 refine ⟨Nx { w3 with drawn:=w3.drawn + 1 },Below.refl _ _,rfl,?_⟩
 generalize ({ w3 with drawn:=w3.drawn + 1 }:World) = W at hk ⊢
 cases p1 with
 | false=>
  rw [Bool.false_and] at k
  refine Xc (fun W0 hW0=>(hk.next hW0).cells) ?_
  refine ⟨Nx,?_⟩
  refine Xd0 ?_
  (intro w9 h9; repeat (intro v9 e9; try (obtain rfl:=e9)))
  refine Xa0 ?_
  exact k _ (hk.next h9).below
 | true=>
 rw [Bool.true_and] at k
 refine Xc (fun W0 hW0=>(hk.next hW0).cells) ?_
 refine ⟨Nx,?_⟩
 apply monoE
 ·intro w1 h1
  refine Xa0 ?_
  exact qpower_ok s _ t.r (hs.next (hk.next h1).below) (fun w2 h2=>⟨h1.on h2,h2,rfl⟩)
 apply monoE
 ·intro w1 h1
  refine Xa0 ?_
  exact qpower_ok s _ q (hs.next (hk.next h1).below) (fun w2 h2=>⟨h1.on h2,h2,rfl⟩)
 rintro w1 h1 _ rfl _ rfl
 have hk:=hk.next h1
 clear h1
 refine Xa0 ?_
 refine qtimes_ok s _ _ (hs.next hk.below) (fun w4 h4=>?_)
 have k:=k _ (hk.next h4).below
 refine Xa0 ?_
 exact k
theorem rEncode_ok (t:Tkt) (ht:TktR t) (k:∀ w',Below w.heap.size w w' → K (.string ⟨(encM t).toArray⟩) w'):callM Tryz.prog 57 #[tktV t] K w:=by
 apply sh_57_ok
 unfold sh_57
 refine box_kn (cs:=tktC t) rfl (.start w) fun b W hk hb1 hb=>?_
 repeat (any_goals (first
 | ((with_reducible refine mk6 t ht ?_); intro v8 W8 hb8 hi)
 | ((with_reducible refine oM_gen fun Kv hK=>?_); simp [go_sem,hk.cells]; refine hK _ _ ?_; clear hK Kv)))
 have hk:=hk.next hb8
 refine Cd.qNums_ok (tktL t) v8 (Ints.rowOf hi) (fun x hx=>(InR_iff x).2 (ht.all x hx)) (by have:=encM_len ht; unfold encM encNums at this; omega) (fun w' hb'=>?_)
 exact k _ (hk.next hb').below
theorem rLendDare_ok (s:Stp) (t:Tkt) (m:List UInt8) {v:Value} (hm:m.length ≤ 100000000) (ht:TktR t) (hs:SetR w s v) (k:∀ w',Below w.heap.size w w' → K (.int .i64 (lendM s t m)) w'):callM Tryz.prog 58 #[stpV s v,tktV t,.string ⟨m.toArray⟩] K w:=by
 apply sh_58_ok
 unfold sh_58
 obtain ⟨ad,c,rfl⟩:=hs.ints.isSlice
 refine box_kn (cs:=stpC s (.slice ad s.bases.length c)) rfl (.start w) fun b W hk hb1 hb=>?_
 refine box_kn (cs:=tktC t) rfl hk fun b2 W2 hk hb2 hbb=>?_
 unfold lendM at k
 refine Xa hk.cells ?_
 refine rValidSetup_ok s (hs.next hk.below) (fun w2 h=>?_)
 have hk:=hk.next h
 clear h hb1 hb2
 cases hv:validS s with
 | false=>
  rw [hv,if_neg (by decide)] at k
  refine Xa0 ?_
  exact k _ hk.below
 | true=>
 rw [hv,if_pos rfl] at k
 obtain ⟨hq1,hq2⟩:=validS_bd hv
 have hr:=numberM_range (encT t ++ encText m) _ (lend_nums hq1 hq2)
 have ed:s.g.Q.tdiv 2 = s.g.Q / 2:=Int.tdiv_eq_ediv_of_nonneg (by omega)
 have e0:IntKind.i64.wrap (s.g.Q / 2) = s.g.Q / 2:=wrapI64 _ (by omega) (by omega)
 have e1:IntKind.i64.wrap (s.g.Q / 2 + 1) = s.g.Q / 2 + 1:=wrapI64 _ (by omega) (by omega)
 have e2:IntKind.i64.wrap (s.g.Q - 1) = s.g.Q - 1:=wrapI64 _ (by omega) (by omega)
 have e3:IntKind.i64.wrap (s.g.Q - 1 - s.g.Q / 2) = s.g.Q - 1 - s.g.Q / 2:=wrapI64 _ (by omega) (by omega)
 have e4:IntKind.i64.wrap (s.g.Q / 2 + 1 + numberM (encT t ++ encText m) (s.g.Q - 1 - s.g.Q / 2)) = s.g.Q / 2 + 1 + numberM (encT t ++ encText m) (s.g.Q - 1 - s.g.Q / 2):=wrapI64 _ (by omega) (by omega)
 have hl1:=encM_len ht
 have hl2:=Cd.encText_len m (by omega)
 refine Xa (An3 hk.cells @ed @e0) ?_
 have hk:=hk.drew
 refine ⟨Nx { w2 with drawn:=w2.drawn + 1 },Below.refl _ _,rfl,?_⟩
 generalize ({ w2 with drawn:=w2.drawn + 1 }:World) = W at hk ⊢
 refine Xf (fun W0 hW0=>(hk.next hW0).cells) (An3 @e1 @e2 @e3) ?_
 refine ⟨Nx,?_⟩
 apply monoE
 ·intro w1 h1
  exact rEncode_ok t ht (fun w2 h2=>⟨h1.on h2,h2,rfl⟩)
 apply monoE
 ·intro w1 h1
  exact Cd.qText_ok m (by omega) (fun w2 h2=>⟨h1.on h2,h2,rfl⟩)
 refine Xd0 ?_
 apply monoE
 ·rintro w1 h1 _ rfl
  rw [encT_eq] at hl1 ⊢
  exact rNumber_ok (encT t ++ encText m) _ (by rw [List.length_append]; omega) (fun w2 h2=>⟨h1.on h2,h2,rfl⟩)
 (intro w9 h9; repeat (intro v9 e9; try (obtain rfl:=e9)))
 refine Xa @e4 ?_
 exact k _ (hk.next h9).below
theorem rAccepts_ok (s:Stp) (t:Tkt) (x:Spd) {v xv:Value} (ht:TktR t) (hs:SetR w s v) (hx:SpdR w x xv) (k:∀ w',Below w.heap.size w w' → K (.bool (acceptsM s t x)) w'):callM Tryz.prog 54 #[stpV s v,tktV t,spdV x xv] K w:=by
 apply sh_54_ok
 unfold sh_54
 obtain ⟨ad,c,rfl⟩:=hs.ints.isSlice
 have hans:=hx.answers
 obtain ⟨xad,xc,rfl⟩:=hx.answers.isSlice
 have k2:∀ w' r,acceptsM s t x = r → Below w.heap.size w w' → K (.bool r) w':=fun w' r e hb=>by rw [← e]; exact k w' hb
 clear k
 refine box_kn (cs:=stpC s (.slice ad s.bases.length c)) rfl (.start w) fun b1 W hk hb1 hbb=>?_
 refine box_kn (cs:=tktC t) rfl hk fun b2 W2 hk hb2 hbb=>?_
 refine box_kn (cs:=spdC x (.slice xad x.answers.length xc)) rfl hk fun b3 W3 hk hb3 hbb=>?_
 have hQR:=hs.grp.2.1
 unfold I64 at hQR
 refine Xa hk.cells ?_
 refine rFormed_ok s t ht (hs.next hk.below) (fun w2 h2=>?_)
 have hk:=hk.next h2
 clear hb1 h2 hb2 hb3
 cases hf:formedM s t with
 | false=>
  refine Xa0 ?_
  exact k2 _ _ (acceptsM_no (.inl hf)) hk.below
 | true=>
 have hv:validS s = true:=by
  unfold formedM at hf
  simp only [Bool.and_eq_true] at hf
  exact hf.1.1.1
 have hq:=validS_Q hv
 refine Xa hk.cells ?_
 refine in_ok x.dare 1 _ ?_
 rw [in_eq (by omega)]
 cases hn:numsM s 1 [x.dare] with
 | false=>
  refine Xa0 ?_
  exact k2 _ _ (acceptsM_no (.inr (.inl hn))) hk.below
 | true=>
 refine Xa hk.cells ?_
 refine residues_ok s s.bases.length (by omega) (hs.next hk.below) (hans.next hk.below) (by omega) (fun w3 h3=>?_)
 have hk:=hk.next h3
 clear h3
 by_cases hal:x.answers.length = s.bases.length
 rotate_left
 ·rw [decide_eq_false hal,Bool.false_and]
  refine Xa0 ?_
  exact k2 _ _ (acceptsM_no (.inr (.inr (.inl hal)))) hk.below
 rw [decide_eq_true hal,Bool.true_and]
 cases hn0:numsM s 0 x.answers with
 | false=>
  refine Xa0 ?_
  exact k2 _ _ (acceptsM_no (.inr (.inr (.inr hn0)))) hk.below
 | true=>
 have ey:acceptsM s t x = decide ((prodG s.g s.bases x.answers).1 = timesM s (powerG s.g t.mark x.dare) [t.first]):=by
  unfold acceptsM
  rw [if_pos (by rw [hf,hn,hn0,decide_eq_true hal]; rfl)]
 refine Xa0 ?_
 have hk:=hk.drew
 refine ⟨Nx { w3 with drawn:=w3.drawn + 1 },Below.refl _ _,rfl,?_⟩
 generalize ({ w3 with drawn:=w3.drawn + 1 }:World) = W at hk ⊢
 refine Xc (fun W0 hW0=>(hk.next hW0).cells) ?_
 refine ⟨Nx,?_⟩
 apply monoE
 ·intro w1 h1
  exact qproduct_ok s (hs.next (hk.next h1).below) (hans.next (hk.next h1).below) (fun w2 h2=>⟨h1.on h2,h2,rfl⟩)
 apply monoE
 ·intro w1 h1
  exact qpower_ok s _ x.dare (hs.next (hk.next h1).below) (fun w2 h2=>⟨h1.on h2,h2,rfl⟩)
 rintro w1 h1 _ rfl _ rfl
 have hk:=hk.next h1
 refine qtimes_ok s _ _ (hs.next hk.below) (fun w4 h4=>?_)
 have k:=k2 _ _ ey (hk.next h4).below
 refine Xa0 ?_
 exact k
end
end Go.Proofs
namespace Go.Proofs
open Go Go.Sh Go.RowKit FdSpec TkSpec CodeSpec
end Go.Proofs
namespace Go.Proofs
open Go Go.Sh Go.RowKit FdSpec TkSpec CodeSpec
section
variable {K:Value → World → Prop} {w w0:World} {L:List (Addr × Value)}
theorem eql_grp (T:TypeId) (a b:Grp):oM Tryz.prog (.binOp .eql 30 (.tmp 0) (.tmp 1) 30) T [grpV a,grpV b] = pureM (.bool (decide (a = b))):=by
 funext K w
 have h1:(eqGuard .eql 30 (.tmp 0) (.tmp 1) (grpV a) (grpV b)).run Tryz.prog w = .ok () w:=run_eqGuard_agg w _ _ _ _ _ _ (by kernel_rfl)
 have h2:(binOp .eql 30 (grpV a) (grpV b)).run Tryz.prog w = .ok (.bool (decide (a = b))) w:=by
  rw [run_eql_struct,run_equalIn_agg w 9999 30 _ _ (by kernel_rfl) (by kernel_rfl)]
  have u3:=Tryz.underlying3
  have e:decide (a = b) = ((a.P == b.P) && (a.Q == b.Q) && (a.G == b.G)):=by
   obtain ⟨a1,a2,a3⟩:=a
   obtain ⟨b1,b2,b3⟩:=b
   simp [Grp.mk.injEq,and_assoc,Bool.and_assoc]
   rfl
  rw [e]
  simp [go_sem,Program.fieldsOf,Tryz.underlying30,Op.eqFields,part,u3]
  repeat' split
  all_goals simp_all
 unfold oM opM
 simp [xop,execOp,evalL,evE,h1,h2]
 exact Iff.rfl
theorem rSameSetup_ok (s t:Stp) {v u:Value} (hs:Ints w v s.bases) (ht:Ints w u t.bases) (k:∀ w',Below w.heap.size w w' → K (.bool (decide (s.g = t.g) && (decide (s.blind = t.blind) && decide (s.bases = t.bases)))) w'):callM Tryz.prog 150 #[stpV s v,stpV t u] K w:=by
 apply sh_150_ok
 unfold sh_150
 have hs':=hs
 have ht':=ht
 obtain ⟨ad,c,rfl⟩:=hs.isSlice
 obtain ⟨ad2,c2,rfl⟩:=ht.isSlice
 refine box_kn (cs:=stpC s (.slice ad s.bases.length c)) rfl (.start w) fun b1 W hk hb1 hbb=>?_
 refine box_kn (cs:=stpC t (.slice ad2 t.bases.length c2)) rfl hk fun b2 W2 hk hb2 hbb=>?_
 have eg:=fun T=>eql_grp T s.g t.g
 by_cases hg:s.g = t.g
 rotate_left
 ·rw [decide_eq_false hg,Bool.false_and] at k
  simp only [decide_eq_false hg] at eg
  refine Xa (An2 hk.cells @eg) ?_
  exact k _ hk.below
 rw [decide_eq_true hg,Bool.true_and] at k
 simp only [decide_eq_true hg] at eg
 by_cases hbl:s.blind = t.blind
 rotate_left
 ·rw [decide_eq_false hbl,Bool.false_and] at k
  refine Xa (An3 hk.cells @eg @hbl) ?_
  exact k _ hk.below
 rw [decide_eq_true hbl,Bool.true_and] at k
 refine Xa (An3 hk.cells @eg @hbl) ?_
 refine rSameInts_ok (hs'.next hk.below) (ht'.next hk.below) (fun w3 h3=>?_)
 have k:=k _ (hk.next h3).below
 generalize decide (s.bases = t.bases) = q at *
 refine Xa0 ?_
 exact k
def RmJ (Wl:World) (g:Nat) (T:TypeId) (cs:Value → List Value) (p:Int → Bool) (ms al:List Int) (R:Bool) (vs:List Value) (w':World):Prop:=∃ (v ov:Value) (i:Nat),vs = [v,.int .i64 (i:Int)] ∧ i ≤ al.length ∧ (ms.drop i).any p = R ∧ GrI Wl w' g T (cs ov) ov (al.take i)
theorem rMake_ok (g:Grp) (m:Mir) {mv:Value} (hg:GrpR g) (hT:DbT w) (hm:MirR w m mv)
  (k:∀ w' sv,Below w.heap.size w w' → SetR w' (makeM g m).1 sv → K (.tuple #[stpV (makeM g m).1 sv,.bool (makeM g m).2]) w'):callM Tryz.prog 149 #[grpV g,mirV m mv] K w:=by
 apply sh_149_ok
 unfold sh_149
 have hms:=hm.ints
 obtain ⟨ad,c,rfl⟩:=hm.ints.isSlice
 have k2:∀ w' sv r,makeM g m = r → Below w.heap.size w w' → SetR w' r.1 sv → K (.tuple #[stpV r.1 sv,.bool r.2]) w':=fun w' sv r e hb hi=>by
  rw [← e] at hi ⊢
  exact k w' sv hb hi
 clear k
 have hno:=makeM_no (g:=g) (m:=m)
 have hml:=hms.len
 refine box_kn (cs:=[.int .i64 g.P,.int .i64 g.Q,.int .i64 g.G]) rfl (.start w) fun b1 W hk hb1 hbb=>?_
 refine box_kn (cs:=mirC m (.slice ad m.bases.length c)) rfl hk fun b2 W2 hk hb2 hbb=>?_
 refine alloc_mine (n:=5) al_stp rfl hk fun g0 W3 hk hb3 hg0=>?_
 clear hb1 hb2 hb3
 have bad:makeM g m = (⟨⟨0,0,0⟩,[],0⟩,false) → ∀ w2 (hk:KnM w (cellsOf (cellsOf [] b1 0 [.int .i64 g.P,.int .i64 g.Q,.int .i64 g.G]) b2 0 (mirC m (.slice ad m.bases.length c))) g0 5 w2),
   oM Tryz.prog (Go.Op.store 32 (.tmp 0) (.tmp 1)) 0 [.pointer (some ⟨g0,0,none⟩),stpV zS (.slice none 0 0)] (fun _ w=>
    ∃ r_29,(do loadVar 32 (← asAddr (.pointer (some ⟨g0,0,none⟩))):Sem Value).run Tryz.prog w = .ok r_29 w ∧ K (.tuple #[r_29,(.bool false)]) w) w2:=fun e w2 hk=>
  store_stp zS none 0 0 hk (fun W3 hk hc _=>⟨_,by simp [go_sem,hc],k2 _ _ _ e hk.below (zS_R (hT.next hk.below) (Ints.nil _))⟩)
 refine Xa hk.cells ?_
 refine rValidGroup_ok g hg (fun w2 h2=>?_)
 have hk:=hk.next h2
 clear h2
 cases hv:validG g with
 | false=>
  refine Xa hk.cells ?_
  exact bad (hno (.inl hv)) _ hk
 | true=>
 by_cases h2:(m.bases.length:Int) < 2
 ·refine Xa (An2 hk.cells @h2) ?_
  exact bad (hno (.inr (.inl (by omega)))) _ hk
 by_cases h7:(7:Int) < m.bases.length
 ·refine Xa (An3 hk.cells @h2 @h7) ?_
  exact bad (hno (.inr (.inr (.inl (by omega))))) _ hk
 by_cases hb1:m.blind < 1
 ·refine Xa (An4 hk.cells @h2 @h7 @hb1) ?_
  exact bad (hno (.inr (.inr (.inr (.inr (by unfold badN; rw [decide_eq_true hb1]; rfl)))))) _ hk
 by_cases hb2:g.Q ≤ m.blind
 ·refine Xa (An5 hk.cells @h2 @h7 @hb1 @hb2) ?_
  exact bad (hno (.inr (.inr (.inr (.inr (by unfold badN; rw [decide_eq_true hb2,Bool.or_true]))))) ) _ hk
 have hb:badN g m.blind = false:=by unfold badN; rw [decide_eq_false hb1,decide_eq_false hb2]; rfl
 have ey:m.bases.any (badN g) = false → makeM g m = (⟨g,m.bases.map (powerG g g.G),powerG g g.G m.blind⟩,true):=fun ha=>by
  unfold makeM
  rw [if_pos]
  rw [hv,ha,hb,decide_eq_true (by omega:2 ≤ m.bases.length),decide_eq_true (by omega:m.bases.length ≤ 7)]; rfl
 refine Xa (An5 hk.cells @h2 @h7 @hb1 @hb2) ?_
 have hk:=hk.drew
 refine ⟨Nx { w2 with drawn:=w2.drawn + 1 },Below.refl _ _,rfl,?_⟩
 generalize ({ w2 with drawn:=w2.drawn + 1 }:World) = W at hk ⊢
 refine Xc (fun W0 hW0=>(hk.next hW0).cells) ?_
 refine ⟨Nx,?_⟩
 apply monoE
 ·intro w1 h1
  exact rPower_ok g g.G m.blind (fun w2 h2=>⟨h1.on h2,h2,rfl⟩)
 repeat (apply monoE; focus (intro w9 h9; (repeat (intro v9 e9; try (obtain rfl:=e9))); (repeat (any_goals ((with_reducible refine oM_gen fun Kv hK=>?_); simp [go_sem,build_stp2]; refine hK _ _ ?_; clear hK Kv))); exact ⟨h9,Below.refl _ _,rfl⟩))
 refine monoR (fun v w'=>∃ g2,v = ptr g2 0 ∧ W.heap.size ≤ g2 ∧ Holds w' g2 32 (stpC zS (.slice none 0 0))) (fun v w w1 hS h=>h.imp fun g2 h=>⟨h.1,h.2.1,h.2.2.next hS⟩) ?_ ?_
 ·intro w1 h1
  exact arr_alloc al_stp (fun g2 w2 h2 hg2 hh=>⟨h1.on h2,h2,g2,rfl,Nat.le_trans h1.size hg2,hh⟩)
 (intro w9 h9; repeat (intro v9 e9; try (obtain rfl:=e9)))
 obtain ⟨g2,rfl,hg2,hh⟩:=e9
 refine arr_store sz_stp (xs:=stpC ⟨g,[],powerG g g.G m.blind⟩ (.slice none 0 0)) rfl rfl (stp_one ⟨g,[],powerG g g.G m.blind⟩ none 0 0) hh rfl (fun w10 hg10 hh=>?_)
 have h10:=grown_below h9 hg10 hg2
 have hgW:g0 < W.heap.size:=mine_lt hk.mine
 have hoffL:=cells_lt hk.cells
 have hk:=hk.next h10
 clear hg10 h9
 have hne:g0 ≠ g2:=by omega
 have hoff:∀ p ∈ cellsOf (cellsOf [] b1 0 [.int .i64 g.P,.int .i64 g.Q,.int .i64 g.G]) b2 0 (mirC m (.slice ad m.bases.length c)),p.1.block ≠ g2:=fun p hp=>by have:=hoffL p hp; omega
 have hbase:w.heap.size ≤ g2:=Nat.le_trans hk.base (by omega)
 have hal:(m.bases.map (powerG g g.G)).length = m.bases.length:=List.length_map _
 have hrng:∀ n ∈ m.bases.map (powerG g g.G),I64 n:=by
  intro n hn
  obtain ⟨x,_,rfl⟩:=List.mem_map.1 hn
  exact powerG_I64 _ _ _
 have hat:∀ i (h:i < m.bases.length),(m.bases.map (powerG g g.G))[i]? = some (powerG g g.G m.bases[i]):=fun i h=>by simp [h]
 generalize m.bases.map (powerG g g.G) = al at *
 refine ⟨RmJ w10 g2 32 (fun ov=>stpC ⟨g,[],powerG g g.G m.blind⟩ ov) (badN g) m.bases al (m.bases.any (badN g)),grMu m.bases.length,⟨_,.slice none 0 0,0,rfl,by omega,by rw [List.drop_zero],.start hh.lt hh⟩,?_⟩
 have hk0:=hk
 rintro _ _ w6 ⟨u,ov,i,rfl,hi,ha,hgr⟩
 have hk:=hk0.fr hgr.fr hoff hne hbase
 by_cases hin:i = m.bases.length
 ·rw [List.drop_of_length_le (by omega)] at ha
  have ey:=ey ha.symm
  have ho:=hgr.own
  rw [List.take_of_length_le (by omega)] at ho
  have hints:=ho.ints hrng (by omega)
  obtain ⟨g',oc,cur,rfl,hlt,hB,_,_,_,_⟩:=owns_cells ho (by omega)
  refine Xa (An2 hk.cells hgr.holds.are) ?_
  refine store_stp ⟨g,al,powerG g g.G m.blind⟩ (some ⟨g',0,none⟩) al.length oc hk (fun W3 hk hc hg3=>⟨stpV ⟨g,al,powerG g g.G m.blind⟩ (.slice (some ⟨g',0,none⟩) al.length oc),by simp [go_sem,hc],k2 W3 (.slice (some ⟨g',0,none⟩) al.length oc) _ ey hk.below ⟨hg,⟨hints.row.keep hg3.size (fun i hi hlt=>hg3.block i hlt ?_),hrng,by show al.length ≤ _; omega⟩,powerG_I64 _ _ _,hT.next hk.below⟩⟩)
  cases hi
  intro e
  have e2:g' = g0:=Option.some.inj e
  have:=hh.lt
  omega
 ·rw [List.drop_eq_getElem_cons (by omega),List.any_cons] at ha
  obtain ⟨b8,o8,rfl,hb8',ca,ra,_⟩:=hms.at (i:=i) (by omega)
  have hat:=hat i (by omega)
  have htk:=take_snoc' hat
  generalize m.bases[i] = x at *
  refine Xa hk.cells ?_
  have hk:=hk.drew
  have hgr:=hgr.next (.drawn (B:=w6.heap.size))
  refine ⟨Nx { w6 with drawn:=w6.drawn + 1 },Below.refl _ _,rfl,?_⟩
  generalize ({ w6 with drawn:=w6.drawn + 1 }:World) = W6 at hk hgr ⊢
  by_cases hx1:x < 1
  ·have hbx:badN g x = true:=by unfold badN; rw [decide_eq_true hx1]; rfl
   rw [hbx,Bool.true_or] at ha
   refine Xf (fun W0 hW0=>An2 ((hk.next hW0).cells) (ca _ (hk.next hW0).below)) @hx1 ?_
   refine ⟨Nx,fun w7 h7=>?_⟩
   refine Xa0 ?_
   exact bad (hno (.inr (.inr (.inr (.inl ha.symm))))) _ (hk.next h7)
  by_cases hx2:g.Q ≤ x
  ·have hbx:badN g x = true:=by unfold badN; rw [decide_eq_true hx2,Bool.or_true]
   rw [hbx,Bool.true_or] at ha
   refine Xf (fun W0 hW0=>An2 ((hk.next hW0).cells) (ca _ (hk.next hW0).below)) (An2 @hx1 @hx2) ?_
   refine ⟨Nx,fun w7 h7=>?_⟩
   refine Xa0 ?_
   exact bad (hno (.inr (.inr (.inr (.inl ha.symm))))) _ (hk.next h7)
  have hbx:badN g x = false:=by unfold badN; rw [decide_eq_false hx1,decide_eq_false hx2]; rfl
  rw [hbx,Bool.false_or] at ha
  refine Xf (fun W0 hW0=>An2 ((hk.next hW0).cells) (ca _ (hk.next hW0).below)) (An2 @hx1 @hx2) ?_
  refine ⟨Nx,fun w7 h7=>?_⟩
  refine Xa0 ?_
  have hk:=(hk.next h7).drew
  have hgr:=(hgr.next h7).next (.drawn (B:=w7.heap.size))
  clear h7
  refine ⟨Nx { w7 with drawn:=w7.drawn + 1 },Below.refl _ _,rfl,?_⟩
  generalize ({ w7 with drawn:=w7.drawn + 1 }:World) = W6 at hk hgr ⊢
  refine Xc (fun W0 hW0=>An3 ((hk.next hW0).cells) (ca _ (hk.next hW0).below) ((hgr.next hW0).holds.are)) ?_
  refine ⟨Nx,?_⟩
  apply monoE
  ·intro w1 h1
   exact rPower_ok g g.G x (fun w2 h2=>⟨h1.on h2,h2,rfl⟩)
  refine monoR (fun v w'=>Ints w' v [powerG g g.G x]) (fun v w w1 hS h=>h.next hS) ?_ ?_
  ·rintro w1 h1 _ rfl
   exact mk1 _ (powerG_I64 _ _ _) (fun v w2 h2 hi=>⟨h1.on h2,h2,hi⟩)
  rintro w9 h9 _ rfl v9 hi9
  refine gr_append (hgr.next h9) hi9 (by rw [List.length_take]; omega) (fun ad n c w11 hgr=>?_)
  refine Xa0 ?_
  refine gr_store (i:=3) hgr (show 3 < 5 by decide) (fun w12 hgr=>?_)
  refine Xa0 ?_
  rw [htk] at hgr
  refine ⟨⟨_,_,i + 1,rfl,by omega,ha,hgr⟩,?_⟩
  simp only [grMu_eq]; omega
end
end Go.Proofs
namespace Go.Proofs
open Go Go.Sh Go.RowKit FdSpec TkSpec CodeSpec
section
variable {K:Value → World → Prop} {w w0:World} {L:List (Addr × Value)}
theorem makeM_g {g:Grp} {m:Mir} (h:(makeM g m).2 = true):(makeM g m).1.g = g:=by
 unfold makeM at h ⊢
 split at h
 ·rename_i hc
  rw [if_pos hc]
 ·cases h
theorem rMirrors_ok (s:Stp) (m:Mir) {v mv:Value} (hs:SetR w s v) (hm:MirR w m mv) (k:∀ w',Below w.heap.size w w' → K (.bool (mirrorsM s m)) w'):callM Tryz.prog 97 #[stpV s v,mirV m mv] K w:=by
 apply sh_97_ok
 unfold sh_97
 have hss:=hs
 obtain ⟨ad,c,rfl⟩:=hs.ints.isSlice
 have hms:=hm
 obtain ⟨mad,mc,rfl⟩:=hm.ints.isSlice
 refine box_kn (cs:=stpC s (.slice ad s.bases.length c)) rfl (.start w) fun b1 W hk hb1 hbb=>?_
 refine box_kn (cs:=mirC m (.slice mad m.bases.length mc)) rfl hk fun b2 W2 hk hb2 hbb=>?_
 clear hb1 hb2
 unfold mirrorsM at k
 have hg:=makeM_g (g:=s.g) (m:=m)
 refine Xa hk.cells ?_
 refine rMake_ok s.g m hs.grp (hs.db.next hk.below) (hms.next hk.below) (fun w3 sv h3 hr=>?_)
 have hk:=hk.next h3
 obtain ⟨sad,sc,rfl⟩:=hr.ints.isSlice
 generalize (makeM s.g m).1 = t at *
 generalize (makeM s.g m).2 = q at *
 refine Xb2_0 ?_
 refine local_stp t sad t.bases.length sc hk (fun b7 W7 hk hb7 hg7=>?_)
 cases q with
 | false=>
  rw [Bool.false_and,Bool.false_and] at k
  refine Xa0 ?_
  exact k _ hk.below
 | true=>
 rw [Bool.true_and] at k
 refine Xa hk.cells ?_
 refine rSameSetup_ok s t (hss.ints.next hk.below) (hr.ints.next hb7) (fun w8 h8=>?_)
 rw [hg rfl]
 simp only [decide_true,Bool.true_and]
 have e1:decide (s.blind = t.blind) = decide (t.blind = s.blind):=decide_eq_decide.2 eq_comm
 have e2:decide (s.bases = t.bases) = decide (t.bases = s.bases):=decide_eq_decide.2 eq_comm
 rw [e1,e2]
 have k:=k _ (hk.next h8).below
 generalize (decide (t.blind = s.blind) && decide (t.bases = s.bases)) = q at *
 refine Xa0 ?_
 exact k
def RloJ (s:Stp) (ps:List (Int × Int)) (R:Int) (w0:World) (vs:List Value) (w':World):Prop:=Below w0.heap.size w0 w' ∧ ∃ (o:Int) (i:Nat),vs = [.int .i64 o,.int .i64 (i:Int)] ∧ i ≤ ps.length ∧ (ps.drop i).foldl (logF s) o = R
theorem rlog_ok (s:Stp) (m:Mir) {dv mv lv:Value} {l:List Int} (hs:SetR w s dv) (hm:MirR w m mv) (hl:Ints w lv l) (hln:l.length < 1000) (hml:m.bases.length = l.length + 1)
  (k:∀ w',Below w.heap.size w w' → K (.int .i64 (logM s m l)) w'):callM Tryz.prog 103 #[stpV s dv,mirV m mv,lv] K w:=by
 apply sh_103_ok
 unfold sh_103
 obtain ⟨ad,c,rfl⟩:=hs.ints.isSlice
 have hms:=hm.ints
 obtain ⟨mad,mc,rfl⟩:=hm.ints.isSlice
 refine box_kn (cs:=stpC s (.slice ad s.bases.length c)) rfl (.start w) fun b1 W hk hb1 hbb=>?_
 refine box_kn (cs:=mirC m (.slice mad m.bases.length mc)) rfl hk fun b2 W2 hk hb2 hbb=>?_
 clear hb1 hb2
 have el:logM s m l = ((expsM l).zip m.bases).foldl (logF s) 0:=rfl
 rw [el] at k
 have hel:(expsM l).length = l.length + 1:=rfl
 refine Exps_ok (hl.next hk.below) (by omega) (fun ev w3 h3 he=>?_)
 have hk:=hk.next h3
 clear h3
 obtain ⟨ead,ec,rfl⟩:=he.isSlice
 have hzl:((expsM l).zip m.bases).length = l.length + 1:=by rw [List.length_zip]; omega
 have hzd:=fun i h1 h2=>zip_drop (expsM l) m.bases i h1 h2
 refine ⟨RloJ s ((expsM l).zip m.bases) (((expsM l).zip m.bases).foldl (logF s) 0) w3,grMu (expsM l).length,⟨Below.refl _ _,0,0,rfl,by omega,rfl⟩,?_⟩
 generalize ((expsM l).zip m.bases).foldl (logF s) 0 = R at *
 rintro _ _ w6 ⟨h6,o,i,rfl,hi,ha⟩
 have hk:=hk.next h6
 by_cases hin:i = (expsM l).length
 ·rw [List.drop_of_length_le (by omega)] at ha
  refine Xa0 ?_
  rw [show R = o from ha.symm] at k
  exact k _ hk.below
 ·rw [hzd i (by omega) (by omega)] at ha
  obtain ⟨b8,o8,rfl,hb8,ca,ra,_⟩:=he.at (i:=i) (by omega)
  obtain ⟨b9,o9,rfl,hb9,cb,rb,_⟩:=hms.at (i:=i) (by omega)
  generalize (expsM l)[i] = x at *
  generalize m.bases[i] = y at *
  refine Xa0 ?_
  have hk:=hk.drew
  have h6:=h6.on (.drawn (B:=w6.heap.size))
  refine ⟨Nx { w6 with drawn:=w6.drawn + 1 },Below.refl _ _,rfl,?_⟩
  generalize ({ w6 with drawn:=w6.drawn + 1 }:World) = W6 at hk h6 ⊢
  refine Xc (fun W0 hW0=>An3 ((hk.next hW0).cells) (cb _ (hk.next hW0).below) (ca _ (h6.on hW0))) ?_
  refine ⟨Nx,?_⟩
  apply monoE
  ·intro w1 h1
   exact qmul_ok s x y (hs.next (hk.next h1).below) (fun w2 h2=>⟨h1.on h2,h2,rfl⟩)
  rintro w9 h9 _ rfl
  refine rAdd_ok _ _ _ ?_
  refine Xa0 ?_
  refine ⟨⟨h6.on h9,_,i + 1,rfl,by omega,ha⟩,?_⟩
  simp only [grMu_eq]; omega
theorem rObtains_ok (s:Stp) (key:Int) (x:Ses) (b:Bld) (t:Tkt) {v xv bv:Value} (hs:SetR w s v) (hx:SesR w x xv) (hb:BldR w b bv)
  (k:∀ w',Below w.heap.size w w' → K (.bool ((obtainedM s key x b).2 && decide ((obtainedM s key x b).1 = t))) w') :
  callM Tryz.prog 100 #[stpV s v,.int .i64 key,sesV x xv,bldV b bv,tktV t] K w:=by
 apply sh_100_ok
 unfold sh_100
 obtain ⟨ad,cc,rfl⟩:=hs.ints.isSlice
 have ha:=hx.attrs
 obtain ⟨xad,xc,rfl⟩:=hx.attrs.isSlice
 have hb':=hb
 obtain ⟨yad,yc,rfl⟩:=hb.ys.isSlice
 refine box_kn (cs:=stpC s (.slice ad s.bases.length cc)) rfl (.start w) fun b1 W hk hb1 hbb=>?_
 refine box_kn (cs:=sesC x (.slice xad x.attrs.length xc)) rfl hk fun b2 W2 hk hb2 hbb=>?_
 refine box_kn (cs:=bldC b (.slice yad b.ys.length yc)) rfl hk fun b3 W3 hk hb3 hbb=>?_
 refine box_kn (cs:=tktC t) rfl hk fun b4 W4 hk hb4 hbb=>?_
 clear hb1 hb2 hb3 hb4
 refine Xa hk.cells ?_
 refine qAsk_ok s key x.offer b hx.offer (hs.next hk.below) (ha.next hk.below) (hb'.next hk.below) (fun w4 h4=>?_)
 have hk:=hk.next h4
 clear h4
 refine Xa hk.cells ?_
 refine qFinish_ok s key x.r x.offer b hx.offer (hs.next hk.below) (ha.next hk.below) (hb'.next hk.below) (fun w4 h4=>?_)
 have hk:=hk.next h4
 clear h4
 have eo:obtainedM s key x b = if decide ((askM s key x.attrs x.offer b).2 = 0) && decide ((askM s key x.attrs x.offer b).1 = x.c) then
  ((finishM s key x.attrs x.offer b x.r).1,decide ((finishM s key x.attrs x.offer b x.r).2 = 0)) else (zT,false):=rfl
 rw [eo] at k
 clear eo
 generalize (askM s key x.attrs x.offer b).1 = c1 at *
 generalize (askM s key x.attrs x.offer b).2 = e1 at *
 generalize (finishM s key x.attrs x.offer b x.r).1 = t2 at *
 generalize (finishM s key x.attrs x.offer b x.r).2 = e2 at *
 refine Xb2_0 ?_
 refine local_tkt t2 hk (fun g7 W7 hk hb7 hg7=>?_)
 by_cases he:e1 = 0
 rotate_left
 ·rw [decide_eq_false he,Bool.false_and,if_neg (by decide)] at k
  refine Xa (An2 hk.cells @he) ?_
  exact k _ hk.below
 by_cases he2:e2 = 0
 rotate_left
 ·have k:=k _ hk.below
  rw [decide_eq_false he2] at k
  refine Xa (An3 hk.cells @he @he2) ?_
  split at k <;> exact k
 by_cases hc:c1 = x.c
 rotate_left
 ·rw [decide_eq_false hc,Bool.and_false,if_neg (by decide)] at k
  refine Xa (An4 hk.cells @he @hc @he2) ?_
  exact k _ hk.below
 rw [decide_eq_true he,decide_eq_true hc,Bool.true_and,if_pos rfl,decide_eq_true he2,Bool.true_and] at k
 have en:=fun T=>eql_tkt T t2 t
 have k:=k _ hk.below
 generalize decide (t2 = t) = q at *
 refine Xa (An5 hk.cells @he @hc @he2 @en) ?_
 exact k
end
end Go.Proofs
namespace Go.Proofs
open Go Go.Sh Go.RowKit FdSpec TkSpec CodeSpec
section
variable {K:Value → World → Prop} {w w0:World} {L:List (Addr × Value)}
theorem Exps_okF {lv:Value} {l:List Int} (hl:Ints w lv l) (hll:l.length < 1000000) (k:∀ v w',Below w.heap.size w w' → Ints w' v (expsM l) → (∀ i,Value.inBlock v = some i → w.heap.size ≤ i) → K v w'):callM Tryz.prog 105 #[lv] K w:=by
 apply sh_105_ok
 unfold sh_105
 refine mkI1 1 fun v W h1 ho=>?_
 refine appendI ho h1.size (hl.next h1) (by simp; omega) (fun v' w' ho' h2=>?_)
 have hI:=ho'.ints (by
  intro n hn
  rcases List.mem_cons.1 hn with rfl | hn
  ·exact ⟨by decide,by decide⟩
  ·exact hl.rng n hn) (by simp; omega)
 refine k _ _ (h1.trans h2) hI ?_
 obtain ⟨g',oc,cur,rfl,_,hB,_,_,_,_⟩:=owns_cells ho' (by simp)
 intro i hi
 cases hi
 exact hB
def RuJ (Wl:World) (g:Nat) (T:TypeId) (cs:Value → List Value) (al:List Int) (vs:List Value) (w':World):Prop:=∃ (ov:Value) (i:Nat),vs = [.int .i64 (i:Int)] ∧ i ≤ al.length ∧ GrI Wl w' g T (cs ov) ov (al.take i)
def ruMu (n:Nat) (l:List Value) (_:World):Nat:=match l with | [.int _ i]=>n - i.toNat | _=>0
theorem ruMu_eq (n:Nat) (k:IntKind) (i:Int) (w:World):ruMu n [.int k i] w = n - i.toNat:=rfl
theorem build_spd0 (T:TypeId):oM Tryz.prog (Go.Op.build 49 #[]) T [] = pureM (spdV ⟨0,[]⟩ (.slice none 0 0)):=by
 funext K w
 kernel_rfl
theorem build_spd1 (T:TypeId) (x:Int):oM Tryz.prog (Go.Op.build 49 #[(0,(.tmp 0))]) T [.int .i64 x] = pureM (spdV ⟨x,[]⟩ (.slice none 0 0)):=by
 funext K w
 kernel_rfl
theorem rUse_ok (s:Stp) (b:Bld) (dare:Int) {v bv lv:Value} {l:List Int} (hd:I64 dare) (hs:SetR w s v) (hl:Ints w lv l) (hb:BldR w b bv)
  (k:∀ w' ov,Below w.heap.size w w' → Ints w' ov (useM s l b dare).1.answers → K (.tuple #[spdV (useM s l b dare).1 ov,.bool (useM s l b dare).2]) w'):callM Tryz.prog 46 #[stpV s v,lv,bldV b bv,.int .i64 dare] K w:=by
 apply sh_46_ok
 unfold sh_46
 obtain ⟨ad,c,rfl⟩:=hs.ints.isSlice
 have hys:=hb.ys
 have hb0:=hb
 obtain ⟨yad,yc,rfl⟩:=hb.ys.isSlice
 have k2:∀ w' ov r,useM s l b dare = r → Below w.heap.size w w' → Ints w' ov r.1.answers → K (.tuple #[spdV r.1 ov,.bool r.2]) w':=fun w' ov r e hb hi=>by
  rw [← e] at hi ⊢
  exact k w' ov hb hi
 clear k
 refine box_kn (cs:=stpC s (.slice ad s.bases.length c)) rfl (.start w) fun b1 W hk hb1 hbb=>?_
 refine box_kn (cs:=bldC b (.slice yad b.ys.length yc)) rfl hk fun b2 W2 hk hb2 hbb=>?_
 refine alloc_mine (n:=2) al_spd rfl hk fun g W2 hk hb2 hg=>?_
 clear hb1 hb2
 refine Xa hk.cells ?_
 refine qUsable_ok s (hs.next hk.below) (hl.next hk.below) (fun w2 h2=>?_)
 have hk:=hk.next h2
 clear h2
 have hno:=useM_no (s:=s) (l:=l) (b:=b) (dare:=dare)
 cases hu:(usableM s l).2 with
 | false=>
  refine Xa (An2 hk.cells @build_spd0) ?_
  exact store_spd ⟨0,[]⟩ none 0 0 hk (fun W3 hk hc _=>⟨_,by simp [go_sem,hc],k2 _ _ _ (hno (.inl hu)) hk.below (Ints.nil _)⟩)
 | true=>
 obtain ⟨hll,hv⟩:=usable_len hu
 have hv7:=validS_len hv
 have hQ:=(validS_Q hv).1
 refine Xa hk.cells ?_
 refine Blinds_ok s b hv (hs.next hk.below) (hb0.next hk.below) (fun w3 h3=>?_)
 have hk:=hk.next h3
 clear h3
 cases hbl:blindsM s b with
 | false=>
  refine Xa (An2 hk.cells @build_spd0) ?_
  exact store_spd ⟨0,[]⟩ none 0 0 hk (fun W3 hk hc _=>⟨_,by simp [go_sem,hc],k2 _ _ _ (hno (.inr (.inl hbl))) hk.below (Ints.nil _)⟩)
 | true=>
 have hyl:=blinds_len hbl
 have hQg:-9223372036854775808 < s.g.Q:=by omega
 have ein:=in_eq hQg 1 dare
 have hqw:IntKind.i64.wrap (s.g.Q - 1) = s.g.Q - 1:=wrapI64 _ (by omega) (by have:=hs.grp.2.1; unfold I64 at this; omega)
 refine Xa (An2 hk.cells @hqw) ?_
 refine in_ok dare 1 _ ?_
 rw [in_eq hQg]
 cases hn:numsM s 1 [dare] with
 | false=>
  refine Xa (An2 hk.cells @build_spd0) ?_
  exact store_spd ⟨0,[]⟩ none 0 0 hk (fun W3 hk hc _=>⟨_,by simp [go_sem,hc],k2 _ _ _ (hno (.inr (.inr hn))) hk.below (Ints.nil _)⟩)
 | true=>
 have ey:=useM_yes hu hbl hn
 have hgW:g < w3.heap.size:=mine_lt hk.mine
 have hoffL:=cells_lt hk.cells
 repeat (any_goals (first
 | ((with_reducible refine local_spd ⟨dare,[]⟩ hk ?_); intro g13 W9 hk hb9 hg13 hh13)
 | (with_reducible first|refine zC ?_|refine yC ?_|refine yM ?_)
 | ((with_reducible refine oM_gen fun Kv hK=>?_); simp [go_sem,hk.cells,build_spd1]; refine hK _ _ ?_; clear hK Kv)))
 have hh13:Holds W9 g13 49 (spdC ⟨dare,[]⟩ (.slice none 0 0)):=hh13
 refine Exps_okF (hl.next hk.below) (by omega) (fun ev w5 h5 he hff=>?_)
 have hlt13:=hh13.lt
 have hh:=hh13.next h5
 have hk:=hk.next h5
 have hel:(expsM l).length = l.length + 1:=rfl
 have hal:(ansL s l b dare).length = l.length + 1:=by simp [ansL,hel]; omega
 have hat:∀ (i:Nat) (h1:i < (expsM l).length) (h2:i < b.ys.length),(ansL s l b dare)[i]? = some (plusQ s b.ys[i] (mulQ s dare [b.s,(expsM l)[i]])):=fun i h1 h2=>by
  simp [ansL,h1,h2,List.getElem?_zip_eq_some]
  exact ⟨_,_,⟨rfl,rfl⟩,rfl⟩
 have hrng:∀ n ∈ ansL s l b dare,I64 n:=by
  intro n hn
  obtain ⟨m,_,rfl⟩:=List.mem_map.1 hn
  exact addM_I64 _ _ _
 generalize ansL s l b dare = al at *
 obtain ⟨ead,ec,rfl⟩:=he.isSlice
 have hs5:=h5.size
 have hs9:=hb9.size
 have hing:∀ i,Value.inBlock (.slice ead (expsM l).length ec) = some i → i ≠ g13:=fun i hi=>by
  have:=hff i hi
  omega
 have hne:g ≠ g13:=by omega
 have hoff:∀ p ∈ cellsOf (cellsOf [] b1 0 (stpC s (.slice ad s.bases.length c))) b2 0 (bldC b (.slice yad b.ys.length yc)),p.1.block ≠ g13:=fun p hp=>by have:=hoffL p hp; omega
 have hbase:w.heap.size ≤ g13:=Nat.le_trans hk.base (by omega)
 refine Xa0 ?_
 refine ⟨RuJ w5 g13 49 (fun ov=>spdC ⟨dare,[]⟩ ov) al,ruMu (expsM l).length,⟨.slice none 0 0,0,rfl,by omega,.start hh.lt hh⟩,?_⟩
 have hk0:=hk
 rintro _ _ w6 ⟨ov,i,rfl,hi,hgr⟩
 have hk:=hk0.fr hgr.fr hoff hne hbase
 by_cases hin:i = (expsM l).length
 ·have hgr':=hgr
  rw [List.take_of_length_le (by omega)] at hgr'
  have ho:=hgr'.own
  have hints:=ho.ints hrng (by omega)
  obtain ⟨g',oc,cur,rfl,hlt,hB,_,_,_,_⟩:=owns_cells ho (by omega)
  refine Xa (An2 hk.cells hgr.holds.are) ?_
  refine store_spd ⟨dare,al⟩ (some ⟨g',0,none⟩) al.length oc hk (fun W3 hk hc hg3=>⟨spdV ⟨dare,al⟩ (.slice (some ⟨g',0,none⟩) al.length oc),by simp [go_sem,hc],k2 W3 (.slice (some ⟨g',0,none⟩) al.length oc) _ ey hk.below ⟨hints.row.keep hg3.size (fun i hi hlt=>hg3.block i hlt ?_),hrng,by show al.length ≤ _; omega⟩⟩)
  cases hi
  intro e
  have e2:g' = g:=Option.some.inj e
  omega
 ·have hev:=Ints.fr he hgr.fr hing
  obtain ⟨b8,o8,rfl,hb8,ca,ra,_⟩:=hev.at (i:=i) (by omega)
  obtain ⟨b9,o9,rfl,hb9,cb,rb,_⟩:=hys.at (i:=i) (by omega)
  have hat:=hat i (by omega) (by omega)
  have htk:=take_snoc' hat
  generalize (expsM l)[i] = e at *
  generalize b.ys[i] = y at *
  refine Xa hk.cells ?_
  have hk:=hk.drew
  have hgr:=hgr.next (.drawn (B:=w6.heap.size))
  have hD:Below w6.heap.size w6 { w6 with drawn:=w6.drawn + 1 }:=.drawn
  refine ⟨Nx { w6 with drawn:=w6.drawn + 1 },Below.refl _ _,rfl,?_⟩
  generalize ({ w6 with drawn:=w6.drawn + 1 }:World) = W6 at hk hgr hD ⊢
  refine Xc (fun W0 hW0=>An4 ((hk.next hW0).cells) ((hgr.next hW0).holds.are) (ca _ (hD.on hW0)) (cb _ (hk.next hW0).below)) ?_
  refine ⟨Nx,?_⟩
  apply monoE
  ·intro w1 h1
   exact qmul_ok s dare b.s (hs.next (hk.next h1).below) (fun w2 h2=>⟨h1.on h2,h2,rfl⟩)
  apply monoE
  ·rintro w1 h1 _ rfl
   exact qmul_ok s _ e (hs.next (hk.next h1).below) (fun w2 h2=>⟨h1.on h2,h2,rfl⟩)
  apply monoE
  ·rintro w1 h1 _ rfl
   exact rAdd_ok _ _ _ ⟨h1,Below.refl _ _,rfl⟩
  refine monoR (fun v w'=>Ints w' v [plusQ s y (mulQ s dare [b.s,e])]) (fun v w w1 hS h=>h.next hS) ?_ ?_
  ·rintro w1 h1 _ rfl
   exact mk1 _ (addM_I64 _ _ _) (fun v w2 h2 hi=>⟨h1.on h2,h2,hi⟩)
  rintro w9 h9 _ rfl _ rfl _ rfl v9 hi9
  refine gr_append (hgr.next h9) hi9 (by rw [List.length_take]; omega) (fun ad n c w11 hgr=>?_)
  refine Xa0 ?_
  refine gr_store (i:=1) hgr (show 1 < 2 by decide) (fun w12 hgr=>?_)
  refine Xa0 ?_
  rw [htk] at hgr
  refine ⟨⟨_,i + 1,rfl,by omega,hgr⟩,?_⟩
  rw [ruMu_eq,ruMu_eq]
  omega
end
end Go.Proofs
namespace TpA
open FdSpec FdPoly GrLaw GrPr TkSpec
theorem finish_formed {s:Stp} {key r:Int} {l:List Int} {o:Off} {b:Bld} (h:(finishM s key l o b r).2 = 0):formedM s (finishM s key l o b r).1 = true:=by
 unfold finishM at h ⊢
 split at h
 ·rename_i hc; exact absurd h hc
 rename_i hc
 rw [if_neg hc]
 split at h
 ·cases h
 rename_i hr
 rw [if_neg hr]
 split at h
 ·cases h
 rename_i hsg
 rw [if_neg hsg]
 have hf:askFine s key l o b = true:=by
  rcases askErr_cases s key l o b with ⟨_,e⟩ | ⟨f,_,_⟩ | ⟨f,_,_⟩
  ·rw [e] at hc; exact absurd (by decide) hc
  ·exact f
  ·exact f
 unfold askFine at hf
 simp only [Bool.and_eq_true] at hf
 obtain ⟨⟨⟨⟨hu,hk⟩,he⟩,_⟩,hb⟩:=hf
 have hvs:validS s = true:=by
  unfold usableM markM at hu
  simp only [Bool.and_eq_true] at hu
  have h1:=hu.1
  split at h1
  ·rename_i hh
   try simp only [Bool.and_eq_true] at hh
   exact hh.1.1.1
  ·cases h1
 obtain ⟨hv,hbs,h2⟩:=valid_facts hvs
 have hg:=gv_of hv
 obtain ⟨b1,b2,b3,b4,b5⟩:=blinds_iff.mp hb
 obtain ⟨bs,hbl,hlog⟩:=logs hv s.bases hbs
 have hpr:∀ es:List Int,s.bases.length = es.length → Cg s.g.P (prodG s.g s.bases es).1 (Ex s.g s.g.G (dot bs es)) ∧ 0 ≤ (prodG s.g s.bases es).1 ∧ (prodG s.g s.bases es).1 < s.g.P:=fun es hl=>by
  have:=prodG_log hv hlog hl
  exact ⟨this.2.1,this.2.2⟩
 have hmark:∃ a,Cg s.g.P (usableM s l).1 (Ex s.g s.g.G a) ∧ a % s.g.Q ≠ 0:=by
  unfold usableM at hu ⊢
  simp only [Bool.and_eq_true,Bool.not_eq_true',decide_eq_false_iff_not] at hu
  obtain ⟨h1,h3⟩:=hu
  unfold markM at h1 h3 ⊢
  split at h1
  ·rename_i hh
   rw [if_pos hh] at h3 ⊢
   simp only [Bool.and_eq_true,decide_eq_true_eq] at hh
   have hl:s.bases.length = (expsM l).length:=by rw [← hh.1.1.2]; rfl
   obtain ⟨p1,p2⟩:=hpr (expsM l) hl
   exact ⟨_,p1,fun e=>h3 ((one_iff hv p1 p2).mpr e)⟩
  ·cases h1
 obtain ⟨A,hA,hA0⟩:=hmark
 have hel:=elem_of hv he
 obtain ⟨z,hz⟩:=log hv (hel o.z (by simp)).1
 obtain ⟨a,ha⟩:=log hv (hel o.a (by simp)).1
 obtain ⟨c,hcc⟩:=log hv (hel o.b (by simp)).1
 have hP0:(0:Int) < s.g.P:=by have:=hg.q0; have:=hg.p; omega
 obtain ⟨f1,f2⟩:=hpr b.ys b4.symm
 have m1:=pow_log hv (k:=b.s) hA
 have m2:=powerG_range hg (usableM s l).1 b.s
 have z1:=pow_log hv (k:=b.s) hz
 have a1:=times_log hv (pow_log hv (k:=b.u) ha) (powerG_cg hg s.g.G b.v)
 have c1:=times_log hv (pow_log hv (k:=mulQ s b.s [b.u]) hcc) (pow_log hv (k:=b.v) m1)
 unfold formedM
 have hne:¬ (askTkt s l o b).mark = 1:=fun e=>mul_ne hv hA0 (small_ne b1) ((one_iff hv m1 m2).mp e)
 have hr2:numsM s 0 [plusQ s (mulQ s r [b.u]) b.v] = true:=nums_one.mpr (addM_range _ _ _ hg.okQ)
 have e1:elementsM s [(askTkt s l o b).mark,(askTkt s l o b).first,(askTkt s l o b).z,(askTkt s l o b).a,(askTkt s l o b).b] = true:=by
  unfold elementsM askTkt
  simp only [List.all_cons,List.all_nil,Bool.and_true,Bool.and_eq_true]
  exact ⟨elem_log hv m1 m2,elem_log hv f1 f2,elem_log hv z1 (powerG_range hg _ _),elem_log hv a1 (timesG_range hg _ _),elem_log hv c1 (timesG_range hg _ _)⟩
 rw [hvs]
 show (((true && !decide ((askTkt s l o b).mark = 1)) && elementsM s [(askTkt s l o b).mark,(askTkt s l o b).first,(askTkt s l o b).z,(askTkt s l o b).a,(askTkt s l o b).b]) && numsM s 0 [plusQ s (mulQ s r [b.u]) b.v]) = true
 rw [e1,hr2,decide_eq_false hne]
 rfl
end TpA
namespace Go.Proofs
open Go Go.Sh Go.RowKit FdSpec TkSpec CodeSpec
section
variable {K:Value → World → Prop} {w w0:World} {L:List (Addr × Value)}
theorem build_bld0 (T:TypeId):oM Tryz.prog (Go.Op.build 45 #[]) T [] = pureM (bldV zB (.slice none 0 0)):=by
 funext K w
 kernel_rfl
theorem obt_cases {s:Stp} {key:Int} {x:Ses} {b:Bld} (he:(finishM s key x.attrs x.offer b x.r).2 = 0) :
  obtainedM s key x b = ((finishM s key x.attrs x.offer b x.r).1,true) ∨ (obtainedM s key x b).2 = false:=by
 unfold obtainedM
 split
 ·exact .inl (by rw [he]; rfl)
 ·exact .inr rfl
theorem obt_no {s:Stp} {key:Int} {x:Ses} {b:Bld} (he:(finishM s key x.attrs x.offer b x.r).2 ≠ 0):(obtainedM s key x b).2 = false:=by
 unfold obtainedM
 split
 ·exact decide_eq_false he
 ·rfl
set_option maxHeartbeats 1000000 in
theorem rExplain_ok (s:Stp) (m:Mir) (key dare:Int) (x:Ses) (b:Bld) (y:Ses) {v mv xv bv yv:Value} (hkey:I64 key) (hd:I64 dare) (hs:SetR w s v) (hm:MirR w m mv) (hx:SesR w x xv) (hb:BldR w b bv) (hy:SesR w y yv)
  (k:∀ w' ov,Below w.heap.size w w' → BldR w' (explainM s m key x b y dare).1 ov → K (.tuple #[bldV (explainM s m key x b y dare).1 ov,.bool (explainM s m key x b y dare).2]) w') :
  callM Tryz.prog 44 #[stpV s v,mirV m mv,.int .i64 key,sesV x xv,bldV b bv,sesV y yv,.int .i64 dare] K w:=by
 apply sh_44_ok
 unfold sh_44
 obtain ⟨ad,cc,rfl⟩:=hs.ints.isSlice
 have hm':=hm
 obtain ⟨mad,mc,rfl⟩:=hm.ints.isSlice
 have hx':=hx
 obtain ⟨xad,xc,rfl⟩:=hx.attrs.isSlice
 have hb':=hb
 obtain ⟨bad,bc,rfl⟩:=hb.ys.isSlice
 have hy':=hy
 obtain ⟨yad,yc,rfl⟩:=hy.attrs.isSlice
 have k2:∀ w' ov r,explainM s m key x b y dare = r → Below w.heap.size w w' → BldR w' r.1 ov → K (.tuple #[bldV r.1 ov,.bool r.2]) w':=fun w' ov r e hb hr=>by
  rw [← e] at hr ⊢
  exact k w' ov hb hr
 clear k
 refine box_kn (cs:=stpC s (.slice ad s.bases.length cc)) rfl (.start w) fun b1 W hk hb1 hbb=>?_
 refine box_kn (cs:=mirC m (.slice mad m.bases.length mc)) rfl hk fun b2 W2 hk hb2 hbb=>?_
 refine box_kn (cs:=sesC x (.slice xad x.attrs.length xc)) rfl hk fun b3 W3 hk hb3 hbb=>?_
 refine box_kn (cs:=bldC b (.slice bad b.ys.length bc)) rfl hk fun b4 W4 hk hb4 hbb=>?_
 refine box_kn (cs:=sesC y (.slice yad y.attrs.length yc)) rfl hk fun b5 W5 hk hb5 hbb=>?_
 refine alloc_mine (n:=4) al_bld rfl hk fun g W hk hb6 hg=>?_
 clear hb1 hb2 hb3 hb4 hb5 hb6
 have zB_R:∀ w',BldR w' zB (.slice none 0 0):=fun w'=>⟨by constructor <;> decide,by constructor <;> decide,by constructor <;> decide,Ints.nil _⟩
 have ebad:explFine s m key x b y dare = false → explainM s m key x b y dare = (zB,false):=fun h=>by unfold explainM; rw [h,if_neg (by decide)]
 have hbad:explainM s m key x b y dare = (zB,false) → ∀ L w2 (hk:KnM w L g 4 w2),
   oM Tryz.prog (Go.Op.store 45 (.tmp 0) (.tmp 1)) 0 [.pointer (some ⟨g,0,none⟩),bldV zB (.slice none 0 0)] (fun _ w=>
    ∃ r_29,(do loadVar 45 (← asAddr (.pointer (some ⟨g,0,none⟩))):Sem Value).run Tryz.prog w = .ok r_29 w ∧ K (.tuple #[r_29,(.bool false)]) w) w2:=fun e L w2 hk=>
  store_bld zB none 0 0 hk (fun W3 hk hc _=>⟨_,by simp [go_sem,hc],k2 _ _ _ e hk.below (zB_R _)⟩)
 refine Xa hk.cells ?_
 refine qFinish_ok s key x.r x.offer b hx'.offer (hs.next hk.below) (hx'.attrs.next hk.below) (hb'.next hk.below) (fun w7 h7=>?_)
 have hk:=hk.next h7
 clear h7
 have ht:=finish_R s key x.attrs x.offer b x.r
 have hob:=obt_cases (s:=s) (key:=key) (x:=x) (b:=b)
 have hon:=obt_no (s:=s) (key:=key) (x:=x) (b:=b)
 have hfo:=TpA.finish_formed (s:=s) (key:=key) (l:=x.attrs) (o:=x.offer) (b:=b) (r:=x.r)
 have eF:explFine s m key x b y dare = ((obtainedM s key x b).2 && (useM s x.attrs b dare).2 && (usableM s y.attrs).2 && mirrorsM s m && numsM s 1 [y.c] && numsM s 0 [y.r]):=rfl
 have eE:explainM s m key x b y dare = if explFine s m key x b y dare then
   (if (obtainedM s key y (explB s m x b y dare (obtainedM s key x b).1 (useM s x.attrs b dare).1)).2 && decide ((obtainedM s key y (explB s m x b y dare (obtainedM s key x b).1 (useM s x.attrs b dare).1)).1 = (obtainedM s key x b).1) then (explB s m x b y dare (obtainedM s key x b).1 (useM s x.attrs b dare).1,true) else (zB,false)) else (zB,false):=rfl
 generalize (finishM s key x.attrs x.offer b x.r).1 = t at *
 generalize (finishM s key x.attrs x.offer b x.r).2 = e0 at *
 refine Xb2_0 ?_
 refine local_tktM t hk (fun g1 W8 hk hb8 hg1=>?_)
 clear hb8
 refine Xa hk.cells ?_
 refine rUse_ok s b dare hd (hs.next hk.below) (hx'.attrs.next hk.below) (hb'.next hk.below) (fun w9 uv h9 hu=>?_)
 have hk:=hk.next h9
 clear h9
 have hul:=use_len (s:=s) (l:=x.attrs) (b:=b) (dare:=dare)
 generalize (useM s x.attrs b dare).1 = us at *
 generalize (useM s x.attrs b dare).2 = two at *
 obtain ⟨uad,uc,rfl⟩:=hu.isSlice
 refine Xb2_0 ?_
 refine local_spdM us uad us.answers.length uc hk (fun g2 W10 hk hb10 hg2=>?_)
 have hu:=hu.next hb10
 clear hb10
 refine Xa hk.cells ?_
 refine rMirrors_ok s m (hs.next hk.below) (hm'.next hk.below) (fun w13 h13=>?_)
 have hk:=hk.next h13
 have hu:=hu.next h13
 clear h13
 cases hmi:mirrorsM s m with
 | false=>
  refine Xa (An2 hk.cells @build_bld0) ?_
  exact hbad (ebad (by rw [eF,hmi]; simp)) _ _ hk
 | true=>
 by_cases he0:e0 = 0
 rotate_left
 ·refine Xa (An3 hk.cells @he0 @build_bld0) ?_
  exact hbad (ebad (by rw [eF,hon he0]; simp)) _ _ hk
 cases two with
 | false=>
  refine Xa (An3 hk.cells @he0 @build_bld0) ?_
  exact hbad (ebad (by rw [eF]; simp)) _ _ hk
 | true=>
 refine Xa (An2 hk.cells @he0) ?_
 refine qUsable_ok s (hs.next hk.below) (hy'.attrs.next hk.below) (fun w11 h11=>?_)
 have hk:=hk.next h11
 have hu:=hu.next h11
 clear h11
 have hyl:=usable_len (s:=s) (l:=y.attrs)
 generalize (usableM s y.attrs).2 = three at *
 cases three with
 | false=>
  refine Xa (An2 hk.cells @build_bld0) ?_
  exact hbad (ebad (by rw [eF]; simp)) _ _ hk
 | true=>
 obtain ⟨hul1,hul2,hul3⟩:=hul rfl
 obtain ⟨hyl,hv⟩:=hyl rfl
 have hml:=mirrors_len hmi
 have hv7:=validS_len hv
 have hQ:=(validS_Q hv).1
 have hqw:IntKind.i64.wrap (s.g.Q - 1) = s.g.Q - 1:=wrapI64 _ (by omega) (by have:=hs.grp.2.1; unfold I64 at this; omega)
 refine Xa (An2 hk.cells @hqw) ?_
 refine in_ok y.c 1 _ ?_
 rw [in_eq (by omega)]
 cases hn1:numsM s 1 [y.c] with
 | false=>
  refine Xa (An2 hk.cells @build_bld0) ?_
  exact hbad (ebad (by rw [eF,hn1]; simp)) _ _ hk
 | true=>
 refine Xa (An2 hk.cells @hqw) ?_
 refine in_ok y.r 0 _ ?_
 rw [in_eq (by omega)]
 cases hn2:numsM s 0 [y.r] with
 | false=>
  refine Xa (An2 hk.cells @build_bld0) ?_
  exact hbad (ebad (by rw [eF,hn2]; simp)) _ _ hk
 | true=>
 refine Xa hk.cells ?_
 refine rObtains_ok s key x b t (hs.next hk.below) (hx'.next hk.below) (hb'.next hk.below) (fun w11 h11=>?_)
 have hk:=hk.next h11
 have hu:=hu.next h11
 clear h11
 rcases hob he0 with eo | eo
 rotate_left
 ·rw [eo]
  refine Xa (An2 hk.cells @build_bld0) ?_
  exact hbad (ebad (by rw [eF,eo]; simp)) _ _ hk
 have eF:explFine s m key x b y dare = true:=by rw [eF,eo,hmi,hn1,hn2]; rfl
 rw [eF,if_pos rfl,eo] at eE
 have hinn:innM s t = innerQ s t:=by unfold innM; rw [hfo he0,if_pos rfl]
 rw [eo,decide_eq_true rfl]
 clear ebad eF hn1 hn2 hob hon hfo eo
 dsimp only [Bool.true_and] at eE ⊢
 refine Xa hk.cells ?_
 have hk:=hk.drew
 have hu:=hu.next (.drawn (B:=w11.heap.size))
 refine ⟨Nx { w11 with drawn:=w11.drawn + 1 },Below.refl _ _,rfl,?_⟩
 generalize ({ w11 with drawn:=w11.drawn + 1 }:World) = W at hk hu ⊢
 refine Xc (fun W0 hW0=>(hk.next hW0).cells) ?_
 refine ⟨Nx,?_⟩
 apply monoE
 ·intro w1 h1
  exact rlog_ok s m (hs.next (hk.next h1).below) (hm'.next (hk.next h1).below) (hx'.attrs.next (hk.next h1).below) (by omega) (by omega) (fun w2 h2=>⟨h1.on h2,h2,rfl⟩)
 apply monoE
 ·rintro w1 h1 _ rfl
  exact qmul_ok s b.s _ (hs.next (hk.next h1).below) (fun w2 h2=>⟨h1.on h2,h2,rfl⟩)
 apply monoE
 ·intro w1 h1
  exact rlog_ok s m (hs.next (hk.next h1).below) (hm'.next (hk.next h1).below) (hy'.attrs.next (hk.next h1).below) (by omega) (by omega) (fun w2 h2=>⟨h1.on h2,h2,rfl⟩)
 apply monoE
 ·rintro w1 h1 _ rfl _ rfl
  exact qover_ok s _ _ (hs.next (hk.next h1).below) (fun w2 h2=>⟨h1.on h2,h2,rfl⟩)
 apply monoE
 ·intro w1 h1
  exact rInner_ok s t ht (hs.next (hk.next h1).below) (fun w2 h2=>⟨h1.on h2,h2,rfl⟩)
 apply monoE
 ·rintro w1 h1 _ rfl
  exact qover_ok s _ _ (hs.next (hk.next h1).below) (fun w2 h2=>⟨h1.on h2,h2,rfl⟩)
 rw [hinn]
 repeat (apply monoE; focus (intro w9 h9; (repeat (intro v9 e9; try (obtain rfl:=e9))); (repeat (any_goals ((with_reducible refine oM_gen fun Kv hK=>?_); simp [go_sem,build_bld2]; refine hK _ _ ?_; clear hK Kv))); exact ⟨h9,Below.refl _ _,rfl⟩))
 refine monoR (fun v w'=>∃ g2,v = ptr g2 0 ∧ W.heap.size ≤ g2 ∧ Holds w' g2 45 (bldC zB (.slice none 0 0))) (fun v w w1 hS h=>h.imp fun g2 h=>⟨h.1,h.2.1,h.2.2.next hS⟩) ?_ ?_
 ·intro w1 h1
  exact arr_alloc al_bld (fun g2 w2 h2 hg2 hh=>⟨h1.on h2,h2,g2,rfl,Nat.le_trans h1.size hg2,hh⟩)
 rintro w9 h9 _ rfl _ rfl _ rfl _ rfl _ rfl _ rfl _ rfl v9 ⟨g9,rfl,hg9,hh⟩
 have eS:overQ s (mulQ s b.s [logM s m x.attrs]) (logM s m y.attrs) = explS s m x b y:=rfl
 rw [eS]
 have hSI:I64 (explS s m x b y):=mulQ_I64 _ _ _ (by simp)
 have hUI:I64 (overQ s (innerQ s t) y.c):=mulQ_I64 _ _ _ (by simp)
 have eB:explB s m x b y dare t us = ⟨explS s m x b y,overQ s (innerQ s t) y.c,lessQ s t.r (mulQ s y.r [overQ s (innerQ s t) y.c]),exYs s dare (explS s m x b y) y.attrs us.answers⟩:=rfl
 rw [eB] at eE
 clear eB eS hinn
 generalize explS s m x b y = S at *
 generalize overQ s (innerQ s t) y.c = U at *
 refine arr_store sz_bld (xs:=bldC ⟨S,U,0,[]⟩ (.slice none 0 0)) rfl rfl (bld_one ⟨S,U,0,[]⟩ none 0 0) hh rfl (fun w10 hg10 hh=>?_)
 have hgW:g < W.heap.size:=mine_lt hk.mine
 have hoffL:=cells_lt hk.cells
 have h10:=grown_below h9 hg10 hg9
 clear hg10 h9
 have h10:=h10.on (.drawn (B:=w10.heap.size))
 have hh:=hh.next (.drawn (B:=w10.heap.size))
 refine ⟨Nx { w10 with drawn:=w10.drawn + 1 },Below.refl _ _,rfl,?_⟩
 generalize ({ w10 with drawn:=w10.drawn + 1 }:World) = W10 at h10 hh ⊢
 refine Xc (fun W0 hW0=>An2 ((hk.next (h10.on hW0)).cells) ((hh.next hW0).are)) ?_
 refine ⟨Nx,?_⟩
 apply monoE
 ·rintro w1 h1
  exact qmul_ok s y.r U (hs.next (hk.next (h10.on h1)).below) (fun w2 h2=>⟨h1.on h2,h2,rfl⟩)
 rintro w1 h1 _ rfl
 refine rSub_ok _ _ _ ?_
 have hh:=hh.next h1
 have h10:=h10.on h1
 clear h1
 have eV:subM s.g.Q t.r (mulQ s y.r [U]) = lessQ s t.r (mulQ s y.r [U]):=rfl
 rw [eV]
 clear eV
 have hVI:I64 (lessQ s t.r (mulQ s y.r [U])):=subM_I64 _ _ _
 generalize lessQ s t.r (mulQ s y.r [U]) = V at *
 refine Xa0 ?_
 refine arr_set (i:=2) sz_int rfl rfl hh (show 2 < 4 by decide) (fun w10 hg10 hh=>?_)
 have hh:Holds w10 g9 45 (bldC ⟨S,U,V,[]⟩ (.slice none 0 0)):=hh
 have h10:=grown_below h10 hg10 hg9
 clear hg10
 have hkW:=hk
 have hk:=hk.next h10
 refine Xa hk.cells ?_
 have hgl:g9 < w10.heap.size:=hh.lt
 refine Exps_okF (hy'.attrs.next hk.below) (by omega) (fun ev w11 h11 he hff=>?_)
 have hh:=hh.next h11
 have h10:=h10.on h11
 have hk:=hk.next h11
 have hs11:=h11.size
 clear h11
 obtain ⟨ead,ec,rfl⟩:=he.isSlice
 have hing:∀ i,Value.inBlock (.slice ead (expsM y.attrs).length ec) = some i → i ≠ g9:=fun i hi=>by
  have:=hff i hi
  omega
 have hel:(expsM y.attrs).length = y.attrs.length + 1:=rfl
 have hal:=exYs_len (s:=s) (dare:=dare) (S:=S) (l:=y.attrs) (xs:=us.answers) (by omega)
 have hat:=exYs_at (s:=s) (dare:=dare) (S:=S) (l:=y.attrs) (xs:=us.answers)
 have hrng:=exYs_rng (s:=s) (dare:=dare) (S:=S) (l:=y.attrs) (xs:=us.answers)
 generalize exYs s dare S y.attrs us.answers = al at *
 refine Xa0 ?_
 have hne:g ≠ g9:=by omega
 have hoff:=fun p hp=>Nat.ne_of_lt (Nat.lt_of_lt_of_le (hoffL p hp) hg9)
 have hbase:w.heap.size ≤ g9:=Nat.le_trans hkW.base (by omega)
 refine ⟨RuJ w11 g9 45 (fun ov=>bldC ⟨S,U,V,[]⟩ ov) al,ruMu (expsM y.attrs).length,⟨.slice none 0 0,0,rfl,by omega,.start hh.lt hh⟩,?_⟩
 have hk0:=hk
 have hh0:=hh
 have h100:=h10
 rintro _ _ w6 ⟨ov,i,rfl,hi,hgr⟩
 have hk:=hk0.fr hgr.fr hoff hne hbase
 have hW6:Below W.heap.size W w6:=FrG.below h100 hgr.fr hg9
 by_cases hin:i = (expsM y.attrs).length
 ·have hgr':=hgr
  rw [List.take_of_length_le (by omega)] at hgr'
  have ho:=hgr'.own
  have hints:=ho.ints hrng (by omega)
  obtain ⟨g',oc,cur,rfl,hlt,hB,_,_,_,_⟩:=owns_cells ho (by omega)
  refine Xa (An2 hk.cells hgr.holds.are) ?_
  refine rObtains_ok s key y ⟨S,U,V,al⟩ t (hs.next hk.below) (hy'.next hk.below) ⟨hSI,hUI,hVI,hints⟩ (fun w7 h7=>?_)
  have hk:=hk.next h7
  have hgr:=hgr'.next h7
  have hints:=hints.next h7
  clear h7
  generalize ((obtainedM s key y ⟨S,U,V,al⟩).2 && decide ((obtainedM s key y ⟨S,U,V,al⟩).1 = t)) = q at *
  cases q with
  | false=>
   rw [if_neg (by decide)] at eE
   refine Xa (An2 hk.cells @build_bld0) ?_
   exact hbad eE _ _ hk
  | true=>
  rw [if_pos rfl] at eE
  refine Xa (An2 hk.cells hgr.holds.are) ?_
  refine store_bld ⟨S,U,V,al⟩ (some ⟨g',0,none⟩) al.length oc hk (fun W3 hk hc hg3=>⟨bldV ⟨S,U,V,al⟩ (.slice (some ⟨g',0,none⟩) al.length oc),by simp [go_sem,hc],k2 W3 (.slice (some ⟨g',0,none⟩) al.length oc) _ eE hk.below ⟨hSI,hUI,hVI,⟨hints.row.keep hg3.size (fun i hi hlt=>hg3.block i hlt ?_),hrng,by show al.length ≤ _; omega⟩⟩⟩)
  cases hi
  intro e
  have e2:g' = g:=Option.some.inj e
  omega
 ·have hev:=Ints.fr he hgr.fr hing
  obtain ⟨b8,o8,rfl,hb8,ca,ra,_⟩:=hev.at (i:=i) (by omega)
  obtain ⟨b9,o9,rfl,hb9,cb,rb,_⟩:=hu.at (i:=i) (by omega)
  have hat:=hat i (by omega) (by omega)
  have htk:=take_snoc' hat
  generalize (expsM y.attrs)[i] = e at *
  generalize us.answers[i] = a at *
  refine Xa (ca _ (Below.refl _ _)) ?_
  have hk:=hk.drew
  have hgr:=hgr.next (.drawn (B:=w6.heap.size))
  have hW6:=hW6.on (.drawn (B:=w6.heap.size))
  have hD:Below w6.heap.size w6 { w6 with drawn:=w6.drawn + 1 }:=.drawn
  refine ⟨Nx { w6 with drawn:=w6.drawn + 1 },Below.refl _ _,rfl,?_⟩
  generalize ({ w6 with drawn:=w6.drawn + 1 }:World) = W6 at hk hgr hW6 hD ⊢
  refine Xc (fun W0 hW0=>An4 ((hk.next hW0).cells) ((hgr.next hW0).holds.are) (cb _ (hW6.on hW0)) (ca _ (hD.on hW0))) ?_
  refine ⟨Nx,?_⟩
  apply monoE
  ·intro w1 h1
   exact qmul_ok s dare S (hs.next (hk.next h1).below) (fun w2 h2=>⟨h1.on h2,h2,rfl⟩)
  apply monoE
  ·rintro w1 h1 _ rfl
   exact qmul_ok s _ e (hs.next (hk.next h1).below) (fun w2 h2=>⟨h1.on h2,h2,rfl⟩)
  apply monoE
  ·rintro w1 h1 _ rfl
   exact rSub_ok _ _ _ ⟨h1,Below.refl _ _,rfl⟩
  refine monoR (fun v w'=>Ints w' v [lessQ s a (mulQ s dare [S,e])]) (fun v w w1 hS h=>h.next hS) ?_ ?_
  ·rintro w1 h1 _ rfl
   exact mk1 _ (subM_I64 _ _ _) (fun v w2 h2 hi=>⟨h1.on h2,h2,hi⟩)
  rintro w9 h9 _ rfl _ rfl _ rfl v9 hi9
  refine gr_append (hgr.next h9) hi9 (by rw [List.length_take]; omega) (fun ad n c w11 hgr=>?_)
  refine Xa0 ?_
  refine gr_store (i:=3) hgr (show 3 < 4 by decide) (fun w12 hgr=>?_)
  refine Xa0 ?_
  rw [htk] at hgr
  refine ⟨⟨_,i + 1,rfl,by omega,hgr⟩,?_⟩
  simp only [ruMu_eq]; omega
end
end Go.Proofs
namespace Go.Proofs
open Go.Sh Tryz
def sh_107 (a0 a1 a2:Value) (K:Value → World → Prop) (w:World):Prop:=
 oM prog (.box 32 (.tmp 0)) 0 [a0] (fun v3 w=>
 oM prog (.box 41 (.tmp 0)) 0 [a2] (fun v5 w=>
 loopM [(.bool false),(.int .i64 0)] w (fun J_3 m_4 l_5 u_l_5 w0_l_5=>(fun w=>(
 oM prog (.call (Go.Call.mk (.builtin .len) #[(.tmp 0)] #[22])) 3 [a1] (fun v10 w=>
 oM prog (.binOp .lss 3 (.tmp 0) (.tmp 1) 3) 4 [(l_5.getD 1 undef),v10] (fun v11 w=>
 condM v11
 (heldM w (fun C_8 w=>(((true:Bool) = true) ∧ (oH prog (.load 32 (.tmp 0)) 32 [v3] C_8 (fun v14=>
 pureH a1 C_8 (fun v15=>
 pureH (l_5.getD 1 undef) C_8 (fun v16=>
 oH prog (.indexAddr 22 (.tmp 0) (.tmp 1)) 0 [v15,v16] C_8 (fun v17=>
 oH prog (.load 3 (.tmp 0)) 3 [v17] C_8 (fun v18=>
 oH prog (.load 41 (.tmp 0)) 41 [v5] C_8 (fun v19=>
 ∃ S_15:World → World → Prop,∀ w,C_8 w → (
 callM prog 53 #[v14,v18,v19] (fun v20 w=>
 condM v20
 (K (.bool true) w)
 (oM prog (.binOp .add 3 (.tmp 0) (.tmp 1) 3) 3 [(l_5.getD 1 undef),(.int .i64 1)] (fun v13 w=>
 J_3 [(l_5.getD 0 undef),v13] w ∧ m_4 [(l_5.getD 0 undef),v13] w < m_4 l_5 w0_l_5) w)) w)))))))))))
 (K (.bool false) w)) w) w)) w0_l_5)) w) w
theorem sh_107_ok {a0 a1 a2:Value} {K:Value → World → Prop} {w:World} (h:sh_107 a0 a1 a2 K w):callM prog 107 #[a0,a1,a2] K w:=
 calls_of_code (fun _=>.free [0,1,2,3,4,5] [] [6]) (fn:=Tryz.f107) (rs:=[.tmp 6]) Tryz.func107 rfl rfl (by kernel_rfl) (Nat.le_of_ble_eq_true rfl) (Eq.mp (by kernel_rfl) h)
def sh_43 (a0:Value) (K:Value → World → Prop) (w:World):Prop:=
 loopM [(.bool false),(.int .i64 0)] w (fun J_1 m_2 l_3 u_l_3 w0_l_3=>(fun w=>(
 oM prog (.call (Go.Call.mk (.builtin .len) #[(.tmp 0)] #[85])) 3 [a0] (fun v6 w=>
 oM prog (.binOp .lss 3 (.tmp 0) (.tmp 1) 3) 4 [(l_3.getD 1 undef),v6] (fun v7 w=>
 condM v7
 (oM prog (.indexAddr 85 (.tmp 0) (.tmp 1)) 0 [a0,(l_3.getD 1 undef)] (fun v12 w=>
 oM prog (.fieldAddr 91 (.tmp 0) 2) 0 [v12] (fun v13 w=>
 oM prog (.load 9 (.tmp 0)) 9 [v13] (fun v14 w=>
 oM prog (.call (Go.Call.mk (.builtin .len) #[(.tmp 0)] #[9])) 3 [v14] (fun v15 w=>
 oM prog (.binOp .gtr 3 (.tmp 0) (.tmp 1) 3) 4 [v15,(.int .i64 300)] (fun v16 w=>
 gdM (gd v16 false) (pureM a0) (fun v18 w=>
 gdM (gd v16 false) (pureM (l_3.getD 1 undef)) (fun v19 w=>
 gdM (gd v16 false) (oM prog (.indexAddr 85 (.tmp 0) (.tmp 1)) 0 [v18,v19]) (fun v20 w=>
 gdM (gd v16 false) (oM prog (.fieldAddr 91 (.tmp 0) 1) 0 [v20]) (fun v21 w=>
 gdM (gd v16 false) (oM prog (.fieldAddr 49 (.tmp 0) 1) 0 [v21]) (fun v22 w=>
 gdM (gd v16 false) (oM prog (.load 22 (.tmp 0)) 22 [v22]) (fun v23 w=>
 gdM (gd v16 false) (oM prog (.call (Go.Call.mk (.builtin .len) #[(.tmp 0)] #[22])) 3 [v23]) (fun v24 w=>
 gdM (gd v16 false) (oM prog (.binOp .gtr 3 (.tmp 0) (.tmp 1) 3) 4 [v24,(.int .i64 9)]) (fun v25 w=>
 oM prog (.pick (.tmp 0) (.tmp 1) (.tmp 2)) 4 [v16,(.bool true),v25] (fun v26 w=>
 condM v26
 (K (.bool false) w)
 (oM prog (.binOp .add 3 (.tmp 0) (.tmp 1) 3) 3 [(l_3.getD 1 undef),(.int .i64 1)] (fun v9 w=>
 J_1 [(l_3.getD 0 undef),v9] w ∧ m_2 [(l_3.getD 0 undef),v9] w < m_2 l_3 w0_l_3) w)) w) w) w) w) w) w) w) w) w) w) w) w) w) w)
 (oM prog (.call (Go.Call.mk (.builtin .len) #[(.tmp 0)] #[85])) 3 [a0] (fun v28 w=>
 oM prog (.binOp .leq 3 (.tmp 0) (.tmp 1) 3) 4 [v28,(.int .i64 6)] (fun v29 w=>
 K v29 w) w) w)) w) w)) w0_l_3)
theorem sh_43_ok {a0:Value} {K:Value → World → Prop} {w:World} (h:sh_43 a0 K w):callM prog 43 #[a0] K w:=
 calls_of_code (fun _=>0) (fn:=Tryz.f43) (rs:=[.tmp 2]) Tryz.func43 rfl rfl (by kernel_rfl) (Nat.le_of_ble_eq_true rfl) (Eq.mp (by kernel_rfl) h)
end Go.Proofs
namespace Go.Proofs
open Go Go.Sh Go.RowKit FdSpec TkSpec CodeSpec
section
variable {K:Value → World → Prop} {w w0:World} {L:List (Addr × Value)}
def fewM (s:Stp) (ns:List Nat):Bool:=ns.all (fun n=>decide (n ≤ 9)) && decide (s.bases.length ≤ 9)
def FwJ (w:World) (L:List (Addr × Value)) (R:Bool) (ns:List Nat):List Value → World → Prop:=fun l w'=>Kn w L w' ∧ ∃ u i,l = [u,.int .i64 (i:Nat)] ∧ i ≤ ns.length ∧ (ns.drop i).all (fun n=>decide (n ≤ 9)) = R
def fwMu (n:Nat):List Value → World → Nat:=fun l _=>match l with | [_,.int _ i]=>n - i.toNat | _=>0
theorem fwMu_eq (n:Nat) (u:Value) (k:IntKind) (i:Int) (w:World):fwMu n [u,.int k i] w = n - i.toNat:=rfl
@[go_sem] theorem idx_ll (T:TypeId) (b o n c:Nat) (x:Int):oM Tryz.prog (.indexAddr 98 (.tmp 0) (.tmp 1)) T [.slice (some ⟨b,o,none⟩) n c,.int .i64 x] = onM (0 ≤ x ∧ x < n) (.pointer (some ⟨b,o + x.toNat,none⟩)):=by
 funext K w
 rw [oM_indexAddr,run_indexAt_slice (h:=by kernel_rfl)]
 have hs:(sizeOf (Tryz.prog.elem 98)).run Tryz.prog w = .ok 1 w:=by kernel_rfl
 by_cases hi:0 ≤ x ∧ x < n
 ·rw [if_pos hi,hs]
  simp only [Result.andThen,add_none,Nat.mul_one,rM_ok]
  exact propext ⟨fun h=>⟨hi,h⟩,fun h=>h.2⟩
 ·rw [if_neg hi]
  obtain ⟨e',w',he⟩:=halts Value Tryz.prog .i64 x n .index w
  rw [he]
  exact propext ⟨fun h=>h.elim,fun h=>hi h.1⟩
theorem Few_ok (s:Stp) (g c:Nat) (ns:List Nat) {v:Value} (hs:SetR w s v) (hg:g < w.heap.size) (hc:∀ i (h:i < ns.length),∃ ad c,w.cell? ⟨g,i,none⟩ = some (.slice ad ns[i] c)) (hn:ns.length < 1000) (k:∀ w',Below w.heap.size w w' → K (.bool (fewM s ns)) w'):callM Tryz.prog 42 #[stpV s v,.slice (some ⟨g,0,none⟩) ns.length c] K w:=by
 apply sh_42_ok
 unfold sh_42
 obtain ⟨ad,cc,rfl⟩:=hs.ints.isSlice
 refine box_kn (cs:=stpC s (.slice ad s.bases.length cc)) rfl (.start w) fun b W hk hb1 hb=>?_
 unfold fewM at k
 refine Xa0 ?_
 refine ⟨FwJ w _ (ns.all (fun n=>decide (n ≤ 9))) ns,fwMu ns.length,⟨hk,_,0,rfl,by omega,rfl⟩,?_⟩
 generalize ns.all (fun n=>decide (n ≤ 9)) = R at *
 rintro _ _ w1 ⟨hk,u,i,rfl,hi,ha⟩
 by_cases hin:i = ns.length
 ·rw [List.drop_of_length_le (by omega)] at ha
  have el:decide ((s.bases.length:Int) ≤ 9) = decide (s.bases.length ≤ 9):=decide_eq_decide.2 (by omega)
  refine Xa hk.cells ?_
  rw [el]
  rw [show R = true from ha.symm,Bool.true_and] at k
  exact k _ hk.below
 ·rw [List.drop_eq_getElem_cons (by omega),List.all_cons] at ha
  obtain ⟨ad2,c2,hcc⟩:=hc i (by omega)
  have hcell:w1.cell? ⟨g,i,none⟩ = some (.slice ad2 ns[i] c2):=by rw [hk.below.cell hg]; exact hcc
  generalize ns[i] = x at *
  by_cases hx:x ≤ 9
  ·rw [decide_eq_true hx,Bool.true_and] at ha
   have hx':(x:Int) ≤ 9:=by omega
   refine Xa (An2 @hcell @hx') ?_
   refine ⟨⟨hk,_,i + 1,rfl,by omega,ha⟩,?_⟩
   simp only [fwMu_eq]; omega
  ·rw [decide_eq_false hx,Bool.false_and] at ha
   subst ha
   have hx':¬ (x:Int) ≤ 9:=by omega
   refine Xa (An2 @hcell @hx') ?_
   exact k _ hk.below
end
end Go.Proofs
namespace Go.Proofs
open Go Go.Sh Go.RowKit FdSpec TkSpec CodeSpec
section
variable {K:Value → World → Prop} {w w0:World} {L:List (Addr × Value)}
def RkJ (L:List (Addr × Value)) (p:Int → Bool) (keys:List Int) (R:Bool) (w0:World) (vs:List Value) (w':World):Prop:=Kn w0 L w' ∧ ∃ (u:Value) (i:Nat),vs = [u,.int .i64 (i:Int)] ∧ i ≤ keys.length ∧ (keys.drop i).any p = R
theorem rcert_ok (s:Stp) (t:Tkt) {v kv:Value} {keys:List Int} (ht:TktR t) (hs:SetR w s v) (hkeys:Ints w kv keys) (k:∀ w',Below w.heap.size w w' → K (.bool (keys.any fun q=>validM s q t)) w') :
  callM Tryz.prog 107 #[stpV s v,kv,tktV t] K w:=by
 apply sh_107_ok
 unfold sh_107
 obtain ⟨ad,c,rfl⟩:=hs.ints.isSlice
 have hkl:=hkeys.len
 obtain ⟨kad,kc,rfl⟩:=hkeys.isSlice
 refine box_kn (cs:=stpC s (.slice ad s.bases.length c)) rfl (.start w) fun b1 W hk hb1 hbb=>?_
 refine box_kn (cs:=tktC t) rfl hk fun b2 W2 hk hb2 hbb=>?_
 clear hb1 hb2
 refine Xa hk.cells ?_
 refine ⟨RkJ _ (fun q=>validM s q t) keys (keys.any fun q=>validM s q t) w,grMu keys.length,⟨hk,_,0,rfl,by omega,by rw [List.drop_zero]⟩,?_⟩
 generalize (keys.any fun q=>validM s q t) = R at *
 rintro _ _ w6 ⟨hk,u,i,rfl,hi,ha⟩
 by_cases hin:i = keys.length
 ·rw [List.drop_of_length_le (by omega)] at ha
  rw [← ha] at k
  refine Xa hk.cells ?_
  exact k _ hk.below
 ·rw [List.drop_eq_getElem_cons (by omega),List.any_cons] at ha
  obtain ⟨b8,o8,rfl,hb8,ca,ra,_⟩:=hkeys.at (i:=i) (by omega)
  generalize keys[i] = q at *
  have hil:(i:Int) < keys.length:=by omega
  refine Xa (An2 hk.cells @hil) ?_
  have hk:=hk.drew
  refine ⟨Nx { w6 with drawn:=w6.drawn + 1 },Below.refl _ _,rfl,?_⟩
  generalize ({ w6 with drawn:=w6.drawn + 1 }:World) = W6 at hk ⊢
  refine Xc (fun W0 hW0=>An2 ((hk.next hW0).cells) (ca _ (hk.next hW0).below)) ?_
  refine ⟨Nx,fun w7 h7=>?_⟩
  refine rVal_ok s q t ht (hs.next (hk.next h7).below) (fun w8 h8=>?_)
  have hk:=(hk.next h7).next h8
  clear h7 h8
  cases hq:validM s q t with
  | true=>
   rw [hq,Bool.true_or] at ha
   rw [← ha] at k
   refine Xa0 ?_
   exact k _ hk.below
  | false=>
   rw [hq,Bool.false_or] at ha
   refine Xa0 ?_
   refine ⟨⟨hk,_,i + 1,rfl,by omega,ha⟩,?_⟩
   simp only [grMu_eq]; omega
def LfJ (ls:List Lnk) (p:Lnk → Bool) (R:Bool) (w0:World) (vs:List Value) (w':World):Prop:=Below w0.heap.size w0 w' ∧ ∃ (u:Value) (i:Nat),vs = [u,.int .i64 (i:Int)] ∧ i ≤ ls.length ∧ (ls.drop i).all p = R
def linkFew (x:Lnk):Bool:=decide (x.terms.length ≤ 300) && decide (x.spend.answers.length ≤ 9)
def linksM (ls:List Lnk):Bool:=ls.all linkFew && decide (ls.length ≤ 6)
theorem links_ok {lv:Value} {ls:List Lnk} (hl:LnkRow w lv ls) (k:∀ w',Below w.heap.size w w' → K (.bool (linksM ls)) w') :
  callM Tryz.prog 43 #[lv] K w:=by
 apply sh_43_ok
 unfold sh_43
 obtain ⟨lad,lc,rfl⟩:=hl.isSlice
 have hll:=hl.len
 unfold linksM at k
 refine ⟨LfJ ls linkFew (ls.all linkFew) w,grMu ls.length,⟨Below.refl _ _,_,0,rfl,by omega,by rw [List.drop_zero]⟩,?_⟩
 generalize ls.all linkFew = R at *
 rintro _ _ w6 ⟨hb,u,i,rfl,hi,ha⟩
 by_cases hin:i = ls.length
 ·rw [List.drop_of_length_le (by omega)] at ha
  have k:=k _ hb
  rw [← ha] at k
  simp only [List.all_nil,Bool.true_and] at k
  have e6:decide ((ls.length:Int) ≤ 6) = decide (ls.length ≤ 6):=decide_eq_decide.mpr (by omega)
  refine Xa0 ?_
  rw [e6]
  exact k
 ·rw [List.drop_eq_getElem_cons (by omega),List.all_cons] at ha
  obtain ⟨b8,o8,av,rfl,ca,hsp,htk,hlen⟩:=hl.at (i:=i) (by omega)
  have ca:=ca _ hb
  have hal:=hsp.answers.len
  unfold LnkAt at ca
  obtain ⟨aad,ac,rfl⟩:=hsp.answers.isSlice
  have hil:(i:Int) < ls.length:=by omega
  have hfe:linkFew ls[i] = (decide (ls[i].terms.length ≤ 300) && decide (ls[i].spend.answers.length ≤ 9)):=rfl
  generalize ls[i] = x at *
  have no:linkFew x = false → K (.bool false) w6:=fun h=>by
   have k:=k _ hb
   rw [← ha,h] at k
   exact k
  by_cases h3:(300:Int) < x.terms.length
  ·rw [decide_eq_false (by omega:¬ x.terms.length ≤ 300),Bool.false_and] at hfe
   refine Xa (An3 @hil @ca @h3) ?_
   exact no hfe
  by_cases h9:(9:Int) < x.spend.answers.length
  ·rw [decide_eq_false (by omega:¬ x.spend.answers.length ≤ 9),Bool.and_false] at hfe
   refine Xa (An4 @hil @ca @h3 @h9) ?_
   exact no hfe
  rw [decide_eq_true (by omega:x.terms.length ≤ 300),decide_eq_true (by omega:x.spend.answers.length ≤ 9),Bool.true_and] at hfe
  rw [hfe,Bool.true_and] at ha
  refine Xa (An4 @hil @ca @h3 @h9) ?_
  refine ⟨⟨hb,_,i + 1,rfl,by omega,ha⟩,?_⟩
  simp only [grMu_eq]; omega
end
end Go.Proofs
namespace Go.Proofs
open Go Go.Sh Go.RowKit FdSpec TkSpec CodeSpec
section
variable {K:Value → World → Prop} {w w0:World} {L:List (Addr × Value)}
def RfwJ (s:Stp) (keys:List Int) (dare:Int) (ls:List Lnk) (R:Bool) (L:List (Addr × Value)) (w0:World) (vs:List Value) (w':World):Prop:=
 Kn w0 L w' ∧ ∃ (u:Value) (i:Nat),vs = [u,.int .i64 (i:Int)] ∧ i < ls.length ∧ chainM s keys dare (ls.drop i) = R
theorem rFollows_ok (s:Stp) (dare:Int) {v kv lv:Value} {keys:List Int} {ls:List Lnk} (hs:SetR w s v) (hkeys:Ints w kv keys) (hl:LnkRow w lv ls) (k:∀ w',Below w.heap.size w w' → K (.bool (followsM s keys ls dare)) w') :
  callM Tryz.prog 45 #[stpV s v,kv,lv,.int .i64 dare] K w:=by
 apply sh_45_ok
 unfold sh_45
 obtain ⟨ad,c,rfl⟩:=hs.ints.isSlice
 obtain ⟨lad,lc,rfl⟩:=hl.isSlice
 refine box_kn (cs:=stpC s (.slice ad s.bases.length c)) rfl (.start w) fun b W hk hb1 hb=>?_
 unfold followsM at k
 have hll:=hl.len
 refine Xa hk.cells ?_
 refine rValidSetup_ok s (hs.next hk.below) (fun w2 h=>?_)
 have hk:=hk.next h
 clear h hb1
 cases hv:validS s with
 | false=>
  rw [hv,Bool.false_and,Bool.false_and,Bool.false_and] at k
  refine Xa0 ?_
  exact k _ hk.below
 | true=>
 rw [hv,Bool.true_and] at k
 refine Xa hk.cells ?_
 refine in_ok _ 1 5 ?_
 by_cases h1:1 ≤ ls.length
 rotate_left
 ·rw [decide_eq_false h1,Bool.false_and,Bool.false_and] at k
  rw [decide_eq_false (by omega:¬ (1:Int) ≤ ls.length)]
  refine Xa0 ?_
  exact k _ hk.below
 rw [decide_eq_true h1,Bool.true_and] at k
 rw [decide_eq_true (by omega:(1:Int) ≤ ls.length)]
 by_cases h5:ls.length ≤ 5
 rotate_left
 ·rw [decide_eq_false h5,Bool.false_and] at k
  rw [decide_eq_false (by omega:¬ (ls.length:Int) ≤ 5)]
  refine Xa0 ?_
  exact k _ hk.below
 rw [decide_eq_true h5,Bool.true_and] at k
 rw [decide_eq_true (by omega:(ls.length:Int) ≤ 5)]
 refine Xa0 ?_
 refine ⟨RfwJ s keys dare ls (chainM s keys dare ls) _ w,grMu ls.length,⟨hk,_,0,rfl,by omega,by rw [List.drop_zero]⟩,?_⟩
 generalize chainM s keys dare ls = R at *
 rintro _ _ w6 ⟨hk,u,i,rfl,hi,ha⟩
 rw [List.drop_eq_getElem_cons hi] at ha
 obtain ⟨b8,o8,av,rfl,ca,hsp,htk,hlen⟩:=hl.at (i:=i) hi
 have ca:=ca _ hk.below
 have hsp:=hsp.next hk.below
 unfold LnkAt at ca
 obtain ⟨aad,ac,rfl⟩:=hsp.answers.isSlice
 have hil:(i:Int) < ls.length:=by omega
 repeat (any_goals (first
 | ((with_reducible refine local_lnk ls[i] aad ls[i].spend.answers.length ac hk ?_); intro g13 W13 hk hb13 hg13)
 | (with_reducible refine yL ?_)
 | ((with_reducible refine oM_gen fun Kv hK=>?_); simp [go_sem,ca,hil]; refine hK _ _ ?_; clear hK Kv)))
 have hsp:=hsp.next hb13
 clear hb13 ca
 generalize ls[i] = x at *
 have elk:linkM s keys x = (keys.any (fun q=>validM s q x.ticket) && decide (x.terms.length ≤ 8000) && acceptsM s x.ticket x.spend):=rfl
 have hno:linkM s keys x = false → K (.bool false) = K (.bool R):=fun h=>by
  rw [← ha]
  cases hr:List.drop (i + 1) ls with
  | nil=>rw [chainM,h]; rfl
  | cons y l=>rw [chainM,h]; rfl
 by_cases h8:(8000:Int) < x.terms.length
 ·rw [decide_eq_false (by omega:¬ x.terms.length ≤ 8000),Bool.and_false,Bool.false_and] at elk
  refine Xa (An2 hk.cells @h8) ?_
  rw [hno elk]
  exact k _ hk.below
 rw [decide_eq_true (by omega:x.terms.length ≤ 8000),Bool.and_true] at elk
 refine Xa (An2 hk.cells @h8) ?_
 refine rcert_ok s x.ticket htk (hs.next hk.below) (hkeys.next hk.below) (fun w3 h3=>?_)
 have hk:=hk.next h3
 have hsp:=hsp.next h3
 clear h3
 generalize (keys.any fun q=>validM s q x.ticket) = va at *
 cases va with
 | false=>
  rw [Bool.false_and] at elk
  refine Xa hk.cells ?_
  rw [hno elk]
  exact k _ hk.below
 | true=>
 rw [Bool.true_and] at elk
 refine Xa hk.cells ?_
 refine rAccepts_ok s x.ticket x.spend htk (hs.next hk.below) hsp (fun w4 h4=>?_)
 have hk:=hk.next h4
 clear h4
 cases hac:acceptsM s x.ticket x.spend with
 | false=>
  rw [hac] at elk
  refine Xa hk.cells ?_
  rw [hno elk]
  exact k _ hk.below
 | true=>
 rw [hac] at elk
 clear hac hno
 have hll':x.terms.length ≤ 8000:=by omega
 have ew:IntKind.i64.wrap ((i:Int) + 1) = (i:Int) + 1:=wrapI64 _ (by omega) (by omega)
 by_cases hnx:i + 1 < ls.length
 ·rw [List.drop_eq_getElem_cons hnx,chainM,elk,Bool.true_and,← List.drop_eq_getElem_cons hnx] at ha
  obtain ⟨b9,o9,av9,e9,cb,_,hyt,_⟩:=hl.at (i:=i + 1) hnx
  cases e9
  unfold LnkAt at cb
  have hx1:¬ ((i:Int) + 1 = ls.length):=by omega
  have hx2:(i:Int) + 1 < ls.length:=by omega
  have et:((i:Int) + 1).toNat = i + 1:=by omega
  generalize ls[i + 1] = y at *
  refine Xa (An3 hk.cells @ew @hx1) ?_
  have hk:=hk.drew
  refine ⟨Nx { w4 with drawn:=w4.drawn + 1 },Below.refl _ _,rfl,?_⟩
  generalize ({ w4 with drawn:=w4.drawn + 1 }:World) = W6 at hk ⊢
  refine Xf (fun W0 hW0=>An2 ((hk.next hW0).cells) (cb _ (hk.next hW0).below)) (An3 @et @ew @hx2) ?_
  refine ⟨Nx,?_⟩
  apply monoE
  ·intro w1 h1
   exact rLendDare_ok s y.ticket x.terms (by omega) hyt (hs.next (hk.next h1).below) (fun w2 h2=>⟨h1.on h2,h2,rfl⟩)
  rintro w9 h9 _ rfl
  have hk:=hk.next h9
  by_cases hd:x.spend.dare = lendM s y.ticket x.terms
  ·rw [decide_eq_true hd,Bool.true_and] at ha
   refine Xa @hd ?_
   refine ⟨⟨⟨hk.below,hk.cells.2.2.2.2.2.2.2.2.2⟩,_,i + 1,rfl,by omega,ha⟩,?_⟩
   simp only [grMu_eq]; omega
  ·rw [decide_eq_false hd,Bool.false_and] at ha
   subst ha
   refine Xa @hd ?_
   exact k _ hk.below
 ·have hi1:i + 1 = ls.length:=by omega
  rw [List.drop_of_length_le (by omega),chainM,elk,Bool.true_and] at ha
  have hx1:(i:Int) + 1 = ls.length:=by omega
  by_cases htm:x.terms = []
  ·rw [decide_eq_true htm,Bool.and_true] at ha
   refine Xa (An4 hk.cells @ew @hx1 @htm) ?_
   rw [ha]
   exact k _ hk.below
  ·rw [decide_eq_false htm,Bool.and_false] at ha
   subst ha
   refine Xa (An4 hk.cells @ew @hx1 @htm) ?_
   exact k _ hk.below
end
end Go.Proofs
namespace Go.Proofs
open FdSpec TkSpec
section
open TpA
end
end Go.Proofs
namespace Go.Proofs
open Go.Sh Tryz
end Go.Proofs
namespace Go.Proofs
open Go Go.Sh Go.RowKit FdSpec TkSpec CodeSpec
section
variable {K:Value → World → Prop} {w w0:World} {L:List (Addr × Value)}
theorem local_bldK {K:Value → World → Prop} {T' T2:TypeId} (x:Bld) (ad:Option Addr) (m c:Nat) (hk:Kn w0 L w)
  (k:∀ b W,Kn w0 (cellsOf L b 0 (bldC x (.slice ad m c))) W → Below w.heap.size w W → w.heap.size ≤ b → K (.pointer (some ⟨b,0,none⟩)) W) :
  oM Tryz.prog (.alloc 45) T' [] (fun v w=>oM Tryz.prog (.store 45 (.tmp 0) (.tmp 1)) T2 [v,bldV x (.slice ad m c)] (fun _ w=>K v w) w) w:=
 local_kn al_bld rfl sz_bld rfl rfl (bld_one x ad m c) hk k
theorem SameBld_ok (x y:Bld) {v u:Value} (hx:BldR w x v) (hy:BldR w y u) (k:∀ w',Below w.heap.size w w' → K (.bool (decide (x = y))) w'):callM Tryz.prog 20 #[bldV x v,bldV y u] K w:=by
 apply sh_20_ok
 unfold sh_20
 have hx':=hx.ys
 have hy':=hy.ys
 obtain ⟨ad,c,rfl⟩:=hx.ys.isSlice
 obtain ⟨ad2,c2,rfl⟩:=hy.ys.isSlice
 refine box_kn (cs:=bldC x (.slice ad x.ys.length c)) rfl (.start w) fun b1 W hk hb1 hbb=>?_
 refine box_kn (cs:=bldC y (.slice ad2 y.ys.length c2)) rfl hk fun b2 W2 hk hb2 hbb=>?_
 have e:decide (x = y) = (decide (x.s = y.s) && (decide (x.u = y.u) && (decide (x.v = y.v) && decide (x.ys = y.ys)))):=by
  obtain ⟨a,b,c,d⟩:=x
  obtain ⟨a',b',c',d'⟩:=y
  rw [Bool.eq_iff_iff]
  simp
 rw [e] at k
 by_cases h1:x.s = y.s
 rotate_left
 ·rw [decide_eq_false h1,Bool.false_and] at k
  refine Xa (An2 hk.cells @h1) ?_
  exact k _ hk.below
 rw [decide_eq_true h1,Bool.true_and] at k
 by_cases h2:x.u = y.u
 rotate_left
 ·rw [decide_eq_false h2,Bool.false_and] at k
  refine Xa (An3 hk.cells @h1 @h2) ?_
  exact k _ hk.below
 rw [decide_eq_true h2,Bool.true_and] at k
 by_cases h3:x.v = y.v
 rotate_left
 ·rw [decide_eq_false h3,Bool.false_and] at k
  refine Xa (An4 hk.cells @h1 @h2 @h3) ?_
  exact k _ hk.below
 rw [decide_eq_true h3,Bool.true_and] at k
 refine Xa (An4 hk.cells @h1 @h2 @h3) ?_
 refine Same_ok (hx'.next hk.below) (hy'.next hk.below) (fun w3 h=>?_)
 have k:=k _ (hk.next h).below
 generalize decide (x.ys = y.ys) = q at *
 refine Xa0 ?_
 exact k
end
end Go.Proofs
namespace Go.Proofs
open Go.Sh Tryz
def sh_9 (a0 a1 a2 a3 a4 a5 a6 a7:Value) (K:Value → World → Prop) (w:World):Prop:=
 oM prog (.box 32 (.tmp 0)) 0 [a0] (fun v8 w=>
 oM prog (.box 24 (.tmp 0)) 0 [a1] (fun v9 w=>
 oM prog (.box 39 (.tmp 0)) 0 [a4] (fun v12 w=>
 oM prog (.box 45 (.tmp 0)) 0 [a5] (fun v13 w=>
 oM prog (.box 39 (.tmp 0)) 0 [a6] (fun v14 w=>
 callM prog 21 #[] (fun v23 w=>
 oM prog (.load 32 (.tmp 0)) 32 [v8] (fun v24 w=>
 oM prog (.fieldAddr 24 (.tmp 0) 0) 0 [v9] (fun v25 w=>
 oM prog (.load 22 (.tmp 0)) 22 [v25] (fun v26 w=>
 oM prog (.fieldAddr 39 (.tmp 0) 0) 0 [v12] (fun v28 w=>
 oM prog (.load 22 (.tmp 0)) 22 [v28] (fun v29 w=>
 oM prog (.fieldAddr 39 (.tmp 0) 0) 0 [v14] (fun v30 w=>
 oM prog (.load 22 (.tmp 0)) 22 [v30] (fun v31 w=>
 oM prog (.fieldAddr 45 (.tmp 0) 3) 0 [v13] (fun v32 w=>
 oM prog (.load 22 (.tmp 0)) 22 [v32] (fun v33 w=>
 oM prog (.buildSlice 98 5 #[(0,(.tmp 0)),(1,(.tmp 1)),(2,(.tmp 2)),(3,(.tmp 3)),(4,(.tmp 4))]) 98 [v26,a2,v29,v31,v33] (fun v34 w=>
 callM prog 42 #[v24,v34] (fun v35 w=>
 oM prog (.unOp .not 4 (.tmp 0)) 4 [v35] (fun v36 w=>
 gdM (gd v36 false) (pureM a3) (fun v38 w=>
 gdM (gd v36 false) (callM prog 43 #[v38]) (fun v39 w=>
 gdM (gd v36 false) (oM prog (.unOp .not 4 (.tmp 0)) 4 [v39]) (fun v40 w=>
 oM prog (.pick (.tmp 0) (.tmp 1) (.tmp 2)) 4 [v36,(.bool true),v40] (fun v41 w=>
 condM v41
 (K v23 w)
 (joinM (fun M_23=>(oM prog (.call (Go.Call.mk (.builtin .len) #[(.tmp 0)] #[22])) 3 [a2] (fun v44 w=>
 oM prog (.binOp .gtr 3 (.tmp 0) (.tmp 1) 3) 4 [v44,(.int .i64 0)] (fun v45 w=>
 condM v45
 (oM prog (.indexAddr 22 (.tmp 0) (.tmp 1)) 0 [a2,(.int .i64 0)] (fun v47 w=>
 oM prog (.load 3 (.tmp 0)) 3 [v47] (fun v48 w=>
 M_23 [v48] w) w) w)
 (M_23 [(.int .i64 0)] w)) w) w))
 (fun l_24 u_l_24 w=>(oM prog (.load 32 (.tmp 0)) 32 [v8] (fun v50 w=>
 oM prog (.load 24 (.tmp 0)) 24 [v9] (fun v51 w=>
 oM prog (.load 39 (.tmp 0)) 39 [v12] (fun v53 w=>
 oM prog (.load 45 (.tmp 0)) 45 [v13] (fun v54 w=>
 oM prog (.load 39 (.tmp 0)) 39 [v14] (fun v55 w=>
 callM prog 16 #[v50,v51,(l_24.getD 0 undef),v53,v54,v55,a7] (fun v57 w=>
 oM prog (.extract (.tmp 0) 0) 45 [v57] (fun v58 w=>
 oM prog (.extract (.tmp 0) 1) 4 [v57] (fun v59 w=>
 oM prog (.alloc 45) 0 [] (fun v19 w=>
 oM prog (.store 45 (.tmp 0) (.tmp 1)) 0 [v19,v58] (fun _ w=>
 oM prog (.load 32 (.tmp 0)) 32 [v8] (fun v61 w=>
 oM prog (.load 24 (.tmp 0)) 24 [v9] (fun v62 w=>
 oM prog (.load 39 (.tmp 0)) 39 [v12] (fun v64 w=>
 oM prog (.load 45 (.tmp 0)) 45 [v13] (fun v65 w=>
 oM prog (.load 39 (.tmp 0)) 39 [v14] (fun v66 w=>
 callM prog 44 #[v61,v62,(l_24.getD 0 undef),v64,v65,v66,a7] (fun v68 w=>
 oM prog (.extract (.tmp 0) 0) 45 [v68] (fun v69 w=>
 oM prog (.extract (.tmp 0) 1) 4 [v68] (fun v70 w=>
 oM prog (.alloc 45) 0 [] (fun v21 w=>
 oM prog (.store 45 (.tmp 0) (.tmp 1)) 0 [v21,v69] (fun _ w=>
 heldM w (fun C_47 w=>(((true:Bool) = true) ∧ (pureH v23 C_47 (fun v71=>
 pureH v71 C_47 (fun v72=>
 gdH (gd v72 true) (oH prog (.load 45 (.tmp 0)) 45 [v19]) C_47 (fun v73=>
 gdH (gd v72 true) (oH prog (.load 45 (.tmp 0)) 45 [v21]) C_47 (fun v74=>
 ∃ S_52:World → World → Prop,∃ R_53:Value → World → Prop,(∀ v w w_1,S_52 w w_1 → R_53 v w → R_53 v w_1) ∧
 (∀ w,C_47 w → (gdM (gd v72 true) (callM prog 20 #[v73,v74]) (fun v w_1=>C_47 w_1 ∧ S_52 w w_1 ∧ R_53 v w_1) w)) ∧
 (∃ R_54:Value → World → Prop,(∀ v w w_1,S_52 w w_1 → R_54 v w → R_54 v w_1) ∧
 (∀ w,C_47 w → ∀ v75,R_53 v75 w → (oM prog (.pick (.tmp 0) (.tmp 1) (.tmp 2)) 4 [v72,v75,(.bool false)] (fun v w_1=>C_47 w_1 ∧ S_52 w w_1 ∧ R_54 v w_1) w)) ∧
 (∃ R_56:Value → World → Prop,(∀ v w w_1,S_52 w w_1 → R_56 v w → R_56 v w_1) ∧
 (∀ w,C_47 w → ∀ v76,R_54 v76 w → (C_47 w ∧ S_52 w w ∧ R_56 v76 w)) ∧
 (∃ R_58:Value → World → Prop,(∀ v w w_1,S_52 w w_1 → R_58 v w → R_58 v w_1) ∧
 (∀ w,C_47 w → ∀ v77,R_56 v77 w → (gdM (gd v77 true) (pureM v59) (fun v w_1=>C_47 w_1 ∧ S_52 w w_1 ∧ R_58 v w_1) w)) ∧
 (∃ R_60:Value → World → Prop,(∀ v w w_1,S_52 w w_1 → R_60 v w → R_60 v w_1) ∧
 (∀ w,C_47 w → ∀ v77,R_56 v77 w → (gdM (gd v77 true) (pureM v70) (fun v w_1=>C_47 w_1 ∧ S_52 w w_1 ∧ R_60 v w_1) w)) ∧
 (∃ R_62:Value → World → Prop,(∀ v w w_1,S_52 w w_1 → R_62 v w → R_62 v w_1) ∧
 (∀ w,C_47 w → ∀ v77,R_56 v77 w → ∀ v78,R_58 v78 w → ∀ v79,R_60 v79 w → (gdM (gd v77 true) (oM prog (.binOp .eql 4 (.tmp 0) (.tmp 1) 4) 4 [v78,v79]) (fun v w_1=>C_47 w_1 ∧ S_52 w w_1 ∧ R_62 v w_1) w)) ∧
 (∃ R_66:Value → World → Prop,(∀ v w w_1,S_52 w w_1 → R_66 v w → R_66 v w_1) ∧
 (∀ w,C_47 w → ∀ v77,R_56 v77 w → ∀ v80,R_62 v80 w → (oM prog (.pick (.tmp 0) (.tmp 1) (.tmp 2)) 4 [v77,v80,(.bool false)] (fun v w_1=>C_47 w_1 ∧ S_52 w w_1 ∧ R_66 v w_1) w)) ∧
 (∃ R_69:Value → World → Prop,(∀ v w w_1,S_52 w w_1 → R_69 v w → R_69 v w_1) ∧
 (∀ w,C_47 w → ∀ v81,R_66 v81 w → (C_47 w ∧ S_52 w w ∧ R_69 v81 w)) ∧
 (∃ R_71:Value → World → Prop,(∀ v w w_1,S_52 w w_1 → R_71 v w → R_71 v w_1) ∧
 (∀ w,C_47 w → ∀ v82,R_69 v82 w → (gdM (gd v82 true) (oM prog (.load 32 (.tmp 0)) 32 [v8]) (fun v w_1=>C_47 w_1 ∧ S_52 w w_1 ∧ R_71 v w_1) w)) ∧
 (∃ R_73:Value → World → Prop,(∀ v w w_1,S_52 w w_1 → R_73 v w → R_73 v w_1) ∧
 (∀ w,C_47 w → ∀ v82,R_69 v82 w → (gdM (gd v82 true) (pureM a2) (fun v w_1=>C_47 w_1 ∧ S_52 w w_1 ∧ R_73 v w_1) w)) ∧
 (∃ R_75:Value → World → Prop,(∀ v w w_1,S_52 w w_1 → R_75 v w → R_75 v w_1) ∧
 (∀ w,C_47 w → ∀ v82,R_69 v82 w → (gdM (gd v82 true) (pureM a3) (fun v w_1=>C_47 w_1 ∧ S_52 w w_1 ∧ R_75 v w_1) w)) ∧
 (∃ R_77:Value → World → Prop,(∀ v w w_1,S_52 w w_1 → R_77 v w → R_77 v w_1) ∧
 (∀ w,C_47 w → ∀ v82,R_69 v82 w → (gdM (gd v82 true) (pureM a7) (fun v w_1=>C_47 w_1 ∧ S_52 w w_1 ∧ R_77 v w_1) w)) ∧
 (∃ R_79:Value → World → Prop,(∀ v w w_1,S_52 w w_1 → R_79 v w → R_79 v w_1) ∧
 (∀ w,C_47 w → ∀ v82,R_69 v82 w → ∀ v83,R_71 v83 w → ∀ v84,R_73 v84 w → ∀ v85,R_75 v85 w → ∀ v86,R_77 v86 w → (gdM (gd v82 true) (callM prog 38 #[v83,v84,v85,v86]) (fun v w_1=>C_47 w_1 ∧ S_52 w w_1 ∧ R_79 v w_1) w)) ∧
 (∃ R_85:Value → World → Prop,(∀ v w w_1,S_52 w w_1 → R_85 v w → R_85 v w_1) ∧
 (∀ w,C_47 w → ∀ v82,R_69 v82 w → (gdM (gd v82 true) (oM prog (.load 32 (.tmp 0)) 32 [v8]) (fun v w_1=>C_47 w_1 ∧ S_52 w w_1 ∧ R_85 v w_1) w)) ∧
 (∃ R_87:Value → World → Prop,(∀ v w w_1,S_52 w w_1 → R_87 v w → R_87 v w_1) ∧
 (∀ w,C_47 w → ∀ v82,R_69 v82 w → (gdM (gd v82 true) (pureM a2) (fun v w_1=>C_47 w_1 ∧ S_52 w w_1 ∧ R_87 v w_1) w)) ∧
 (∃ R_89:Value → World → Prop,(∀ v w w_1,S_52 w w_1 → R_89 v w → R_89 v w_1) ∧
 (∀ w,C_47 w → ∀ v82,R_69 v82 w → (gdM (gd v82 true) (pureM a3) (fun v w_1=>C_47 w_1 ∧ S_52 w w_1 ∧ R_89 v w_1) w)) ∧
 (∃ R_91:Value → World → Prop,(∀ v w w_1,S_52 w w_1 → R_91 v w → R_91 v w_1) ∧
 (∀ w,C_47 w → ∀ v82,R_69 v82 w → (gdM (gd v82 true) (pureM a7) (fun v w_1=>C_47 w_1 ∧ S_52 w w_1 ∧ R_91 v w_1) w)) ∧
 (∀ w,C_47 w → ∀ v75,R_53 v75 w → ∀ v76,R_54 v76 w → ∀ v77,R_56 v77 w → ∀ v78,R_58 v78 w → ∀ v79,R_60 v79 w → ∀ v80,R_62 v80 w → ∀ v81,R_66 v81 w → ∀ v82,R_69 v82 w → ∀ v83,R_71 v83 w → ∀ v84,R_73 v84 w → ∀ v85,R_75 v85 w → ∀ v86,R_77 v86 w → ∀ v87,R_79 v87 w → ∀ v88,R_85 v88 w → ∀ v89,R_87 v89 w → ∀ v90,R_89 v90 w → ∀ v91,R_91 v91 w → (
 gdM (gd v82 true) (callM prog 45 #[v88,v89,v90,v91]) (fun v92 w=>
 gdM (gd v82 true) (oM prog (.binOp .eql 4 (.tmp 0) (.tmp 1) 4) 4 [v87,v92]) (fun v93 w=>
 oM prog (.pick (.tmp 0) (.tmp 1) (.tmp 2)) 4 [v82,v93,(.bool false)] (fun v94 w=>
 K v94 w) w) w) w)))))))))))))))))))))))))) w) w) w) w) w) w) w) w) w) w) w) w) w) w) w) w) w) w) w) w)))) w) w) w) w) w) w) w) w) w) w) w) w) w) w) w) w) w) w) w) w) w) w
theorem sh_9_ok {a0 a1 a2 a3 a4 a5 a6 a7:Value} {K:Value → World → Prop} {w:World} (h:sh_9 a0 a1 a2 a3 a4 a5 a6 a7 K w):callM prog 9 #[a0,a1,a2,a3,a4,a5,a6,a7] K w:=
 calls_of_code (fun _=>.free [0,1,2,3] [4,5,6,7,8,9,10,11,12,13,14,15,16,17,18,19,20] [21,22,23,24]) (fn:=Tryz.f9) (rs:=[.tmp 16]) Tryz.func9 rfl rfl (by kernel_rfl) (Nat.le_of_ble_eq_true rfl) (Eq.mp (by kernel_rfl) h)
end Go.Proofs
namespace Go.Proofs
open Go Go.Sh Go.RowKit FdSpec TkSpec CodeSpec
section
variable {K:Value → World → Prop} {w w0:World} {L:List (Addr × Value)}
theorem oM_buildSlice5 {P:Program} (T t i0 i1 i2 i3 i4:Nat) (x y z u v:Value) (n:Nat):oM P (.buildSlice t n #[(i0,.tmp 0),(i1,.tmp 1),(i2,.tmp 2),(i3,.tmp 3),(i4,.tmp 4)]) T [x,y,z,u,v] K w = rM ((Instr.buildSlice t n #[(i0,x),(i1,y),(i2,z),(i3,u),(i4,v)]).run P w) K:=rM_of (by simp [xop,execOp,evalL,evE])
theorem mkLL5 {T:TypeId} (a1 a2 a3 a4 a5:Option Addr) (n1 n2 n3 n4 n5 c1 c2 c3 c4 c5:Nat)
  (k:∀ g W,Below w.heap.size w W → g < W.heap.size → (∀ i (h:i < 5),∃ ad c,W.cell? ⟨g,i,none⟩ = some (.slice ad [n1,n2,n3,n4,n5][i] c)) → K (.slice (some ⟨g,0,none⟩) 5 5) W) :
  oM Tryz.prog (.buildSlice 98 5 #[(0,.tmp 0),(1,.tmp 1),(2,.tmp 2),(3,.tmp 3),(4,.tmp 4)]) T [.slice a1 n1 c1,.slice a2 n2 c2,.slice a3 n3 c3,.slice a4 n4 c4,.slice a5 n5 c5] K w:=by
 rw [oM_buildSlice5]
 have e:(Instr.buildSlice 98 5 #[(0,.slice a1 n1 c1),(1,.slice a2 n2 c2),(2,.slice a3 n3 c3),(3,.slice a4 n4 c4),(4,.slice a5 n5 c5)]).run Tryz.prog w = .ok (.slice (some ⟨w.heap.size,0,none⟩) 5 5) (w.alloc (.cells #[.slice a1 n1 c1,.slice a2 n2 c2,.slice a3 n3 c3,.slice a4 n4 c4,.slice a5 n5 c5] 22)):=by kernel_rfl
 rw [e]
 refine k _ _ ((Below.refl _ w).alloc (Nat.le_refl _) _) (by simp) (fun i hi=>?_)
 match i,hi with
 | 0,_=>exact ⟨_,_,(World.cell?_alloc_at _ _ _ _ rfl).trans rfl⟩
 | 1,_=>exact ⟨_,_,(World.cell?_alloc_at _ _ _ _ rfl).trans rfl⟩
 | 2,_=>exact ⟨_,_,(World.cell?_alloc_at _ _ _ _ rfl).trans rfl⟩
 | 3,_=>exact ⟨_,_,(World.cell?_alloc_at _ _ _ _ rfl).trans rfl⟩
 | 4,_=>exact ⟨_,_,(World.cell?_alloc_at _ _ _ _ rfl).trans rfl⟩
theorem follows_law (s:Stp) (m:Mir) (keys:List Int) (ls:List Lnk) (x y:Ses) (b:Bld) (dare:Int) {v mv kv lv xv bv yv:Value} (hd:I64 dare) (hL:Cd.Laid w) (hs:SetR w s v) (hm:MirR w m mv) (hkeys:Ints w kv keys) (hl:LnkRow w lv ls) (hx:SesR w x xv) (hb:BldR w b bv) (hy:SesR w y yv)
  (k:∀ w',Below w.heap.size w w' → K (.bool true) w') :
  callM Tryz.prog 9 #[stpV s v,mirV m mv,kv,lv,sesV x xv,bldV b bv,sesV y yv,.int .i64 dare] K w:=by
 apply sh_9_ok
 unfold sh_9
 have hT:=hs.db
 have hm':=hm
 have hx':=hx
 have hb':=hb
 have hy':=hy
 have hkl:=hkeys.len
 obtain ⟨ad,c,rfl⟩:=hs.ints.isSlice
 obtain ⟨mad,mc,rfl⟩:=hm.ints.isSlice
 obtain ⟨kad,kc,rfl⟩:=hkeys.isSlice
 obtain ⟨xad,xc,rfl⟩:=hx.attrs.isSlice
 obtain ⟨bad,bc,rfl⟩:=hb.ys.isSlice
 obtain ⟨yad,yc,rfl⟩:=hy.attrs.isSlice
 refine box_kn (cs:=stpC s (.slice ad s.bases.length c)) rfl (.start w) fun b1 W1 hk hb1 hbb=>?_
 refine box_kn (cs:=mirC m (.slice mad m.bases.length mc)) rfl hk fun b2 W2 hk hb2 hbb=>?_
 refine box_kn (cs:=sesC x (.slice xad x.attrs.length xc)) rfl hk fun b3 W3 hk hb3 hbb=>?_
 refine box_kn (cs:=bldC b (.slice bad b.ys.length bc)) rfl hk fun b4 W4 hk hb4 hbb=>?_
 refine box_kn (cs:=sesC y (.slice yad y.attrs.length yc)) rfl hk fun b5 W5 hk hb5 hbb=>?_
 clear hb1 hb2 hb3 hb4 hb5
 refine sane_ok (hT.next hk.below) (hL.below hk.below hL.size) (fun w1 h=>?_)
 have hk:=hk.next h
 clear h
 refine Xb9 hk.cells ?_
 refine mkLL5 _ _ _ _ _ _ _ _ _ _ _ _ _ _ _ fun gl w2 h2 hgl hc=>?_
 have hk:=hk.next h2
 clear h2
 refine Xa hk.cells ?_
 refine Few_ok s gl 5 [m.bases.length,keys.length,x.attrs.length,y.attrs.length,b.ys.length] (hs.next hk.below) hgl hc (by simp) (fun w3 h3=>?_)
 have hk:=hk.next h3
 clear h3 hc
 cases hf:fewM s [m.bases.length,keys.length,x.attrs.length,y.attrs.length,b.ys.length] with
 | false=>
  refine Xa0 ?_
  exact k _ hk.below
 | true=>
 clear hf
 refine Xa hk.cells ?_
 refine links_ok (hl.next hk.below) (fun w4 h4=>?_)
 have hk:=hk.next h4
 clear h4
 cases linksM ls with
 | false=>
  refine Xa0 ?_
  exact k _ hk.below
 | true=>
 refine Xa0 ?_
 refine ⟨fun l w'=>Kn w (cellsOf (cellsOf (cellsOf (cellsOf (cellsOf [] b1 0 (stpC s (.slice ad s.bases.length c))) b2 0 (mirC m (.slice mad m.bases.length mc))) b3 0 (sesC x (.slice xad x.attrs.length xc))) b4 0 (bldC b (.slice bad b.ys.length bc))) b5 0 (sesC y (.slice yad y.attrs.length yc))) w' ∧ ∃ key:Int,I64 key ∧ l = [Value.int .i64 key],?_,?_⟩
 ·cases keys with
  | nil=>
   refine Xa0 ?_
   exact ⟨hk,0,by constructor <;> decide,rfl⟩
  | cons q keys=>
   obtain ⟨b8,o8,rfl,hb8,ca,ra,_⟩:=hkeys.at (i:=0) (by simp)
   have ca:=ca _ hk.below
   simp only [Nat.add_zero,List.getElem_cons_zero] at ca
   have hp:(0:Int) < (q :: keys).length:=by simp
   refine Xa (An2 @hp @ca) ?_
   exact ⟨hk,q,ra,rfl⟩
 rintro _ _ w7 ⟨hk,key,hkey,rfl⟩
 simp only [List.getD_cons_zero]
 refine Xa hk.cells ?_
 refine Explain_ok s m key dare x b y hkey hd (hs.next hk.below) (hm'.next hk.below) (hx'.next hk.below) (hb'.next hk.below) (hy'.next hk.below) (hL.below hk.below hL.size) (fun w8 ov h hB=>?_)
 have hk:=hk.next h
 clear h
 obtain ⟨oad,oc,rfl⟩:=hB.ys.isSlice
 refine Xb2_0 ?_
 refine local_bldK _ _ _ _ hk (fun g1 w9 hk h hg1=>?_)
 have hB:=hB.next h
 clear h
 refine Xa hk.cells ?_
 refine rExplain_ok s m key dare x b y hkey hd (hs.next hk.below) (hm'.next hk.below) (hx'.next hk.below) (hb'.next hk.below) (hy'.next hk.below) (fun w10 ov2 h hC=>?_)
 have hk:=hk.next h
 have hB:=hB.next h
 clear h
 obtain ⟨pad,pc,rfl⟩:=hC.ys.isSlice
 refine Xb2_0 ?_
 refine local_bldK _ _ _ _ hk (fun g2 w11 hk h hg2=>?_)
 have hB:=hB.next h
 have hC:=hC.next h
 clear h
 have hk:=hk.drew
 have hB:BldR { w11 with drawn:=w11.drawn + 1 } _ _:=hB.next (Below.refl _ w11).drew
 have hC:BldR { w11 with drawn:=w11.drawn + 1 } _ _:=hC.next (Below.refl _ w11).drew
 refine ⟨Nx { w11 with drawn:=w11.drawn + 1 },Below.refl _ _,trivial,?_⟩
 generalize ({ w11 with drawn:=w11.drawn + 1 }:World) = W at hk hB hC ⊢
 generalize (explainM s m key x b y dare).1 = B at *
 generalize (explainM s m key x b y dare).2 = e at *
 refine Xc (fun W0 hW0=>(hk.next hW0).cells) ?_
 refine ⟨Nx,?_⟩
 apply monoE
 ·intro w1 h1
  refine Xa0 ?_
  refine SameBld_ok B B (hB.next h1) (hC.next h1) (fun w2 h2=>?_)
  rw [decide_eq_true rfl]
  exact ⟨h1.on h2,h2,rfl⟩
 refine Xd (fun w9 h9=>(hk.next h9).cells) ?_
 apply monoE
 ·rintro w1 h1 _ rfl _ rfl _ rfl _ rfl _ rfl
  refine Xa0 ?_
  exact Follows_ok s dare (hs.next (hk.next h1).below) (hkeys.next (hk.next h1).below) (hl.next (hk.next h1).below) (hL.below (hk.next h1).below hL.size) (fun w2 h2=>⟨h1.on h2,h2,rfl⟩)
 refine Xd (fun w9 h9=>(hk.next h9).cells) ?_
 (intro w9 h9; repeat (intro v9 e9; try (obtain rfl:=e9)))
 have hk:=hk.next h9
 clear h9
 refine Xa0 ?_
 refine rFollows_ok s dare (hs.next hk.below) (hkeys.next hk.below) (hl.next hk.below) (fun w12 h=>?_)
 refine Xa0 ?_
 exact k _ (hk.next h).below
end
end Go.Proofs
