/- Parts of the proof of the seat's statements (LawKit, OpenKit, OpenKit2, LZc, HTa, HSha, ShaSpec, ShW, SaA, SaB, SaC, SaD, SaE, TkSpec2, TkR, TkS, TkT, TkSpec3, HRc, HRd, HFo, FoA, FoB, FoC, FoD, FoE, FoF, FoG, FoH, FoI, FoJ, FoK, HRa, HRb, RfA, RfB, RfC, RfD, RfE, RfF): lemmas about the given translation and plain laws. No condition of their own. -/
import Derived.Test.YtpfjmfgnlpnflaaGreatDoorZcc
import Derived.ProofKit
import Derived.LaidMore
import Derived.OpenShut
import Derived.Carry
import Derived.SizedLaws
import Derived.Stop.Joined
import Derived.Deep.Slices
import Derived.Deep.Fields
import Derived.LaidSub
import Derived.Test.YtpfjmfgnlpnflaaGreatDoorRows
import Derived.Test.YtpfjmfgnlpnflaaGreatDoorCards
import Derived.Test.YtpfjmfgnlpnflaaGreatDoorTie
import Derived.SevenTiedAt
import Derived.Test.YtpfjmfgnlpnflaaGreatDoorProg
set_option linter.all false
set_option maxRecDepth 100000
namespace Go.Sh
open Go Go.ChangeShapes Go.WideShapes Go.ChangeAt Go.RowKit
section
variable {H:Type} {enc:TypeId × Value → H} {P:Program}
theorem trodAll_below (hl:laidOutB P = true) {W W':World} (hb:Below W.heap.size W W') :
  ∀ (ts:List TypeId) (vs:List Value) (ds:List (DataW H)) (ps:List MemPlace),(ts.all fun t=>P.readableRec t && decide (t < P.types.size)) = true →
  DataW.TrodAll enc P W 0 (fun _=>true) true ts vs ds ps → (∀ x ∈ ps,x.block < W.heap.size) → DataW.TrodAll enc P W' 0 (fun b=>decide (b < W.heap.size)) true ts vs ds ps
 | [],[],[],_,_,h,_=>h
 | t :: ts,v :: vs,d :: ds,ps,ht,h,hlt=>by
  obtain ⟨p,q,h1,h2,rfl⟩:=h
  simp only [List.all_cons,Bool.and_eq_true,decide_eq_true_eq] at ht
  exact ⟨p,q,Below.trod hl ht.1.1 ht.1.2 h1 hb (fun x hx=>hlt x (by simp [hx])),trodAll_below hl hb ts vs ds q ht.2 h2 (fun x hx=>hlt x (by simp [hx])),rfl⟩
 | [],_ :: _,_,_,_,h,_=>h.elim
 | [],[],_ :: _,_,_,h,_=>h.elim
 | _ :: _,[],_,_,_,h,_=>h.elim
 | _ :: _,_ :: _,[],_,_,h,_=>h.elim
theorem trodAll_length {W:World} {b:Nat} {sp:Nat → Bool} {hd:Bool}:∀ (ts:List TypeId) (vs:List Value) (ds:List (DataW H)) (ps:List MemPlace),DataW.TrodAll enc P W b sp hd ts vs ds ps → ds.length = ts.length ∧ vs.length = ts.length
 | [],[],[],_,_=>⟨rfl,rfl⟩
 | t :: ts,v :: vs,d :: ds,ps,h=>by
  obtain ⟨p,q,h1,h2,rfl⟩:=h
  have:=trodAll_length ts vs ds q h2
  simp [this]
 | [],_ :: _,_,_,h=>h.elim
 | [],[],_ :: _,_,h=>h.elim
 | _ :: _,[],_,_,h=>h.elim
 | _ :: _,_ :: _,[],_,h=>h.elim
theorem trodL_cons {W:World} {b:Nat} {sp:Nat → Bool} {hd:Bool} {t:TypeId} {ts:List TypeId} {vs:List Value} {ds:List (DataW H)} {ps:List MemPlace} (h:DataW.TrodAll enc P W b sp hd (t :: ts) vs ds ps) :
  ∃ v d vs' ds' p q,vs = v :: vs' ∧ ds = d :: ds' ∧ DataW.Trod enc P W b sp hd t v d p ∧ DataW.TrodAll enc P W b sp hd ts vs' ds' q ∧ ps = p ++ q:=by
 match vs,ds,h with
 | v :: vs,d :: ds,h=>
  obtain ⟨p,q,h1,h2,rfl⟩:=h
  exact ⟨v,d,vs,ds,p,q,rfl,rfl,h1,h2,rfl⟩
 | [],_,h=>exact h.elim
 | _ :: _,[],h=>exact h.elim
theorem trodL0 {W:World} {b:Nat} {sp:Nat → Bool} {hd:Bool} {vs:List Value} {ds:List (DataW H)} {ps:List MemPlace} (h:DataW.TrodAll enc P W b sp hd [] vs ds ps):vs = [] ∧ ds = [] ∧ ps = []:=by
 match vs,ds,h with
 | [],[],h=>exact ⟨rfl,rfl,h⟩
theorem law_post {fn:Func} {s:ChangeSpec} {tb:TypeId} {apart:Bool} {W W':World} {args:Array Value} {ds gs:List (DataW H)} {before:List MemPlace} (hl:laidOutB P = true)
  (hrt:fn.resultTypes = #[tb]) (hub:P.underlying tb = some .bool) (hpar:(fn.params.toList.all fun t=>P.readableRec t && decide (t < P.types.size)) = true) (hvars:s.vars = [])
  (hspec:∀ ds:List (DataW H),ds.length = fn.params.toList.length → s.fn H ds = { results:=[.lit (.bool true)],args:=ds })
  (hW:DataW.Whole enc P fn.params.toList s.vars apart W args.toList ds gs before) (hb:Below W.heap.size W W'):s.post enc P fn apart true false false W args (.bool true) W':=by
 have hW0:=hW
 have hlt:=hW.lt
 obtain ⟨p,q,hA,hV,rfl,_,_⟩:=hW
 rw [hvars] at hV
 obtain ⟨rfl,rfl⟩:=trodVars_none hV
 have hlen:=(trodAll_length _ _ _ _ hA).1
 have hs:=hspec ds hlen
 rw [List.append_nil] at hlt hW0
 refine ⟨ds,[],p,[],p,[],hW0,?_,?_,?_,hb.frame _,fun h=>by cases h⟩
 ·rw [List.append_nil,hs,hrt]
  exact trodAll_mk1 (shut_bool hub true)
 ·rw [List.append_nil,hs]
  exact trodAll_below hl hb _ _ _ _ hpar hA hlt
 ·rw [hvars,List.append_nil,hs]
  rfl
theorem law_lifted_laid {C:Checked} {os:Os} {f:FuncId} {fn:Func} {s:ChangeSpec} {tb:TypeId} {L:List (String × DataW Unit)} (own:ownKnob C.prog.godebug = none) (started:os.Started) (noInit:C.prog.inits.idxOf? f = none) (hfn:C.prog.funcs[f]? = some fn)
  (hl:laidOutB C.prog = true) (hrt:fn.resultTypes = #[tb]) (hub:C.prog.underlying tb = some .bool) (hpar:(fn.params.toList.all fun t=>C.prog.readableRec t && decide (t < C.prog.types.size)) = true) (hvars:s.vars = [])
  (hspec:∀ ds:List (DataW H),ds.length = fn.params.toList.length → s.fn H ds = { results:=[.lit (.bool true)],args:=ds })
  (witness:∃ (w:World) (tape:Tape) (i:Input),w.os = os ∧ (w.forCall tape i).Shaped C.prog ∧ i.vars = [] ∧ Input.okWide C.prog (w.forCall tape i) .any w.heap.size f i ∧
   ((s.pre enc C.prog fn [] false (w.forCall tape i).memory i.args ∧ laidMetH C.prog L (w.forCall tape i).memory) ∧ sizedMet enc C.prog fn (OpenSpec.ofChange s) false (w.forCall tape i).memory i.args) ∧ ({}:Assume).holds C.prog (lone (Frame.enter C.prog f i.args .normal) [] (w.forCall tape i)))
  (contract:∀ (W:World) (base:Nat) (args:List Value) (ds:List (DataW H)) (p:List MemPlace),(∀ (j:Nat) t v,fn.params.toList[j]? = some t → args[j]? = some v → Value.okWide C.prog W .any base t v) →
   DataW.TrodAll enc C.prog W 0 (fun _=>true) true fn.params.toList args ds p → (DataW.weightsEach C.prog fn.params.toList ds).all (· ≤ reachBytes) = true → (∀ x ∈ p,x.block < W.heap.size) →
   laidMetH C.prog L W →
   callM C.prog f args.toArray (fun v W'=>v = .bool true ∧ Below W.heap.size W W') W) :
  ReturnsInHanded {} C os f .any (fun w args=>(s.pre enc C.prog fn [] false w args ∧ laidMetH C.prog L w) ∧ sizedMet enc C.prog fn (OpenSpec.ofChange s) false w args)
   (s.post enc C.prog fn false true false false):=by
 refine returnsInHanded_of_change_and (X:=fun w _=>laidMetH C.prog L w) (fun _ _ _ hh h=>h.of_heap hh) own started noInit hfn witness ?_
 intro W base args ds gs before hval hW _ hsz hX _
 have hW0:=hW
 have hlt:=hW.lt
 obtain ⟨p,q,hA,hV,rfl,_,_⟩:=hW
 rw [hvars] at hV
 obtain ⟨rfl,rfl⟩:=trodVars_none hV
 have hsz':(DataW.weightsEach C.prog fn.params.toList ds).all (· ≤ reachBytes) = true:=by
  simpa [hvars,ChangeSpec.plain,DataSpec.varTypes] using hsz
 have hc:=contract W base args.toList ds p (fun j t v h1 h2=>hval j t v (by simpa using h1) (by simpa using h2)) hA hsz' (fun x hx=>hlt x (by simp [hx])) hX
 refine hc.mono fun e W' h=>?_
 obtain ⟨v,rfl,rfl,hb⟩:=h
 exact ⟨_,rfl,law_post hl hrt hub hpar hvars hspec hW0 hb⟩
end
end Go.Sh
namespace Go.Sh
open Go Go.ChangeShapes Go.WideShapes Go.ChangeAt Go.RowKit Go.Deep
section
variable {H:Type} {enc:TypeId × Value → H} {P:Program} {w:World} {sp:Nat → Bool} {hd:Bool}
theorem addr_add' (b o k:Nat):(⟨b,o,none⟩:Addr).add k = ⟨b,o + k,none⟩:=by
 unfold Addr.add
 split
 ·rename_i h; rw [h]; rfl
 ·rfl
theorem cell_lt {a:Addr} {v:Value} (h:w.cell? a = some v):a.block < w.heap.size ∧ a.spot = none:=by
 unfold World.cell? at h
 split at h
 ·rename_i c t f hh
  refine ⟨(Array.getElem?_eq_some_iff.1 hh).1,?_⟩
  split at h
  ·cases h
  ·rename_i hs
   cases hsp:a.spot with
   | none=>rfl
   | some x=>rw [hsp] at hs; exact absurd rfl hs
 ·cases h
theorem open_fields {e:TypeId} {fs:Array Field} {n:Nat} {cs:List Value} {D:DataW H × List MemPlace} (he:P.underlying e = some (.struct fs)) (hone:oneCellFields P fs = true) (hC:P.cellsOf e = fs.size)
  (h:DataW.trod enc P w 0 sp hd n e cs = some D) :
  cs.length = fs.size ∧ ∀ (j:Nat) (f:Field),fs[j]? = some f → ∃ (v:Value) (y:DataW H × List MemPlace) (m:Nat),cs[j]? = some v ∧ DataW.trod enc P w 0 sp hd m f.type [v] = some y:=by
 obtain ⟨xs,m,_,_,hcl,hxl,hf⟩:=DataW.trod_struct he h
 rw [hC] at hcl
 refine ⟨hcl,fun j f hj=>?_⟩
 obtain ⟨ho,hk⟩:=hone_of hone j f hj
 have hjl:j < fs.size:=(Array.getElem?_eq_some_iff.1 hj).1
 have h1:=hf j f hj
 rw [ho,hk,List.drop_eq_getElem_cons (by omega),List.getElem?_eq_getElem (by omega:j < xs.length)] at h1
 exact ⟨_,_,m,List.getElem?_eq_getElem (by omega),h1⟩
end
end Go.Sh
namespace Go.Sh
open Go Go.ChangeShapes Go.WideShapes Go.ChangeAt Go.RowKit Go.Deep
section
variable {H:Type} {enc:TypeId × Value → H} {P:Program} {w:World} {sp:Nat → Bool} {hd:Bool}
theorem rowOpen {α:Type} (mk:α → Value) (Q:α → Prop) {t e:TypeId} {v:Value} {n:Nat} {D:DataW H × List MemPlace} (ht:P.underlying t = some (.slice e)) (hC:P.cellsOf e = 1)
  (hrd:∀ (V:Value) (n:Nat) (D:DataW H × List MemPlace),DataW.trod enc P w 0 sp hd n e [V] = some D → ∃ x,V = mk x ∧ Q x) (h:DataW.trod enc P w 0 sp hd n t [v] = some D) :
  ∃ l:List α,(∃ ad c,v = .slice ad l.length c ∧ (l = [] ∨ ∃ b o,ad = some ⟨b,o,none⟩ ∧ b < w.heap.size ∧ ∀ (i:Nat) (h:i < l.length),w.cell? ⟨b,o + i,none⟩ = some (mk l[i]))) ∧ l.length ≤ maxLen ∧ ∀ x ∈ l,Q x:=by
 rcases open_slice1 ht hC h with ⟨hcs,_⟩ | ⟨a',len,cap,m,n',V,D',Pl,hcs,_,hl,hm,hmm,_,hi⟩
 ·simp only [List.cons.injEq,and_true] at hcs
  subst hcs
  exact ⟨[],⟨none,0,rfl,.inl rfl⟩,by simp,by simp⟩
 ·simp only [List.cons.injEq,and_true] at hcs
  subst hcs
  have hml:len ≤ m:=by rw [hmm]; split <;> omega
  have key:∀ i:Fin len,∃ x,V i = mk x ∧ Q x:=fun i=>hrd _ _ _ (hi i (by have:=i.2; omega)).2
  refine ⟨List.ofFn (fun i=>(key i).choose),⟨some a',cap,by rw [List.length_ofFn],?_⟩,by rw [List.length_ofFn]; omega,?_⟩
  ·by_cases h0:len = 0
   ·left; subst h0; rfl
   ·right
    have h00:=(hi 0 (by omega)).1
    have e0:a'.add 0 = a':=by simp [Addr.add]
    rw [e0] at h00
    obtain ⟨hb,hs⟩:=cell_lt h00
    obtain ⟨b,o,s⟩:=a'
    simp only at hs hb
    subst hs
    refine ⟨b,o,rfl,hb,fun i hil=>?_⟩
    rw [List.length_ofFn] at hil
    have h1:=(hi i (by omega)).1
    rw [addr_add'] at h1
    rw [h1,List.getElem_ofFn]
    have:=(key ⟨i,hil⟩).choose_spec.1
    exact congrArg some this
  ·intro x hx
   rw [List.mem_ofFn] at hx
   obtain ⟨i,rfl⟩:=hx
   exact (key i).choose_spec.2
theorem trodIface {t:TypeId} {ms:Array (String × TypeId)} {cs:List Value} {n:Nat} {nm:String} {d:DataW H} {ps:List MemPlace} (ht:P.underlying t = some (.interface ms)) (h:DataW.trod enc P w 0 sp false n t cs = some (.iface nm d,ps)):∃ u v,cs = [.iface u v]:=by
 cases n with
 | zero=>simp [DataW.trod] at h
 | succ n=>
  unfold DataW.trod at h
  rw [ht] at h
  match cs,h with
  | [.iface u v],_=>exact ⟨u,v,rfl⟩
  | [.nilIface],h=>simp at h
  | [],h=>simp at h
  | [.int _ _],h=>simp at h
  | [.bool _],h=>simp at h
  | [.string _],h=>simp at h
  | [.pointer _],h=>simp at h
  | [.slice _ _ _],h=>simp at h
  | [.map _],h=>simp at h
  | [.float _ _],h=>simp at h
  | [.complex _ _ _],h=>simp at h
  | [.agg _],h=>simp at h
  | [.tuple _],h=>simp at h
  | [.func _ _ _],h=>simp at h
  | [.nilFunc],h=>simp at h
  | [.chan _],h=>simp at h
  | _ :: _ :: _,h=>simp at h
end
end Go.Sh
namespace Go.Proofs
open Go Go.Sh Go.RowKit Go.Lib CodeSpec TkSpec FdSpec Go.ChangeShapes Go.WideShapes Go.ChangeAt Go.Deep
abbrev laidList:List (String × DataW Unit):=YtpfjmfgnlpnflaaGreatDoor.Rows.ticketChecksRow.laid
abbrev lname (i:Nat):String:=(laidList.map (·.1)).getD i default
theorem var_of_laid {W:World} {nm:String} {d:DataW Unit} (hf:(laidList.filter fun x=>x.1 == nm) = [(nm,d)]) (h:laidMetH Tryz.prog laidList W):laidMet Tryz.prog [(nm,d)] W:=by
 rw [MakeChecks.laidMetH_plain _ _ _ (by kernel_rfl)] at h
 have:=h.filter (fun x=>x.1 == nm)
 rwa [hf] at this
theorem tab_laid {W:World} (h:laidMetH Tryz.prog laidList W):TabIs Tryz.prog W tabName .u64 pow10Tab:=
 tabIs_of_head (rest:=[]) (t:=245) (e:=139) (n:=20) Cd.gTab (by kernel_rfl) Tryz.underlying245 Tryz.underlying139 (by kernel_rfl) (by kernel_rfl)
  (var_of_laid (d:=tabData .u64 pow10Tab) (by kernel_rfl) h)
theorem gDb:Tryz.prog.globalNamed (lname 1) = some 2:=by kernel_rfl
theorem db_laid {W:World} (h:laidMetH Tryz.prog laidList W):TabIs Tryz.prog W (lname 1) .u8 (Lib.deBruijn64tab.map (fun n:Nat=>(n:Int))):=
 tabIs_of_head (rest:=[]) (t:=243) (e:=5) (n:=64) gDb (by kernel_rfl) Tryz.underlying243 Tryz.underlying5 (by kernel_rfl) (by kernel_rfl)
  (var_of_laid (d:=tabData .u8 (Lib.deBruijn64tab.map (fun n:Nat=>(n:Int)))) (by kernel_rfl) h)
theorem db_of {W:World} (h:laidMetH Tryz.prog laidList W):DbT W:=by
 have ht:=db_laid h
 have hl:(Lib.deBruijn64tab.map (fun n:Nat=>(n:Int))).length = 64:=by decide +kernel
 have hc:∀ j,j < 64 → W.cell? ⟨2,j,none⟩ = some (.int .u8 (Lib.deBruijn64tab.getD j 0:Nat)):=fun j hj=>by
  rw [ht.cell gDb j (by omega)]
  have:(Lib.deBruijn64tab.map (fun n:Nat=>(n:Int))).getD j 0 = ((Lib.deBruijn64tab.getD j 0:Nat):Int):=by
   rw [List.getD_eq_getElem?_getD,List.getD_eq_getElem?_getD,List.getElem?_map]
   cases Lib.deBruijn64tab[j]? <;> rfl
  rw [this]
 refine ⟨?_,hc⟩
 have h0:=hc 0 (by omega)
 by_cases hlt:2 < W.heap.size
 ·exact hlt
 ·unfold World.cell? at h0
  rw [Array.getElem?_eq_none (by show W.heap.size ≤ 2; omega)] at h0
  simp at h0
theorem err_laid {W:World} {nm:String} {x:DataW Unit} {g:Nat} (hg:Tryz.prog.globalNamed nm = some g) (hty:(Tryz.prog.globals[g]?).map (·.type) = some 211) (hf:(laidList.filter fun x=>x.1 == nm) = [(nm,x)]) (hx:∃ nt d,x = .iface nt d) (h:laidMetH Tryz.prog laidList W) :
  ∃ te pe,W.cell? ⟨g,0,none⟩ = some (.iface te pe):=by
 obtain ⟨nt,d,rfl⟩:=hx
 obtain ⟨ps,⟨g0,t0,cs0,f0,p0,q0,hg0,ht0,hv0,hd0,_,_⟩,_,_⟩:=var_of_laid hf h
 obtain rfl:=Option.some.inj (hg.symm.trans hg0)
 obtain rfl:=Option.some.inj (hty.symm.trans ht0)
 obtain ⟨u,y,hcs⟩:=trodIface Tryz.underlying211 hd0
 have:=World.var?_cell hg hv0 0
 refine ⟨u,y,?_⟩
 rw [this]
 have e:cs0[0]? = cs0.toList[0]?:=by simp
 rw [e,hcs]; rfl
theorem heap8 {W:World} (h:laidMetH Tryz.prog laidList W):8 ≤ W.heap.size:=by
 obtain ⟨ps,⟨g0,t0,cs0,f0,p0,q0,hg0,ht0,hv0,hd0,_,_⟩,_,_⟩:=var_of_laid (nm:=lname 0) (d:=YtpfjmfgnlpnflaaGreatDoor.Rows.laid_math_bits_deBruijn32tab) (by kernel_rfl) h
 have hg:Tryz.prog.globalNamed (lname 0) = some 7:=by kernel_rfl
 unfold World.var? at hv0
 rw [hg] at hv0
 simp only [Option.bind_some] at hv0
 split at hv0
 ·rename_i cs t f hh
  have:=(Array.getElem?_eq_some_iff.1 hh).1
  omega
 ·cases hv0
theorem laid_of {W:World} (h:laidMetH Tryz.prog laidList W):Cd.LaidE W:=
 ⟨⟨tab_laid h,heap8 h⟩,err_laid (nm:=lname 4) (x:=YtpfjmfgnlpnflaaGreatDoor.Rows.laid_strconv_ErrSyntax) (by kernel_rfl) (by kernel_rfl) (by kernel_rfl) ⟨_,_,rfl⟩ h,err_laid (nm:=lname 3) (x:=YtpfjmfgnlpnflaaGreatDoor.Rows.laid_strconv_ErrRange) (by kernel_rfl) (by kernel_rfl) (by kernel_rfl) ⟨_,_,rfl⟩ h⟩
theorem ba_of1 (s:ByteArray):s = ⟨s.data.toList.toArray⟩:=by cases s; rfl
theorem ba_len (s:ByteArray):s.data.toList.length = s.size:=by simp
theorem own:ownKnob Tryz.prog.godebug = none:=by kernel_rfl
theorem laidOut:laidOutB Tryz.prog = true:=by kernel_rfl
theorem door_met (os:Os) (args:Array Value):laidMetH Tryz.prog laidList ((World.doorLaid Tryz.prog 400 os).forCall (fun _ _=>0) ⟨#[],args,[]⟩).memory:=
 laidMetH_of_parts3 (fuel:=8) (laidMet_of_run' 8 (by kernel_rfl) (by kernel_rfl)) (by kernel_rfl) (by kernel_rfl)
theorem intR {n:Int} (h:(Lit.int .i64 n).wf = true):I64 n:=by
 simp only [Lit.wf,Bool.and_eq_true,decide_eq_true_eq] at h
 exact (InR_iff n).1 h
section
variable {H:Type} {enc:TypeId × Value → H} {w:World} {sp:Nat → Bool} {hd:Bool}
theorem open_tkt {b0:Nat} {v:Value} {d:DataW H} {ps:List MemPlace} (hval:Value.okWide Tryz.prog w .any b0 41 v) (h:DataW.Trod enc Tryz.prog w 0 sp hd 41 v d ps):∃ t,v = tktV t ∧ TktR t:=by
 obtain ⟨cs,rfl,hs⟩:=okWide_struct Tryz.underlying41 hval
 obtain ⟨fuel,hf⟩:=h
 obtain ⟨hcl,hf⟩:=open_fields Tryz.underlying41 (by kernel_rfl) (by kernel_rfl) hf
 obtain ⟨v0,y0,m0,c0,f0⟩:=hf 0 _ rfl
 obtain ⟨v1,y1,m1,c1,f1⟩:=hf 1 _ rfl
 obtain ⟨v2,y2,m2,c2,f2⟩:=hf 2 _ rfl
 obtain ⟨v3,y3,m3,c3,f3⟩:=hf 3 _ rfl
 obtain ⟨v4,y4,m4,c4,f4⟩:=hf 4 _ rfl
 obtain ⟨v5,y5,m5,c5,f5⟩:=hf 5 _ rfl
 obtain ⟨k0,e0,_,w0⟩:=DataW.trod_int Tryz.underlying3 f0
 obtain ⟨k1,e1,_,w1⟩:=DataW.trod_int Tryz.underlying3 f1
 obtain ⟨k2,e2,_,w2⟩:=DataW.trod_int Tryz.underlying3 f2
 obtain ⟨k3,e3,_,w3⟩:=DataW.trod_int Tryz.underlying3 f3
 obtain ⟨k4,e4,_,w4⟩:=DataW.trod_int Tryz.underlying3 f4
 obtain ⟨k5,e5,_,w5⟩:=DataW.trod_int Tryz.underlying3 f5
 simp only [List.cons.injEq,and_true] at e0 e1 e2 e3 e4 e5
 refine ⟨⟨k0,k1,k2,k3,k4,k5⟩,?_,⟨intR w0,intR w1,intR w2,intR w3,intR w4,intR w5⟩⟩
 have h6:cs.toList.length = 6:=hcl
 have c0:cs.toList[0]? = some v0:=c0
 have c1:cs.toList[1]? = some v1:=c1
 have c2:cs.toList[2]? = some v2:=c2
 have c3:cs.toList[3]? = some v3:=c3
 have c4:cs.toList[4]? = some v4:=c4
 have c5:cs.toList[5]? = some v5:=c5
 have hcs:cs = cs.toList.toArray:=by simp
 rw [hcs]
 clear hs hcs
 generalize cs.toList = l at *
 match l,h6 with
 | [x0,x1,x2,x3,x4,x5],_=>
  simp only [List.getElem?_cons_zero,List.getElem?_cons_succ,Option.some.injEq] at c0 c1 c2 c3 c4 c5
  rw [c0,c1,c2,c3,c4,c5,e0,e1,e2,e3,e4,e5]
theorem ints_of_row {v:Value} {l:List Int} (h:∃ ad c,v = .slice ad l.length c ∧ (l = [] ∨ ∃ b o,ad = some ⟨b,o,none⟩ ∧ b < w.heap.size ∧ ∀ (i:Nat) (h:i < l.length),w.cell? ⟨b,o + i,none⟩ = some (Value.int .i64 l[i]))) (h0:∀ c,v = .slice none l.length c → l.length = 0 ∧ c = 0) (hl:l.length ≤ maxLen) (hr:∀ x ∈ l,I64 x):Ints w v l:=by
 obtain ⟨ad,c,rfl,h⟩:=h
 refine ⟨⟨ad,c,rfl,fun e=>?_,?_⟩,hr,hl⟩
 ·subst e
  exact h0 c rfl
 ·rcases h with h | ⟨b,o,rfl,hlt,hc⟩
  ·exact .inl h
  ·refine .inr ⟨b,o,rfl,hlt,fun k x hk=>?_⟩
   rw [flat_int] at hk
   obtain ⟨hk1,hk2⟩:=List.getElem?_eq_some_iff.1 hk
   have hk1:k < l.length:=by rw [List.length_map] at hk1; exact hk1
   rw [hc k hk1,← hk2,List.getElem_map]
theorem nil_len {t:TypeId} {n m:Nat} {c:Nat} {D:DataW H × List MemPlace} (ht:Tryz.prog.underlying t = some (.slice 3)) (h:DataW.trod enc Tryz.prog w 0 sp hd n t [.slice none m c] = some D):m = 0 ∧ c = 0:=by
 rcases open_slice1 ht (by kernel_rfl) h with ⟨hcs,_⟩ | ⟨a',len,cap,m,n',V,D',Pl,hcs,_⟩
 ·simp only [List.cons.injEq,and_true,Value.slice.injEq] at hcs
  exact hcs.2
 ·simp only [List.cons.injEq,and_true,Value.slice.injEq] at hcs
  exact absurd hcs.1 (by simp)
theorem open_ints {v:Value} {n:Nat} {D:DataW H × List MemPlace} (h:DataW.trod enc Tryz.prog w 0 sp hd n 22 [v] = some D):∃ l,Ints w v l:=by
 have h':=h
 obtain ⟨l,h1,h2,h3⟩:=rowOpen (Value.int .i64) I64 Tryz.underlying22 (by kernel_rfl) (fun V n D h=>by
  obtain ⟨k,e,_,hw⟩:=DataW.trod_int Tryz.underlying3 h
  simp only [List.cons.injEq,and_true] at e
  exact ⟨k,e,intR hw⟩) h
 exact ⟨l,ints_of_row h1 (fun c e=>by subst e; exact nil_len Tryz.underlying22 h') h2 h3⟩
theorem open_list {b0:Nat} {v:Value} {d:DataW H} {ps:List MemPlace} (hval:Value.okWide Tryz.prog w .any b0 22 v) (h:DataW.Trod enc Tryz.prog w 0 sp hd 22 v d ps):∃ l,Ints w v l:=by
 obtain ⟨a,n,c,rfl⟩:=okWide_slice Tryz.underlying22 hval
 obtain ⟨fu,hf⟩:=h
 exact open_ints hf
theorem open_grp {cs:List Value} {n:Nat} {D:DataW H × List MemPlace} (h:DataW.trod enc Tryz.prog w 0 sp hd n 30 cs = some D):∃ g:Grp,cs = [.int .i64 g.P,.int .i64 g.Q,.int .i64 g.G] ∧ GrpR g:=by
 obtain ⟨hcl,hf⟩:=open_fields Tryz.underlying30 (by kernel_rfl) (by kernel_rfl) h
 obtain ⟨v0,y0,m0,c0,f0⟩:=hf 0 _ rfl
 obtain ⟨v1,y1,m1,c1,f1⟩:=hf 1 _ rfl
 obtain ⟨v2,y2,m2,c2,f2⟩:=hf 2 _ rfl
 obtain ⟨k0,e0,_,w0⟩:=DataW.trod_int Tryz.underlying3 f0
 obtain ⟨k1,e1,_,w1⟩:=DataW.trod_int Tryz.underlying3 f1
 obtain ⟨k2,e2,_,w2⟩:=DataW.trod_int Tryz.underlying3 f2
 simp only [List.cons.injEq,and_true] at e0 e1 e2
 have h6:cs.length = 3:=hcl
 refine ⟨⟨k0,k1,k2⟩,?_,⟨intR w0,intR w1,intR w2⟩⟩
 match cs,h6 with
 | [x0,x1,x2],_=>
  simp only [List.getElem?_cons_zero,List.getElem?_cons_succ,Option.some.injEq] at c0 c1 c2
  rw [c0,c1,c2,e0,e1,e2]
theorem cells_stp:Tryz.prog.cellsOf 32 = 5:=by kernel_rfl
theorem cells_grp:Tryz.prog.cellsOf 30 = 3:=by kernel_rfl
theorem cells_ints:Tryz.prog.cellsOf 22 = 1:=by kernel_rfl
theorem cells_int:Tryz.prog.cellsOf 3 = 1:=by kernel_rfl
theorem open_stp {b0:Nat} {v:Value} {d:DataW H} {ps:List MemPlace} (hT:DbT w) (hval:Value.okWide Tryz.prog w .any b0 32 v) (h:DataW.Trod enc Tryz.prog w 0 sp hd 32 v d ps):∃ s x,v = stpV s x ∧ SetR w s x:=by
 obtain ⟨cs,rfl,hs⟩:=okWide_struct Tryz.underlying32 hval
 obtain ⟨fuel,hf⟩:=h
 have hf:DataW.trod enc Tryz.prog w 0 sp hd fuel 32 cs.toList = some (d,ps):=hf
 obtain ⟨xs,m,_,_,hcl,hxl,hf⟩:=DataW.trod_struct Tryz.underlying32 hf
 rw [cells_stp] at hcl
 have hcs:cs = cs.toList.toArray:=by simp
 rw [hcs]
 clear hs hcs
 generalize cs.toList = l at *
 have hxl:xs.length = 3:=hxl
 match l,hcl,xs,hxl with
 | [x0,x1,x2,x3,x4],_,[y0,y1,y2],_=>
  have f0:DataW.trod enc Tryz.prog w 0 sp hd m 30 (([x0,x1,x2,x3,x4].drop 0).take (Tryz.prog.cellsOf 30)) = some y0:=hf 0 _ rfl
  have f1:DataW.trod enc Tryz.prog w 0 sp hd m 22 (([x0,x1,x2,x3,x4].drop 3).take (Tryz.prog.cellsOf 22)) = some y1:=hf 1 _ rfl
  have f2:DataW.trod enc Tryz.prog w 0 sp hd m 3 (([x0,x1,x2,x3,x4].drop 4).take (Tryz.prog.cellsOf 3)) = some y2:=hf 2 _ rfl
  rw [cells_grp] at f0
  rw [cells_ints] at f1
  rw [cells_int] at f2
  obtain ⟨g,eg,hg⟩:=open_grp f0
  obtain ⟨l3,h3⟩:=open_ints f1
  obtain ⟨k4,e4,_,w4⟩:=DataW.trod_int Tryz.underlying3 f2
  simp only [List.drop_zero,List.take_succ_cons,List.take_zero,List.drop_succ_cons,List.cons.injEq,and_true] at eg e4
  obtain ⟨e0,e1,e2⟩:=eg
  exact ⟨⟨g,l3,k4⟩,x3,by rw [e0,e1,e2,e4],⟨hg,h3,intR w4,hT⟩⟩
theorem open_bld {b0:Nat} {v:Value} {d:DataW H} {ps:List MemPlace} (hval:Value.okWide Tryz.prog w .any b0 45 v) (h:DataW.Trod enc Tryz.prog w 0 sp hd 45 v d ps):∃ b x,v = bldV b x ∧ BldR w b x:=by
 obtain ⟨cs,rfl,hs⟩:=okWide_struct Tryz.underlying45 hval
 obtain ⟨fuel,hf⟩:=h
 obtain ⟨hcl,hf⟩:=open_fields Tryz.underlying45 (by kernel_rfl) (by kernel_rfl) hf
 obtain ⟨v0,y0,m0,c0,f0⟩:=hf 0 _ rfl
 obtain ⟨v1,y1,m1,c1,f1⟩:=hf 1 _ rfl
 obtain ⟨v2,y2,m2,c2,f2⟩:=hf 2 _ rfl
 obtain ⟨v3,y3,m3,c3,f3⟩:=hf 3 _ rfl
 obtain ⟨k0,e0,_,w0⟩:=DataW.trod_int Tryz.underlying3 f0
 obtain ⟨k1,e1,_,w1⟩:=DataW.trod_int Tryz.underlying3 f1
 obtain ⟨k2,e2,_,w2⟩:=DataW.trod_int Tryz.underlying3 f2
 obtain ⟨l3,h3⟩:=open_ints f3
 simp only [List.cons.injEq,and_true] at e0 e1 e2
 refine ⟨⟨k0,k1,k2,l3⟩,v3,?_,⟨intR w0,intR w1,intR w2,h3⟩⟩
 have h6:cs.toList.length = 4:=hcl
 have c0:cs.toList[0]? = some v0:=c0
 have c1:cs.toList[1]? = some v1:=c1
 have c2:cs.toList[2]? = some v2:=c2
 have c3:cs.toList[3]? = some v3:=c3
 have hcs:cs = cs.toList.toArray:=by simp
 rw [hcs]
 clear hs hcs
 generalize cs.toList = l at *
 match l,h6 with
 | [x0,x1,x2,x3],_=>
  simp only [List.getElem?_cons_zero,List.getElem?_cons_succ,Option.some.injEq] at c0 c1 c2 c3
  rw [c0,c1,c2,c3,e0,e1,e2]
theorem open_spd {b0:Nat} {v:Value} {d:DataW H} {ps:List MemPlace} (hval:Value.okWide Tryz.prog w .any b0 49 v) (h:DataW.Trod enc Tryz.prog w 0 sp hd 49 v d ps):∃ b x,v = spdV b x ∧ SpdR w b x:=by
 obtain ⟨cs,rfl,hs⟩:=okWide_struct Tryz.underlying49 hval
 obtain ⟨fuel,hf⟩:=h
 obtain ⟨hcl,hf⟩:=open_fields Tryz.underlying49 (by kernel_rfl) (by kernel_rfl) hf
 obtain ⟨v0,y0,m0,c0,f0⟩:=hf 0 _ rfl
 obtain ⟨v3,y3,m3,c3,f3⟩:=hf 1 _ rfl
 obtain ⟨k0,e0,_,w0⟩:=DataW.trod_int Tryz.underlying3 f0
 obtain ⟨l3,h3⟩:=open_ints f3
 simp only [List.cons.injEq,and_true] at e0
 refine ⟨⟨k0,l3⟩,v3,?_,⟨intR w0,h3⟩⟩
 have h6:cs.toList.length = 2:=hcl
 have c0:cs.toList[0]? = some v0:=c0
 have c3:cs.toList[1]? = some v3:=c3
 have hcs:cs = cs.toList.toArray:=by simp
 rw [hcs]
 clear hs hcs
 generalize cs.toList = l at *
 match l,h6 with
 | [x0,x3],_=>
  simp only [List.getElem?_cons_zero,List.getElem?_cons_succ,Option.some.injEq] at c0 c3
  rw [c0,c3,e0]
end
end Go.Proofs
namespace Go.Proofs
open Go.Sh Tryz
def sh_79 (a0 a1 a2 a3 a4 a5:Value) (K:Value → World → Prop) (w:World):Prop:=
 oM prog (.box 116 (.tmp 0)) 0 [a0] (fun v6 w=>
 oM prog (.box 37 (.tmp 0)) 0 [a5] (fun v11 w=>
 heldM w (fun C_3 w=>(((true:Bool) = true) ∧ (oH prog (.load 116 (.tmp 0)) 116 [v6] C_3 (fun v13=>
 pureH a4 C_3 (fun v14=>
 oH prog (.load 116 (.tmp 0)) 116 [v6] C_3 (fun v16=>
 oH prog (.load 116 (.tmp 0)) 116 [v6] C_3 (fun v17=>
 pureH a1 C_3 (fun v18=>
 pureH a3 C_3 (fun v19=>
 oH prog (.fieldAddr 37 (.tmp 0) 1) 0 [v11] C_3 (fun v21=>
 oH prog (.load 3 (.tmp 0)) 3 [v21] C_3 (fun v22=>
 ∃ S_12:World → World → Prop,∃ R_13:Value → World → Prop,(∀ v w w_1,S_12 w w_1 → R_13 v w → R_13 v w_1) ∧
 (∀ w,C_3 w → (callM prog 66 #[v13,v14] (fun v w_1=>C_3 w_1 ∧ S_12 w w_1 ∧ R_13 v w_1) w)) ∧
 (∃ R_14:Value → World → Prop,(∀ v w w_1,S_12 w w_1 → R_14 v w → R_14 v w_1) ∧
 (∀ w,C_3 w → (callM prog 89 #[v17,v18,v19] (fun v w_1=>C_3 w_1 ∧ S_12 w w_1 ∧ R_14 v w_1) w)) ∧
 (∃ R_15:Value → World → Prop,(∀ v w w_1,S_12 w w_1 → R_15 v w → R_15 v w_1) ∧
 (∀ w,C_3 w → (oM prog (.buildSlice 22 1 #[(0,(.tmp 0))]) 22 [v22] (fun v w_1=>C_3 w_1 ∧ S_12 w w_1 ∧ R_15 v w_1) w)) ∧
 (∃ R_16:Value → World → Prop,(∀ v w w_1,S_12 w w_1 → R_16 v w → R_16 v w_1) ∧
 (∀ w,C_3 w → ∀ v20,R_14 v20 w → ∀ v23,R_15 v23 w → (callM prog 91 #[v16,v20,v23] (fun v w_1=>C_3 w_1 ∧ S_12 w w_1 ∧ R_16 v w_1) w)) ∧
 (∃ R_19:Value → World → Prop,(∀ v w w_1,S_12 w w_1 → R_19 v w → R_19 v w_1) ∧
 (∀ w,C_3 w → ∀ v15,R_13 v15 w → ∀ v24,R_16 v24 w → (oM prog (.binOp .eql 3 (.tmp 0) (.tmp 1) 3) 4 [v15,v24] (fun v w_1=>C_3 w_1 ∧ S_12 w w_1 ∧ R_19 v w_1) w)) ∧
 (∃ R_22:Value → World → Prop,(∀ v w w_1,S_12 w w_1 → R_22 v w → R_22 v w_1) ∧
 (∀ w,C_3 w → ∀ v25,R_19 v25 w → (C_3 w ∧ S_12 w w ∧ R_22 v25 w)) ∧
 (∃ R_24:Value → World → Prop,(∀ v w w_1,S_12 w w_1 → R_24 v w → R_24 v w_1) ∧
 (∀ w,C_3 w → ∀ v26,R_22 v26 w → (gdM (gd v26 true) (oM prog (.load 116 (.tmp 0)) 116 [v6]) (fun v w_1=>C_3 w_1 ∧ S_12 w w_1 ∧ R_24 v w_1) w)) ∧
 (∃ R_26:Value → World → Prop,(∀ v w w_1,S_12 w w_1 → R_26 v w → R_26 v w_1) ∧
 (∀ w,C_3 w → ∀ v26,R_22 v26 w → (gdM (gd v26 true) (pureM a2) (fun v w_1=>C_3 w_1 ∧ S_12 w w_1 ∧ R_26 v w_1) w)) ∧
 (∃ R_28:Value → World → Prop,(∀ v w w_1,S_12 w w_1 → R_28 v w → R_28 v w_1) ∧
 (∀ w,C_3 w → ∀ v26,R_22 v26 w → (gdM (gd v26 true) (pureM a4) (fun v w_1=>C_3 w_1 ∧ S_12 w w_1 ∧ R_28 v w_1) w)) ∧
 (∃ R_30:Value → World → Prop,(∀ v w w_1,S_12 w w_1 → R_30 v w → R_30 v w_1) ∧
 (∀ w,C_3 w → ∀ v26,R_22 v26 w → ∀ v27,R_24 v27 w → ∀ v28,R_26 v28 w → ∀ v29,R_28 v29 w → (gdM (gd v26 true) (callM prog 89 #[v27,v28,v29]) (fun v w_1=>C_3 w_1 ∧ S_12 w w_1 ∧ R_30 v w_1) w)) ∧
 (∃ R_35:Value → World → Prop,(∀ v w w_1,S_12 w w_1 → R_35 v w → R_35 v w_1) ∧
 (∀ w,C_3 w → ∀ v26,R_22 v26 w → (gdM (gd v26 true) (oM prog (.load 116 (.tmp 0)) 116 [v6]) (fun v w_1=>C_3 w_1 ∧ S_12 w w_1 ∧ R_35 v w_1) w)) ∧
 (∃ R_37:Value → World → Prop,(∀ v w w_1,S_12 w w_1 → R_37 v w → R_37 v w_1) ∧
 (∀ w,C_3 w → ∀ v26,R_22 v26 w → (gdM (gd v26 true) (oM prog (.load 116 (.tmp 0)) 116 [v6]) (fun v w_1=>C_3 w_1 ∧ S_12 w w_1 ∧ R_37 v w_1) w)) ∧
 (∃ R_39:Value → World → Prop,(∀ v w w_1,S_12 w w_1 → R_39 v w → R_39 v w_1) ∧
 (∀ w,C_3 w → ∀ v26,R_22 v26 w → (gdM (gd v26 true) (oM prog (.fieldAddr 37 (.tmp 0) 0) 0 [v11]) (fun v w_1=>C_3 w_1 ∧ S_12 w w_1 ∧ R_39 v w_1) w)) ∧
 (∃ R_41:Value → World → Prop,(∀ v w w_1,S_12 w w_1 → R_41 v w → R_41 v w_1) ∧
 (∀ w,C_3 w → ∀ v26,R_22 v26 w → ∀ v33,R_39 v33 w → (gdM (gd v26 true) (oM prog (.load 3 (.tmp 0)) 3 [v33]) (fun v w_1=>C_3 w_1 ∧ S_12 w w_1 ∧ R_41 v w_1) w)) ∧
 (∃ R_44:Value → World → Prop,(∀ v w w_1,S_12 w w_1 → R_44 v w → R_44 v w_1) ∧
 (∀ w,C_3 w → ∀ v26,R_22 v26 w → (gdM (gd v26 true) (pureM a3) (fun v w_1=>C_3 w_1 ∧ S_12 w w_1 ∧ R_44 v w_1) w)) ∧
 (∃ R_46:Value → World → Prop,(∀ v w w_1,S_12 w w_1 → R_46 v w → R_46 v w_1) ∧
 (∀ w,C_3 w → ∀ v26,R_22 v26 w → ∀ v32,R_37 v32 w → ∀ v34,R_41 v34 w → ∀ v35,R_44 v35 w → (gdM (gd v26 true) (callM prog 89 #[v32,v34,v35]) (fun v w_1=>C_3 w_1 ∧ S_12 w w_1 ∧ R_46 v w_1) w)) ∧
 (∃ R_51:Value → World → Prop,(∀ v w w_1,S_12 w w_1 → R_51 v w → R_51 v w_1) ∧
 (∀ w,C_3 w → ∀ v26,R_22 v26 w → (gdM (gd v26 true) (oM prog (.fieldAddr 37 (.tmp 0) 2) 0 [v11]) (fun v w_1=>C_3 w_1 ∧ S_12 w w_1 ∧ R_51 v w_1) w)) ∧
 (∃ R_53:Value → World → Prop,(∀ v w w_1,S_12 w w_1 → R_53 v w → R_53 v w_1) ∧
 (∀ w,C_3 w → ∀ v26,R_22 v26 w → ∀ v37,R_51 v37 w → (gdM (gd v26 true) (oM prog (.load 3 (.tmp 0)) 3 [v37]) (fun v w_1=>C_3 w_1 ∧ S_12 w w_1 ∧ R_53 v w_1) w)) ∧
 (∃ R_56:Value → World → Prop,(∀ v w w_1,S_12 w w_1 → R_56 v w → R_56 v w_1) ∧
 (∀ w,C_3 w → ∀ v26,R_22 v26 w → ∀ v38,R_53 v38 w → (gdM (gd v26 true) (oM prog (.buildSlice 22 1 #[(0,(.tmp 0))]) 22 [v38]) (fun v w_1=>C_3 w_1 ∧ S_12 w w_1 ∧ R_56 v w_1) w)) ∧
 (∀ w,C_3 w → ∀ v15,R_13 v15 w → ∀ v20,R_14 v20 w → ∀ v23,R_15 v23 w → ∀ v24,R_16 v24 w → ∀ v25,R_19 v25 w → ∀ v26,R_22 v26 w → ∀ v27,R_24 v27 w → ∀ v28,R_26 v28 w → ∀ v29,R_28 v29 w → ∀ v30,R_30 v30 w → ∀ v31,R_35 v31 w → ∀ v32,R_37 v32 w → ∀ v33,R_39 v33 w → ∀ v34,R_41 v34 w → ∀ v35,R_44 v35 w → ∀ v36,R_46 v36 w → ∀ v37,R_51 v37 w → ∀ v38,R_53 v38 w → ∀ v39,R_56 v39 w → (
 gdM (gd v26 true) (callM prog 91 #[v31,v36,v39]) (fun v40 w=>C_3 w ∧ (
 gdM (gd v26 true) (oM prog (.binOp .eql 3 (.tmp 0) (.tmp 1) 3) 4 [v30,v40]) (fun v41 w=>C_3 w ∧ (
 oM prog (.pick (.tmp 0) (.tmp 1) (.tmp 2)) 4 [v26,v41,(.bool false)] (fun v42 w=>C_3 w ∧ (
 C_3 w ∧ (K v42 w))) w)) w)) w)))))))))))))))))))))))))))))))) w) w
theorem sh_79_ok {a0 a1 a2 a3 a4 a5:Value} {K:Value → World → Prop} {w:World} (h:sh_79 a0 a1 a2 a3 a4 a5 K w):callM prog 79 #[a0,a1,a2,a3,a4,a5] K w:=
 calls_of_code (fun _=>.mono [0,1,3,4,5,6,8,9] [2,7,10,11,12,13,14,15,16,17,18,19,20,21,22,23,24,25,26] [27,28,29,30]) (fn:=Tryz.f79) (rs:=[.tmp 12]) Tryz.func79 rfl rfl (by kernel_rfl) (Nat.le_of_ble_eq_true rfl) (Eq.mp (by kernel_rfl) h)
end Go.Proofs
namespace Go.Proofs
open Go.Sh Tryz
def sh_144 (a0:Value) (K:Value → World → Prop) (w:World):Prop:=
 oM prog (.convert 9 181 (.tmp 0)) 181 [a0] (fun v10 w=>
 oM prog (.buildSlice 181 1 #[(0,(.tmp 0))]) 181 [(.int .u8 128)] (fun v11 w=>
 oM prog (.call (Go.Call.mk (.builtin .append) #[(.tmp 0),(.tmp 1)] #[181,181])) 181 [v10,v11] (fun v12 w=>
 loopM [v12] w (fun J_4 m_5 l_6 u_l_6 w0_l_6=>(fun w=>(
 oM prog (.call (Go.Call.mk (.builtin .len) #[(.tmp 0)] #[181])) 3 [(l_6.getD 0 undef)] (fun v14 w=>
 oM prog (.binOp .rem 3 (.tmp 0) (.tmp 1) 3) 3 [v14,(.int .i64 64)] (fun v15 w=>
 oM prog (.binOp .neq 3 (.tmp 0) (.const (.int .i64 56)) 3) 4 [v15] (fun v16 w=>
 condM v16
 (oM prog (.buildSlice 181 1 #[(0,(.tmp 0))]) 181 [(.int .u8 0)] (fun v18 w=>
 oM prog (.call (Go.Call.mk (.builtin .append) #[(.tmp 0),(.tmp 1)] #[181,181])) 181 [(l_6.getD 0 undef),v18] (fun v19 w=>
 J_4 [v19] w ∧ m_5 [v19] w < m_5 l_6 w0_l_6) w) w)
 (loopM [(l_6.getD 0 undef),(.int .i64 56)] w (fun J_12 m_13 l_14 u_l_14 w0_l_14=>(fun w=>(
 oM prog (.binOp .geq 3 (.tmp 0) (.tmp 1) 3) 4 [(l_14.getD 1 undef),(.int .i64 0)] (fun v21 w=>
 condM v21
 (oM prog (.call (Go.Call.mk (.builtin .len) #[(.tmp 0)] #[9])) 3 [a0] (fun v26 w=>
 oM prog (.convert 3 139 (.tmp 0)) 139 [v26] (fun v27 w=>
 oM prog (.binOp .mul 139 (.tmp 0) (.tmp 1) 139) 139 [(.int .u64 8),v27] (fun v28 w=>
 oM prog (.binOp .shr 139 (.tmp 0) (.tmp 1) 3) 139 [v28,(l_14.getD 1 undef)] (fun v30 w=>
 oM prog (.convert 139 5 (.tmp 0)) 5 [v30] (fun v31 w=>
 oM prog (.buildSlice 181 1 #[(0,(.tmp 0))]) 181 [v31] (fun v32 w=>
 oM prog (.call (Go.Call.mk (.builtin .append) #[(.tmp 0),(.tmp 1)] #[181,181])) 181 [(l_14.getD 0 undef),v32] (fun v33 w=>
 oM prog (.binOp .sub 3 (.tmp 0) (.tmp 1) 3) 3 [(l_14.getD 1 undef),(.int .i64 8)] (fun v23 w=>
 J_12 [v33,v23] w ∧ m_13 [v33,v23] w < m_13 l_14 w0_l_14) w) w) w) w) w) w) w) w)
 (callM prog 184 #[] (fun v34 w=>
 oM prog (.alloc 202) 0 [] (fun v5 w=>
 oM prog (.store 202 (.tmp 0) (.tmp 1)) 0 [v5,v34] (fun _ w=>
 loopM [(l_14.getD 0 undef)] w (fun J_26 m_27 l_28 u_l_28 w0_l_28=>(fun w=>(
 oM prog (.call (Go.Call.mk (.builtin .len) #[(.tmp 0)] #[181])) 3 [(l_28.getD 0 undef)] (fun v36 w=>
 oM prog (.binOp .gtr 3 (.tmp 0) (.tmp 1) 3) 4 [v36,(.int .i64 0)] (fun v37 w=>
 condM v37
 (stageM w (fun C_31 w=>(oH prog (.load 202 (.tmp 0)) 202 [v5] (upto C_31 0) (fun v40=>
 pureH (l_28.getD 0 undef) (upto C_31 0) (fun v41=>
 oH prog (.slice 181 (.tmp 0) none (some (.tmp 1)) none) 181 [v41,(.int .i64 64)] (upto C_31 0) (fun v42=>
 callM prog 185 #[v40,v42] (fun v43 w=>C_31 1 w ∧ (
 oM prog (.store 202 (.tmp 0) (.tmp 1)) 0 [v5,v43] (fun _ w=>C_31 2 w ∧ (
 oM prog (.slice 181 (.tmp 0) (some (.tmp 1)) none none) 181 [(l_28.getD 0 undef),(.int .i64 64)] (fun v39 w=>
 J_26 [v39] w ∧ m_27 [v39] w < m_27 l_28 w0_l_28) w)) w)) w))))))
 (oM prog (.load 202 (.tmp 0)) 202 [v5] (fun v44 w=>
 loopM [undef,(.slice none 0 0),(.int .i64 0)] w (fun J_38 m_39 l_40 u_l_40 w0_l_40=>(fun w=>(
 oM prog (.binOp .lss 3 (.tmp 0) (.tmp 1) 3) 0 [(l_40.getD 2 undef),(.int .i64 8)] (fun v46 w=>
 condM v46
 (oM prog (.index 202 (.tmp 0) (.tmp 1)) 200 [v44,(l_40.getD 2 undef)] (fun v47 w=>
 oM prog (.binOp .shr 200 (.tmp 0) (.tmp 1) 174) 200 [v47,(.int .u64 24)] (fun v50 w=>
 oM prog (.convert 200 5 (.tmp 0)) 5 [v50] (fun v51 w=>
 oM prog (.binOp .shr 200 (.tmp 0) (.tmp 1) 174) 200 [v47,(.int .u64 16)] (fun v53 w=>
 oM prog (.convert 200 5 (.tmp 0)) 5 [v53] (fun v54 w=>
 oM prog (.binOp .shr 200 (.tmp 0) (.tmp 1) 174) 200 [v47,(.int .u64 8)] (fun v56 w=>
 oM prog (.convert 200 5 (.tmp 0)) 5 [v56] (fun v57 w=>
 oM prog (.convert 200 5 (.tmp 0)) 5 [v47] (fun v59 w=>
 oM prog (.buildSlice 181 4 #[(0,(.tmp 0)),(1,(.tmp 1)),(2,(.tmp 2)),(3,(.tmp 3))]) 181 [v51,v54,v57,v59] (fun v60 w=>
 oM prog (.call (Go.Call.mk (.builtin .append) #[(.tmp 0),(.tmp 1)] #[181,181])) 181 [(l_40.getD 1 undef),v60] (fun v61 w=>
 oM prog (.binOp .add 3 (.tmp 0) (.tmp 1) 3) 3 [(l_40.getD 2 undef),(.int .i64 1)] (fun v62 w=>
 J_38 [v47,v61,v62] w ∧ m_39 [v47,v61,v62] w < m_39 l_40 w0_l_40) w) w) w) w) w) w) w) w) w) w) w)
 (oM prog (.convert 181 9 (.tmp 0)) 9 [(l_40.getD 1 undef)] (fun v64 w=>
 K v64 w) w)) w)) w0_l_40)) w)) w) w)) w0_l_28)) w) w) w)) w)) w0_l_14))) w) w) w)) w0_l_6)) w) w) w
theorem sh_144_ok {a0:Value} {K:Value → World → Prop} {w:World} (h:sh_144 a0 K w):callM prog 144 #[a0] K w:=
 calls_of_code (fun _=>3) (fn:=Tryz.f144) (rs:=[.tmp 2]) Tryz.func144 rfl rfl (by kernel_rfl) (Nat.le_of_ble_eq_true rfl) (Eq.mp (by kernel_rfl) h)
def sh_184 (K:Value → World → Prop) (w:World):Prop:=
 oM prog (.alloc 202) 0 [] (fun v0 w=>
 oM prog (.build 202 #[(0,(.tmp 0)),(1,(.tmp 1)),(2,(.tmp 2)),(3,(.tmp 3)),(4,(.tmp 4)),(5,(.tmp 5)),(6,(.tmp 6)),(7,(.tmp 7))]) 202 [(.int .u32 1779033703),(.int .u32 3144134277),(.int .u32 1013904242),(.int .u32 2773480762),(.int .u32 1359893119),(.int .u32 2600822924),(.int .u32 528734635),(.int .u32 1541459225)] (fun v1 w=>
 oM prog (.store 202 (.tmp 0) (.tmp 1)) 0 [v0,v1] (fun _ w=>
 ∃ r_3,(do loadVar 202 (← asAddr v0):Sem Value).run prog w = .ok r_3 w ∧ K r_3 w) w) w) w
theorem sh_184_ok {K:Value → World → Prop} {w:World} (h:sh_184 K w):callM prog 184 #[] K w:=
 calls_of_code (fun _=>0) (fn:=Tryz.f184) (rs:=[.cell 0 202]) Tryz.func184 rfl rfl (by kernel_rfl) (Nat.le_of_ble_eq_true rfl) (Eq.mp (by kernel_rfl) h)
def sh_185 (a0 a1:Value) (K:Value → World → Prop) (w:World):Prop:=
 oM prog (.box 202 (.tmp 0)) 0 [a0] (fun v2 w=>
 oM prog (.alloc 202) 0 [] (fun v4 w=>
 callM prog 205 #[a1] (fun v15 w=>
 callM prog 206 #[] (fun v16 w=>
 oM prog (.alloc 223) 0 [] (fun v5 w=>
 oM prog (.alloc 223) 0 [] (fun v6 w=>
 oM prog (.store 223 (.tmp 0) (.tmp 1)) 0 [v5,v15] (fun _ w=>
 oM prog (.store 223 (.tmp 0) (.tmp 1)) 0 [v6,v16] (fun _ w=>
 oM prog (.load 202 (.tmp 0)) 202 [v2] (fun v17 w=>
 oM prog (.alloc 202) 0 [] (fun v7 w=>
 oM prog (.store 202 (.tmp 0) (.tmp 1)) 0 [v7,v17] (fun _ w=>
 loopM [undef,undef,undef,undef,undef,(.int .i64 0)] w (fun J_9 m_10 l_11 u_l_11 w0_l_11=>(fun w=>(
 oM prog (.binOp .lss 3 (.tmp 0) (.tmp 1) 3) 0 [(l_11.getD 5 undef),(.int .i64 64)] (fun v19 w=>
 condM v19
 (quietM w (fun C_13=>(oQ prog (.indexAddr 202 (.tmp 0) (.tmp 1)) 0 [v7,(.int .i64 4)] C_13 (fun v21=>
 oQ prog (.load 200 (.tmp 0)) 200 [v21] C_13 (fun v22=>
 callQ prog 207 #[v22,(.int .i64 (-6))] C_13 (fun v23=>
 oQ prog (.indexAddr 202 (.tmp 0) (.tmp 1)) 0 [v7,(.int .i64 4)] C_13 (fun v24=>
 oQ prog (.load 200 (.tmp 0)) 200 [v24] C_13 (fun v25=>
 callQ prog 207 #[v25,(.int .i64 (-11))] C_13 (fun v26=>
 oQ prog (.binOp .xor 200 (.tmp 0) (.tmp 1) 200) 200 [v23,v26] C_13 (fun v27=>
 oQ prog (.indexAddr 202 (.tmp 0) (.tmp 1)) 0 [v7,(.int .i64 4)] C_13 (fun v28=>
 oQ prog (.load 200 (.tmp 0)) 200 [v28] C_13 (fun v29=>
 callQ prog 207 #[v29,(.int .i64 (-25))] C_13 (fun v30=>
 oQ prog (.binOp .xor 200 (.tmp 0) (.tmp 1) 200) 200 [v27,v30] C_13 (fun v31=>
 ∀ w,C_13 w → (quietM w (fun C_25=>(oQ prog (.indexAddr 202 (.tmp 0) (.tmp 1)) 0 [v7,(.int .i64 7)] C_25 (fun v32=>
 oQ prog (.load 200 (.tmp 0)) 200 [v32] C_25 (fun v33=>
 oQ prog (.binOp .add 200 (.tmp 0) (.tmp 1) 200) 200 [v33,v31] C_25 (fun v35=>
 oQ prog (.indexAddr 202 (.tmp 0) (.tmp 1)) 0 [v7,(.int .i64 6)] C_25 (fun v36=>
 oQ prog (.load 200 (.tmp 0)) 200 [v36] C_25 (fun v37=>
 oQ prog (.indexAddr 202 (.tmp 0) (.tmp 1)) 0 [v7,(.int .i64 4)] C_25 (fun v38=>
 oQ prog (.load 200 (.tmp 0)) 200 [v38] C_25 (fun v39=>
 oQ prog (.indexAddr 202 (.tmp 0) (.tmp 1)) 0 [v7,(.int .i64 5)] C_25 (fun v40=>
 oQ prog (.load 200 (.tmp 0)) 200 [v40] C_25 (fun v41=>
 oQ prog (.indexAddr 202 (.tmp 0) (.tmp 1)) 0 [v7,(.int .i64 6)] C_25 (fun v42=>
 oQ prog (.load 200 (.tmp 0)) 200 [v42] C_25 (fun v43=>
 oQ prog (.binOp .xor 200 (.tmp 0) (.tmp 1) 200) 200 [v41,v43] C_25 (fun v44=>
 oQ prog (.binOp .and 200 (.tmp 0) (.tmp 1) 200) 200 [v39,v44] C_25 (fun v45=>
 oQ prog (.binOp .xor 200 (.tmp 0) (.tmp 1) 200) 200 [v37,v45] C_25 (fun v46=>
 oQ prog (.binOp .add 200 (.tmp 0) (.tmp 1) 200) 200 [v35,v46] C_25 (fun v47=>
 oQ prog (.indexAddr 223 (.tmp 0) (.tmp 1)) 0 [v6,(l_11.getD 5 undef)] C_25 (fun v49=>
 oQ prog (.load 200 (.tmp 0)) 200 [v49] C_25 (fun v50=>
 oQ prog (.binOp .add 200 (.tmp 0) (.tmp 1) 200) 200 [v47,v50] C_25 (fun v51=>
 oQ prog (.indexAddr 223 (.tmp 0) (.tmp 1)) 0 [v5,(l_11.getD 5 undef)] C_25 (fun v53=>
 oQ prog (.load 200 (.tmp 0)) 200 [v53] C_25 (fun v54=>
 oQ prog (.binOp .add 200 (.tmp 0) (.tmp 1) 200) 200 [v51,v54] C_25 (fun v55=>
 ∀ w,C_25 w → (quietM w (fun C_47=>(oQ prog (.indexAddr 202 (.tmp 0) (.tmp 1)) 0 [v7,(.int .i64 0)] C_47 (fun v56=>
 oQ prog (.load 200 (.tmp 0)) 200 [v56] C_47 (fun v57=>
 callQ prog 207 #[v57,(.int .i64 (-2))] C_47 (fun v58=>
 oQ prog (.indexAddr 202 (.tmp 0) (.tmp 1)) 0 [v7,(.int .i64 0)] C_47 (fun v59=>
 oQ prog (.load 200 (.tmp 0)) 200 [v59] C_47 (fun v60=>
 callQ prog 207 #[v60,(.int .i64 (-13))] C_47 (fun v61=>
 oQ prog (.binOp .xor 200 (.tmp 0) (.tmp 1) 200) 200 [v58,v61] C_47 (fun v62=>
 oQ prog (.indexAddr 202 (.tmp 0) (.tmp 1)) 0 [v7,(.int .i64 0)] C_47 (fun v63=>
 oQ prog (.load 200 (.tmp 0)) 200 [v63] C_47 (fun v64=>
 callQ prog 207 #[v64,(.int .i64 (-22))] C_47 (fun v65=>
 oQ prog (.binOp .xor 200 (.tmp 0) (.tmp 1) 200) 200 [v62,v65] C_47 (fun v66=>
 ∀ w,C_47 w → (oM prog (.indexAddr 202 (.tmp 0) (.tmp 1)) 0 [v7,(.int .i64 0)] (fun v67 w=>
 oM prog (.load 200 (.tmp 0)) 200 [v67] (fun v68 w=>
 oM prog (.indexAddr 202 (.tmp 0) (.tmp 1)) 0 [v7,(.int .i64 1)] (fun v69 w=>
 oM prog (.load 200 (.tmp 0)) 200 [v69] (fun v70 w=>
 oM prog (.binOp .and 200 (.tmp 0) (.tmp 1) 200) 200 [v68,v70] (fun v71 w=>
 oM prog (.indexAddr 202 (.tmp 0) (.tmp 1)) 0 [v7,(.int .i64 2)] (fun v72 w=>
 oM prog (.load 200 (.tmp 0)) 200 [v72] (fun v73 w=>
 oM prog (.indexAddr 202 (.tmp 0) (.tmp 1)) 0 [v7,(.int .i64 0)] (fun v74 w=>
 oM prog (.load 200 (.tmp 0)) 200 [v74] (fun v75 w=>
 oM prog (.indexAddr 202 (.tmp 0) (.tmp 1)) 0 [v7,(.int .i64 1)] (fun v76 w=>
 oM prog (.load 200 (.tmp 0)) 200 [v76] (fun v77 w=>
 oM prog (.binOp .or 200 (.tmp 0) (.tmp 1) 200) 200 [v75,v77] (fun v78 w=>
 oM prog (.binOp .and 200 (.tmp 0) (.tmp 1) 200) 200 [v73,v78] (fun v79 w=>
 oM prog (.binOp .or 200 (.tmp 0) (.tmp 1) 200) 200 [v71,v79] (fun v80 w=>
 oM prog (.binOp .add 200 (.tmp 0) (.tmp 1) 200) 200 [v55,v66] (fun v83 w=>
 oM prog (.binOp .add 200 (.tmp 0) (.tmp 1) 200) 200 [v83,v80] (fun v85 w=>
 oM prog (.indexAddr 202 (.tmp 0) (.tmp 1)) 0 [v7,(.int .i64 0)] (fun v86 w=>
 oM prog (.load 200 (.tmp 0)) 200 [v86] (fun v87 w=>
 oM prog (.indexAddr 202 (.tmp 0) (.tmp 1)) 0 [v7,(.int .i64 1)] (fun v88 w=>
 oM prog (.load 200 (.tmp 0)) 200 [v88] (fun v89 w=>
 oM prog (.indexAddr 202 (.tmp 0) (.tmp 1)) 0 [v7,(.int .i64 2)] (fun v90 w=>
 oM prog (.load 200 (.tmp 0)) 200 [v90] (fun v91 w=>
 oM prog (.indexAddr 202 (.tmp 0) (.tmp 1)) 0 [v7,(.int .i64 3)] (fun v92 w=>
 oM prog (.load 200 (.tmp 0)) 200 [v92] (fun v93 w=>
 oM prog (.binOp .add 200 (.tmp 0) (.tmp 1) 200) 200 [v93,v55] (fun v95 w=>
 oM prog (.indexAddr 202 (.tmp 0) (.tmp 1)) 0 [v7,(.int .i64 4)] (fun v96 w=>
 oM prog (.load 200 (.tmp 0)) 200 [v96] (fun v97 w=>
 oM prog (.indexAddr 202 (.tmp 0) (.tmp 1)) 0 [v7,(.int .i64 5)] (fun v98 w=>
 oM prog (.load 200 (.tmp 0)) 200 [v98] (fun v99 w=>
 oM prog (.indexAddr 202 (.tmp 0) (.tmp 1)) 0 [v7,(.int .i64 6)] (fun v100 w=>
 oM prog (.load 200 (.tmp 0)) 200 [v100] (fun v101 w=>
 oM prog (.build 202 #[(0,(.tmp 0)),(1,(.tmp 1)),(2,(.tmp 2)),(3,(.tmp 3)),(4,(.tmp 4)),(5,(.tmp 5)),(6,(.tmp 6)),(7,(.tmp 7))]) 202 [v85,v87,v89,v91,v95,v97,v99,v101] (fun v102 w=>
 oM prog (.store 202 (.tmp 0) (.tmp 1)) 0 [v7,v102] (fun _ w=>
 oM prog (.binOp .add 3 (.tmp 0) (.tmp 1) 3) 3 [(l_11.getD 5 undef),(.int .i64 1)] (fun v103 w=>
 J_9 [(l_11.getD 5 undef),v31,v55,v66,v80,v103] w ∧ m_10 [(l_11.getD 5 undef),v31,v55,v66,v80,v103] w < m_10 l_11 w0_l_11) w) w) w) w) w) w) w) w) w) w) w) w) w) w) w) w) w) w) w) w) w) w) w) w) w) w) w) w) w) w) w) w) w) w)))))))))))))))))))))))))))))))))))))))))))))))))))))
 (loopM [undef,(.int .i64 0)] w (fun J_92 m_93 l_94 u_l_94 w0_l_94=>(fun w=>(
 oM prog (.binOp .lss 3 (.tmp 0) (.tmp 1) 3) 0 [(l_94.getD 1 undef),(.int .i64 8)] (fun v105 w=>
 condM v105
 (stageM w (fun C_96 w=>(pureH (l_94.getD 1 undef) (upto C_96 0) (fun v107=>
 oH prog (.indexAddr 202 (.tmp 0) (.tmp 1)) 0 [v7,v107] (upto C_96 0) (fun v108=>
 oH prog (.load 200 (.tmp 0)) 200 [v108] (upto C_96 0) (fun v109=>
 pureH (l_94.getD 1 undef) (upto C_96 0) (fun v110=>
 oH prog (.indexAddr 202 (.tmp 0) (.tmp 1)) 0 [v2,v110] (upto C_96 0) (fun v111=>
 oH prog (.load 200 (.tmp 0)) 200 [v111] (upto C_96 0) (fun v112=>
 oH prog (.binOp .add 200 (.tmp 0) (.tmp 1) 200) 200 [v109,v112] (upto C_96 0) (fun v113=>
 oH prog (.indexAddr 202 (.tmp 0) (.tmp 1)) 0 [v7,v107] (upto C_96 0) (fun v114=>
 oM prog (.store 200 (.tmp 0) (.tmp 1)) 0 [v114,v113] (fun _ w=>C_96 1 w ∧ (
 oM prog (.binOp .add 3 (.tmp 0) (.tmp 1) 3) 3 [(l_94.getD 1 undef),(.int .i64 1)] (fun v115 w=>
 J_92 [(l_94.getD 1 undef),v115] w ∧ m_93 [(l_94.getD 1 undef),v115] w < m_93 l_94 w0_l_94) w)) w)))))))))))
 (oM prog (.load 202 (.tmp 0)) 202 [v7] (fun v116 w=>
 oM prog (.store 202 (.tmp 0) (.tmp 1)) 0 [v4,v116] (fun _ w=>
 ∃ r_107,(do loadVar 202 (← asAddr v4):Sem Value).run prog w = .ok r_107 w ∧ K r_107 w) w) w)) w)) w0_l_94))) w)) w0_l_11)) w) w) w) w) w) w) w) w) w) w) w
theorem sh_185_ok {a0 a1:Value} {K:Value → World → Prop} {w:World} (h:sh_185 a0 a1 K w):callM prog 185 #[a0,a1] K w:=
 calls_of_code (fun i=>bif Nat.beq i 15 then 3 else 0) (fn:=Tryz.f185) (rs:=[.cell 4 202]) Tryz.func185 rfl rfl (by kernel_rfl) (Nat.le_of_ble_eq_true rfl) (Eq.mp (by kernel_rfl) h)
def sh_205 (a0:Value) (K:Value → World → Prop) (w:World):Prop:=
 oM prog (.alloc 223) 0 [] (fun v2 w=>
 loopM [undef,undef,undef,undef,undef,(.int .i64 0)] w (fun J_2 m_3 l_4 u_l_4 w0_l_4=>(fun w=>(
 oM prog (.binOp .lss 3 (.tmp 0) (.tmp 1) 3) 0 [(l_4.getD 5 undef),(.int .i64 64)] (fun v9 w=>
 condM v9
 (joinM (fun M_6=>(oM prog (.binOp .lss 3 (.tmp 0) (.tmp 1) 3) 4 [(l_4.getD 5 undef),(.int .i64 16)] (fun v12 w=>
 condM v12
 (heldM w (fun C_9 w=>(pureH (l_4.getD 5 undef) C_9 (fun v13=>
 pureH a0 C_9 (fun v14=>
 pureH (l_4.getD 5 undef) C_9 (fun v15=>
 oH prog (.binOp .mul 3 (.tmp 0) (.tmp 1) 3) 3 [(.int .i64 4),v15] C_9 (fun v16=>
 oH prog (.indexAddr 181 (.tmp 0) (.tmp 1)) 0 [v14,v16] C_9 (fun v17=>
 oH prog (.load 5 (.tmp 0)) 5 [v17] C_9 (fun v18=>
 oH prog (.convert 5 200 (.tmp 0)) 200 [v18] C_9 (fun v19=>
 oH prog (.binOp .shl 200 (.tmp 0) (.tmp 1) 174) 200 [v19,(.int .u64 24)] C_9 (fun v20=>
 pureH a0 C_9 (fun v21=>
 pureH (l_4.getD 5 undef) C_9 (fun v22=>
 oH prog (.binOp .mul 3 (.tmp 0) (.tmp 1) 3) 3 [(.int .i64 4),v22] C_9 (fun v23=>
 oH prog (.binOp .add 3 (.tmp 0) (.tmp 1) 3) 3 [v23,(.int .i64 1)] C_9 (fun v24=>
 oH prog (.indexAddr 181 (.tmp 0) (.tmp 1)) 0 [v21,v24] C_9 (fun v25=>
 oH prog (.load 5 (.tmp 0)) 5 [v25] C_9 (fun v26=>
 oH prog (.convert 5 200 (.tmp 0)) 200 [v26] C_9 (fun v27=>
 oH prog (.binOp .shl 200 (.tmp 0) (.tmp 1) 174) 200 [v27,(.int .u64 16)] C_9 (fun v28=>
 oH prog (.binOp .or 200 (.tmp 0) (.tmp 1) 200) 200 [v20,v28] C_9 (fun v29=>
 pureH a0 C_9 (fun v30=>
 pureH (l_4.getD 5 undef) C_9 (fun v31=>
 oH prog (.binOp .mul 3 (.tmp 0) (.tmp 1) 3) 3 [(.int .i64 4),v31] C_9 (fun v32=>
 oH prog (.binOp .add 3 (.tmp 0) (.tmp 1) 3) 3 [v32,(.int .i64 2)] C_9 (fun v33=>
 oH prog (.indexAddr 181 (.tmp 0) (.tmp 1)) 0 [v30,v33] C_9 (fun v34=>
 oH prog (.load 5 (.tmp 0)) 5 [v34] C_9 (fun v35=>
 oH prog (.convert 5 200 (.tmp 0)) 200 [v35] C_9 (fun v36=>
 oH prog (.binOp .shl 200 (.tmp 0) (.tmp 1) 174) 200 [v36,(.int .u64 8)] C_9 (fun v37=>
 oH prog (.binOp .or 200 (.tmp 0) (.tmp 1) 200) 200 [v29,v37] C_9 (fun v38=>
 pureH a0 C_9 (fun v39=>
 pureH (l_4.getD 5 undef) C_9 (fun v40=>
 oH prog (.binOp .mul 3 (.tmp 0) (.tmp 1) 3) 3 [(.int .i64 4),v40] C_9 (fun v41=>
 oH prog (.binOp .add 3 (.tmp 0) (.tmp 1) 3) 3 [v41,(.int .i64 3)] C_9 (fun v42=>
 oH prog (.indexAddr 181 (.tmp 0) (.tmp 1)) 0 [v39,v42] C_9 (fun v43=>
 oH prog (.load 5 (.tmp 0)) 5 [v43] C_9 (fun v44=>
 oH prog (.convert 5 200 (.tmp 0)) 200 [v44] C_9 (fun v45=>
 oH prog (.binOp .or 200 (.tmp 0) (.tmp 1) 200) 200 [v38,v45] C_9 (fun v46=>
 oH prog (.indexAddr 223 (.tmp 0) (.tmp 1)) 0 [v2,v13] C_9 (fun v47=>
 oM prog (.store 200 (.tmp 0) (.tmp 1)) 0 [v47,v46] (fun _ w=>C_9 w ∧ (
 M_6 [(l_4.getD 5 undef),(l_4.getD 1 undef),(l_4.getD 2 undef),(l_4.getD 3 undef),(l_4.getD 4 undef)] w)) w))))))))))))))))))))))))))))))))))))))
 (quietM w (fun C_45=>(oQ prog (.binOp .sub 3 (.tmp 0) (.tmp 1) 3) 3 [(l_4.getD 5 undef),(.int .i64 15)] C_45 (fun v49=>
 oQ prog (.indexAddr 223 (.tmp 0) (.tmp 1)) 0 [v2,v49] C_45 (fun v50=>
 oQ prog (.load 200 (.tmp 0)) 200 [v50] C_45 (fun v51=>
 oQ prog (.binOp .sub 3 (.tmp 0) (.tmp 1) 3) 3 [(l_4.getD 5 undef),(.int .i64 2)] C_45 (fun v53=>
 oQ prog (.indexAddr 223 (.tmp 0) (.tmp 1)) 0 [v2,v53] C_45 (fun v54=>
 oQ prog (.load 200 (.tmp 0)) 200 [v54] C_45 (fun v55=>
 ∀ w,C_45 w → (callM prog 207 #[v51,(.int .i64 (-7))] (fun v57 w=>
 callM prog 207 #[v51,(.int .i64 (-18))] (fun v59 w=>
 oM prog (.binOp .xor 200 (.tmp 0) (.tmp 1) 200) 200 [v57,v59] (fun v60 w=>
 oM prog (.binOp .shr 200 (.tmp 0) (.tmp 1) 174) 200 [v51,(.int .u64 3)] (fun v62 w=>
 oM prog (.binOp .xor 200 (.tmp 0) (.tmp 1) 200) 200 [v60,v62] (fun v63 w=>
 callM prog 207 #[v55,(.int .i64 (-17))] (fun v65 w=>
 callM prog 207 #[v55,(.int .i64 (-19))] (fun v67 w=>
 oM prog (.binOp .xor 200 (.tmp 0) (.tmp 1) 200) 200 [v65,v67] (fun v68 w=>
 oM prog (.binOp .shr 200 (.tmp 0) (.tmp 1) 174) 200 [v55,(.int .u64 10)] (fun v70 w=>
 oM prog (.binOp .xor 200 (.tmp 0) (.tmp 1) 200) 200 [v68,v70] (fun v71 w=>
 heldM w (fun C_62 w=>(pureH (l_4.getD 5 undef) C_62 (fun v72=>
 pureH (l_4.getD 5 undef) C_62 (fun v73=>
 oH prog (.binOp .sub 3 (.tmp 0) (.tmp 1) 3) 3 [v73,(.int .i64 16)] C_62 (fun v74=>
 oH prog (.indexAddr 223 (.tmp 0) (.tmp 1)) 0 [v2,v74] C_62 (fun v75=>
 oH prog (.load 200 (.tmp 0)) 200 [v75] C_62 (fun v76=>
 pureH v63 C_62 (fun v77=>
 oH prog (.binOp .add 200 (.tmp 0) (.tmp 1) 200) 200 [v76,v77] C_62 (fun v78=>
 pureH (l_4.getD 5 undef) C_62 (fun v79=>
 oH prog (.binOp .sub 3 (.tmp 0) (.tmp 1) 3) 3 [v79,(.int .i64 7)] C_62 (fun v80=>
 oH prog (.indexAddr 223 (.tmp 0) (.tmp 1)) 0 [v2,v80] C_62 (fun v81=>
 oH prog (.load 200 (.tmp 0)) 200 [v81] C_62 (fun v82=>
 oH prog (.binOp .add 200 (.tmp 0) (.tmp 1) 200) 200 [v78,v82] C_62 (fun v83=>
 pureH v71 C_62 (fun v84=>
 oH prog (.binOp .add 200 (.tmp 0) (.tmp 1) 200) 200 [v83,v84] C_62 (fun v85=>
 oH prog (.indexAddr 223 (.tmp 0) (.tmp 1)) 0 [v2,v72] C_62 (fun v86=>
 oM prog (.store 200 (.tmp 0) (.tmp 1)) 0 [v86,v85] (fun _ w=>C_62 w ∧ (
 M_6 [(l_4.getD 5 undef),v51,v55,v63,v71] w)) w)))))))))))))))))) w) w) w) w) w) w) w) w) w) w))))))))))) w))
 (fun l_7 u_l_7 w=>(oM prog (.binOp .add 3 (.tmp 0) (.tmp 1) 3) 3 [(l_4.getD 5 undef),(.int .i64 1)] (fun v87 w=>
 J_2 [(l_7.getD 0 undef),(l_7.getD 1 undef),(l_7.getD 2 undef),(l_7.getD 3 undef),(l_7.getD 4 undef),v87] w ∧ m_3 [(l_7.getD 0 undef),(l_7.getD 1 undef),(l_7.getD 2 undef),(l_7.getD 3 undef),(l_7.getD 4 undef),v87] w < m_3 l_4 w0_l_4) w)))
 (oM prog (.load 223 (.tmp 0)) 223 [v2] (fun v88 w=>
 oM prog (.store 223 (.tmp 0) (.tmp 1)) 0 [v2,v88] (fun _ w=>
 ∃ r_80,(do loadVar 223 (← asAddr v2):Sem Value).run prog w = .ok r_80 w ∧ K r_80 w) w) w)) w)) w0_l_4)) w
theorem sh_205_ok {a0:Value} {K:Value → World → Prop} {w:World} (h:sh_205 a0 K w):callM prog 205 #[a0] K w:=
 calls_of_code (fun i=>bif Nat.beq i 5 then .tree (.look 0 (.look 1 (.look 2 (.look 3 (.look 4 (.look 5 (.look 6 (.look 7 (.look 8 (.look 9 (.look 10 (.look 11 (.look 12 (.look 13 (.look 14 (.look 15 (.look 16 (.look 17 (.look 18 (.look 19 (.look 20 (.look 21 (.look 22 (.look 23 (.look 24 (.look 25 (.look 26 (.look 27 (.look 28 (.look 29 (.look 30 (.look 31 (.look 32 (.look 33 (.look 34 (.only 35 (.done))))))))))))))))))))))))))))))))))))) else bif Nat.beq i 9 then 2 else 0) (fn:=Tryz.f205) (rs:=[.cell 2 223]) Tryz.func205 rfl rfl (by kernel_rfl) (Nat.le_of_ble_eq_true rfl) (Eq.mp (by kernel_rfl) h)
def sh_206 (K:Value → World → Prop) (w:World):Prop:=
 oM prog (.alloc 223) 0 [] (fun v0 w=>
 oM prog (.build 223 #[(0,(.tmp 0)),(1,(.tmp 1)),(2,(.tmp 2)),(3,(.tmp 3)),(4,(.tmp 4)),(5,(.tmp 5)),(6,(.tmp 6)),(7,(.tmp 7)),(8,(.tmp 8)),(9,(.tmp 9)),(10,(.tmp 10)),(11,(.tmp 11)),(12,(.tmp 12)),(13,(.tmp 13)),(14,(.tmp 14)),(15,(.tmp 15)),(16,(.tmp 16)),(17,(.tmp 17)),(18,(.tmp 18)),(19,(.tmp 19)),(20,(.tmp 20)),(21,(.tmp 21)),(22,(.tmp 22)),(23,(.tmp 23)),(24,(.tmp 24)),(25,(.tmp 25)),(26,(.tmp 26)),(27,(.tmp 27)),(28,(.tmp 28)),(29,(.tmp 29)),(30,(.tmp 30)),(31,(.tmp 31)),(32,(.tmp 32)),(33,(.tmp 33)),(34,(.tmp 34)),(35,(.tmp 35)),(36,(.tmp 36)),(37,(.tmp 37)),(38,(.tmp 38)),(39,(.tmp 39)),(40,(.tmp 40)),(41,(.tmp 41)),(42,(.tmp 42)),(43,(.tmp 43)),(44,(.tmp 44)),(45,(.tmp 45)),(46,(.tmp 46)),(47,(.tmp 47)),(48,(.tmp 48)),(49,(.tmp 49)),(50,(.tmp 50)),(51,(.tmp 51)),(52,(.tmp 52)),(53,(.tmp 53)),(54,(.tmp 54)),(55,(.tmp 55)),(56,(.tmp 56)),(57,(.tmp 57)),(58,(.tmp 58)),(59,(.tmp 59)),(60,(.tmp 60)),(61,(.tmp 61)),(62,(.tmp 62)),(63,(.tmp 63))]) 223 [(.int .u32 1116352408),(.int .u32 1899447441),(.int .u32 3049323471),(.int .u32 3921009573),(.int .u32 961987163),(.int .u32 1508970993),(.int .u32 2453635748),(.int .u32 2870763221),(.int .u32 3624381080),(.int .u32 310598401),(.int .u32 607225278),(.int .u32 1426881987),(.int .u32 1925078388),(.int .u32 2162078206),(.int .u32 2614888103),(.int .u32 3248222580),(.int .u32 3835390401),(.int .u32 4022224774),(.int .u32 264347078),(.int .u32 604807628),(.int .u32 770255983),(.int .u32 1249150122),(.int .u32 1555081692),(.int .u32 1996064986),(.int .u32 2554220882),(.int .u32 2821834349),(.int .u32 2952996808),(.int .u32 3210313671),(.int .u32 3336571891),(.int .u32 3584528711),(.int .u32 113926993),(.int .u32 338241895),(.int .u32 666307205),(.int .u32 773529912),(.int .u32 1294757372),(.int .u32 1396182291),(.int .u32 1695183700),(.int .u32 1986661051),(.int .u32 2177026350),(.int .u32 2456956037),(.int .u32 2730485921),(.int .u32 2820302411),(.int .u32 3259730800),(.int .u32 3345764771),(.int .u32 3516065817),(.int .u32 3600352804),(.int .u32 4094571909),(.int .u32 275423344),(.int .u32 430227734),(.int .u32 506948616),(.int .u32 659060556),(.int .u32 883997877),(.int .u32 958139571),(.int .u32 1322822218),(.int .u32 1537002063),(.int .u32 1747873779),(.int .u32 1955562222),(.int .u32 2024104815),(.int .u32 2227730452),(.int .u32 2361852424),(.int .u32 2428436474),(.int .u32 2756734187),(.int .u32 3204031479),(.int .u32 3329325298)] (fun v1 w=>
 oM prog (.store 223 (.tmp 0) (.tmp 1)) 0 [v0,v1] (fun _ w=>
 ∃ r_3,(do loadVar 223 (← asAddr v0):Sem Value).run prog w = .ok r_3 w ∧ K r_3 w) w) w) w
theorem sh_206_ok {K:Value → World → Prop} {w:World} (h:sh_206 K w):callM prog 206 #[] K w:=
 calls_of_code (fun _=>0) (fn:=Tryz.f206) (rs:=[.cell 0 223]) Tryz.func206 rfl rfl (by kernel_rfl) (Nat.le_of_ble_eq_true rfl) (Eq.mp (by kernel_rfl) h)
def sh_207 (a0 a1:Value) (K:Value → World → Prop) (w:World):Prop:=
 oM prog (.convert 3 174 (.tmp 0)) 174 [a1] (fun v7 w=>
 oM prog (.binOp .and 174 (.tmp 0) (.tmp 1) 174) 174 [v7,(.int .u64 31)] (fun v8 w=>
 oM prog (.binOp .shl 200 (.tmp 0) (.tmp 1) 174) 200 [a0,v8] (fun v11 w=>
 oM prog (.binOp .sub 174 (.tmp 0) (.tmp 1) 174) 174 [(.int .u64 32),v8] (fun v14 w=>
 oM prog (.binOp .shr 200 (.tmp 0) (.tmp 1) 174) 200 [a0,v14] (fun v15 w=>
 oM prog (.binOp .or 200 (.tmp 0) (.tmp 1) 200) 200 [v11,v15] (fun v16 w=>
 K v16 w) w) w) w) w) w) w
theorem sh_207_ok {a0 a1:Value} {K:Value → World → Prop} {w:World} (h:sh_207 a0 a1 K w):callM prog 207 #[a0,a1] K w:=
 calls_of_code (fun _=>0) (fn:=Tryz.f207) (rs:=[.tmp 4]) Tryz.func207 rfl rfl (by kernel_rfl) (Nat.le_of_ble_eq_true rfl) (Eq.mp (by kernel_rfl) h)
end Go.Proofs
namespace ShaSpec
abbrev W:=BitVec 32
def rotr (x:W) (k:Nat):W:=x >>> k ||| x <<< (32 - k)
theorem rotl_rotr (x:W) (k:Nat):x <<< (32 - k) ||| x >>> k = rotr x k:=BitVec.or_comm _ _
def ch (e f g:W):W:=g ^^^ (e &&& (f ^^^ g))
def maj (a b c:W):W:=(a &&& b) ||| (c &&& (a ||| b))
theorem ch_eq (e f g:W):(e &&& f) ^^^ (~~~ e &&& g) = ch e f g:=by
 unfold ch
 ext i hi
 simp only [BitVec.getElem_xor,BitVec.getElem_and,BitVec.getElem_not]
 cases e[i] <;> cases f[i] <;> cases g[i] <;> rfl
theorem maj_eq (a b c:W):(a &&& b) ^^^ (a &&& c) ^^^ (b &&& c) = maj a b c:=by
 unfold maj
 ext i hi
 simp only [BitVec.getElem_xor,BitVec.getElem_and,BitVec.getElem_or]
 cases a[i] <;> cases b[i] <;> cases c[i] <;> rfl
def w8 (b:UInt8):W:=BitVec.ofNat 32 b.toNat
def word (b:List UInt8) (k:Nat):W:=w8 (b.getD (4 * k) 0) <<< 24 ||| w8 (b.getD (4 * k + 1) 0) <<< 16 ||| w8 (b.getD (4 * k + 2) 0) <<< 8 ||| w8 (b.getD (4 * k + 3) 0)
def sig0 (x:W):W:=rotr x 7 ^^^ rotr x 18 ^^^ x >>> 3
def sig1 (y:W):W:=rotr y 17 ^^^ rotr y 19 ^^^ y >>> 10
def at' (l:List W) (k:Nat):W:=l.getD k 0
def nextW (b:List UInt8) (l:List W) (k:Nat):W:=
 if k < 16 then word b k else at' l (k - 16) + sig0 (at' l (k - 15)) + at' l (k - 7) + sig1 (at' l (k - 2))
def sched (b:List UInt8):Nat → List W
 | 0=>[]
 | n + 1=>sched b n ++ [nextW b (sched b n) n]
theorem sched_length (b:List UInt8) (n:Nat):(sched b n).length = n:=by
 induction n with
 | zero=>rfl
 | succ n ih=>simp [sched,ih]
structure St where
 a:W
 b:W
 c:W
 d:W
 e:W
 f:W
 g:W
 h:W
def St.list (s:St):List W:=[s.a,s.b,s.c,s.d,s.e,s.f,s.g,s.h]
def round (s:St) (k w:W):St:=
 let t1:=s.h + (rotr s.e 6 ^^^ rotr s.e 11 ^^^ rotr s.e 25) + ch s.e s.f s.g + k + w
 ⟨t1 + (rotr s.a 2 ^^^ rotr s.a 13 ^^^ rotr s.a 22) + maj s.a s.b s.c,s.a,s.b,s.c,s.d + t1,s.e,s.f,s.g⟩
def consts:List W:=[
 0x428a2f98,0x71374491,0xb5c0fbcf,0xe9b5dba5,0x3956c25b,0x59f111f1,0x923f82a4,0xab1c5ed5,
 0xd807aa98,0x12835b01,0x243185be,0x550c7dc3,0x72be5d74,0x80deb1fe,0x9bdc06a7,0xc19bf174,
 0xe49b69c1,0xefbe4786,0x0fc19dc6,0x240ca1cc,0x2de92c6f,0x4a7484aa,0x5cb0a9dc,0x76f988da,
 0x983e5152,0xa831c66d,0xb00327c8,0xbf597fc7,0xc6e00bf3,0xd5a79147,0x06ca6351,0x14292967,
 0x27b70a85,0x2e1b2138,0x4d2c6dfc,0x53380d13,0x650a7354,0x766a0abb,0x81c2c92e,0x92722c85,
 0xa2bfe8a1,0xa81a664b,0xc24b8b70,0xc76c51a3,0xd192e819,0xd6990624,0xf40e3585,0x106aa070,
 0x19a4c116,0x1e376c08,0x2748774c,0x34b0bcb5,0x391c0cb3,0x4ed8aa4a,0x5b9cca4f,0x682e6ff3,
 0x748f82ee,0x78a5636f,0x84c87814,0x8cc70208,0x90befffa,0xa4506ceb,0xbef9a3f7,0xc67178f2]
theorem consts_length:consts.length = 64:=by decide
def rounds (b:List UInt8) (s:St):Nat → St
 | 0=>s
 | n + 1=>round (rounds b s n) (at' consts n) (at' (sched b 64) n)
def mix (s:St) (b:List UInt8):St:=
 let v:=rounds b s 64
 ⟨v.a + s.a,v.b + s.b,v.c + s.c,v.d + s.d,v.e + s.e,v.f + s.f,v.g + s.g,v.h + s.h⟩
def first:St:=⟨0x6a09e667,0xbb67ae85,0x3c6ef372,0xa54ff53a,0x510e527f,0x9b05688c,0x1f83d9ab,0x5be0cd19⟩
def lenBytes (n:Nat):List UInt8:=[7,6,5,4,3,2,1,0].map fun k=>UInt8.ofNat (8 * n / 2 ^ (8 * k))
def zeros (n:Nat):Nat:=(119 - n % 64) % 64
def padded (s:List UInt8):List UInt8:=s ++ [128] ++ List.replicate (zeros s.length) 0 ++ lenBytes s.length
theorem lenBytes_length (n:Nat):(lenBytes n).length = 8:=rfl
theorem padded_length (s:List UInt8):(padded s).length % 64 = 0:=by
 simp only [padded,zeros,List.length_append,List.length_replicate,lenBytes_length,List.length_singleton]
 omega
def blocks:Nat → St → List UInt8 → St
 | 0,s,_=>s
 | n + 1,s,b=>blocks n (mix s (b.take 64)) (b.drop 64)
def out1 (w:W):List UInt8:=[UInt8.ofNat (w.toNat / 16777216),UInt8.ofNat (w.toNat / 65536),UInt8.ofNat (w.toNat / 256),UInt8.ofNat w.toNat]
def sha (s:List UInt8):List UInt8:=((blocks ((padded s).length / 64) first (padded s)).list.map out1).flatten
theorem sha_length (s:List UInt8):(sha s).length = 32:=by
 simp [sha,St.list,out1]
end ShaSpec
namespace Go.Sh
open Go Go.RowKit
def w32 (x:BitVec 32):Value:=.int .u32 (x.toNat:Int)
theorem w32_wrap (n:Nat):IntKind.u32.wrap (n:Int) = ((BitVec.ofNat 32 n).toNat:Int):=by
 rw [IntKind.wrap_u32,BitVec.toNat_ofNat]; omega
theorem w32_ofInt (x:BitVec 32):BitVec.ofInt 32 (x.toNat:Int) = x:=by
 rw [BitVec.ofInt_natCast,BitVec.ofNat_toNat,BitVec.setWidth_eq]
theorem bits32_and (x y:BitVec 32):bits .and .u32 (x.toNat:Int) (y.toNat:Int) = ((x &&& y).toNat:Int):=by
 show IntKind.u32.wrap (((BitVec.ofInt 32 (x.toNat:Int) &&& BitVec.ofInt 32 (y.toNat:Int)).toNat:Nat):Int) = _
 rw [w32_ofInt,w32_ofInt,w32_wrap,BitVec.ofNat_toNat,BitVec.setWidth_eq]
theorem bits32_or (x y:BitVec 32):bits .or .u32 (x.toNat:Int) (y.toNat:Int) = ((x ||| y).toNat:Int):=by
 show IntKind.u32.wrap (((BitVec.ofInt 32 (x.toNat:Int) ||| BitVec.ofInt 32 (y.toNat:Int)).toNat:Nat):Int) = _
 rw [w32_ofInt,w32_ofInt,w32_wrap,BitVec.ofNat_toNat,BitVec.setWidth_eq]
theorem bits32_xor (x y:BitVec 32):bits .xor .u32 (x.toNat:Int) (y.toNat:Int) = ((x ^^^ y).toNat:Int):=by
 show IntKind.u32.wrap (((BitVec.ofInt 32 (x.toNat:Int) ^^^ BitVec.ofInt 32 (y.toNat:Int)).toNat:Nat):Int) = _
 rw [w32_ofInt,w32_ofInt,w32_wrap,BitVec.ofNat_toNat,BitVec.setWidth_eq]
section
variable {P:Program} {K:Value → World → Prop} {w:World}
theorem wadd (t t' T:TypeId) (x y:BitVec 32):oM P (.binOp .add t (.tmp 0) (.tmp 1) t') T [w32 x,w32 y] = pureM (w32 (x + y)):=by
 have e:IntKind.u32.wrap ((x.toNat:Int) + (y.toNat:Int)) = ((x + y).toNat:Int):=by
  rw [← Int.natCast_add,w32_wrap]
  congr 1
 unfold w32
 rw [oM_add',e]
theorem wand (t t' T:TypeId) (x y:BitVec 32):oM P (.binOp .and t (.tmp 0) (.tmp 1) t') T [w32 x,w32 y] = pureM (w32 (x &&& y)):=by
 funext K w
 unfold w32
 rw [← bits32_and]
 simp [oM,opM,xop,execOp,evalL,evE,binOp,go_sem]
theorem wor (t t' T:TypeId) (x y:BitVec 32):oM P (.binOp .or t (.tmp 0) (.tmp 1) t') T [w32 x,w32 y] = pureM (w32 (x ||| y)):=by
 funext K w
 unfold w32
 rw [← bits32_or]
 simp [oM,opM,xop,execOp,evalL,evE,binOp,go_sem]
theorem wxor (t t' T:TypeId) (x y:BitVec 32):oM P (.binOp .xor t (.tmp 0) (.tmp 1) t') T [w32 x,w32 y] = pureM (w32 (x ^^^ y)):=by
 funext K w
 unfold w32
 rw [← bits32_xor]
 simp [oM,opM,xop,execOp,evalL,evE,binOp,go_sem]
theorem wshr (t t' T:TypeId) (yk:IntKind) (x:BitVec 32) (n:Nat) (h:n ≤ 32):oM P (.binOp .shr t (.tmp 0) (.tmp 1) t') T [w32 x,.int yk (n:Int)] = pureM (w32 (x >>> n)):=by
 unfold w32
 rw [oM_shr32 t t' T yk _ _ (by omega) (by omega)]
 congr 2
 rw [BitVec.toNat_ushiftRight,Nat.shiftRight_eq_div_pow,Int.toNat_natCast,Int.natCast_ediv,Int.natCast_pow]
 rfl
theorem wshl (t t' T:TypeId) (yk:IntKind) (x:BitVec 32) (n:Nat) (h:n ≤ 32):oM P (.binOp .shl t (.tmp 0) (.tmp 1) t') T [w32 x,.int yk (n:Int)] = pureM (w32 (x <<< n)):=by
 unfold w32
 rw [oM_shl32 t t' T yk _ _ (by omega) (by omega)]
 congr 2
 rw [BitVec.toNat_shiftLeft,Nat.shiftLeft_eq,Int.toNat_natCast,Int.natCast_emod,Int.natCast_mul,Int.natCast_pow]
 rfl
end
end Go.Sh
namespace Go.Proofs
open Go Go.Sh Go.RowKit ShaSpec
section
variable {K:Value → World → Prop} {w:World}
theorem rotl_ok (x:W) (r:Nat) (h0:0 < r) (h1:r < 32) (h:K (w32 (rotr x r)) w):callM Tryz.prog 207 #[w32 x,.int .i64 (-(r:Int))] K w:=by
 apply sh_207_ok
 unfold sh_207
 have e1:IntKind.u64.wrap (-(r:Int)) = 18446744073709551616 - (r:Int):=by rw [IntKind.wrap_u64]; omega
 have e2:bits .and .u64 (18446744073709551616 - (r:Int)) 31 = ((32 - r:Nat):Int):=by
  rw [mask64 5 _ 31 (by omega) (by decide) (by omega)]; omega
 have e3:IntKind.u64.wrap (32 - ((32 - r:Nat):Int)) = (r:Int):=by rw [IntKind.wrap_u64]; omega
 have s1:=fun t t' T=>wshl (P:=Tryz.prog) t t' T .u64 x (32 - r) (by omega)
 have s2:=fun t t' T=>wshr (P:=Tryz.prog) t t' T .u64 x r (by omega)
 rw [← rotl_rotr] at h
 obtain ⟨m,hm⟩:∃ m,m = 32 - r:=⟨_,rfl⟩
 rw [← hm] at e2 e3 s1 h
 refine Xa (An6 @e1 @e2 @e3 @s1 @s2 @wor) ?_
 exact h
end
end Go.Proofs
namespace Go.Proofs
open Go Go.Sh Go.RowKit ShaSpec
section
variable {K:Value → World → Prop} {w:World}
@[reducible] def ws (l:List W):List Value:=l.map w32
theorem ws_one (l:List W):∀ u ∈ ws l,u.oneCell' = true:=by
 intro u hu
 obtain ⟨x,_,rfl⟩:=List.mem_map.1 hu
 rfl
@[reducible] def stV (s:St):Value:=.agg (ws s.list).toArray
theorem sz_words (w:World):(sizeOf 202).run Tryz.prog w = .ok 8 w:=by kernel_rfl
theorem sz_64 (w:World):(sizeOf 223).run Tryz.prog w = .ok 64 w:=by kernel_rfl
theorem sz_u32 (w:World):(sizeOf 200).run Tryz.prog w = .ok 1 w:=by kernel_rfl
theorem al_words (w:World):(Instr.alloc 202 true (.tuple #[])).run Tryz.prog w = .ok (.pointer (some ⟨w.heap.size,0,none⟩)) (w.alloc (.cells (ws (List.replicate 8 0)).toArray 202)):=by kernel_rfl
theorem al_64 (w:World):(Instr.alloc 223 true (.tuple #[])).run Tryz.prog w = .ok (.pointer (some ⟨w.heap.size,0,none⟩)) (w.alloc (.cells (ws (List.replicate 64 0)).toArray 223)):=by kernel_rfl
theorem un_words:Tryz.prog.underlying 202 = some (.array (Tryz.prog.arrayLen 202) (Tryz.prog.elem 202)):=by kernel_rfl
theorem un_64:Tryz.prog.underlying 223 = some (.array (Tryz.prog.arrayLen 223) (Tryz.prog.elem 223)):=by kernel_rfl
@[go_sem] theorem idx_words (T:TypeId) (b o:Nat) (x:Int):oM Tryz.prog (.indexAddr 202 (.tmp 0) (.tmp 1)) T [.pointer (some ⟨b,o,none⟩),.int .i64 x] = onM (0 ≤ x ∧ x < (8:Nat)) (.pointer (some ⟨b,o + x.toNat,none⟩)):=
 oM_idx_arr _ un_words (by kernel_rfl) (by decide) (fun w=>by kernel_rfl) T b o x
@[go_sem] theorem idx_64 (T:TypeId) (b o:Nat) (x:Int):oM Tryz.prog (.indexAddr 223 (.tmp 0) (.tmp 1)) T [.pointer (some ⟨b,o,none⟩),.int .i64 x] = onM (0 ≤ x ∧ x < (64:Nat)) (.pointer (some ⟨b,o + x.toNat,none⟩)):=
 oM_idx_arr _ un_64 (by kernel_rfl) (by decide) (fun w=>by kernel_rfl) T b o x
theorem build_first:oM Tryz.prog (Go.Op.build 202 #[(0,(.tmp 0)),(1,(.tmp 1)),(2,(.tmp 2)),(3,(.tmp 3)),(4,(.tmp 4)),(5,(.tmp 5)),(6,(.tmp 6)),(7,(.tmp 7))]) 202 [(.int .u32 1779033703),(.int .u32 3144134277),(.int .u32 1013904242),(.int .u32 2773480762),(.int .u32 1359893119),(.int .u32 2600822924),(.int .u32 528734635),(.int .u32 1541459225)] = pureM (stV first):=by
 funext K w
 kernel_rfl
theorem first_ok (k:∀ w',Below w.heap.size w w' → K (stV first) w'):callM Tryz.prog 184 #[] K w:=by
 apply sh_184_ok
 unfold sh_184
 refine arr_alloc al_words fun g W hb hg hh=>?_
 rw [build_first]
 refine pureM_in ?_
 refine arr_store sz_words (xs:=ws first.list) rfl rfl (ws_one _) hh rfl (fun W2 hg2 hh=>?_)
 exact arr_ret hh un_words rfl (by kernel_rfl) (k _ (grown_below hb hg2 hg))
theorem build_table:∀ K w,oM Tryz.prog (Go.Op.build 223 ((List.range 64).map fun i=>(i,Operand.tmp i)).toArray) 223 (ws consts) K w = pureM (.agg (ws consts).toArray) K w:=by
 intro K w
 kernel_rfl
theorem table_ok (k:∀ w',Below w.heap.size w w' → K (.agg (ws consts).toArray) w'):callM Tryz.prog 206 #[] K w:=by
 apply sh_206_ok
 unfold sh_206
 refine arr_alloc al_64 fun g W hb hg hh=>?_
 refine (build_table _ W).symm ▸ ?_
 refine pureM_in ?_
 refine arr_store sz_64 (xs:=ws consts) rfl rfl (ws_one _) hh rfl (fun W2 hg2 hh=>?_)
 exact arr_ret hh un_64 rfl (by kernel_rfl) (k _ (grown_below hb hg2 hg))
def ByR (w:World) (b o:Nat) (l:List UInt8):Prop:=b < w.heap.size ∧ ∀ i,i < l.length → w.cell? ⟨b,o + i,none⟩ = some (.int .u8 ((l.getD i 0).toNat:Int))
theorem ByR.next {w w':World} {b o:Nat} {l:List UInt8} (h:ByR w b o l) (hb:Below w.heap.size w w'):ByR w' b o l:=
 ⟨Nat.lt_of_lt_of_le h.1 hb.size,fun i hi=>by rw [hb.cell h.1]; exact h.2 i hi⟩
theorem conv_u8 (T:TypeId) (x:UInt8):oM Tryz.prog (.convert 5 200 (.tmp 0)) T [.int .u8 (x.toNat:Int)] = pureM (w32 (w8 x)):=by
 funext K w
 have e:IntKind.u32.wrap (x.toNat:Int) = ((w8 x).toNat:Int):=by
  have:=x.toNat_lt
  rw [IntKind.wrap_u32]
  unfold w8
  rw [BitVec.toNat_ofNat]
  omega
 have e2:(convert 5 200 (.int .u8 (x.toNat:Int))).run Tryz.prog w = .ok (.int .u32 (IntKind.u32.wrap (x.toNat:Int))) w:=by kernel_rfl
 rw [oM_convert,e2,e]
 rfl
end
end Go.Proofs
namespace Go.Proofs
open Go Go.Sh Go.RowKit ShaSpec
section
variable {K:Value → World → Prop} {w:World}
@[go_sem] theorem idx_bytes (T:TypeId) (b o n c:Nat) (x:Int):oM Tryz.prog (.indexAddr 181 (.tmp 0) (.tmp 1)) T [.slice (some ⟨b,o,none⟩) n c,.int .i64 x] = onM (0 ≤ x ∧ x < n) (.pointer (some ⟨b,o + x.toNat,none⟩)):=by
 funext K w
 rw [oM_indexAddr,run_indexAt_slice (h:=by kernel_rfl)]
 have hs:(sizeOf (Tryz.prog.elem 181)).run Tryz.prog w = .ok 1 w:=by kernel_rfl
 by_cases hi:0 ≤ x ∧ x < n
 ·rw [if_pos hi,hs]
  simp only [Result.andThen,add_none,Nat.mul_one,rM_ok]
  exact propext ⟨fun h=>⟨hi,h⟩,fun h=>h.2⟩
 ·rw [if_neg hi]
  obtain ⟨e',w',he⟩:=halts Value Tryz.prog .i64 x n .index w
  rw [he]
  exact propext ⟨fun h=>h.elim,fun h=>hi h.1⟩
theorem shl24 (t t' T:TypeId) (x:W):oM Tryz.prog (.binOp .shl t (.tmp 0) (.tmp 1) t') T [w32 x,.int .u64 24] = pureM (w32 (x <<< 24)):=wshl t t' T .u64 x 24 (by omega)
theorem shl16 (t t' T:TypeId) (x:W):oM Tryz.prog (.binOp .shl t (.tmp 0) (.tmp 1) t') T [w32 x,.int .u64 16] = pureM (w32 (x <<< 16)):=wshl t t' T .u64 x 16 (by omega)
theorem shl8 (t t' T:TypeId) (x:W):oM Tryz.prog (.binOp .shl t (.tmp 0) (.tmp 1) t') T [w32 x,.int .u64 8] = pureM (w32 (x <<< 8)):=wshl t t' T .u64 x 8 (by omega)
theorem shr3 (t t' T:TypeId) (x:W):oM Tryz.prog (.binOp .shr t (.tmp 0) (.tmp 1) t') T [w32 x,.int .u64 3] = pureM (w32 (x >>> 3)):=wshr t t' T .u64 x 3 (by omega)
theorem shr10 (t t' T:TypeId) (x:W):oM Tryz.prog (.binOp .shr t (.tmp 0) (.tmp 1) t') T [w32 x,.int .u64 10] = pureM (w32 (x >>> 10)):=wshr t t' T .u64 x 10 (by omega)
theorem shr24 (t t' T:TypeId) (x:W):oM Tryz.prog (.binOp .shr t (.tmp 0) (.tmp 1) t') T [w32 x,.int .u64 24] = pureM (w32 (x >>> 24)):=wshr t t' T .u64 x 24 (by omega)
theorem shr16 (t t' T:TypeId) (x:W):oM Tryz.prog (.binOp .shr t (.tmp 0) (.tmp 1) t') T [w32 x,.int .u64 16] = pureM (w32 (x >>> 16)):=wshr t t' T .u64 x 16 (by omega)
theorem shr8 (t t' T:TypeId) (x:W):oM Tryz.prog (.binOp .shr t (.tmp 0) (.tmp 1) t') T [w32 x,.int .u64 8] = pureM (w32 (x >>> 8)):=wshr t t' T .u64 x 8 (by omega)
theorem rot6 (x:W) (h:K (w32 (rotr x 6)) w):callM Tryz.prog 207 #[w32 x,.int .i64 (-6)] K w:=rotl_ok x 6 (by omega) (by omega) h
theorem rot11 (x:W) (h:K (w32 (rotr x 11)) w):callM Tryz.prog 207 #[w32 x,.int .i64 (-11)] K w:=rotl_ok x 11 (by omega) (by omega) h
theorem rot25 (x:W) (h:K (w32 (rotr x 25)) w):callM Tryz.prog 207 #[w32 x,.int .i64 (-25)] K w:=rotl_ok x 25 (by omega) (by omega) h
theorem rot2 (x:W) (h:K (w32 (rotr x 2)) w):callM Tryz.prog 207 #[w32 x,.int .i64 (-2)] K w:=rotl_ok x 2 (by omega) (by omega) h
theorem rot13 (x:W) (h:K (w32 (rotr x 13)) w):callM Tryz.prog 207 #[w32 x,.int .i64 (-13)] K w:=rotl_ok x 13 (by omega) (by omega) h
theorem rot22 (x:W) (h:K (w32 (rotr x 22)) w):callM Tryz.prog 207 #[w32 x,.int .i64 (-22)] K w:=rotl_ok x 22 (by omega) (by omega) h
theorem rot7 (x:W) (h:K (w32 (rotr x 7)) w):callM Tryz.prog 207 #[w32 x,.int .i64 (-7)] K w:=rotl_ok x 7 (by omega) (by omega) h
theorem rot18 (x:W) (h:K (w32 (rotr x 18)) w):callM Tryz.prog 207 #[w32 x,.int .i64 (-18)] K w:=rotl_ok x 18 (by omega) (by omega) h
theorem rot17 (x:W) (h:K (w32 (rotr x 17)) w):callM Tryz.prog 207 #[w32 x,.int .i64 (-17)] K w:=rotl_ok x 17 (by omega) (by omega) h
theorem rot19 (x:W) (h:K (w32 (rotr x 19)) w):callM Tryz.prog 207 #[w32 x,.int .i64 (-19)] K w:=rotl_ok x 19 (by omega) (by omega) h
def schL (b:List UInt8) (k:Nat):List W:=sched b k ++ List.replicate (64 - k) 0
theorem schL_length (b:List UInt8) (k:Nat) (hk:k ≤ 64):(schL b k).length = 64:=by simp [schL,sched_length]; omega
theorem schL_next (b:List UInt8) (k:Nat) (hk:k < 64):(schL b k).set k (nextW b (sched b k) k) = schL b (k + 1):=by
 unfold schL
 rw [List.set_append_right _ _ (by rw [sched_length]; omega),sched_length,Nat.sub_self]
 obtain ⟨m,hm⟩:∃ m,64 - k = m + 1:=⟨63 - k,by omega⟩
 rw [hm,List.replicate_succ,List.set_cons_zero,show 64 - (k + 1) = m by omega]
 simp [sched]
structure SchI (b:List UInt8) (g:Nat) (w0:World) (k:Nat) (w':World):Prop where
 below:Below w0.heap.size w0 w'
 holds:Holds w' g 223 (ws (schL b k))
structure SchC (b:List UInt8) (g:Nat) (w0:World) (k:Nat) (w':World):Prop where
 one:Below w0.heap.size w0 w'
 two:∀ j,j < k → w'.cell? ⟨g,j,none⟩ = some (w32 (at' (sched b k) j))
theorem SchC.less {b:List UInt8} {g:Nat} {w0 w':World} {k:Nat} (h:SchC b g w0 (k + 1) w'):SchC b g w0 k w':=by
 refine ⟨h.one,fun j hj=>?_⟩
 rw [h.two j (by omega)]
 have e:at' (sched b (k + 1)) j = at' (sched b k) j:=by
  show (sched b k ++ [nextW b (sched b k) k]).getD j 0 = (sched b k).getD j 0
  rw [List.getD_eq_getElem?_getD,List.getElem?_append_left (by rw [sched_length]; omega),← List.getD_eq_getElem?_getD]
 rw [e]
theorem schL_at (b:List UInt8) (k j:Nat) (hj:j < k):(schL b k).getD j 0 = at' (sched b k) j:=by
 unfold schL at'
 rw [List.getD_eq_getElem?_getD,List.getElem?_append_left (by rw [sched_length]; omega),← List.getD_eq_getElem?_getD]
theorem SchI.c {b:List UInt8} {g:Nat} {w0 w':World} {k:Nat} (hk:k ≤ 64) (h:SchI b g w0 k w'):SchC b g w0 k w':=by
 refine ⟨h.below,fun j hj=>?_⟩
 have hl:=schL_length b k hk
 rw [h.holds.cell j (by simp [hl]; omega),← schL_at b k j hj]
 simp [List.getD_eq_getElem?_getD,hl,show j < 64 by omega]
def SchJ (b:List UInt8) (g:Nat) (w0:World) (l:List Value) (w':World):Prop:=∃ (v0 v1 v2 v3 v4:Value) (k:Nat),l = [v0,v1,v2,v3,v4,.int .i64 (k:Int)] ∧ k ≤ 64 ∧ SchI b g w0 k w'
def schMu (l:List Value) (_:World):Nat:=match l with | [_,_,_,_,_,.int _ i]=>64 - i.toNat | _=>0
theorem schMu_eq (a b c d e:Value) (q:IntKind) (i:Int) (w:World):schMu [a,b,c,d,e,.int q i] w = 64 - i.toNat:=rfl
theorem SchI.drew {b:List UInt8} {g:Nat} {w0 w':World} {k:Nat} (h:SchI b g w0 k w'):SchI b g w0 k { w' with drawn:=w'.drawn + 1 }:=
 ⟨h.below.on .drawn,h.holds.next .drawn⟩
theorem SchI.set {b:List UInt8} {g:Nat} {w0 w' W:World} {k:Nat} (h:SchI b g w0 k w') (h0:w0.heap.size ≤ g) (hk:k < 64) (hg:w'.grownBy W (some g)) (hh:Holds W g 223 ((ws (schL b k)).set k (w32 (nextW b (sched b k) k)))):SchI b g w0 (k + 1) W:=by
 refine ⟨grown_below h.below hg h0,?_⟩
 rw [← schL_next b k hk]
 unfold ws at hh ⊢
 rw [List.map_set]
 exact hh
theorem schedule_ok (b:List UInt8) {B o c:Nat} (hl:b.length = 64) (hb:ByR w B o b) (k:∀ w',Below w.heap.size w w' → K (.agg (ws (sched b 64)).toArray) w'):callM Tryz.prog 205 #[.slice (some ⟨B,o,none⟩) 64 c] K w:=by
 apply sh_205_ok
 unfold sh_205
 refine arr_alloc al_64 fun g W hbW hgW hh=>?_
 refine ⟨SchJ b g w,schMu,⟨_,_,_,_,_,0,rfl,by omega,hbW,hh⟩,?_⟩
 clear hh hbW W
 rintro _ _ w1 ⟨v0,v1,v2,v3,v4,i,rfl,hi,hI⟩
 have hc:=(hI.c hi)
 by_cases hi64:i < 64
 ·refine Xa0 ?_
  refine ⟨fun _ w'=>SchI b g w (i + 1) w',?_,?_⟩
  ·by_cases h16:i < 16
   ·refine Xa0 ?_
    refine ⟨fun w'=>Below w.heap.size w w',hI.drew.below,?_⟩
    have hI:=hI.drew
    have cb:∀ j,j < 64 → ∀ w',Below w.heap.size w w' → w'.cell? ⟨B,o + j,none⟩ = some (.int .u8 ((b.getD j 0).toNat:Int)):=fun j hj w' hw=>(hb.next hw).2 j (by omega)
    have t1:(4 * (i:Int)).toNat = 4 * i:=by omega
    have t2:(4 * (i:Int) + 1).toNat = 4 * i + 1:=by omega
    have t3:(4 * (i:Int) + 2).toNat = 4 * i + 2:=by omega
    have t4:(4 * (i:Int) + 3).toNat = 4 * i + 3:=by omega
    have c1:=cb (4 * i) (by omega)
    have c2:=cb (4 * i + 1) (by omega)
    have c3:=cb (4 * i + 2) (by omega)
    have c4:=cb (4 * i + 3) (by omega)
    have w1:IntKind.i64.wrap (4 * (i:Int)) = 4 * i:=wrapI64 _ (by omega) (by omega)
    have w2:IntKind.i64.wrap (4 * (i:Int) + 1) = 4 * i + 1:=wrapI64 _ (by omega) (by omega)
    have w3:IntKind.i64.wrap (4 * (i:Int) + 2) = 4 * i + 2:=wrapI64 _ (by omega) (by omega)
    have w4:IntKind.i64.wrap (4 * (i:Int) + 3) = 4 * i + 3:=wrapI64 _ (by omega) (by omega)
    refine Xf (fun W0 hW0=>An4 (c1 _ hW0) (c2 _ hW0) (c3 _ hW0) (c4 _ hW0)) (An13 @w1 @w2 @w3 @w4 @t1 @t2 @t3 @t4 @conv_u8 @shl24 @shl16 @shl8 @wor) ?_
    have en:nextW b (sched b i) i = w8 (b[4 * i]?.getD 0) <<< 24 ||| w8 (b[4 * i + 1]?.getD 0) <<< 16 ||| w8 (b[4 * i + 2]?.getD 0) <<< 8 ||| w8 (b[4 * i + 3]?.getD 0):=by
     unfold nextW word
     rw [if_pos h16]
     simp only [List.getD_eq_getElem?_getD]
    rw [← en]
    refine arr_set sz_u32 rfl rfl hI.holds (by simp [schL_length b i hi,hi64]) (fun W hg2 hh=>?_)
    have hI2:=hI.set hgW hi64 hg2 hh
    exact ⟨hI2.below,hI2⟩
   ·refine Xa0 ?_
    have hI:=hI.drew
    refine ⟨fun w'=>w' = { w1 with drawn:=w1.drawn + 1 },rfl,?_⟩
    generalize ({ w1 with drawn:=w1.drawn + 1 }:World) = w2 at hI ⊢
    have hc:=hI.c hi
    have w1:IntKind.i64.wrap ((i:Int) - 15) = (i:Int) - 15:=wrapI64 _ (by omega) (by omega)
    have w2:IntKind.i64.wrap ((i:Int) - 2) = (i:Int) - 2:=wrapI64 _ (by omega) (by omega)
    have w3:IntKind.i64.wrap ((i:Int) - 16) = (i:Int) - 16:=wrapI64 _ (by omega) (by omega)
    have w4:IntKind.i64.wrap ((i:Int) - 7) = (i:Int) - 7:=wrapI64 _ (by omega) (by omega)
    have t1:((i:Int) - 15).toNat = i - 15:=by omega
    have t2:((i:Int) - 2).toNat = i - 2:=by omega
    have t3:((i:Int) - 16).toNat = i - 16:=by omega
    have t4:((i:Int) - 7).toNat = i - 7:=by omega
    have c1:=hc.two (i - 15) (by omega)
    have c2:=hc.two (i - 2) (by omega)
    refine Xg (An4 @t1 @t2 @c1 @c2) ?_
    repeat (any_goals (first
    | (with_reducible refine rot7 _ ?_) | (with_reducible refine rot18 _ ?_) | (with_reducible refine rot17 _ ?_) | (with_reducible refine rot19 _ ?_)
    | ((with_reducible refine oM_gen fun Kv hK=>?_); simp [go_sem,shr3,shr10,wxor]; refine hK _ _ ?_; clear hK Kv)))
    refine ⟨SchC b g w i,hI.drew.c hi,?_⟩
    have hI:=hI.drew
    repeat (any_goals (first
    | (with_reducible refine pureH_in ?_)
    | ((with_reducible refine idOH ?_); (with_reducible refine oH_of ⟨_,rfl⟩ (fun W0 hW0=>by (refine oM_gen (fun Kv hK=>?_)); simp [go_sem,w3,w4,t3,t4,hW0.two (i - 16) (by omega),hW0.two (i - 7) (by omega),wadd]; (first | exact hK _ _ ⟨rfl,rfl⟩ | exact ⟨by omega,hK _ _ ⟨rfl,rfl⟩⟩)) ?_))))
    have en:nextW b (sched b i) i = at' (sched b i) (i - 16) + sig0 (at' (sched b i) (i - 15)) + at' (sched b i) (i - 7) + sig1 (at' (sched b i) (i - 2)):=by
     unfold nextW
     rw [if_neg h16]
    unfold sig0 sig1 at en
    rw [← en]
    refine arr_set sz_u32 rfl rfl hI.holds (by simp [schL_length b i hi,hi64]) (fun W hg2 hh=>?_)
    have hI2:=hI.set hgW hi64 hg2 hh
    exact ⟨(hI2.c hi64).less,hI2⟩
  ·rintro l u w2 hI2
   refine Xa0 ?_
   refine ⟨⟨_,_,_,_,_,i + 1,rfl,hi64,hI2⟩,?_⟩
   simp only [schMu_eq]; omega
 ·obtain rfl:i = 64:=by omega
  refine Xa0 ?_
  have hh:=hI.holds
  have e64:schL b 64 = sched b 64:=by simp [schL]
  rw [e64] at hh
  have hl64:=sched_length b 64
  generalize sched b 64 = sl at *
  refine arr_load hh un_64 rfl (by rw [List.length_map,hl64]; kernel_rfl) ?_
  refine arr_store sz_64 (xs:=ws sl) rfl (by rw [List.length_map,hl64]) (ws_one _) hh (by rw [List.length_map,hl64]) (fun W hg2 hh=>?_)
  exact arr_ret hh un_64 rfl (by rw [List.length_map,hl64]; kernel_rfl) (k _ (grown_below hI.below hg2 hgW))
end
end Go.Proofs
namespace Go.Proofs
open Go Go.Sh Go.RowKit ShaSpec
section
variable {K:Value → World → Prop} {w:World}
theorem build8 (T:TypeId) (a b c d e f g h:W):oM Tryz.prog (Go.Op.build 202 #[(0,(.tmp 0)),(1,(.tmp 1)),(2,(.tmp 2)),(3,(.tmp 3)),(4,(.tmp 4)),(5,(.tmp 5)),(6,(.tmp 6)),(7,(.tmp 7))]) T [w32 a,w32 b,w32 c,w32 d,w32 e,w32 f,w32 g,w32 h] = pureM (stV ⟨a,b,c,d,e,f,g,h⟩):=by
 funext K w
 kernel_rfl
structure MixI (w0:World) (gh gr gs gt gv:Nat) (s:St) (sl:List W) (v:List W) (w':World):Prop where
 below:Below w0.heap.size w0 w'
 h:Holds w' gh 202 (ws s.list)
 r:∃ zs,zs.length = 8 ∧ Holds w' gr 202 zs
 sch:Holds w' gs 223 (ws sl)
 tab:Holds w' gt 223 (ws consts)
 v:Holds w' gv 202 (ws v)
variable {w0 w':World} {gh gr gs gt gv:Nat} {s:St} {sl v:List W}
theorem MixI.next {w2:World} (h:MixI w0 gh gr gs gt gv s sl v w') (hb:Below w'.heap.size w' w2):MixI w0 gh gr gs gt gv s sl v w2:=
 ⟨h.below.on hb,h.h.next hb,h.r.imp fun _ h=>⟨h.1,h.2.next hb⟩,h.sch.next hb,h.tab.next hb,h.v.next hb⟩
theorem MixI.drew (h:MixI w0 gh gr gs gt gv s sl v w'):MixI w0 gh gr gs gt gv s sl v { w' with drawn:=w'.drawn + 1 }:=h.next .drawn
structure Apart (n gh gr gs gt gv:Nat):Prop where
 h:gh ≠ gv
 r:gr ≠ gv
 s:gs ≠ gv
 t:gt ≠ gv
 v:n ≤ gv
 r0:n ≤ gr
theorem MixI.wrote {W2:World} {u:List W} (ha:Apart w0.heap.size gh gr gs gt gv) (h:MixI w0 gh gr gs gt gv s sl v w') (hg:w'.grownBy W2 (some gv)) (hh:Holds W2 gv 202 (ws u)):MixI w0 gh gr gs gt gv s sl u W2:=
 ⟨grown_below h.below hg ha.v,h.h.other hg ha.h,h.r.imp fun _ h=>⟨h.1,h.2.other hg ha.r⟩,h.sch.other hg ha.s,h.tab.other hg ha.t,hh⟩
theorem holds_at {g:Nat} {T:TypeId} {l:List W} (h:Holds w' g T (ws l)) (i:Nat) (hi:i < l.length):w'.cell? ⟨g,i,none⟩ = some (w32 (at' l i)):=by
 rw [h.cell i (by simpa using hi)]
 simp [at',List.getD_eq_getElem?_getD,hi]
def MixJ (w0:World) (gh gr gs gt gv:Nat) (s:St) (b:List UInt8) (sl:List W) (l:List Value) (w':World):Prop:=∃ (v0 v1 v2 v3 v4:Value) (k:Nat),l = [v0,v1,v2,v3,v4,.int .i64 (k:Int)] ∧ k ≤ 64 ∧ MixI w0 gh gr gs gt gv s sl (rounds b s k).list w'
def Zr (St:World → Prop) (j:Nat) (w':World):Prop:=j = 0 → St w'
theorem zGet {St:World → Prop} {w':World} (h:upto (Zr St) 0 w'):St w':=by
 obtain ⟨s,hs,hc⟩:=h
 exact hc (by omega)
def adL (v s:St) (i:Nat):List W:=(List.range 8).map fun j=>if j < i then at' v.list j + at' s.list j else at' v.list j
theorem adL_length (v s:St) (i:Nat):(adL v s i).length = 8:=by simp [adL]
theorem adL_at (v s:St) {i:Nat} (hi:i < 8):at' (adL v s i) i = at' v.list i:=by
 unfold adL
 conv=>lhs; unfold at'
 rw [List.getD_eq_getElem?_getD,List.getElem?_map,List.getElem?_range hi]
 simp [at',List.getD_eq_getElem?_getD]
theorem adL_set (v s:St) {i:Nat} (hi:i < 8):(adL v s i).set i (at' v.list i + at' s.list i) = adL v s (i + 1):=by
 unfold adL
 apply List.ext_getElem
 ·simp
 ·intro j h1 h2
  rw [List.getElem_set]
  simp only [List.getElem_map,List.getElem_range]
  by_cases hji:i = j
  ·subst hji; simp
  ·rw [if_neg hji]
   by_cases hlt:j < i
   ·rw [if_pos hlt,if_pos (by omega)]
   ·rw [if_neg hlt,if_neg (by omega)]
def AdJ (w0:World) (gh gr gs gt gv:Nat) (s:St) (sl:List W) (v:St) (l:List Value) (w':World):Prop:=∃ (v0:Value) (k:Nat),l = [v0,.int .i64 (k:Int)] ∧ k ≤ 8 ∧ MixI w0 gh gr gs gt gv s sl (adL v s k) w'
def adMu (l:List Value) (_:World):Nat:=match l with | [_,.int _ i]=>8 - i.toNat | _=>0
theorem adMu_eq (a:Value) (q:IntKind) (i:Int) (w:World):adMu [a,.int q i] w = 8 - i.toNat:=rfl
theorem rotQ6 {C:World → Prop} {KQ:Value → Prop} (x:W) (u:Unit) (k:KQ (w32 (rotr x 6))):callQ Tryz.prog 207 #[w32 x,.int .i64 (-6)] C KQ:=callQ_of (v:=w32 (rotr x 6)) (fun w hw=>rot6 x ⟨rfl,hw⟩) k
theorem rotQ11 {C:World → Prop} {KQ:Value → Prop} (x:W) (u:Unit) (k:KQ (w32 (rotr x 11))):callQ Tryz.prog 207 #[w32 x,.int .i64 (-11)] C KQ:=callQ_of (v:=w32 (rotr x 11)) (fun w hw=>rot11 x ⟨rfl,hw⟩) k
theorem rotQ25 {C:World → Prop} {KQ:Value → Prop} (x:W) (u:Unit) (k:KQ (w32 (rotr x 25))):callQ Tryz.prog 207 #[w32 x,.int .i64 (-25)] C KQ:=callQ_of (v:=w32 (rotr x 25)) (fun w hw=>rot25 x ⟨rfl,hw⟩) k
theorem rotQ2 {C:World → Prop} {KQ:Value → Prop} (x:W) (u:Unit) (k:KQ (w32 (rotr x 2))):callQ Tryz.prog 207 #[w32 x,.int .i64 (-2)] C KQ:=callQ_of (v:=w32 (rotr x 2)) (fun w hw=>rot2 x ⟨rfl,hw⟩) k
theorem rotQ13 {C:World → Prop} {KQ:Value → Prop} (x:W) (u:Unit) (k:KQ (w32 (rotr x 13))):callQ Tryz.prog 207 #[w32 x,.int .i64 (-13)] C KQ:=callQ_of (v:=w32 (rotr x 13)) (fun w hw=>rot13 x ⟨rfl,hw⟩) k
theorem rotQ22 {C:World → Prop} {KQ:Value → Prop} (x:W) (u:Unit) (k:KQ (w32 (rotr x 22))):callQ Tryz.prog 207 #[w32 x,.int .i64 (-22)] C KQ:=callQ_of (v:=w32 (rotr x 22)) (fun w hw=>rot22 x ⟨rfl,hw⟩) k
theorem schedule_ok' (b:List UInt8) {B o c:Nat} (hl:b.length = 64) (hb:ByR w B o b) (k:∀ sl w',sl = sched b 64 → Below w.heap.size w w' → K (.agg (ws sl).toArray) w'):callM Tryz.prog 205 #[.slice (some ⟨B,o,none⟩) 64 c] K w:=
 schedule_ok b hl hb fun w' h=>k _ w' rfl h
theorem mix_ok (s:St) (b:List UInt8) {B o c:Nat} (hl:b.length = 64) (hb:ByR w B o b) (k:∀ w',Below w.heap.size w w' → K (stV (mix s b)) w'):callM Tryz.prog 185 #[stV s,.slice (some ⟨B,o,none⟩) 64 c] K w:=by
 apply sh_185_ok
 unfold sh_185
 refine arr_box (cs:=ws s.list) rfl fun gh w1 hb1 hg1 h1=>?_
 refine arr_alloc al_words fun gr w2 hb2 hg2 h2=>?_
 refine schedule_ok' b hl ((hb.next hb1).next hb2) fun sl w3 hsl hb3=>?_
 refine table_ok fun w4 hb4=>?_
 refine arr_alloc al_64 fun gs w5 hb5 hg5 h5=>?_
 refine arr_alloc al_64 fun gt w6 hb6 hg6 h6=>?_
 have hl64:sl.length = 64:=by rw [hsl]; exact sched_length b 64
 refine arr_store sz_64 (xs:=ws (sl)) rfl (by rw [List.length_map,hl64]) (ws_one _) (h5.next hb6) rfl (fun w7 hg7 h7=>?_)
 have l5:=h5.lt
 have l2:=h2.lt
 have l1:=h1.lt
 have z2:=hb2.size
 have z3:=hb3.size
 have z4:=hb4.size
 have z5:=hb5.size
 have z6:=hb6.size
 have h6':=h6.other hg7 (show gt ≠ gs by omega)
 have z7:=hg7.size
 have l6:=h6.lt
 refine arr_store sz_64 (xs:=ws consts) rfl rfl (ws_one _) h6' rfl (fun w8 hg8 h8=>?_)
 have z8:=hg8.size
 have h7':=h7.other hg8 (show gs ≠ gt by omega)
 have q1:Holds w8 gh 202 (ws s.list):=(((((((h1.next hb2).next hb3).next hb4).next hb5).next hb6).other hg7 (by omega)).other hg8 (by omega))
 have q2:Holds w8 gr 202 (ws (List.replicate 8 0)):=((((((h2.next hb3).next hb4).next hb5).next hb6).other hg7 (by omega)).other hg8 (by omega))
 have qb:Below w.heap.size w w8:=grown_below (grown_below (((((hb1.on hb2).on hb3).on hb4).on hb5).on hb6) hg7 (by have:=hb1.size; omega)) hg8 (by have:=hb1.size; omega)
 refine arr_load q1 un_words rfl (by kernel_rfl) ?_
 refine arr_alloc al_words fun gv w9 hb9 hg9 h9=>?_
 refine arr_store sz_words (xs:=ws s.list) rfl rfl (ws_one _) h9 rfl (fun w10 hg10 h10=>?_)
 have hA:Apart w.heap.size gh gr gs gt gv:=by
  have:=hb1.size
  constructor <;> omega
 have hI:MixI w gh gr gs gt gv s (sl) s.list w10:=
  ⟨grown_below (qb.on hb9) hg10 hA.v,(q1.next hb9).other hg10 hA.h,⟨_,rfl,(q2.next hb9).other hg10 hA.r⟩,(h7'.next hb9).other hg10 hA.s,(h8.next hb9).other hg10 hA.t,h10⟩
 refine ⟨MixJ w gh gr gs gt gv s b sl,schMu,⟨_,_,_,_,_,0,rfl,by omega,hI⟩,?_⟩
 clear hI h10 hg10 h9 hb9 qb q2 q1 h7' z8 h8 hg8 l6 z7 h6' z6 z5 z4 z3 z2 l1 l2 l5 h7 hg7 h6 hb6 h5 hb5 hb4 hb3 h2 hb2 h1 hb1
 rintro _ _ w1 ⟨v0,v1,v2,v3,v4,i,rfl,hi,hI⟩
 by_cases hi64:i < 64
 ·have e1:rounds b s (i + 1) = round (rounds b s i) (at' consts i) (at' sl i):=by rw [hsl]; rfl
  obtain ⟨v',e2⟩:∃ v',v' = rounds b s (i + 1):=⟨_,rfl⟩
  rw [← e2] at e1
  generalize rounds b s i = v at *
  refine Xa0 ?_
  refine ⟨fun w'=>w' = { w1 with drawn:=w1.drawn + 1 },rfl,?_⟩
  have hI:=hI.drew
  generalize ({ w1 with drawn:=w1.drawn + 1 }:World) = w2 at hI ⊢
  have c4:w2.cell? ⟨gv,4,none⟩ = some (w32 v.e):=holds_at hI.v 4 (show (4:Nat) < 8 by decide)
  repeat (any_goals (first
  | (with_reducible refine rotQ6 _ () ?_) | (with_reducible refine rotQ11 _ () ?_) | (with_reducible refine rotQ25 _ () ?_) | (with_reducible refine rotQ2 _ () ?_) | (with_reducible refine rotQ13 _ () ?_) | (with_reducible refine rotQ22 _ () ?_)
  | (with_reducible first|refine And.intro (Eq.refl (α:=World) _) ?_|refine forall_one ?_)
  | ((with_reducible refine idOQ ?_); ((with_reducible refine oQ_one ?_ ?_); exact ⟨_,rfl⟩))
  | ((with_reducible refine oM_gen fun Kv hK=>?_); simp [go_sem,c4,wxor]; refine hK _ _ ?_; clear hK Kv)))
  have hI:=hI.drew
  clear c4
  refine ⟨fun w'=>w' = { w2 with drawn:=w2.drawn + 1 },rfl,?_⟩
  generalize ({ w2 with drawn:=w2.drawn + 1 }:World) = w3 at hI ⊢
  have c4:w3.cell? ⟨gv,4,none⟩ = some (w32 v.e):=holds_at hI.v 4 (show (4:Nat) < 8 by decide)
  have c5:w3.cell? ⟨gv,5,none⟩ = some (w32 v.f):=holds_at hI.v 5 (show (5:Nat) < 8 by decide)
  have c6:w3.cell? ⟨gv,6,none⟩ = some (w32 v.g):=holds_at hI.v 6 (show (6:Nat) < 8 by decide)
  have c7:w3.cell? ⟨gv,7,none⟩ = some (w32 v.h):=holds_at hI.v 7 (show (7:Nat) < 8 by decide)
  have ck:=holds_at hI.tab i (by rw [consts_length]; exact hi64)
  have cs:=holds_at hI.sch i (by rw [hl64]; exact hi64)
  refine Xg (An9 @c4 @c5 @c6 @c7 @ck @cs @wxor @wadd @wand) ?_
  clear c4 c5 c6 c7 ck cs
  have hI:=hI.drew
  refine ⟨fun w'=>w' = { w3 with drawn:=w3.drawn + 1 },rfl,?_⟩
  generalize ({ w3 with drawn:=w3.drawn + 1 }:World) = w4 at hI ⊢
  have c0:w4.cell? ⟨gv,0,none⟩ = some (w32 v.a):=holds_at hI.v 0 (show (0:Nat) < 8 by decide)
  have c1:w4.cell? ⟨gv,1,none⟩ = some (w32 v.b):=holds_at hI.v 1 (show (1:Nat) < 8 by decide)
  have c2:w4.cell? ⟨gv,2,none⟩ = some (w32 v.c):=holds_at hI.v 2 (show (2:Nat) < 8 by decide)
  have c3:w4.cell? ⟨gv,3,none⟩ = some (w32 v.d):=holds_at hI.v 3 (show (3:Nat) < 8 by decide)
  have c4:w4.cell? ⟨gv,4,none⟩ = some (w32 v.e):=holds_at hI.v 4 (show (4:Nat) < 8 by decide)
  have c5:w4.cell? ⟨gv,5,none⟩ = some (w32 v.f):=holds_at hI.v 5 (show (5:Nat) < 8 by decide)
  have c6:w4.cell? ⟨gv,6,none⟩ = some (w32 v.g):=holds_at hI.v 6 (show (6:Nat) < 8 by decide)
  repeat (any_goals (first
  | (with_reducible refine rotQ6 _ () ?_) | (with_reducible refine rotQ11 _ () ?_) | (with_reducible refine rotQ25 _ () ?_) | (with_reducible refine rotQ2 _ () ?_) | (with_reducible refine rotQ13 _ () ?_) | (with_reducible refine rotQ22 _ () ?_)
  | (with_reducible first|refine And.intro (Eq.refl (α:=World) _) ?_|refine forall_one ?_)
  | ((with_reducible refine idOQ ?_); ((with_reducible refine oQ_one ?_ ?_); exact ⟨_,rfl⟩))
  | ((with_reducible refine oM_gen fun Kv hK=>?_); simp [go_sem,c0,c1,c2,c3,c4,c5,c6,wxor,wadd,wand,wor,build8]; refine hK _ _ ?_; clear hK Kv)))
  refine arr_store sz_words (xs:=ws v'.list) (by rw [e1]; rfl) rfl (ws_one _) hI.v rfl (fun w5 hg5 h5=>?_)
  have hI:=hI.wrote hA hg5 h5
  refine Xa0 ?_
  refine ⟨⟨_,_,_,_,_,i + 1,rfl,hi64,by rw [← e2]; exact hI⟩,?_⟩
  simp only [schMu_eq]; omega
 ·obtain rfl:i = 64:=by omega
  have em:stV (mix s b) = .agg (ws (adL (rounds b s 64) s 8)).toArray:=rfl
  rw [em] at k
  clear em
  generalize rounds b s 64 = v at *
  refine Xa0 ?_
  refine ⟨AdJ w gh gr gs gt gv s sl v,adMu,⟨_,0,rfl,by omega,hI⟩,?_⟩
  clear hI
  rintro _ _ w2 ⟨v0,j,rfl,hj,hI⟩
  by_cases hj8:j < 8
  ·refine Xa0 ?_
   have hI:=hI.drew
   have cv:=holds_at hI.v j (by rw [adL_length]; exact hj8)
   have ch:=holds_at hI.h j (show j < 8 from hj8)
   rw [adL_at v s hj8] at cv
   refine ⟨Zr (fun w'=>w'.cell? ⟨gv,j,none⟩ = some (w32 (at' v.list j)) ∧ w'.cell? ⟨gh,j,none⟩ = some (w32 (at' s.list j))),fun _=>⟨cv,ch⟩,?_⟩
   repeat (any_goals (first
   | (with_reducible refine pureH_in ?_)
   | ((with_reducible refine idOH ?_); (with_reducible refine oH_of ⟨_,rfl⟩ (fun W0 hW0=>by (refine oM_gen (fun Kv hK=>?_)); simp [go_sem,(zGet hW0).1,(zGet hW0).2,wadd]; (first | exact hK _ _ ⟨rfl,rfl⟩ | exact ⟨by omega,hK _ _ ⟨rfl,rfl⟩⟩)) ?_))))
   refine arr_set sz_u32 rfl rfl hI.v (by simp [adL,hj8]) (fun W hg2 hh=>?_)
   refine ⟨fun h=>by omega,?_⟩
   have hI:=hI.wrote hA hg2 (u:=adL v s (j + 1)) (by rw [← adL_set v s hj8]; unfold ws at hh ⊢; rw [List.map_set]; exact hh)
   refine Xa0 ?_
   refine ⟨⟨_,j + 1,rfl,hj8,hI⟩,?_⟩
   simp only [adMu_eq]; omega
  ·obtain rfl:j = 8:=by omega
   refine Xa0 ?_
   refine arr_load hI.v un_words rfl (by kernel_rfl) ?_
   obtain ⟨zs,hz,hr⟩:=hI.r
   refine arr_store sz_words (xs:=ws (adL v s 8)) rfl rfl (ws_one _) hr hz (fun W hg2 hh=>?_)
   exact arr_ret hh un_words rfl (by kernel_rfl) (k _ (grown_below hI.below hg2 hA.r0))
end
end Go.Proofs
namespace Go.Proofs
open Go Go.Sh Go.RowKit ShaSpec
section
variable {K:Value → World → Prop} {w w0:World}
structure Buf (w0:World) (v:Value) (l:List UInt8) (w:World):Prop where
 below:Below w0.heap.size w0 w
 row:BufM w 5 v l
 own:∀ i,v.ownBlock = some i → w0.heap.size ≤ i
theorem Buf.next {v:Value} {l:List UInt8} {w':World} (h:Buf w0 v l w) (hb:Below w.heap.size w w'):Buf w0 v l w':=by
 refine ⟨h.below.on hb,h.row.keep (fun i hi=>?_),h.own⟩
 obtain ⟨g,c,rfl,hlt⟩:=h.row.shape
 cases hi
 exact hb.block g hlt
def lo8 (x:W):UInt8:=UInt8.ofNat x.toNat
theorem conv_w8 (T:TypeId) (x:W):oM Tryz.prog (.convert 200 5 (.tmp 0)) T [w32 x] = pureM (.int .u8 ((lo8 x).toNat:Int)):=by
 unfold lo8
 funext K w
 have e:IntKind.u8.wrap (x.toNat:Int) = ((UInt8.ofNat x.toNat).toNat:Int):=by
  rw [IntKind.wrap_u8,UInt8.toNat_ofNat']
  omega
 have e2:(convert 200 5 (w32 x)).run Tryz.prog w = .ok (.int .u8 (IntKind.u8.wrap (x.toNat:Int))) w:=by kernel_rfl
 rw [oM_convert,e2,e]
 rfl
theorem idx_st (T:TypeId) (s:St) (i:Nat) (hi:i < 8):oM Tryz.prog (.index 202 (.tmp 0) (.tmp 1)) T [stV s,.int .i64 (i:Int)] = pureM (w32 (at' s.list i)):=by
 have e:∀ w,(Instr.index 202 (stV s) (.int .i64 (i:Int))).run Tryz.prog w = .ok (w32 (at' s.list i)) w:=by
  intro w
  rcases i with _ | _ | _ | _ | _ | _ | _ | _ | i
  all_goals first | omega | kernel_rfl
 funext K w
 rw [rM_of (S:=Instr.index 202 (stV s) (.int .i64 (i:Int))) rfl,e]
 rfl
theorem mkB4 {T:TypeId} (a b c d:UInt8) (k:∀ g W,Below w.heap.size w W → (∀ j u,(Lib.byteCells [a,b,c,d])[j]? = some u → W.cell? ⟨g,j,none⟩ = some u) → K (.slice (some ⟨g,0,none⟩) 4 4) W) :
  oM Tryz.prog (.buildSlice 181 4 #[(0,.tmp 0),(1,.tmp 1),(2,.tmp 2),(3,.tmp 3)]) T [.int .u8 (a.toNat:Int),.int .u8 (b.toNat:Int),.int .u8 (c.toNat:Int),.int .u8 (d.toNat:Int)] K w:=by
 have e:(Instr.buildSlice 181 4 #[(0,.int .u8 (a.toNat:Int)),(1,.int .u8 (b.toNat:Int)),(2,.int .u8 (c.toNat:Int)),(3,.int .u8 (d.toNat:Int))]).run Tryz.prog w = .ok (.slice (some ⟨w.heap.size,0,none⟩) 4 4) (w.alloc (.cells (Lib.byteCells [a,b,c,d]).toArray 5)):=by kernel_rfl
 rw [rM_of (S:=Instr.buildSlice 181 4 #[(0,.int .u8 (a.toNat:Int)),(1,.int .u8 (b.toNat:Int)),(2,.int .u8 (c.toNat:Int)),(3,.int .u8 (d.toNat:Int))]) (by simp [xop,execOp,evalL,evE]),e]
 refine k _ _ ((Below.refl _ w).alloc (Nat.le_refl _) _) (fun j u hj=>?_)
 have:=World.cell?_alloc_at (w:=w) (Lib.byteCells [a,b,c,d]).toArray 5 w.heap.size j rfl
 rw [this]
 simpa using hj
abbrev OwnB (w:World) (B:Nat) (v:Value) (l:List UInt8):Prop:=w.ownsRow B 5 1 v l.length (Lib.byteCells l)
theorem pushW {B:Nat} {T T':TypeId} {v:Value} {l:List UInt8} (a b c d:UInt8) (ho:OwnB w B v l) (hB:B ≤ w.heap.size) (hl:l.length < 1099511627776) (k:∀ v' w',OwnB w' B v' (l ++ [a,b,c,d]) → Below B w w' → K v' w') :
  oM Tryz.prog (.buildSlice 181 4 #[(0,.tmp 0),(1,.tmp 1),(2,.tmp 2),(3,.tmp 3)]) T [.int .u8 (a.toNat:Int),.int .u8 (b.toNat:Int),.int .u8 (c.toNat:Int),.int .u8 (d.toNat:Int)] (fun u w=>oM Tryz.prog (.call { callee:=.builtin .append,args:=#[.tmp 0,.tmp 1],argTypes:=#[181,181] }) T' [v,u] K w) w:=by
 refine mkB4 a b c d fun g W hb hc=>?_
 have ho2:OwnB W B v l:=owns_keep ho (fun i hi=>hb.block i (owns_own ho hi).1)
 refine append_at 181 T' 5 ((Tryz.prog.info? 5).getD default) (.int .u8 0) 1 1 (by kernel_rfl) (by kernel_rfl) (by kernel_rfl) (by kernel_rfl) (by kernel_rfl) (by kernel_rfl) (by omega) (owns_base ho2 (Nat.zero_le _)) (Lib.byteCells [a,b,c,d]) rfl (by simp) ?_ ?_ (by simp only [maxLen]; omega) (by omega) ?_
 ·rintro ad ha j u hj
  cases ha
  rw [add_none,Nat.zero_add]
  exact hc j u hj
 ·intro u hu
  simp only [Lib.byteCells,List.mem_map] at hu
  obtain ⟨x,_,rfl⟩:=hu
  rfl
 ·intro v' w' ho' hg hv
  have hbl:∀ i,v.ownBlock = some i → B ≤ i:=fun i hi=>(owns_own ho hi).2.1
  have hBW:=Nat.le_trans hB hb.size
  refine k v' w' ?_ ((hb.mono hB).grown hg hBW hbl)
  have e2:Lib.byteCells (l ++ [a,b,c,d]) = Lib.byteCells l ++ Lib.byteCells [a,b,c,d]:=by simp [Lib.byteCells]
  show w'.ownsRow B 5 1 v' (l ++ [a,b,c,d]).length (Lib.byteCells (l ++ [a,b,c,d]))
  rw [List.length_append,e2]
  refine ⟨ho'.1,ho'.2.imp id ?_⟩
  rintro ⟨g,cap,cur,rfl,hb',hr⟩
  exact ⟨g,cap,cur,rfl,(hv g rfl).elim (hbl g) (fun h=>Nat.le_trans hBW h),hr⟩
theorem toStrB {B:Nat} {T:TypeId} {v:Value} {l:List UInt8} (ho:OwnB w B v l) (hne:0 < l.length) (k:K (.string ⟨l.toArray⟩) w):oM Tryz.prog (.convert 181 9 (.tmp 0)) T [v] K w:=by
 obtain ⟨g,cap,cur,rfl,hlt,_,_,_,_,hc⟩:=owns_cells ho hne
 have:=run_convert_bytes_back (P:=Tryz.prog) w 181 9 5 ⟨g,0,none⟩ cap l (by kernel_rfl) (by kernel_rfl) (by kernel_rfl) (fun j hj=>by
  rw [add_none,Nat.zero_add]
  exact hc j _ (by simp [Lib.byteCells,hj]))
 rw [rM_of (S:=convert 181 9 (.slice (some ⟨g,0,none⟩) l.length cap)) rfl,this]
 exact k
theorem sliceTo64 {T:TypeId} {a:Option Addr} {n c:Nat} (hc:64 ≤ c) (k:K (.slice a 64 c) w):oM Tryz.prog (.slice 181 (.tmp 0) none (some (.tmp 1)) none) T [.slice a n c,.int .i64 64] K w:=
 sliceTo_at (by kernel_rfl) (sz:=1) (fun w=>by kernel_rfl) 64 hc k
theorem sliceFrom64 {T:TypeId} {g o n c:Nat} (hn:64 ≤ n) (hc:n ≤ c) (k:∀ ad,(64 < c → ad = some ⟨g,o + 64,none⟩) → K (.slice ad (n - 64) (c - 64)) w):oM Tryz.prog (.slice 181 (.tmp 0) (some (.tmp 1)) none none) T [.slice (some ⟨g,o,none⟩) n c,.int .i64 64] K w:=by
 have hs:∀ w,(sizeOf (Tryz.prog.elem 181)).run Tryz.prog w = .ok 1 w:=fun w=>by kernel_rfl
 rw [oM_sliceFrom,run_sliceAt_slice w 181 _ _ _ _ (by kernel_rfl),run_slice_l w 181 _ n c (by kernel_rfl) .i64 64 (by omega) (by omega),hs]
 simp only [Result.andThen_ok,sliced]
 refine k _ (fun h=>?_)
 rw [if_neg (show ¬ c = (64:Int).toNat by show ¬ c = 64; omega)]
 rfl
theorem ofStr (l:List UInt8) {T:TypeId} (k:∀ v w',Buf w v l w' → K v w'):oM Tryz.prog (.convert 9 181 (.tmp 0)) T [.string ⟨l.toArray⟩] K w:=by
 refine ofStr_at (e:=5) (by kernel_rfl) (by kernel_rfl) (by kernel_rfl) l (fun v w' hb hg ho hs=>k v w' ⟨(Below.refl _ _).grown hg (Nat.le_refl _) (fun i hi=>by cases hi),hb,fun i hi=>?_⟩)
 rw [ho] at hi
 cases hi
 exact Nat.le_refl _
theorem mkB1 {T:TypeId} (x:UInt8) (k:∀ g W,Below w.heap.size w W → W.cell? ⟨g,0,none⟩ = some (.int .u8 (x.toNat:Int)) → K (.slice (some ⟨g,0,none⟩) 1 1) W):oM Tryz.prog (.buildSlice 181 1 #[(0,.tmp 0)]) T [.int .u8 (x.toNat:Int)] K w:=by
 rw [oM_buildSlice1]
 have e:(Instr.buildSlice 181 1 #[(0,.int .u8 (x.toNat:Int))]).run Tryz.prog w = .ok (.slice (some ⟨w.heap.size,0,none⟩) 1 1) (w.alloc (.cells #[.int .u8 (x.toNat:Int)] 5)):=by kernel_rfl
 rw [e]
 refine k _ _ ((Below.refl _ w).alloc (Nat.le_refl _) _) ?_
 have:=World.cell?_alloc_at (w:=w) #[.int .u8 (x.toNat:Int)] 5 w.heap.size 0 rfl
 rw [this]
 rfl
theorem push {T T':TypeId} {v:Value} {l:List UInt8} (x:UInt8) {n:Int} (hx:n = (x.toNat:Int)) (h:Buf w0 v l w) (hl:l.length + 1 ≤ 1099511627776) (k:∀ v' w',Buf w0 v' (l ++ [x]) w' → K v' w') :
  oM Tryz.prog (.buildSlice 181 1 #[(0,.tmp 0)]) T [.int .u8 n] (fun u w=>oM Tryz.prog (.call { callee:=.builtin .append,args:=#[.tmp 0,.tmp 1],argTypes:=#[181,181] }) T' [v,u] K w) w:=by
 subst hx
 refine mkB1 x fun g W hb hc=>?_
 have h:=h.next hb
 refine pushB_at (e:=5) (i:=(Tryz.prog.info? 5).getD default) (by kernel_rfl) (by kernel_rfl) (by kernel_rfl) (by kernel_rfl) (by kernel_rfl) h.row hc hl (fun v' w' hb' hg hv=>k v' w' ⟨h.below.grown hg h.below.size h.own,hb',fun i hi=>?_⟩)
 rcases hv with hv | ⟨g',hv,hlt⟩
 ·exact h.own i (by rw [← hv]; exact hi)
 ·rw [hv] at hi
  cases hi
  exact Nat.le_trans h.below.size hlt
theorem bufByR {g n c:Nat} {l:List UInt8} (h:BufM w 5 (.slice (some ⟨g,0,none⟩) n c) l):ByR w g 0 l:=by
 obtain ⟨g',cap,cur,fz,hv,hg,hfz,hcs,hlc,hcell⟩:=h
 cases hv
 refine ⟨(Array.getElem?_eq_some_iff.1 hg).1,fun i hi=>?_⟩
 rw [Nat.zero_add,cell_of_block hg,hcell i hi]
 simp [List.getD_eq_getElem?_getD,hi]
theorem bufCap {g n c:Nat} {l:List UInt8} {v:Value} (h:BufM w 5 v l) (e:v = .slice (some ⟨g,0,none⟩) n c):l.length ≤ c:=by
 obtain ⟨g',cap,cur,fz,hv,hg,hfz,hcs,hlc,hcell⟩:=h
 rw [e] at hv
 cases hv
 exact hlc
theorem ByR.other {b o g:Nat} {l:List UInt8} {w':World} (h:ByR w b o l) (hg:w.grownBy w' (some g)) (hne:b ≠ g):ByR w' b o l:=
 ⟨Nat.lt_of_lt_of_le h.1 hg.size,fun i hi=>by
  rw [← h.2 i hi]
  unfold World.cell?
  rw [hg.block b h.1 (fun e=>hne (by cases e; rfl))]⟩
theorem ByR.part {b o:Nat} {l:List UInt8} (h:ByR w b o l) (i n:Nat) (hn:i + n ≤ l.length):ByR w b (o + i) ((l.drop i).take n):=by
 refine ⟨h.1,fun j hj=>?_⟩
 have hj':j < n:=by rw [List.length_take,List.length_drop] at hj; omega
 rw [Nat.add_assoc,h.2 (i + j) (by omega)]
 congr 3
 rw [List.getD_eq_getElem?_getD,List.getD_eq_getElem?_getD,List.getElem?_take_of_lt hj',List.getElem?_drop]
def BkJ (w0:World) (g gb:Nat) (p:List UInt8) (m:Nat) (R:St) (l:List Value) (w':World):Prop:=
 ∃ (ad:Option Addr) (c t:Nat) (st:St),l = [.slice ad (64 * (m - t)) c] ∧ t ≤ m ∧ 64 * (m - t) ≤ c ∧ (t < m → ad = some ⟨gb,64 * t,none⟩) ∧ Below w0.heap.size w0 w' ∧ ByR w' gb 0 p ∧ Holds w' g 202 (ws st.list) ∧ blocks (m - t) st (p.drop (64 * t)) = R
def bkMu (l:List Value) (_:World):Nat:=match l with | [.slice _ m _]=>m | _=>0
theorem bkMu_eq (m c:Nat) (a:Option Addr) (w:World):bkMu [.slice a m c] w = m:=rfl
def outL (st:St) (i:Nat):List UInt8:=((st.list.take i).map out1).flatten
theorem outL_length (st:St) (i:Nat) (hi:i ≤ 8):(outL st i).length = 4 * i:=by
 unfold outL St.list
 rcases i with _ | _ | _ | _ | _ | _ | _ | _ | _ | i
 all_goals first | omega | rfl
theorem out1_eq (x:W):out1 x = [lo8 (x >>> 24),lo8 (x >>> 16),lo8 (x >>> 8),lo8 x]:=by
 simp only [out1,lo8,BitVec.toNat_ushiftRight,Nat.shiftRight_eq_div_pow]
theorem outL_next (st:St) (i:Nat) (hi:i < 8):outL st (i + 1) = outL st i ++ [lo8 (at' st.list i >>> 24),lo8 (at' st.list i >>> 16),lo8 (at' st.list i >>> 8),lo8 (at' st.list i)]:=by
 rw [← out1_eq]
 unfold outL
 have hl:i < st.list.length:=hi
 rw [List.take_add_one,List.getElem?_eq_getElem hl,List.map_append,List.flatten_append]
 simp [at',List.getD_eq_getElem?_getD,hl]
def OutJ (w0:World) (st:St) (l:List Value) (w':World):Prop:=∃ (u v:Value) (i:Nat),l = [u,v,.int .i64 (i:Int)] ∧ i ≤ 8 ∧ OwnB w' w0.heap.size v (outL st i) ∧ Below w0.heap.size w0 w'
def outMu (l:List Value) (_:World):Nat:=match l with | [_,_,.int _ i]=>8 - i.toNat | _=>0
theorem outMu_eq (a b:Value) (q:IntKind) (i:Int) (w:World):outMu [a,b,.int q i] w = 8 - i.toNat:=rfl
def ZeJ (w0:World) (s:List UInt8) (l:List Value) (w':World):Prop:=∃ v j,l = [v] ∧ j ≤ zeros s.length ∧ Buf w0 v (s ++ [128] ++ List.replicate j 0) w'
theorem sha_len (s:List UInt8) (j:Nat):(s ++ [(128:UInt8)] ++ List.replicate j 0).length = s.length + 1 + j:=by simp; omega
def zeMu (n:Nat) (l:List Value) (_:World):Nat:=match l with | [.slice _ m _]=>n - m | _=>0
theorem zeMu_eq (n m c:Nat) (a:Option Addr) (w:World):zeMu n [.slice a m c] w = n - m:=rfl
def LeJ (w0:World) (s:List UInt8) (l:List Value) (w':World):Prop:=∃ (v:Value) (j:Nat),l = [v,.int .i64 (56 - 8 * (j:Int))] ∧ j ≤ 8 ∧ Buf w0 v (s ++ [128] ++ List.replicate (zeros s.length) 0 ++ (lenBytes s.length).take j) w'
def leMu (l:List Value) (_:World):Nat:=match l with | [_,.int _ i]=>(i + 8).toNat | _=>0
theorem leMu_eq (a:Value) (q:IntKind) (i:Int) (w:World):leMu [a,.int q i] w = (i + 8).toNat:=rfl
theorem lenByte (n j:Nat) (hj:j < 8) (hn:n < 1099511627776):(IntKind.u8.wrap (8 * (n:Int) / 2 ^ (56 - 8 * (j:Int)).toNat)) = (((lenBytes n).getD j 0).toNat:Int):=by
 have e1:8 * (n:Int) = ((8 * n:Nat):Int):=by omega
 have e2:(56 - 8 * (j:Int)).toNat = 8 * (7 - j):=by omega
 have e3:(lenBytes n).getD j 0 = UInt8.ofNat (8 * n / 2 ^ (8 * (7 - j))):=by
  unfold lenBytes
  rcases j with _ | _ | _ | _ | _ | _ | _ | _ | j <;> first | rfl | omega
 rw [e1,e2,e3,IntKind.wrap_u8,UInt8.toNat_ofNat']
 generalize 8 * (7 - j) = q
 have:((8 * n:Nat):Int) / 2 ^ q = ((8 * n / 2 ^ q:Nat):Int):=by
  rw [Int.natCast_ediv,Int.natCast_pow]; rfl
 rw [this]
 omega
theorem take_next (l:List UInt8) (j:Nat) (hj:j < l.length):l.take (j + 1) = l.take j ++ [l.getD j 0]:=by
 rw [List.take_add_one,List.getD_eq_getElem?_getD,List.getElem?_eq_getElem hj]
 rfl
theorem Sha_ok (s:List UInt8) (hs:s.length ≤ 1000000000) (k:∀ w',Below w.heap.size w w' → K (.string ⟨(sha s).toArray⟩) w'):callM Tryz.prog 144 #[.string ⟨s.toArray⟩] K w:=by
 apply sh_144_ok
 unfold sh_144
 refine ofStr s fun v1 w1 h1=>?_
 refine push 128 rfl h1 (by omega) (fun v2 w2 h2=>?_)
 refine ⟨ZeJ w s,zeMu (s.length + 1 + zeros s.length),⟨_,0,rfl,by omega,by simpa using h2⟩,?_⟩
 clear h2 w2 v2 h1 w1 v1
 rintro _ _ w1 ⟨v1,j,rfl,hj,h1⟩
 obtain ⟨g1,c1,rfl,hlt1⟩:=h1.row.shape
 have hz:zeros s.length < 64:=by unfold zeros; omega
 by_cases hjz:j < zeros s.length
 ·have hm:¬ ((s.length:Int) + 1 + (j:Int)).tmod 64 = 56:=by
   rw [Int.tmod_eq_emod_of_nonneg (by omega)]; unfold zeros at hjz; omega
  rw [sha_len] at *
  repeat (any_goals (first
  | ((with_reducible refine push 0 rfl h1 (by rw [sha_len]; omega) ?_); intro v2 w2 h2)
  | (with_reducible refine yL ?_)
  | ((with_reducible refine oM_gen fun Kv hK=>?_); simp [go_sem,hm]; refine hK _ _ ?_; clear hK Kv)))
  have e:s ++ [(128:UInt8)] ++ List.replicate j 0 ++ [0] = s ++ [128] ++ List.replicate (j + 1) 0:=by
   simp [List.replicate_succ',List.append_assoc]
  rw [e] at h2
  obtain ⟨g2,c2,rfl,hlt2⟩:=h2.row.shape
  refine ⟨⟨_,j + 1,rfl,hjz,h2⟩,?_⟩
  rw [sha_len]
  simp only [zeMu_eq]; omega
 ·obtain rfl:j = zeros s.length:=by omega
  have hm:((s.length:Int) + 1 + (zeros s.length:Int)).tmod 64 = 56:=by
   rw [Int.tmod_eq_emod_of_nonneg (by omega)]; unfold zeros; omega
  rw [sha_len] at *
  refine Xa @hm ?_
  refine ⟨LeJ w s,leMu,⟨_,0,rfl,by omega,by simpa using h1⟩,?_⟩
  clear h1 hlt1 hm
  rintro _ _ w1 ⟨v1,j,rfl,hj,h1⟩
  have hle:(s ++ [(128:UInt8)] ++ List.replicate (zeros s.length) 0 ++ (lenBytes s.length).take j).length = s.length + 1 + zeros s.length + j:=by
   rw [List.length_append,sha_len,List.length_take,lenBytes_length]; omega
  by_cases hj8:j < 8
  ·have hq:IntKind.u64.wrap (s.length:Int) = (s.length:Int):=wrapU64 _ (by omega) (by omega)
   have hsh:=fun t t' T x=>oM_shr64 (P:=Tryz.prog) t t' T .i64 x (56 - 8 * (j:Int)) (by omega) (by omega)
   repeat (any_goals (first
   | ((with_reducible refine push ((lenBytes s.length).getD j 0) (lenByte _ _ hj8 (by omega)) h1 (by omega) ?_); intro v2 w2 h2)
   | (with_reducible refine yN ?_)
   | ((with_reducible refine oM_gen fun Kv hK=>?_); simp [go_sem,hq,hsh]; (try simp (disch:=omega) only [wrapI64,wrapU8,wrapU32,wrapU64]); refine hK _ _ ?_; clear hK Kv)))
   refine ⟨⟨_,j + 1,by rw [show 56 - 8 * (j:Int) - 8 = 56 - 8 * ((j + 1:Nat):Int) by omega],hj8,?_⟩,?_⟩
   ·rw [take_next _ _ (by rw [lenBytes_length]; exact hj8),← List.append_assoc]
    exact h2
   ·simp only [leMu_eq]; omega
  ·obtain rfl:j = 8:=by omega
   rw [List.take_of_length_le (by rw [lenBytes_length]; omega)] at h1 hle
   have hpad:s ++ [(128:UInt8)] ++ List.replicate (zeros s.length) 0 ++ lenBytes s.length = padded s:=rfl
   rw [hpad] at h1 hle
   have hp64:=padded_length s
   obtain ⟨m,hm⟩:∃ m,(padded s).length = 64 * m:=⟨(padded s).length / 64,by omega⟩
   refine Xa0 ?_
   refine first_ok fun w2 hb2=>?_
   have h2:=h1.next hb2
   refine arr_alloc al_words fun g w3 hb3 hg3 h3=>?_
   have h4:=h2.next hb3
   obtain ⟨gb,c,rfl,hlt⟩:=h2.row.shape
   refine arr_store sz_words (xs:=ws first.list) rfl rfl (ws_one _) h3 rfl (fun w4 hg4 hh=>?_)
   have zb:=h1.below.size
   have hby:=(bufByR h4.row).other hg4 (by omega)
   have hbw:Below w.heap.size w w4:=grown_below h4.below hg4 (by have:=hb2.size; have:=h2.below.size; omega)
   have ef:sha s = ((blocks m first (padded s)).list.map out1).flatten:=by
    unfold sha
    rw [hm,Nat.mul_div_cancel_left m (by omega)]
   refine ⟨BkJ w g gb (padded s) m (blocks m first (padded s)),bkMu,⟨_,_,0,first,by rw [hm]; rfl,by omega,by have:=bufCap h4.row rfl; omega,fun _=>rfl,hbw,hby,hh,rfl⟩,?_⟩
   have hgw:w.heap.size ≤ g:=Nat.le_trans h2.below.size hg3
   have hgb:gb ≠ g:=by omega
   clear hh hby hbw hg4 h4 hlt h3 hg3 hb3 h2 hb2 h1 zb w4 w3 w2
   rintro _ _ w2 ⟨ad,c,t,st,rfl,ht,hc,had,hbw,hby,hh,hbl⟩
   by_cases htm:t < m
   ·obtain ⟨r,hr⟩:∃ r,m - t = r + 1:=⟨m - t - 1,by omega⟩
    obtain rfl:=had htm
    rw [hr] at hbl hc ⊢
    refine Xa0 ?_
    refine ⟨Zr (fun w'=>w' = { w2 with drawn:=w2.drawn + 1 }),fun _=>rfl,?_⟩
    have hh:=hh.next (.drawn (B:=w2.heap.size))
    have hby:=hby.next (.drawn (B:=w2.heap.size))
    have hbw:=hbw.on (.drawn (B:=w2.heap.size))
    generalize ({ w2 with drawn:=w2.drawn + 1 }:World) = w3 at hh hby hbw ⊢
    refine oH_of (v:=stV st) ⟨_,rfl⟩ (fun W0 hW0=>by
     obtain rfl:=zGet hW0
     exact arr_load hh un_words rfl (by kernel_rfl) ⟨rfl,rfl⟩) ?_
    refine pureH_in ?_
    refine oH_of (v:=.slice (some ⟨gb,64 * t,none⟩) 64 c) ⟨_,rfl⟩ (fun W0 hW0=>sliceTo64 (by omega) ⟨rfl,rfl⟩) ?_
    have hpart:=hby.part (64 * t) 64 (by omega)
    rw [Nat.zero_add] at hpart
    refine mix_ok st _ (by rw [List.length_take,List.length_drop]; omega) hpart (fun w4 hb4=>?_)
    refine ⟨fun h=>by omega,?_⟩
    refine arr_store sz_words (xs:=ws (mix st _).list) rfl rfl (ws_one _) (hh.next hb4) rfl (fun w5 hg5 hh5=>?_)
    refine ⟨fun h=>by omega,?_⟩
    refine sliceFrom64 (by omega) (by omega) (fun ad' had'=>?_)
    have e1:64 * (r + 1) - 64 = 64 * (m - (t + 1)):=by omega
    rw [e1]
    refine ⟨⟨ad',c - 64,t + 1,_,rfl,by omega,by omega,fun h=>had' (by omega),grown_below (hbw.on hb4) hg5 hgw,(hby.next hb4).other hg5 hgb,hh5,?_⟩,?_⟩
    ·rw [show m - (t + 1) = r by omega,← hbl]
     show _ = blocks r (mix st ((List.drop (64 * t) (padded s)).take 64)) ((List.drop (64 * t) (padded s)).drop 64)
     rw [List.drop_drop,show 64 * t + 64 = 64 * (t + 1) by omega]
    ·simp only [bkMu_eq]; omega
   ·obtain rfl:t = m:=by omega
    rw [Nat.sub_self] at hbl ⊢
    refine Xa0 ?_
    refine arr_load hh un_words rfl (by kernel_rfl) ?_
    have hst:st = blocks t first (padded s):=hbl
    rw [← hst] at ef
    refine ⟨OutJ w st,outMu,⟨_,_,0,rfl,by omega,⟨rfl,.inl ⟨rfl,rfl⟩⟩,hbw⟩,?_⟩
    rintro _ _ w3 ⟨u3,v3,i,rfl,hi,ho,hb3⟩
    by_cases hi8:i < 8
    ·have hix:=fun T=>idx_st T st i hi8
     repeat (any_goals (first
     | ((with_reducible refine pushW _ _ _ _ ho hb3.size (by have:=outL_length st i hi; omega) ?_); intro v4 w4 ho4 hb4)
     | (with_reducible refine yN ?_)
     | ((with_reducible refine oM_gen fun Kv hK=>?_); simp [go_sem,hix,shr24,shr16,shr8,conv_w8]; (try simp (disch:=omega) only [wrapI64,wrapU8,wrapU32,wrapU64]); refine hK _ _ ?_; clear hK Kv)))
     rw [← outL_next st i hi8] at ho4
     refine ⟨⟨_,_,i + 1,rfl,hi8,ho4,hb3.trans hb4⟩,?_⟩
     simp only [outMu_eq]; omega
    ·obtain rfl:i = 8:=by omega
     have e8:outL st 8 = sha s:=by rw [ef]; rfl
     repeat (any_goals (first
     | ((with_reducible refine toStrB ho (by rw [outL_length st 8 (by omega)]; omega) ?_))
     | (with_reducible refine yM ?_)
     | ((with_reducible refine oM_gen fun Kv hK=>?_); simp [go_sem]; refine hK _ _ ?_; clear hK Kv)))
     rw [e8]
     exact k _ hb3
end
end Go.Proofs
namespace TkSpec
open FdSpec CodeSpec
def numStep (n:Int) (out:Int) (b:UInt8):Int:=addM n (mulM n out 256) (b.toNat:Int)
def numberM (s:List UInt8) (n:Int):Int:=if okN n then (ShaSpec.sha s).foldl (numStep n) 0 else 0
def innL (t:Tkt):List Int:=[t.mark,t.first,t.z,t.a,t.b]
def innerQ (s:Stp) (t:Tkt):Int:=numberM (encNums (innL t)) s.g.Q
def askTkt (s:Stp) (attrs:List Int) (o:Off) (b:Bld):Tkt:=
 ⟨powerG s.g (usableM s attrs).1 b.s,(prodG s.g s.bases b.ys).1,powerG s.g o.z b.s,timesM s (powerG s.g o.a b.u) [genM s b.v],
  timesM s (powerG s.g o.b (mulQ s b.s [b.u])) [powerG s.g (powerG s.g (usableM s attrs).1 b.s) b.v],0⟩
def askC (s:Stp) (attrs:List Int) (o:Off) (b:Bld):Int:=overQ s (innerQ s (askTkt s attrs o b)) b.u
def signedM (s:Stp) (key m c r:Int) (o:Off):Bool:=
 decide (genM s r = timesM s (powerG s.g key c) [o.a]) && decide (powerG s.g m r = timesM s (powerG s.g o.z c) [o.b])
end TkSpec
namespace Go.Proofs
open Go Go.Sh Go.RowKit FdSpec TkSpec CodeSpec
section
variable {K:Value → World → Prop} {w w0:World} {L:List (Addr × Value)}
def NuJ (n R:Int) (d:List UInt8) (w0:World) (l:List Value) (w':World):Prop:=Below w0.heap.size w0 w' ∧ ∃ (v:Value) (o:Int) (i:Nat),l = [v,.int .i64 o,.int .i64 (i:Int)] ∧ i ≤ d.length ∧ (d.drop i).foldl (numStep n) o = R
theorem Number_ok (s:List UInt8) (n:Int) (hs:s.length ≤ 1000000000) (k:∀ w',Below w.heap.size w w' → K (.int .i64 (numberM s n)) w'):callM Tryz.prog 94 #[.string ⟨s.toArray⟩,.int .i64 n] K w:=by
 apply sh_94_ok
 unfold sh_94
 unfold numberM at k
 refine valid_ok n ?_
 by_cases hn:okN n
 ·rw [if_pos hn] at k
  refine Xa0 ?_
  refine Sha_ok s hs (fun w1 h1=>?_)
  have hl:=ShaSpec.sha_length s
  generalize ShaSpec.sha s = d at *
  refine ofStr d fun v w2 h2=>?_
  obtain ⟨g,c,rfl,hlt⟩:=h2.row.shape
  have hby:=bufByR h2.row
  have hb:=h1.on h2.below
  refine Xa0 ?_
  refine ⟨NuJ n (d.foldl (numStep n) 0) d w2,vsMu d.length,⟨Below.refl _ _,_,_,0,rfl,by omega,rfl⟩,?_⟩
  rintro _ _ w3 ⟨h3,v,o,i,rfl,hi,hf⟩
  by_cases hin:i < d.length
  ·have hc:=(hby.next h3).2 i hin
   rw [Nat.zero_add] at hc
   have e1:d[i]?.getD 0 = d[i]:=by simp [hin]
   have hu:=(d[i]).toNat_lt
   rw [List.getD_eq_getElem?_getD,e1] at hc
   refine Xa @hc ?_
   refine Mul_ok n o 256 (fun w4 h4=>?_)
   refine Xa0 ?_
   refine Add_ok n _ _ ?_
   refine Xa0 ?_
   rw [List.drop_eq_getElem_cons hin,List.foldl_cons] at hf
   refine ⟨⟨h3.on h4,_,_,i + 1,rfl,by omega,hf⟩,?_⟩
   simp only [vsMu_eq]; omega
  ·rw [List.drop_of_length_le (by omega),List.foldl_nil] at hf
   refine Xa0 ?_
   rw [hf]
   exact k _ (hb.on h3)
 ·rw [if_neg hn] at k
  refine Xa0 ?_
  exact k _ (Below.refl _ _)
theorem innL_all {t:Tkt} (h:TktR t):∀ n ∈ innL t,I64 n:=by
 intro n hn
 simp only [innL,List.mem_cons,List.not_mem_nil,or_false] at hn
 rcases hn with rfl | rfl | rfl | rfl | rfl
 ·exact h.mark
 ·exact h.first
 ·exact h.z
 ·exact h.a
 ·exact h.b
theorem innL_len {t:Tkt} (h:TktR t):(encNums (innL t)).length ≤ 200:=by
 have hi:=fun n (hn:n ∈ innL t)=>Cd.encInt_len n ((InR_iff n).2 (innL_all h n hn))
 have h6:=itoa_len 5 (by unfold InR; omega)
 simp only [encNums,encList,innL,List.map_cons,List.map_nil,List.length_cons,List.length_nil,List.flatten_cons,List.flatten_nil,List.length_append,List.append_nil] at *
 have a1:=hi t.mark (by simp)
 have a2:=hi t.first (by simp)
 have a3:=hi t.z (by simp)
 have a4:=hi t.a (by simp)
 have a5:=hi t.b (by simp)
 have h6':(Lib.itoa ((0 + 1 + 1 + 1 + 1 + 1:Nat):Int)).length ≤ 20:=h6
 omega
theorem inner_ok (s:Stp) (t:Tkt) {v:Value} (ht:TktR t) (hs:SetR w s v) (hl:Cd.Laid w) (k:∀ w',Below w.heap.size w w' → K (.int .i64 (innerQ s t)) w'):callM Tryz.prog 76 #[stpV s v,tktV t] K w:=by
 apply sh_76_ok
 unfold sh_76
 obtain ⟨ad,c,rfl⟩:=hs.ints.isSlice
 refine box_kn (cs:=stpC s (.slice ad s.bases.length c)) rfl (.start w) fun b W hk hb1 hb=>?_
 refine box_kn (cs:=tktC t) rfl hk fun b2 W2 hk hb2 hbb=>?_
 refine ⟨Kn w _,hk.drew,?_⟩
 have hk:=hk.drew
 repeat (any_goals (first
 | (with_reducible refine And.intro hk ?_)
 | ((with_reducible refine mk5 t.mark t.first t.z t.a t.b ht.mark ht.first ht.z ht.a ht.b ?_); intro v8 W8 hb8 hi)
 | ((with_reducible refine idOH ?_); (with_reducible refine oH_of ⟨_,rfl⟩ (fun W0 hW0=>by (refine oM_gen (fun Kv hK=>?_)); simp [go_sem,hW0.cells]; (first | exact hK _ _ ⟨rfl,rfl⟩ | exact ⟨by omega,hK _ _ ⟨rfl,rfl⟩⟩)) ?_))))
 have hk:=hk.next hb8
 refine ⟨hk,?_⟩
 refine Cd.pNums_ok (innL t) v8 (hl.below hk.below hl.size) (Ints.rowOf hi) (fun x hx=>(InR_iff x).2 (innL_all ht x hx)) (by have:=innL_len ht; unfold encNums at this; omega) (fun w3 h3=>?_)
 have hk:=hk.next h3
 refine ⟨hk,?_⟩
 refine Number_ok _ _ (by have:=innL_len ht; unfold encNums at this; omega) (fun w4 h4=>?_)
 have hk:=hk.next h4
 exact ⟨hk,hk,k _ hk.below⟩
structure OffR (o:Off):Prop where
 z:I64 o.z
 a:I64 o.a
 b:I64 o.b
@[reducible] def offC (o:Off):List Value:=[.int .i64 o.z,.int .i64 o.a,.int .i64 o.b]
theorem signed_ok (s:Stp) (key m c r:Int) (o:Off) {v:Value} (ho:OffR o) (hs:SetR w s v) (k:∀ w',Below w.heap.size w w' → K (.bool (signedM s key m c r o)) w') :
  callM Tryz.prog 79 #[stpV s v,.int .i64 key,.int .i64 m,.int .i64 c,.int .i64 r,offV o] K w:=by
 apply sh_79_ok
 unfold sh_79
 obtain ⟨ad,cc,rfl⟩:=hs.ints.isSlice
 refine box_kn (cs:=stpC s (.slice ad s.bases.length cc)) rfl (.start w) fun b W hk hb1 hb=>?_
 refine box_kn (cs:=offC o) rfl hk fun b2 W2 hk hb2 hbb=>?_
 have hk:=hk.drew
 refine ⟨Nx { W2 with drawn:=W2.drawn + 1 },Below.refl _ _,rfl,?_⟩
 generalize ({ W2 with drawn:=W2.drawn + 1 }:World) = W at hk ⊢
 refine Xc (fun W0 hW0=>(hk.next hW0).cells) ?_
 refine ⟨Nx,?_⟩
 apply monoE
 ·intro w1 h1
  exact generated_ok s r (hs.next (hk.next h1).below) (fun w2 h2=>⟨h1.on h2,h2,rfl⟩)
 apply monoE
 ·intro w1 h1
  exact tpower_ok s key c (hs.next (hk.next h1).below) (fun w2 h2=>⟨h1.on h2,h2,rfl⟩)
 refine monoR (fun v w'=>Ints w' v [o.a]) (fun v w w1 hS h=>h.next hS) ?_ ?_
 ·intro w1 h1
  exact mk1 o.a ho.a (fun v w2 h2 hi=>⟨h1.on h2,h2,hi⟩)
 apply monoE
 ·rintro w1 h1 _ rfl v2 hi
  exact times_ok s _ (hs.next (hk.next h1).below) hi (fun w2 h2=>⟨h1.on h2,h2,rfl⟩)
 apply monoE
 ·rintro w1 h1 _ rfl _ rfl
  refine Xa0 ?_
  exact ⟨h1,Below.refl _ _,rfl⟩
 unfold signedM at k
 generalize decide (genM s r = timesM s (powerG s.g key c) [o.a]) = p at k ⊢
 cases p
 ·refine Xd0 ?_
  (intro w9 h9; repeat (intro v9 e9; try (obtain rfl:=e9)))
  repeat (any_goals (first
  | (with_reducible refine And.intro h9 ?_)
  | (with_reducible first|refine zB ?_|refine yC ?_)))
  exact k _ (hk.next h9).below
 ·refine Xd (fun w9 h9=>(hk.next h9).cells) ?_
  apply monoE
  ·(intro w9 h9; repeat (intro v9 e9; try (obtain rfl:=e9)))
   refine Xa0 ?_
   exact tpower_ok s m r (hs.next (hk.next h9).below) (fun w2 h2=>⟨h9.on h2,h2,rfl⟩)
  refine Xd (fun w9 h9=>(hk.next h9).cells) ?_
  apply monoE
  ·(intro w9 h9; repeat (intro v9 e9; try (obtain rfl:=e9)))
   refine Xa0 ?_
   exact tpower_ok s o.z c (hs.next (hk.next h9).below) (fun w2 h2=>⟨h9.on h2,h2,rfl⟩)
  refine Xd (fun w9 h9=>(hk.next h9).cells) ?_
  refine monoR (fun v w'=>Ints w' v [o.b]) (fun v w w1 hS h=>h.next hS) ?_ ?_
  ·(intro w9 h9; repeat (intro v9 e9; try (obtain rfl:=e9)))
   repeat (any_goals (first
   | ((with_reducible refine mk1 o.b ho.b ?_); intro v2 w2 h2 hi)
   | (with_reducible refine zA ?_)))
   exact ⟨h9.on h2,h2,hi⟩
  (intro w9 h9; repeat (intro v9 e9; try (obtain rfl:=e9)))
  repeat (any_goals (first
  | (with_reducible refine And.intro h9 ?_)
  | (with_reducible refine zA ?_)))
  refine times_ok s _ (hs.next (hk.next h9).below) e9 (fun w2 h2=>?_)
  have h9:=h9.on h2
  repeat (any_goals (first
  | (with_reducible refine And.intro h9 ?_)
  | (with_reducible first|refine zA ?_|refine yB ?_)
  | ((with_reducible refine oM_gen fun Kv hK=>?_); simp [go_sem]; refine hK _ _ ?_; clear hK Kv)))
  exact k _ (hk.next h9).below
end
end Go.Proofs
namespace Go.Proofs
open Go Go.Sh Go.RowKit FdSpec TkSpec CodeSpec
section
variable {K:Value → World → Prop} {w w0:World} {L:List (Addr × Value)}
@[reducible] def reqC (s:Stp) (v:Value) (m c:Int) (t:Tkt):List Value:=[.int .i64 s.g.P,.int .i64 s.g.Q,.int .i64 s.g.G,v,.int .i64 s.blind,.int .i64 m,.int .i64 c,.int .i64 t.mark,.int .i64 t.first,.int .i64 t.z,.int .i64 t.a,.int .i64 t.b,.int .i64 t.r]
@[reducible] def reqV (s:Stp) (v:Value) (m c:Int) (t:Tkt):Value:=.agg (reqC s v m c t).toArray
@[reducible] def zS:Stp:=⟨⟨0,0,0⟩,[],0⟩
structure TkC (W:World) (g:Nat) (f:Int → Tkt) (w':World):Prop where
 nx:Nx W w'
 ex:∃ a,Holds w' g 41 (tktC (f a))
theorem TkC.next {W w' w2:World} {g:Nat} {f:Int → Tkt} (h:TkC W g f w') (hb:Below w'.heap.size w' w2):TkC W g f w2:=⟨h.1.on hb,h.2.imp fun _ h=>h.next hb⟩
theorem TkC.mark {W w':World} {g:Nat} {f:Int → Tkt} {m:Int} (h:TkC W g f w') (hm:∀ a,(f a).mark = m:=by intro _; rfl):w'.cell? ⟨g,0,none⟩ = some (.int .i64 m):=by
 obtain ⟨_,a,h⟩:=h
 rw [h.cell 0 (show 0 < 6 by decide)]
 show some (Value.int .i64 (f a).mark) = _
 rw [hm a]
end
end Go.Proofs
namespace Go.Proofs
open Go Go.Sh Go.RowKit FdSpec TkSpec CodeSpec
section
variable {K:Value → World → Prop} {w w0:World} {L:List (Addr × Value)}
structure RqC (w0:World) (L:List (Addr × Value)) (g gq:Nat) (s:Stp) (v:Value) (m c:Int) (t:Tkt) (w':World):Prop where
 kn:KnM w0 L g 6 w'
 ex:∃ r,Holds w' gq 132 (reqC s v m c { t with r:=r })
theorem RqC.next {w' w2:World} {g gq:Nat} {s:Stp} {v:Value} {m c:Int} {t:Tkt} (h:RqC w0 L g gq s v m c t w') (hb:Below w'.heap.size w' w2):RqC w0 L g gq s v m c t w2:=⟨h.kn.next hb,h.ex.imp fun _ h=>h.next hb⟩
theorem RqC.cells {w':World} {g gq:Nat} {s:Stp} {v:Value} {m c:Int} {t:Tkt} (h:RqC w0 L g gq s v m c t w'):cellsAre w' (cellsOf [] gq 0 (stpC s v)):=by
 obtain ⟨_,r,hh⟩:=h
 have:=hh.are
 exact ⟨this.1,this.2.1,this.2.2.1,this.2.2.2.1,this.2.2.2.2.1,trivial⟩
end
end Go.Proofs
namespace TkSpec
open FdSpec CodeSpec
structure Mir where
 bases:List Int
 blind:Int
structure Ses where
 attrs:List Int
 offer:Off
 c:Int
 r:Int
structure Lnk where
 ticket:Tkt
 spend:Spd
 terms:List UInt8
def innM (s:Stp) (t:Tkt):Int:=if formedM s t then innerQ s t else 0
def validM (s:Stp) (key:Int) (t:Tkt):Bool:=
 formedM s t && keyM s key && !decide (innerQ s t = 0) && signedM s key t.mark (innerQ s t) t.r ⟨t.z,t.a,t.b⟩
def encT (t:Tkt):List UInt8:=encNums [t.mark,t.first,t.z,t.a,t.b,t.r]
def lendM (s:Stp) (t:Tkt) (terms:List UInt8):Int:=
 if validS s then s.g.Q / 2 + 1 + numberM (encT t ++ encText terms) (s.g.Q - 1 - s.g.Q / 2) else 0
def logM (s:Stp) (m:Mir) (attrs:List Int):Int:=((expsM attrs).zip m.bases).foldl (fun o p=>plusQ s o (mulQ s p.1 [p.2])) 0
def zB:Bld:=⟨0,0,0,[]⟩
end TkSpec
namespace Go.Proofs
open Go.Sh Tryz
def sh_169 (a0:Value) (K:Value → World → Prop) (w:World):Prop:=
 oM prog (.binOp .rem 3 (.tmp 0) (.tmp 1) 3) 3 [a0,(.int .i64 10)] (fun v5 w=>
 oM prog (.binOp .sub 3 (.tmp 0) (.tmp 1) 3) 3 [(.int .i64 48),v5] (fun v6 w=>
 oM prog (.convert 3 5 (.tmp 0)) 5 [v6] (fun v7 w=>
 oM prog (.buildSlice 181 1 #[(0,(.tmp 0))]) 181 [v7] (fun v8 w=>
 oM prog (.convert 181 9 (.tmp 0)) 9 [v8] (fun v9 w=>
 oM prog (.binOp .gtr 3 (.tmp 0) (.tmp 1) 3) 4 [a0,(.int .i64 (-10))] (fun v11 w=>
 condM v11
 (K v9 w)
 (oM prog (.binOp .quo 3 (.tmp 0) (.tmp 1) 3) 3 [a0,(.int .i64 10)] (fun v14 w=>
 callM prog 169 #[v14] (fun v15 w=>
 oM prog (.binOp .add 9 (.tmp 0) (.tmp 1) 9) 9 [v15,v9] (fun v17 w=>
 K v17 w) w) w) w)) w) w) w) w) w) w
theorem sh_169_ok {a0:Value} {K:Value → World → Prop} {w:World} (h:sh_169 a0 K w):callM prog 169 #[a0] K w:=
 calls_of_code (fun _=>0) (fn:=Tryz.f169) (rs:=[.tmp 2]) Tryz.func169 rfl rfl (by kernel_rfl) (Nat.le_of_ble_eq_true rfl) (Eq.mp (by kernel_rfl) h)
def sh_170 (a0:Value) (K:Value → World → Prop) (w:World):Prop:=
 oM prog (.binOp .lss 3 (.tmp 0) (.tmp 1) 3) 4 [a0,(.int .i64 0)] (fun v4 w=>
 condM v4
 (callM prog 169 #[a0] (fun v6 w=>
 oM prog (.binOp .add 9 (.tmp 0) (.tmp 1) 9) 9 [(.string ⟨#[45]⟩),v6] (fun v7 w=>
 oM prog (.binOp .add 9 (.tmp 0) (.tmp 1) 9) 9 [v7,(.string ⟨#[59]⟩)] (fun v8 w=>
 K v8 w) w) w) w)
 (oM prog (.unOp .neg 3 (.tmp 0)) 3 [a0] (fun v10 w=>
 callM prog 169 #[v10] (fun v11 w=>
 oM prog (.binOp .add 9 (.tmp 0) (.tmp 1) 9) 9 [v11,(.string ⟨#[59]⟩)] (fun v12 w=>
 K v12 w) w) w) w)) w
theorem sh_170_ok {a0:Value} {K:Value → World → Prop} {w:World} (h:sh_170 a0 K w):callM prog 170 #[a0] K w:=
 calls_of_code (fun _=>0) (fn:=Tryz.f170) (rs:=[.tmp 2]) Tryz.func170 rfl rfl (by kernel_rfl) (Nat.le_of_ble_eq_true rfl) (Eq.mp (by kernel_rfl) h)
def sh_124 (a0:Value) (K:Value → World → Prop) (w:World):Prop:=
 oM prog (.call (Go.Call.mk (.builtin .len) #[(.tmp 0)] #[22])) 3 [a0] (fun v6 w=>
 oM prog (.unOp .neg 3 (.tmp 0)) 3 [v6] (fun v7 w=>
 callM prog 169 #[v7] (fun v8 w=>
 oM prog (.binOp .add 9 (.tmp 0) (.tmp 1) 9) 9 [v8,(.string ⟨#[91]⟩)] (fun v9 w=>
 loopM [v9,(.int .i64 0)] w (fun J_5 m_6 l_7 u_l_7 w0_l_7=>(fun w=>(
 oM prog (.call (Go.Call.mk (.builtin .len) #[(.tmp 0)] #[22])) 3 [a0] (fun v12 w=>
 oM prog (.binOp .lss 3 (.tmp 0) (.tmp 1) 3) 4 [(l_7.getD 1 undef),v12] (fun v13 w=>
 condM v13
 (oM prog (.indexAddr 22 (.tmp 0) (.tmp 1)) 0 [a0,(l_7.getD 1 undef)] (fun v19 w=>
 oM prog (.load 3 (.tmp 0)) 3 [v19] (fun v20 w=>
 callM prog 170 #[v20] (fun v21 w=>
 oM prog (.binOp .add 9 (.tmp 0) (.tmp 1) 9) 9 [(l_7.getD 0 undef),v21] (fun v22 w=>
 oM prog (.binOp .add 3 (.tmp 0) (.tmp 1) 3) 3 [(l_7.getD 1 undef),(.int .i64 1)] (fun v15 w=>
 J_5 [v22,v15] w ∧ m_6 [v22,v15] w < m_6 l_7 w0_l_7) w) w) w) w) w)
 (oM prog (.binOp .add 9 (.tmp 0) (.tmp 1) 9) 9 [(l_7.getD 0 undef),(.string ⟨#[93]⟩)] (fun v24 w=>
 K v24 w) w)) w) w)) w0_l_7)) w) w) w) w
theorem sh_124_ok {a0:Value} {K:Value → World → Prop} {w:World} (h:sh_124 a0 K w):callM prog 124 #[a0] K w:=
 calls_of_code (fun _=>0) (fn:=Tryz.f124) (rs:=[.tmp 2]) Tryz.func124 rfl rfl (by kernel_rfl) (Nat.le_of_ble_eq_true rfl) (Eq.mp (by kernel_rfl) h)
def sh_126 (a0:Value) (K:Value → World → Prop) (w:World):Prop:=
 oM prog (.call (Go.Call.mk (.builtin .len) #[(.tmp 0)] #[9])) 3 [a0] (fun v4 w=>
 oM prog (.unOp .neg 3 (.tmp 0)) 3 [v4] (fun v5 w=>
 callM prog 169 #[v5] (fun v6 w=>
 oM prog (.binOp .add 9 (.tmp 0) (.tmp 1) 9) 9 [v6,(.string ⟨#[58]⟩)] (fun v7 w=>
 oM prog (.binOp .add 9 (.tmp 0) (.tmp 1) 9) 9 [v7,a0] (fun v9 w=>
 oM prog (.binOp .add 9 (.tmp 0) (.tmp 1) 9) 9 [v9,(.string ⟨#[44]⟩)] (fun v10 w=>
 K v10 w) w) w) w) w) w) w
theorem sh_126_ok {a0:Value} {K:Value → World → Prop} {w:World} (h:sh_126 a0 K w):callM prog 126 #[a0] K w:=
 calls_of_code (fun _=>0) (fn:=Tryz.f126) (rs:=[.tmp 2]) Tryz.func126 rfl rfl (by kernel_rfl) (Nat.le_of_ble_eq_true rfl) (Eq.mp (by kernel_rfl) h)
end Go.Proofs
namespace Go.Proofs
open Go.Sh Tryz
def sh_42 (a0 a1:Value) (K:Value → World → Prop) (w:World):Prop:=
 oM prog (.box 32 (.tmp 0)) 0 [a0] (fun v2 w=>
 loopM [(.bool false),(.int .i64 0)] w (fun J_2 m_3 l_4 u_l_4 w0_l_4=>(fun w=>(
 oM prog (.call (Go.Call.mk (.builtin .len) #[(.tmp 0)] #[98])) 3 [a1] (fun v8 w=>
 oM prog (.binOp .lss 3 (.tmp 0) (.tmp 1) 3) 4 [(l_4.getD 1 undef),v8] (fun v9 w=>
 condM v9
 (oM prog (.indexAddr 98 (.tmp 0) (.tmp 1)) 0 [a1,(l_4.getD 1 undef)] (fun v14 w=>
 oM prog (.load 22 (.tmp 0)) 22 [v14] (fun v15 w=>
 oM prog (.call (Go.Call.mk (.builtin .len) #[(.tmp 0)] #[22])) 3 [v15] (fun v16 w=>
 oM prog (.binOp .gtr 3 (.tmp 0) (.tmp 1) 3) 4 [v16,(.int .i64 9)] (fun v17 w=>
 condM v17
 (K (.bool false) w)
 (oM prog (.binOp .add 3 (.tmp 0) (.tmp 1) 3) 3 [(l_4.getD 1 undef),(.int .i64 1)] (fun v11 w=>
 J_2 [(l_4.getD 0 undef),v11] w ∧ m_3 [(l_4.getD 0 undef),v11] w < m_3 l_4 w0_l_4) w)) w) w) w) w)
 (oM prog (.fieldAddr 32 (.tmp 0) 1) 0 [v2] (fun v18 w=>
 oM prog (.load 22 (.tmp 0)) 22 [v18] (fun v19 w=>
 oM prog (.call (Go.Call.mk (.builtin .len) #[(.tmp 0)] #[22])) 3 [v19] (fun v20 w=>
 oM prog (.binOp .leq 3 (.tmp 0) (.tmp 1) 3) 4 [v20,(.int .i64 9)] (fun v21 w=>
 K v21 w) w) w) w) w)) w) w)) w0_l_4)) w
theorem sh_42_ok {a0 a1:Value} {K:Value → World → Prop} {w:World} (h:sh_42 a0 a1 K w):callM prog 42 #[a0,a1] K w:=
 calls_of_code (fun _=>0) (fn:=Tryz.f42) (rs:=[.tmp 4]) Tryz.func42 rfl rfl (by kernel_rfl) (Nat.le_of_ble_eq_true rfl) (Eq.mp (by kernel_rfl) h)
def sh_147 (a0 a1:Value) (K:Value → World → Prop) (w:World):Prop:=
 oM prog (.box 32 (.tmp 0)) 0 [a0] (fun v2 w=>
 oM prog (.load 32 (.tmp 0)) 32 [v2] (fun v5 w=>
 callM prog 151 #[v5,a1] (fun v7 w=>
 oM prog (.unOp .not 4 (.tmp 0)) 4 [v7] (fun v8 w=>
 condM v8
 (K (.int .i64 0) w)
 (heldM w (fun C_5 w=>(((true:Bool) = true) ∧ (oH prog (.load 32 (.tmp 0)) 32 [v2] C_5 (fun v9=>
 pureH a1 C_5 (fun v10=>
 ∃ S_8:World → World → Prop,∃ R_9:Value → World → Prop,(∀ v w w_1,S_8 w w_1 → R_9 v w → R_9 v w_1) ∧
 (∀ w,C_5 w → (callM prog 105 #[v10] (fun v w_1=>C_5 w_1 ∧ S_8 w w_1 ∧ R_9 v w_1) w)) ∧
 (∀ w,C_5 w → ∀ v11,R_9 v11 w → (
 callM prog 122 #[v9,v11] (fun v12 w=>
 K v12 w) w))))))))) w) w) w) w
theorem sh_147_ok {a0 a1:Value} {K:Value → World → Prop} {w:World} (h:sh_147 a0 a1 K w):callM prog 147 #[a0,a1] K w:=
 calls_of_code (fun _=>.free [0,1] [2] [3,4]) (fn:=Tryz.f147) (rs:=[.tmp 4]) Tryz.func147 rfl rfl (by kernel_rfl) (Nat.le_of_ble_eq_true rfl) (Eq.mp (by kernel_rfl) h)
def sh_98 (a0 a1:Value) (K:Value → World → Prop) (w:World):Prop:=
 oM prog (.box 32 (.tmp 0)) 0 [a0] (fun v2 w=>
 oM prog (.load 32 (.tmp 0)) 32 [v2] (fun v5 w=>
 callM prog 151 #[v5,a1] (fun v7 w=>
 gdM (gd v7 true) (oM prog (.load 32 (.tmp 0)) 32 [v2]) (fun v9 w=>
 gdM (gd v7 true) (pureM a1) (fun v10 w=>
 gdM (gd v7 true) (callM prog 147 #[v9,v10]) (fun v11 w=>
 gdM (gd v7 true) (oM prog (.binOp .neq 3 (.tmp 0) (.const (.int .i64 1)) 3) 4 [v11]) (fun v12 w=>
 oM prog (.pick (.tmp 0) (.tmp 1) (.tmp 2)) 4 [v7,v12,(.bool false)] (fun v13 w=>
 K v13 w) w) w) w) w) w) w) w) w
theorem sh_98_ok {a0 a1:Value} {K:Value → World → Prop} {w:World} (h:sh_98 a0 a1 K w):callM prog 98 #[a0,a1] K w:=
 calls_of_code (fun _=>0) (fn:=Tryz.f98) (rs:=[.tmp 4]) Tryz.func98 rfl rfl (by kernel_rfl) (Nat.le_of_ble_eq_true rfl) (Eq.mp (by kernel_rfl) h)
def sh_99 (a0 a1 a2:Value) (K:Value → World → Prop) (w:World):Prop:=
 oM prog (.binOp .geq 3 (.tmp 0) (.tmp 1) 3) 4 [a0,a1] (fun v9 w=>
 gdM (gd v9 true) (pureM a0) (fun v11 w=>
 gdM (gd v9 true) (pureM a2) (fun v12 w=>
 gdM (gd v9 true) (oM prog (.binOp .leq 3 (.tmp 0) (.tmp 1) 3) 4 [v11,v12]) (fun v13 w=>
 oM prog (.pick (.tmp 0) (.tmp 1) (.tmp 2)) 4 [v9,v13,(.bool false)] (fun v14 w=>
 K v14 w) w) w) w) w) w
theorem sh_99_ok {a0 a1 a2:Value} {K:Value → World → Prop} {w:World} (h:sh_99 a0 a1 a2 K w):callM prog 99 #[a0,a1,a2] K w:=
 calls_of_code (fun _=>0) (fn:=Tryz.f99) (rs:=[.tmp 6]) Tryz.func99 rfl rfl (by kernel_rfl) (Nat.le_of_ble_eq_true rfl) (Eq.mp (by kernel_rfl) h)
def sh_119 (a0 a1 a2:Value) (K:Value → World → Prop) (w:World):Prop:=
 oM prog (.box 32 (.tmp 0)) 0 [a0] (fun v3 w=>
 oM prog (.fieldAddr 32 (.tmp 0) 0) 0 [v3] (fun v7 w=>
 oM prog (.load 30 (.tmp 0)) 30 [v7] (fun v8 w=>
 callM prog 164 #[v8,a1,a2] (fun v11 w=>
 K v11 w) w) w) w) w
theorem sh_119_ok {a0 a1 a2:Value} {K:Value → World → Prop} {w:World} (h:sh_119 a0 a1 a2 K w):callM prog 119 #[a0,a1,a2] K w:=
 calls_of_code (fun _=>0) (fn:=Tryz.f119) (rs:=[.tmp 6]) Tryz.func119 rfl rfl (by kernel_rfl) (Nat.le_of_ble_eq_true rfl) (Eq.mp (by kernel_rfl) h)
def sh_118 (a0 a1:Value) (K:Value → World → Prop) (w:World):Prop:=
 oM prog (.box 32 (.tmp 0)) 0 [a0] (fun v2 w=>
 oM prog (.load 32 (.tmp 0)) 32 [v2] (fun v5 w=>
 callM prog 106 #[v5] (fun v6 w=>
 gdM (gd v6 true) (oM prog (.fieldAddr 32 (.tmp 0) 0) 0 [v2]) (fun v8 w=>
 gdM (gd v6 true) (oM prog (.load 30 (.tmp 0)) 30 [v8]) (fun v9 w=>
 gdM (gd v6 true) (pureM a1) (fun v10 w=>
 gdM (gd v6 true) (callM prog 116 #[v9,v10]) (fun v11 w=>
 oM prog (.pick (.tmp 0) (.tmp 1) (.tmp 2)) 4 [v6,v11,(.bool false)] (fun v12 w=>
 gdM (gd v12 true) (pureM a1) (fun v14 w=>
 gdM (gd v12 true) (oM prog (.binOp .neq 3 (.tmp 0) (.const (.int .i64 1)) 3) 4 [v14]) (fun v15 w=>
 oM prog (.pick (.tmp 0) (.tmp 1) (.tmp 2)) 4 [v12,v15,(.bool false)] (fun v16 w=>
 K v16 w) w) w) w) w) w) w) w) w) w) w) w
theorem sh_118_ok {a0 a1:Value} {K:Value → World → Prop} {w:World} (h:sh_118 a0 a1 K w):callM prog 118 #[a0,a1] K w:=
 calls_of_code (fun _=>0) (fn:=Tryz.f118) (rs:=[.tmp 4]) Tryz.func118 rfl rfl (by kernel_rfl) (Nat.le_of_ble_eq_true rfl) (Eq.mp (by kernel_rfl) h)
def sh_108 (a0 a1:Value) (K:Value → World → Prop) (w:World):Prop:=
 oM prog (.box 32 (.tmp 0)) 0 [a0] (fun v2 w=>
 oM prog (.box 45 (.tmp 0)) 0 [a1] (fun v3 w=>
 oM prog (.fieldAddr 32 (.tmp 0) 0) 0 [v2] (fun v6 w=>
 oM prog (.fieldAddr 30 (.tmp 0) 1) 0 [v6] (fun v7 w=>
 oM prog (.load 3 (.tmp 0)) 3 [v7] (fun v8 w=>
 oM prog (.fieldAddr 45 (.tmp 0) 0) 0 [v3] (fun v9 w=>
 oM prog (.load 3 (.tmp 0)) 3 [v9] (fun v10 w=>
 oM prog (.binOp .sub 3 (.tmp 0) (.tmp 1) 3) 3 [v8,(.int .i64 1)] (fun v12 w=>
 callM prog 99 #[v10,(.int .i64 1),v12] (fun v13 w=>
 gdM (gd v13 true) (oM prog (.fieldAddr 45 (.tmp 0) 1) 0 [v3]) (fun v15 w=>
 gdM (gd v13 true) (oM prog (.load 3 (.tmp 0)) 3 [v15]) (fun v16 w=>
 gdM (gd v13 true) (pureM v8) (fun v17 w=>
 gdM (gd v13 true) (oM prog (.binOp .sub 3 (.tmp 0) (.tmp 1) 3) 3 [v17,(.int .i64 1)]) (fun v18 w=>
 gdM (gd v13 true) (callM prog 99 #[v16,(.int .i64 1),v18]) (fun v19 w=>
 oM prog (.pick (.tmp 0) (.tmp 1) (.tmp 2)) 4 [v13,v19,(.bool false)] (fun v20 w=>
 gdM (gd v20 true) (oM prog (.fieldAddr 45 (.tmp 0) 2) 0 [v3]) (fun v22 w=>
 gdM (gd v20 true) (oM prog (.load 3 (.tmp 0)) 3 [v22]) (fun v23 w=>
 gdM (gd v20 true) (pureM v8) (fun v24 w=>
 gdM (gd v20 true) (oM prog (.binOp .sub 3 (.tmp 0) (.tmp 1) 3) 3 [v24,(.int .i64 1)]) (fun v25 w=>
 gdM (gd v20 true) (callM prog 99 #[v23,(.int .i64 0),v25]) (fun v26 w=>
 oM prog (.pick (.tmp 0) (.tmp 1) (.tmp 2)) 4 [v20,v26,(.bool false)] (fun v27 w=>
 gdM (gd v27 true) (oM prog (.load 32 (.tmp 0)) 32 [v2]) (fun v29 w=>
 gdM (gd v27 true) (oM prog (.fieldAddr 45 (.tmp 0) 3) 0 [v3]) (fun v30 w=>
 gdM (gd v27 true) (oM prog (.load 22 (.tmp 0)) 22 [v30]) (fun v31 w=>
 gdM (gd v27 true) (oM prog (.fieldAddr 32 (.tmp 0) 1) 0 [v2]) (fun v32 w=>
 gdM (gd v27 true) (oM prog (.load 22 (.tmp 0)) 22 [v32]) (fun v33 w=>
 gdM (gd v27 true) (oM prog (.call (Go.Call.mk (.builtin .len) #[(.tmp 0)] #[22])) 3 [v33]) (fun v34 w=>
 gdM (gd v27 true) (callM prog 121 #[v29,v31,v34]) (fun v35 w=>
 oM prog (.pick (.tmp 0) (.tmp 1) (.tmp 2)) 4 [v27,v35,(.bool false)] (fun v36 w=>
 K v36 w) w) w) w) w) w) w) w) w) w) w) w) w) w) w) w) w) w) w) w) w) w) w) w) w) w) w) w) w) w
theorem sh_108_ok {a0 a1:Value} {K:Value → World → Prop} {w:World} (h:sh_108 a0 a1 K w):callM prog 108 #[a0,a1] K w:=
 calls_of_code (fun _=>0) (fn:=Tryz.f108) (rs:=[.tmp 4]) Tryz.func108 rfl rfl (by kernel_rfl) (Nat.le_of_ble_eq_true rfl) (Eq.mp (by kernel_rfl) h)
def sh_117 (a0 a1:Value) (K:Value → World → Prop) (w:World):Prop:=
 oM prog (.box 32 (.tmp 0)) 0 [a0] (fun v2 w=>
 oM prog (.box 41 (.tmp 0)) 0 [a1] (fun v3 w=>
 heldM w (fun C_3 w=>(((true:Bool) = true) ∧ (oH prog (.fieldAddr 41 (.tmp 0) 0) 0 [v3] C_3 (fun v5=>
 oH prog (.load 3 (.tmp 0)) 3 [v5] C_3 (fun v6=>
 oH prog (.fieldAddr 41 (.tmp 0) 1) 0 [v3] C_3 (fun v7=>
 oH prog (.load 3 (.tmp 0)) 3 [v7] C_3 (fun v8=>
 oH prog (.fieldAddr 41 (.tmp 0) 2) 0 [v3] C_3 (fun v9=>
 oH prog (.load 3 (.tmp 0)) 3 [v9] C_3 (fun v10=>
 oH prog (.fieldAddr 41 (.tmp 0) 3) 0 [v3] C_3 (fun v11=>
 oH prog (.load 3 (.tmp 0)) 3 [v11] C_3 (fun v12=>
 oH prog (.fieldAddr 41 (.tmp 0) 4) 0 [v3] C_3 (fun v13=>
 oH prog (.load 3 (.tmp 0)) 3 [v13] C_3 (fun v14=>
 oH prog (.fieldAddr 32 (.tmp 0) 0) 0 [v2] C_3 (fun v17=>
 oH prog (.fieldAddr 30 (.tmp 0) 1) 0 [v17] C_3 (fun v18=>
 oH prog (.load 3 (.tmp 0)) 3 [v18] C_3 (fun v19=>
 ∃ S_17:World → World → Prop,∃ R_18:Value → World → Prop,(∀ v w w_1,S_17 w w_1 → R_18 v w → R_18 v w_1) ∧
 (∀ w,C_3 w → (oM prog (.buildSlice 22 5 #[(0,(.tmp 0)),(1,(.tmp 1)),(2,(.tmp 2)),(3,(.tmp 3)),(4,(.tmp 4))]) 22 [v6,v8,v10,v12,v14] (fun v w_1=>C_3 w_1 ∧ S_17 w w_1 ∧ R_18 v w_1) w)) ∧
 (∃ R_19:Value → World → Prop,(∀ v w w_1,S_17 w w_1 → R_19 v w → R_19 v w_1) ∧
 (∀ w,C_3 w → ∀ v15,R_18 v15 w → (callM prog 124 #[v15] (fun v w_1=>C_3 w_1 ∧ S_17 w w_1 ∧ R_19 v w_1) w)) ∧
 (∀ w,C_3 w → ∀ v15,R_18 v15 w → ∀ v16,R_19 v16 w → (
 callM prog 125 #[v16,v19] (fun v20 w=>
 K v20 w) w)))))))))))))))))))) w) w
theorem sh_117_ok {a0 a1:Value} {K:Value → World → Prop} {w:World} (h:sh_117 a0 a1 K w):callM prog 117 #[a0,a1] K w:=
 calls_of_code (fun _=>.free [0,1,2,3,4,5,6,7,8,9,12,13,14] [10,11] [15,16]) (fn:=Tryz.f117) (rs:=[.tmp 4]) Tryz.func117 rfl rfl (by kernel_rfl) (Nat.le_of_ble_eq_true rfl) (Eq.mp (by kernel_rfl) h)
def sh_101 (a0 a1 a2:Value) (K:Value → World → Prop) (w:World):Prop:=
 oM prog (.box 32 (.tmp 0)) 0 [a0] (fun v3 w=>
 oM prog (.fieldAddr 32 (.tmp 0) 0) 0 [v3] (fun v10 w=>
 oM prog (.fieldAddr 30 (.tmp 0) 1) 0 [v10] (fun v11 w=>
 oM prog (.load 3 (.tmp 0)) 3 [v11] (fun v12 w=>
 callM prog 152 #[v12,a2] (fun v14 w=>
 oM prog (.extract (.tmp 0) 0) 3 [v14] (fun v15 w=>
 oM prog (.extract (.tmp 0) 1) 4 [v14] (fun v16 w=>
 oM prog (.load 32 (.tmp 0)) 32 [v3] (fun v17 w=>
 callM prog 102 #[v17,a1,v15] (fun v20 w=>
 K v20 w) w) w) w) w) w) w) w) w) w
theorem sh_101_ok {a0 a1 a2:Value} {K:Value → World → Prop} {w:World} (h:sh_101 a0 a1 a2 K w):callM prog 101 #[a0,a1,a2] K w:=
 calls_of_code (fun _=>0) (fn:=Tryz.f101) (rs:=[.tmp 6]) Tryz.func101 rfl rfl (by kernel_rfl) (Nat.le_of_ble_eq_true rfl) (Eq.mp (by kernel_rfl) h)
def sh_120 (a0 a1 a2:Value) (K:Value → World → Prop) (w:World):Prop:=
 oM prog (.box 32 (.tmp 0)) 0 [a0] (fun v3 w=>
 oM prog (.fieldAddr 32 (.tmp 0) 0) 0 [v3] (fun v7 w=>
 oM prog (.load 30 (.tmp 0)) 30 [v7] (fun v8 w=>
 callM prog 165 #[v8,a1,a2] (fun v11 w=>
 K v11 w) w) w) w) w
theorem sh_120_ok {a0 a1 a2:Value} {K:Value → World → Prop} {w:World} (h:sh_120 a0 a1 a2 K w):callM prog 120 #[a0,a1,a2] K w:=
 calls_of_code (fun _=>0) (fn:=Tryz.f120) (rs:=[.tmp 6]) Tryz.func120 rfl rfl (by kernel_rfl) (Nat.le_of_ble_eq_true rfl) (Eq.mp (by kernel_rfl) h)
def sh_102 (a0 a1 a2:Value) (K:Value → World → Prop) (w:World):Prop:=
 oM prog (.box 32 (.tmp 0)) 0 [a0] (fun v3 w=>
 oM prog (.fieldAddr 32 (.tmp 0) 0) 0 [v3] (fun v7 w=>
 oM prog (.fieldAddr 30 (.tmp 0) 1) 0 [v7] (fun v8 w=>
 oM prog (.load 3 (.tmp 0)) 3 [v8] (fun v9 w=>
 callM prog 153 #[v9,a1,a2] (fun v12 w=>
 K v12 w) w) w) w) w) w
theorem sh_102_ok {a0 a1 a2:Value} {K:Value → World → Prop} {w:World} (h:sh_102 a0 a1 a2 K w):callM prog 102 #[a0,a1,a2] K w:=
 calls_of_code (fun _=>0) (fn:=Tryz.f102) (rs:=[.tmp 6]) Tryz.func102 rfl rfl (by kernel_rfl) (Nat.le_of_ble_eq_true rfl) (Eq.mp (by kernel_rfl) h)
def sh_151 (a0 a1:Value) (K:Value → World → Prop) (w:World):Prop:=
 oM prog (.box 32 (.tmp 0)) 0 [a0] (fun v2 w=>
 oM prog (.load 32 (.tmp 0)) 32 [v2] (fun v5 w=>
 callM prog 106 #[v5] (fun v6 w=>
 oM prog (.unOp .not 4 (.tmp 0)) 4 [v6] (fun v7 w=>
 gdM (gd v7 false) (oM prog (.load 32 (.tmp 0)) 32 [v2]) (fun v9 w=>
 gdM (gd v7 false) (pureM a1) (fun v10 w=>
 gdM (gd v7 false) (oM prog (.fieldAddr 32 (.tmp 0) 1) 0 [v2]) (fun v11 w=>
 gdM (gd v7 false) (oM prog (.load 22 (.tmp 0)) 22 [v11]) (fun v12 w=>
 gdM (gd v7 false) (oM prog (.call (Go.Call.mk (.builtin .len) #[(.tmp 0)] #[22])) 3 [v12]) (fun v13 w=>
 gdM (gd v7 false) (oM prog (.binOp .sub 3 (.tmp 0) (.tmp 1) 3) 3 [v13,(.int .i64 1)]) (fun v14 w=>
 gdM (gd v7 false) (callM prog 121 #[v9,v10,v14]) (fun v15 w=>
 gdM (gd v7 false) (oM prog (.unOp .not 4 (.tmp 0)) 4 [v15]) (fun v16 w=>
 oM prog (.pick (.tmp 0) (.tmp 1) (.tmp 2)) 4 [v7,(.bool true),v16] (fun v17 w=>
 gdM (gd v17 false) (pureM a1) (fun v19 w=>
 gdM (gd v17 false) (oM prog (.call (Go.Call.mk (.builtin .len) #[(.tmp 0)] #[22])) 3 [v19]) (fun v20 w=>
 gdM (gd v17 false) (oM prog (.binOp .eql 3 (.tmp 0) (.const (.int .i64 0)) 3) 4 [v20]) (fun v21 w=>
 oM prog (.pick (.tmp 0) (.tmp 1) (.tmp 2)) 4 [v17,(.bool true),v21] (fun v22 w=>
 condM v22
 (K (.bool false) w)
 (oM prog (.indexAddr 22 (.tmp 0) (.tmp 1)) 0 [a1,(.int .i64 0)] (fun v24 w=>
 oM prog (.load 3 (.tmp 0)) 3 [v24] (fun v25 w=>
 oM prog (.binOp .neq 3 (.tmp 0) (.const (.int .i64 0)) 3) 4 [v25] (fun v26 w=>
 K v26 w) w) w) w)) w) w) w) w) w) w) w) w) w) w) w) w) w) w) w) w) w
theorem sh_151_ok {a0 a1:Value} {K:Value → World → Prop} {w:World} (h:sh_151 a0 a1 K w):callM prog 151 #[a0,a1] K w:=
 calls_of_code (fun _=>0) (fn:=Tryz.f151) (rs:=[.tmp 4]) Tryz.func151 rfl rfl (by kernel_rfl) (Nat.le_of_ble_eq_true rfl) (Eq.mp (by kernel_rfl) h)
def sh_122 (a0 a1:Value) (K:Value → World → Prop) (w:World):Prop:=
 oM prog (.box 32 (.tmp 0)) 0 [a0] (fun v2 w=>
 oM prog (.fieldAddr 32 (.tmp 0) 0) 0 [v2] (fun v8 w=>
 oM prog (.load 30 (.tmp 0)) 30 [v8] (fun v9 w=>
 oM prog (.fieldAddr 32 (.tmp 0) 1) 0 [v2] (fun v10 w=>
 oM prog (.load 22 (.tmp 0)) 22 [v10] (fun v11 w=>
 callM prog 166 #[v9,v11,a1] (fun v13 w=>
 oM prog (.extract (.tmp 0) 0) 3 [v13] (fun v14 w=>
 oM prog (.extract (.tmp 0) 1) 4 [v13] (fun v15 w=>
 K v14 w) w) w) w) w) w) w) w) w
theorem sh_122_ok {a0 a1:Value} {K:Value → World → Prop} {w:World} (h:sh_122 a0 a1 K w):callM prog 122 #[a0,a1] K w:=
 calls_of_code (fun _=>0) (fn:=Tryz.f122) (rs:=[.tmp 4]) Tryz.func122 rfl rfl (by kernel_rfl) (Nat.le_of_ble_eq_true rfl) (Eq.mp (by kernel_rfl) h)
def sh_105 (a0:Value) (K:Value → World → Prop) (w:World):Prop:=
 oM prog (.buildSlice 22 1 #[(0,(.tmp 0))]) 22 [(.int .i64 1)] (fun v3 w=>
 oM prog (.call (Go.Call.mk (.builtin .append) #[(.tmp 0),(.tmp 1)] #[22,22])) 22 [v3,a0] (fun v5 w=>
 K v5 w) w) w
theorem sh_105_ok {a0:Value} {K:Value → World → Prop} {w:World} (h:sh_105 a0 K w):callM prog 105 #[a0] K w:=
 calls_of_code (fun _=>0) (fn:=Tryz.f105) (rs:=[.tmp 2]) Tryz.func105 rfl rfl (by kernel_rfl) (Nat.le_of_ble_eq_true rfl) (Eq.mp (by kernel_rfl) h)
def sh_121 (a0 a1 a2:Value) (K:Value → World → Prop) (w:World):Prop:=
 oM prog (.box 32 (.tmp 0)) 0 [a0] (fun v3 w=>
 oM prog (.call (Go.Call.mk (.builtin .len) #[(.tmp 0)] #[22])) 3 [a1] (fun v9 w=>
 oM prog (.binOp .neq 3 (.tmp 0) (.tmp 1) 3) 4 [v9,a2] (fun v11 w=>
 condM v11
 (K (.bool false) w)
 (loopM [(.bool false),(.int .i64 0)] w (fun J_4 m_5 l_6 u_l_6 w0_l_6=>(fun w=>(
 oM prog (.call (Go.Call.mk (.builtin .len) #[(.tmp 0)] #[22])) 3 [a1] (fun v14 w=>
 oM prog (.binOp .lss 3 (.tmp 0) (.tmp 1) 3) 4 [(l_6.getD 1 undef),v14] (fun v15 w=>
 condM v15
 (heldM w (fun C_9 w=>(((true:Bool) = true) ∧ (pureH a1 C_9 (fun v18=>
 pureH (l_6.getD 1 undef) C_9 (fun v19=>
 oH prog (.indexAddr 22 (.tmp 0) (.tmp 1)) 0 [v18,v19] C_9 (fun v20=>
 oH prog (.load 3 (.tmp 0)) 3 [v20] C_9 (fun v21=>
 oH prog (.fieldAddr 32 (.tmp 0) 0) 0 [v3] C_9 (fun v22=>
 oH prog (.fieldAddr 30 (.tmp 0) 1) 0 [v22] C_9 (fun v23=>
 oH prog (.load 3 (.tmp 0)) 3 [v23] C_9 (fun v24=>
 oH prog (.binOp .sub 3 (.tmp 0) (.tmp 1) 3) 3 [v24,(.int .i64 1)] C_9 (fun v25=>
 ∃ S_18:World → World → Prop,∀ w,C_9 w → (
 callM prog 99 #[v21,(.int .i64 0),v25] (fun v26 w=>
 oM prog (.unOp .not 4 (.tmp 0)) 4 [v26] (fun v27 w=>
 condM v27
 (K (.bool false) w)
 (oM prog (.binOp .add 3 (.tmp 0) (.tmp 1) 3) 3 [(l_6.getD 1 undef),(.int .i64 1)] (fun v17 w=>
 J_4 [(l_6.getD 0 undef),v17] w ∧ m_5 [(l_6.getD 0 undef),v17] w < m_5 l_6 w0_l_6) w)) w) w)))))))))))))
 (K (.bool true) w)) w) w)) w0_l_6))) w) w) w
theorem sh_121_ok {a0 a1 a2:Value} {K:Value → World → Prop} {w:World} (h:sh_121 a0 a1 a2 K w):callM prog 121 #[a0,a1,a2] K w:=
 calls_of_code (fun _=>.free [0,1,2,3,4,5,6,7] [] [8,9]) (fn:=Tryz.f121) (rs:=[.tmp 6]) Tryz.func121 rfl rfl (by kernel_rfl) (Nat.le_of_ble_eq_true rfl) (Eq.mp (by kernel_rfl) h)
end Go.Proofs
namespace Go.Proofs
open Go.Sh Tryz
def sh_95 (a0:Value) (K:Value → World → Prop) (w:World):Prop:=
 oM prog (.call (Go.Call.mk (.builtin .len) #[(.tmp 0)] #[9])) 3 [a0] (fun v4 w=>
 callM prog 145 #[v4] (fun v5 w=>
 oM prog (.binOp .add 9 (.tmp 0) (.tmp 1) 9) 9 [v5,(.string ⟨#[58]⟩)] (fun v6 w=>
 oM prog (.binOp .add 9 (.tmp 0) (.tmp 1) 9) 9 [v6,a0] (fun v8 w=>
 oM prog (.binOp .add 9 (.tmp 0) (.tmp 1) 9) 9 [v8,(.string ⟨#[44]⟩)] (fun v9 w=>
 K v9 w) w) w) w) w) w
theorem sh_95_ok {a0:Value} {K:Value → World → Prop} {w:World} (h:sh_95 a0 K w):callM prog 95 #[a0] K w:=
 calls_of_code (fun _=>0) (fn:=Tryz.f95) (rs:=[.tmp 2]) Tryz.func95 rfl rfl (by kernel_rfl) (Nat.le_of_ble_eq_true rfl) (Eq.mp (by kernel_rfl) h)
end Go.Proofs
namespace Go.Proofs.Cd
open Go Go.Sh Go.RowKit Go.Lib CodeSpec
theorem pText_ok (s:List UInt8) (hs:s.length < 2^60) {K:Value → World → Prop} {w:World} (hl:Laid w) (k:∀ w',Below w.heap.size w w' → K (.string ⟨(encText s).toArray⟩) w'):callM Tryz.prog 95 #[.string ⟨s.toArray⟩] K w:=by
 apply sh_95_ok
 unfold sh_95
 have hin:InR (s.length:Nat):=⟨by omega,by omega⟩
 have hi:=itoa_len _ hin
 refine Xa0 ?_
 refine itoa_ok _ hin hl (fun w1 hb1=>?_)
 refine Xa0 ?_
 exact K_eq (k _ hb1) (by simp [encText])
end Go.Proofs.Cd
namespace Go.Proofs
open Go Go.Sh Go.RowKit FdSpec TkSpec CodeSpec
section
variable {K:Value → World → Prop} {w w0:World} {L:List (Addr × Value)}
theorem Formed_ok (s:Stp) (t:Tkt) {v:Value} (ht:TktR t) (hs:SetR w s v) (k:∀ w',Below w.heap.size w w' → K (.bool (formedM s t)) w'):callM Tryz.prog 50 #[stpV s v,tktV t] K w:=by
 apply sh_50_ok
 unfold sh_50
 obtain ⟨ad,c,rfl⟩:=hs.ints.isSlice
 refine box_kn (cs:=stpC s (.slice ad s.bases.length c)) rfl (.start w) fun b W hk hb1 hb=>?_
 refine box_kn (cs:=tktC t) rfl hk fun b2 W2 hk hb2 hbb=>?_
 refine Xa hk.cells ?_
 refine formed_ok s t ht (hs.next hk.below) (fun w2 h=>?_)
 have hk:=hk.next h
 refine Xb2_0 ?_
 refine local_desk' s ad s.bases.length c hk (fun b7 W7 hk hb7 hg7=>?_)
 exact k _ hk.below
theorem Inner_ok (s:Stp) (t:Tkt) {v:Value} (ht:TktR t) (hs:SetR w s v) (hL:Cd.Laid w) (k:∀ w',Below w.heap.size w w' → K (.int .i64 (innM s t)) w'):callM Tryz.prog 25 #[stpV s v,tktV t] K w:=by
 apply sh_25_ok
 unfold sh_25
 obtain ⟨ad,c,rfl⟩:=hs.ints.isSlice
 refine box_kn (cs:=stpC s (.slice ad s.bases.length c)) rfl (.start w) fun b W hk hb1 hb=>?_
 refine box_kn (cs:=tktC t) rfl hk fun b2 W2 hk hb2 hbb=>?_
 refine Xa hk.cells ?_
 refine formed_ok s t ht (hs.next hk.below) (fun w2 h=>?_)
 have hk:=hk.next h
 unfold innM at k
 refine Xb2_0 ?_
 refine local_desk' s ad s.bases.length c hk (fun b7 W7 hk hb7 hg7=>?_)
 cases hf:formedM s t with
 | false=>
  rw [hf] at k
  refine Xa0 ?_
  exact k _ hk.below
 | true=>
 rw [hf,if_pos rfl] at k
 refine Xa hk.cells ?_
 refine inner_ok s t ht (hs.next hk.below) (hL.below hk.below hL.size) (fun w3 h3=>?_)
 exact k _ (hk.next h3).below
theorem Valid_ok (s:Stp) (key:Int) (t:Tkt) {v:Value} (hkey:I64 key) (ht:TktR t) (hs:SetR w s v) (hL:Cd.Laid w) (k:∀ w',Below w.heap.size w w' → K (.bool (validM s key t)) w'):callM Tryz.prog 29 #[stpV s v,.int .i64 key,tktV t] K w:=by
 apply sh_29_ok
 unfold sh_29
 obtain ⟨ad,c,rfl⟩:=hs.ints.isSlice
 refine box_kn (cs:=stpC s (.slice ad s.bases.length c)) rfl (.start w) fun b W hk hb1 hb=>?_
 refine box_kn (cs:=tktC t) rfl hk fun b2 W2 hk hb2 hbb=>?_
 refine Xa hk.cells ?_
 refine formed_ok s t ht (hs.next hk.below) (fun w2 h=>?_)
 have hk:=hk.next h
 clear h hb1 hb2
 unfold validM at k
 refine Xb2_0 ?_
 refine local_desk' s ad s.bases.length c hk (fun b7 W7 hk hb7 hg7=>?_)
 cases hf:formedM s t with
 | false=>
  rw [hf,Bool.false_and,Bool.false_and,Bool.false_and] at k
  refine Xa0 ?_
  exact k _ hk.below
 | true=>
 rw [hf,Bool.true_and] at k
 refine Xa hk.cells ?_
 refine key_ok s key hkey (hs.next hk.below) (fun w3 h3=>?_)
 have hk:=hk.next h3
 clear h3
 cases hke:keyM s key with
 | false=>
  rw [hke,Bool.false_and,Bool.false_and] at k
  refine Xa0 ?_
  exact k _ hk.below
 | true=>
 rw [hke,Bool.true_and] at k
 refine Xa hk.cells ?_
 refine inner_ok s t ht (hs.next hk.below) (hL.below hk.below hL.size) (fun w4 h4=>?_)
 have hk:=hk.next h4
 clear h4
 by_cases h0:innerQ s t = 0
 ·rw [decide_eq_true h0] at k
  refine Xa (An2 hk.cells @h0) ?_
  exact k _ hk.below
 ·rw [decide_eq_false h0] at k
  refine Xa (An2 hk.cells @h0) ?_
  refine signed_ok s key t.mark (innerQ s t) t.r ⟨t.z,t.a,t.b⟩ ⟨ht.z,ht.a,ht.b⟩ (hs.next hk.below) (fun w5 h5=>?_)
  have hk:=hk.next h5
  have k:=k _ hk.below
  simp only [Bool.not_false,Bool.true_and] at k
  generalize signedM s key t.mark (innerQ s t) t.r ⟨t.z,t.a,t.b⟩ = q at *
  refine Xa0 ?_
  exact k
end
end Go.Proofs
namespace Go.Proofs
open Go Go.Sh Go.RowKit FdSpec TkSpec CodeSpec
section
variable {K:Value → World → Prop} {w w0:World} {L:List (Addr × Value)}
theorem numberM_range (s:List UInt8) (n:Int) (hn:okN n):0 ≤ numberM s n ∧ numberM s n < n:=by
 unfold numberM
 rw [if_pos hn]
 have h:∀ (l:List UInt8) (o:Int),0 ≤ o ∧ o < n → 0 ≤ l.foldl (numStep n) o ∧ l.foldl (numStep n) o < n:=by
  intro l
  induction l with
  | nil=>intro o h; exact h
  | cons a l ih=>intro o h; exact ih _ (addM_range n _ _ hn)
 exact h _ 0 (by unfold okN at hn; omega)
theorem lend_nums {q:Int} (h:5 ≤ q) (h2:q < 1152921504606846976):okN (q - 1 - q / 2):=by unfold okN; omega
theorem encT_eq (t:Tkt):encM t = encT t:=rfl
theorem validS_bd {s:Stp} (h:validS s = true):5 ≤ s.g.Q ∧ s.g.Q < 1152921504606846976:=by
 unfold validS at h
 simp only [Bool.and_eq_true] at h
 have hg:=h.1.1.1.1
 by_cases hc:s.g.Q < 5 ∨ 1152921504606846976 ≤ s.g.Q ∨ s.g.P ≠ 2 * s.g.Q + 1 ∨ s.g.G < 2 ∨ s.g.P ≤ s.g.G
 ·rw [validG_not hc] at hg; cases hg
 ·omega
theorem LendDare_ok (s:Stp) (t:Tkt) (m:List UInt8) {v:Value} (hm:m.length ≤ 100000000) (ht:TktR t) (hs:SetR w s v) (hL:Cd.Laid w) (k:∀ w',Below w.heap.size w w' → K (.int .i64 (lendM s t m)) w'):callM Tryz.prog 39 #[stpV s v,tktV t,.string ⟨m.toArray⟩] K w:=by
 apply sh_39_ok
 unfold sh_39
 obtain ⟨ad,c,rfl⟩:=hs.ints.isSlice
 refine box_kn (cs:=stpC s (.slice ad s.bases.length c)) rfl (.start w) fun b W hk hb1 hb=>?_
 refine box_kn (cs:=tktC t) rfl hk fun b2 W2 hk hb2 hbb=>?_
 unfold lendM at k
 refine Xa hk.cells ?_
 refine open_ok s (hs.next hk.below) (fun w2 h=>?_)
 have hk:=hk.next h
 clear h hb1 hb2
 refine Xb2_0 ?_
 refine local_desk' s ad s.bases.length c hk (fun b7 W7 hk hb7 hg7=>?_)
 cases hv:validS s with
 | false=>
  rw [hv,if_neg (by decide)] at k
  refine Xa0 ?_
  exact k _ hk.below
 | true=>
 rw [hv,if_pos rfl] at k
 obtain ⟨hq1,hq2⟩:=validS_bd hv
 have hr:=numberM_range (encT t ++ encText m) _ (lend_nums hq1 hq2)
 have ed:s.g.Q.tdiv 2 = s.g.Q / 2:=Int.tdiv_eq_ediv_of_nonneg (by omega)
 have e0:IntKind.i64.wrap (s.g.Q / 2) = s.g.Q / 2:=wrapI64 _ (by omega) (by omega)
 have e1:IntKind.i64.wrap (s.g.Q / 2 + 1) = s.g.Q / 2 + 1:=wrapI64 _ (by omega) (by omega)
 have e2:IntKind.i64.wrap (s.g.Q - 1) = s.g.Q - 1:=wrapI64 _ (by omega) (by omega)
 have e3:IntKind.i64.wrap (s.g.Q - 1 - s.g.Q / 2) = s.g.Q - 1 - s.g.Q / 2:=wrapI64 _ (by omega) (by omega)
 have e4:IntKind.i64.wrap (s.g.Q / 2 + 1 + numberM (encT t ++ encText m) (s.g.Q - 1 - s.g.Q / 2)) = s.g.Q / 2 + 1 + numberM (encT t ++ encText m) (s.g.Q - 1 - s.g.Q / 2):=wrapI64 _ (by omega) (by omega)
 refine Xa (An3 hk.cells @ed @e0) ?_
 have hk:=hk.drew
 refine ⟨Kn w _,hk,?_⟩
 repeat (any_goals (first
 | (with_reducible refine And.intro hk ?_)
 | (with_reducible refine pureH_in ?_)
 | ((with_reducible refine idOH ?_); (with_reducible refine oH_of ⟨_,rfl⟩ (fun W0 hW0=>by (refine oM_gen (fun Kv hK=>?_)); simp [go_sem,hW0.cells,e1,e2,e3]; (first | exact hK _ _ ⟨rfl,rfl⟩ | exact ⟨by omega,hK _ _ ⟨rfl,rfl⟩⟩)) ?_))))
 refine Encode_ok t ht (hL.below hk.below hL.size) (fun w3 h3=>?_)
 have hk:=hk.next h3
 refine ⟨hk,?_⟩
 clear h3
 refine Cd.pText_ok m (by omega) (hL.below hk.below hL.size) (fun w4 h4=>?_)
 have hk:=hk.next h4
 refine ⟨hk,?_⟩
 clear h4
 have hl1:=encM_len ht
 have hl2:=Cd.encText_len m (by omega)
 repeat (any_goals (first
 | (with_reducible refine And.intro hk ?_)
 | ((with_reducible refine oM_gen fun Kv hK=>?_); simp [go_sem]; refine And.intro (by omega) (hK _ _ ?_); clear hK Kv)))
 rw [encT_eq] at hl1 ⊢
 refine Number_ok (encT t ++ encText m) _ (by rw [List.length_append]; omega) (fun w5 h5=>?_)
 have hk:=hk.next h5
 clear h5
 refine ⟨hk,?_⟩
 repeat (any_goals (first
 | (with_reducible refine And.intro hk ?_)
 | ((with_reducible refine oM_gen fun Kv hK=>?_); simp [go_sem,e4]; refine hK _ _ ?_; clear hK Kv)))
 exact k _ hk.below
end
end Go.Proofs
namespace Go.Proofs
open Go Go.Sh Go.RowKit FdSpec TkSpec CodeSpec
section
variable {K:Value → World → Prop} {w w0:World} {L:List (Addr × Value)}
structure GrI (Wl w:World) (g:Nat) (T:TypeId) (cs:List Value) (ov:Value) (l:List Int):Prop where
 lt:g < Wl.heap.size
 fr:FrG g Wl w
 own:OwnI w Wl.heap.size ov l
 holds:Holds w g T cs
theorem GrI.next {Wl w1:World} {g:Nat} {T:TypeId} {cs:List Value} {ov:Value} {l:List Int} (h:GrI Wl w g T cs ov l) (hb:Below w.heap.size w w1):GrI Wl w1 g T cs ov l:=
 ⟨h.lt,h.fr.next hb,h.own.keep hb,h.holds.next hb⟩
theorem GrI.start {g:Nat} {T:TypeId} {cs:List Value} (hg:g < w.heap.size) (hh:Holds w g T cs):GrI w w g T cs (.slice none 0 0) []:=⟨hg,Fr.refl _ _,World.ownsRow_nil _ _ _ _,hh⟩
theorem gr_append {Wl:World} {g:Nat} {T T3:TypeId} {cs:List Value} {ov xv:Value} {l:List Int} {x:Int} (h:GrI Wl w g T cs ov l) (hx:Ints w xv [x]) (hl:l.length < 1099511627776)
  (k:∀ ad n c w',GrI Wl w' g T cs (.slice ad n c) (l ++ [x]) → K (.slice ad n c) w'):oM Tryz.prog (.call { callee:=.builtin .append,args:=#[.tmp 0,.tmp 1],argTypes:=#[22,22] }) T3 [ov,xv] K w:=by
 refine append1 h.own h.fr.size hx hl (fun v w' ho hb=>?_)
 obtain ⟨ad,c,rfl⟩:=owns_len ho
 have hlt:=h.lt
 refine k _ _ _ _ ⟨h.lt,h.fr.trans (S':=fun i=>Wl.heap.size ≤ i) ⟨hb.os,hb.tape,hb.output,hb.size,fun i hi hn=>hb.block i (by omega)⟩ (fun i h=>.inr h),ho,?_⟩
 have:=h.holds
 unfold Holds at this ⊢
 rw [hb.block g hlt]
 exact this
theorem gr_store {Wl:World} {g i:Nat} {T T3:TypeId} {cs:List Value} {l:List Int} {ad:Option Addr} {n c:Nat} (h:GrI Wl w g T cs (.slice ad n c) l) (hi:i < cs.length)
  (k:∀ w',GrI Wl w' g T (cs.set i (.slice ad n c)) (.slice ad n c) l → K undef w'):oM Tryz.prog (.store 22 (.tmp 0) (.tmp 1)) T3 [ptr g i,.slice ad n c] K w:=by
 refine arr_set sz_ints rfl rfl h.holds hi (fun w' hg hh=>?_)
 have hlt:=h.lt
 exact k _ ⟨h.lt,h.fr.by hg (fun i e=>.inl (Option.some.inj e).symm),owns_keep h.own (fun j hj=>hg.block j (owns_own h.own hj).1 (fun e=>by have:=(owns_own h.own hj).2.1; have:=Option.some.inj e; omega)),hh⟩
def grMu (n:Nat) (l:List Value) (_:World):Nat:=match l with | [_,.int _ i]=>n - i.toNat | _=>0
theorem grMu_eq (n:Nat) (u:Value) (k:IntKind) (i:Int) (w:World):grMu n [u,.int k i] w = n - i.toNat:=rfl
@[reducible] def mirV (m:Mir) (v:Value):Value:=.agg #[v,.int .i64 m.blind]
@[reducible] def mirC (m:Mir) (v:Value):List Value:=[v,.int .i64 m.blind]
structure MirR (w:World) (m:Mir) (v:Value):Prop where
 ints:Ints w v m.bases
 blind:I64 m.blind
theorem MirR.next {w1:World} {m:Mir} {v:Value} (h:MirR w m v) (hb:Below w.heap.size w w1):MirR w1 m v:=⟨h.ints.next hb,h.blind⟩
end
end Go.Proofs
namespace Go.Proofs
open Go Go.Sh Go.RowKit FdSpec TkSpec CodeSpec
section
variable {K:Value → World → Prop} {w w0:World} {L:List (Addr × Value)}
end
end Go.Proofs
namespace Go.Proofs
open Go Go.Sh Go.RowKit FdSpec TkSpec CodeSpec
section
variable {K:Value → World → Prop} {w w0:World} {L:List (Addr × Value)}
end
end Go.Proofs
namespace Go.Proofs
open Go Go.Sh Go.RowKit FdSpec TkSpec CodeSpec
section
variable {K:Value → World → Prop} {w w0:World} {L:List (Addr × Value)}
@[reducible] def sesV (x:Ses) (v:Value):Value:=.agg #[v,.int .i64 x.offer.z,.int .i64 x.offer.a,.int .i64 x.offer.b,.int .i64 x.c,.int .i64 x.r]
@[reducible] def sesC (x:Ses) (v:Value):List Value:=[v,.int .i64 x.offer.z,.int .i64 x.offer.a,.int .i64 x.offer.b,.int .i64 x.c,.int .i64 x.r]
structure SesR (w:World) (x:Ses) (v:Value):Prop where
 attrs:Ints w v x.attrs
 offer:OffR x.offer
 c:I64 x.c
 r:I64 x.r
theorem SesR.next {w1:World} {x:Ses} {v:Value} (h:SesR w x v) (hb:Below w.heap.size w w1):SesR w1 x v:=⟨h.attrs.next hb,h.offer,h.c,h.r⟩
end
end Go.Proofs
namespace Go.Proofs
open Go Go.Sh Go.RowKit FdSpec TkSpec CodeSpec
section
variable {K:Value → World → Prop} {w w0:World} {L:List (Addr × Value)}
end
end Go.Proofs
namespace Go.Proofs
open Go Go.Sh Go.RowKit FdSpec TkSpec CodeSpec
section
variable {K:Value → World → Prop} {w w0:World} {L:List (Addr × Value)}
end
end Go.Proofs
namespace Go.Proofs
open Go Go.Sh Go.RowKit FdSpec TkSpec CodeSpec
section
variable {K:Value → World → Prop} {w w0:World} {L:List (Addr × Value)}
theorem take_snoc' {al:List Int} {i:Nat} {x:Int} (h:al[i]? = some x):al.take i ++ [x] = al.take (i + 1):=by
 rw [List.take_add_one,h]; rfl
end
end Go.Proofs
namespace Go.Proofs
open Go Go.Sh Go.RowKit FdSpec TkSpec CodeSpec
section
variable {K:Value → World → Prop} {w w0:World} {L:List (Addr × Value)}
@[reducible] def lnkC (x:Lnk) (v:Value):List Value:=[.int .i64 x.ticket.mark,.int .i64 x.ticket.first,.int .i64 x.ticket.z,.int .i64 x.ticket.a,.int .i64 x.ticket.b,.int .i64 x.ticket.r,.int .i64 x.spend.dare,v,.string ⟨x.terms.toArray⟩]
@[reducible] def lnkV (x:Lnk) (v:Value):Value:=.agg #[.int .i64 x.ticket.mark,.int .i64 x.ticket.first,.int .i64 x.ticket.z,.int .i64 x.ticket.a,.int .i64 x.ticket.b,.int .i64 x.ticket.r,.int .i64 x.spend.dare,v,.string ⟨x.terms.toArray⟩]
def LnkAt (w:World) (b p:Nat) (x:Lnk) (v:Value):Prop:=
 w.cell? ⟨b,p,none⟩ = some (.int .i64 x.ticket.mark) ∧ w.cell? ⟨b,p + 1,none⟩ = some (.int .i64 x.ticket.first) ∧ w.cell? ⟨b,p + 2,none⟩ = some (.int .i64 x.ticket.z) ∧ w.cell? ⟨b,p + 3,none⟩ = some (.int .i64 x.ticket.a) ∧
 w.cell? ⟨b,p + 4,none⟩ = some (.int .i64 x.ticket.b) ∧ w.cell? ⟨b,p + 5,none⟩ = some (.int .i64 x.ticket.r) ∧ w.cell? ⟨b,p + 6,none⟩ = some (.int .i64 x.spend.dare) ∧ w.cell? ⟨b,p + 7,none⟩ = some v ∧ w.cell? ⟨b,p + 8,none⟩ = some (.string ⟨x.terms.toArray⟩)
theorem LnkAt.next {w':World} {b p:Nat} {x:Lnk} {v:Value} (h:LnkAt w b p x v) (hb:Below w.heap.size w w') (hlt:b < w.heap.size):LnkAt w' b p x v:=by
 have e:∀ k,w'.cell? ⟨b,k,none⟩ = w.cell? ⟨b,k,none⟩:=fun k=>by rw [hb.cell hlt]
 unfold LnkAt at h ⊢
 simp only [e]
 exact h
structure LnkRow (w:World) (v:Value) (l:List Lnk):Prop where
 row:∃ ad c,v = .slice ad l.length c ∧ (l = [] ∨ ∃ b o,ad = some ⟨b,o,none⟩ ∧ b < w.heap.size ∧ ∀ (i:Nat) (h:i < l.length),∃ av,SpdR w l[i].spend av ∧ LnkAt w b (o + i * 9) l[i] av)
 tk:∀ x ∈ l,TktR x.ticket
 tx:∀ x ∈ l,x.terms.length ≤ 9223372036854775807
 len:l.length ≤ 9223372036854775807
theorem LnkRow.next {w':World} {v:Value} {l:List Lnk} (h:LnkRow w v l) (hb:Below w.heap.size w w'):LnkRow w' v l:=by
 obtain ⟨⟨ad,c,rfl,h1⟩,h2,h3,h4⟩:=h
 refine ⟨⟨ad,c,rfl,h1.imp id ?_⟩,h2,h3,h4⟩
 rintro ⟨b,o,rfl,hlt,hc⟩
 refine ⟨b,o,rfl,Nat.lt_of_lt_of_le hlt hb.size,fun i hi=>?_⟩
 obtain ⟨av,h5,h6⟩:=hc i hi
 exact ⟨av,h5.next hb,h6.next hb hlt⟩
theorem LnkRow.isSlice {v:Value} {l:List Lnk} (h:LnkRow w v l):∃ ad c,v = .slice ad l.length c:=by
 obtain ⟨⟨ad,c,rfl,_⟩,_⟩:=h; exact ⟨ad,c,rfl⟩
theorem LnkRow.at {ad:Option Addr} {n c:Nat} {l:List Lnk} (h:LnkRow w (.slice ad n c) l) {i:Nat} (hi:i < l.length) :
  ∃ b o av,ad = some ⟨b,o,none⟩ ∧ (∀ w',Below w.heap.size w w' → LnkAt w' b (o + i * 9) l[i] av) ∧ SpdR w l[i].spend av ∧ TktR l[i].ticket ∧ l[i].terms.length ≤ 9223372036854775807:=by
 obtain ⟨⟨ad',c',hv,h1⟩,h2,h3,h4⟩:=h
 cases hv
 rcases h1 with rfl | ⟨b,o,rfl,hlt,hc⟩
 ·simp at hi
 ·obtain ⟨av,h5,h6⟩:=hc i hi
  exact ⟨b,o,av,rfl,fun w' hb=>h6.next hb hlt,h5,h2 _ (List.getElem_mem hi),h3 _ (List.getElem_mem hi)⟩
@[go_sem] theorem idx_lnk (T:TypeId) (b o n c:Nat) (x:Int):oM Tryz.prog (.indexAddr 85 (.tmp 0) (.tmp 1)) T [.slice (some ⟨b,o,none⟩) n c,.int .i64 x] = onM (0 ≤ x ∧ x < n) (.pointer (some ⟨b,o + x.toNat * 9,none⟩)):=by
 funext K w
 rw [oM_indexAddr,run_indexAt_slice (h:=by kernel_rfl)]
 have hs:(sizeOf (Tryz.prog.elem 85)).run Tryz.prog w = .ok 9 w:=by kernel_rfl
 by_cases hi:0 ≤ x ∧ x < n
 ·rw [if_pos hi,hs]
  simp only [Result.andThen,add_none,rM_ok]
  exact propext ⟨fun h=>⟨hi,h⟩,fun h=>h.2⟩
 ·rw [if_neg hi]
  obtain ⟨e',w',he⟩:=halts Value Tryz.prog .i64 x n .index w
  rw [he]
  exact propext ⟨fun h=>h.elim,fun h=>hi h.1⟩
end
end Go.Proofs
namespace Go.Proofs
open Go Go.Sh Go.RowKit FdSpec TkSpec CodeSpec
section
variable {K:Value → World → Prop} {w w0:World} {L:List (Addr × Value)}
end
end Go.Proofs
namespace Go.Proofs
open Go.Sh Tryz
def sh_109 (a0 a1 a2:Value) (K:Value → World → Prop) (w:World):Prop:=
 callM prog 154 #[a0] (fun v8 w=>
 oM prog (.unOp .not 4 (.tmp 0)) 4 [v8] (fun v9 w=>
 condM v9
 (K (.int .i64 0) w)
 (callM prog 155 #[a0,a1] (fun v12 w=>
 callM prog 155 #[a0,a2] (fun v15 w=>
 oM prog (.binOp .add 3 (.tmp 0) (.tmp 1) 3) 3 [v12,v15] (fun v16 w=>
 oM prog (.binOp .rem 3 (.tmp 0) (.tmp 1) 3) 3 [v16,a0] (fun v18 w=>
 K v18 w) w) w) w) w)) w) w
theorem sh_109_ok {a0 a1 a2:Value} {K:Value → World → Prop} {w:World} (h:sh_109 a0 a1 a2 K w):callM prog 109 #[a0,a1,a2] K w:=
 calls_of_code (fun _=>0) (fn:=Tryz.f109) (rs:=[.tmp 6]) Tryz.func109 rfl rfl (by kernel_rfl) (Nat.le_of_ble_eq_true rfl) (Eq.mp (by kernel_rfl) h)
def sh_104 (a0 a1 a2:Value) (K:Value → World → Prop) (w:World):Prop:=
 callM prog 154 #[a0] (fun v8 w=>
 oM prog (.unOp .not 4 (.tmp 0)) 4 [v8] (fun v9 w=>
 condM v9
 (K (.int .i64 0) w)
 (callM prog 155 #[a0,a1] (fun v12 w=>
 oM prog (.binOp .add 3 (.tmp 0) (.tmp 1) 3) 3 [v12,a0] (fun v14 w=>
 callM prog 155 #[a0,a2] (fun v17 w=>
 oM prog (.binOp .sub 3 (.tmp 0) (.tmp 1) 3) 3 [v14,v17] (fun v18 w=>
 oM prog (.binOp .rem 3 (.tmp 0) (.tmp 1) 3) 3 [v18,a0] (fun v20 w=>
 K v20 w) w) w) w) w) w)) w) w
theorem sh_104_ok {a0 a1 a2:Value} {K:Value → World → Prop} {w:World} (h:sh_104 a0 a1 a2 K w):callM prog 104 #[a0,a1,a2] K w:=
 calls_of_code (fun _=>0) (fn:=Tryz.f104) (rs:=[.tmp 6]) Tryz.func104 rfl rfl (by kernel_rfl) (Nat.le_of_ble_eq_true rfl) (Eq.mp (by kernel_rfl) h)
def sh_164 (a0 a1 a2:Value) (K:Value → World → Prop) (w:World):Prop:=
 oM prog (.box 30 (.tmp 0)) 0 [a0] (fun v3 w=>
 oM prog (.fieldAddr 30 (.tmp 0) 0) 0 [v3] (fun v7 w=>
 oM prog (.load 3 (.tmp 0)) 3 [v7] (fun v8 w=>
 callM prog 154 #[v8] (fun v9 w=>
 oM prog (.unOp .not 4 (.tmp 0)) 4 [v9] (fun v10 w=>
 gdM (gd v10 false) (oM prog (.fieldAddr 30 (.tmp 0) 1) 0 [v3]) (fun v12 w=>
 gdM (gd v10 false) (oM prog (.load 3 (.tmp 0)) 3 [v12]) (fun v13 w=>
 gdM (gd v10 false) (callM prog 154 #[v13]) (fun v14 w=>
 gdM (gd v10 false) (oM prog (.unOp .not 4 (.tmp 0)) 4 [v14]) (fun v15 w=>
 oM prog (.pick (.tmp 0) (.tmp 1) (.tmp 2)) 4 [v10,(.bool true),v15] (fun v16 w=>
 condM v16
 (K (.int .i64 0) w)
 (heldM w (fun C_11 w=>(((true:Bool) = true) ∧ (oH prog (.fieldAddr 30 (.tmp 0) 0) 0 [v3] C_11 (fun v17=>
 oH prog (.load 3 (.tmp 0)) 3 [v17] C_11 (fun v18=>
 pureH a1 C_11 (fun v19=>
 oH prog (.fieldAddr 30 (.tmp 0) 1) 0 [v3] C_11 (fun v20=>
 oH prog (.load 3 (.tmp 0)) 3 [v20] C_11 (fun v21=>
 pureH a2 C_11 (fun v22=>
 ∃ S_18:World → World → Prop,∀ w,C_11 w → (
 callM prog 155 #[v21,v22] (fun v23 w=>C_11 w ∧ (
 callM prog 189 #[v18,v19,v23] (fun v24 w=>C_11 w ∧ (
 C_11 w ∧ (K v24 w))) w)) w)))))))))))) w) w) w) w) w) w) w) w) w) w
theorem sh_164_ok {a0 a1 a2:Value} {K:Value → World → Prop} {w:World} (h:sh_164 a0 a1 a2 K w):callM prog 164 #[a0,a1,a2] K w:=
 calls_of_code (fun _=>.mono [0,1,2,3,4,5] [] [6,7,8]) (fn:=Tryz.f164) (rs:=[.tmp 6]) Tryz.func164 rfl rfl (by kernel_rfl) (Nat.le_of_ble_eq_true rfl) (Eq.mp (by kernel_rfl) h)
def sh_156 (a0:Value) (K:Value → World → Prop) (w:World):Prop:=
 oM prog (.box 30 (.tmp 0)) 0 [a0] (fun v1 w=>
 oM prog (.fieldAddr 30 (.tmp 0) 1) 0 [v1] (fun v3 w=>
 oM prog (.load 3 (.tmp 0)) 3 [v3] (fun v4 w=>
 oM prog (.binOp .lss 3 (.tmp 0) (.tmp 1) 3) 4 [v4,(.int .i64 5)] (fun v5 w=>
 gdM (gd v5 false) (oM prog (.fieldAddr 30 (.tmp 0) 1) 0 [v1]) (fun v7 w=>
 gdM (gd v5 false) (oM prog (.load 3 (.tmp 0)) 3 [v7]) (fun v8 w=>
 gdM (gd v5 false) (oM prog (.binOp .geq 3 (.tmp 0) (.tmp 1) 3) 4 [v8,(.int .i64 1152921504606846976)]) (fun v9 w=>
 oM prog (.pick (.tmp 0) (.tmp 1) (.tmp 2)) 4 [v5,(.bool true),v9] (fun v10 w=>
 gdM (gd v10 false) (oM prog (.fieldAddr 30 (.tmp 0) 0) 0 [v1]) (fun v12 w=>
 gdM (gd v10 false) (oM prog (.load 3 (.tmp 0)) 3 [v12]) (fun v13 w=>
 gdM (gd v10 false) (oM prog (.fieldAddr 30 (.tmp 0) 1) 0 [v1]) (fun v14 w=>
 gdM (gd v10 false) (oM prog (.load 3 (.tmp 0)) 3 [v14]) (fun v15 w=>
 gdM (gd v10 false) (oM prog (.binOp .mul 3 (.tmp 0) (.tmp 1) 3) 3 [(.int .i64 2),v15]) (fun v16 w=>
 gdM (gd v10 false) (oM prog (.binOp .add 3 (.tmp 0) (.tmp 1) 3) 3 [v16,(.int .i64 1)]) (fun v17 w=>
 gdM (gd v10 false) (oM prog (.binOp .neq 3 (.tmp 0) (.tmp 1) 3) 4 [v13,v17]) (fun v18 w=>
 oM prog (.pick (.tmp 0) (.tmp 1) (.tmp 2)) 4 [v10,(.bool true),v18] (fun v19 w=>
 gdM (gd v19 false) (oM prog (.fieldAddr 30 (.tmp 0) 0) 0 [v1]) (fun v21 w=>
 gdM (gd v19 false) (oM prog (.load 3 (.tmp 0)) 3 [v21]) (fun v22 w=>
 gdM (gd v19 false) (oM prog (.binOp .geq 3 (.tmp 0) (.tmp 1) 3) 4 [v22,(.int .i64 2305843009213693952)]) (fun v23 w=>
 oM prog (.pick (.tmp 0) (.tmp 1) (.tmp 2)) 4 [v19,(.bool true),v23] (fun v24 w=>
 gdM (gd v24 false) (oM prog (.fieldAddr 30 (.tmp 0) 2) 0 [v1]) (fun v26 w=>
 gdM (gd v24 false) (oM prog (.load 3 (.tmp 0)) 3 [v26]) (fun v27 w=>
 gdM (gd v24 false) (oM prog (.binOp .lss 3 (.tmp 0) (.tmp 1) 3) 4 [v27,(.int .i64 2)]) (fun v28 w=>
 oM prog (.pick (.tmp 0) (.tmp 1) (.tmp 2)) 4 [v24,(.bool true),v28] (fun v29 w=>
 gdM (gd v29 false) (oM prog (.fieldAddr 30 (.tmp 0) 2) 0 [v1]) (fun v31 w=>
 gdM (gd v29 false) (oM prog (.load 3 (.tmp 0)) 3 [v31]) (fun v32 w=>
 gdM (gd v29 false) (oM prog (.fieldAddr 30 (.tmp 0) 0) 0 [v1]) (fun v33 w=>
 gdM (gd v29 false) (oM prog (.load 3 (.tmp 0)) 3 [v33]) (fun v34 w=>
 gdM (gd v29 false) (oM prog (.binOp .geq 3 (.tmp 0) (.tmp 1) 3) 4 [v32,v34]) (fun v35 w=>
 oM prog (.pick (.tmp 0) (.tmp 1) (.tmp 2)) 4 [v29,(.bool true),v35] (fun v36 w=>
 condM v36
 (K (.bool false) w)
 (oM prog (.fieldAddr 30 (.tmp 0) 1) 0 [v1] (fun v37 w=>
 oM prog (.load 3 (.tmp 0)) 3 [v37] (fun v38 w=>
 callM prog 188 #[v38] (fun v39 w=>
 gdM (gd v39 true) (oM prog (.fieldAddr 30 (.tmp 0) 0) 0 [v1]) (fun v41 w=>
 gdM (gd v39 true) (oM prog (.load 3 (.tmp 0)) 3 [v41]) (fun v42 w=>
 gdM (gd v39 true) (callM prog 188 #[v42]) (fun v43 w=>
 oM prog (.pick (.tmp 0) (.tmp 1) (.tmp 2)) 4 [v39,v43,(.bool false)] (fun v44 w=>
 gdM (gd v44 true) (oM prog (.fieldAddr 30 (.tmp 0) 0) 0 [v1]) (fun v46 w=>
 gdM (gd v44 true) (oM prog (.load 3 (.tmp 0)) 3 [v46]) (fun v47 w=>
 gdM (gd v44 true) (oM prog (.fieldAddr 30 (.tmp 0) 2) 0 [v1]) (fun v48 w=>
 gdM (gd v44 true) (oM prog (.load 3 (.tmp 0)) 3 [v48]) (fun v49 w=>
 gdM (gd v44 true) (oM prog (.fieldAddr 30 (.tmp 0) 1) 0 [v1]) (fun v50 w=>
 gdM (gd v44 true) (oM prog (.load 3 (.tmp 0)) 3 [v50]) (fun v51 w=>
 gdM (gd v44 true) (callM prog 189 #[v47,v49,v51]) (fun v52 w=>
 gdM (gd v44 true) (oM prog (.binOp .eql 3 (.tmp 0) (.const (.int .i64 1)) 3) 4 [v52]) (fun v53 w=>
 oM prog (.pick (.tmp 0) (.tmp 1) (.tmp 2)) 4 [v44,v53,(.bool false)] (fun v54 w=>
 K v54 w) w) w) w) w) w) w) w) w) w) w) w) w) w) w) w) w)) w) w) w) w) w) w) w) w) w) w) w) w) w) w) w) w) w) w) w) w) w) w) w) w) w) w) w) w) w) w
theorem sh_156_ok {a0:Value} {K:Value → World → Prop} {w:World} (h:sh_156 a0 K w):callM prog 156 #[a0] K w:=
 calls_of_code (fun _=>0) (fn:=Tryz.f156) (rs:=[.tmp 2]) Tryz.func156 rfl rfl (by kernel_rfl) (Nat.le_of_ble_eq_true rfl) (Eq.mp (by kernel_rfl) h)
def sh_163 (a0 a1:Value) (K:Value → World → Prop) (w:World):Prop:=
 oM prog (.box 30 (.tmp 0)) 0 [a0] (fun v2 w=>
 oM prog (.binOp .geq 3 (.tmp 0) (.tmp 1) 3) 4 [a1,(.int .i64 1)] (fun v6 w=>
 gdM (gd v6 true) (pureM a1) (fun v8 w=>
 gdM (gd v6 true) (oM prog (.fieldAddr 30 (.tmp 0) 0) 0 [v2]) (fun v9 w=>
 gdM (gd v6 true) (oM prog (.load 3 (.tmp 0)) 3 [v9]) (fun v10 w=>
 gdM (gd v6 true) (oM prog (.binOp .lss 3 (.tmp 0) (.tmp 1) 3) 4 [v8,v10]) (fun v11 w=>
 oM prog (.pick (.tmp 0) (.tmp 1) (.tmp 2)) 4 [v6,v11,(.bool false)] (fun v12 w=>
 gdM (gd v12 true) (oM prog (.fieldAddr 30 (.tmp 0) 0) 0 [v2]) (fun v14 w=>
 gdM (gd v12 true) (oM prog (.load 3 (.tmp 0)) 3 [v14]) (fun v15 w=>
 gdM (gd v12 true) (pureM a1) (fun v16 w=>
 gdM (gd v12 true) (oM prog (.fieldAddr 30 (.tmp 0) 1) 0 [v2]) (fun v17 w=>
 gdM (gd v12 true) (oM prog (.load 3 (.tmp 0)) 3 [v17]) (fun v18 w=>
 gdM (gd v12 true) (callM prog 189 #[v15,v16,v18]) (fun v19 w=>
 gdM (gd v12 true) (oM prog (.binOp .eql 3 (.tmp 0) (.const (.int .i64 1)) 3) 4 [v19]) (fun v20 w=>
 oM prog (.pick (.tmp 0) (.tmp 1) (.tmp 2)) 4 [v12,v20,(.bool false)] (fun v21 w=>
 K v21 w) w) w) w) w) w) w) w) w) w) w) w) w) w) w) w
theorem sh_163_ok {a0 a1:Value} {K:Value → World → Prop} {w:World} (h:sh_163 a0 a1 K w):callM prog 163 #[a0,a1] K w:=
 calls_of_code (fun _=>0) (fn:=Tryz.f163) (rs:=[.tmp 4]) Tryz.func163 rfl rfl (by kernel_rfl) (Nat.le_of_ble_eq_true rfl) (Eq.mp (by kernel_rfl) h)
def sh_152 (a0 a1:Value) (K:Value → World → Prop) (w:World):Prop:=
 callM prog 154 #[a0] (fun v14 w=>
 oM prog (.unOp .not 4 (.tmp 0)) 4 [v14] (fun v15 w=>
 condM v15
 (K (.tuple #[(.int .i64 0),(.bool false)]) w)
 (callM prog 155 #[a0,a1] (fun v19 w=>
 oM prog (.binOp .rem 3 (.tmp 0) (.tmp 1) 3) 3 [(.int .i64 1),a0] (fun v21 w=>
 loopM [undef,undef,undef,a0,v19,(.int .i64 0),v21] w (fun J_5 m_6 l_7 u_l_7 w0_l_7=>(fun w=>(
 oM prog (.binOp .neq 3 (.tmp 0) (.const (.int .i64 0)) 3) 4 [(l_7.getD 4 undef)] (fun v23 w=>
 condM v23
 (oM prog (.binOp .quo 3 (.tmp 0) (.tmp 1) 3) 3 [(l_7.getD 3 undef),(l_7.getD 4 undef)] (fun v26 w=>
 oM prog (.binOp .mul 3 (.tmp 0) (.tmp 1) 3) 3 [v26,(l_7.getD 4 undef)] (fun v30 w=>
 oM prog (.binOp .sub 3 (.tmp 0) (.tmp 1) 3) 3 [(l_7.getD 3 undef),v30] (fun v31 w=>
 callM prog 153 #[a0,v26,(l_7.getD 6 undef)] (fun v37 w=>
 callM prog 104 #[a0,(l_7.getD 5 undef),v37] (fun v38 w=>
 J_5 [v26,v31,v38,(l_7.getD 4 undef),v31,(l_7.getD 6 undef),v38] w ∧ m_6 [v26,v31,v38,(l_7.getD 4 undef),v31,(l_7.getD 6 undef),v38] w < m_6 l_7 w0_l_7) w) w) w) w) w)
 (oM prog (.binOp .neq 3 (.tmp 0) (.const (.int .i64 1)) 3) 4 [(l_7.getD 3 undef)] (fun v44 w=>
 condM v44
 (K (.tuple #[(.int .i64 0),(.bool false)]) w)
 (oM prog (.binOp .rem 3 (.tmp 0) (.tmp 1) 3) 3 [(l_7.getD 5 undef),a0] (fun v47 w=>
 K (.tuple #[v47,(.bool true)]) w) w)) w)) w)) w0_l_7)) w) w)) w) w
theorem sh_152_ok {a0 a1:Value} {K:Value → World → Prop} {w:World} (h:sh_152 a0 a1 K w):callM prog 152 #[a0,a1] K w:=
 calls_of_code (fun _=>0) (fn:=Tryz.f152) (rs:=[.tmp 4,.tmp 5]) Tryz.func152 rfl rfl (by kernel_rfl) (Nat.le_of_ble_eq_true rfl) (Eq.mp (by kernel_rfl) h)
def sh_165 (a0 a1 a2:Value) (K:Value → World → Prop) (w:World):Prop:=
 oM prog (.box 30 (.tmp 0)) 0 [a0] (fun v3 w=>
 oM prog (.fieldAddr 30 (.tmp 0) 1) 0 [v3] (fun v7 w=>
 oM prog (.load 3 (.tmp 0)) 3 [v7] (fun v8 w=>
 callM prog 154 #[v8] (fun v9 w=>
 oM prog (.unOp .not 4 (.tmp 0)) 4 [v9] (fun v10 w=>
 condM v10
 (K (.int .i64 0) w)
 (oM prog (.fieldAddr 30 (.tmp 0) 0) 0 [v3] (fun v11 w=>
 oM prog (.load 3 (.tmp 0)) 3 [v11] (fun v12 w=>
 callM prog 153 #[v12,a1,a2] (fun v15 w=>
 K v15 w) w) w) w)) w) w) w) w) w
theorem sh_165_ok {a0 a1 a2:Value} {K:Value → World → Prop} {w:World} (h:sh_165 a0 a1 a2 K w):callM prog 165 #[a0,a1,a2] K w:=
 calls_of_code (fun _=>0) (fn:=Tryz.f165) (rs:=[.tmp 6]) Tryz.func165 rfl rfl (by kernel_rfl) (Nat.le_of_ble_eq_true rfl) (Eq.mp (by kernel_rfl) h)
def sh_154 (a0:Value) (K:Value → World → Prop) (w:World):Prop:=
 oM prog (.binOp .geq 3 (.tmp 0) (.tmp 1) 3) 4 [a0,(.int .i64 1)] (fun v4 w=>
 gdM (gd v4 true) (pureM a0) (fun v6 w=>
 gdM (gd v4 true) (oM prog (.binOp .lss 3 (.tmp 0) (.tmp 1) 3) 4 [v6,(.int .i64 2305843009213693952)]) (fun v7 w=>
 oM prog (.pick (.tmp 0) (.tmp 1) (.tmp 2)) 4 [v4,v7,(.bool false)] (fun v8 w=>
 K v8 w) w) w) w) w
theorem sh_154_ok {a0:Value} {K:Value → World → Prop} {w:World} (h:sh_154 a0 K w):callM prog 154 #[a0] K w:=
 calls_of_code (fun _=>0) (fn:=Tryz.f154) (rs:=[.tmp 2]) Tryz.func154 rfl rfl (by kernel_rfl) (Nat.le_of_ble_eq_true rfl) (Eq.mp (by kernel_rfl) h)
def sh_155 (a0 a1:Value) (K:Value → World → Prop) (w:World):Prop:=
 oM prog (.binOp .rem 3 (.tmp 0) (.tmp 1) 3) 3 [a1,a0] (fun v8 w=>
 joinM (fun M_2=>(oM prog (.binOp .lss 3 (.tmp 0) (.tmp 1) 3) 4 [v8,(.int .i64 0)] (fun v10 w=>
 condM v10
 (oM prog (.binOp .add 3 (.tmp 0) (.tmp 1) 3) 3 [v8,a0] (fun v13 w=>
 M_2 [v13] w) w)
 (M_2 [v8] w)) w))
 (fun l_3 u_l_3 w=>(K (l_3.getD 0 undef) w))) w
theorem sh_155_ok {a0 a1:Value} {K:Value → World → Prop} {w:World} (h:sh_155 a0 a1 K w):callM prog 155 #[a0,a1] K w:=
 calls_of_code (fun _=>0) (fn:=Tryz.f155) (rs:=[.tmp 4]) Tryz.func155 rfl rfl (by kernel_rfl) (Nat.le_of_ble_eq_true rfl) (Eq.mp (by kernel_rfl) h)
def sh_153 (a0 a1 a2:Value) (K:Value → World → Prop) (w:World):Prop:=
 callM prog 154 #[a0] (fun v14 w=>
 oM prog (.unOp .not 4 (.tmp 0)) 4 [v14] (fun v15 w=>
 condM v15
 (K (.int .i64 0) w)
 (callM prog 155 #[a0,a1] (fun v18 w=>
 callM prog 155 #[a0,a2] (fun v21 w=>
 oM prog (.binOp .leq 3 (.tmp 0) (.tmp 1) 3) 4 [a0,(.int .i64 2147483648)] (fun v23 w=>
 condM v23
 (oM prog (.binOp .mul 3 (.tmp 0) (.tmp 1) 3) 3 [v18,v21] (fun v26 w=>
 oM prog (.binOp .rem 3 (.tmp 0) (.tmp 1) 3) 3 [v26,a0] (fun v28 w=>
 K v28 w) w) w)
 (loopM [(.int .i64 0),undef,undef,(.int .i64 60)] w (fun J_8 m_9 l_10 u_l_10 w0_l_10=>(fun w=>(
 oM prog (.binOp .geq 3 (.tmp 0) (.tmp 1) 3) 4 [(l_10.getD 3 undef),(.int .i64 0)] (fun v30 w=>
 condM v30
 (oM prog (.binOp .mul 3 (.tmp 0) (.tmp 1) 3) 3 [(.int .i64 4),(l_10.getD 0 undef)] (fun v34 w=>
 oM prog (.binOp .rem 3 (.tmp 0) (.tmp 1) 3) 3 [v34,a0] (fun v36 w=>
 oM prog (.binOp .shr 3 (.tmp 0) (.tmp 1) 3) 3 [v21,(l_10.getD 3 undef)] (fun v39 w=>
 oM prog (.binOp .and 3 (.tmp 0) (.tmp 1) 3) 3 [v39,(.int .i64 3)] (fun v40 w=>
 loopM [v36,(.int .i64 0)] w (fun J_16 m_17 l_18 u_l_18 w0_l_18=>(fun w=>(
 oM prog (.binOp .lss 3 (.tmp 0) (.tmp 1) 3) 4 [(l_18.getD 1 undef),v40] (fun v43 w=>
 condM v43
 (oM prog (.binOp .add 3 (.tmp 0) (.tmp 1) 3) 3 [(l_18.getD 0 undef),v18] (fun v48 w=>
 oM prog (.binOp .rem 3 (.tmp 0) (.tmp 1) 3) 3 [v48,a0] (fun v50 w=>
 oM prog (.binOp .add 3 (.tmp 0) (.tmp 1) 3) 3 [(l_18.getD 1 undef),(.int .i64 1)] (fun v45 w=>
 J_16 [v50,v45] w ∧ m_17 [v50,v45] w < m_17 l_18 w0_l_18) w) w) w)
 (oM prog (.binOp .sub 3 (.tmp 0) (.tmp 1) 3) 3 [(l_10.getD 3 undef),(.int .i64 2)] (fun v32 w=>
 J_8 [(l_18.getD 0 undef),v40,(l_18.getD 1 undef),v32] w ∧ m_9 [(l_18.getD 0 undef),v40,(l_18.getD 1 undef),v32] w < m_9 l_10 w0_l_10) w)) w)) w0_l_18)) w) w) w) w)
 (K (l_10.getD 0 undef) w)) w)) w0_l_10))) w) w) w)) w) w
theorem sh_153_ok {a0 a1 a2:Value} {K:Value → World → Prop} {w:World} (h:sh_153 a0 a1 a2 K w):callM prog 153 #[a0,a1,a2] K w:=
 calls_of_code (fun _=>0) (fn:=Tryz.f153) (rs:=[.tmp 6]) Tryz.func153 rfl rfl (by kernel_rfl) (Nat.le_of_ble_eq_true rfl) (Eq.mp (by kernel_rfl) h)
def sh_166 (a0 a1 a2:Value) (K:Value → World → Prop) (w:World):Prop:=
 oM prog (.box 30 (.tmp 0)) 0 [a0] (fun v3 w=>
 oM prog (.fieldAddr 30 (.tmp 0) 0) 0 [v3] (fun v10 w=>
 oM prog (.load 3 (.tmp 0)) 3 [v10] (fun v11 w=>
 callM prog 154 #[v11] (fun v12 w=>
 oM prog (.unOp .not 4 (.tmp 0)) 4 [v12] (fun v13 w=>
 gdM (gd v13 false) (oM prog (.fieldAddr 30 (.tmp 0) 1) 0 [v3]) (fun v15 w=>
 gdM (gd v13 false) (oM prog (.load 3 (.tmp 0)) 3 [v15]) (fun v16 w=>
 gdM (gd v13 false) (callM prog 154 #[v16]) (fun v17 w=>
 gdM (gd v13 false) (oM prog (.unOp .not 4 (.tmp 0)) 4 [v17]) (fun v18 w=>
 oM prog (.pick (.tmp 0) (.tmp 1) (.tmp 2)) 4 [v13,(.bool true),v18] (fun v19 w=>
 gdM (gd v19 false) (pureM a1) (fun v21 w=>
 gdM (gd v19 false) (oM prog (.call (Go.Call.mk (.builtin .len) #[(.tmp 0)] #[22])) 3 [v21]) (fun v22 w=>
 gdM (gd v19 false) (pureM a2) (fun v23 w=>
 gdM (gd v19 false) (oM prog (.call (Go.Call.mk (.builtin .len) #[(.tmp 0)] #[22])) 3 [v23]) (fun v24 w=>
 gdM (gd v19 false) (oM prog (.binOp .neq 3 (.tmp 0) (.tmp 1) 3) 4 [v22,v24]) (fun v25 w=>
 oM prog (.pick (.tmp 0) (.tmp 1) (.tmp 2)) 4 [v19,(.bool true),v25] (fun v26 w=>
 condM v26
 (K (.tuple #[(.int .i64 0),(.bool false)]) w)
 (oM prog (.fieldAddr 30 (.tmp 0) 0) 0 [v3] (fun v27 w=>
 oM prog (.load 3 (.tmp 0)) 3 [v27] (fun v28 w=>
 oM prog (.binOp .rem 3 (.tmp 0) (.tmp 1) 3) 3 [(.int .i64 1),v28] (fun v29 w=>
 loopM [v29,(.int .i64 0)] w (fun J_20 m_21 l_22 u_l_22 w0_l_22=>(fun w=>(
 oM prog (.call (Go.Call.mk (.builtin .len) #[(.tmp 0)] #[22])) 3 [a1] (fun v32 w=>
 oM prog (.binOp .lss 3 (.tmp 0) (.tmp 1) 3) 4 [(l_22.getD 1 undef),v32] (fun v33 w=>
 condM v33
 (quietM w (fun C_25=>(oQ prog (.fieldAddr 30 (.tmp 0) 0) 0 [v3] C_25 (fun v36=>
 oQ prog (.load 3 (.tmp 0)) 3 [v36] C_25 (fun v37=>
 oQ prog (.load 30 (.tmp 0)) 30 [v3] C_25 (fun v39=>
 oQ prog (.indexAddr 22 (.tmp 0) (.tmp 1)) 0 [a1,(l_22.getD 1 undef)] C_25 (fun v42=>
 oQ prog (.load 3 (.tmp 0)) 3 [v42] C_25 (fun v43=>
 oQ prog (.indexAddr 22 (.tmp 0) (.tmp 1)) 0 [a2,(l_22.getD 1 undef)] C_25 (fun v46=>
 oQ prog (.load 3 (.tmp 0)) 3 [v46] C_25 (fun v47=>
 callQ prog 164 #[v39,v43,v47] C_25 (fun v48=>
 callQ prog 153 #[v37,(l_22.getD 0 undef),v48] C_25 (fun v49=>
 ∀ w,C_25 w → (oM prog (.binOp .add 3 (.tmp 0) (.tmp 1) 3) 3 [(l_22.getD 1 undef),(.int .i64 1)] (fun v35 w=>
 J_20 [v49,v35] w ∧ m_21 [v49,v35] w < m_21 l_22 w0_l_22) w)))))))))))))
 (K (.tuple #[(l_22.getD 0 undef),(.bool true)]) w)) w) w)) w0_l_22)) w) w) w)) w) w) w) w) w) w) w) w) w) w) w) w) w) w) w) w
theorem sh_166_ok {a0 a1 a2:Value} {K:Value → World → Prop} {w:World} (h:sh_166 a0 a1 a2 K w):callM prog 166 #[a0,a1,a2] K w:=
 calls_of_code (fun _=>0) (fn:=Tryz.f166) (rs:=[.tmp 6,.tmp 7]) Tryz.func166 rfl rfl (by kernel_rfl) (Nat.le_of_ble_eq_true rfl) (Eq.mp (by kernel_rfl) h)
def sh_189 (a0 a1 a2:Value) (K:Value → World → Prop) (w:World):Prop:=
 oM prog (.binOp .rem 3 (.tmp 0) (.tmp 1) 3) 3 [(.int .i64 1),a0] (fun v10 w=>
 callM prog 155 #[a0,a1] (fun v13 w=>
 loopM [v10,v13,a2] w (fun J_3 m_4 l_5 u_l_5 w0_l_5=>(fun w=>(
 oM prog (.binOp .gtr 3 (.tmp 0) (.tmp 1) 3) 4 [(l_5.getD 2 undef),(.int .i64 0)] (fun v15 w=>
 condM v15
 (joinM (fun M_7=>(oM prog (.binOp .rem 3 (.tmp 0) (.tmp 1) 3) 3 [(l_5.getD 2 undef),(.int .i64 2)] (fun v17 w=>
 oM prog (.binOp .eql 3 (.tmp 0) (.const (.int .i64 1)) 3) 4 [v17] (fun v18 w=>
 condM v18
 (callM prog 153 #[a0,(l_5.getD 0 undef),(l_5.getD 1 undef)] (fun v22 w=>
 M_7 [v22] w) w)
 (M_7 [(l_5.getD 0 undef)] w)) w) w))
 (fun l_8 u_l_8 w=>(callM prog 153 #[a0,(l_5.getD 1 undef),(l_5.getD 1 undef)] (fun v26 w=>
 oM prog (.binOp .quo 3 (.tmp 0) (.tmp 1) 3) 3 [(l_5.getD 2 undef),(.int .i64 2)] (fun v28 w=>
 J_3 [(l_8.getD 0 undef),v26,v28] w ∧ m_4 [(l_8.getD 0 undef),v26,v28] w < m_4 l_5 w0_l_5) w) w)))
 (K (l_5.getD 0 undef) w)) w)) w0_l_5)) w) w
theorem sh_189_ok {a0 a1 a2:Value} {K:Value → World → Prop} {w:World} (h:sh_189 a0 a1 a2 K w):callM prog 189 #[a0,a1,a2] K w:=
 calls_of_code (fun _=>0) (fn:=Tryz.f189) (rs:=[.tmp 6]) Tryz.func189 rfl rfl (by kernel_rfl) (Nat.le_of_ble_eq_true rfl) (Eq.mp (by kernel_rfl) h)
def sh_188 (a0:Value) (K:Value → World → Prop) (w:World):Prop:=
 oM prog (.binOp .lss 3 (.tmp 0) (.tmp 1) 3) 4 [a0,(.int .i64 2)] (fun v7 w=>
 gdM (gd v7 false) (pureM a0) (fun v9 w=>
 gdM (gd v7 false) (oM prog (.binOp .geq 3 (.tmp 0) (.tmp 1) 3) 4 [v9,(.int .i64 2305843009213693952)]) (fun v10 w=>
 oM prog (.pick (.tmp 0) (.tmp 1) (.tmp 2)) 4 [v7,(.bool true),v10] (fun v11 w=>
 condM v11
 (K (.bool false) w)
 (callM prog 209 #[] (fun v12 w=>
 loopM [(.bool false),(.int .i64 0)] w (fun J_6 m_7 l_8 u_l_8 w0_l_8=>(fun w=>(
 oM prog (.call (Go.Call.mk (.builtin .len) #[(.tmp 0)] #[22])) 3 [v12] (fun v15 w=>
 oM prog (.binOp .lss 3 (.tmp 0) (.tmp 1) 3) 4 [(l_8.getD 1 undef),v15] (fun v16 w=>
 condM v16
 (oM prog (.indexAddr 22 (.tmp 0) (.tmp 1)) 0 [v12,(l_8.getD 1 undef)] (fun v22 w=>
 oM prog (.load 3 (.tmp 0)) 3 [v22] (fun v23 w=>
 oM prog (.binOp .rem 3 (.tmp 0) (.tmp 1) 3) 3 [a0,v23] (fun v24 w=>
 oM prog (.binOp .eql 3 (.tmp 0) (.const (.int .i64 0)) 3) 4 [v24] (fun v25 w=>
 condM v25
 (oM prog (.indexAddr 22 (.tmp 0) (.tmp 1)) 0 [v12,(l_8.getD 1 undef)] (fun v29 w=>
 oM prog (.load 3 (.tmp 0)) 3 [v29] (fun v30 w=>
 oM prog (.binOp .eql 3 (.tmp 0) (.tmp 1) 3) 4 [a0,v30] (fun v31 w=>
 K v31 w) w) w) w)
 (oM prog (.binOp .add 3 (.tmp 0) (.tmp 1) 3) 3 [(l_8.getD 1 undef),(.int .i64 1)] (fun v18 w=>
 J_6 [(l_8.getD 0 undef),v18] w ∧ m_7 [(l_8.getD 0 undef),v18] w < m_7 l_8 w0_l_8) w)) w) w) w) w)
 (loopM [(l_8.getD 0 undef),(.int .i64 0)] w (fun J_19 m_20 l_21 u_l_21 w0_l_21=>(fun w=>(
 oM prog (.call (Go.Call.mk (.builtin .len) #[(.tmp 0)] #[22])) 3 [v12] (fun v34 w=>
 oM prog (.binOp .lss 3 (.tmp 0) (.tmp 1) 3) 4 [(l_21.getD 1 undef),v34] (fun v35 w=>
 condM v35
 (oM prog (.indexAddr 22 (.tmp 0) (.tmp 1)) 0 [v12,(l_21.getD 1 undef)] (fun v41 w=>
 oM prog (.load 3 (.tmp 0)) 3 [v41] (fun v42 w=>
 callM prog 210 #[a0,v42] (fun v43 w=>
 oM prog (.unOp .not 4 (.tmp 0)) 4 [v43] (fun v44 w=>
 condM v44
 (K (.bool false) w)
 (oM prog (.binOp .add 3 (.tmp 0) (.tmp 1) 3) 3 [(l_21.getD 1 undef),(.int .i64 1)] (fun v37 w=>
 J_19 [(l_21.getD 0 undef),v37] w ∧ m_20 [(l_21.getD 0 undef),v37] w < m_20 l_21 w0_l_21) w)) w) w) w) w)
 (K (.bool true) w)) w) w)) w0_l_21))) w) w)) w0_l_8)) w)) w) w) w) w
theorem sh_188_ok {a0:Value} {K:Value → World → Prop} {w:World} (h:sh_188 a0 K w):callM prog 188 #[a0] K w:=
 calls_of_code (fun _=>0) (fn:=Tryz.f188) (rs:=[.tmp 2]) Tryz.func188 rfl rfl (by kernel_rfl) (Nat.le_of_ble_eq_true rfl) (Eq.mp (by kernel_rfl) h)
def sh_210 (a0 a1:Value) (K:Value → World → Prop) (w:World):Prop:=
 oM prog (.binOp .sub 3 (.tmp 0) (.tmp 1) 3) 3 [a0,(.int .i64 1)] (fun v10 w=>
 loopM [v10,(.int .i64 0)] w (fun J_2 m_3 l_4 u_l_4 w0_l_4=>(fun w=>(
 oM prog (.binOp .rem 3 (.tmp 0) (.tmp 1) 3) 3 [(l_4.getD 0 undef),(.int .i64 2)] (fun v12 w=>
 oM prog (.binOp .eql 3 (.tmp 0) (.const (.int .i64 0)) 3) 4 [v12] (fun v13 w=>
 condM v13
 (oM prog (.binOp .quo 3 (.tmp 0) (.tmp 1) 3) 3 [(l_4.getD 0 undef),(.int .i64 2)] (fun v15 w=>
 oM prog (.binOp .add 3 (.tmp 0) (.tmp 1) 3) 3 [(l_4.getD 1 undef),(.int .i64 1)] (fun v17 w=>
 J_2 [v15,v17] w ∧ m_3 [v15,v17] w < m_3 l_4 w0_l_4) w) w)
 (callM prog 189 #[a0,a1,(l_4.getD 0 undef)] (fun v21 w=>
 oM prog (.binOp .eql 3 (.tmp 0) (.const (.int .i64 1)) 3) 4 [v21] (fun v23 w=>
 condM v23
 (K (.bool true) w)
 (loopM [(.bool false),v21,(.int .i64 0)] w (fun J_11 m_12 l_13 u_l_13 w0_l_13=>(fun w=>(
 oM prog (.binOp .lss 3 (.tmp 0) (.tmp 1) 3) 4 [(l_13.getD 2 undef),(l_4.getD 1 undef)] (fun v26 w=>
 condM v26
 (oM prog (.binOp .sub 3 (.tmp 0) (.tmp 1) 3) 3 [a0,(.int .i64 1)] (fun v31 w=>
 oM prog (.binOp .eql 3 (.tmp 0) (.tmp 1) 3) 4 [(l_13.getD 1 undef),v31] (fun v32 w=>
 condM v32
 (K (.bool true) w)
 (callM prog 153 #[a0,(l_13.getD 1 undef),(l_13.getD 1 undef)] (fun v36 w=>
 oM prog (.binOp .add 3 (.tmp 0) (.tmp 1) 3) 3 [(l_13.getD 2 undef),(.int .i64 1)] (fun v28 w=>
 J_11 [(l_13.getD 0 undef),v36,v28] w ∧ m_12 [(l_13.getD 0 undef),v36,v28] w < m_12 l_13 w0_l_13) w) w)) w) w)
 (K (.bool false) w)) w)) w0_l_13))) w) w)) w) w)) w0_l_4)) w
theorem sh_210_ok {a0 a1:Value} {K:Value → World → Prop} {w:World} (h:sh_210 a0 a1 K w):callM prog 210 #[a0,a1] K w:=
 calls_of_code (fun _=>0) (fn:=Tryz.f210) (rs:=[.tmp 4]) Tryz.func210 rfl rfl (by kernel_rfl) (Nat.le_of_ble_eq_true rfl) (Eq.mp (by kernel_rfl) h)
def sh_209 (K:Value → World → Prop) (w:World):Prop:=
 oM prog (.buildSlice 22 12 #[(0,(.tmp 0)),(1,(.tmp 1)),(2,(.tmp 2)),(3,(.tmp 3)),(4,(.tmp 4)),(5,(.tmp 5)),(6,(.tmp 6)),(7,(.tmp 7)),(8,(.tmp 8)),(9,(.tmp 9)),(10,(.tmp 10)),(11,(.tmp 11))]) 22 [(.int .i64 2),(.int .i64 3),(.int .i64 5),(.int .i64 7),(.int .i64 11),(.int .i64 13),(.int .i64 17),(.int .i64 19),(.int .i64 23),(.int .i64 29),(.int .i64 31),(.int .i64 37)] (fun v1 w=>
 K v1 w) w
theorem sh_209_ok {K:Value → World → Prop} {w:World} (h:sh_209 K w):callM prog 209 #[] K w:=
 calls_of_code (fun _=>0) (fn:=Tryz.f209) (rs:=[.tmp 0]) Tryz.func209 rfl rfl (by kernel_rfl) (Nat.le_of_ble_eq_true rfl) (Eq.mp (by kernel_rfl) h)
def sh_116 (a0 a1:Value) (K:Value → World → Prop) (w:World):Prop:=
 oM prog (.box 30 (.tmp 0)) 0 [a0] (fun v2 w=>
 oM prog (.binOp .geq 3 (.tmp 0) (.tmp 1) 3) 4 [a1,(.int .i64 1)] (fun v6 w=>
 gdM (gd v6 true) (pureM a1) (fun v8 w=>
 gdM (gd v6 true) (oM prog (.fieldAddr 30 (.tmp 0) 0) 0 [v2]) (fun v9 w=>
 gdM (gd v6 true) (oM prog (.load 3 (.tmp 0)) 3 [v9]) (fun v10 w=>
 gdM (gd v6 true) (oM prog (.binOp .lss 3 (.tmp 0) (.tmp 1) 3) 4 [v8,v10]) (fun v11 w=>
 oM prog (.pick (.tmp 0) (.tmp 1) (.tmp 2)) 4 [v6,v11,(.bool false)] (fun v12 w=>
 gdM (gd v12 true) (oM prog (.load 30 (.tmp 0)) 30 [v2]) (fun v14 w=>
 gdM (gd v12 true) (callM prog 156 #[v14]) (fun v15 w=>
 oM prog (.pick (.tmp 0) (.tmp 1) (.tmp 2)) 4 [v12,v15,(.bool false)] (fun v16 w=>
 gdM (gd v16 true) (oM prog (.load 30 (.tmp 0)) 30 [v2]) (fun v18 w=>
 gdM (gd v16 true) (pureM a1) (fun v19 w=>
 gdM (gd v16 true) (callM prog 163 #[v18,v19]) (fun v20 w=>
 oM prog (.pick (.tmp 0) (.tmp 1) (.tmp 2)) 4 [v16,v20,(.bool false)] (fun v21 w=>
 K v21 w) w) w) w) w) w) w) w) w) w) w) w) w) w) w
theorem sh_116_ok {a0 a1:Value} {K:Value → World → Prop} {w:World} (h:sh_116 a0 a1 K w):callM prog 116 #[a0,a1] K w:=
 calls_of_code (fun _=>0) (fn:=Tryz.f116) (rs:=[.tmp 4]) Tryz.func116 rfl rfl (by kernel_rfl) (Nat.le_of_ble_eq_true rfl) (Eq.mp (by kernel_rfl) h)
def sh_106 (a0:Value) (K:Value → World → Prop) (w:World):Prop:=
 oM prog (.box 32 (.tmp 0)) 0 [a0] (fun v1 w=>
 oM prog (.fieldAddr 32 (.tmp 0) 0) 0 [v1] (fun v4 w=>
 oM prog (.load 30 (.tmp 0)) 30 [v4] (fun v5 w=>
 callM prog 156 #[v5] (fun v6 w=>
 oM prog (.unOp .not 4 (.tmp 0)) 4 [v6] (fun v7 w=>
 gdM (gd v7 false) (oM prog (.fieldAddr 32 (.tmp 0) 1) 0 [v1]) (fun v9 w=>
 gdM (gd v7 false) (oM prog (.load 22 (.tmp 0)) 22 [v9]) (fun v10 w=>
 gdM (gd v7 false) (oM prog (.call (Go.Call.mk (.builtin .len) #[(.tmp 0)] #[22])) 3 [v10]) (fun v11 w=>
 gdM (gd v7 false) (oM prog (.binOp .lss 3 (.tmp 0) (.tmp 1) 3) 4 [v11,(.int .i64 2)]) (fun v12 w=>
 oM prog (.pick (.tmp 0) (.tmp 1) (.tmp 2)) 4 [v7,(.bool true),v12] (fun v13 w=>
 gdM (gd v13 false) (oM prog (.fieldAddr 32 (.tmp 0) 1) 0 [v1]) (fun v15 w=>
 gdM (gd v13 false) (oM prog (.load 22 (.tmp 0)) 22 [v15]) (fun v16 w=>
 gdM (gd v13 false) (oM prog (.call (Go.Call.mk (.builtin .len) #[(.tmp 0)] #[22])) 3 [v16]) (fun v17 w=>
 gdM (gd v13 false) (oM prog (.binOp .gtr 3 (.tmp 0) (.tmp 1) 3) 4 [v17,(.int .i64 7)]) (fun v18 w=>
 oM prog (.pick (.tmp 0) (.tmp 1) (.tmp 2)) 4 [v13,(.bool true),v18] (fun v19 w=>
 gdM (gd v19 false) (oM prog (.fieldAddr 32 (.tmp 0) 0) 0 [v1]) (fun v21 w=>
 gdM (gd v19 false) (oM prog (.load 30 (.tmp 0)) 30 [v21]) (fun v22 w=>
 gdM (gd v19 false) (oM prog (.fieldAddr 32 (.tmp 0) 2) 0 [v1]) (fun v23 w=>
 gdM (gd v19 false) (oM prog (.load 3 (.tmp 0)) 3 [v23]) (fun v24 w=>
 gdM (gd v19 false) (callM prog 157 #[v22,v24]) (fun v25 w=>
 gdM (gd v19 false) (oM prog (.unOp .not 4 (.tmp 0)) 4 [v25]) (fun v26 w=>
 oM prog (.pick (.tmp 0) (.tmp 1) (.tmp 2)) 4 [v19,(.bool true),v26] (fun v27 w=>
 condM v27
 (K (.bool false) w)
 (loopM [(.bool false),(.int .i64 0)] w (fun J_23 m_24 l_25 u_l_25 w0_l_25=>(fun w=>(
 oM prog (.fieldAddr 32 (.tmp 0) 1) 0 [v1] (fun v29 w=>
 oM prog (.load 22 (.tmp 0)) 22 [v29] (fun v30 w=>
 oM prog (.call (Go.Call.mk (.builtin .len) #[(.tmp 0)] #[22])) 3 [v30] (fun v31 w=>
 oM prog (.binOp .lss 3 (.tmp 0) (.tmp 1) 3) 4 [(l_25.getD 1 undef),v31] (fun v32 w=>
 condM v32
 (heldM w (fun C_30 w=>(((true:Bool) = true) ∧ (oH prog (.fieldAddr 32 (.tmp 0) 0) 0 [v1] C_30 (fun v35=>
 oH prog (.load 30 (.tmp 0)) 30 [v35] C_30 (fun v36=>
 oH prog (.fieldAddr 32 (.tmp 0) 1) 0 [v1] C_30 (fun v37=>
 oH prog (.load 22 (.tmp 0)) 22 [v37] C_30 (fun v38=>
 pureH (l_25.getD 1 undef) C_30 (fun v39=>
 oH prog (.indexAddr 22 (.tmp 0) (.tmp 1)) 0 [v38,v39] C_30 (fun v40=>
 oH prog (.load 3 (.tmp 0)) 3 [v40] C_30 (fun v41=>
 ∃ S_38:World → World → Prop,∀ w,C_30 w → (
 callM prog 157 #[v36,v41] (fun v42 w=>C_30 w ∧ (
 oM prog (.unOp .not 4 (.tmp 0)) 4 [v42] (fun v43 w=>C_30 w ∧ (
 condM v43
 (K (.bool false) w)
 (oM prog (.binOp .add 3 (.tmp 0) (.tmp 1) 3) 3 [(l_25.getD 1 undef),(.int .i64 1)] (fun v34 w=>
 J_23 [(l_25.getD 0 undef),v34] w ∧ m_24 [(l_25.getD 0 undef),v34] w < m_24 l_25 w0_l_25) w))) w)) w))))))))))))
 (K (.bool true) w)) w) w) w) w)) w0_l_25))) w) w) w) w) w) w) w) w) w) w) w) w) w) w) w) w) w) w) w) w) w) w
theorem sh_106_ok {a0:Value} {K:Value → World → Prop} {w:World} (h:sh_106 a0 K w):callM prog 106 #[a0] K w:=
 calls_of_code (fun _=>.mono [0,1,2,3,4,5,6] [] [7,8]) (fn:=Tryz.f106) (rs:=[.tmp 2]) Tryz.func106 rfl rfl (by kernel_rfl) (Nat.le_of_ble_eq_true rfl) (Eq.mp (by kernel_rfl) h)
def sh_157 (a0 a1:Value) (K:Value → World → Prop) (w:World):Prop:=
 oM prog (.box 30 (.tmp 0)) 0 [a0] (fun v2 w=>
 oM prog (.binOp .neq 3 (.tmp 0) (.const (.int .i64 1)) 3) 4 [a1] (fun v6 w=>
 gdM (gd v6 true) (oM prog (.load 30 (.tmp 0)) 30 [v2]) (fun v8 w=>
 gdM (gd v6 true) (pureM a1) (fun v9 w=>
 gdM (gd v6 true) (callM prog 163 #[v8,v9]) (fun v10 w=>
 oM prog (.pick (.tmp 0) (.tmp 1) (.tmp 2)) 4 [v6,v10,(.bool false)] (fun v11 w=>
 K v11 w) w) w) w) w) w) w
theorem sh_157_ok {a0 a1:Value} {K:Value → World → Prop} {w:World} (h:sh_157 a0 a1 K w):callM prog 157 #[a0,a1] K w:=
 calls_of_code (fun _=>0) (fn:=Tryz.f157) (rs:=[.tmp 4]) Tryz.func157 rfl rfl (by kernel_rfl) (Nat.le_of_ble_eq_true rfl) (Eq.mp (by kernel_rfl) h)
end Go.Proofs
namespace Go.Proofs
open Go.Sh Tryz
def sh_125 (a0 a1:Value) (K:Value → World → Prop) (w:World):Prop:=
 callM prog 154 #[a1] (fun v9 w=>
 oM prog (.unOp .not 4 (.tmp 0)) 4 [v9] (fun v10 w=>
 condM v10
 (K (.int .i64 0) w)
 (callM prog 171 #[a0] (fun v12 w=>
 loopM [(.int .i64 0),(.int .i64 0)] w (fun J_4 m_5 l_6 u_l_6 w0_l_6=>(fun w=>(
 oM prog (.call (Go.Call.mk (.builtin .len) #[(.tmp 0)] #[9])) 3 [v12] (fun v15 w=>
 oM prog (.binOp .lss 3 (.tmp 0) (.tmp 1) 3) 4 [(l_6.getD 1 undef),v15] (fun v16 w=>
 condM v16
 (quietM w (fun C_9=>(callQ prog 153 #[a1,(l_6.getD 0 undef),(.int .i64 256)] C_9 (fun v22=>
 oQ prog (.index 9 (.tmp 0) (.tmp 1)) 5 [v12,(l_6.getD 1 undef)] C_9 (fun v25=>
 oQ prog (.convert 5 3 (.tmp 0)) 3 [v25] C_9 (fun v26=>
 callQ prog 109 #[a1,v22,v26] C_9 (fun v27=>
 ∀ w,C_9 w → (oM prog (.binOp .add 3 (.tmp 0) (.tmp 1) 3) 3 [(l_6.getD 1 undef),(.int .i64 1)] (fun v18 w=>
 J_4 [v27,v18] w ∧ m_5 [v27,v18] w < m_5 l_6 w0_l_6) w))))))))
 (K (l_6.getD 0 undef) w)) w) w)) w0_l_6)) w)) w) w
theorem sh_125_ok {a0 a1:Value} {K:Value → World → Prop} {w:World} (h:sh_125 a0 a1 K w):callM prog 125 #[a0,a1] K w:=
 calls_of_code (fun _=>0) (fn:=Tryz.f125) (rs:=[.tmp 4]) Tryz.func125 rfl rfl (by kernel_rfl) (Nat.le_of_ble_eq_true rfl) (Eq.mp (by kernel_rfl) h)
def sh_171 (a0:Value) (K:Value → World → Prop) (w:World):Prop:=
 oM prog (.convert 9 181 (.tmp 0)) 181 [a0] (fun v9 w=>
 callM prog 196 #[v9] (fun v10 w=>
 callM prog 197 #[] (fun v11 w=>
 loopM [v11,(.int .i64 0)] w (fun J_4 m_5 l_6 u_l_6 w0_l_6=>(fun w=>(
 oM prog (.call (Go.Call.mk (.builtin .len) #[(.tmp 0)] #[181])) 3 [v10] (fun v14 w=>
 oM prog (.binOp .lss 3 (.tmp 0) (.tmp 1) 3) 4 [(l_6.getD 1 undef),v14] (fun v15 w=>
 condM v15
 (oM prog (.binOp .add 3 (.tmp 0) (.tmp 1) 3) 3 [(l_6.getD 1 undef),(.int .i64 64)] (fun v22 w=>
 oM prog (.slice 181 (.tmp 0) (some (.tmp 1)) (some (.tmp 2)) none) 181 [v10,(l_6.getD 1 undef),v22] (fun v23 w=>
 callM prog 198 #[(l_6.getD 0 undef),v23] (fun v24 w=>
 oM prog (.binOp .add 3 (.tmp 0) (.tmp 1) 3) 3 [(l_6.getD 1 undef),(.int .i64 64)] (fun v17 w=>
 J_4 [v24,v17] w ∧ m_5 [v24,v17] w < m_5 l_6 w0_l_6) w) w) w) w)
 (oM prog (.buildSlice 181 0 #[]) 181 [] (fun v25 w=>
 loopM [v25,(.int .i64 0)] w (fun J_14 m_15 l_16 u_l_16 w0_l_16=>(fun w=>(
 oM prog (.binOp .lss 3 (.tmp 0) (.tmp 1) 3) 4 [(l_16.getD 1 undef),(.int .i64 32)] (fun v27 w=>
 condM v27
 (oM prog (.binOp .quo 3 (.tmp 0) (.tmp 1) 3) 3 [(l_16.getD 1 undef),(.int .i64 4)] (fun v33 w=>
 oM prog (.indexAddr 216 (.tmp 0) (.tmp 1)) 0 [(l_6.getD 0 undef),v33] (fun v34 w=>
 oM prog (.load 200 (.tmp 0)) 200 [v34] (fun v35 w=>
 oM prog (.binOp .rem 3 (.tmp 0) (.tmp 1) 3) 3 [(l_16.getD 1 undef),(.int .i64 4)] (fun v37 w=>
 oM prog (.binOp .mul 3 (.tmp 0) (.tmp 1) 3) 3 [(.int .i64 8),v37] (fun v38 w=>
 oM prog (.binOp .sub 3 (.tmp 0) (.tmp 1) 3) 3 [(.int .i64 24),v38] (fun v39 w=>
 oM prog (.binOp .shr 200 (.tmp 0) (.tmp 1) 3) 200 [v35,v39] (fun v40 w=>
 oM prog (.convert 200 5 (.tmp 0)) 5 [v40] (fun v41 w=>
 oM prog (.buildSlice 181 1 #[(0,(.tmp 0))]) 181 [v41] (fun v42 w=>
 oM prog (.call (Go.Call.mk (.builtin .append) #[(.tmp 0),(.tmp 1)] #[181,181])) 181 [(l_16.getD 0 undef),v42] (fun v43 w=>
 oM prog (.binOp .add 3 (.tmp 0) (.tmp 1) 3) 3 [(l_16.getD 1 undef),(.int .i64 1)] (fun v29 w=>
 J_14 [v43,v29] w ∧ m_15 [v43,v29] w < m_15 l_16 w0_l_16) w) w) w) w) w) w) w) w) w) w) w)
 (oM prog (.convert 181 9 (.tmp 0)) 9 [(l_16.getD 0 undef)] (fun v45 w=>
 K v45 w) w)) w)) w0_l_16)) w)) w) w)) w0_l_6)) w) w) w
theorem sh_171_ok {a0:Value} {K:Value → World → Prop} {w:World} (h:sh_171 a0 K w):callM prog 171 #[a0] K w:=
 calls_of_code (fun _=>0) (fn:=Tryz.f171) (rs:=[.tmp 2]) Tryz.func171 rfl rfl (by kernel_rfl) (Nat.le_of_ble_eq_true rfl) (Eq.mp (by kernel_rfl) h)
def sh_196 (a0:Value) (K:Value → World → Prop) (w:World):Prop:=
 oM prog (.buildSlice 181 0 #[]) 181 [] (fun v6 w=>
 oM prog (.call (Go.Call.mk (.builtin .append) #[(.tmp 0),(.tmp 1)] #[181,181])) 181 [v6,a0] (fun v8 w=>
 oM prog (.buildSlice 181 1 #[(0,(.tmp 0))]) 181 [(.int .u8 128)] (fun v10 w=>
 oM prog (.call (Go.Call.mk (.builtin .append) #[(.tmp 0),(.tmp 1)] #[181,181])) 181 [v8,v10] (fun v11 w=>
 loopM [v11] w (fun J_5 m_6 l_7 u_l_7 w0_l_7=>(fun w=>(
 oM prog (.call (Go.Call.mk (.builtin .len) #[(.tmp 0)] #[181])) 3 [(l_7.getD 0 undef)] (fun v13 w=>
 oM prog (.binOp .rem 3 (.tmp 0) (.tmp 1) 3) 3 [v13,(.int .i64 64)] (fun v14 w=>
 oM prog (.binOp .neq 3 (.tmp 0) (.const (.int .i64 56)) 3) 4 [v14] (fun v15 w=>
 condM v15
 (oM prog (.buildSlice 181 1 #[(0,(.tmp 0))]) 181 [(.int .u8 0)] (fun v17 w=>
 oM prog (.call (Go.Call.mk (.builtin .append) #[(.tmp 0),(.tmp 1)] #[181,181])) 181 [(l_7.getD 0 undef),v17] (fun v18 w=>
 J_5 [v18] w ∧ m_6 [v18] w < m_6 l_7 w0_l_7) w) w)
 (oM prog (.call (Go.Call.mk (.builtin .len) #[(.tmp 0)] #[181])) 3 [a0] (fun v20 w=>
 oM prog (.convert 3 139 (.tmp 0)) 139 [v20] (fun v21 w=>
 oM prog (.binOp .mul 139 (.tmp 0) (.tmp 1) 139) 139 [(.int .u64 8),v21] (fun v22 w=>
 loopM [(l_7.getD 0 undef),(.int .i64 56)] w (fun J_16 m_17 l_18 u_l_18 w0_l_18=>(fun w=>(
 oM prog (.binOp .geq 3 (.tmp 0) (.tmp 1) 3) 4 [(l_18.getD 1 undef),(.int .i64 0)] (fun v24 w=>
 condM v24
 (oM prog (.binOp .shr 139 (.tmp 0) (.tmp 1) 3) 139 [v22,(l_18.getD 1 undef)] (fun v30 w=>
 oM prog (.convert 139 5 (.tmp 0)) 5 [v30] (fun v31 w=>
 oM prog (.buildSlice 181 1 #[(0,(.tmp 0))]) 181 [v31] (fun v32 w=>
 oM prog (.call (Go.Call.mk (.builtin .append) #[(.tmp 0),(.tmp 1)] #[181,181])) 181 [(l_18.getD 0 undef),v32] (fun v33 w=>
 oM prog (.binOp .sub 3 (.tmp 0) (.tmp 1) 3) 3 [(l_18.getD 1 undef),(.int .i64 8)] (fun v26 w=>
 J_16 [v33,v26] w ∧ m_17 [v33,v26] w < m_17 l_18 w0_l_18) w) w) w) w) w)
 (K (l_18.getD 0 undef) w)) w)) w0_l_18)) w) w) w)) w) w) w)) w0_l_7)) w) w) w) w
theorem sh_196_ok {a0:Value} {K:Value → World → Prop} {w:World} (h:sh_196 a0 K w):callM prog 196 #[a0] K w:=
 calls_of_code (fun _=>0) (fn:=Tryz.f196) (rs:=[.tmp 2]) Tryz.func196 rfl rfl (by kernel_rfl) (Nat.le_of_ble_eq_true rfl) (Eq.mp (by kernel_rfl) h)
def sh_197 (K:Value → World → Prop) (w:World):Prop:=
 oM prog (.buildSlice 216 8 #[(0,(.tmp 0)),(1,(.tmp 1)),(2,(.tmp 2)),(3,(.tmp 3)),(4,(.tmp 4)),(5,(.tmp 5)),(6,(.tmp 6)),(7,(.tmp 7))]) 216 [(.int .u32 1779033703),(.int .u32 3144134277),(.int .u32 1013904242),(.int .u32 2773480762),(.int .u32 1359893119),(.int .u32 2600822924),(.int .u32 528734635),(.int .u32 1541459225)] (fun v1 w=>
 K v1 w) w
theorem sh_197_ok {K:Value → World → Prop} {w:World} (h:sh_197 K w):callM prog 197 #[] K w:=
 calls_of_code (fun _=>0) (fn:=Tryz.f197) (rs:=[.tmp 0]) Tryz.func197 rfl rfl (by kernel_rfl) (Nat.le_of_ble_eq_true rfl) (Eq.mp (by kernel_rfl) h)
def sh_198 (a0 a1:Value) (K:Value → World → Prop) (w:World):Prop:=
 callM prog 217 #[a1] (fun v16 w=>
 callM prog 218 #[] (fun v17 w=>
 oM prog (.buildSlice 216 0 #[]) 216 [] (fun v18 w=>
 oM prog (.call (Go.Call.mk (.builtin .append) #[(.tmp 0),(.tmp 1)] #[216,216])) 216 [v18,a0] (fun v20 w=>
 loopM [undef,undef,undef,undef,undef,v20,(.int .i64 0)] w (fun J_5 m_6 l_7 u_l_7 w0_l_7=>(fun w=>(
 oM prog (.binOp .lss 3 (.tmp 0) (.tmp 1) 3) 4 [(l_7.getD 6 undef),(.int .i64 64)] (fun v22 w=>
 condM v22
 (quietM w (fun C_9=>(oQ prog (.indexAddr 216 (.tmp 0) (.tmp 1)) 0 [(l_7.getD 5 undef),(.int .i64 4)] C_9 (fun v26=>
 oQ prog (.load 200 (.tmp 0)) 200 [v26] C_9 (fun v27=>
 callQ prog 219 #[v27,(.int .i64 6)] C_9 (fun v28=>
 oQ prog (.indexAddr 216 (.tmp 0) (.tmp 1)) 0 [(l_7.getD 5 undef),(.int .i64 4)] C_9 (fun v30=>
 oQ prog (.load 200 (.tmp 0)) 200 [v30] C_9 (fun v31=>
 callQ prog 219 #[v31,(.int .i64 11)] C_9 (fun v32=>
 oQ prog (.binOp .xor 200 (.tmp 0) (.tmp 1) 200) 200 [v28,v32] C_9 (fun v33=>
 oQ prog (.indexAddr 216 (.tmp 0) (.tmp 1)) 0 [(l_7.getD 5 undef),(.int .i64 4)] C_9 (fun v35=>
 oQ prog (.load 200 (.tmp 0)) 200 [v35] C_9 (fun v36=>
 callQ prog 219 #[v36,(.int .i64 25)] C_9 (fun v37=>
 oQ prog (.binOp .xor 200 (.tmp 0) (.tmp 1) 200) 200 [v33,v37] C_9 (fun v38=>
 ∀ w,C_9 w → (quietM w (fun C_21=>(oQ prog (.indexAddr 216 (.tmp 0) (.tmp 1)) 0 [(l_7.getD 5 undef),(.int .i64 4)] C_21 (fun v40=>
 oQ prog (.load 200 (.tmp 0)) 200 [v40] C_21 (fun v41=>
 oQ prog (.indexAddr 216 (.tmp 0) (.tmp 1)) 0 [(l_7.getD 5 undef),(.int .i64 5)] C_21 (fun v43=>
 oQ prog (.load 200 (.tmp 0)) 200 [v43] C_21 (fun v44=>
 oQ prog (.binOp .and 200 (.tmp 0) (.tmp 1) 200) 200 [v41,v44] C_21 (fun v45=>
 oQ prog (.indexAddr 216 (.tmp 0) (.tmp 1)) 0 [(l_7.getD 5 undef),(.int .i64 4)] C_21 (fun v47=>
 oQ prog (.load 200 (.tmp 0)) 200 [v47] C_21 (fun v48=>
 oQ prog (.unOp .xor 200 (.tmp 0)) 200 [v48] C_21 (fun v49=>
 oQ prog (.indexAddr 216 (.tmp 0) (.tmp 1)) 0 [(l_7.getD 5 undef),(.int .i64 6)] C_21 (fun v51=>
 oQ prog (.load 200 (.tmp 0)) 200 [v51] C_21 (fun v52=>
 oQ prog (.binOp .and 200 (.tmp 0) (.tmp 1) 200) 200 [v49,v52] C_21 (fun v53=>
 oQ prog (.binOp .xor 200 (.tmp 0) (.tmp 1) 200) 200 [v45,v53] C_21 (fun v54=>
 ∀ w,C_21 w → (quietM w (fun C_34=>(oQ prog (.indexAddr 216 (.tmp 0) (.tmp 1)) 0 [(l_7.getD 5 undef),(.int .i64 7)] C_34 (fun v56=>
 oQ prog (.load 200 (.tmp 0)) 200 [v56] C_34 (fun v57=>
 oQ prog (.binOp .add 200 (.tmp 0) (.tmp 1) 200) 200 [v57,v38] C_34 (fun v59=>
 oQ prog (.binOp .add 200 (.tmp 0) (.tmp 1) 200) 200 [v59,v54] C_34 (fun v61=>
 oQ prog (.indexAddr 216 (.tmp 0) (.tmp 1)) 0 [v17,(l_7.getD 6 undef)] C_34 (fun v64=>
 oQ prog (.load 200 (.tmp 0)) 200 [v64] C_34 (fun v65=>
 oQ prog (.binOp .add 200 (.tmp 0) (.tmp 1) 200) 200 [v61,v65] C_34 (fun v66=>
 oQ prog (.indexAddr 216 (.tmp 0) (.tmp 1)) 0 [v16,(l_7.getD 6 undef)] C_34 (fun v69=>
 oQ prog (.load 200 (.tmp 0)) 200 [v69] C_34 (fun v70=>
 oQ prog (.binOp .add 200 (.tmp 0) (.tmp 1) 200) 200 [v66,v70] C_34 (fun v71=>
 ∀ w,C_34 w → (quietM w (fun C_45=>(oQ prog (.indexAddr 216 (.tmp 0) (.tmp 1)) 0 [(l_7.getD 5 undef),(.int .i64 0)] C_45 (fun v73=>
 oQ prog (.load 200 (.tmp 0)) 200 [v73] C_45 (fun v74=>
 callQ prog 219 #[v74,(.int .i64 2)] C_45 (fun v75=>
 oQ prog (.indexAddr 216 (.tmp 0) (.tmp 1)) 0 [(l_7.getD 5 undef),(.int .i64 0)] C_45 (fun v77=>
 oQ prog (.load 200 (.tmp 0)) 200 [v77] C_45 (fun v78=>
 callQ prog 219 #[v78,(.int .i64 13)] C_45 (fun v79=>
 oQ prog (.binOp .xor 200 (.tmp 0) (.tmp 1) 200) 200 [v75,v79] C_45 (fun v80=>
 oQ prog (.indexAddr 216 (.tmp 0) (.tmp 1)) 0 [(l_7.getD 5 undef),(.int .i64 0)] C_45 (fun v82=>
 oQ prog (.load 200 (.tmp 0)) 200 [v82] C_45 (fun v83=>
 callQ prog 219 #[v83,(.int .i64 22)] C_45 (fun v84=>
 oQ prog (.binOp .xor 200 (.tmp 0) (.tmp 1) 200) 200 [v80,v84] C_45 (fun v85=>
 ∀ w,C_45 w → (quietM w (fun C_57=>(oQ prog (.indexAddr 216 (.tmp 0) (.tmp 1)) 0 [(l_7.getD 5 undef),(.int .i64 0)] C_57 (fun v87=>
 oQ prog (.load 200 (.tmp 0)) 200 [v87] C_57 (fun v88=>
 oQ prog (.indexAddr 216 (.tmp 0) (.tmp 1)) 0 [(l_7.getD 5 undef),(.int .i64 1)] C_57 (fun v90=>
 oQ prog (.load 200 (.tmp 0)) 200 [v90] C_57 (fun v91=>
 oQ prog (.binOp .and 200 (.tmp 0) (.tmp 1) 200) 200 [v88,v91] C_57 (fun v92=>
 oQ prog (.indexAddr 216 (.tmp 0) (.tmp 1)) 0 [(l_7.getD 5 undef),(.int .i64 0)] C_57 (fun v94=>
 oQ prog (.load 200 (.tmp 0)) 200 [v94] C_57 (fun v95=>
 oQ prog (.indexAddr 216 (.tmp 0) (.tmp 1)) 0 [(l_7.getD 5 undef),(.int .i64 2)] C_57 (fun v97=>
 oQ prog (.load 200 (.tmp 0)) 200 [v97] C_57 (fun v98=>
 oQ prog (.binOp .and 200 (.tmp 0) (.tmp 1) 200) 200 [v95,v98] C_57 (fun v99=>
 oQ prog (.binOp .xor 200 (.tmp 0) (.tmp 1) 200) 200 [v92,v99] C_57 (fun v100=>
 oQ prog (.indexAddr 216 (.tmp 0) (.tmp 1)) 0 [(l_7.getD 5 undef),(.int .i64 1)] C_57 (fun v102=>
 oQ prog (.load 200 (.tmp 0)) 200 [v102] C_57 (fun v103=>
 oQ prog (.indexAddr 216 (.tmp 0) (.tmp 1)) 0 [(l_7.getD 5 undef),(.int .i64 2)] C_57 (fun v105=>
 oQ prog (.load 200 (.tmp 0)) 200 [v105] C_57 (fun v106=>
 oQ prog (.binOp .and 200 (.tmp 0) (.tmp 1) 200) 200 [v103,v106] C_57 (fun v107=>
 oQ prog (.binOp .xor 200 (.tmp 0) (.tmp 1) 200) 200 [v100,v107] C_57 (fun v108=>
 ∀ w,C_57 w → (heldM w (fun C_75 w=>(((true:Bool) = true) ∧ (pureH v71 C_75 (fun v109=>
 pureH v85 C_75 (fun v110=>
 oH prog (.binOp .add 200 (.tmp 0) (.tmp 1) 200) 200 [v109,v110] C_75 (fun v111=>
 pureH v108 C_75 (fun v112=>
 oH prog (.binOp .add 200 (.tmp 0) (.tmp 1) 200) 200 [v111,v112] C_75 (fun v113=>
 pureH (l_7.getD 5 undef) C_75 (fun v114=>
 oH prog (.indexAddr 216 (.tmp 0) (.tmp 1)) 0 [v114,(.int .i64 0)] C_75 (fun v115=>
 oH prog (.load 200 (.tmp 0)) 200 [v115] C_75 (fun v116=>
 pureH (l_7.getD 5 undef) C_75 (fun v117=>
 oH prog (.indexAddr 216 (.tmp 0) (.tmp 1)) 0 [v117,(.int .i64 1)] C_75 (fun v118=>
 oH prog (.load 200 (.tmp 0)) 200 [v118] C_75 (fun v119=>
 pureH (l_7.getD 5 undef) C_75 (fun v120=>
 oH prog (.indexAddr 216 (.tmp 0) (.tmp 1)) 0 [v120,(.int .i64 2)] C_75 (fun v121=>
 oH prog (.load 200 (.tmp 0)) 200 [v121] C_75 (fun v122=>
 pureH (l_7.getD 5 undef) C_75 (fun v123=>
 oH prog (.indexAddr 216 (.tmp 0) (.tmp 1)) 0 [v123,(.int .i64 3)] C_75 (fun v124=>
 oH prog (.load 200 (.tmp 0)) 200 [v124] C_75 (fun v125=>
 pureH v71 C_75 (fun v126=>
 oH prog (.binOp .add 200 (.tmp 0) (.tmp 1) 200) 200 [v125,v126] C_75 (fun v127=>
 pureH (l_7.getD 5 undef) C_75 (fun v128=>
 oH prog (.indexAddr 216 (.tmp 0) (.tmp 1)) 0 [v128,(.int .i64 4)] C_75 (fun v129=>
 oH prog (.load 200 (.tmp 0)) 200 [v129] C_75 (fun v130=>
 pureH (l_7.getD 5 undef) C_75 (fun v131=>
 oH prog (.indexAddr 216 (.tmp 0) (.tmp 1)) 0 [v131,(.int .i64 5)] C_75 (fun v132=>
 oH prog (.load 200 (.tmp 0)) 200 [v132] C_75 (fun v133=>
 pureH (l_7.getD 5 undef) C_75 (fun v134=>
 oH prog (.indexAddr 216 (.tmp 0) (.tmp 1)) 0 [v134,(.int .i64 6)] C_75 (fun v135=>
 oH prog (.load 200 (.tmp 0)) 200 [v135] C_75 (fun v136=>
 ∃ S_104:World → World → Prop,∀ w,C_75 w → (
 oM prog (.buildSlice 216 8 #[(0,(.tmp 0)),(1,(.tmp 1)),(2,(.tmp 2)),(3,(.tmp 3)),(4,(.tmp 4)),(5,(.tmp 5)),(6,(.tmp 6)),(7,(.tmp 7))]) 216 [v113,v116,v119,v122,v127,v130,v133,v136] (fun v137 w=>
 oM prog (.binOp .add 3 (.tmp 0) (.tmp 1) 3) 3 [(l_7.getD 6 undef),(.int .i64 1)] (fun v24 w=>
 J_5 [v38,v54,v71,v85,v108,v137,v24] w ∧ m_6 [v38,v54,v71,v85,v108,v137,v24] w < m_6 l_7 w0_l_7) w) w)))))))))))))))))))))))))))))))))))))))))))))))))))))))))))))))))))))))))))))))))))))))))))))))))))))))))))))
 (loopM [(.int .i64 0)] w (fun J_107 m_108 l_109 u_l_109 w0_l_109=>(fun w=>(
 oM prog (.binOp .lss 3 (.tmp 0) (.tmp 1) 3) 4 [(l_109.getD 0 undef),(.int .i64 8)] (fun v139 w=>
 condM v139
 (heldM w (fun C_111 w=>(((true:Bool) = true) ∧ (pureH (l_7.getD 5 undef) C_111 (fun v142=>
 pureH (l_109.getD 0 undef) C_111 (fun v143=>
 pureH (l_7.getD 5 undef) C_111 (fun v144=>
 pureH (l_109.getD 0 undef) C_111 (fun v145=>
 oH prog (.indexAddr 216 (.tmp 0) (.tmp 1)) 0 [v144,v145] C_111 (fun v146=>
 oH prog (.load 200 (.tmp 0)) 200 [v146] C_111 (fun v147=>
 pureH a0 C_111 (fun v148=>
 pureH (l_109.getD 0 undef) C_111 (fun v149=>
 oH prog (.indexAddr 216 (.tmp 0) (.tmp 1)) 0 [v148,v149] C_111 (fun v150=>
 oH prog (.load 200 (.tmp 0)) 200 [v150] C_111 (fun v151=>
 oH prog (.binOp .add 200 (.tmp 0) (.tmp 1) 200) 200 [v147,v151] C_111 (fun v152=>
 oH prog (.indexAddr 216 (.tmp 0) (.tmp 1)) 0 [v142,v143] C_111 (fun v153=>
 ∃ S_124:World → World → Prop,∀ w,C_111 w → (
 oM prog (.store 200 (.tmp 0) (.tmp 1)) 0 [v153,v152] (fun _ w=>
 oM prog (.binOp .add 3 (.tmp 0) (.tmp 1) 3) 3 [(l_109.getD 0 undef),(.int .i64 1)] (fun v141 w=>
 J_107 [v141] w ∧ m_108 [v141] w < m_108 l_109 w0_l_109) w) w)))))))))))))))))
 (K (l_7.getD 5 undef) w)) w)) w0_l_109))) w)) w0_l_7)) w) w) w) w
theorem sh_198_ok {a0 a1:Value} {K:Value → World → Prop} {w:World} (h:sh_198 a0 a1 K w):callM prog 198 #[a0,a1] K w:=
 calls_of_code (fun i=>bif Nat.beq i 7 then 0 else bif Nat.beq i 8 then 0 else bif Nat.beq i 9 then 0 else bif Nat.beq i 10 then 0 else bif Nat.beq i 11 then 0 else bif Nat.beq i 12 then .free [0,1,2,3,4,5,6,7,8,9,10,11,12,13,14,15,16,17,18,19,20,21,22,23,24,25,26,27] [] [28,29] else bif Nat.beq i 16 then .free [0,1,2,3,4,5,6,7,8,9,10,11] [] [12] else 0) (fn:=Tryz.f198) (rs:=[.tmp 4]) Tryz.func198 rfl rfl (by kernel_rfl) (Nat.le_of_ble_eq_true rfl) (Eq.mp (by kernel_rfl) h)
def sh_217 (a0:Value) (K:Value → World → Prop) (w:World):Prop:=
 loopM [(.slice none 0 0),(.int .i64 0)] w (fun J_1 m_2 l_3 u_l_3 w0_l_3=>(fun w=>(
 oM prog (.binOp .lss 3 (.tmp 0) (.tmp 1) 3) 4 [(l_3.getD 1 undef),(.int .i64 16)] (fun v11 w=>
 condM v11
 (heldM w (fun C_5 w=>(((true:Bool) = true) ∧ (pureH (l_3.getD 0 undef) C_5 (fun v14=>
 pureH a0 C_5 (fun v15=>
 pureH (l_3.getD 1 undef) C_5 (fun v16=>
 oH prog (.binOp .mul 3 (.tmp 0) (.tmp 1) 3) 3 [(.int .i64 4),v16] C_5 (fun v17=>
 oH prog (.indexAddr 181 (.tmp 0) (.tmp 1)) 0 [v15,v17] C_5 (fun v18=>
 oH prog (.load 5 (.tmp 0)) 5 [v18] C_5 (fun v19=>
 oH prog (.convert 5 200 (.tmp 0)) 200 [v19] C_5 (fun v20=>
 oH prog (.binOp .shl 200 (.tmp 0) (.tmp 1) 174) 200 [v20,(.int .u64 24)] C_5 (fun v21=>
 pureH a0 C_5 (fun v22=>
 pureH (l_3.getD 1 undef) C_5 (fun v23=>
 oH prog (.binOp .mul 3 (.tmp 0) (.tmp 1) 3) 3 [(.int .i64 4),v23] C_5 (fun v24=>
 oH prog (.binOp .add 3 (.tmp 0) (.tmp 1) 3) 3 [v24,(.int .i64 1)] C_5 (fun v25=>
 oH prog (.indexAddr 181 (.tmp 0) (.tmp 1)) 0 [v22,v25] C_5 (fun v26=>
 oH prog (.load 5 (.tmp 0)) 5 [v26] C_5 (fun v27=>
 oH prog (.convert 5 200 (.tmp 0)) 200 [v27] C_5 (fun v28=>
 oH prog (.binOp .shl 200 (.tmp 0) (.tmp 1) 174) 200 [v28,(.int .u64 16)] C_5 (fun v29=>
 oH prog (.binOp .or 200 (.tmp 0) (.tmp 1) 200) 200 [v21,v29] C_5 (fun v30=>
 pureH a0 C_5 (fun v31=>
 pureH (l_3.getD 1 undef) C_5 (fun v32=>
 oH prog (.binOp .mul 3 (.tmp 0) (.tmp 1) 3) 3 [(.int .i64 4),v32] C_5 (fun v33=>
 oH prog (.binOp .add 3 (.tmp 0) (.tmp 1) 3) 3 [v33,(.int .i64 2)] C_5 (fun v34=>
 oH prog (.indexAddr 181 (.tmp 0) (.tmp 1)) 0 [v31,v34] C_5 (fun v35=>
 oH prog (.load 5 (.tmp 0)) 5 [v35] C_5 (fun v36=>
 oH prog (.convert 5 200 (.tmp 0)) 200 [v36] C_5 (fun v37=>
 oH prog (.binOp .shl 200 (.tmp 0) (.tmp 1) 174) 200 [v37,(.int .u64 8)] C_5 (fun v38=>
 oH prog (.binOp .or 200 (.tmp 0) (.tmp 1) 200) 200 [v30,v38] C_5 (fun v39=>
 pureH a0 C_5 (fun v40=>
 pureH (l_3.getD 1 undef) C_5 (fun v41=>
 oH prog (.binOp .mul 3 (.tmp 0) (.tmp 1) 3) 3 [(.int .i64 4),v41] C_5 (fun v42=>
 oH prog (.binOp .add 3 (.tmp 0) (.tmp 1) 3) 3 [v42,(.int .i64 3)] C_5 (fun v43=>
 oH prog (.indexAddr 181 (.tmp 0) (.tmp 1)) 0 [v40,v43] C_5 (fun v44=>
 oH prog (.load 5 (.tmp 0)) 5 [v44] C_5 (fun v45=>
 oH prog (.convert 5 200 (.tmp 0)) 200 [v45] C_5 (fun v46=>
 oH prog (.binOp .or 200 (.tmp 0) (.tmp 1) 200) 200 [v39,v46] C_5 (fun v47=>
 ∃ S_40:World → World → Prop,∃ R_41:Value → World → Prop,(∀ v w w_1,S_40 w w_1 → R_41 v w → R_41 v w_1) ∧
 (∀ w,C_5 w → (oM prog (.buildSlice 216 1 #[(0,(.tmp 0))]) 216 [v47] (fun v w_1=>C_5 w_1 ∧ S_40 w w_1 ∧ R_41 v w_1) w)) ∧
 (∀ w,C_5 w → ∀ v48,R_41 v48 w → (
 oM prog (.call (Go.Call.mk (.builtin .append) #[(.tmp 0),(.tmp 1)] #[216,216])) 216 [v14,v48] (fun v49 w=>
 oM prog (.binOp .add 3 (.tmp 0) (.tmp 1) 3) 3 [(l_3.getD 1 undef),(.int .i64 1)] (fun v13 w=>
 J_1 [v49,v13] w ∧ m_2 [v49,v13] w < m_2 l_3 w0_l_3) w) w))))))))))))))))))))))))))))))))))))))))
 (loopM [undef,undef,undef,undef,(l_3.getD 0 undef),(.int .i64 16)] w (fun J_45 m_46 l_47 u_l_47 w0_l_47=>(fun w=>(
 oM prog (.binOp .lss 3 (.tmp 0) (.tmp 1) 3) 4 [(l_47.getD 5 undef),(.int .i64 64)] (fun v51 w=>
 condM v51
 (oM prog (.binOp .sub 3 (.tmp 0) (.tmp 1) 3) 3 [(l_47.getD 5 undef),(.int .i64 15)] (fun v56 w=>
 oM prog (.indexAddr 216 (.tmp 0) (.tmp 1)) 0 [(l_47.getD 4 undef),v56] (fun v57 w=>
 oM prog (.load 200 (.tmp 0)) 200 [v57] (fun v58 w=>
 oM prog (.binOp .sub 3 (.tmp 0) (.tmp 1) 3) 3 [(l_47.getD 5 undef),(.int .i64 2)] (fun v61 w=>
 oM prog (.indexAddr 216 (.tmp 0) (.tmp 1)) 0 [(l_47.getD 4 undef),v61] (fun v62 w=>
 oM prog (.load 200 (.tmp 0)) 200 [v62] (fun v63 w=>
 callM prog 219 #[v58,(.int .i64 7)] (fun v65 w=>
 callM prog 219 #[v58,(.int .i64 18)] (fun v67 w=>
 oM prog (.binOp .xor 200 (.tmp 0) (.tmp 1) 200) 200 [v65,v67] (fun v68 w=>
 oM prog (.binOp .shr 200 (.tmp 0) (.tmp 1) 174) 200 [v58,(.int .u64 3)] (fun v70 w=>
 oM prog (.binOp .xor 200 (.tmp 0) (.tmp 1) 200) 200 [v68,v70] (fun v71 w=>
 callM prog 219 #[v63,(.int .i64 17)] (fun v73 w=>
 callM prog 219 #[v63,(.int .i64 19)] (fun v75 w=>
 oM prog (.binOp .xor 200 (.tmp 0) (.tmp 1) 200) 200 [v73,v75] (fun v76 w=>
 oM prog (.binOp .shr 200 (.tmp 0) (.tmp 1) 174) 200 [v63,(.int .u64 10)] (fun v78 w=>
 oM prog (.binOp .xor 200 (.tmp 0) (.tmp 1) 200) 200 [v76,v78] (fun v79 w=>
 heldM w (fun C_65 w=>(((true:Bool) = true) ∧ (pureH (l_47.getD 4 undef) C_65 (fun v80=>
 pureH (l_47.getD 4 undef) C_65 (fun v81=>
 pureH (l_47.getD 5 undef) C_65 (fun v82=>
 oH prog (.binOp .sub 3 (.tmp 0) (.tmp 1) 3) 3 [v82,(.int .i64 16)] C_65 (fun v83=>
 oH prog (.indexAddr 216 (.tmp 0) (.tmp 1)) 0 [v81,v83] C_65 (fun v84=>
 oH prog (.load 200 (.tmp 0)) 200 [v84] C_65 (fun v85=>
 pureH v71 C_65 (fun v86=>
 oH prog (.binOp .add 200 (.tmp 0) (.tmp 1) 200) 200 [v85,v86] C_65 (fun v87=>
 pureH (l_47.getD 4 undef) C_65 (fun v88=>
 pureH (l_47.getD 5 undef) C_65 (fun v89=>
 oH prog (.binOp .sub 3 (.tmp 0) (.tmp 1) 3) 3 [v89,(.int .i64 7)] C_65 (fun v90=>
 oH prog (.indexAddr 216 (.tmp 0) (.tmp 1)) 0 [v88,v90] C_65 (fun v91=>
 oH prog (.load 200 (.tmp 0)) 200 [v91] C_65 (fun v92=>
 oH prog (.binOp .add 200 (.tmp 0) (.tmp 1) 200) 200 [v87,v92] C_65 (fun v93=>
 pureH v79 C_65 (fun v94=>
 oH prog (.binOp .add 200 (.tmp 0) (.tmp 1) 200) 200 [v93,v94] C_65 (fun v95=>
 ∃ S_82:World → World → Prop,∃ R_83:Value → World → Prop,(∀ v w w_1,S_82 w w_1 → R_83 v w → R_83 v w_1) ∧
 (∀ w,C_65 w → (oM prog (.buildSlice 216 1 #[(0,(.tmp 0))]) 216 [v95] (fun v w_1=>C_65 w_1 ∧ S_82 w w_1 ∧ R_83 v w_1) w)) ∧
 (∀ w,C_65 w → ∀ v96,R_83 v96 w → (
 oM prog (.call (Go.Call.mk (.builtin .append) #[(.tmp 0),(.tmp 1)] #[216,216])) 216 [v80,v96] (fun v97 w=>
 oM prog (.binOp .add 3 (.tmp 0) (.tmp 1) 3) 3 [(l_47.getD 5 undef),(.int .i64 1)] (fun v53 w=>
 J_45 [v58,v63,v71,v79,v97,v53] w ∧ m_46 [v58,v63,v71,v79,v97,v53] w < m_46 l_47 w0_l_47) w) w)))))))))))))))))))))) w) w) w) w) w) w) w) w) w) w) w) w) w) w) w) w)
 (K (l_47.getD 4 undef) w)) w)) w0_l_47))) w)) w0_l_3)
theorem sh_217_ok {a0:Value} {K:Value → World → Prop} {w:World} (h:sh_217 a0 K w):callM prog 217 #[a0] K w:=
 calls_of_code (fun i=>bif Nat.beq i 5 then .free [0,1,2,3,4,5,6,7,8,9,10,11,12,13,14,15,16,17,18,19,20,21,22,23,24,25,26,27,28,29,30,31,32,33] [34] [35,36] else bif Nat.beq i 13 then .free [0,1,2,3,4,5,6,7,8,9,10,11,12,13,14,15] [16] [17,18] else 0) (fn:=Tryz.f217) (rs:=[.tmp 2]) Tryz.func217 rfl rfl (by kernel_rfl) (Nat.le_of_ble_eq_true rfl) (Eq.mp (by kernel_rfl) h)
def sh_218 (K:Value → World → Prop) (w:World):Prop:=
 oM prog (.buildSlice 216 64 #[(0,(.tmp 0)),(1,(.tmp 1)),(2,(.tmp 2)),(3,(.tmp 3)),(4,(.tmp 4)),(5,(.tmp 5)),(6,(.tmp 6)),(7,(.tmp 7)),(8,(.tmp 8)),(9,(.tmp 9)),(10,(.tmp 10)),(11,(.tmp 11)),(12,(.tmp 12)),(13,(.tmp 13)),(14,(.tmp 14)),(15,(.tmp 15)),(16,(.tmp 16)),(17,(.tmp 17)),(18,(.tmp 18)),(19,(.tmp 19)),(20,(.tmp 20)),(21,(.tmp 21)),(22,(.tmp 22)),(23,(.tmp 23)),(24,(.tmp 24)),(25,(.tmp 25)),(26,(.tmp 26)),(27,(.tmp 27)),(28,(.tmp 28)),(29,(.tmp 29)),(30,(.tmp 30)),(31,(.tmp 31)),(32,(.tmp 32)),(33,(.tmp 33)),(34,(.tmp 34)),(35,(.tmp 35)),(36,(.tmp 36)),(37,(.tmp 37)),(38,(.tmp 38)),(39,(.tmp 39)),(40,(.tmp 40)),(41,(.tmp 41)),(42,(.tmp 42)),(43,(.tmp 43)),(44,(.tmp 44)),(45,(.tmp 45)),(46,(.tmp 46)),(47,(.tmp 47)),(48,(.tmp 48)),(49,(.tmp 49)),(50,(.tmp 50)),(51,(.tmp 51)),(52,(.tmp 52)),(53,(.tmp 53)),(54,(.tmp 54)),(55,(.tmp 55)),(56,(.tmp 56)),(57,(.tmp 57)),(58,(.tmp 58)),(59,(.tmp 59)),(60,(.tmp 60)),(61,(.tmp 61)),(62,(.tmp 62)),(63,(.tmp 63))]) 216 [(.int .u32 1116352408),(.int .u32 1899447441),(.int .u32 3049323471),(.int .u32 3921009573),(.int .u32 961987163),(.int .u32 1508970993),(.int .u32 2453635748),(.int .u32 2870763221),(.int .u32 3624381080),(.int .u32 310598401),(.int .u32 607225278),(.int .u32 1426881987),(.int .u32 1925078388),(.int .u32 2162078206),(.int .u32 2614888103),(.int .u32 3248222580),(.int .u32 3835390401),(.int .u32 4022224774),(.int .u32 264347078),(.int .u32 604807628),(.int .u32 770255983),(.int .u32 1249150122),(.int .u32 1555081692),(.int .u32 1996064986),(.int .u32 2554220882),(.int .u32 2821834349),(.int .u32 2952996808),(.int .u32 3210313671),(.int .u32 3336571891),(.int .u32 3584528711),(.int .u32 113926993),(.int .u32 338241895),(.int .u32 666307205),(.int .u32 773529912),(.int .u32 1294757372),(.int .u32 1396182291),(.int .u32 1695183700),(.int .u32 1986661051),(.int .u32 2177026350),(.int .u32 2456956037),(.int .u32 2730485921),(.int .u32 2820302411),(.int .u32 3259730800),(.int .u32 3345764771),(.int .u32 3516065817),(.int .u32 3600352804),(.int .u32 4094571909),(.int .u32 275423344),(.int .u32 430227734),(.int .u32 506948616),(.int .u32 659060556),(.int .u32 883997877),(.int .u32 958139571),(.int .u32 1322822218),(.int .u32 1537002063),(.int .u32 1747873779),(.int .u32 1955562222),(.int .u32 2024104815),(.int .u32 2227730452),(.int .u32 2361852424),(.int .u32 2428436474),(.int .u32 2756734187),(.int .u32 3204031479),(.int .u32 3329325298)] (fun v1 w=>
 K v1 w) w
theorem sh_218_ok {K:Value → World → Prop} {w:World} (h:sh_218 K w):callM prog 218 #[] K w:=
 calls_of_code (fun _=>0) (fn:=Tryz.f218) (rs:=[.tmp 0]) Tryz.func218 rfl rfl (by kernel_rfl) (Nat.le_of_ble_eq_true rfl) (Eq.mp (by kernel_rfl) h)
def sh_219 (a0 a1:Value) (K:Value → World → Prop) (w:World):Prop:=
 quietM w (fun C_1=>(oQ prog (.binOp .shr 200 (.tmp 0) (.tmp 1) 3) 200 [a0,a1] C_1 (fun v7=>
 oQ prog (.binOp .sub 3 (.tmp 0) (.tmp 1) 3) 3 [(.int .i64 32),a1] C_1 (fun v10=>
 oQ prog (.binOp .shl 200 (.tmp 0) (.tmp 1) 3) 200 [a0,v10] C_1 (fun v11=>
 oQ prog (.binOp .or 200 (.tmp 0) (.tmp 1) 200) 200 [v7,v11] C_1 (fun v12=>
 ∀ w,C_1 w → (K v12 w)))))))
theorem sh_219_ok {a0 a1:Value} {K:Value → World → Prop} {w:World} (h:sh_219 a0 a1 K w):callM prog 219 #[a0,a1] K w:=
 calls_of_code (fun _=>0) (fn:=Tryz.f219) (rs:=[.tmp 4]) Tryz.func219 rfl rfl (by kernel_rfl) (Nat.le_of_ble_eq_true rfl) (Eq.mp (by kernel_rfl) h)
end Go.Proofs
namespace Go.Proofs
open Go Go.Sh Go.RowKit FdSpec
section
variable {K:Value → World → Prop} {w:World}
theorem oM_shrI {P:Program} (t t' T:TypeId) (yk:IntKind) (x y:Int) (h0:0 ≤ y) (h1:y ≤ 64):oM P (.binOp .shr t (.tmp 0) (.tmp 1) t') T [.int .i64 x,.int yk y] = pureM (.int .i64 (x / 2 ^ y.toNat)):=by
 funext K w
 simp [oM,opM,xop,execOp,evalL,evE,binOp]
 rfl
theorem oM_andI {P:Program} (t t' T:TypeId) (x y:Int):oM P (.binOp .and t (.tmp 0) (.tmp 1) t') T [.int .i64 x,.int .i64 y] = pureM (.int .i64 (bits .and .i64 x y)):=by
 funext K w
 simp [oM,opM,xop,execOp,evalL,evE,binOp,go_sem]
theorem bits_andI (x:Int) (hx:0 ≤ x ∧ x < 9223372036854775808):bits .and .i64 x 3 = x % 4:=by
 obtain ⟨a,rfl⟩:=Int.eq_ofNat_of_zero_le hx.1
 simp only [bits]
 rw [show (3:Int) = ((3:Nat):Int) from rfl,BitVec.ofInt_natCast,BitVec.ofInt_natCast,BitVec.toNat_and]
 simp only [BitVec.toNat_ofNat]
 rw [show IntKind.i64.bits = 64 from rfl,Nat.mod_eq_of_lt (show a < 2 ^ 64 by omega),Nat.mod_eq_of_lt (show 3 < 2 ^ 64 by decide),show 3 = 2 ^ 2 - 1 from rfl,Nat.and_two_pow_sub_one_eq_mod]
 rw [wrapI64 _ (by omega) (by omega)]
 omega
theorem rValid_ok (n:Int) (h:K (.bool (decide (okN n))) w):callM Tryz.prog 154 #[.int .i64 n] K w:=by
 apply sh_154_ok
 unfold sh_154
 have e:decide (okN n) = (decide (1 ≤ n) && decide (n < 2305843009213693952)):=by
  by_cases h1:1 ≤ n <;> by_cases h2:n < 2305843009213693952 <;> simp [okN,h1,h2]
 rw [e] at h
 by_cases h1:1 ≤ n
 ·refine Xa @h1 ?_
  simpa [h1] using h
 ·refine Xa @h1 ?_
  simpa [h1] using h
theorem rResidue_ok (n a:Int) (hn:okN n) (h:K (.int .i64 (a % n)) w):callM Tryz.prog 155 #[.int .i64 n,.int .i64 a] K w:=by
 apply sh_155_ok
 unfold sh_155
 obtain ⟨h1,h2⟩:=hn
 have e:=residue_eq n a (by omega)
 have h3:=Int.emod_nonneg a (b:=n) (by omega)
 have h4:=Int.emod_lt_of_pos a (b:=n) (by omega)
 obtain ⟨r,hr⟩:∃ r,r = a.tmod n:=⟨_,rfl⟩
 rw [← hr] at e
 have hjm:∀ (l:List Value) (u:Env) (w':World),(fun l w'=>l = [Value.int .i64 (a % n)] ∧ w' = w) l w' → K (l.getD 0 undef) w':=by
  rintro l u w' ⟨rfl,rfl⟩; exact h
 refine Xa (Eq.symm @hr) ?_
 refine ⟨fun l w'=>l = [Value.int .i64 (a % n)] ∧ w' = w,?_,fun l u w' hl=>hjm l u w' hl⟩
 repeat (any_goals (first
 | (with_reducible ((refine idCond ?_); refine yP (fun hg=>?_) fun hg=>?_))
 | ((with_reducible refine oM_gen fun Kv hK=>?_); simp [go_sem]; (try simp (disch:=omega) only [wrapI64,wrapU8,wrapU32,wrapU64]); refine hK _ _ ?_; clear hK Kv)))
 ·rw [if_pos (by assumption)] at e; rw [e]; exact ⟨rfl,rfl⟩
 ·rw [if_neg (by assumption)] at e; rw [e]; exact ⟨rfl,rfl⟩
theorem rAdd_ok (n a b:Int) (h:K (.int .i64 (addM n a b)) w):callM Tryz.prog 109 #[.int .i64 n,.int .i64 a,.int .i64 b] K w:=by
 apply sh_109_ok
 unfold sh_109
 refine rValid_ok n ?_
 by_cases hn:okN n
 ·refine Xa0 ?_
  refine rResidue_ok n a hn ?_
  refine rResidue_ok n b hn ?_
  have a1:=Int.emod_nonneg a (show n ≠ 0 by have:=hn.1; omega)
  have a2:=Int.emod_lt_of_pos a (show 0 < n by have:=hn.1; omega)
  have b1:=Int.emod_nonneg b (show n ≠ 0 by have:=hn.1; omega)
  have b2:=Int.emod_lt_of_pos b (show 0 < n by have:=hn.1; omega)
  obtain ⟨h1,h2⟩:=hn
  have e:(a % n + b % n).tmod n = addM n a b:=by rw [Int.tmod_eq_emod_of_nonneg (by omega),addM_eq n a b ⟨h1,h2⟩]
  refine Xa @e ?_
  exact h
 ·unfold addM at h
  rw [if_neg hn] at h
  refine Xa0 ?_
  exact h
theorem rSub_ok (n a b:Int) (h:K (.int .i64 (subM n a b)) w):callM Tryz.prog 104 #[.int .i64 n,.int .i64 a,.int .i64 b] K w:=by
 apply sh_104_ok
 unfold sh_104
 refine rValid_ok n ?_
 by_cases hn:okN n
 ·refine Xa0 ?_
  refine rResidue_ok n a hn ?_
  have a1:=Int.emod_nonneg a (show n ≠ 0 by have:=hn.1; omega)
  have a2:=Int.emod_lt_of_pos a (show 0 < n by have:=hn.1; omega)
  have b1:=Int.emod_nonneg b (show n ≠ 0 by have:=hn.1; omega)
  have b2:=Int.emod_lt_of_pos b (show 0 < n by have:=hn.1; omega)
  have h1:=hn.1
  have h2:=hn.2
  refine Xa0 ?_
  refine rResidue_ok n b hn ?_
  have e:(a % n + n - b % n).tmod n = subM n a b:=by rw [Int.tmod_eq_emod_of_nonneg (by omega),subM_eq n a b hn]
  refine Xa @e ?_
  exact h
 ·unfold subM at h
  rw [if_neg hn] at h
  refine Xa0 ?_
  exact h
def MuJ (n x y:Int) (w0:World) (l:List Value) (w':World):Prop:=w' = w0 ∧ ∃ (o:Int) (u v:Value) (j:Nat),l = [.int .i64 o,u,v,.int .i64 (60 - 2 * (j:Int))] ∧ j ≤ 31 ∧ o = x * (y / 2 ^ (62 - 2 * j)) % n
def muMu (l:List Value) (_:World):Nat:=match l with | [_,_,_,.int _ k]=>(k + 2).toNat | _=>0
theorem muMu_eq (a b c:Value) (q:IntKind) (k:Int) (w:World):muMu [a,b,c,.int q k] w = (k + 2).toNat:=rfl
def MiJ (n x o:Int) (d:Int) (w0:World) (l:List Value) (w':World):Prop:=w' = w0 ∧ ∃ (p:Int) (i:Nat),l = [.int .i64 p,.int .i64 (i:Int)] ∧ (i:Int) ≤ d ∧ p = (o + (i:Int) * x) % n
def miMu (d:Int) (l:List Value) (_:World):Nat:=match l with | [_,.int _ k]=>(d - k).toNat | _=>0
theorem miMu_eq (d:Int) (a:Value) (q:IntKind) (k:Int) (w:World):miMu d [a,.int q k] w = (d - k).toNat:=rfl
theorem rMul_ok (n a b:Int) (h:K (.int .i64 (mulM n a b)) w):callM Tryz.prog 153 #[.int .i64 n,.int .i64 a,.int .i64 b] K w:=by
 apply sh_153_ok
 unfold sh_153
 refine rValid_ok n ?_
 by_cases hn:okN n
 ·refine Xa0 ?_
  refine rResidue_ok n a hn ?_
  refine rResidue_ok n b hn ?_
  rw [← mulM_eq n a b hn] at h
  have a1:=Int.emod_nonneg a (show n ≠ 0 by have:=hn.1; omega)
  have a2:=Int.emod_lt_of_pos a (show 0 < n by have:=hn.1; omega)
  have b1:=Int.emod_nonneg b (show n ≠ 0 by have:=hn.1; omega)
  have b2:=Int.emod_lt_of_pos b (show 0 < n by have:=hn.1; omega)
  obtain ⟨h1,h2⟩:=hn
  generalize a % n = x at *
  generalize b % n = y at *
  have hxy:0 ≤ x * y:=Int.mul_nonneg a1 b1
  by_cases hs:n ≤ 2147483648
  ·have hb:x * y ≤ 2147483648 * 2147483648:=Int.mul_le_mul (by omega) (by omega) b1 (by omega)
   have e:(x * y).tmod n = x * y % n:=Int.tmod_eq_emod_of_nonneg hxy
   refine Xa @e ?_
   exact h
  ·refine Xa0 ?_
   refine ⟨MuJ n x y w,muMu,⟨rfl,0,_,_,0,rfl,by omega,?_⟩,?_⟩
   ·rw [show y / 2 ^ (62 - 2 * 0) = 0 by omega]; simp
   rintro _ _ w1 ⟨rfl,o,u,v,j,rfl,hj,ho⟩
   by_cases hj31:j = 31
   ·subst hj31
    have:o = x * y % n:=by rw [ho]; simp
    refine Xa0 ?_
    rw [this]
    exact h
   ·have o1:0 ≤ o:=by rw [ho]; exact Int.emod_nonneg _ (by omega)
    have o2:o < n:=by rw [ho]; exact Int.emod_lt_of_pos _ (by omega)
    have e4:(4 * o).tmod n = 4 * o % n:=Int.tmod_eq_emod_of_nonneg (by omega)
    have sh:=fun t t' T=>oM_shrI (P:=Tryz.prog) t t' T .i64 y (60 - 2 * (j:Int)) (by omega) (by omega)
    have ek:(60 - 2 * (j:Int)).toNat = 60 - 2 * j:=by omega
    rw [ek] at sh
    have ey:y / 2 ^ (60 - 2 * j) = 4 * (y / 2 ^ (62 - 2 * j)) + y / 2 ^ (60 - 2 * j) % 4:=by
     have:y / 2 ^ (62 - 2 * j) = y / 2 ^ (60 - 2 * j) / 4:=by
      rw [show 62 - 2 * j = (60 - 2 * j) + 2 by omega,Int.pow_add]
      exact (Int.ediv_ediv_of_nonneg (Int.le_of_lt (Int.pow_pos (by omega)))).symm
     rw [this]; omega
    have q1:0 ≤ y / 2 ^ (60 - 2 * j):=Int.ediv_nonneg b1 (Int.le_of_lt (Int.pow_pos (by omega)))
    have q2:y / 2 ^ (60 - 2 * j) ≤ y:=Int.ediv_le_self _ b1
    obtain ⟨q,hq⟩:∃ q,q = y / 2 ^ (60 - 2 * j):=⟨_,rfl⟩
    rw [← hq] at sh ey q1 q2
    have eb:=bits_andI q (by omega)
    refine Xa (An4 @e4 @sh @oM_andI @eb) ?_
    generalize hd:q % 4 = d at *
    have d1:0 ≤ d:=by omega
    have d2:d < 4:=by omega
    refine ⟨MiJ n x (4 * o) d w1,miMu d,⟨rfl,_,0,rfl,by omega,by simp⟩,?_⟩
    rintro _ _ w2 ⟨rfl,p,i,rfl,hi,hp⟩
    have p1:0 ≤ p:=by rw [hp]; exact Int.emod_nonneg _ (by omega)
    have p2:p < n:=by rw [hp]; exact Int.emod_lt_of_pos _ (by omega)
    by_cases hid:(i:Int) < d
    ·have ep:(p + x).tmod n = (p + x) % n:=Int.tmod_eq_emod_of_nonneg (by omega)
     refine Xa @ep ?_
     refine ⟨⟨rfl,_,i + 1,rfl,by omega,?_⟩,?_⟩
     ·rw [hp,Int.emod_add_emod]; congr 1; rw [Int.natCast_add,Int.add_mul]; omega
     ·simp only [miMu_eq]; omega
    ·have hid2:(i:Int) = d:=by omega
     refine Xa0 ?_
     refine ⟨⟨rfl,_,_,_,j + 1,by rw [show 60 - 2 * (j:Int) - 2 = 60 - 2 * ((j + 1:Nat):Int) by omega]; rfl,by omega,?_⟩,?_⟩
     ·rw [hp,hid2,ho,show 62 - 2 * (j + 1) = 60 - 2 * j by omega]
      rw [← hq,ey]
      generalize y / 2 ^ (62 - 2 * j) = Y
      rw [Int.add_emod,Int.mul_emod,Int.emod_emod_of_dvd _ (Int.dvd_refl n),← Int.mul_emod,← Int.add_emod,Int.mul_add,Int.mul_comm d x]
      congr 2
      rw [← Int.mul_assoc,← Int.mul_assoc,Int.mul_comm 4 x]
     ·simp only [muMu_eq]; omega
 ·unfold mulM at h
  rw [if_neg hn] at h
  refine Xa0 ?_
  exact h
def RpJ (n R:Int) (w0:World) (l:List Value) (w':World):Prop:=w' = w0 ∧ ∃ (o a:Int) (b:Nat),l = [.int .i64 o,.int .i64 a,.int .i64 (b:Int)] ∧ (0 ≤ o ∧ o < n) ∧ (0 ≤ a ∧ a < n) ∧ b < 9223372036854775808 ∧ o * a ^ b % n = R
def rpMu (l:List Value) (_:World):Nat:=match l with | [_,_,.int _ k]=>k.toNat | _=>0
theorem rpMu_eq (a b:Value) (q:IntKind) (k:Int) (w:World):rpMu [a,b,.int q k] w = k.toNat:=rfl
theorem mulM_res (n a b:Int) (hn:okN n):mulM n a b = a * b % n:=by rw [mulM,if_pos hn]
theorem rpow_ok (n a:Int) (b:Nat) (hn:okN n) (hb:b < 9223372036854775808) (h:K (.int .i64 (pw n a b)) w):callM Tryz.prog 189 #[.int .i64 n,.int .i64 a,.int .i64 (b:Int)] K w:=by
 apply sh_189_ok
 unfold sh_189
 have hn1:=hn.1
 have hn2:=hn.2
 have e1:(1:Int).tmod n = 1 % n:=Int.tmod_eq_emod_of_nonneg (by omega)
 refine Xa @e1 ?_
 refine rResidue_ok n a hn ?_
 have m1:=Int.emod_nonneg 1 (show n ≠ 0 by omega)
 have m2:=Int.emod_lt_of_pos 1 (show 0 < n by omega)
 have a1:=Int.emod_nonneg a (show n ≠ 0 by omega)
 have a2:=Int.emod_lt_of_pos a (show 0 < n by omega)
 have hR0:1 % n * (a % n) ^ b % n = pw n a b:=by
  rw [Int.mul_emod,Int.emod_emod_of_dvd _ (Int.dvd_refl n),← Int.mul_emod,Int.one_mul]
  exact pw_emod n a b
 generalize pw n a b = R at h hR0
 refine ⟨RpJ n R w,rpMu,⟨rfl,_,_,b,rfl,⟨m1,m2⟩,⟨a1,a2⟩,hb,hR0⟩,?_⟩
 clear m1 m2 a1 a2 hb hR0
 rintro _ _ w1 ⟨rfl,o,c,b,rfl,ho,hc,hb,hR⟩
 by_cases hb0:b = 0
 ·subst hb0
  have:o = R:=by
   rw [← hR]; simp
   exact (Int.emod_eq_of_lt ho.1 ho.2).symm
  refine Xa0 ?_
  rw [this]; exact h
 ·have e2:(b:Int).tmod 2 = ((b % 2:Nat):Int):=by rw [Int.tmod_eq_emod_of_nonneg (by omega)]; omega
  have e3:(b:Int).tdiv 2 = ((b / 2:Nat):Int):=by rw [Int.tdiv_eq_ediv_of_nonneg (by omega)]; omega
  refine Xa0 ?_
  refine ⟨fun l w'=>w' = w1 ∧ ∃ o',l = [.int .i64 o'] ∧ (0 ≤ o' ∧ o' < n) ∧ o' * (c * c % n) ^ (b / 2) % n = R,?_,?_⟩
  ·rcases Nat.mod_two_eq_zero_or_one b with h2 | h2
   ·rw [h2] at e2
    refine Xa @e2 ?_
    exact ⟨rfl,o,rfl,ho,by rw [pw_even n c o b h2]; exact hR⟩
   ·rw [h2] at e2
    refine Xa @e2 ?_
    refine rMul_ok n o c ?_
    rw [mulM_res n o c hn]
    exact ⟨rfl,_,rfl,⟨Int.emod_nonneg _ (by omega),Int.emod_lt_of_pos _ (by omega)⟩,by rw [pw_odd n c o b h2]; exact hR⟩
  ·rintro _ _ w2 ⟨rfl,o',rfl,ho',hR'⟩
   refine rMul_ok n c c ?_
   rw [mulM_res n c c hn]
   refine Xa @e3 ?_
   refine ⟨⟨rfl,o',c * c % n,b / 2,by simp,ho',⟨Int.emod_nonneg _ (by omega),Int.emod_lt_of_pos _ (by omega)⟩,by omega,hR'⟩,?_⟩
   simp only [rpMu_eq]; omega
end
end Go.Proofs
namespace Go.Proofs
open Go Go.Sh Go.RowKit FdSpec TkSpec
section
variable {K:Value → World → Prop} {w:World}
def RiJ (n:Int) (E:Int × Int) (w:World) (l:List Value) (w':World):Prop:=w' = w ∧ ∃ (v1 v2 v3:Value) (r s x y:Int),l = [v1,v2,v3,.int .i64 r,.int .i64 s,.int .i64 x,.int .i64 y] ∧ (0 ≤ s ∧ s < n) ∧ (0 ≤ r ∧ r ≤ n) ∧ (0 ≤ x ∧ x < 2305843009213693952) ∧ (0 ≤ y ∧ y < 2305843009213693952) ∧ eucAll n r s x y = E
def riMu (l:List Value) (_:World):Nat:=match l with | [_,_,_,_,.int _ s,_,_]=>s.toNat | _=>0
theorem riMu_eq (a b c r x y:Value) (k:IntKind) (s:Int) (w:World):riMu [a,b,c,r,.int k s,x,y] w = s.toNat:=rfl
theorem rInv_ok (n a:Int) (k:K (.tuple #[.int .i64 ((invM n a).getD 0),.bool (invM n a).isSome]) w):callM Tryz.prog 152 #[.int .i64 n,.int .i64 a] K w:=by
 apply sh_152_ok
 unfold sh_152
 refine rValid_ok n ?_
 by_cases hn:okN n
 ·have hn':=hn
  obtain ⟨h1,h2⟩:=hn'
  have ha:=Int.emod_nonneg a (b:=n) (by omega)
  have ha2:=Int.emod_lt_of_pos a (b:=n) (by omega)
  have kk:∀ r x,(r,x) = eucAll n n (a % n) 0 1 → K (.tuple #[.int .i64 (if r = 1 then x % n else 0),.bool (decide (r = 1))]) w:=fun r x e=>by
   unfold invM at k
   rw [if_pos hn,← e] at k
   by_cases hr:r = 1
   ·simpa [hr] using k
   ·simpa [hr] using k
  clear k
  refine Xa0 ?_
  refine rResidue_ok n a hn ?_
  have m1:(1:Int).tmod n = 1 % n:=Int.tmod_eq_emod_of_nonneg (by omega)
  have m2:=Int.emod_nonneg 1 (b:=n) (by omega)
  have m3:=Int.emod_lt_of_pos 1 (b:=n) (by omega)
  have hy0:eucAll n n (a % n) 0 (1 % n) = eucAll n n (a % n) 0 1:=by
   by_cases hn1:n = 1
   ·subst hn1
    rw [show a % 1 = 0 by omega,eucAll_zero,eucAll_zero]
   ·rw [show (1:Int) % n = 1 from Int.emod_eq_of_lt (by omega) (by omega)]
  generalize a % n = s0 at *
  generalize hE:eucAll n n s0 0 1 = E at *
  refine Xa @m1 ?_
  refine ⟨RiJ n E w,riMu,⟨rfl,_,_,_,n,s0,0,1 % n,rfl,⟨ha,ha2⟩,⟨by omega,by omega⟩,⟨by omega,by omega⟩,⟨by omega,by omega⟩,hy0⟩,?_⟩
  clear hE ha ha2 hy0 m1 m2 m3 s0
  rintro _ _ w1 ⟨rfl,v,v2,v3,r,s,x,y,rfl,hs,hr,hx,hy,he⟩
  by_cases h0:s = 0
  ·subst h0
   rw [eucAll_zero] at he
   have kk:=kk r x he
   have e1:x.tmod n = x % n:=Int.tmod_eq_emod_of_nonneg hx.1
   by_cases hr1:r = 1
   ·simp only [hr1] at kk
    refine Xa (An2 @hr1 @e1) ?_
    simpa using kk
   ·simp only [hr1] at kk
    refine Xa @hr1 ?_
    simpa using kk
  ·rw [euc_step n r s x y (by omega)] at he
   have q1:r.tdiv s = r / s:=Int.tdiv_eq_ediv_of_nonneg hr.1
   have q2:=Int.emod_add_mul_ediv r s
   have q3:=Int.emod_nonneg r (b:=s) (by omega)
   have q4:=Int.emod_lt_of_pos r (b:=s) (by omega)
   have q5:0 ≤ r / s:=Int.ediv_nonneg hr.1 hs.1
   have q6:r / s ≤ r:=Int.ediv_le_self _ hr.1
   have q7:r / s * s = r - r % s:=by rw [Int.mul_comm]; omega
   have m1:=mulM_range n (r / s) y hn
   have m2:=subM_range n x (mulM n (r / s) y) hn
   generalize r % s = t at *
   generalize r / s = q at *
   clear q2
   have q8:r - (r - t) = t:=by omega
   refine Xa (An3 @q1 @q7 @q8) ?_
   refine rMul_ok n q y ?_
   refine rSub_ok n x _ ?_
   generalize subM n x (mulM n q y) = z at *
   refine ⟨⟨rfl,_,_,_,s,t,y,z,rfl,⟨q3,by omega⟩,⟨hs.1,by omega⟩,hy,⟨m2.1,by omega⟩,he⟩,?_⟩
   simp only [riMu_eq]
   omega
 ·unfold invM at k
  rw [if_neg hn] at k
  refine Xa0 ?_
  exact k
def TzJ (m:Nat) (w:World) (l:List Value) (w':World):Prop:=w' = w ∧ ∃ (d k:Nat),l = [.int .i64 (d:Int),.int .i64 (k:Int)] ∧ k ≤ tz 64 m ∧ m / 2 ^ k = d ∧ 0 < d
def tzMu (l:List Value) (_:World):Nat:=match l with | [.int _ d,_]=>d.toNat | _=>0
theorem tzMu_eq (a:Value) (q:IntKind) (d:Int) (w:World):tzMu [.int q d,a] w = d.toNat:=rfl
theorem tz_step (k:Nat):∀ (f m:Nat),0 < m → m < 2 ^ f → k ≤ tz f m → (m / 2 ^ k % 2 = 0 ↔ k < tz f m) ∧ 0 < m / 2 ^ k:=by
 induction k with
 | zero=>
  intro f m hm hf _
  cases f with
  | zero=>omega
  | succ f=>
   unfold tz
   split
   ·rename_i h; simp [h]; omega
   ·rename_i h; simp [h]; omega
 | succ k ih=>
  intro f m hm hf hk
  cases f with
  | zero=>simp [tz] at hk
  | succ f=>
   unfold tz at hk ⊢
   split at hk
   ·rename_i h
    rw [if_pos h]
    have:=ih f (m / 2) (by omega) (by rw [Nat.pow_succ] at hf; omega) (by omega)
    rw [Nat.div_div_eq_div_mul,← Nat.pow_succ'] at this
    exact ⟨by rw [this.1]; omega,this.2⟩
   ·omega
theorem rpasses_ok (n b:Int) (hn:okN n) (h2:2 ≤ n) (k:K (.bool (passes n b)) w):callM Tryz.prog 210 #[.int .i64 n,.int .i64 b] K w:=by
 apply sh_210_ok
 unfold sh_210
 have hn1:=hn.1
 have hn2:=hn.2
 obtain ⟨m,hm⟩:=natN (n - 1) (by omega)
 have hm2:(n - 1).toNat = m:=by omega
 unfold passes at k
 rw [hm2] at k
 have ht:=tz_lt 64 m (by omega) (by omega)
 refine Xa @hm ?_
 refine ⟨TzJ m w,tzMu,⟨rfl,m,0,rfl,by omega,by simp,by omega⟩,?_⟩
 rintro _ _ w1 ⟨rfl,d,t,rfl,hd,hmd,hd0⟩
 have hst:=tz_step t 64 m (by omega) (by omega) hd
 rw [hmd] at hst
 have hdm:d ≤ m:=by rw [← hmd]; exact Nat.div_le_self _ _
 have e2:(d:Int).tmod 2 = ((d % 2:Nat):Int):=by rw [Int.tmod_eq_emod_of_nonneg (by omega)]; omega
 have e3:(d:Int).tdiv 2 = ((d / 2:Nat):Int):=by rw [Int.tdiv_eq_ediv_of_nonneg (by omega)]; omega
 by_cases hev:d % 2 = 0
 ·have hlt:=hst.1.1 hev
  rw [hev] at e2
  refine Xa (An2 @e2 @e3) ?_
  refine ⟨⟨rfl,d / 2,t + 1,by simp,by omega,?_,by omega⟩,?_⟩
  ·rw [Nat.pow_succ,← Nat.div_div_eq_div_mul,hmd]
  ·simp only [tzMu_eq]; omega
 ·have htt:t = tz 64 m:=by have:=mt hst.1.2 hev; omega
  have hodd:d % 2 = 1:=by omega
  rw [hodd] at e2
  have k:K (.bool (if pw n b d = 1 then true else mrUp n t (pw n b d))) w1:=by rw [← hmd,htt]; exact k
  refine Xa @e2 ?_
  refine rpow_ok n b d hn (by omega) ?_
  have hp:=pw_nonneg n b d (by omega)
  generalize pw n b d = x at *
  by_cases hx1:x = 1
  ·simp only [if_pos hx1] at k
   refine Xa @hx1 ?_
   exact k
  ·simp only [if_neg hx1] at k
   refine Xa @hx1 ?_
   refine ⟨fun l w'=>w' = w1 ∧ ∃ (v:Value) (y:Int) (i:Nat),l = [v,.int .i64 y,.int .i64 (i:Int)] ∧ i ≤ t ∧ (0 ≤ y ∧ y < n) ∧ mrUp n (t - i) y = mrUp n t x,wiMu t,⟨rfl,_,x,0,rfl,by omega,hp,rfl⟩,?_⟩
   generalize mrUp n t x = R at *
   rintro _ _ w2 ⟨rfl,v,y,i,rfl,hi,hy,hR⟩
   by_cases hit:i = t
   ·subst hit
    rw [Nat.sub_self] at hR
    have hR2:R = false:=by rw [← hR]; rfl
    subst hR2
    refine Xa0 ?_
    exact k
   ·obtain ⟨j,hj⟩:∃ j,t - i = j + 1:=⟨t - i - 1,by omega⟩
    rw [hj] at hR
    unfold mrUp at hR
    by_cases hxn:y = n - 1
    ·rw [if_pos hxn] at hR
     subst hR
     rw [hm] at hxn
     refine Xa (An2 @hm @hxn) ?_
     exact k
    ·rw [if_neg hxn] at hR
     rw [hm] at hxn
     refine Xa (An2 @hm @hxn) ?_
     refine rMul_ok n y y ?_
     rw [mulM_res n y y hn]
     refine Xa0 ?_
     refine ⟨⟨rfl,_,_,i + 1,rfl,by omega,⟨Int.emod_nonneg _ (by omega),Int.emod_lt_of_pos _ (by omega)⟩,?_⟩,?_⟩
     ·rw [show t - (i + 1) = j by omega]; exact hR
     ·simp only [wiMu_eq]; omega
end
end Go.Proofs
namespace Go.Proofs
open Go Go.Sh Go.RowKit FdSpec TkSpec
section
variable {K:Value → World → Prop} {w:World}
theorem smallP_rng:∀ p ∈ smallP,(2:Int) ≤ p ∧ p ≤ 37:=by decide
theorem bases_ok (k:∀ v W,Below w.heap.size w W → Ints W v smallP → K v W):callM Tryz.prog 209 #[] K w:=by
 apply sh_209_ok
 unfold sh_209
 rw [rM_of (S:=Instr.buildSlice 22 12 (((List.range 12).zip smallV.toList)).toArray) (by kernel_rfl)]
 have e:(Instr.buildSlice 22 12 (((List.range 12).zip smallV.toList)).toArray).run Tryz.prog w = .ok (.slice (some ⟨w.heap.size,0,none⟩) 12 12) (w.alloc (.cells (smallP.map (Value.int .i64)).toArray 3)):=by kernel_rfl
 rw [e]
 exact k _ _ ((Below.refl _ w).alloc (Nat.le_refl _) _) (ints_alloc w smallP _ 12 (fun n hn=>by have:=smallP_rng n hn; unfold I64; omega) (by decide))
theorem big_of_none {n:Int} (hf:smallP.find? (fun p=>decide (n % p = 0)) = none) (h1:2 ≤ n):37 < n:=by
 have hnd:=List.find?_eq_none.1 hf
 have g:∀ p ∈ smallP,¬ n % p = 0:=fun p hp=>by simpa using hnd p hp
 have hs:∀ m:Nat,m < 38 → 2 ≤ m → ∃ p ∈ smallP,(m:Int) % p = 0:=by decide +kernel
 obtain ⟨m,rfl⟩:=natN n (by omega)
 by_cases hm:m < 38
 ·obtain ⟨p,hp,hp0⟩:=hs m hm (by omega)
  exact absurd hp0 (g p hp)
 ·omega
def RprJ (n:Int) (W:World) (l:List Value) (w':World):Prop:=w' = W ∧ ∃ (v:Value) (i:Nat),l = [v,.int .i64 (i:Int)] ∧ i ≤ 12 ∧ smallP.find? (fun p=>decide (n % p = 0)) = (smallP.drop i).find? (fun p=>decide (n % p = 0))
def RprJ2 (n:Int) (W:World) (l:List Value) (w':World):Prop:=w' = W ∧ ∃ (v:Value) (i:Nat),l = [v,.int .i64 (i:Int)] ∧ i ≤ 12 ∧ smallP.all (fun p=>passes n p) = (smallP.drop i).all (fun p=>passes n p)
def rprMu (l:List Value) (_:World):Nat:=match l with | [_,.int _ i]=>12 - i.toNat | _=>0
theorem rprMu_eq (x:Value) (q:IntKind) (i:Int) (w:World):rprMu [x,.int q i] w = 12 - i.toNat:=rfl
theorem rPrime_ok (n:Int) (k:∀ w',Below w.heap.size w w' → K (.bool (primeM n)) w'):callM Tryz.prog 188 #[.int .i64 n] K w:=by
 apply sh_188_ok
 unfold sh_188
 unfold primeM at k
 by_cases h1:n < 2
 ·rw [if_pos (.inl h1)] at k
  refine Xa @h1 ?_
  exact k _ (Below.refl _ _)
 by_cases h2:2305843009213693952 ≤ n
 ·rw [if_pos (.inr h2)] at k
  refine Xa (An2 @h1 @h2) ?_
  exact k _ (Below.refl _ _)
 rw [if_neg (by omega)] at k
 have hn:okN n:=⟨by omega,by omega⟩
 refine Xa (An2 @h1 @h2) ?_
 refine bases_ok (fun v W hb hi=>?_)
 have hlen:smallP.length = 12:=rfl
 obtain ⟨ad,c,rfl⟩:=hi.isSlice
 refine ⟨RprJ n W,rprMu,⟨rfl,_,0,rfl,by omega,rfl⟩,?_⟩
 rintro _ _ w1 ⟨rfl,u,i,rfl,hi12,hf⟩
 by_cases h12:i = 12
 ·subst h12
  rw [show smallP.drop 12 = [] from rfl,List.find?_nil] at hf
  rw [hf] at k
  simp only at k
  have hbig:=big_of_none hf (by omega)
  refine Xa0 ?_
  refine ⟨RprJ2 n w1,rprMu,⟨rfl,_,0,rfl,by omega,rfl⟩,?_⟩
  rintro _ _ w2 ⟨rfl,u2,i,rfl,hi2,hall⟩
  by_cases hi12:i = 12
  ·subst hi12
   rw [show smallP.drop 12 = [] from rfl,List.all_nil] at hall
   rw [hall] at k
   refine Xa0 ?_
   exact k _ hb
  ·rw [List.drop_eq_getElem_cons (by omega),List.all_cons] at hall
   have hr:=smallP_rng _ (List.getElem_mem (show i < smallP.length by omega))
   obtain ⟨b1,o1,rfl,hb1,ca,ra,_⟩:=hi.at (i:=i) (by omega)
   generalize smallP[i] = p at *
   refine Xa (ca _ (Below.refl _ _)) ?_
   refine rpasses_ok n p hn (by omega) ?_
   cases hps:passes n p with
   | false=>
    rw [hps,Bool.false_and] at hall
    rw [hall] at k
    refine Xa0 ?_
    exact k _ hb
   | true=>
    rw [hps,Bool.true_and] at hall
    refine Xa0 ?_
    refine ⟨⟨rfl,_,i + 1,rfl,by omega,hall⟩,?_⟩
    simp only [rprMu_eq]; omega
 ·rw [List.drop_eq_getElem_cons (by omega)] at hf
  have hr:=smallP_rng _ (List.getElem_mem (show i < smallP.length by omega))
  obtain ⟨b1,o1,rfl,hb1,ca,ra,_⟩:=hi.at (i:=i) (by omega)
  generalize smallP[i] = p at *
  have er:n.tmod p = n % p:=Int.tmod_eq_emod_of_nonneg (by omega)
  by_cases hd:n % p = 0
  ·rw [List.find?_cons_of_pos (by simpa using hd)] at hf
   rw [hf] at k
   have k:=k _ hb
   simp only at k
   refine Xa (An3 (ca _ (Below.refl _ _)) @er @hd) ?_
   exact k
  ·rw [List.find?_cons_of_neg (by simpa using hd)] at hf
   refine Xa (An3 (ca _ (Below.refl _ _)) @er @hd) ?_
   refine ⟨⟨rfl,_,i + 1,rfl,by omega,hf⟩,?_⟩
   simp only [rprMu_eq]; omega
set_option maxHeartbeats 1000000 in
theorem rValidGroup_ok (g:Grp) (hg:GrpR g) (k:∀ w',Below w.heap.size w w' → K (.bool (validG g)) w'):callM Tryz.prog 156 #[grpV g] K w:=by
 apply sh_156_ok
 unfold sh_156
 refine box_grp g fun b W hW hb c0 c1 c2=>?_
 have n1:=validG_not (g:=g)
 have n2:=validG_yes (g:=g)
 obtain ⟨P,Q,G⟩:=g
 obtain ⟨hP,hQ,hG⟩:=hg
 unfold I64 at hP hQ hG
 simp only at hP hQ hG n1 n2 c0 c1 c2
 have hr:=Below.refl W.heap.size W
 have k1:∀ w',validG ⟨P,Q,G⟩ = false → Below W.heap.size W w' → K (.bool false) w':=fun w' e hb=>by rw [e] at k; exact k w' (hW.on hb)
 have k2:∀ w' v,validG ⟨P,Q,G⟩ = v → Below W.heap.size W w' → K (.bool v) w':=fun w' v e hb=>by rw [e] at k; exact k w' (hW.on hb)
 clear k
 repeat (any_goals (first
 | (with_reducible first|((refine idGd ?_); first|refine zD ?_|((refine idGdD ?_); first|refine zI ?_|refine zJ ?_|refine zK (fun hg=>?_) fun hg=>?_)|((refine idGdN ?_); first|refine zO ?_|refine zP ?_|refine zQ (fun hg=>?_) fun hg=>?_))|((refine idPick ?_); first|refine yB ?_|refine yD ?_|refine yE ?_|refine yF ?_|refine yG ?_)|((refine idCond ?_); first|refine yL ?_|refine yP (fun hg=>?_) fun hg=>?_))
 | ((with_reducible refine oM_gen fun Kv hK=>?_); simp [go_sem,c0,c1,c2,hr]; (try simp (disch:=omega) only [wrapI64,wrapU8,wrapU32,wrapU64]); refine hK _ _ ?_; clear hK Kv)))
 all_goals try exact k1 _ (n1 (by omega)) hr
 refine rPrime_ok Q (fun w1 h1=>?_)
 have n2:=n2 (by omega)
 cases hq:primeM Q with
 | false=>
  have n2:validG ⟨P,Q,G⟩ = false:=by rw [n2,hq]; rfl
  refine Xa0 ?_
  exact k1 _ n2 h1
 | true=>
  rw [hq,Bool.true_and] at n2
  refine Xa (An2 @c0 @h1) ?_
  refine rPrime_ok P (fun w2 h2=>?_)
  have h2:=h1.on h2
  cases hp:primeM P with
  | false=>
   have n2:validG ⟨P,Q,G⟩ = false:=by rw [n2,hp]; rfl
   refine Xa0 ?_
   exact k1 _ n2 h2
  | true=>
   rw [hp,Bool.true_and] at n2
   obtain ⟨q,hq'⟩:=natN Q (by omega)
   subst hq'
   refine Xa (An4 @c0 @c1 @c2 @h2) ?_
   refine rpow_ok P G q ⟨by omega,by omega⟩ (by omega) ?_
   rw [Int.toNat_natCast] at n2
   generalize pw P G q = z at *
   refine Xa0 ?_
   exact k2 _ _ n2 h2
end
end Go.Proofs
namespace Go.Proofs
open Go Go.Sh Go.RowKit FdSpec TkSpec
section
variable {K:Value → World → Prop} {w:World}
@[reducible] def grpC (g:Grp):List Value:=[.int .i64 g.P,.int .i64 g.Q,.int .i64 g.G]
def memM (g:Grp) (x:Int):Bool:=decide (1 ≤ x) && decide (x < g.P) && decide (pw g.P x g.Q.toNat = 1)
theorem rMember_ok (g:Grp) (x:Int) (hP:okN g.P) (hQ:0 ≤ g.Q ∧ g.Q < 9223372036854775808) (k:∀ w',Below w.heap.size w w' → K (.bool (memM g x)) w'):callM Tryz.prog 163 #[grpV g,.int .i64 x] K w:=by
 apply sh_163_ok
 unfold sh_163
 refine box_kn (cs:=grpC g) rfl (.start w) fun b W hk hb1 hb=>?_
 have k:=k W hk.below
 unfold memM at k
 have hp1:=hP.1
 by_cases h1:1 ≤ x
 ·by_cases h2:x < g.P
  ·rw [decide_eq_true h1,decide_eq_true h2,Bool.true_and,Bool.true_and] at k
   obtain ⟨q,hq⟩:=natN g.Q hQ.1
   refine Xa (An3 hk.cells @h1 @h2) ?_
   have e:(Value.int .i64 g.Q) = .int .i64 (q:Int):=by rw [hq]
   rw [e]
   refine rpow_ok g.P x q hP (by omega) ?_
   rw [hq,Int.toNat_natCast] at k
   generalize pw g.P x q = z at *
   refine Xa0 ?_
   exact k
  ·rw [decide_eq_false h2] at k
   refine Xa (An3 hk.cells @h1 @h2) ?_
   simpa using k
 ·rw [decide_eq_false h1] at k
  refine Xa (An2 hk.cells @h1) ?_
  simpa using k
theorem validG_facts {g:Grp} (h:validG g = true):okN g.P ∧ okN g.Q ∧ 5 ≤ g.Q ∧ 2 ≤ g.G:=by
 unfold validG at h
 split at h
 ·cases h
 rename_i hn
 exact ⟨⟨by omega,by omega⟩,⟨by omega,by omega⟩,by omega,by omega⟩
theorem elemG_eq {g:Grp} (h:validG g = true) (x:Int):elemG g x = memM g x:=by
 unfold elemG memM; rw [h,Bool.and_true]
theorem rElement_ok (g:Grp) (x:Int) (hg:GrpR g) (k:∀ w',Below w.heap.size w w' → K (.bool (elemG g x)) w'):callM Tryz.prog 116 #[grpV g,.int .i64 x] K w:=by
 apply sh_116_ok
 unfold sh_116
 refine box_kn (cs:=grpC g) rfl (.start w) fun b W hk hb1 hb=>?_
 have e0:elemG g x = (decide (1 ≤ x) && decide (x < g.P) && validG g && decide (pw g.P x g.Q.toNat = 1)):=rfl
 by_cases h1:1 ≤ x
 ·by_cases h2:x < g.P
  ·refine Xa (An3 hk.cells @h1 @h2) ?_
   refine rValidGroup_ok g hg (fun w1 h=>?_)
   have hk:=hk.next h
   cases hv:validG g with
   | false=>
    refine Xa hk.cells ?_
    have k:=k _ hk.below
    rw [e0,hv] at k
    simpa using k
   | true=>
    have hf:=validG_facts hv
    have hq:=hf.2.1.1
    have hq2:=hf.2.1.2
    refine Xa hk.cells ?_
    refine rMember_ok g x hf.1 ⟨by omega,by omega⟩ (fun w2 h=>?_)
    have hk:=hk.next h
    refine Xa0 ?_
    have k:=k _ hk.below
    rw [elemG_eq hv] at k
    exact k
  ·have k:=k _ hk.below
   rw [e0,decide_eq_false h2] at k
   refine Xa (An3 hk.cells @h1 @h2) ?_
   simpa using k
 ·have k:=k _ hk.below
  rw [e0,decide_eq_false h1] at k
  refine Xa (An2 hk.cells @h1) ?_
  simpa using k
theorem rPower_ok (g:Grp) (x n:Int) (k:∀ w',Below w.heap.size w w' → K (.int .i64 (powerG g x n)) w'):callM Tryz.prog 164 #[grpV g,.int .i64 x,.int .i64 n] K w:=by
 apply sh_164_ok
 unfold sh_164
 refine box_kn (cs:=grpC g) rfl (.start w) fun b W hk hb1 hb=>?_
 unfold powerG at k
 refine Xa hk.cells ?_
 refine rValid_ok g.P ?_
 by_cases hp:okN g.P
 ·refine Xa hk.cells ?_
  refine rValid_ok g.Q ?_
  by_cases hq:okN g.Q
  ·rw [if_pos ⟨hp,hq⟩] at k
   refine Xa hk.cells ?_
   refine ⟨Kn w _,hk.drew,rfl,?_⟩
   repeat (any_goals (first
   | (with_reducible refine pureH_in ?_)
   | ((with_reducible refine idOH ?_); (with_reducible refine oH_of ⟨_,rfl⟩ (fun W0 hW0=>by (refine oM_gen (fun Kv hK=>?_)); simp [go_sem,hW0.cells]; (first | exact hK _ _ ⟨rfl,rfl⟩ | exact ⟨by omega,hK _ _ ⟨rfl,rfl⟩⟩)) ?_))))
   refine ⟨Nx,fun w1 hk=>?_⟩
   refine rResidue_ok g.Q n hq ?_
   have hq1:=hq.1
   have hq2:=hq.2
   have a3:=Int.emod_nonneg n (b:=g.Q) (by omega)
   have a4:=Int.emod_lt_of_pos n (b:=g.Q) (by omega)
   obtain ⟨m,hm⟩:=natN (n % g.Q) a3
   refine ⟨hk,?_⟩
   rw [hm] at k ⊢
   rw [Int.toNat_natCast] at k
   refine rpow_ok g.P x m hp (by omega) ?_
   exact ⟨hk,hk,k _ hk.below⟩
  ·rw [if_neg (fun h=>hq h.2)] at k
   refine Xa hk.cells ?_
   exact k _ hk.below
 ·rw [if_neg (fun h=>hp h.1)] at k
  refine Xa hk.cells ?_
  exact k _ hk.below
theorem rTimes_ok (g:Grp) (x n:Int) (k:∀ w',Below w.heap.size w w' → K (.int .i64 (timesG g x n)) w'):callM Tryz.prog 165 #[grpV g,.int .i64 x,.int .i64 n] K w:=by
 apply sh_165_ok
 unfold sh_165
 refine box_kn (cs:=grpC g) rfl (.start w) fun b W hk hb1 hb=>?_
 unfold timesG at k
 refine Xa hk.cells ?_
 refine rValid_ok g.Q ?_
 by_cases hq:okN g.Q
 ·rw [if_pos hq] at k
  refine Xa hk.cells ?_
  refine rMul_ok g.P x n ?_
  exact k _ hk.below
 ·rw [if_neg hq] at k
  refine Xa hk.cells ?_
  exact k _ hk.below
def RpdJ (g:Grp) (R:Int) (L:List (Addr × Value)) (ps:List (Int × Int)) (w0:World) (l:List Value) (w':World):Prop:=Kn w0 L w' ∧ ∃ (o:Int) (i:Nat),l = [.int .i64 o,.int .i64 (i:Int)] ∧ i ≤ ps.length ∧ prodL g o (ps.drop i) = R
def rpdMu (n:Nat) (l:List Value) (_:World):Nat:=match l with | [_,.int _ i]=>n - i.toNat | _=>0
theorem rpdMu_eq (n:Nat) (x:Value) (q:IntKind) (i:Int) (w:World):rpdMu n [x,.int q i] w = n - i.toNat:=rfl
theorem rProduct_ok (g:Grp) {bv ev:Value} {bs es:List Int} (hbs:Ints w bv bs) (hes:Ints w ev es) (k:∀ w',Below w.heap.size w w' → K (.tuple #[.int .i64 (prodG g bs es).1,.bool (prodG g bs es).2]) w'):callM Tryz.prog 166 #[grpV g,bv,ev] K w:=by
 apply sh_166_ok
 unfold sh_166
 refine box_kn (cs:=grpC g) rfl (.start w) fun b W hk hb1 hb=>?_
 obtain ⟨bad,bc,rfl⟩:=hbs.isSlice
 obtain ⟨ead,ec,rfl⟩:=hes.isSlice
 have l1:=hbs.len
 have l2:=hes.len
 unfold prodG at k
 refine Xa hk.cells ?_
 refine rValid_ok g.P ?_
 by_cases hp:okN g.P
 ·refine Xa hk.cells ?_
  refine rValid_ok g.Q ?_
  by_cases hq:okN g.Q
  ·by_cases hl:bs.length = es.length
   ·rw [if_pos ⟨hp,hq,hl⟩] at k
    have hp0:=hp.1
    have e1:(1:Int).tmod g.P = 1 % g.P:=Int.tmod_eq_emod_of_nonneg (by omega)
    have hzl:(bs.zip es).length = bs.length:=by rw [List.length_zip]; omega
    refine Xa (An3 hk.cells @hl @e1) ?_
    refine ⟨RpdJ g (prodL g (1 % g.P) (bs.zip es)) _ (bs.zip es) w,rpdMu es.length,⟨hk,_,0,rfl,by omega,rfl⟩,?_⟩
    generalize prodL g (1 % g.P) (bs.zip es) = R at *
    rintro _ _ w1 ⟨hk,o,i,rfl,hi,he⟩
    rw [hzl] at hi
    by_cases hin:i = es.length
    ·rw [List.drop_of_length_le (by omega)] at he
     unfold prodL at he
     refine Xa0 ?_
     rw [he]
     exact k _ hk.below
    ·rw [zip_drop bs es i (by omega) (by omega)] at he
     unfold prodL at he
     obtain ⟨b1,o1,rfl,hb1,ca,ra,_⟩:=hbs.at (i:=i) (by omega)
     obtain ⟨b2,o2,rfl,hb2,cb,rb,_⟩:=hes.at (i:=i) (by omega)
     refine Xa0 ?_
     refine ⟨Kn w _,hk.drew,?_⟩
     repeat (any_goals ((with_reducible refine idOQ ?_); (with_reducible refine oQ_of ⟨_,rfl⟩ (fun W0 hW0=>by (refine oM_gen (fun Kv hK=>?_)); simp [go_sem,hW0.cells,ca _ hW0.below,cb _ hW0.below]; (first | exact hK _ _ ⟨rfl,rfl⟩ | exact ⟨by omega,hK _ _ ⟨rfl,rfl⟩⟩)) ?_)))
     refine callQ_of (fun W0 hW0=>rPower_ok g _ _ (fun w' hw'=>⟨rfl,hW0.next hw'⟩)) ?_
     refine callQ_of (fun W0 hW0=>rMul_ok _ _ _ ⟨rfl,hW0⟩) ?_
     intro w2 hk
     refine Xa0 ?_
     refine ⟨⟨hk,_,i + 1,rfl,by rw [hzl]; omega,he⟩,?_⟩
     simp only [rpdMu_eq]; omega
   ·rw [if_neg (fun h=>hl h.2.2)] at k
    have hl':¬ (bs.length:Int) = es.length:=by omega
    refine Xa (An2 hk.cells @hl') ?_
    exact k _ hk.below
  ·rw [if_neg (fun h=>hq h.2.1)] at k
   refine Xa hk.cells ?_
   exact k _ hk.below
 ·rw [if_neg (fun h=>hp h.1)] at k
  refine Xa hk.cells ?_
  exact k _ hk.below
theorem rother_ok (g:Grp) (x:Int) (hv:validG g = true) (k:∀ w',Below w.heap.size w w' → K (.bool (otherM g x)) w'):callM Tryz.prog 157 #[grpV g,.int .i64 x] K w:=by
 apply sh_157_ok
 unfold sh_157
 refine box_kn (cs:=grpC g) rfl (.start w) fun b W hk hb1 hb=>?_
 unfold otherM at k
 by_cases hx:x = 1
 ·have k:=k _ hk.below
  refine Xa (An2 hk.cells @hx) ?_
  simpa [hx] using k
 ·have hf:=validG_facts hv
  have hq:=hf.2.1.1
  have hq2:=hf.2.1.2
  refine Xa (An2 hk.cells @hx) ?_
  refine rMember_ok g x hf.1 ⟨by omega,by omega⟩ (fun w2 h=>?_)
  have k:=k _ (hk.next h).below
  rw [elemG_eq hv] at k
  refine Xa0 ?_
  simpa [hx] using k
def RvsJ (s:Stp) (L:List (Addr × Value)) (R:Bool) (w0:World) (l:List Value) (w':World):Prop:=Kn w0 L w' ∧ ∃ (v:Value) (i:Nat),l = [v,.int .i64 (i:Int)] ∧ i ≤ s.bases.length ∧ (s.bases.drop i).all (otherM s.g) = R
theorem rValidSetup_ok (s:Stp) {v:Value} (hs:SetR w s v) (k:∀ w',Below w.heap.size w w' → K (.bool (validS s)) w'):callM Tryz.prog 106 #[stpV s v] K w:=by
 apply sh_106_ok
 unfold sh_106
 obtain ⟨ad,c,rfl⟩:=hs.ints.isSlice
 refine box_kn (cs:=stpC s (.slice ad s.bases.length c)) rfl (.start w) fun b W hk hb1 hb=>?_
 have k2:∀ w' r,validS s = r → Below w.heap.size w w' → K (.bool r) w':=fun w' r e hb=>by rw [← e]; exact k w' hb
 have e0:validS s = (validG s.g && decide (2 ≤ s.bases.length) && decide (s.bases.length ≤ 7) && s.bases.all (otherM s.g) && otherM s.g s.blind):=rfl
 have hl:=hs.ints.len
 clear k
 refine Xa hk.cells ?_
 refine rValidGroup_ok s.g hs.grp (fun w1 h1=>?_)
 have hk:=hk.next h1
 clear h1 hb1
 cases hv:validG s.g with
 | false=>
  refine Xa0 ?_
  exact k2 _ _ (by rw [e0,hv]; simp) hk.below
 | true=>
  repeat (any_goals (first
  | (with_reducible first|((refine idGd ?_); first|refine zC ?_|refine zD ?_|((refine idGdD ?_); first|refine zI ?_|refine zJ ?_|refine zK (fun hg=>?_) fun hg=>?_))|((refine idPick ?_); first|refine yB ?_|refine yC ?_|refine yD ?_|refine yE ?_)|refine yL ?_)
  | ((with_reducible refine oM_gen fun Kv hK=>?_); simp [go_sem,hk.cells]; refine hK _ _ ?_; clear hK Kv)))
  ·exact k2 _ _ (by rw [e0]; simp; omega) hk.below
  ·exact k2 _ _ (by rw [e0]; simp; omega) hk.below
  refine rother_ok s.g s.blind hv (fun w3 h3=>?_)
  have hk:=hk.next h3
  have e1:validS s = (s.bases.all (otherM s.g) && otherM s.g s.blind):=by
   rw [e0,hv,decide_eq_true (by omega:2 ≤ s.bases.length),decide_eq_true (by omega:s.bases.length ≤ 7)]; rfl
  cases ho:otherM s.g s.blind with
  | false=>
   refine Xa hk.cells ?_
   exact k2 _ _ (by rw [e1,ho,Bool.and_false]) hk.below
  | true=>
  rw [ho,Bool.and_true] at e1
  refine Xa0 ?_
  refine ⟨RvsJ s _ (s.bases.all (otherM s.g)) w,rpdMu s.bases.length,⟨hk,_,0,rfl,by omega,rfl⟩,?_⟩
  rw [e1] at k2
  generalize s.bases.all (otherM s.g) = R at *
  rintro _ _ w2 ⟨hk,u1,i,rfl,hi,hall⟩
  by_cases hin:i = s.bases.length
  ·rw [List.drop_of_length_le (by omega),List.all_nil] at hall
   refine Xa hk.cells ?_
   exact k2 _ _ hall.symm hk.below
  ·rw [List.drop_eq_getElem_cons (by omega),List.all_cons] at hall
   obtain ⟨b1,o1,rfl,hb1,ca,ra,_⟩:=hs.ints.at (i:=i) (by omega)
   refine Xa hk.cells ?_
   refine ⟨Kn w _,hk.drew,rfl,?_⟩
   repeat (any_goals (first
   | (with_reducible refine pureH_in ?_)
   | ((with_reducible refine idOH ?_); (with_reducible refine oH_of ⟨_,rfl⟩ (fun W0 hW0=>by (refine oM_gen (fun Kv hK=>?_)); simp [go_sem,hW0.cells,ca _ hW0.below]; (first | exact hK _ _ ⟨rfl,rfl⟩ | exact ⟨by omega,hK _ _ ⟨rfl,rfl⟩⟩)) ?_))))
   refine ⟨Nx,fun w1 hk=>?_⟩
   refine rother_ok s.g _ hv (fun w3 h3=>?_)
   have hk:=hk.next h3
   refine ⟨hk,?_⟩
   cases ho:otherM s.g s.bases[i] with
   | false=>
    rw [ho,Bool.false_and] at hall
    repeat (any_goals (first
    | (with_reducible refine And.intro hk ?_)
    | (with_reducible refine yL ?_)
    | ((with_reducible refine oM_gen fun Kv hK=>?_); simp [go_sem]; refine hK _ _ ?_; clear hK Kv)))
    exact k2 _ _ hall.symm hk.below
   | true=>
    rw [ho,Bool.true_and] at hall
    repeat (any_goals (first
    | (with_reducible refine And.intro hk ?_)
    | (with_reducible refine yM ?_)
    | ((with_reducible refine oM_gen fun Kv hK=>?_); simp [go_sem]; (try simp (disch:=omega) only [wrapI64,wrapU8,wrapU32,wrapU64]); refine hK _ _ ?_; clear hK Kv)))
    refine ⟨⟨hk,_,i + 1,rfl,by omega,hall⟩,?_⟩
    simp only [rpdMu_eq]; omega
end
end Go.Proofs
namespace Go.Proofs
open Go Go.Sh Go.RowKit ShaSpec
section
variable {K:Value → World → Prop} {w w0:World}
abbrev OwnW (w:World) (B:Nat) (v:Value) (l:List W):Prop:=w.ownsRow B 200 1 v l.length (ws l)
def WrdR (w:World) (v:Value) (l:List W):Prop:=∃ ad c,v = .slice ad l.length c ∧ (l = [] ∨ ∃ b o,ad = some ⟨b,o,none⟩ ∧ b < w.heap.size ∧ ∀ i,i < l.length → w.cell? ⟨b,o + i,none⟩ = some (w32 (at' l i)))
theorem WrdR.next {w':World} {v:Value} {l:List W} (h:WrdR w v l) (hb:Below w.heap.size w w'):WrdR w' v l:=by
 obtain ⟨ad,c,rfl,h⟩:=h
 refine ⟨ad,c,rfl,h.imp id ?_⟩
 rintro ⟨b,o,rfl,hlt,hc⟩
 exact ⟨b,o,rfl,Nat.lt_of_lt_of_le hlt hb.size,fun i hi=>by rw [hb.cell hlt]; exact hc i hi⟩
theorem WrdR.at {v:Value} {l:List W} (h:WrdR w v l) (hne:0 < l.length):∃ b o c,v = .slice (some ⟨b,o,none⟩) l.length c ∧ ∀ w',Below w.heap.size w w' → ∀ i,i < l.length → w'.cell? ⟨b,o + i,none⟩ = some (w32 (at' l i)):=by
 obtain ⟨ad,c,rfl,h⟩:=h
 rcases h with rfl | ⟨b,o,rfl,hlt,hc⟩
 ·simp at hne
 ·exact ⟨b,o,c,rfl,fun w' hb i hi=>by rw [hb.cell hlt]; exact hc i hi⟩
theorem OwnW.read {B:Nat} {v:Value} {l:List W} (h:OwnW w B v l):WrdR w v l:=by
 by_cases h0:l = []
 ·subst h0
  rcases h.2 with ⟨rfl,_⟩ | ⟨g,cap,cur,rfl,_⟩
  ·exact ⟨none,0,rfl,.inl rfl⟩
  ·exact ⟨_,cap,rfl,.inl rfl⟩
 ·obtain ⟨g,cap,cur,rfl,hlt,_,_,_,_,hc⟩:=owns_cells h (List.length_pos_iff.2 h0)
  refine ⟨_,cap,rfl,.inr ⟨g,0,rfl,hlt,fun i hi=>?_⟩⟩
  rw [Nat.zero_add]
  exact hc i _ (by simp [ws,at',List.getD_eq_getElem?_getD,hi])
theorem OwnW.keep {B:Nat} {v:Value} {l:List W} {w':World} (h:OwnW w B v l) (hb:Below w.heap.size w w'):OwnW w' B v l:=
 owns_keep h (fun i hi=>hb.block i (owns_own h hi).1)
@[go_sem] theorem idx_w32 (T:TypeId) (b o n c:Nat) (x:Int):oM Tryz.prog (.indexAddr 216 (.tmp 0) (.tmp 1)) T [.slice (some ⟨b,o,none⟩) n c,.int .i64 x] = onM (0 ≤ x ∧ x < n) (.pointer (some ⟨b,o + x.toNat,none⟩)):=by
 funext K w
 rw [oM_indexAddr,run_indexAt_slice (h:=by kernel_rfl)]
 have hs:(sizeOf (Tryz.prog.elem 216)).run Tryz.prog w = .ok 1 w:=by kernel_rfl
 by_cases hi:0 ≤ x ∧ x < n
 ·rw [if_pos hi,hs]
  simp only [Result.andThen,add_none,Nat.mul_one,rM_ok]
  exact propext ⟨fun h=>⟨hi,h⟩,fun h=>h.2⟩
 ·rw [if_neg hi]
  obtain ⟨e',w',he⟩:=halts Value Tryz.prog .i64 x n .index w
  rw [he]
  exact propext ⟨fun h=>h.elim,fun h=>hi h.1⟩
theorem mkW1 {T:TypeId} (x:W) (k:∀ g W,Below w.heap.size w W → g < W.heap.size → W.cell? ⟨g,0,none⟩ = some (w32 x) → K (.slice (some ⟨g,0,none⟩) 1 1) W):oM Tryz.prog (.buildSlice 216 1 #[(0,.tmp 0)]) T [w32 x] K w:=by
 rw [oM_buildSlice1]
 have e:(Instr.buildSlice 216 1 #[(0,w32 x)]).run Tryz.prog w = .ok (.slice (some ⟨w.heap.size,0,none⟩) 1 1) (w.alloc (.cells #[w32 x] 200)):=by kernel_rfl
 rw [e]
 refine k _ _ ((Below.refl _ w).alloc (Nat.le_refl _) _) (by simp) ?_
 have:=World.cell?_alloc_at (w:=w) #[w32 x] 200 w.heap.size 0 rfl
 rw [this]
 rfl
theorem appendW {B:Nat} {T:TypeId} {v:Value} {l:List W} {x:W} {g c:Nat} (ho:OwnW w B v l) (hB:B ≤ w.heap.size) (hx:w.cell? ⟨g,0,none⟩ = some (w32 x)) (hl:l.length < 1099511627776)
  (k:∀ v' w',OwnW w' B v' (l ++ [x]) → Below B w w' → K v' w'):oM Tryz.prog (.call { callee:=.builtin .append,args:=#[.tmp 0,.tmp 1],argTypes:=#[216,216] }) T [v,.slice (some ⟨g,0,none⟩) 1 c] K w:=by
 refine append_at 216 T 200 ((Tryz.prog.info? 200).getD default) (.int .u32 0) 1 4 (by kernel_rfl) (by kernel_rfl) (by kernel_rfl) (by kernel_rfl) (by kernel_rfl) (by kernel_rfl) (by omega) (owns_base ho (Nat.zero_le _)) [w32 x] (by simp) (by simp) ?_ ?_ (by simp only [maxLen]; omega) (by omega) ?_
 ·rintro a ha j u hj
  cases ha
  match j,hj with
  | 0,hj=>
   simp only [List.getElem?_cons_zero,Option.some.injEq] at hj
   subst hj
   rw [add_none]; exact hx
 ·intro u hu
  simp only [List.mem_singleton] at hu
  subst hu; rfl
 ·intro v' w' ho' hg hv
  have hbl:∀ i,v.ownBlock = some i → B ≤ i:=fun i hi=>(owns_own ho hi).2.1
  refine k v' w' ?_ ((Below.refl B w).grown hg hB hbl)
  have e2:ws (l ++ [x]) = ws l ++ [w32 x]:=by simp [ws]
  show w'.ownsRow B 200 1 v' (l ++ [x]).length (ws (l ++ [x]))
  rw [List.length_append,e2]
  exact owns_up ho' (fun i hi=>(hv i hi).elim (hbl i) (fun h=>Nat.le_trans hB h))
theorem turn_ok (x:W) (r:Nat) (h0:0 < r) (h1:r < 32) (k:∀ w',Below w.heap.size w w' → K (w32 (rotr x r)) w'):callM Tryz.prog 219 #[w32 x,.int .i64 (r:Int)] K w:=by
 apply sh_219_ok
 unfold sh_219
 have s1:=fun t t' T=>wshl (P:=Tryz.prog) t t' T .i64 x (32 - r) (by omega)
 have s2:=fun t t' T=>wshr (P:=Tryz.prog) t t' T .i64 x r (by omega)
 have e1:IntKind.i64.wrap (32 - (r:Int)) = ((32 - r:Nat):Int):=by rw [wrapI64 _ (by omega) (by omega)]; omega
 obtain ⟨m,hm⟩:∃ m,m = 32 - r:=⟨_,rfl⟩
 rw [← hm] at e1 s1
 refine ⟨Nx w,.drawn,?_⟩
 refine Xg (An4 @e1 @s1 @s2 @wor) ?_
 intro w' hw'
 have k:=k w' hw'
 unfold rotr at k
 rw [← hm] at k
 exact k
abbrev W':=BitVec 32
theorem tu6 {K:Value → World → Prop} {w:World} (x:W) (k:∀ w',Below w.heap.size w w' → K (w32 (rotr x 6)) w'):callM Tryz.prog 219 #[w32 x,.int .i64 6] K w:=turn_ok x 6 (by omega) (by omega) k
theorem tuQ6 {W:World} {KQ:Value → Prop} (x:W') (k:KQ (w32 (rotr x 6))):callQ Tryz.prog 219 #[w32 x,.int .i64 6] (Nx W) KQ:=callQ_of (v:=w32 (rotr x 6)) (fun w hw=>tu6 x (fun w' h=>⟨rfl,hw.on h⟩)) k
theorem tu11 {K:Value → World → Prop} {w:World} (x:W) (k:∀ w',Below w.heap.size w w' → K (w32 (rotr x 11)) w'):callM Tryz.prog 219 #[w32 x,.int .i64 11] K w:=turn_ok x 11 (by omega) (by omega) k
theorem tuQ11 {W:World} {KQ:Value → Prop} (x:W') (k:KQ (w32 (rotr x 11))):callQ Tryz.prog 219 #[w32 x,.int .i64 11] (Nx W) KQ:=callQ_of (v:=w32 (rotr x 11)) (fun w hw=>tu11 x (fun w' h=>⟨rfl,hw.on h⟩)) k
theorem tu25 {K:Value → World → Prop} {w:World} (x:W) (k:∀ w',Below w.heap.size w w' → K (w32 (rotr x 25)) w'):callM Tryz.prog 219 #[w32 x,.int .i64 25] K w:=turn_ok x 25 (by omega) (by omega) k
theorem tuQ25 {W:World} {KQ:Value → Prop} (x:W') (k:KQ (w32 (rotr x 25))):callQ Tryz.prog 219 #[w32 x,.int .i64 25] (Nx W) KQ:=callQ_of (v:=w32 (rotr x 25)) (fun w hw=>tu25 x (fun w' h=>⟨rfl,hw.on h⟩)) k
theorem tu2 {K:Value → World → Prop} {w:World} (x:W) (k:∀ w',Below w.heap.size w w' → K (w32 (rotr x 2)) w'):callM Tryz.prog 219 #[w32 x,.int .i64 2] K w:=turn_ok x 2 (by omega) (by omega) k
theorem tuQ2 {W:World} {KQ:Value → Prop} (x:W') (k:KQ (w32 (rotr x 2))):callQ Tryz.prog 219 #[w32 x,.int .i64 2] (Nx W) KQ:=callQ_of (v:=w32 (rotr x 2)) (fun w hw=>tu2 x (fun w' h=>⟨rfl,hw.on h⟩)) k
theorem tu13 {K:Value → World → Prop} {w:World} (x:W) (k:∀ w',Below w.heap.size w w' → K (w32 (rotr x 13)) w'):callM Tryz.prog 219 #[w32 x,.int .i64 13] K w:=turn_ok x 13 (by omega) (by omega) k
theorem tuQ13 {W:World} {KQ:Value → Prop} (x:W') (k:KQ (w32 (rotr x 13))):callQ Tryz.prog 219 #[w32 x,.int .i64 13] (Nx W) KQ:=callQ_of (v:=w32 (rotr x 13)) (fun w hw=>tu13 x (fun w' h=>⟨rfl,hw.on h⟩)) k
theorem tu22 {K:Value → World → Prop} {w:World} (x:W) (k:∀ w',Below w.heap.size w w' → K (w32 (rotr x 22)) w'):callM Tryz.prog 219 #[w32 x,.int .i64 22] K w:=turn_ok x 22 (by omega) (by omega) k
theorem tuQ22 {W:World} {KQ:Value → Prop} (x:W') (k:KQ (w32 (rotr x 22))):callQ Tryz.prog 219 #[w32 x,.int .i64 22] (Nx W) KQ:=callQ_of (v:=w32 (rotr x 22)) (fun w hw=>tu22 x (fun w' h=>⟨rfl,hw.on h⟩)) k
theorem tu7 {K:Value → World → Prop} {w:World} (x:W) (k:∀ w',Below w.heap.size w w' → K (w32 (rotr x 7)) w'):callM Tryz.prog 219 #[w32 x,.int .i64 7] K w:=turn_ok x 7 (by omega) (by omega) k
theorem tu18 {K:Value → World → Prop} {w:World} (x:W) (k:∀ w',Below w.heap.size w w' → K (w32 (rotr x 18)) w'):callM Tryz.prog 219 #[w32 x,.int .i64 18] K w:=turn_ok x 18 (by omega) (by omega) k
theorem tu17 {K:Value → World → Prop} {w:World} (x:W) (k:∀ w',Below w.heap.size w w' → K (w32 (rotr x 17)) w'):callM Tryz.prog 219 #[w32 x,.int .i64 17] K w:=turn_ok x 17 (by omega) (by omega) k
theorem tu19 {K:Value → World → Prop} {w:World} (x:W) (k:∀ w',Below w.heap.size w w' → K (w32 (rotr x 19)) w'):callM Tryz.prog 219 #[w32 x,.int .i64 19] K w:=turn_ok x 19 (by omega) (by omega) k
theorem row8 {T:TypeId} (s:St) (k:∀ v W,Below w.heap.size w W → OwnW W w.heap.size v s.list → K v W):oM Tryz.prog (.buildSlice 216 8 #[(0,(.tmp 0)),(1,(.tmp 1)),(2,(.tmp 2)),(3,(.tmp 3)),(4,(.tmp 4)),(5,(.tmp 5)),(6,(.tmp 6)),(7,(.tmp 7))]) T [w32 s.a,w32 s.b,w32 s.c,w32 s.d,w32 s.e,w32 s.f,w32 s.g,w32 s.h] K w:=by
 rw [rM_of (S:=Instr.buildSlice 216 8 (((List.range 8).zip (ws s.list))).toArray) (by kernel_rfl)]
 have e:(Instr.buildSlice 216 8 (((List.range 8).zip (ws s.list))).toArray).run Tryz.prog w = .ok (.slice (some ⟨w.heap.size,0,none⟩) 8 8) (w.alloc (.cells (ws s.list).toArray 200)):=by kernel_rfl
 rw [e]
 refine k _ _ ((Below.refl _ w).alloc (Nat.le_refl _) _) ⟨by simp,.inr ⟨w.heap.size,8,_,rfl,Nat.le_refl _,heap_alloc_new w _,Nat.le_refl _,by decide,rfl,?_⟩⟩
 rw [List.take_of_length_le (by simp [St.list])]
theorem firsts_ok (k:∀ v W,Below w.heap.size w W → OwnW W w.heap.size v first.list → K v W):callM Tryz.prog 197 #[] K w:=by
 apply sh_197_ok
 unfold sh_197
 exact row8 first k
theorem adds_ok (k:∀ v W,Below w.heap.size w W → WrdR W v consts → K v W):callM Tryz.prog 218 #[] K w:=by
 apply sh_218_ok
 unfold sh_218
 have e0:∀ K w,oM Tryz.prog (Go.Op.buildSlice 216 64 ((List.range 64).map fun i=>(i,Operand.tmp i)).toArray) 216 (ws consts) K w = K (.slice (some ⟨w.heap.size,0,none⟩) 64 64) (w.alloc (.cells (ws consts).toArray 200)):=by
  intro K w
  kernel_rfl
 refine (e0 _ w).symm ▸ ?_
 refine k _ _ ((Below.refl _ w).alloc (Nat.le_refl _) _) ⟨_,64,rfl,.inr ⟨w.heap.size,0,rfl,by simp,fun i hi=>?_⟩⟩
 rw [Nat.zero_add]
 have:=World.cell?_alloc_at (w:=w) (ws consts).toArray 200 w.heap.size i rfl
 rw [this]
 simp [ws,at',List.getD_eq_getElem?_getD,hi]
end
end Go.Proofs
namespace Go.Proofs
open Go Go.Sh Go.RowKit ShaSpec
section
variable {K:Value → World → Prop} {w w0:World}
def WoJ (w0:World) (b:List UInt8) (l:List Value) (w':World):Prop:=∃ (v:Value) (i:Nat),l = [v,.int .i64 (i:Int)] ∧ i ≤ 16 ∧ OwnW w' w0.heap.size v (sched b i) ∧ Below w0.heap.size w0 w'
def woMu (n:Nat) (l:List Value) (_:World):Nat:=match l with | [_,.int _ i]=>n - i.toNat | _=>0
theorem woMu_eq (n:Nat) (x:Value) (q:IntKind) (i:Int) (w:World):woMu n [x,.int q i] w = n - i.toNat:=rfl
def Wo2J (w0:World) (b:List UInt8) (l:List Value) (w':World):Prop:=∃ (v1 v2 v3 v4 v:Value) (i:Nat),l = [v1,v2,v3,v4,v,.int .i64 (i:Int)] ∧ 16 ≤ i ∧ i ≤ 64 ∧ OwnW w' w0.heap.size v (sched b i) ∧ Below w0.heap.size w0 w'
def One (x:W) (v:Value) (w':World):Prop:=∃ g,v = .slice (some ⟨g,0,none⟩) 1 1 ∧ g < w'.heap.size ∧ w'.cell? ⟨g,0,none⟩ = some (w32 x)
theorem One.next {x:W} {v:Value} {w w':World} (h:One x v w) (hb:Nx w w'):One x v w':=by
 obtain ⟨g,rfl,hlt,hc⟩:=h
 exact ⟨g,rfl,Nat.lt_of_lt_of_le hlt hb.size,by rw [hb.cell hlt]; exact hc⟩
theorem words_ok (b:List UInt8) {B o c:Nat} (hl:b.length = 64) (hb:ByR w B o b) (k:∀ v W,Below w.heap.size w W → WrdR W v (sched b 64) → K v W):callM Tryz.prog 217 #[.slice (some ⟨B,o,none⟩) 64 c] K w:=by
 apply sh_217_ok
 unfold sh_217
 refine ⟨WoJ w b,woMu 16,⟨_,0,rfl,by omega,⟨rfl,.inl ⟨rfl,rfl⟩⟩,Below.refl _ _⟩,?_⟩
 rintro _ _ w1 ⟨v,i,rfl,hi,ho,hB⟩
 by_cases h16:i < 16
 ·refine Xa0 ?_
  have ho:=ho.keep (.drawn (B:=w1.heap.size))
  have hB:=hB.on (.drawn (B:=w1.heap.size))
  refine ⟨Nx { w1 with drawn:=w1.drawn + 1 },Below.refl _ _,rfl,?_⟩
  generalize ({ w1 with drawn:=w1.drawn + 1 }:World) = w2 at ho hB ⊢
  have cb:∀ j,j < 64 → ∀ w',Nx w2 w' → w'.cell? ⟨B,o + j,none⟩ = some (.int .u8 ((b.getD j 0).toNat:Int)):=fun j hj w' hw=>(hb.next (hB.on hw)).2 j (by omega)
  have t1:(4 * (i:Int)).toNat = 4 * i:=by omega
  have t2:(4 * (i:Int) + 1).toNat = 4 * i + 1:=by omega
  have t3:(4 * (i:Int) + 2).toNat = 4 * i + 2:=by omega
  have t4:(4 * (i:Int) + 3).toNat = 4 * i + 3:=by omega
  have c1:=cb (4 * i) (by omega)
  have c2:=cb (4 * i + 1) (by omega)
  have c3:=cb (4 * i + 2) (by omega)
  have c4:=cb (4 * i + 3) (by omega)
  have q1:IntKind.i64.wrap (4 * (i:Int)) = 4 * i:=wrapI64 _ (by omega) (by omega)
  have q2:IntKind.i64.wrap (4 * (i:Int) + 1) = 4 * i + 1:=wrapI64 _ (by omega) (by omega)
  have q3:IntKind.i64.wrap (4 * (i:Int) + 2) = 4 * i + 2:=wrapI64 _ (by omega) (by omega)
  have q4:IntKind.i64.wrap (4 * (i:Int) + 3) = 4 * i + 3:=wrapI64 _ (by omega) (by omega)
  refine Xf (fun W0 hW0=>An4 (c1 _ hW0) (c2 _ hW0) (c3 _ hW0) (c4 _ hW0)) (An13 @q1 @q2 @q3 @q4 @t1 @t2 @t3 @t4 @conv_u8 @shl24 @shl16 @shl8 @wor) ?_
  have en:nextW b (sched b i) i = w8 (b[4 * i]?.getD 0) <<< 24 ||| w8 (b[4 * i + 1]?.getD 0) <<< 16 ||| w8 (b[4 * i + 2]?.getD 0) <<< 8 ||| w8 (b[4 * i + 3]?.getD 0):=by
   unfold nextW word
   rw [if_pos h16]
   simp only [List.getD_eq_getElem?_getD]
  rw [← en]
  refine ⟨Nx,monoR (One (nextW b (sched b i) i)) (fun v w w1 hS h=>h.next hS) ?_ ?_⟩
  ·intro w3 h3
   exact mkW1 _ (fun g w4 h4 hlt hc=>⟨h3.on h4,h4,g,rfl,hlt,hc⟩)
  rintro w3 h3 _ ⟨g,rfl,hlt,hc⟩
  refine appendW (ho.keep h3) (hB.on h3).size hc (by rw [sched_length]; omega) (fun v' w4 ho4 hb4=>?_)
  refine Xa0 ?_
  refine ⟨⟨_,i + 1,rfl,h16,ho4,(hB.on h3).trans hb4⟩,?_⟩
  simp only [woMu_eq]; omega
 ·obtain rfl:i = 16:=by omega
  refine Xa0 ?_
  refine ⟨Wo2J w b,schMu,⟨_,_,_,_,_,16,rfl,by omega,by omega,ho,hB⟩,?_⟩
  clear ho hB v
  rintro _ _ w1 ⟨v1,v2,v3,v4,v,i,rfl,hi1,hi,ho,hB⟩
  by_cases hi64:i < 64
  ·obtain ⟨g,og,cg,rfl,hr⟩:=ho.read.at (by rw [sched_length]; omega)
   rw [sched_length] at *
   have t1:((i:Int) - 15).toNat = i - 15:=by omega
   have t2:((i:Int) - 2).toNat = i - 2:=by omega
   have t3:((i:Int) - 16).toNat = i - 16:=by omega
   have t4:((i:Int) - 7).toNat = i - 7:=by omega
   have q3:IntKind.i64.wrap ((i:Int) - 16) = (i:Int) - 16:=wrapI64 _ (by omega) (by omega)
   have q4:IntKind.i64.wrap ((i:Int) - 7) = (i:Int) - 7:=wrapI64 _ (by omega) (by omega)
   have hz:=Below.refl w1.heap.size w1
   refine Xa (An4 @t1 @t2 (hr _ hz (i - 15) (by omega)) (hr _ hz (i - 2) (by omega))) ?_
   refine tu7 _ (fun w2 h2=>?_)
   refine tu18 _ (fun w3 h3=>?_)
   refine Xa (An2 @shr3 @wxor) ?_
   refine tu17 _ (fun w4 h4=>?_)
   refine tu19 _ (fun w5 h5=>?_)
   refine Xa (An2 @shr10 @wxor) ?_
   have h5:=(((h2.on h3).on h4).on h5).on (.drawn (B:=w5.heap.size))
   clear h2 h3 h4 hz
   refine ⟨Nx { w5 with drawn:=w5.drawn + 1 },Below.refl _ _,rfl,?_⟩
   generalize ({ w5 with drawn:=w5.drawn + 1 }:World) = w6 at h5 ⊢
   refine Xf (fun W0 hW0=>An2 (hr _ (h5.on hW0) (i - 16) (by omega)) (hr _ (h5.on hW0) (i - 7) (by omega))) (An5 @q3 @q4 @t3 @t4 @wadd) ?_
   have en:nextW b (sched b i) i = at' (sched b i) (i - 16) + sig0 (at' (sched b i) (i - 15)) + at' (sched b i) (i - 7) + sig1 (at' (sched b i) (i - 2)):=by
    unfold nextW
    rw [if_neg (by omega)]
   unfold sig0 sig1 at en
   rw [← en]
   refine ⟨Nx,monoR (One (nextW b (sched b i) i)) (fun v w w1 hS h=>h.next hS) ?_ ?_⟩
   ·intro w3 h3
    exact mkW1 _ (fun g w4 h4 hlt hc=>⟨h3.on h4,h4,g,rfl,hlt,hc⟩)
   rintro w3 h3 _ ⟨g2,rfl,hlt,hc⟩
   have h3:=h5.on h3
   refine appendW (ho.keep h3) (hB.on h3).size hc (by rw [sched_length]; omega) (fun v' w4 ho4 hb4=>?_)
   refine Xa0 ?_
   refine ⟨⟨_,_,_,_,_,i + 1,rfl,by omega,hi64,ho4,(hB.on h3).trans hb4⟩,?_⟩
   simp only [schMu_eq]; omega
  ·obtain rfl:i = 64:=by omega
   refine Xa0 ?_
   exact k _ _ hB ho.read
end
end Go.Proofs
