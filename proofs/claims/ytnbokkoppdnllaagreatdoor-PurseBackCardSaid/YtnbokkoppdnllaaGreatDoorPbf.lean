/- Parts of the proof of the seat's statements (LawKit, OpenKit, OpenKit2, PK, PK2, HPw, UrA, UrB, UrF): lemmas about the given translation and plain laws. No condition of their own. -/
import Derived.Test.YtnbokkoppdnllaaGreatDoorPbe
import Derived.ProofKit
import Derived.LaidMore
import Derived.OpenShut
import Derived.Carry
import Derived.SizedLaws
import Derived.Stop.Joined
import Derived.Deep.Slices
import Derived.Deep.Fields
import Derived.LaidSub
import Derived.Test.YtnbokkoppdnllaaGreatDoorRows
import Derived.Test.YtnbokkoppdnllaaGreatDoorCards
import Derived.Test.YtnbokkoppdnllaaGreatDoorTie
import Derived.SevenTiedAt
import Derived.Test.YtnbokkoppdnllaaGreatDoorProg
set_option linter.all false
set_option maxRecDepth 100000
namespace Go.Sh
open Go Go.ChangeShapes Go.WideShapes Go.ChangeAt Go.RowKit
section
variable {H:Type} {enc:TypeId × Value → H} {P:Program}
theorem trodAll_below (hl:laidOutB P = true) {W W':World} (hb:Below W.heap.size W W') :
  ∀ (ts:List TypeId) (vs:List Value) (ds:List (DataW H)) (ps:List MemPlace),(ts.all fun t=>P.readableRec t && decide (t < P.types.size)) = true →
  DataW.TrodAll enc P W 0 (fun _=>true) true ts vs ds ps → (∀ x ∈ ps,x.block < W.heap.size) → DataW.TrodAll enc P W' 0 (fun b=>decide (b < W.heap.size)) true ts vs ds ps
 | [],[],[],_,_,h,_=>h
 | t :: ts,v :: vs,d :: ds,ps,ht,h,hlt=>by
  obtain ⟨p,q,h1,h2,rfl⟩:=h
  simp only [List.all_cons,bA,dE] at ht
  exact ⟨p,q,Below.trod hl ht.1.1 ht.1.2 h1 hb (fun x hx=>hlt x (by simp [hx])),trodAll_below hl hb ts vs ds q ht.2 h2 (fun x hx=>hlt x (by simp [hx])),rfl⟩
 | [],_ :: _,_,_,_,h,_=>h.elim
 | [],[],_ :: _,_,_,h,_=>h.elim
 | _ :: _,[],_,_,_,h,_=>h.elim
 | _ :: _,_ :: _,[],_,_,h,_=>h.elim
theorem trodAll_length {W:World} {b:Nat} {sp:Nat → Bool} {hd:Bool}:∀ (ts:List TypeId) (vs:List Value) (ds:List (DataW H)) (ps:List MemPlace),DataW.TrodAll enc P W b sp hd ts vs ds ps → ds.length = ts.length ∧ vs.length = ts.length
 | [],[],[],_,_=>⟨rfl,rfl⟩
 | t :: ts,v :: vs,d :: ds,ps,h=>by
  obtain ⟨p,q,h1,h2,rfl⟩:=h
  have:=trodAll_length ts vs ds q h2
  simp [this]
 | [],_ :: _,_,_,h=>h.elim
 | [],[],_ :: _,_,h=>h.elim
 | _ :: _,[],_,_,h=>h.elim
 | _ :: _,_ :: _,[],_,h=>h.elim
theorem trodL_cons {W:World} {b:Nat} {sp:Nat → Bool} {hd:Bool} {t:TypeId} {ts:List TypeId} {vs:List Value} {ds:List (DataW H)} {ps:List MemPlace} (h:DataW.TrodAll enc P W b sp hd (t :: ts) vs ds ps) :
  ∃ v d vs' ds' p q,vs = v :: vs' ∧ ds = d :: ds' ∧ DataW.Trod enc P W b sp hd t v d p ∧ DataW.TrodAll enc P W b sp hd ts vs' ds' q ∧ ps = p ++ q:=by
 match vs,ds,h with
 | v :: vs,d :: ds,h=>
  obtain ⟨p,q,h1,h2,rfl⟩:=h
  exact ⟨v,d,vs,ds,p,q,rfl,rfl,h1,h2,rfl⟩
 | [],_,h=>exact h.elim
 | _ :: _,[],h=>exact h.elim
theorem trodL0 {W:World} {b:Nat} {sp:Nat → Bool} {hd:Bool} {vs:List Value} {ds:List (DataW H)} {ps:List MemPlace} (h:DataW.TrodAll enc P W b sp hd [] vs ds ps):vs = [] ∧ ds = [] ∧ ps = []:=by
 match vs,ds,h with
 | [],[],h=>exact ⟨rfl,rfl,h⟩
theorem law_post {fn:Func} {s:ChangeSpec} {tb:TypeId} {apart:Bool} {W W':World} {args:Array Value} {ds gs:List (DataW H)} {before:List MemPlace} (hl:laidOutB P = true)
  (hrt:fn.resultTypes = #[tb]) (hub:P.underlying tb = some .bool) (hpar:(fn.params.toList.all fun t=>P.readableRec t && decide (t < P.types.size)) = true) (hvars:s.vars = [])
  (hspec:∀ ds:List (DataW H),ds.length = fn.params.toList.length → s.fn H ds = { results:=[.lit (.bool true)],args:=ds })
  (hW:DataW.Whole enc P fn.params.toList s.vars apart W args.toList ds gs before) (hb:Below W.heap.size W W'):s.post enc P fn apart true false false W args (.bool true) W':=by
 have hW0:=hW
 have hlt:=hW.lt
 obtain ⟨p,q,hA,hV,rfl,_,_⟩:=hW
 rw [hvars] at hV
 obtain ⟨rfl,rfl⟩:=trodVars_none hV
 have hlen:=(trodAll_length _ _ _ _ hA).1
 have hs:=hspec ds hlen
 rw [List.append_nil] at hlt hW0
 refine ⟨ds,[],p,[],p,[],hW0,?_,?_,?_,hb.frame _,fun h=>by cases h⟩
 ·rw [List.append_nil,hs,hrt]
  exact trodAll_mk1 (shut_bool hub true)
 ·rw [List.append_nil,hs]
  exact trodAll_below hl hb _ _ _ _ hpar hA hlt
 ·rw [hvars,List.append_nil,hs]
  rfl
theorem law_lifted_laid {C:Checked} {os:Os} {f:FuncId} {fn:Func} {s:ChangeSpec} {tb:TypeId} {L:List (String × DataW Unit)} (own:ownKnob C.prog.godebug = none) (started:os.Started) (noInit:C.prog.inits.idxOf? f = none) (hfn:C.prog.funcs[f]? = some fn)
  (hl:laidOutB C.prog = true) (hrt:fn.resultTypes = #[tb]) (hub:C.prog.underlying tb = some .bool) (hpar:(fn.params.toList.all fun t=>C.prog.readableRec t && decide (t < C.prog.types.size)) = true) (hvars:s.vars = [])
  (hspec:∀ ds:List (DataW H),ds.length = fn.params.toList.length → s.fn H ds = { results:=[.lit (.bool true)],args:=ds })
  (witness:∃ (w:World) (tape:Tape) (i:Input),w.os = os ∧ (w.forCall tape i).Shaped C.prog ∧ i.vars = [] ∧ Input.okWide C.prog (w.forCall tape i) .any w.heap.size f i ∧
   ((s.pre enc C.prog fn [] false (w.forCall tape i).memory i.args ∧ laidMetH C.prog L (w.forCall tape i).memory) ∧ sizedMet enc C.prog fn (OpenSpec.ofChange s) false (w.forCall tape i).memory i.args) ∧ ({}:Assume).holds C.prog (lone (Frame.enter C.prog f i.args .normal) [] (w.forCall tape i)))
  (contract:∀ (W:World) (base:Nat) (args:List Value) (ds:List (DataW H)) (p:List MemPlace),(∀ (j:Nat) t v,fn.params.toList[j]? = some t → args[j]? = some v → Value.okWide C.prog W .any base t v) →
   DataW.TrodAll enc C.prog W 0 (fun _=>true) true fn.params.toList args ds p → (DataW.weightsEach C.prog fn.params.toList ds).all (· ≤ reachBytes) = true → (∀ x ∈ p,x.block < W.heap.size) →
   laidMetH C.prog L W →
   callM C.prog f args.toArray (fun v W'=>v = .bool true ∧ Below W.heap.size W W') W) :
  ReturnsInHanded {} C os f .any (fun w args=>(s.pre enc C.prog fn [] false w args ∧ laidMetH C.prog L w) ∧ sizedMet enc C.prog fn (OpenSpec.ofChange s) false w args)
   (s.post enc C.prog fn false true false false):=by
 refine returnsInHanded_of_change_and (X:=fun w _=>laidMetH C.prog L w) (fun _ _ _ hh h=>h.of_heap hh) own started noInit hfn witness ?_
 intro W base args ds gs before hval hW _ hsz hX _
 have hW0:=hW
 have hlt:=hW.lt
 obtain ⟨p,q,hA,hV,rfl,_,_⟩:=hW
 rw [hvars] at hV
 obtain ⟨rfl,rfl⟩:=trodVars_none hV
 have hsz':(DataW.weightsEach C.prog fn.params.toList ds).all (· ≤ reachBytes) = true:=by
  simpa [hvars,ChangeSpec.plain,DataSpec.varTypes] using hsz
 have hc:=contract W base args.toList ds p (fun j t v h1 h2=>hval j t v (by simpa using h1) (by simpa using h2)) hA hsz' (fun x hx=>hlt x (by simp [hx])) hX
 refine hc.mono fun e W' h=>?_
 obtain ⟨v,rfl,rfl,hb⟩:=h
 exact ⟨_,rfl,law_post hl hrt hub hpar hvars hspec hW0 hb⟩
end
end Go.Sh
namespace Go.Sh
open Go Go.ChangeShapes Go.WideShapes Go.ChangeAt Go.RowKit Go.Deep
section
variable {H:Type} {enc:TypeId × Value → H} {P:Program} {w:World} {sp:Nat → Bool} {hd:Bool}
theorem addr_add' (b o k:Nat):(⟨b,o,none⟩:Addr).add k = ⟨b,o + k,none⟩:=by
 unfold Addr.add
 split
 ·rename_i h; rw [h]; rfl
 ·rfl
theorem cell_lt {a:Addr} {v:Value} (h:w.cell? a = some v):a.block < w.heap.size ∧ a.spot = none:=by
 unfold World.cell? at h
 split at h
 ·rename_i c t f hh
  refine ⟨(Array.getElem?_eq_some_iff.1 hh).1,?_⟩
  split at h
  ·cases h
  ·rename_i hs
   cases hsp:a.spot with
   | none=>rfl
   | some x=>rw [hsp] at hs; exact absurd rfl hs
 ·cases h
theorem open_fields {e:TypeId} {fs:Array Field} {n:Nat} {cs:List Value} {D:DataW H × List MemPlace} (he:P.underlying e = some (.struct fs)) (hone:oneCellFields P fs = true) (hC:P.cellsOf e = fs.size)
  (h:DataW.trod enc P w 0 sp hd n e cs = some D) :
  cs.length = fs.size ∧ ∀ (j:Nat) (f:Field),fs[j]? = some f → ∃ (v:Value) (y:DataW H × List MemPlace) (m:Nat),cs[j]? = some v ∧ DataW.trod enc P w 0 sp hd m f.type [v] = some y:=by
 obtain ⟨xs,m,_,_,hcl,hxl,hf⟩:=DataW.trod_struct he h
 rw [hC] at hcl
 refine ⟨hcl,fun j f hj=>?_⟩
 obtain ⟨ho,hk⟩:=hone_of hone j f hj
 have hjl:j < fs.size:=(Array.getElem?_eq_some_iff.1 hj).1
 have h1:=hf j f hj
 rw [ho,hk,List.drop_eq_getElem_cons (by omega),gE (by omega:j < xs.length)] at h1
 exact ⟨_,_,m,gE (by omega),h1⟩
end
end Go.Sh
namespace Go.Sh
open Go Go.ChangeShapes Go.WideShapes Go.ChangeAt Go.RowKit Go.Deep
section
variable {H:Type} {enc:TypeId × Value → H} {P:Program} {w:World} {sp:Nat → Bool} {hd:Bool}
theorem rowOpen {α:Type} (mk:α → Value) (Q:α → Prop) {t e:TypeId} {v:Value} {n:Nat} {D:DataW H × List MemPlace} (ht:P.underlying t = some (.slice e)) (hC:P.cellsOf e = 1)
  (hrd:∀ (V:Value) (n:Nat) (D:DataW H × List MemPlace),DataW.trod enc P w 0 sp hd n e [V] = some D → ∃ x,V = mk x ∧ Q x) (h:DataW.trod enc P w 0 sp hd n t [v] = some D) :
  ∃ l:List α,(∃ ad c,v = .slice ad l.length c ∧ (l = [] ∨ ∃ b o,ad = some ⟨b,o,none⟩ ∧ b < w.heap.size ∧ ∀ (i:Nat) (h:i < l.length),w.cell? ⟨b,o + i,none⟩ = some (mk l[i]))) ∧ l.length ≤ maxLen ∧ ∀ x ∈ l,Q x:=by
 rcases open_slice1 ht hC h with ⟨hcs,_⟩ | ⟨a',len,cap,m,n',V,D',Pl,hcs,_,hl,hm,hmm,_,hi⟩
 ·simp only [List.cons.injEq,and_true] at hcs
  subst hcs
  exact ⟨[],⟨none,0,rfl,.inl rfl⟩,by simp,by simp⟩
 ·simp only [List.cons.injEq,and_true] at hcs
  subst hcs
  have hml:len ≤ m:=by rw [hmm]; split <;> omega
  have key:∀ i:Fin len,∃ x,V i = mk x ∧ Q x:=fun i=>hrd _ _ _ (hi i (by have:=i.2; omega)).2
  refine ⟨List.ofFn (fun i=>(key i).choose),⟨some a',cap,by rw [List.length_ofFn],?_⟩,by rw [List.length_ofFn]; omega,?_⟩
  ·by_cases h0:len = 0
   ·left; subst h0; rfl
   ·right
    have h00:=(hi 0 (by omega)).1
    have e0:a'.add 0 = a':=by simp [Addr.add]
    rw [e0] at h00
    obtain ⟨hb,hs⟩:=cell_lt h00
    obtain ⟨b,o,s⟩:=a'
    simp only at hs hb
    subst hs
    refine ⟨b,o,rfl,hb,fun i hil=>?_⟩
    rw [List.length_ofFn] at hil
    have h1:=(hi i (by omega)).1
    rw [addr_add'] at h1
    rw [h1,List.getElem_ofFn]
    have:=(key ⟨i,hil⟩).choose_spec.1
    exact congrArg some this
  ·intro x hx
   rw [List.mem_ofFn] at hx
   obtain ⟨i,rfl⟩:=hx
   exact (key i).choose_spec.2
theorem trodIface {t:TypeId} {ms:Array (String × TypeId)} {cs:List Value} {n:Nat} {nm:String} {d:DataW H} {ps:List MemPlace} (ht:P.underlying t = some (.interface ms)) (h:DataW.trod enc P w 0 sp false n t cs = some (.iface nm d,ps)):∃ u v,cs = [.iface u v]:=by
 cases n with
 | zero=>simp [DataW.trod] at h
 | succ n=>
  unfold DataW.trod at h
  rw [ht] at h
  match cs,h with
  | [.iface u v],_=>exact ⟨u,v,rfl⟩
  | [.nilIface],h=>simp at h
  | [],h=>simp at h
  | [.int _ _],h=>simp at h
  | [.bool _],h=>simp at h
  | [.string _],h=>simp at h
  | [.pointer _],h=>simp at h
  | [.slice _ _ _],h=>simp at h
  | [.map _],h=>simp at h
  | [.float _ _],h=>simp at h
  | [.complex _ _ _],h=>simp at h
  | [.agg _],h=>simp at h
  | [.tuple _],h=>simp at h
  | [.func _ _ _],h=>simp at h
  | [.nilFunc],h=>simp at h
  | [.chan _],h=>simp at h
  | _ :: _ :: _,h=>simp at h
end
end Go.Sh
namespace Go.Proofs
open Go Go.Sh Go.RowKit Go.Lib CodeSpec TkSpec FdSpec Go.ChangeShapes Go.WideShapes Go.ChangeAt
abbrev laidList:List (String × DataW Unit):=YtnbokkoppdnllaaGreatDoor.Rows.purseBackRow.laid
abbrev lname (i:Nat):String:=(laidList.map (·.1)).getD i default
theorem var_of_laid {W:World} {nm:String} {d:DataW Unit} (hf:(laidList.filter fun x=>x.1 == nm) = [(nm,d)]) (h:laidMetH Tryz.prog laidList W):laidMet Tryz.prog [(nm,d)] W:=by
 rw [MakeChecks.laidMetH_plain _ _ _ (by kernel_rfl)] at h
 have:=h.filter (fun x=>x.1 == nm)
 rwa [hf] at this
theorem tab_laid {W:World} (h:laidMetH Tryz.prog laidList W):TabIs Tryz.prog W tabName .u64 pow10Tab:=
 tabIs_of_head (rest:=[]) (t:=311) (e:=249) (n:=20) Cd.gTab (by kernel_rfl) Tryz.underlying311 Tryz.underlying249 (by kernel_rfl) (by kernel_rfl)
  (var_of_laid (d:=tabData .u64 pow10Tab) (by kernel_rfl) h)
theorem gDb:Tryz.prog.globalNamed (lname 1) = some 4:=by kernel_rfl
theorem db_laid {W:World} (h:laidMetH Tryz.prog laidList W):TabIs Tryz.prog W (lname 1) .u8 (Lib.deBruijn64tab.map (fun n:Nat=>(n:Int))):=
 tabIs_of_head (rest:=[]) (t:=318) (e:=5) (n:=64) gDb (by kernel_rfl) Tryz.underlying318 Tryz.underlying5 (by kernel_rfl) (by kernel_rfl)
  (var_of_laid (d:=tabData .u8 (Lib.deBruijn64tab.map (fun n:Nat=>(n:Int)))) (by kernel_rfl) h)
theorem db_of {W:World} (h:laidMetH Tryz.prog laidList W):DbT W:=by
 have ht:=db_laid h
 have hl:(Lib.deBruijn64tab.map (fun n:Nat=>(n:Int))).length = 64:=by decide +kernel
 have hc:∀ j,j < 64 → W.cell? ⟨4,j,none⟩ = some (.int .u8 (Lib.deBruijn64tab.getD j 0:Nat)):=fun j hj=>by
  rw [ht.cell gDb j (by omega)]
  have:(Lib.deBruijn64tab.map (fun n:Nat=>(n:Int))).getD j 0 = ((Lib.deBruijn64tab.getD j 0:Nat):Int):=by
   rw [List.getD_eq_getElem?_getD,List.getD_eq_getElem?_getD,List.getElem?_map]
   cases Lib.deBruijn64tab[j]? <;> rfl
  rw [this]
 refine ⟨?_,hc⟩
 have h0:=hc 0 (by omega)
 by_cases hlt:4 < W.heap.size
 ·exact hlt
 ·unfold World.cell? at h0
  rw [Array.getElem?_eq_none (by show W.heap.size ≤ 4; omega)] at h0
  simp at h0
theorem err_laid {W:World} {nm:String} {x:DataW Unit} {g:Nat} (hg:Tryz.prog.globalNamed nm = some g) (hty:(Tryz.prog.globals[g]?).map (·.type) = some 239) (hf:(laidList.filter fun x=>x.1 == nm) = [(nm,x)]) (hx:∃ nt d,x = .iface nt d) (h:laidMetH Tryz.prog laidList W) :
  ∃ te pe,W.cell? ⟨g,0,none⟩ = some (.iface te pe):=by
 obtain ⟨nt,d,rfl⟩:=hx
 obtain ⟨ps,⟨g0,t0,cs0,f0,p0,q0,hg0,ht0,hv0,hd0,_,_⟩,_,_⟩:=var_of_laid hf h
 obtain rfl:=oI (hg.symm.trans hg0)
 obtain rfl:=oI (hty.symm.trans ht0)
 obtain ⟨u,y,hcs⟩:=trodIface Tryz.underlying239 hd0
 have:=World.var?_cell hg hv0 0
 refine ⟨u,y,?_⟩
 rw [this]
 have e:cs0[0]? = cs0.toList[0]?:=by simp
 rw [e,hcs]; rfl
theorem heap8 {W:World} (h:laidMetH Tryz.prog laidList W):8 ≤ W.heap.size:=by
 obtain ⟨ps,⟨g0,t0,cs0,f0,p0,q0,hg0,ht0,hv0,hd0,_,_⟩,_,_⟩:=var_of_laid (nm:=lname 0) (d:=YtnbokkoppdnllaaGreatDoor.Rows.laid_math_bits_deBruijn32tab) (by kernel_rfl) h
 have hg:Tryz.prog.globalNamed (lname 0) = some 7:=by kernel_rfl
 unfold World.var? at hv0
 rw [hg] at hv0
 simp only [Option.bind_some] at hv0
 split at hv0
 ·rename_i cs t f hh
  have:=(Array.getElem?_eq_some_iff.1 hh).1
  omega
 ·cases hv0
theorem laid_of {W:World} (h:laidMetH Tryz.prog laidList W):Cd.LaidE W:=
 ⟨⟨tab_laid h,heap8 h⟩,err_laid (nm:=lname 4) (x:=YtnbokkoppdnllaaGreatDoor.Rows.laid_strconv_ErrSyntax) (by kernel_rfl) (by kernel_rfl) (by kernel_rfl) ⟨_,_,rfl⟩ h,err_laid (nm:=lname 3) (x:=YtnbokkoppdnllaaGreatDoor.Rows.laid_strconv_ErrRange) (by kernel_rfl) (by kernel_rfl) (by kernel_rfl) ⟨_,_,rfl⟩ h⟩
theorem ba_of1 (s:ByteArray):s = ⟨s.data.toList.toArray⟩:=by cases s; rfl
theorem ba_len (s:ByteArray):s.data.toList.length = s.size:=by simp
theorem own:ownKnob Tryz.prog.godebug = none:=by kernel_rfl
theorem laidOut:laidOutB Tryz.prog = true:=by kernel_rfl
theorem door_met (os:Os) (args:Array Value):laidMetH Tryz.prog laidList ((World.doorLaid Tryz.prog 400 os).forCall (fun _ _=>0) ⟨#[],args,[]⟩).memory:=
 laidMetH_of_parts3 (fuel:=8) (laidMet_of_run' 8 (by kernel_rfl) (by kernel_rfl)) (by kernel_rfl) (by kernel_rfl)
theorem intR {n:Int} (h:(Lit.int .i64 n).wf = true):I64 n:=by
 simp only [Lit.wf,bA,dE] at h
 have h1:-9223372036854775808 ≤ n:=h.1
 have h2:n ≤ 9223372036854775807:=h.2
 exact ⟨h1,by omega⟩
section
variable {H:Type} {enc:TypeId × Value → H} {w:World} {sp:Nat → Bool} {hd:Bool}
end
end Go.Proofs
namespace Go.Proofs
open Go Go.Sh Go.RowKit Go.Lib CodeSpec TkSpec FdSpec PuSpec Go.ChangeShapes Go.WideShapes Go.ChangeAt Go.Deep
section
variable {H:Type} {enc:TypeId × Value → H} {w:World} {sp:Nat → Bool} {hd:Bool}
theorem rowsOpen {P:Program} {α:Type} {n:Nat} {At:World → Nat → Nat → α → Prop} {t e:TypeId} {v:Value} {m0:Nat} {D:DataW H × List MemPlace} (ht:P.underlying t = some (.slice e)) (hC:P.cellsOf e = n) (hn:0 < n)
  (hrd:∀ (cs:List Value) (b p m:Nat) (D:DataW H × List MemPlace),cs.length = n → (∀ (j:Nat) (u:Value),cs[j]? = some u → w.cell? ⟨b,p + j,none⟩ = some u) → DataW.trod enc P w 0 sp hd m e cs = some D → ∃ x,At w b p x)
  (h:DataW.trod enc P w 0 sp hd m0 t [v] = some D):∃ l:List α,SRow n At w v l:=by
 rcases open_slice ht h with ⟨hcs,_⟩ | ⟨a',len,cap,m,n',D',Pl,hcs,_,hl,hm,hmm,_,hi⟩
 ·simp only [List.cons.injEq,and_true] at hcs
  subst hcs
  exact ⟨[],⟨none,0,rfl,.inl rfl⟩,by simp⟩
 ·simp only [List.cons.injEq,and_true] at hcs
  subst hcs
  subst hC
  have hml:len ≤ m:=by rw [hmm]; split <;> omega
  by_cases h0:len = 0
  ·subst h0
   exact ⟨[],⟨some a',cap,rfl,.inl rfl⟩,by simp⟩
  obtain ⟨cs0,hc0,_⟩:=hi 0 (by omega)
  obtain ⟨_,hl0,h00⟩:=World.cells?_some hc0
  have h00:=h00 0 hn
  rw [Nat.zero_mul] at h00
  have e0:(a'.add 0).add 0 = a':=by simp [Addr.add]
  rw [e0,gE (by omega)] at h00
  obtain ⟨hb,hs⟩:=Go.Sh.cell_lt h00
  obtain ⟨b,o,s⟩:=a'
  simp only at hs hb
  subst hs
  have key:∀ i:Fin len,∃ x,At w b (o + i * P.cellsOf e) x:=fun i=>by
   obtain ⟨cs,hc,ht2⟩:=hi i (by have:=i.2; omega)
   obtain ⟨_,hcl,hat⟩:=World.cells?_some hc
   refine hrd cs b (o + i * P.cellsOf e) _ _ hcl (fun j u hj=>?_) ht2
   have hjl:=(gS hj).1
   have:=hat j (by omega)
   rw [addr_add',addr_add'] at this
   rw [this,hj]
  refine ⟨List.ofFn (fun i=>(key i).choose),⟨some ⟨b,o,none⟩,cap,by rw [List.length_ofFn],.inr ⟨b,o,rfl,hb,fun i hil=>?_⟩⟩,by rw [List.length_ofFn]; simp only [maxLen] at hm; omega⟩
  rw [List.length_ofFn] at hil
  rw [List.getElem_ofFn]
  exact (key ⟨i,hil⟩).choose_spec
theorem ints_of_row {v:Value} {l:List Int} (h:∃ ad c,v = .slice ad l.length c ∧ (l = [] ∨ ∃ b o,ad = some ⟨b,o,none⟩ ∧ b < w.heap.size ∧ ∀ (i:Nat) (h:i < l.length),w.cell? ⟨b,o + i,none⟩ = some (Value.int .i64 l[i]))) (h0:∀ c,v = .slice none l.length c → l.length = 0 ∧ c = 0) (hl:l.length ≤ maxLen) (hr:∀ x ∈ l,I64 x):Ints w v l:=by
 obtain ⟨ad,c,rfl,h⟩:=h
 refine ⟨⟨ad,c,rfl,fun e=>?_,?_⟩,hr,hl⟩
 ·subst e
  exact h0 c rfl
 ·rcases h with h | ⟨b,o,rfl,hlt,hc⟩
  ·exact .inl h
  ·refine .inr ⟨b,o,rfl,hlt,fun k x hk=>?_⟩
   rw [flat_int] at hk
   obtain ⟨hk1,hk2⟩:=gS hk
   have hk1:k < l.length:=by rw [List.length_map] at hk1; exact hk1
   rw [hc k hk1,← hk2,List.getElem_map]
theorem nil_len {t:TypeId} {n m:Nat} {c:Nat} {D:DataW H × List MemPlace} (ht:Tryz.prog.underlying t = some (.slice 3)) (h:DataW.trod enc Tryz.prog w 0 sp hd n t [.slice none m c] = some D):m = 0 ∧ c = 0:=by
 rcases open_slice1 ht (by kernel_rfl) h with ⟨hcs,_⟩ | ⟨a',len,cap,m,n',V,D',Pl,hcs,_⟩
 ·simp only [List.cons.injEq,and_true,Value.slice.injEq] at hcs
  exact hcs.2
 ·simp only [List.cons.injEq,and_true,Value.slice.injEq] at hcs
  exact absurd hcs.1 (by simp)
theorem open_ints {v:Value} {n:Nat} {D:DataW H × List MemPlace} (h:DataW.trod enc Tryz.prog w 0 sp hd n 22 [v] = some D):∃ l,Ints w v l:=by
 have h':=h
 obtain ⟨l,h1,h2,h3⟩:=rowOpen (Value.int .i64) I64 Tryz.underlying22 (by kernel_rfl) (fun V n D h=>by
  obtain ⟨k,e,_,hw⟩:=DataW.trod_int Tryz.underlying3 h
  simp only [List.cons.injEq,and_true] at e
  exact ⟨k,e,intR hw⟩) h
 exact ⟨l,ints_of_row h1 (fun c e=>by subst e; exact nil_len Tryz.underlying22 h') h2 h3⟩
theorem cells_ints:Tryz.prog.cellsOf 22 = 1:=by kernel_rfl
theorem cells_int:Tryz.prog.cellsOf 3 = 1:=by kernel_rfl
theorem inR_of {n:Int} (h:(Lit.int .i64 n).wf = true):InR n:=by
 have:=intR h
 exact ⟨this.1,by have:=this.2; omega⟩
theorem open_tktC {cs:List Value} {n:Nat} {D:DataW H × List MemPlace} (h:DataW.trod enc Tryz.prog w 0 sp hd n 26 cs = some D):∃ t:Tkt,cs = tktC t ∧ WTkt t:=by
 obtain ⟨hcl,hf⟩:=open_fields Tryz.underlying26 (by kernel_rfl) (by kernel_rfl) h
 obtain ⟨v0,y0,m0,c0,f0⟩:=hf 0 _ rfl
 obtain ⟨v1,y1,m1,c1,f1⟩:=hf 1 _ rfl
 obtain ⟨v2,y2,m2,c2,f2⟩:=hf 2 _ rfl
 obtain ⟨v3,y3,m3,c3,f3⟩:=hf 3 _ rfl
 obtain ⟨v4,y4,m4,c4,f4⟩:=hf 4 _ rfl
 obtain ⟨v5,y5,m5,c5,f5⟩:=hf 5 _ rfl
 obtain ⟨k0,e0,_,w0⟩:=DataW.trod_int Tryz.underlying3 f0
 obtain ⟨k1,e1,_,w1⟩:=DataW.trod_int Tryz.underlying3 f1
 obtain ⟨k2,e2,_,w2⟩:=DataW.trod_int Tryz.underlying3 f2
 obtain ⟨k3,e3,_,w3⟩:=DataW.trod_int Tryz.underlying3 f3
 obtain ⟨k4,e4,_,w4⟩:=DataW.trod_int Tryz.underlying3 f4
 obtain ⟨k5,e5,_,w5⟩:=DataW.trod_int Tryz.underlying3 f5
 simp only [List.cons.injEq,and_true] at e0 e1 e2 e3 e4 e5
 have h6:cs.length = 6:=hcl
 refine ⟨⟨k0,k1,k2,k3,k4,k5⟩,?_,⟨?_⟩⟩
 ·match cs,h6 with
  | [x0,x1,x2,x3,x4,x5],_=>
   simp only [List.getElem?_cons_zero,List.getElem?_cons_succ,Option.some.injEq] at c0 c1 c2 c3 c4 c5
   rw [c0,c1,c2,c3,c4,c5,e0,e1,e2,e3,e4,e5]
 ·intro v hv
  simp only [tktL,List.mem_cons,List.not_mem_nil,or_false] at hv
  rcases hv with rfl | rfl | rfl | rfl | rfl | rfl
  ·exact inR_of w0
  ·exact inR_of w1
  ·exact inR_of w2
  ·exact inR_of w3
  ·exact inR_of w4
  ·exact inR_of w5
theorem cells_tkt:Tryz.prog.cellsOf 26 = 6:=by kernel_rfl
theorem cells_spd:Tryz.prog.cellsOf 84 = 2:=by kernel_rfl
theorem cells_str:Tryz.prog.cellsOf 9 = 1:=by kernel_rfl
theorem cells_bld:Tryz.prog.cellsOf 24 = 4:=by kernel_rfl
theorem cells_lnks:Tryz.prog.cellsOf 27 = 1:=by kernel_rfl
theorem cells_hld:Tryz.prog.cellsOf 29 = 14:=by kernel_rfl
theorem cells_lnk:Tryz.prog.cellsOf 86 = 9:=by kernel_rfl
theorem open_spdC {cs:List Value} {n:Nat} {D:DataW H × List MemPlace} (h:DataW.trod enc Tryz.prog w 0 sp hd n 84 cs = some D):∃ (d:Int) (av:Value) (l:List Int),cs = [.int .i64 d,av] ∧ InR d ∧ Ints w av l:=by
 obtain ⟨hcl,hf⟩:=open_fields Tryz.underlying84 (by kernel_rfl) (by kernel_rfl) h
 obtain ⟨v0,y0,m0,c0,f0⟩:=hf 0 _ rfl
 obtain ⟨v1,y1,m1,c1,f1⟩:=hf 1 _ rfl
 obtain ⟨k0,e0,_,w0⟩:=DataW.trod_int Tryz.underlying3 f0
 obtain ⟨l1,h1⟩:=open_ints f1
 simp only [List.cons.injEq,and_true] at e0
 have h6:cs.length = 2:=hcl
 refine ⟨k0,v1,l1,?_,inR_of w0,h1⟩
 match cs,h6 with
 | [x0,x1],_=>
  simp only [List.getElem?_cons_zero,List.getElem?_cons_succ,Option.some.injEq] at c0 c1
  rw [c0,c1,e0]
theorem open_bldC {cs:List Value} {n:Nat} {D:DataW H × List MemPlace} (h:DataW.trod enc Tryz.prog w 0 sp hd n 24 cs = some D):∃ (b:Bld) (v:Value),cs = bldC b v ∧ InR b.s ∧ InR b.u ∧ InR b.v ∧ Ints w v b.ys:=by
 obtain ⟨hcl,hf⟩:=open_fields Tryz.underlying24 (by kernel_rfl) (by kernel_rfl) h
 obtain ⟨v0,y0,m0,c0,f0⟩:=hf 0 _ rfl
 obtain ⟨v1,y1,m1,c1,f1⟩:=hf 1 _ rfl
 obtain ⟨v2,y2,m2,c2,f2⟩:=hf 2 _ rfl
 obtain ⟨v3,y3,m3,c3,f3⟩:=hf 3 _ rfl
 obtain ⟨k0,e0,_,w0⟩:=DataW.trod_int Tryz.underlying3 f0
 obtain ⟨k1,e1,_,w1⟩:=DataW.trod_int Tryz.underlying3 f1
 obtain ⟨k2,e2,_,w2⟩:=DataW.trod_int Tryz.underlying3 f2
 obtain ⟨l3,h3⟩:=open_ints f3
 simp only [List.cons.injEq,and_true] at e0 e1 e2
 have h6:cs.length = 4:=hcl
 refine ⟨⟨k0,k1,k2,l3⟩,v3,?_,inR_of w0,inR_of w1,inR_of w2,h3⟩
 match cs,h6 with
 | [x0,x1,x2,x3],_=>
  simp only [List.getElem?_cons_zero,List.getElem?_cons_succ,Option.some.injEq] at c0 c1 c2 c3
  rw [c0,c1,c2,c3,e0,e1,e2]
theorem ints_inR {v:Value} {l:List Int} (h:Ints w v l):∀ x ∈ l,InR x:=fun x hx=>⟨(h.rng x hx).1,by have:=(h.rng x hx).2; omega⟩
theorem ba_of (s:ByteArray):s = ⟨s.data.toList.toArray⟩:=by cases s; rfl
theorem open_lnks {v:Value} {n:Nat} {D:DataW H × List MemPlace} (h:DataW.trod enc Tryz.prog w 0 sp hd n 27 [v] = some D):∃ l,LnksR w v l:=
 rowsOpen Tryz.underlying27 cells_lnk (by decide) (fun cs b p m D hl hc ht=>by
  obtain ⟨xs,m,_,_,hcl,hxl,hf⟩:=DataW.trod_struct Tryz.underlying86 ht
  have hxl:xs.length = 3:=hxl
  match cs,hl,xs,hxl with
  | [x0,x1,x2,x3,x4,x5,x6,x7,x8],_,[y0,y1,y2],_=>
   have f0:DataW.trod enc Tryz.prog w 0 sp hd m 26 (([x0,x1,x2,x3,x4,x5,x6,x7,x8].drop 0).take (Tryz.prog.cellsOf 26)) = some y0:=hf 0 _ rfl
   have f1:DataW.trod enc Tryz.prog w 0 sp hd m 84 (([x0,x1,x2,x3,x4,x5,x6,x7,x8].drop 6).take (Tryz.prog.cellsOf 84)) = some y1:=hf 1 _ rfl
   have f2:DataW.trod enc Tryz.prog w 0 sp hd m 9 (([x0,x1,x2,x3,x4,x5,x6,x7,x8].drop 8).take (Tryz.prog.cellsOf 9)) = some y2:=hf 2 _ rfl
   rw [cells_tkt] at f0
   rw [cells_spd] at f1
   rw [cells_str] at f2
   obtain ⟨t,et,ht⟩:=open_tktC f0
   obtain ⟨d,av,al,es,hd,ha⟩:=open_spdC f1
   obtain ⟨s,ess,_,hs⟩:=DataW.trod_string Tryz.underlying9 f2
   simp only [List.drop_zero,List.take_succ_cons,List.take_zero,List.drop_succ_cons,List.cons.injEq,and_true,tktC] at et es ess
   obtain ⟨e0,e1,e2,e3,e4,e5⟩:=et
   obtain ⟨e6,e7⟩:=es
   refine ⟨⟨t,⟨d,al⟩,s.data.toList⟩,_,rfl,hc,av,?_,ha,ht,hd,ints_inR ha,?_,?_⟩
   ·rw [e0,e1,e2,e3,e4,e5,e6,e7,ess,ba_of s]
   ·have:=ha.len; show (al.length:Int) ≤ _; omega
   ·show ((s.data.toList.length:Nat):Int) ≤ _
    have:s.data.toList.length = s.size:=by simp
    rw [this]
    have:maxLen = 9223372036854775807:=rfl
    omega) h
theorem open_hldC {cs:List Value} {n:Nat} {D:DataW H × List MemPlace} (ht:DataW.trod enc Tryz.prog w 0 sp hd n 29 cs = some D):∃ (x:Hld) (av yv kv:Value),cs = hldC x av yv kv ∧ HldR w x av yv kv:=by
 obtain ⟨xs,m,_,_,hcl,hxl,hf⟩:=DataW.trod_struct Tryz.underlying29 ht
 have hxl:xs.length = 6:=hxl
 rw [cells_hld] at hcl
 match cs,hcl,xs,hxl with
 | [x0,x1,x2,x3,x4,x5,x6,x7,x8,x9,x10,x11,x12,x13],_,[y0,y1,y2,y3,y4,y5],_=>
  have f0:DataW.trod enc Tryz.prog w 0 sp hd m 3 (([x0,x1,x2,x3,x4,x5,x6,x7,x8,x9,x10,x11,x12,x13].drop 0).take (Tryz.prog.cellsOf 3)) = some y0:=hf 0 _ rfl
  have f1:DataW.trod enc Tryz.prog w 0 sp hd m 3 (([x0,x1,x2,x3,x4,x5,x6,x7,x8,x9,x10,x11,x12,x13].drop 1).take (Tryz.prog.cellsOf 3)) = some y1:=hf 1 _ rfl
  have f2:DataW.trod enc Tryz.prog w 0 sp hd m 22 (([x0,x1,x2,x3,x4,x5,x6,x7,x8,x9,x10,x11,x12,x13].drop 2).take (Tryz.prog.cellsOf 22)) = some y2:=hf 2 _ rfl
  have f3:DataW.trod enc Tryz.prog w 0 sp hd m 24 (([x0,x1,x2,x3,x4,x5,x6,x7,x8,x9,x10,x11,x12,x13].drop 3).take (Tryz.prog.cellsOf 24)) = some y3:=hf 3 _ rfl
  have f4:DataW.trod enc Tryz.prog w 0 sp hd m 26 (([x0,x1,x2,x3,x4,x5,x6,x7,x8,x9,x10,x11,x12,x13].drop 7).take (Tryz.prog.cellsOf 26)) = some y4:=hf 4 _ rfl
  have f5:DataW.trod enc Tryz.prog w 0 sp hd m 27 (([x0,x1,x2,x3,x4,x5,x6,x7,x8,x9,x10,x11,x12,x13].drop 13).take (Tryz.prog.cellsOf 27)) = some y5:=hf 5 _ rfl
  rw [cells_int] at f0 f1
  rw [cells_ints] at f2
  rw [cells_bld] at f3
  rw [cells_tkt] at f4
  rw [cells_lnks] at f5
  obtain ⟨k0,e0,_,w0⟩:=DataW.trod_int Tryz.underlying3 f0
  obtain ⟨k1,e1,_,w1⟩:=DataW.trod_int Tryz.underlying3 f1
  obtain ⟨al,ha⟩:=open_ints f2
  obtain ⟨b,bv,eb,hb1,hb2,hb3,hby⟩:=open_bldC f3
  obtain ⟨t,et,ht⟩:=open_tktC f4
  obtain ⟨ll,hll⟩:=open_lnks f5
  simp only [List.drop_zero,List.take_succ_cons,List.take_zero,List.drop_succ_cons,List.cons.injEq,and_true,tktC,bldC] at e0 e1 eb et
  obtain ⟨q0,q1,q2,q3⟩:=eb
  obtain ⟨t0,t1,t2,t3,t4,t5⟩:=et
  refine ⟨⟨k0,k1,al,b,t,ll⟩,x2,bv,x13,?_,⟨ha,hby,hll,⟨inR_of w0,inR_of w1,ints_inR ha,?_,hb1,hb2,hb3,ints_inR hby,?_,ht,?_⟩⟩⟩
  ·rw [e0,e1,q0,q1,q2,q3,t0,t1,t2,t3,t4,t5]
  ·have:=ha.len; show (al.length:Int) ≤ _; omega
  ·have:=hby.len; show (b.ys.length:Int) ≤ _; omega
  ·intro x hx
   obtain ⟨i,hi,rfl⟩:=List.mem_iff_getElem.1 hx
   obtain ⟨ad,c,hv⟩:=hll.isSlice
   have hll':LnksR w (.slice ad ll.length c) ll:=by rw [← hv]; exact hll
   obtain ⟨_,_,_,_,_,_,_,_,_,_,hw⟩:=hll'.at hi
   exact hw
theorem open_held {b0:Nat} {v:Value} {d:DataW H} {ps:List MemPlace} (hval:Value.okWide Tryz.prog w .any b0 29 v) (h:DataW.Trod enc Tryz.prog w 0 sp hd 29 v d ps):∃ (x:Hld) (av yv kv:Value),v = hldV x av yv kv ∧ HldR w x av yv kv:=by
 obtain ⟨cs,rfl,hs⟩:=okWide_struct Tryz.underlying29 hval
 obtain ⟨fu,hf⟩:=h
 obtain ⟨x,av,yv,kv,e,hH⟩:=open_hldC (cs:=cs.toList) hf
 refine ⟨x,av,yv,kv,?_,hH⟩
 have hcs:cs = cs.toList.toArray:=by simp
 rw [hcs,e]
end
end Go.Proofs
namespace Go.Proofs
open Go.Sh Tryz
variable {a0 a1 a2 a3:Value} {K:VK} {w:World}
def sh_85 (a0 a1:Value) (K:VK) (w:World):Prop:=
 oM prog (.box 84 (.tmp 0)) 0 [a0] (fun v2=>
 oM prog (.box 84 (.tmp 0)) 0 [a1] fun v3=>
 kF 84 0 v2 fun v5=>
 kL 3 v5 fun v6=>
 kF 84 0 v3 fun v7=>
 kL 3 v7 fun v8=>
 kB .eql 3 4 v6 v8 fun v9 w=>
 gT v9 (kF 84 1 v2) (fun v11 w=>
 gT v9 (kL 22 v11) (fun v12 w=>
 gT v9 (kF 84 1 v3) (fun v13 w=>
 gT v9 (kL 22 v13) (fun v14 w=>
 gT v9 (callM prog 56 #[v12,v14]) (fun v15=>
 kP v9 v15 (.bool false) fun v16=>
 K v16) w) w) w) w) w) w
theorem sh_85_ok (h:sh_85 a0 a1 K w):callM prog 85 #[a0,a1] K w:=
 cZ (fun _=>0) func85 h
def sh_44 (a0 a1:Value) (K:VK) (w:World):Prop:=
 kN 27 a0 (fun v7=>
 kN 27 a1 fun v9=>
 kB .neq 3 4 v7 v9 fun v10=>
 kO v10 (K (.bool false))
 (kQ [(.bool false),(.int .i64 0)] fun J_4 m_5 l_6 u_l_6 w0_l_6=>(fun w=>(
 kN 27 a0 (fun v13=>
 kB .lss 3 4 (l_6.getD 1 undef) v13 fun v14=>
 kO v14 (kH fun C_9 w=>(((true:Bool) = true) ∧ (pureH a0 C_9 fun v17=>
 pureH (l_6.getD 1 undef) C_9 fun v18=>
 jI 27 v17 v18 C_9 fun v19=>
 jF 86 0 v19 C_9 fun v20=>
 jL 26 v20 C_9 fun v21=>
 pureH a1 C_9 fun v22=>
 pureH (l_6.getD 1 undef) C_9 fun v23=>
 jI 27 v22 v23 C_9 fun v24=>
 jF 86 0 v24 C_9 fun v25=>
 jL 26 v25 C_9 fun v26=>
 jB .neq 26 4 v21 v26 C_9 fun v27=>
 pureH v27 C_9 fun v28=>
 jG v28 (pureH a0) C_9 fun v29=>
 jG v28 (pureH (l_6.getD 1 undef)) C_9 fun v30=>
 jG v28 (jI 27 v29 v30) C_9 fun v31=>
 jG v28 (jF 86 2 v31) C_9 fun v32=>
 jG v28 (jL 9 v32) C_9 fun v33=>
 jG v28 (pureH a1) C_9 fun v34=>
 jG v28 (pureH (l_6.getD 1 undef)) C_9 fun v35=>
 jG v28 (jI 27 v34 v35) C_9 fun v36=>
 jG v28 (jF 86 2 v36) C_9 fun v37=>
 jG v28 (jL 9 v37) C_9 fun v38=>
 jG v28 (jB .neq 9 4 v33 v38) C_9 fun v39=>
 jP v28 (.bool true) v39 C_9 fun v40=>
 pureH v40 C_9 fun v41=>
 jG v41 (pureH a0) C_9 fun v42=>
 jG v41 (pureH (l_6.getD 1 undef)) C_9 fun v43=>
 jG v41 (jI 27 v42 v43) C_9 fun v44=>
 jG v41 (jF 86 1 v44) C_9 fun v45=>
 jG v41 (jL 84 v45) C_9 fun v46=>
 jG v41 (pureH a1) C_9 fun v47=>
 jG v41 (pureH (l_6.getD 1 undef)) C_9 fun v48=>
 jG v41 (jI 27 v47 v48) C_9 fun v49=>
 jG v41 (jF 86 1 v49) C_9 fun v50=>
 jG v41 (jL 84 v50) C_9 fun v51=>
 ∃ S_45:World → WK,∀ w,C_9 w → (
 gF v41 (callM prog 85 #[v46,v51]) (fun v52 w=>
 gF v41 (kU v52) (fun v53=>
 kP v41 (.bool true) v53 fun v54=>
 kO v54 (K (.bool false))
 (kB .add 3 3 (l_6.getD 1 undef) (.int .i64 1) fun v16=>
 kJ J_4 m_5 l_6 w0_l_6 [(l_6.getD 0 undef),v16])) w) w))))
 (K (.bool true))) w)) w0_l_6)) w
theorem sh_44_ok (h:sh_44 a0 a1 K w):callM prog 44 #[a0,a1] K w:=
 cZ (fun _=>(fz 35 0 3)) func44 h
def sh_16 (a0 a1:Value) (K:VK) (w:World):Prop:=
 oM prog (.box 29 (.tmp 0)) 0 [a0] (fun v2=>
 oM prog (.box 29 (.tmp 0)) 0 [a1] fun v3=>
 kF 29 3 v2 fun v7=>
 kL 24 v7 fun v8=>
 kA 24 fun v5=>
 kS 24 v5 v8 fun _=>
 kF 29 3 v3 fun v9=>
 kL 24 v9 fun v10=>
 kA 24 fun v6=>
 kS 24 v6 v10 fun _=>
 kF 29 0 v2 fun v11=>
 kL 3 v11 fun v12=>
 kF 29 0 v3 fun v13=>
 kL 3 v13 fun v14=>
 kB .neq 3 4 v12 v14 fun v15 w=>
 gF v15 (kF 29 1 v2) (fun v17 w=>
 gF v15 (kL 3 v17) (fun v18 w=>
 gF v15 (kF 29 1 v3) (fun v19 w=>
 gF v15 (kL 3 v19) (fun v20 w=>
 gF v15 (kB .neq 3 4 v18 v20) (fun v21=>
 kP v15 (.bool true) v21 fun v22 w=>
 gF v22 (kF 24 0 v5) (fun v24 w=>
 gF v22 (kL 3 v24) (fun v25 w=>
 gF v22 (kF 24 0 v6) (fun v26 w=>
 gF v22 (kL 3 v26) (fun v27 w=>
 gF v22 (kB .neq 3 4 v25 v27) (fun v28=>
 kP v22 (.bool true) v28 fun v29 w=>
 gF v29 (kF 24 1 v5) (fun v31 w=>
 gF v29 (kL 3 v31) (fun v32 w=>
 gF v29 (kF 24 1 v6) (fun v33 w=>
 gF v29 (kL 3 v33) (fun v34 w=>
 gF v29 (kB .neq 3 4 v32 v34) (fun v35=>
 kP v29 (.bool true) v35 fun v36 w=>
 gF v36 (kF 24 2 v5) (fun v38 w=>
 gF v36 (kL 3 v38) (fun v39 w=>
 gF v36 (kF 24 2 v6) (fun v40 w=>
 gF v36 (kL 3 v40) (fun v41 w=>
 gF v36 (kB .neq 3 4 v39 v41) (fun v42=>
 kP v36 (.bool true) v42 fun v43 w=>
 gF v43 (kF 29 4 v2) (fun v45 w=>
 gF v43 (kL 26 v45) (fun v46 w=>
 gF v43 (kF 29 4 v3) (fun v47 w=>
 gF v43 (kL 26 v47) (fun v48 w=>
 gF v43 (kB .neq 26 4 v46 v48) (fun v49=>
 kP v43 (.bool true) v49 fun v50=>
 kO v50 (K (.bool false))
 (kF 29 2 v2 fun v51=>
 kL 22 v51 fun v52=>
 kF 29 2 v3 fun v53=>
 kL 22 v53 fun v54=>
 callM prog 56 #[v52,v54] fun v55 w=>
 gT v55 (kF 24 3 v5) (fun v57 w=>
 gT v55 (kL 22 v57) (fun v58 w=>
 gT v55 (kF 24 3 v6) (fun v59 w=>
 gT v55 (kL 22 v59) (fun v60 w=>
 gT v55 (callM prog 56 #[v58,v60]) (fun v61=>
 kP v55 v61 (.bool false) fun v62 w=>
 gT v62 (kF 29 5 v2) (fun v64 w=>
 gT v62 (kL 27 v64) (fun v65 w=>
 gT v62 (kF 29 5 v3) (fun v66 w=>
 gT v62 (kL 27 v66) (fun v67 w=>
 gT v62 (callM prog 44 #[v65,v67]) (fun v68=>
 kP v62 v68 (.bool false) fun v69=>
 K v69) w) w) w) w) w) w) w) w) w) w)) w) w) w) w) w) w) w) w) w) w) w) w) w) w) w) w) w) w) w) w) w) w) w) w) w) w
theorem sh_16_ok (h:sh_16 a0 a1 K w):callM prog 16 #[a0,a1] K w:=
 cZ (fun _=>0) func16 h
def sh_13 (a0:Value) (K:VK) (w:World):Prop:=
 oM prog (.box 29 (.tmp 0)) 0 [a0] (fun v1=>
 kQ [(.bool false),(.int .i64 0)] fun J_2 m_3 l_4 u_l_4 w0_l_4=>(fun w=>(
 kF 29 5 v1 (fun v5=>
 kL 27 v5 fun v6=>
 kN 27 v6 fun v7=>
 kB .lss 3 4 (l_4.getD 1 undef) v7 fun v8 w=>
 gT v8 (pureM (l_4.getD 1 undef)) (fun v10 w=>
 gT v8 (kB .leq 3 4 v10 (.int .i64 5)) (fun v11=>
 kP v8 v11 (.bool false) fun v12=>
 kO v12 (kF 29 5 v1 fun v15=>
 kL 27 v15 fun v16=>
 kI 27 v16 (l_4.getD 1 undef) fun v18=>
 kF 86 1 v18 fun v19=>
 kF 84 1 v19 fun v20=>
 kL 22 v20 fun v21=>
 kN 22 v21 fun v22=>
 kB .gtr 3 4 v22 (.int .i64 8) fun v23 w=>
 gF v23 (kF 29 5 v1) (fun v25 w=>
 gF v23 (kL 27 v25) (fun v26 w=>
 gF v23 (pureM (l_4.getD 1 undef)) (fun v27 w=>
 gF v23 (kI 27 v26 v27) (fun v28 w=>
 gF v23 (kF 86 2 v28) (fun v29 w=>
 gF v23 (kL 9 v29) (fun v30 w=>
 gF v23 (kN 9 v30) (fun v31 w=>
 gF v23 (kB .gtr 3 4 v31 (.int .i64 210)) (fun v32=>
 kP v23 (.bool true) v32 fun v33=>
 kO v33 (K (.bool false))
 (kB .add 3 3 (l_4.getD 1 undef) (.int .i64 1) fun v14=>
 kJ J_2 m_3 l_4 w0_l_4 [(l_4.getD 0 undef),v14])) w) w) w) w) w) w) w) w)
 (kF 29 2 v1 fun v34=>
 kL 22 v34 fun v35=>
 kN 22 v35 fun v36=>
 kB .leq 3 4 v36 (.int .i64 8) fun v37 w=>
 gT v37 (kF 29 3 v1) (fun v39 w=>
 gT v37 (kF 24 3 v39) (fun v40 w=>
 gT v37 (kL 22 v40) (fun v41 w=>
 gT v37 (kN 22 v41) (fun v42 w=>
 gT v37 (kB .leq 3 4 v42 (.int .i64 8)) (fun v43=>
 kP v37 v43 (.bool false) fun v44 w=>
 gT v44 (kF 29 5 v1) (fun v46 w=>
 gT v44 (kL 27 v46) (fun v47 w=>
 gT v44 (kN 27 v47) (fun v48 w=>
 gT v44 (kB .leq 3 4 v48 (.int .i64 5)) (fun v49=>
 kP v44 v49 (.bool false) fun v50=>
 K v50) w) w) w) w) w) w) w) w) w)) w) w) w)) w0_l_4) w
theorem sh_13_ok (h:sh_13 a0 K w):callM prog 13 #[a0] K w:=
 cZ (fun _=>0) func13 h
def sh_3 (a0 a1 a2 a3:Value) (K:VK) (w:World):Prop:=
 oM prog (.box 29 (.tmp 0)) 0 [a0] (fun v4=>
 callM prog 12 #[] fun v21=>
 kL 29 v4 fun v22=>
 callM prog 13 #[v22] fun v23=>
 kU v23 fun v24 w=>
 gF v24 (kF 29 5 v4) (fun v26 w=>
 gF v24 (kL 27 v26) (fun v27 w=>
 gF v24 (kN 27 v27) (fun v28 w=>
 gF v24 (kB .gtr 3 4 v28 (.int .i64 4)) (fun v29=>
 kP v24 (.bool true) v29 fun v30 w=>
 gF v30 (pureM a1) (fun v32 w=>
 gF v30 (kN 9 v32) (fun v33 w=>
 gF v30 (kB .gtr 3 4 v33 (.int .i64 600)) (fun v34=>
 kP v30 (.bool true) v34 fun v35 w=>
 gF v35 (pureM a3) (fun v37 w=>
 gF v35 (kN 9 v37) (fun v38 w=>
 gF v35 (kB .gtr 3 4 v38 (.int .i64 30)) (fun v39=>
 kP v35 (.bool true) v39 fun v40=>
 kO v40 (K v21)
 (kL 29 v4 fun v43=>
 callM prog 15 #[v43] fun v44=>
 callM prog 14 #[v44] fun v45=>
 kE 0 29 v45 fun v46=>
 kE 1 4 v45 fun v47=>
 kA 29 fun v10=>
 kS 29 v10 v46 fun _=>
 callM prog 14 #[a1] fun v50=>
 kE 0 29 v50 fun v51=>
 kE 1 4 v50 fun v52=>
 kA 29 fun v12=>
 kS 29 v12 v51 fun _=>
 kU v47 fun v54 w=>
 gF v54 (kL 29 v10) (fun v56 w=>
 gF v54 (kL 29 v4) (fun v57 w=>
 gF v54 (callM prog 16 #[v56,v57]) (fun v58 w=>
 gF v54 (kU v58) (fun v59=>
 kP v54 (.bool true) v59 fun v60 w=>
 gF v60 (pureM v52) (fun v62 w=>
 gF v60 (pureM v62) (fun v63 w=>
 gT v63 (kL 29 v12) (fun v64 w=>
 gT v63 (callM prog 15 #[v64]) (fun v65 w=>
 gT v63 (pureM a1) (fun v66 w=>
 gT v63 (kB .neq 9 4 v65 v66) (fun v67 w=>
 gF v60 (kP v63 v67 (.bool false)) (fun v68=>
 kP v60 (.bool true) v68 fun v69=>
 kO v69 (K (.bool false))
 (callM prog 17 #[a2,a3] fun v72=>
 callM prog 18 #[v72] fun v75=>
 kE 0 3 v75 fun v76=>
 kE 1 9 v75 fun v77=>
 kE 2 4 v75 fun v78=>
 oM prog (.binOp .neq 9 (.tmp 0) (.const (.string ⟨#[]⟩)) 9) 4 [v72] fun v81=>
 kB .neq 4 4 v78 v81 fun v82 w=>
 gF v82 (pureM v78) (fun v84 w=>
 gF v82 (pureM v84) (fun v85 w=>
 gT v85 (pureM v76) (fun v86 w=>
 gT v85 (pureM a2) (fun v87 w=>
 gT v85 (kB .neq 3 4 v86 v87) (fun v88 w=>
 gT v85 (pureM v88) (fun v89 w=>
 gF v89 (pureM v77) (fun v90 w=>
 gF v89 (pureM a3) (fun v91 w=>
 gF v89 (kB .neq 9 4 v90 v91) (fun v92 w=>
 gT v85 (kP v89 (.bool true) v92) (fun v93 w=>
 gF v82 (kP v85 v93 (.bool false)) (fun v94=>
 kP v82 (.bool true) v94 fun v95=>
 kO v95 (K (.bool false))
 (callM prog 18 #[a1] fun v98=>
 kE 0 3 v98 fun v99=>
 kE 1 9 v98 fun v100=>
 kE 2 4 v98 fun v101 w=>
 gT v21 (pureM v101) (fun v104 w=>
 gT v21 (kU v104) (fun v105 w=>
 gT v21 (pureM v105) (fun v106 w=>
 gF v106 (pureM v99) (fun v107 w=>
 gF v106 (pureM v100) (fun v108 w=>
 gF v106 (callM prog 17 #[v107,v108]) (fun v109 w=>
 gF v106 (pureM a1) (fun v110 w=>
 gF v106 (kB .eql 9 4 v109 v110) (fun v111 w=>
 gT v21 (kP v106 (.bool true) v111) (fun v112=>
 kP v21 v112 (.bool false) fun v113=>
 K v113) w) w) w) w) w) w) w) w) w)) w) w) w) w) w) w) w) w) w) w) w)) w) w) w) w) w) w) w) w) w) w) w)) w) w) w) w) w) w) w) w) w) w) w
theorem sh_3_ok (h:sh_3 a0 a1 a2 a3 K w):callM prog 3 #[a0,a1,a2,a3] K w:=
 cZ (fun _=>0) func3 h
end Go.Proofs
namespace Go.Proofs
open Go Go.Sh Go.RowKit FdSpec TkSpec CodeSpec PuSpec DkSpec JnSpec
section
variable {K:VK} {w w' w0 W W':World} {L:List (Addr × Value)} {rb b:Nat}
@[go_sem] theorem neq_tkt (T:TypeId) (a b:Tkt):oM Tryz.prog (.binOp .neq 26 (.tmp 0) (.tmp 1) 26) T [tktV a,tktV b] = pureM (.bool (decide (a ≠ b))):=by
 funext K w
 have h1:(eqGuard .neq 26 (.tmp 0) (.tmp 1) (tktV a) (tktV b)).run Tryz.prog w = .ok () w:=run_eqGuard_agg w _ _ _ _ _ _ (by kernel_rfl)
 have h2:(binOp .neq 26 (tktV a) (tktV b)).run Tryz.prog w = .ok (.bool (decide (a ≠ b))) w:=by
  rw [run_neq_struct,run_equalIn_agg w 9999 26 _ _ (by kernel_rfl) (by kernel_rfl)]
  have u3:=Tryz.underlying3
  have e:decide (a ≠ b) = !((a.mark == b.mark) && (a.first == b.first) && (a.z == b.z) && (a.a == b.a) && (a.b == b.b) && (a.r == b.r)):=by
   obtain ⟨a1,a2,a3,a4,a5,a6⟩:=a
   obtain ⟨b1,b2,b3,b4,b5,b6⟩:=b
   rw [decide_not]
   congr 1
   simp [Tkt.mk.injEq,and_assoc,Bool.and_assoc]
   rfl
  rw [e]
  simp [go_sem,Program.fieldsOf,Tryz.underlying26,Op.eqFields,part,u3]
  repeat' split
  all_goals simp_all
 unfold oM opM
 simp [xop,execOp,evalL,evE,h1,h2]
 exact Iff.rfl
theorem SameSpend_ok {d1 d2:Int} {l m:List Int} {av bv:Value} (ha:Ints w av l) (hb:Ints w bv m) (k:∀ w',Bw w w' → K (.bool (decide (d1 = d2) && decide (l = m))) w'):callM Tryz.prog 85 #[.agg #[.int .i64 d1,av],.agg #[.int .i64 d2,bv]] K w:=by
 apply sh_85_ok
 unfold sh_85
 obtain ⟨a1,c1,rfl⟩:=ha.isSlice
 obtain ⟨a2,c2,rfl⟩:=hb.isSlice
 refine box_kn (cs:=[.int .i64 d1,.slice a1 l.length c1]) rfl (.start w) fun b1 W hk hb1 hbb=>?_
 refine box_kn (cs:=[.int .i64 d2,.slice a2 m.length c2]) rfl hk fun b2 W hk hb2 hbb=>?_
 by_cases h:d1 = d2
 ·rw [decide_eq_true h,bT] at k
  repeat (any_goals (first
  | (with_reducible refine zA ?_)
  | ((with_reducible refine oG fun X Y=>?_); simp [go_sem,hk.cells,h]; apply Y; clear Y X)))
  refine sameInts_ok (ha.next hk.below) (hb.next hk.below) (fun w3 h3=>?_)
  have k:=k _ (hk.next h3).below
  repeat (any_goals (with_reducible refine yB ?_))
  exact k
 ·rw [decide_eq_false h,bF] at k
  have k:=k _ hk.below
  repeat (any_goals (first
  | (with_reducible first|refine zB ?_|refine yC ?_)
  | ((with_reducible refine oG fun X Y=>?_); simp [go_sem,hk.cells,h]; apply Y; clear Y X)))
  exact k
theorem lnk_ext {x y:Lnk} (h1:x.ticket = y.ticket) (h2:x.terms = y.terms) (h3:x.spend.dare = y.spend.dare) (h4:x.spend.answers = y.spend.answers):x = y:=by
 obtain ⟨a,⟨b,c⟩,d⟩:=x
 obtain ⟨a',⟨b',c'⟩,d'⟩:=y
 simp only at *
 subst h1 h2 h3 h4
 rfl
theorem str_eq {x y:Bytes}:((⟨x.toArray⟩:ByteArray) = ⟨y.toArray⟩) ↔ x = y:=by
 constructor
 ·intro h
  have:=congrArg (fun b:ByteArray=>b.data.toList) h
  simpa using this
 ·rintro rfl; rfl
theorem lnk_cells {b p:Nat} {x:Lnk} {av:Value} (h:∀ j u,(lkC x av)[j]? = some u → w.cell? ⟨b,p + j,none⟩ = some u) :
  w.cell? ⟨b,p,none⟩ = some (.int .i64 x.ticket.mark) ∧ w.cell? ⟨b,p + 1,none⟩ = some (.int .i64 x.ticket.first) ∧ w.cell? ⟨b,p + 2,none⟩ = some (.int .i64 x.ticket.z) ∧ w.cell? ⟨b,p + 3,none⟩ = some (.int .i64 x.ticket.a) ∧ w.cell? ⟨b,p + 4,none⟩ = some (.int .i64 x.ticket.b) ∧ w.cell? ⟨b,p + 5,none⟩ = some (.int .i64 x.ticket.r) ∧
  w.cell? ⟨b,p + 6,none⟩ = some (.int .i64 x.spend.dare) ∧ w.cell? ⟨b,p + 6 + 1,none⟩ = some av ∧ w.cell? ⟨b,p + 8,none⟩ = some (.string ⟨x.terms.toArray⟩):=
 ⟨h 0 _ rfl,h 1 _ rfl,h 2 _ rfl,h 3 _ rfl,h 4 _ rfl,h 5 _ rfl,h 6 _ rfl,h 7 _ rfl,h 8 _ rfl⟩
theorem SameLinks_ok {va vb:Value} {l m:List Lnk} (ha:LnksR w va l) (hb:LnksR w vb m) (k:∀ w',Bw w w' → K (.bool (decide (l = m))) w'):callM Tryz.prog 44 #[va,vb] K w:=by
 apply sh_44_ok
 unfold sh_44
 obtain ⟨a1,c1,rfl⟩:=ha.isSlice
 obtain ⟨a2,c2,rfl⟩:=hb.isSlice
 have hll:=ha.len
 by_cases hl:l.length = m.length
 ·have hlZ:(l.length:Int) = m.length:=by omega
  repeat (any_goals (first
  | (with_reducible refine yM ?_)
  | ((with_reducible refine oG fun X Y=>?_); simp [go_sem,hlZ]; apply Y; clear Y X)))
  refine ⟨fun vs W=>∃ (i:Nat),vs = [.bool false,.int .i64 (i:Int)] ∧ i ≤ l.length ∧ l.take i = m.take i ∧ Nx w W,
   (fun vs _=>match vs with | [_,.int _ i]=>l.length - i.toNat | _=>0),⟨0,rfl,by omega,rfl,bR⟩,?_⟩
  rintro _ _ w2 ⟨i,rfl,hi,he,h2⟩
  by_cases hin:i = l.length
  ·have e:l = m:=by
    rw [hin,List.take_length,hl,List.take_length] at he
    exact he
   have k:=k _ h2
   rw [decide_eq_true e] at k
   have hn:¬ (i:Int) < m.length:=by omega
   repeat (any_goals (first
   | (with_reducible refine yM ?_)
   | ((with_reducible refine oG fun X Y=>?_); simp [go_sem,hn,hlZ]; apply Y; clear Y X)))
   exact k
  ·have hil:i < l.length:=by omega
   have him:i < m.length:=by omega
   have hiZ:(i:Int) < m.length:=by omega
   have ha2:=ha.next (atOf_stay lnk_vstay) h2
   have hb2:=hb.next (atOf_stay lnk_vstay) h2
   obtain ⟨b1,o1,rfl,hb1,cs1,hc1,hcc1,av,rfl,hA1,hw1⟩:=ha2.at hil
   obtain ⟨b2,o2,rfl,hb2l,cs2,hc2,hcc2,bv,rfl,hA2,hw2⟩:=hb2.at him
   obtain ⟨d1,n1,rfl⟩:=hA1.isSlice
   obtain ⟨d2,n2,rfl⟩:=hA2.isSlice
   have het:l.take (i + 1) = m.take (i + 1) ↔ l[i] = m[i]:=by
    rw [List.take_succ_eq_append_getElem hil,List.take_succ_eq_append_getElem him,he]
    exact ⟨fun h=>by simpa using List.append_cancel_left h,fun h=>by rw [h]⟩
   have hne:l[i] ≠ m[i] → l ≠ m:=fun h e=>h (by subst e; rfl)
   generalize l[i] = x at *
   generalize m[i] = y at *
   repeat (any_goals (first
   | (with_reducible refine yL ?_)
   | ((with_reducible refine oG fun X Y=>?_); simp [go_sem,hiZ,hlZ]; apply Y; clear Y X)))
   refine ⟨Nx { w2 with drawn:=w2.drawn + 1 },bR,rfl,?_⟩
   have h2d:=h2.on (.drawn (B:=w2.heap.size))
   have hbd:Below w2.heap.size w2 { w2 with drawn:=w2.drawn + 1 }:=.drawn
   generalize ({ w2 with drawn:=w2.drawn + 1 }:World) = W3 at h2d hbd ⊢
   have q1:=fun W0 (h:Nx W3 W0) (j:Nat) (u:Value) (hj:(lkC x (.slice d1 x.spend.answers.length n1))[j]? = some u)=>((hbd.on h).cell hb1).trans (hcc1 j u hj)
   have q2:=fun W0 (h:Nx W3 W0) (j:Nat) (u:Value) (hj:(lkC y (.slice d2 y.spend.answers.length n2))[j]? = some u)=>((hbd.on h).cell hb2l).trans (hcc2 j u hj)
   have bad:x ≠ y → ∀ w',Nx W3 w' → K (.bool false) w':=fun e w' hn=>by
    have k:=k _ (h2d.on hn)
    rwa [decide_eq_false (hne e)] at k
   by_cases e1:x.ticket = y.ticket
   ·by_cases e2:x.terms = y.terms
    ·repeat (any_goals (first
     | (with_reducible first|refine pX ?_|((refine idGdH ?_); refine gdH_conv fun _=>?_)|refine zC ?_)
     | ((with_reducible refine idOH ?_); first|(with_reducible refine vB ?_)|(with_reducible refine oH_of ⟨_,rfl⟩ (fun W0 hW0=>by (refine oG (fun X Y=>?_)); simp [go_sem,lnk_cells (q1 _ hW0),lnk_cells (q2 _ hW0),e1,e2,hiZ,hlZ]; (first | exact Y _ _ ⟨rfl,rfl⟩ | exact ⟨by omega,Y _ _ ⟨rfl,rfl⟩⟩)) ?_))))
     refine ⟨Nx,fun w4 h4=>?_⟩
     refine SameSpend_ok (hA1.next (hbd.on h4)) (hA2.next (hbd.on h4)) (fun w5 h5=>?_)
     have h45:=h4.on h5
     by_cases e3:x.spend.dare = y.spend.dare ∧ x.spend.answers = y.spend.answers
     ·rw [decide_eq_true e3.1,decide_eq_true e3.2]
      repeat (any_goals (first
      | (with_reducible first|refine zC ?_|refine yC ?_|refine yM ?_)
      | ((with_reducible refine oG fun X Y=>?_); simp [go_sem]; (try simp (disch:=omega) only [wrapI64,wrapU8,wrapU32,wrapU64]); apply Y; clear Y X)))
      exact ⟨⟨i + 1,rfl,by omega,het.2 (lnk_ext e1 e2 e3.1 e3.2),h2d.on h45⟩,by show l.length - (((i + 1:Nat):Int)).toNat < l.length - ((i:Nat):Int).toNat; omega⟩
     ·have e4:(decide (x.spend.dare = y.spend.dare) && decide (x.spend.answers = y.spend.answers)) = false:=by
       rw [← Bool.decide_and,decide_eq_false e3]
      rw [e4]
      have bad:=bad (fun e=>e3 (by subst e; exact ⟨rfl,rfl⟩)) _ h45
      repeat (any_goals (first
      | (with_reducible first|refine zC ?_|refine yC ?_|refine yL ?_)
      | ((with_reducible refine oG fun X Y=>?_); simp [go_sem]; apply Y; clear Y X)))
      exact bad
    ·have e2':¬ ((⟨x.terms.toArray⟩:ByteArray) = ⟨y.terms.toArray⟩):=fun e=>e2 (str_eq.1 e)
     repeat (any_goals (first
     | (with_reducible first|refine pX ?_|((refine idGdH ?_); refine gdH_conv fun _=>?_)|((refine idGd ?_); first|refine zC ?_|refine zD ?_))
     | ((with_reducible refine idOH ?_); first|(with_reducible refine vB ?_)|(with_reducible refine oH_of ⟨_,rfl⟩ (fun W0 hW0=>by (refine oG (fun X Y=>?_)); simp [go_sem,lnk_cells (q1 _ hW0),lnk_cells (q2 _ hW0),e1,e2',hiZ,hlZ]; (first | exact Y _ _ ⟨rfl,rfl⟩ | exact ⟨by omega,Y _ _ ⟨rfl,rfl⟩⟩)) ?_))))
     refine ⟨Nx,fun w4 h4=>?_⟩
     have bad:=bad (fun e=>e2 (by rw [e])) _ h4
     repeat (any_goals (with_reducible first|refine zD ?_|refine yB ?_|refine yL ?_))
     exact bad
   ·repeat (any_goals (first
    | (with_reducible first|refine pX ?_|((refine idGdH ?_); refine gdH_conv fun _=>?_)|refine zD ?_)
    | ((with_reducible refine idOH ?_); first|(with_reducible refine vA ?_)|(with_reducible refine oH_of ⟨_,rfl⟩ (fun W0 hW0=>by (refine oG (fun X Y=>?_)); simp [go_sem,lnk_cells (q1 _ hW0),lnk_cells (q2 _ hW0),e1,hiZ,hlZ]; (first | exact Y _ _ ⟨rfl,rfl⟩ | exact ⟨by omega,Y _ _ ⟨rfl,rfl⟩⟩)) ?_))))
    refine ⟨Nx,fun w4 h4=>?_⟩
    have bad:=bad (fun e=>e1 (by rw [e])) _ h4
    repeat (any_goals (with_reducible first|refine zD ?_|refine yB ?_|refine yL ?_))
    exact bad
 ·have hlZ:¬ (l.length:Int) = m.length:=by omega
  have k:=k _ (bR)
  rw [decide_eq_false (fun e=>hl (by rw [e]))] at k
  repeat (any_goals (first
  | (with_reducible refine yL ?_)
  | ((with_reducible refine oG fun X Y=>?_); simp [go_sem,hlZ]; apply Y; clear Y X)))
  exact k
theorem un_bld8:Tryz.prog.underlying 24 = some ((Tryz.prog.underlying 24).getD default):=by kernel_rfl
theorem hld_sub {x:Hld} {a y l:Value} {j:Nat} {u:Value} (hj:(bldC x.bl y)[j]? = some u):(hldC x a y l)[3 + j]? = some u:=by
 have hl:=(gS hj).1
 have:hldC x a y l = [.int .i64 x.limit,.int .i64 x.window,a] ++ (bldC x.bl y ++ [.int .i64 x.t.mark,.int .i64 x.t.first,.int .i64 x.t.z,.int .i64 x.t.a,.int .i64 x.t.b,.int .i64 x.t.r,l]):=rfl
 rw [this,List.getElem?_append_right (by simp)]
 simp only [List.length_cons,List.length_nil,Nat.zero_add,Nat.add_sub_cancel_left]
 rw [List.getElem?_append_left hl]
 exact hj
theorem holds_at {g:Nat} {T:TypeId} {xs:List Value} (h:Holds w g T xs) {j:Nat} {u:Value} (hj:xs[j]? = some u):w.cell? ⟨g,j,none⟩ = some u:=by
 obtain ⟨hl,rfl⟩:=gS hj
 exact h.cell j hl
theorem hld_ext {x y:Hld} (e1:x.limit = y.limit) (e2:x.window = y.window) (e3:x.bl.s = y.bl.s) (e4:x.bl.u = y.bl.u) (e5:x.bl.v = y.bl.v) (e6:x.t = y.t) (e7:x.attrs = y.attrs) (e8:x.bl.ys = y.bl.ys) (e9:x.links = y.links):x = y:=by
 obtain ⟨a,b,c,⟨d,e,f,g⟩,t,l⟩:=x
 obtain ⟨a',b',c',⟨d',e',f',g'⟩,t',l'⟩:=y
 simp only at *
 subst e1 e2 e3 e4 e5 e6 e7 e8 e9
 rfl
theorem SameHeld_ok (x y:Hld) {av yv kv av2 yv2 kv2:Value} (hx:HldR w x av yv kv) (hy:HldR w y av2 yv2 kv2) (k:∀ w',Bw w w' → K (.bool (decide (x = y))) w'):callM Tryz.prog 16 #[hldV x av yv kv,hldV y av2 yv2 kv2] K w:=by
 apply sh_16_ok
 unfold sh_16
 obtain ⟨a1,n1,d1,a2,n2,d2,a3,n3,d3,rfl,rfl,rfl⟩:=hldR_slices hx
 obtain ⟨a4,n4,d4,a5,n5,d5,a6,n6,d6,rfl,rfl,rfl⟩:=hldR_slices hy
 refine arr_box (cs:=hldC x (.slice a1 n1 d1) (.slice a2 n2 d2) (.slice a3 n3 d3)) rfl (fun b1 w1 h1 hb1 hB1=>?_)
 refine arr_box (cs:=hldC y (.slice a4 n4 d4) (.slice a5 n5 d5) (.slice a6 n6 d6)) rfl (fun b2 w2 h2 hb2 hB2=>?_)
 have hB1:=hB1.next h2
 iterate 1 (any_goals ((with_reducible refine oG fun X Y=>?_); simp [go_sem]; apply Y; clear Y X))
 refine row_load (cs:=bldC x.bl (.slice a2 n2 d2)) (p:=3) (fun j u hj=>holds_at hB1 (hld_sub hj)) un_bld8 (by kernel_rfl) (by kernel_rfl) ?_
 refine arr_alloc al_bld (fun g1 w3 h3 hg1 hG1=>?_)
 refine arr_store sz_bld (xs:=bldC x.bl (.slice a2 n2 d2)) rfl rfl (bld_one _ _ _ _) hG1 rfl (fun w4 hg4 hG1=>?_)
 have h24:Bw w2 w4:=grown_below h3 hg4 hg1
 have hB1:=hB1.next h24
 have hB2:=hB2.next h24
 iterate 1 (any_goals ((with_reducible refine oG fun X Y=>?_); simp [go_sem]; apply Y; clear Y X))
 refine row_load (cs:=bldC y.bl (.slice a5 n5 d5)) (p:=3) (fun j u hj=>holds_at hB2 (hld_sub hj)) un_bld8 (by kernel_rfl) (by kernel_rfl) ?_
 refine arr_alloc al_bld (fun g2 w5 h5 hg2 hG2=>?_)
 refine arr_store sz_bld (xs:=bldC y.bl (.slice a5 n5 d5)) rfl rfl (bld_one _ _ _ _) hG2 rfl (fun w6 hg6 hG2=>?_)
 have h46:Bw w4 w6:=grown_below h5 hg6 hg2
 have hB1:=hB1.next h46
 have hB2:=hB2.next h46
 have hG1:=hG1.next h46
 have h06:=((h1.on h2).on h24).on h46
 have bad:x ≠ y → ∀ w',Bw w6 w' → K (.bool false) w':=fun e w' hn=>by
  have k:=k _ (h06.on hn)
  rwa [decide_eq_false e] at k
 have p0:=hB1.cell 0 (by simp)
 have p1:=hB1.cell 1 (by simp)
 have p2:=hB1.cell 2 (by simp)
 have p13:=hB1.cell 13 (by simp)
 have q0:=hB2.cell 0 (by simp)
 have q1:=hB2.cell 1 (by simp)
 have q2:=hB2.cell 2 (by simp)
 have q13:=hB2.cell 13 (by simp)
 simp only [List.getElem_cons_zero,List.getElem_cons_succ] at p0 p1 p2 p13 q0 q1 q2 q13
 have r1:=hG1.are
 have r2:=hG2.are
 by_cases e1:x.limit = y.limit
 case neg=>
  have bad:=bad (fun e=>e1 (by rw [e])) _ (bR)
  repeat (any_goals (first
  | (with_reducible first|refine zD ?_|refine yB ?_|refine yL ?_)
  | ((with_reducible refine oG fun X Y=>?_); simp [go_sem,p0,q0,e1]; apply Y; clear Y X)))
  exact bad
 by_cases e2:x.window = y.window
 case neg=>
  have bad:=bad (fun e=>e2 (by rw [e])) _ (bR)
  repeat (any_goals (first
  | (with_reducible first|((refine idGd ?_); first|refine zC ?_|refine zD ?_)|((refine idPick ?_); first|refine yB ?_|refine yC ?_)|refine yL ?_)
  | ((with_reducible refine oG fun X Y=>?_); simp [go_sem,p0,q0,e1,p1,q1,e2]; apply Y; clear Y X)))
  exact bad
 by_cases e3:x.bl.s = y.bl.s
 case neg=>
  have bad:=bad (fun e=>e3 (by rw [e])) _ (bR)
  repeat (any_goals (first
  | (with_reducible first|((refine idGd ?_); first|refine zC ?_|refine zD ?_)|((refine idPick ?_); first|refine yB ?_|refine yC ?_)|refine yL ?_)
  | ((with_reducible refine oG fun X Y=>?_); simp [go_sem,p0,q0,e1,p1,q1,e2,r1,r2,e3]; apply Y; clear Y X)))
  exact bad
 by_cases e4:x.bl.u = y.bl.u
 case neg=>
  have bad:=bad (fun e=>e4 (by rw [e])) _ (bR)
  repeat (any_goals (first
  | (with_reducible first|((refine idGd ?_); first|refine zC ?_|refine zD ?_)|((refine idPick ?_); first|refine yB ?_|refine yC ?_)|refine yL ?_)
  | ((with_reducible refine oG fun X Y=>?_); simp [go_sem,p0,q0,e1,p1,q1,e2,r1,r2,e3,e4]; apply Y; clear Y X)))
  exact bad
 by_cases e5:x.bl.v = y.bl.v
 case neg=>
  have bad:=bad (fun e=>e5 (by rw [e])) _ (bR)
  repeat (any_goals (first
  | (with_reducible first|((refine idGd ?_); first|refine zC ?_|refine zD ?_)|((refine idPick ?_); first|refine yB ?_|refine yC ?_)|refine yL ?_)
  | ((with_reducible refine oG fun X Y=>?_); simp [go_sem,p0,q0,e1,p1,q1,e2,r1,r2,e3,e4,e5]; apply Y; clear Y X)))
  exact bad
 have t1:∀ j u,(tktC x.t)[j]? = some u → w6.cell? ⟨b1,7 + j,none⟩ = some u:=fun j u hj=>holds_at hB1 (by
  have:hldC x (.slice a1 n1 d1) (.slice a2 n2 d2) (.slice a3 n3 d3) = [.int .i64 x.limit,.int .i64 x.window,.slice a1 n1 d1] ++ bldC x.bl (.slice a2 n2 d2) ++ (tktC x.t ++ [.slice a3 n3 d3]):=rfl
  rw [this,List.getElem?_append_right (by simp)]
  simp only [List.length_append,List.length_cons,List.length_nil,Nat.zero_add,Nat.add_sub_cancel_left]
  rw [List.getElem?_append_left (gS hj).1]
  exact hj)
 have t2:∀ j u,(tktC y.t)[j]? = some u → w6.cell? ⟨b2,7 + j,none⟩ = some u:=fun j u hj=>holds_at hB2 (by
  have:hldC y (.slice a4 n4 d4) (.slice a5 n5 d5) (.slice a6 n6 d6) = [.int .i64 y.limit,.int .i64 y.window,.slice a4 n4 d4] ++ bldC y.bl (.slice a5 n5 d5) ++ (tktC y.t ++ [.slice a6 n6 d6]):=rfl
  rw [this,List.getElem?_append_right (by simp)]
  simp only [List.length_append,List.length_cons,List.length_nil,Nat.zero_add,Nat.add_sub_cancel_left]
  rw [List.getElem?_append_left (gS hj).1]
  exact hj)
 by_cases e6:x.t = y.t
 case neg=>
  have bad:=bad (fun e=>e6 (by rw [e])) _ (bR)
  repeat (any_goals (first
  | (with_reducible first|refine zC ?_|refine yC ?_|refine yL ?_)
  | ((with_reducible refine oG fun X Y=>?_); simp [go_sem,p0,q0,e1,p1,q1,e2,r1,r2,e3,e4,e5,t1 0 _ rfl,t1 1 _ rfl,t1 2 _ rfl,t1 3 _ rfl,t1 4 _ rfl,t1 5 _ rfl,t2 0 _ rfl,t2 1 _ rfl,t2 2 _ rfl,t2 3 _ rfl,t2 4 _ rfl,t2 5 _ rfl,e6]; apply Y; clear Y X)))
  exact bad
 repeat (any_goals (first
 | (with_reducible first|refine zC ?_|refine yC ?_|refine yM ?_)
 | ((with_reducible refine oG fun X Y=>?_); simp [go_sem,p0,q0,e1,p1,q1,e2,r1,r2,e3,e4,e5,t1 0 _ rfl,t1 1 _ rfl,t1 2 _ rfl,t1 3 _ rfl,t1 4 _ rfl,t1 5 _ rfl,t2 0 _ rfl,t2 1 _ rfl,t2 2 _ rfl,t2 3 _ rfl,t2 4 _ rfl,t2 5 _ rfl,e6,p2,q2]; apply Y; clear Y X)))
 have hx6:=hx.next h06
 have hy6:=hy.next h06
 refine sameInts_ok hx6.attrs hy6.attrs (fun w7 h7=>?_)
 by_cases e7:x.attrs = y.attrs
 case neg=>
  have bad:=bad (fun e=>e7 (by rw [e])) _ h7
  rw [decide_eq_false e7]
  repeat (any_goals (with_reducible first|refine zB ?_|refine yC ?_))
  exact bad
 rw [decide_eq_true e7]
 have r17:=(hG1.next h7).are
 have r27:=(hG2.next h7).are
 repeat (any_goals (first
 | (with_reducible refine zA ?_)
 | ((with_reducible refine oG fun X Y=>?_); simp [go_sem,r17,r27]; apply Y; clear Y X)))
 refine sameInts_ok (hx6.ys.next h7) (hy6.ys.next h7) (fun w8 h8=>?_)
 have h78:=h7.on h8
 by_cases e8:x.bl.ys = y.bl.ys
 case neg=>
  have bad:=bad (fun e=>e8 (by rw [e])) _ h78
  rw [decide_eq_false e8]
  repeat (any_goals (with_reducible first|refine zB ?_|((refine idPick ?_); first|refine yB ?_|refine yC ?_)))
  exact bad
 rw [decide_eq_true e8]
 have p13:=(h78.cell hB1.lt).trans p13
 have q13:=(h78.cell hB2.lt).trans q13
 repeat (any_goals (first
 | (with_reducible first|refine zA ?_|refine yB ?_)
 | ((with_reducible refine oG fun X Y=>?_); simp [go_sem,p13,q13]; apply Y; clear Y X)))
 refine SameLinks_ok (hx6.links.next (atOf_stay lnk_vstay) h78) (hy6.links.next (atOf_stay lnk_vstay) h78) (fun w9 h9=>?_)
 have k:=k _ (h06.on (h78.on h9))
 by_cases e9:x.links = y.links
 ·rw [decide_eq_true (hld_ext e1 e2 e3 e4 e5 e6 e7 e8 e9)] at k
  rw [decide_eq_true e9]
  repeat (any_goals (with_reducible refine yB ?_))
  exact k
 ·rw [decide_eq_false (fun e=>e9 (by rw [e]))] at k
  rw [decide_eq_false e9]
  repeat (any_goals (with_reducible refine yB ?_))
  exact k
end
def fewLk (y:Lnk):Bool:=decide (y.spend.answers.length ≤ 8) && decide (y.terms.length ≤ 210)
def fewHM (h:Hld):Bool:=(h.links.take 6).all fewLk && (decide (h.attrs.length ≤ 8) && decide (h.bl.ys.length ≤ 8) && decide (h.links.length ≤ 5))
section
variable {K:VK} {w w' w0 W W':World} {L:List (Addr × Value)} {rb b:Nat}
theorem FewHeld_ok (x:Hld) {av yv kv:Value} (hx:HldR w x av yv kv) (k:∀ w',Bw w w' → K (.bool (fewHM x)) w'):callM Tryz.prog 13 #[hldV x av yv kv] K w:=by
 apply sh_13_ok
 unfold sh_13
 obtain ⟨a1,d1,rfl⟩:=hx.attrs.isSlice
 obtain ⟨a2,d2,rfl⟩:=hx.ys.isSlice
 obtain ⟨a3,d3,rfl⟩:=hx.links.isSlice
 have hll:=hx.links.len
 refine arr_box (cs:=hldC x (.slice a1 x.attrs.length d1) (.slice a2 x.bl.ys.length d2) (.slice a3 x.links.length d3)) rfl (fun b1 w1 h1 hb1 hB1=>?_)
 have p2:=hB1.cell 2 (by simp)
 have p6:=hB1.cell 6 (by simp)
 have p13:=hB1.cell 13 (by simp)
 simp only [List.getElem_cons_zero,List.getElem_cons_succ] at p2 p6 p13
 refine ⟨fun vs W=>∃ (i:Nat),vs = [.bool false,.int .i64 (i:Int)] ∧ i ≤ x.links.length ∧ i ≤ 6 ∧ (x.links.take i).all fewLk = true ∧ Nx w1 W,
  (fun vs _=>match vs with | [_,.int _ i]=>x.links.length - i.toNat | _=>0),⟨0,rfl,by omega,by omega,rfl,bR⟩,?_⟩
 rintro _ _ w2 ⟨i,rfl,hi,hi6,ha,h2⟩
 have p2:=(h2.cell hB1.lt).trans p2
 have p6:=(h2.cell hB1.lt).trans p6
 have p13:=(h2.cell hB1.lt).trans p13
 by_cases hil:i < x.links.length ∧ i < 6
 ·have hi1:(i:Int) < x.links.length:=by omega
  have hi2:(i:Int) ≤ 5:=by omega
  have hL:=hx.links.next (atOf_stay lnk_vstay) (h1.on h2)
  obtain ⟨lb,lo,rfl,hlb,cs,hcl,hcc,yv,rfl,hA,hw⟩:=hL.at hil.1
  obtain ⟨e1,n1,rfl⟩:=hA.isSlice
  have hc:=lnk_cells hcc
  have hnext:(x.links.take (i + 1)).all fewLk = fewLk x.links[i]:=by
   rw [List.take_succ_eq_append_getElem hil.1,List.all_append,ha]; simp
  have bad:fewLk x.links[i] = false → K (.bool false) w2:=fun e=>by
   have k:=k _ (h1.on h2)
   have:fewHM x = false:=by
    unfold fewHM
    rw [Bool.and_eq_false_iff]
    left
    rw [List.all_eq_false]
    refine ⟨x.links[i],?_,by rw [e]; simp⟩
    rw [List.mem_take_iff_getElem]
    exact ⟨i,by omega,rfl⟩
   rwa [this] at k
  by_cases q1:x.links[i].spend.answers.length ≤ 8
  ·have q1Z:¬ (8:Int) < x.links[i].spend.answers.length:=by omega
   by_cases q2:x.links[i].terms.length ≤ 210
   ·have q2Z:¬ (210:Int) < x.links[i].terms.length:=by omega
    repeat (any_goals (first
    | (with_reducible first|refine pureM_in ?_|((refine idGd ?_); first|refine zA ?_|refine zC ?_)|((refine idPick ?_); first|refine yB ?_|refine yC ?_)|((refine idCond ?_); first|refine yL ?_|refine yM ?_))
    | ((with_reducible refine oG fun X Y=>?_); simp [go_sem,p13,hi1,hi2,hc.2.2.2.2.2.2.2.1,hc.2.2.2.2.2.2.2.2,q1Z,q2Z]; (try simp (disch:=omega) only [wrapI64,wrapU8,wrapU32,wrapU64]); apply Y; clear Y X)))
    exact ⟨⟨i + 1,rfl,by omega,by omega,by rw [hnext]; unfold fewLk; rw [decide_eq_true q1,decide_eq_true q2]; rfl,h2⟩,by show x.links.length - (((i + 1:Nat):Int)).toNat < x.links.length - ((i:Nat):Int).toNat; omega⟩
   ·have q2Z:(210:Int) < x.links[i].terms.length:=by omega
    have bad:=bad (by unfold fewLk; rw [decide_eq_false q2]; simp)
    repeat (any_goals (first
    | (with_reducible first|refine pureM_in ?_|((refine idGd ?_); first|refine zA ?_|refine zC ?_)|((refine idPick ?_); first|refine yB ?_|refine yC ?_)|refine yL ?_)
    | ((with_reducible refine oG fun X Y=>?_); simp [go_sem,p13,hi1,hi2,hc.2.2.2.2.2.2.2.1,hc.2.2.2.2.2.2.2.2,q1Z,q2Z]; apply Y; clear Y X)))
    exact bad
  ·have q1Z:(8:Int) < x.links[i].spend.answers.length:=by omega
   have bad:=bad (by unfold fewLk; rw [decide_eq_false q1]; rfl)
   repeat (any_goals (first
   | (with_reducible first|refine pureM_in ?_|((refine idGd ?_); first|refine zA ?_|refine zD ?_)|refine yB ?_|refine yL ?_)
   | ((with_reducible refine oG fun X Y=>?_); simp [go_sem,p13,hi1,hi2,hc.2.2.2.2.2.2.2.1,hc.2.2.2.2.2.2.2.2,q1Z]; apply Y; clear Y X)))
   exact bad
 ·have e6:(x.links.take 6).all fewLk = true:=by
   by_cases h6:i = 6
   ·rw [← h6]; exact ha
   ·have:i = x.links.length:=by omega
    rw [this,List.take_length] at ha
    rw [List.take_of_length_le (by omega)]
    exact ha
  have k2:∀ r,(decide (x.attrs.length ≤ 8) && decide (x.bl.ys.length ≤ 8) && decide (x.links.length ≤ 5)) = r → K (.bool r) w2:=fun r e=>by
   have k:=k _ (h1.on h2)
   unfold fewHM at k
   rw [e6,e] at k
   exact k
  have hend:∀ (P:Prop) (t:P) ,P:=fun _ t=>t
  by_cases q1:x.attrs.length ≤ 8
  ·have q1Z:(x.attrs.length:Int) ≤ 8:=by omega
   by_cases q2:x.bl.ys.length ≤ 8
   ·have q2Z:(x.bl.ys.length:Int) ≤ 8:=by omega
    by_cases q3:x.links.length ≤ 5
    ·have q3Z:(x.links.length:Int) ≤ 5:=by omega
     have hi1:¬ (i:Int) < x.links.length:=by omega
     have k2:=k2 _ (by rw [decide_eq_true q1,decide_eq_true q2,decide_eq_true q3])
     repeat (any_goals (first
     | (with_reducible first|((refine idGd ?_); first|refine zA ?_|refine zB ?_)|((refine idPick ?_); first|refine yB ?_|refine yC ?_)|refine yM ?_)
     | ((with_reducible refine oG fun X Y=>?_); simp [go_sem,p13,p2,p6,hi1,q1Z,q2Z,q3Z]; apply Y; clear Y X)))
     exact k2
    ·have q3Z:¬ (x.links.length:Int) ≤ 5:=by omega
     have k2:=k2 _ (by rw [decide_eq_true q1,decide_eq_true q2,decide_eq_false q3])
     by_cases hi1:(i:Int) < x.links.length
     ·have hi2:¬ (i:Int) ≤ 5:=by omega
      repeat (any_goals (first
      | (with_reducible first|refine pureM_in ?_|refine zA ?_|refine yB ?_|refine yM ?_)
      | ((with_reducible refine oG fun X Y=>?_); simp [go_sem,p13,p2,p6,hi1,hi2,q1Z,q2Z,q3Z]; apply Y; clear Y X)))
      exact k2
     ·repeat (any_goals (first
      | (with_reducible first|((refine idGd ?_); first|refine zA ?_|refine zB ?_)|((refine idPick ?_); first|refine yB ?_|refine yC ?_)|refine yM ?_)
      | ((with_reducible refine oG fun X Y=>?_); simp [go_sem,p13,p2,p6,hi1,q1Z,q2Z,q3Z]; apply Y; clear Y X)))
      exact k2
   ·have q2Z:¬ (x.bl.ys.length:Int) ≤ 8:=by omega
    have k2:=k2 _ (by rw [decide_eq_true q1,decide_eq_false q2])
    by_cases hi1:(i:Int) < x.links.length
    ·have hi2:¬ (i:Int) ≤ 5:=by omega
     repeat (any_goals (first
     | (with_reducible first|refine pureM_in ?_|((refine idGd ?_); first|refine zA ?_|refine zB ?_)|((refine idPick ?_); first|refine yB ?_|refine yC ?_)|refine yM ?_)
     | ((with_reducible refine oG fun X Y=>?_); simp [go_sem,p13,p2,p6,hi1,hi2,q1Z,q2Z]; apply Y; clear Y X)))
     exact k2
    ·repeat (any_goals (first
     | (with_reducible first|((refine idGd ?_); first|refine zA ?_|refine zB ?_)|((refine idPick ?_); first|refine yB ?_|refine yC ?_)|refine yM ?_)
     | ((with_reducible refine oG fun X Y=>?_); simp [go_sem,p13,p2,p6,hi1,q1Z,q2Z]; apply Y; clear Y X)))
     exact k2
  ·have q1Z:¬ (x.attrs.length:Int) ≤ 8:=by omega
   have k2:=k2 _ (by rw [decide_eq_false q1])
   by_cases hi1:(i:Int) < x.links.length
   ·have hi2:¬ (i:Int) ≤ 5:=by omega
    repeat (any_goals (first
    | (with_reducible first|refine pureM_in ?_|((refine idGd ?_); first|refine zA ?_|refine zB ?_)|((refine idPick ?_); first|refine yB ?_|refine yC ?_)|refine yM ?_)
    | ((with_reducible refine oG fun X Y=>?_); simp [go_sem,p13,p2,p6,hi1,hi2,q1Z]; apply Y; clear Y X)))
    exact k2
   ·repeat (any_goals (first
    | (with_reducible first|refine zB ?_|refine yC ?_|refine yM ?_)
    | ((with_reducible refine oG fun X Y=>?_); simp [go_sem,p13,p2,p6,hi1,q1Z]; apply Y; clear Y X)))
    exact k2
theorem few_len {h:Hld} (w:WHld h) (hf:fewHM h = true):(heldE h).length ≤ 10000:=by
 unfold fewHM at hf
 simp only [bA,dE] at hf
 obtain ⟨f1,⟨f2,f3⟩,f4⟩:=hf
 rw [List.take_of_length_le (by omega),List.all_eq_true] at f1
 have h1:=encNums_len (l:=[h.limit,h.window]) (by simp [w.limit,w.window]) (by simp)
 have h2:=encNums_len w.attrs (by omega)
 have h3:=encNums_len (l:=[h.bl.s,h.bl.u,h.bl.v]) (by simp [w.s,w.u,w.v]) (by simp)
 have h4:=encNums_len w.ys (by omega)
 have h5:=encNums_len w.t.all (by simp [tktL])
 have h6:=PuSpec.encNum_len (n:=(h.links.length:Int)) ⟨by omega,by omega⟩
 have h7:=flat_len lnkE 1000 h.links fun x hx=>by
  have q:=f1 x hx
  simp only [fewLk,bA,dE] at q
  have wx:=w.links x hx
  have g1:=encNums_len wx.t.all (by simp [tktL])
  have g2:=PuSpec.encInt_len wx.dare
  have g3:=encNums_len wx.ans (by omega)
  have g4:=itoa_len (x.terms.length:Int) ⟨by omega,by omega⟩
  have e:(tktL x.ticket).length = 6:=rfl
  rw [e] at g1
  simp only [lnkE,List.length_append,encText,List.length_cons,List.length_nil] at *
  omega
 have e:(tktL h.t).length = 6:=rfl
 rw [e] at h5
 simp only [heldE,List.length_append,List.length_cons,List.length_nil] at *
 have h8:h.links.length * 1000 ≤ 5 * 1000:=Nat.mul_le_mul_right _ f4
 omega
theorem terms_len (n:Int) (q:Bytes):(termsM n q).length ≤ 100:=by
 by_cases h:timeB n = true ∧ q.length ≤ 20
 ·rw [termsM_ne h.1 h.2]
  have ht:=(timeB_iff n).1 h.1
  have h1:=PuSpec.encNum_len (n:=n) ⟨by omega,by omega⟩
  have h2:=itoa_len (q.length:Int) ⟨by omega,by omega⟩
  simp only [List.length_append,encText,List.length_cons,List.length_nil] at *
  omega
 ·rw [termsM_nil.2 h]; simp
set_option maxHeartbeats 4000000 in
theorem pback_ok (x:Hld) (s:Bytes) (n:Int) (q:Bytes) {av yv kv:Value} (hx:HldR w x av yv kv) (hs:s.length < 2 ^ 50) (hq:q.length < 2 ^ 50) (hn:I64 n) (hl:Cd.LaidE w) (hdb:DbT w) (k:∀ w',Bw w w' → K (.bool true) w') :
  callM Tryz.prog 3 #[hldV x av yv kv,.string ⟨s.toArray⟩,.int .i64 n,.string ⟨q.toArray⟩] K w:=by
 apply sh_3_ok
 unfold sh_3
 have hlk:=hx.links
 obtain ⟨a1,n1,d1,a2,n2,d2,a3,n3,d3,rfl,rfl,rfl⟩:=hldR_slices hx
 obtain ⟨a4,d4,hv3⟩:=hlk.isSlice
 cases hv3
 refine arr_box (cs:=hldC x (.slice a1 n1 d1) (.slice a2 n2 d2) (.slice a3 x.links.length d3)) rfl (fun b1 w1 h1 hb1 hB1=>?_)
 refine sane_ok (hl.below h1 hl.size) (DbT.next hdb h1) (fun w2 h2=>?_)
 have h02:=h1.on h2
 have hB2:=hB1.next h2
 refine arr_load hB2 un_hld (by kernel_rfl) (by kernel_rfl) ?_
 refine FewHeld_ok x (hx.next h02) (fun w3 h3=>?_)
 have h03:=h02.on h3
 have hB3:=hB2.next h3
 have c13:=hB3.cell 13 (by simp)
 simp only [List.getElem_cons_zero,List.getElem_cons_succ] at c13
 have k3:=k _ h03
 cases hf:fewHM x with
 | false=>
  repeat (any_goals (first
  | (with_reducible first|refine zD ?_|refine yB ?_|refine yL ?_)
  | ((with_reducible refine oG fun X Y=>?_); simp [go_sem]; apply Y; clear Y X)))
  exact k3
 | true=>
 have hfe:=hf
 unfold fewHM at hfe
 simp only [bA,dE] at hfe
 by_cases hk4:4 < x.links.length
 ·have hk4Z:(4:Int) < x.links.length:=by omega
  repeat (any_goals (first
  | (with_reducible first|((refine idGd ?_); first|refine zC ?_|refine zD ?_)|((refine idPick ?_); first|refine yB ?_|refine yC ?_)|refine yL ?_)
  | ((with_reducible refine oG fun X Y=>?_); simp [go_sem,c13,hk4Z]; apply Y; clear Y X)))
  exact k3
 have hk4Z:¬ (4:Int) < x.links.length:=by omega
 by_cases hs6:600 < s.length
 ·have hs6Z:(600:Int) < s.length:=by omega
  repeat (any_goals (first
  | (with_reducible first|refine pureM_in ?_|((refine idGd ?_); first|refine zC ?_|refine zD ?_)|((refine idPick ?_); first|refine yB ?_|refine yC ?_)|refine yL ?_)
  | ((with_reducible refine oG fun X Y=>?_); simp [go_sem,c13,hk4Z,hs6Z]; apply Y; clear Y X)))
  exact k3
 have hs6Z:¬ (600:Int) < s.length:=by omega
 by_cases hq3:30 < q.length
 ·have hq3Z:(30:Int) < q.length:=by omega
  repeat (any_goals (first
  | (with_reducible first|refine pureM_in ?_|refine zC ?_|refine yC ?_|refine yL ?_)
  | ((with_reducible refine oG fun X Y=>?_); simp [go_sem,c13,hk4Z,hs6Z,hq3Z]; apply Y; clear Y X)))
  exact k3
 have hq3Z:¬ (30:Int) < q.length:=by omega
 clear k3
 repeat (any_goals (first
 | (with_reducible first|refine pureM_in ?_|refine zC ?_|refine yC ?_|refine yM ?_)
 | ((with_reducible refine oG fun X Y=>?_); simp [go_sem,c13,hk4Z,hs6Z,hq3Z]; apply Y; clear Y X)))
 refine arr_load hB3 un_hld (by kernel_rfl) (by kernel_rfl) ?_
 have hl3:=hl.below h03 hl.size
 have hx3:=hx.next h03
 refine EncodeH_ok x hx3 (by have:=few_len hx.wf hf; omega) hl3 (fun w4 h4=>?_)
 have hl4:=hl3.below h4 hl3.size
 refine Decode_ok (heldE x) (by have:=few_len hx.wf hf; omega) hl4 (fun w5 av5 yv5 kv5 h5 hF5=>?_)
 rw [decode_enc x hx.wf (by omega)] at hF5 ⊢
 simp only at hF5 ⊢
 obtain ⟨g1,m1,e1,g2,m2,e2,g3,m3,e3,rfl,rfl,rfl⟩:=hldR_slices hF5.here
 have h35:=h4.on h5
 iterate 2 (any_goals ((with_reducible refine oG fun X Y=>?_); simp [go_sem]; apply Y; clear Y X))
 refine arr_alloc al_hld (fun b6 w6 h6 hb6 hH6=>?_)
 refine arr_store (xs:=hldC x (.slice g1 m1 e1) (.slice g2 m2 e2) (.slice g3 m3 e3)) sz_hld rfl rfl (hld_one _ _ _ _ _ _ _ _ _ _ _ _ _ _ _ _ _ _ _ _) hH6 rfl (fun w7 hg7 hH7=>?_)
 have h57:Bw w5 w7:=grown_below h6 hg7 hb6
 have h07:=h03.on (h35.on h57)
 have hl7:=hl.below h07 hl.size
 refine Decode_ok s (by omega) hl7 (fun w8 av8 yv8 kv8 h8 hF8=>?_)
 obtain ⟨g4,m4,e4,g5,m5,e5,g6,m6,e6,rfl,rfl,rfl⟩:=hldR_slices hF8.here
 iterate 2 (any_goals ((with_reducible refine oG fun X Y=>?_); simp [go_sem]; apply Y; clear Y X))
 refine arr_alloc al_hld (fun b9 w9 h9 hb9 hH9=>?_)
 refine arr_store (xs:=hldC (decodeH s).1 (.slice g4 m4 e4) (.slice g5 m5 e5) (.slice g6 m6 e6)) sz_hld rfl rfl (hld_one _ _ _ _ _ _ _ _ _ _ _ _ _ _ _ _ _ _ _ _) hH9 rfl (fun w10 hg10 hH10=>?_)
 have h810:Bw w8 w10:=grown_below h9 hg10 hb9
 have h710:=h8.on h810
 have hB10:=(hB3.next (h35.on h57)).next h710
 repeat (any_goals (first
 | (with_reducible refine zC ?_)
 | ((with_reducible refine oG fun X Y=>?_); simp [go_sem]; apply Y; clear Y X)))
 refine arr_load (hH7.next h710) un_hld (by kernel_rfl) (by kernel_rfl) ?_
 repeat (any_goals (with_reducible refine zC ?_))
 refine arr_load hB10 un_hld (by kernel_rfl) (by kernel_rfl) ?_
 repeat (any_goals (with_reducible refine zC ?_))
 refine SameHeld_ok x x ((hF5.here).next (h57.on h710)) (hx3.next ((h35.on h57).on h710)) (fun w11 h11=>?_)
 rw [decide_eq_true rfl]
 have hx8:=(hF8.here).next (h810.on h11)
 have h011:=(h07.on h710).on h11
 have hl11:=hl.below h011 hl.size
 have dec:(decodeH s).2 = true → s = heldE (decodeH s).1:=fun e=>(decode_some s e).1
 cases hd:(decodeH s).2 with
 | false=>
  repeat (any_goals (first
  | (with_reducible first|refine pureM_in ?_|((refine idGd ?_); first|refine zB ?_|refine zC ?_)|refine yC ?_|refine yM ?_)
  | ((with_reducible refine oG fun X Y=>?_); simp [go_sem]; apply Y; clear Y X)))
  have hlt:=hl.below h011 hl.size
  refine Terms_ok n q (by omega) hlt (fun w12 h12=>?_)
  have h012:=(h011).on h12
  have hl12:=hl.below h012 hl.size
  refine ReadTerms_ok (termsM n q) (by have:=terms_len n q; omega) hl12 (fun w13 h13=>?_)
  have h013:=h012.on h13
  obtain ⟨r1,r2⟩:=readTerms_ok n q
  have last:∀ {K:VK},(∀ w' a b c,Bw w w' → (c = true → termsM a b = s ∧ b.length < 2 ^ 40) → K (.tuple #[.int .i64 a,.string ⟨b.toArray⟩,.bool c]) w') → callM Tryz.prog 18 #[.string ⟨s.toArray⟩] K w13:=fun h=>by
   refine ReadTerms_ok s (by omega) (hl.below h013 hl.size) (fun w14 h14=>?_)
   refine h _ _ _ _ (h013.on h14) (fun hc=>?_)
   have:=readTerms_some hc
   exact ⟨this.2.2.symm,by omega⟩
  by_cases ht:termsM n q = []
  ·have r1:(readTermsM (termsM n q)).2 = false:=by rw [r1,ht]; rfl
   rw [r1]
   have ht2:(⟨(termsM n q).toArray⟩:ByteArray) = ⟨#[]⟩:=by rw [ht]
   repeat (any_goals (first
   | (with_reducible first|refine pureM_in ?_|((refine idGd ?_); first|refine zB ?_|refine zC ?_|refine zE ?_)|refine yC ?_|refine yM ?_)
   | ((with_reducible refine oG fun X Y=>?_); simp [go_sem,ht2]; apply Y; clear Y X)))
   refine last (fun w14 a b c h14 hc=>?_)
   have k14:=k _ h14
   cases c with
   | false=>
    repeat (any_goals (first
    | (with_reducible first|refine pureM_in ?_|((refine idGd ?_); first|refine zA ?_|refine zD ?_)|refine yB ?_)
    | ((with_reducible refine oG fun X Y=>?_); simp [go_sem]; apply Y; clear Y X)))
    exact k14
   | true=>
    obtain ⟨hc1,hc2⟩:=hc rfl
    repeat (any_goals (first
    | (with_reducible first|refine pureM_in ?_|((refine idGd ?_); first|refine zA ?_|refine zC ?_))
    | ((with_reducible refine oG fun X Y=>?_); simp [go_sem]; apply Y; clear Y X)))
    refine Terms_ok a b (by omega) (hl.below h14 hl.size) (fun w15 h15=>?_)
    have k15:=k _ (h14.on h15)
    rw [hc1]
    repeat (any_goals (first
    | (with_reducible first|refine pureM_in ?_|((refine idGd ?_); first|refine zA ?_|refine zC ?_)|((refine idPick ?_); first|refine yB ?_|refine yC ?_))
    | ((with_reducible refine oG fun X Y=>?_); simp [go_sem]; apply Y; clear Y X)))
    exact k15
  ·have r1:(readTermsM (termsM n q)).2 = true:=by rw [r1,decide_eq_true ht]
   have r2:=r2 r1
   rw [r1,r2]
   have ht2:¬ (⟨(termsM n q).toArray⟩:ByteArray) = ⟨#[]⟩:=fun e=>ht (str_eq (y:=[]).1 e)
   repeat (any_goals (first
   | (with_reducible first|refine pureM_in ?_|((refine idGd ?_); first|refine zA ?_|refine zC ?_)|((refine idPick ?_); first|refine yB ?_|refine yC ?_)|refine yM ?_)
   | ((with_reducible refine oG fun X Y=>?_); simp [go_sem,ht2]; apply Y; clear Y X)))
   refine last (fun w14 a b c h14 hc=>?_)
   have k14:=k _ h14
   cases c with
   | false=>
    repeat (any_goals (first
    | (with_reducible first|refine pureM_in ?_|((refine idGd ?_); first|refine zA ?_|refine zD ?_)|refine yB ?_)
    | ((with_reducible refine oG fun X Y=>?_); simp [go_sem]; apply Y; clear Y X)))
    exact k14
   | true=>
    obtain ⟨hc1,hc2⟩:=hc rfl
    repeat (any_goals (first
    | (with_reducible first|refine pureM_in ?_|((refine idGd ?_); first|refine zA ?_|refine zC ?_))
    | ((with_reducible refine oG fun X Y=>?_); simp [go_sem]; apply Y; clear Y X)))
    refine Terms_ok a b (by omega) (hl.below h14 hl.size) (fun w15 h15=>?_)
    have k15:=k _ (h14.on h15)
    rw [hc1]
    repeat (any_goals (first
    | (with_reducible first|refine pureM_in ?_|((refine idGd ?_); first|refine zA ?_|refine zC ?_)|((refine idPick ?_); first|refine yB ?_|refine yC ?_))
    | ((with_reducible refine oG fun X Y=>?_); simp [go_sem]; apply Y; clear Y X)))
    exact k15
 | true=>
  repeat (any_goals (first
  | (with_reducible first|refine pureM_in ?_|((refine idGd ?_); first|refine zA ?_|refine zC ?_)|refine yC ?_)
  | ((with_reducible refine oG fun X Y=>?_); simp [go_sem]; apply Y; clear Y X)))
  refine arr_load (hH10.next h11) un_hld (by kernel_rfl) (by kernel_rfl) ?_
  have hdec:=dec hd
  have hwf:=hx8.wf
  repeat (any_goals (with_reducible refine zA ?_))
  refine EncodeH_ok (decodeH s).1 hx8 (by rw [← hdec]; omega) hl11 (fun w11b h11b=>?_)
  have h011b:=h011.on h11b
  rw [← hdec]
  repeat (any_goals (first
  | (with_reducible first|refine pureM_in ?_|((refine idGd ?_); first|refine zA ?_|refine zC ?_)|((refine idPick ?_); first|refine yB ?_|refine yC ?_)|refine yM ?_)
  | ((with_reducible refine oG fun X Y=>?_); simp [go_sem]; apply Y; clear Y X)))
  have hlt:=hl.below h011b hl.size
  refine Terms_ok n q (by omega) hlt (fun w12 h12=>?_)
  have h012:=(h011b).on h12
  have hl12:=hl.below h012 hl.size
  refine ReadTerms_ok (termsM n q) (by have:=terms_len n q; omega) hl12 (fun w13 h13=>?_)
  have h013:=h012.on h13
  obtain ⟨r1,r2⟩:=readTerms_ok n q
  have last:∀ {K:VK},(∀ w' a b c,Bw w w' → (c = true → termsM a b = s ∧ b.length < 2 ^ 40) → K (.tuple #[.int .i64 a,.string ⟨b.toArray⟩,.bool c]) w') → callM Tryz.prog 18 #[.string ⟨s.toArray⟩] K w13:=fun h=>by
   refine ReadTerms_ok s (by omega) (hl.below h013 hl.size) (fun w14 h14=>?_)
   refine h _ _ _ _ (h013.on h14) (fun hc=>?_)
   have:=readTerms_some hc
   exact ⟨this.2.2.symm,by omega⟩
  by_cases ht:termsM n q = []
  ·have r1:(readTermsM (termsM n q)).2 = false:=by rw [r1,ht]; rfl
   rw [r1]
   have ht2:(⟨(termsM n q).toArray⟩:ByteArray) = ⟨#[]⟩:=by rw [ht]
   repeat (any_goals (first
   | (with_reducible first|refine pureM_in ?_|((refine idGd ?_); first|refine zB ?_|refine zC ?_|refine zE ?_)|refine yC ?_|refine yM ?_)
   | ((with_reducible refine oG fun X Y=>?_); simp [go_sem,ht2]; apply Y; clear Y X)))
   refine last (fun w14 a b c h14 hc=>?_)
   have k14:=k _ h14
   cases c with
   | false=>
    repeat (any_goals (first
    | (with_reducible first|refine pureM_in ?_|((refine idGd ?_); first|refine zA ?_|refine zD ?_)|refine yB ?_)
    | ((with_reducible refine oG fun X Y=>?_); simp [go_sem]; apply Y; clear Y X)))
    exact k14
   | true=>
    obtain ⟨hc1,hc2⟩:=hc rfl
    repeat (any_goals (first
    | (with_reducible first|refine pureM_in ?_|((refine idGd ?_); first|refine zA ?_|refine zC ?_))
    | ((with_reducible refine oG fun X Y=>?_); simp [go_sem]; apply Y; clear Y X)))
    refine Terms_ok a b (by omega) (hl.below h14 hl.size) (fun w15 h15=>?_)
    have k15:=k _ (h14.on h15)
    rw [hc1]
    repeat (any_goals (first
    | (with_reducible first|refine pureM_in ?_|((refine idGd ?_); first|refine zA ?_|refine zC ?_)|((refine idPick ?_); first|refine yB ?_|refine yC ?_))
    | ((with_reducible refine oG fun X Y=>?_); simp [go_sem]; apply Y; clear Y X)))
    exact k15
  ·have r1:(readTermsM (termsM n q)).2 = true:=by rw [r1,decide_eq_true ht]
   have r2:=r2 r1
   rw [r1,r2]
   have ht2:¬ (⟨(termsM n q).toArray⟩:ByteArray) = ⟨#[]⟩:=fun e=>ht (str_eq (y:=[]).1 e)
   repeat (any_goals (first
   | (with_reducible first|refine pureM_in ?_|((refine idGd ?_); first|refine zA ?_|refine zC ?_)|((refine idPick ?_); first|refine yB ?_|refine yC ?_)|refine yM ?_)
   | ((with_reducible refine oG fun X Y=>?_); simp [go_sem,ht2]; apply Y; clear Y X)))
   refine last (fun w14 a b c h14 hc=>?_)
   have k14:=k _ h14
   cases c with
   | false=>
    repeat (any_goals (first
    | (with_reducible first|refine pureM_in ?_|((refine idGd ?_); first|refine zA ?_|refine zD ?_)|refine yB ?_)
    | ((with_reducible refine oG fun X Y=>?_); simp [go_sem]; apply Y; clear Y X)))
    exact k14
   | true=>
    obtain ⟨hc1,hc2⟩:=hc rfl
    repeat (any_goals (first
    | (with_reducible first|refine pureM_in ?_|((refine idGd ?_); first|refine zA ?_|refine zC ?_))
    | ((with_reducible refine oG fun X Y=>?_); simp [go_sem]; apply Y; clear Y X)))
    refine Terms_ok a b (by omega) (hl.below h14 hl.size) (fun w15 h15=>?_)
    have k15:=k _ (h14.on h15)
    rw [hc1]
    repeat (any_goals (first
    | (with_reducible first|refine pureM_in ?_|((refine idGd ?_); first|refine zA ?_|refine zC ?_)|((refine idPick ?_); first|refine yB ?_|refine yC ?_))
    | ((with_reducible refine oG fun X Y=>?_); simp [go_sem]; apply Y; clear Y X)))
    exact k15
end
end Go.Proofs
