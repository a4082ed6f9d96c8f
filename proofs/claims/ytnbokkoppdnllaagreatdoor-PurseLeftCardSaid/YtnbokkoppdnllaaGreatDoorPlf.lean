/- Parts of the proof of the seat's statements (LawKit, OpenKit, OpenKit2, PK, HPw, UrA, UrB, UrC, PuLaw11, PuLaw12, PuLaw13, PuOpen, UrD, UrE, PK2): lemmas about the given translation and plain laws. No condition of their own. -/
import Derived.Test.YtnbokkoppdnllaaGreatDoorPle
import Derived.ProofKit
import Derived.LaidMore
import Derived.OpenShut
import Derived.Carry
import Derived.SizedLaws
import Derived.Stop.Joined
import Derived.Deep.Slices
import Derived.Deep.Fields
import Derived.LaidSub
import Derived.Test.YtnbokkoppdnllaaGreatDoorRows
import Derived.Test.YtnbokkoppdnllaaGreatDoorCards
import Derived.Test.YtnbokkoppdnllaaGreatDoorTie
import Derived.SevenTiedAt
import Derived.Test.YtnbokkoppdnllaaGreatDoorProg
set_option linter.all false
set_option maxRecDepth 100000
namespace Go.Sh
open Go Go.ChangeShapes Go.WideShapes Go.ChangeAt Go.RowKit
section
variable {H:Type} {enc:TypeId × Value → H} {P:Program}
theorem trodAll_below (hl:laidOutB P = true) {W W':World} (hb:Below W.heap.size W W') :
  ∀ (ts:List TypeId) (vs:List Value) (ds:List (DataW H)) (ps:List MemPlace),(ts.all fun t=>P.readableRec t && decide (t < P.types.size)) = true →
  DataW.TrodAll enc P W 0 (fun _=>true) true ts vs ds ps → (∀ x ∈ ps,x.block < W.heap.size) → DataW.TrodAll enc P W' 0 (fun b=>decide (b < W.heap.size)) true ts vs ds ps
 | [],[],[],_,_,h,_=>h
 | t :: ts,v :: vs,d :: ds,ps,ht,h,hlt=>by
  obtain ⟨p,q,h1,h2,rfl⟩:=h
  simp only [List.all_cons,bA,dE] at ht
  exact ⟨p,q,Below.trod hl ht.1.1 ht.1.2 h1 hb (fun x hx=>hlt x (by simp [hx])),trodAll_below hl hb ts vs ds q ht.2 h2 (fun x hx=>hlt x (by simp [hx])),rfl⟩
 | [],_ :: _,_,_,_,h,_=>h.elim
 | [],[],_ :: _,_,_,h,_=>h.elim
 | _ :: _,[],_,_,_,h,_=>h.elim
 | _ :: _,_ :: _,[],_,_,h,_=>h.elim
theorem trodAll_length {W:World} {b:Nat} {sp:Nat → Bool} {hd:Bool}:∀ (ts:List TypeId) (vs:List Value) (ds:List (DataW H)) (ps:List MemPlace),DataW.TrodAll enc P W b sp hd ts vs ds ps → ds.length = ts.length ∧ vs.length = ts.length
 | [],[],[],_,_=>⟨rfl,rfl⟩
 | t :: ts,v :: vs,d :: ds,ps,h=>by
  obtain ⟨p,q,h1,h2,rfl⟩:=h
  have:=trodAll_length ts vs ds q h2
  simp [this]
 | [],_ :: _,_,_,h=>h.elim
 | [],[],_ :: _,_,h=>h.elim
 | _ :: _,[],_,_,h=>h.elim
 | _ :: _,_ :: _,[],_,h=>h.elim
theorem trodL_cons {W:World} {b:Nat} {sp:Nat → Bool} {hd:Bool} {t:TypeId} {ts:List TypeId} {vs:List Value} {ds:List (DataW H)} {ps:List MemPlace} (h:DataW.TrodAll enc P W b sp hd (t :: ts) vs ds ps) :
  ∃ v d vs' ds' p q,vs = v :: vs' ∧ ds = d :: ds' ∧ DataW.Trod enc P W b sp hd t v d p ∧ DataW.TrodAll enc P W b sp hd ts vs' ds' q ∧ ps = p ++ q:=by
 match vs,ds,h with
 | v :: vs,d :: ds,h=>
  obtain ⟨p,q,h1,h2,rfl⟩:=h
  exact ⟨v,d,vs,ds,p,q,rfl,rfl,h1,h2,rfl⟩
 | [],_,h=>exact h.elim
 | _ :: _,[],h=>exact h.elim
theorem trodL0 {W:World} {b:Nat} {sp:Nat → Bool} {hd:Bool} {vs:List Value} {ds:List (DataW H)} {ps:List MemPlace} (h:DataW.TrodAll enc P W b sp hd [] vs ds ps):vs = [] ∧ ds = [] ∧ ps = []:=by
 match vs,ds,h with
 | [],[],h=>exact ⟨rfl,rfl,h⟩
theorem law_post {fn:Func} {s:ChangeSpec} {tb:TypeId} {apart:Bool} {W W':World} {args:Array Value} {ds gs:List (DataW H)} {before:List MemPlace} (hl:laidOutB P = true)
  (hrt:fn.resultTypes = #[tb]) (hub:P.underlying tb = some .bool) (hpar:(fn.params.toList.all fun t=>P.readableRec t && decide (t < P.types.size)) = true) (hvars:s.vars = [])
  (hspec:∀ ds:List (DataW H),ds.length = fn.params.toList.length → s.fn H ds = { results:=[.lit (.bool true)],args:=ds })
  (hW:DataW.Whole enc P fn.params.toList s.vars apart W args.toList ds gs before) (hb:Below W.heap.size W W'):s.post enc P fn apart true false false W args (.bool true) W':=by
 have hW0:=hW
 have hlt:=hW.lt
 obtain ⟨p,q,hA,hV,rfl,_,_⟩:=hW
 rw [hvars] at hV
 obtain ⟨rfl,rfl⟩:=trodVars_none hV
 have hlen:=(trodAll_length _ _ _ _ hA).1
 have hs:=hspec ds hlen
 rw [List.append_nil] at hlt hW0
 refine ⟨ds,[],p,[],p,[],hW0,?_,?_,?_,hb.frame _,fun h=>by cases h⟩
 ·rw [List.append_nil,hs,hrt]
  exact trodAll_mk1 (shut_bool hub true)
 ·rw [List.append_nil,hs]
  exact trodAll_below hl hb _ _ _ _ hpar hA hlt
 ·rw [hvars,List.append_nil,hs]
  rfl
theorem law_lifted_laid {C:Checked} {os:Os} {f:FuncId} {fn:Func} {s:ChangeSpec} {tb:TypeId} {L:List (String × DataW Unit)} (own:ownKnob C.prog.godebug = none) (started:os.Started) (noInit:C.prog.inits.idxOf? f = none) (hfn:C.prog.funcs[f]? = some fn)
  (hl:laidOutB C.prog = true) (hrt:fn.resultTypes = #[tb]) (hub:C.prog.underlying tb = some .bool) (hpar:(fn.params.toList.all fun t=>C.prog.readableRec t && decide (t < C.prog.types.size)) = true) (hvars:s.vars = [])
  (hspec:∀ ds:List (DataW H),ds.length = fn.params.toList.length → s.fn H ds = { results:=[.lit (.bool true)],args:=ds })
  (witness:∃ (w:World) (tape:Tape) (i:Input),w.os = os ∧ (w.forCall tape i).Shaped C.prog ∧ i.vars = [] ∧ Input.okWide C.prog (w.forCall tape i) .any w.heap.size f i ∧
   ((s.pre enc C.prog fn [] false (w.forCall tape i).memory i.args ∧ laidMetH C.prog L (w.forCall tape i).memory) ∧ sizedMet enc C.prog fn (OpenSpec.ofChange s) false (w.forCall tape i).memory i.args) ∧ ({}:Assume).holds C.prog (lone (Frame.enter C.prog f i.args .normal) [] (w.forCall tape i)))
  (contract:∀ (W:World) (base:Nat) (args:List Value) (ds:List (DataW H)) (p:List MemPlace),(∀ (j:Nat) t v,fn.params.toList[j]? = some t → args[j]? = some v → Value.okWide C.prog W .any base t v) →
   DataW.TrodAll enc C.prog W 0 (fun _=>true) true fn.params.toList args ds p → (DataW.weightsEach C.prog fn.params.toList ds).all (· ≤ reachBytes) = true → (∀ x ∈ p,x.block < W.heap.size) →
   laidMetH C.prog L W →
   callM C.prog f args.toArray (fun v W'=>v = .bool true ∧ Below W.heap.size W W') W) :
  ReturnsInHanded {} C os f .any (fun w args=>(s.pre enc C.prog fn [] false w args ∧ laidMetH C.prog L w) ∧ sizedMet enc C.prog fn (OpenSpec.ofChange s) false w args)
   (s.post enc C.prog fn false true false false):=by
 refine returnsInHanded_of_change_and (X:=fun w _=>laidMetH C.prog L w) (fun _ _ _ hh h=>h.of_heap hh) own started noInit hfn witness ?_
 intro W base args ds gs before hval hW _ hsz hX _
 have hW0:=hW
 have hlt:=hW.lt
 obtain ⟨p,q,hA,hV,rfl,_,_⟩:=hW
 rw [hvars] at hV
 obtain ⟨rfl,rfl⟩:=trodVars_none hV
 have hsz':(DataW.weightsEach C.prog fn.params.toList ds).all (· ≤ reachBytes) = true:=by
  simpa [hvars,ChangeSpec.plain,DataSpec.varTypes] using hsz
 have hc:=contract W base args.toList ds p (fun j t v h1 h2=>hval j t v (by simpa using h1) (by simpa using h2)) hA hsz' (fun x hx=>hlt x (by simp [hx])) hX
 refine hc.mono fun e W' h=>?_
 obtain ⟨v,rfl,rfl,hb⟩:=h
 exact ⟨_,rfl,law_post hl hrt hub hpar hvars hspec hW0 hb⟩
end
end Go.Sh
namespace Go.Sh
open Go Go.ChangeShapes Go.WideShapes Go.ChangeAt Go.RowKit Go.Deep
section
variable {H:Type} {enc:TypeId × Value → H} {P:Program} {w:World} {sp:Nat → Bool} {hd:Bool}
theorem addr_add' (b o k:Nat):(⟨b,o,none⟩:Addr).add k = ⟨b,o + k,none⟩:=by
 unfold Addr.add
 split
 ·rename_i h; rw [h]; rfl
 ·rfl
theorem cell_lt {a:Addr} {v:Value} (h:w.cell? a = some v):a.block < w.heap.size ∧ a.spot = none:=by
 unfold World.cell? at h
 split at h
 ·rename_i c t f hh
  refine ⟨(Array.getElem?_eq_some_iff.1 hh).1,?_⟩
  split at h
  ·cases h
  ·rename_i hs
   cases hsp:a.spot with
   | none=>rfl
   | some x=>rw [hsp] at hs; exact absurd rfl hs
 ·cases h
theorem open_fields {e:TypeId} {fs:Array Field} {n:Nat} {cs:List Value} {D:DataW H × List MemPlace} (he:P.underlying e = some (.struct fs)) (hone:oneCellFields P fs = true) (hC:P.cellsOf e = fs.size)
  (h:DataW.trod enc P w 0 sp hd n e cs = some D) :
  cs.length = fs.size ∧ ∀ (j:Nat) (f:Field),fs[j]? = some f → ∃ (v:Value) (y:DataW H × List MemPlace) (m:Nat),cs[j]? = some v ∧ DataW.trod enc P w 0 sp hd m f.type [v] = some y:=by
 obtain ⟨xs,m,_,_,hcl,hxl,hf⟩:=DataW.trod_struct he h
 rw [hC] at hcl
 refine ⟨hcl,fun j f hj=>?_⟩
 obtain ⟨ho,hk⟩:=hone_of hone j f hj
 have hjl:j < fs.size:=(Array.getElem?_eq_some_iff.1 hj).1
 have h1:=hf j f hj
 rw [ho,hk,List.drop_eq_getElem_cons (by omega),gE (by omega:j < xs.length)] at h1
 exact ⟨_,_,m,gE (by omega),h1⟩
end
end Go.Sh
namespace Go.Sh
open Go Go.ChangeShapes Go.WideShapes Go.ChangeAt Go.RowKit Go.Deep
section
variable {H:Type} {enc:TypeId × Value → H} {P:Program} {w:World} {sp:Nat → Bool} {hd:Bool}
theorem rowOpen {α:Type} (mk:α → Value) (Q:α → Prop) {t e:TypeId} {v:Value} {n:Nat} {D:DataW H × List MemPlace} (ht:P.underlying t = some (.slice e)) (hC:P.cellsOf e = 1)
  (hrd:∀ (V:Value) (n:Nat) (D:DataW H × List MemPlace),DataW.trod enc P w 0 sp hd n e [V] = some D → ∃ x,V = mk x ∧ Q x) (h:DataW.trod enc P w 0 sp hd n t [v] = some D) :
  ∃ l:List α,(∃ ad c,v = .slice ad l.length c ∧ (l = [] ∨ ∃ b o,ad = some ⟨b,o,none⟩ ∧ b < w.heap.size ∧ ∀ (i:Nat) (h:i < l.length),w.cell? ⟨b,o + i,none⟩ = some (mk l[i]))) ∧ l.length ≤ maxLen ∧ ∀ x ∈ l,Q x:=by
 rcases open_slice1 ht hC h with ⟨hcs,_⟩ | ⟨a',len,cap,m,n',V,D',Pl,hcs,_,hl,hm,hmm,_,hi⟩
 ·simp only [List.cons.injEq,and_true] at hcs
  subst hcs
  exact ⟨[],⟨none,0,rfl,.inl rfl⟩,by simp,by simp⟩
 ·simp only [List.cons.injEq,and_true] at hcs
  subst hcs
  have hml:len ≤ m:=by rw [hmm]; split <;> omega
  have key:∀ i:Fin len,∃ x,V i = mk x ∧ Q x:=fun i=>hrd _ _ _ (hi i (by have:=i.2; omega)).2
  refine ⟨List.ofFn (fun i=>(key i).choose),⟨some a',cap,by rw [List.length_ofFn],?_⟩,by rw [List.length_ofFn]; omega,?_⟩
  ·by_cases h0:len = 0
   ·left; subst h0; rfl
   ·right
    have h00:=(hi 0 (by omega)).1
    have e0:a'.add 0 = a':=by simp [Addr.add]
    rw [e0] at h00
    obtain ⟨hb,hs⟩:=cell_lt h00
    obtain ⟨b,o,s⟩:=a'
    simp only at hs hb
    subst hs
    refine ⟨b,o,rfl,hb,fun i hil=>?_⟩
    rw [List.length_ofFn] at hil
    have h1:=(hi i (by omega)).1
    rw [addr_add'] at h1
    rw [h1,List.getElem_ofFn]
    have:=(key ⟨i,hil⟩).choose_spec.1
    exact congrArg some this
  ·intro x hx
   rw [List.mem_ofFn] at hx
   obtain ⟨i,rfl⟩:=hx
   exact (key i).choose_spec.2
theorem trodIface {t:TypeId} {ms:Array (String × TypeId)} {cs:List Value} {n:Nat} {nm:String} {d:DataW H} {ps:List MemPlace} (ht:P.underlying t = some (.interface ms)) (h:DataW.trod enc P w 0 sp false n t cs = some (.iface nm d,ps)):∃ u v,cs = [.iface u v]:=by
 cases n with
 | zero=>simp [DataW.trod] at h
 | succ n=>
  unfold DataW.trod at h
  rw [ht] at h
  match cs,h with
  | [.iface u v],_=>exact ⟨u,v,rfl⟩
  | [.nilIface],h=>simp at h
  | [],h=>simp at h
  | [.int _ _],h=>simp at h
  | [.bool _],h=>simp at h
  | [.string _],h=>simp at h
  | [.pointer _],h=>simp at h
  | [.slice _ _ _],h=>simp at h
  | [.map _],h=>simp at h
  | [.float _ _],h=>simp at h
  | [.complex _ _ _],h=>simp at h
  | [.agg _],h=>simp at h
  | [.tuple _],h=>simp at h
  | [.func _ _ _],h=>simp at h
  | [.nilFunc],h=>simp at h
  | [.chan _],h=>simp at h
  | _ :: _ :: _,h=>simp at h
end
end Go.Sh
namespace Go.Proofs
open Go Go.Sh Go.RowKit Go.Lib CodeSpec TkSpec FdSpec Go.ChangeShapes Go.WideShapes Go.ChangeAt
abbrev laidList:List (String × DataW Unit):=YtnbokkoppdnllaaGreatDoor.Rows.purseBackRow.laid
abbrev lname (i:Nat):String:=(laidList.map (·.1)).getD i default
theorem var_of_laid {W:World} {nm:String} {d:DataW Unit} (hf:(laidList.filter fun x=>x.1 == nm) = [(nm,d)]) (h:laidMetH Tryz.prog laidList W):laidMet Tryz.prog [(nm,d)] W:=by
 rw [MakeChecks.laidMetH_plain _ _ _ (by kernel_rfl)] at h
 have:=h.filter (fun x=>x.1 == nm)
 rwa [hf] at this
theorem tab_laid {W:World} (h:laidMetH Tryz.prog laidList W):TabIs Tryz.prog W tabName .u64 pow10Tab:=
 tabIs_of_head (rest:=[]) (t:=311) (e:=249) (n:=20) Cd.gTab (by kernel_rfl) Tryz.underlying311 Tryz.underlying249 (by kernel_rfl) (by kernel_rfl)
  (var_of_laid (d:=tabData .u64 pow10Tab) (by kernel_rfl) h)
theorem gDb:Tryz.prog.globalNamed (lname 1) = some 4:=by kernel_rfl
theorem db_laid {W:World} (h:laidMetH Tryz.prog laidList W):TabIs Tryz.prog W (lname 1) .u8 (Lib.deBruijn64tab.map (fun n:Nat=>(n:Int))):=
 tabIs_of_head (rest:=[]) (t:=318) (e:=5) (n:=64) gDb (by kernel_rfl) Tryz.underlying318 Tryz.underlying5 (by kernel_rfl) (by kernel_rfl)
  (var_of_laid (d:=tabData .u8 (Lib.deBruijn64tab.map (fun n:Nat=>(n:Int)))) (by kernel_rfl) h)
theorem db_of {W:World} (h:laidMetH Tryz.prog laidList W):DbT W:=by
 have ht:=db_laid h
 have hl:(Lib.deBruijn64tab.map (fun n:Nat=>(n:Int))).length = 64:=by decide +kernel
 have hc:∀ j,j < 64 → W.cell? ⟨4,j,none⟩ = some (.int .u8 (Lib.deBruijn64tab.getD j 0:Nat)):=fun j hj=>by
  rw [ht.cell gDb j (by omega)]
  have:(Lib.deBruijn64tab.map (fun n:Nat=>(n:Int))).getD j 0 = ((Lib.deBruijn64tab.getD j 0:Nat):Int):=by
   rw [List.getD_eq_getElem?_getD,List.getD_eq_getElem?_getD,List.getElem?_map]
   cases Lib.deBruijn64tab[j]? <;> rfl
  rw [this]
 refine ⟨?_,hc⟩
 have h0:=hc 0 (by omega)
 by_cases hlt:4 < W.heap.size
 ·exact hlt
 ·unfold World.cell? at h0
  rw [Array.getElem?_eq_none (by show W.heap.size ≤ 4; omega)] at h0
  simp at h0
theorem err_laid {W:World} {nm:String} {x:DataW Unit} {g:Nat} (hg:Tryz.prog.globalNamed nm = some g) (hty:(Tryz.prog.globals[g]?).map (·.type) = some 239) (hf:(laidList.filter fun x=>x.1 == nm) = [(nm,x)]) (hx:∃ nt d,x = .iface nt d) (h:laidMetH Tryz.prog laidList W) :
  ∃ te pe,W.cell? ⟨g,0,none⟩ = some (.iface te pe):=by
 obtain ⟨nt,d,rfl⟩:=hx
 obtain ⟨ps,⟨g0,t0,cs0,f0,p0,q0,hg0,ht0,hv0,hd0,_,_⟩,_,_⟩:=var_of_laid hf h
 obtain rfl:=oI (hg.symm.trans hg0)
 obtain rfl:=oI (hty.symm.trans ht0)
 obtain ⟨u,y,hcs⟩:=trodIface Tryz.underlying239 hd0
 have:=World.var?_cell hg hv0 0
 refine ⟨u,y,?_⟩
 rw [this]
 have e:cs0[0]? = cs0.toList[0]?:=by simp
 rw [e,hcs]; rfl
theorem heap8 {W:World} (h:laidMetH Tryz.prog laidList W):8 ≤ W.heap.size:=by
 obtain ⟨ps,⟨g0,t0,cs0,f0,p0,q0,hg0,ht0,hv0,hd0,_,_⟩,_,_⟩:=var_of_laid (nm:=lname 0) (d:=YtnbokkoppdnllaaGreatDoor.Rows.laid_math_bits_deBruijn32tab) (by kernel_rfl) h
 have hg:Tryz.prog.globalNamed (lname 0) = some 7:=by kernel_rfl
 unfold World.var? at hv0
 rw [hg] at hv0
 simp only [Option.bind_some] at hv0
 split at hv0
 ·rename_i cs t f hh
  have:=(Array.getElem?_eq_some_iff.1 hh).1
  omega
 ·cases hv0
theorem laid_of {W:World} (h:laidMetH Tryz.prog laidList W):Cd.LaidE W:=
 ⟨⟨tab_laid h,heap8 h⟩,err_laid (nm:=lname 4) (x:=YtnbokkoppdnllaaGreatDoor.Rows.laid_strconv_ErrSyntax) (by kernel_rfl) (by kernel_rfl) (by kernel_rfl) ⟨_,_,rfl⟩ h,err_laid (nm:=lname 3) (x:=YtnbokkoppdnllaaGreatDoor.Rows.laid_strconv_ErrRange) (by kernel_rfl) (by kernel_rfl) (by kernel_rfl) ⟨_,_,rfl⟩ h⟩
theorem own:ownKnob Tryz.prog.godebug = none:=by kernel_rfl
theorem laidOut:laidOutB Tryz.prog = true:=by kernel_rfl
theorem door_met (os:Os) (args:Array Value):laidMetH Tryz.prog laidList ((World.doorLaid Tryz.prog 400 os).forCall (fun _ _=>0) ⟨#[],args,[]⟩).memory:=
 laidMetH_of_parts3 (fuel:=8) (laidMet_of_run' 8 (by kernel_rfl) (by kernel_rfl)) (by kernel_rfl) (by kernel_rfl)
theorem intR {n:Int} (h:(Lit.int .i64 n).wf = true):I64 n:=by
 simp only [Lit.wf,bA,dE] at h
 have h1:-9223372036854775808 ≤ n:=h.1
 have h2:n ≤ 9223372036854775807:=h.2
 exact ⟨h1,by omega⟩
section
variable {H:Type} {enc:TypeId × Value → H} {w:World} {sp:Nat → Bool} {hd:Bool}
end
end Go.Proofs
namespace Go.Proofs
open Go.Sh Tryz
variable {a0 a1 a2 a3 a4 a5:Value} {K:VK} {w:World}
def sh_85 (a0 a1:Value) (K:VK) (w:World):Prop:=
 oM prog (.box 84 (.tmp 0)) 0 [a0] (fun v2=>
 oM prog (.box 84 (.tmp 0)) 0 [a1] fun v3=>
 kF 84 0 v2 fun v5=>
 kL 3 v5 fun v6=>
 kF 84 0 v3 fun v7=>
 kL 3 v7 fun v8=>
 kB .eql 3 4 v6 v8 fun v9 w=>
 gT v9 (kF 84 1 v2) (fun v11 w=>
 gT v9 (kL 22 v11) (fun v12 w=>
 gT v9 (kF 84 1 v3) (fun v13 w=>
 gT v9 (kL 22 v13) (fun v14 w=>
 gT v9 (callM prog 56 #[v12,v14]) (fun v15=>
 kP v9 v15 (.bool false) fun v16=>
 K v16) w) w) w) w) w) w
theorem sh_85_ok (h:sh_85 a0 a1 K w):callM prog 85 #[a0,a1] K w:=
 cZ (fun _=>0) func85 h
def sh_44 (a0 a1:Value) (K:VK) (w:World):Prop:=
 kN 27 a0 (fun v7=>
 kN 27 a1 fun v9=>
 kB .neq 3 4 v7 v9 fun v10=>
 kO v10 (K (.bool false))
 (kQ [(.bool false),(.int .i64 0)] fun J_4 m_5 l_6 u_l_6 w0_l_6=>(fun w=>(
 kN 27 a0 (fun v13=>
 kB .lss 3 4 (l_6.getD 1 undef) v13 fun v14=>
 kO v14 (kH fun C_9 w=>(((true:Bool) = true) ∧ (pureH a0 C_9 fun v17=>
 pureH (l_6.getD 1 undef) C_9 fun v18=>
 jI 27 v17 v18 C_9 fun v19=>
 jF 86 0 v19 C_9 fun v20=>
 jL 26 v20 C_9 fun v21=>
 pureH a1 C_9 fun v22=>
 pureH (l_6.getD 1 undef) C_9 fun v23=>
 jI 27 v22 v23 C_9 fun v24=>
 jF 86 0 v24 C_9 fun v25=>
 jL 26 v25 C_9 fun v26=>
 jB .neq 26 4 v21 v26 C_9 fun v27=>
 pureH v27 C_9 fun v28=>
 jG v28 (pureH a0) C_9 fun v29=>
 jG v28 (pureH (l_6.getD 1 undef)) C_9 fun v30=>
 jG v28 (jI 27 v29 v30) C_9 fun v31=>
 jG v28 (jF 86 2 v31) C_9 fun v32=>
 jG v28 (jL 9 v32) C_9 fun v33=>
 jG v28 (pureH a1) C_9 fun v34=>
 jG v28 (pureH (l_6.getD 1 undef)) C_9 fun v35=>
 jG v28 (jI 27 v34 v35) C_9 fun v36=>
 jG v28 (jF 86 2 v36) C_9 fun v37=>
 jG v28 (jL 9 v37) C_9 fun v38=>
 jG v28 (jB .neq 9 4 v33 v38) C_9 fun v39=>
 jP v28 (.bool true) v39 C_9 fun v40=>
 pureH v40 C_9 fun v41=>
 jG v41 (pureH a0) C_9 fun v42=>
 jG v41 (pureH (l_6.getD 1 undef)) C_9 fun v43=>
 jG v41 (jI 27 v42 v43) C_9 fun v44=>
 jG v41 (jF 86 1 v44) C_9 fun v45=>
 jG v41 (jL 84 v45) C_9 fun v46=>
 jG v41 (pureH a1) C_9 fun v47=>
 jG v41 (pureH (l_6.getD 1 undef)) C_9 fun v48=>
 jG v41 (jI 27 v47 v48) C_9 fun v49=>
 jG v41 (jF 86 1 v49) C_9 fun v50=>
 jG v41 (jL 84 v50) C_9 fun v51=>
 ∃ S_45:World → WK,∀ w,C_9 w → (
 gF v41 (callM prog 85 #[v46,v51]) (fun v52 w=>
 gF v41 (kU v52) (fun v53=>
 kP v41 (.bool true) v53 fun v54=>
 kO v54 (K (.bool false))
 (kB .add 3 3 (l_6.getD 1 undef) (.int .i64 1) fun v16=>
 kJ J_4 m_5 l_6 w0_l_6 [(l_6.getD 0 undef),v16])) w) w))))
 (K (.bool true))) w)) w0_l_6)) w
theorem sh_44_ok (h:sh_44 a0 a1 K w):callM prog 44 #[a0,a1] K w:=
 cZ (fun _=>(fz 35 0 3)) func44 h
def sh_16 (a0 a1:Value) (K:VK) (w:World):Prop:=
 oM prog (.box 29 (.tmp 0)) 0 [a0] (fun v2=>
 oM prog (.box 29 (.tmp 0)) 0 [a1] fun v3=>
 kF 29 3 v2 fun v7=>
 kL 24 v7 fun v8=>
 kA 24 fun v5=>
 kS 24 v5 v8 fun _=>
 kF 29 3 v3 fun v9=>
 kL 24 v9 fun v10=>
 kA 24 fun v6=>
 kS 24 v6 v10 fun _=>
 kF 29 0 v2 fun v11=>
 kL 3 v11 fun v12=>
 kF 29 0 v3 fun v13=>
 kL 3 v13 fun v14=>
 kB .neq 3 4 v12 v14 fun v15 w=>
 gF v15 (kF 29 1 v2) (fun v17 w=>
 gF v15 (kL 3 v17) (fun v18 w=>
 gF v15 (kF 29 1 v3) (fun v19 w=>
 gF v15 (kL 3 v19) (fun v20 w=>
 gF v15 (kB .neq 3 4 v18 v20) (fun v21=>
 kP v15 (.bool true) v21 fun v22 w=>
 gF v22 (kF 24 0 v5) (fun v24 w=>
 gF v22 (kL 3 v24) (fun v25 w=>
 gF v22 (kF 24 0 v6) (fun v26 w=>
 gF v22 (kL 3 v26) (fun v27 w=>
 gF v22 (kB .neq 3 4 v25 v27) (fun v28=>
 kP v22 (.bool true) v28 fun v29 w=>
 gF v29 (kF 24 1 v5) (fun v31 w=>
 gF v29 (kL 3 v31) (fun v32 w=>
 gF v29 (kF 24 1 v6) (fun v33 w=>
 gF v29 (kL 3 v33) (fun v34 w=>
 gF v29 (kB .neq 3 4 v32 v34) (fun v35=>
 kP v29 (.bool true) v35 fun v36 w=>
 gF v36 (kF 24 2 v5) (fun v38 w=>
 gF v36 (kL 3 v38) (fun v39 w=>
 gF v36 (kF 24 2 v6) (fun v40 w=>
 gF v36 (kL 3 v40) (fun v41 w=>
 gF v36 (kB .neq 3 4 v39 v41) (fun v42=>
 kP v36 (.bool true) v42 fun v43 w=>
 gF v43 (kF 29 4 v2) (fun v45 w=>
 gF v43 (kL 26 v45) (fun v46 w=>
 gF v43 (kF 29 4 v3) (fun v47 w=>
 gF v43 (kL 26 v47) (fun v48 w=>
 gF v43 (kB .neq 26 4 v46 v48) (fun v49=>
 kP v43 (.bool true) v49 fun v50=>
 kO v50 (K (.bool false))
 (kF 29 2 v2 fun v51=>
 kL 22 v51 fun v52=>
 kF 29 2 v3 fun v53=>
 kL 22 v53 fun v54=>
 callM prog 56 #[v52,v54] fun v55 w=>
 gT v55 (kF 24 3 v5) (fun v57 w=>
 gT v55 (kL 22 v57) (fun v58 w=>
 gT v55 (kF 24 3 v6) (fun v59 w=>
 gT v55 (kL 22 v59) (fun v60 w=>
 gT v55 (callM prog 56 #[v58,v60]) (fun v61=>
 kP v55 v61 (.bool false) fun v62 w=>
 gT v62 (kF 29 5 v2) (fun v64 w=>
 gT v62 (kL 27 v64) (fun v65 w=>
 gT v62 (kF 29 5 v3) (fun v66 w=>
 gT v62 (kL 27 v66) (fun v67 w=>
 gT v62 (callM prog 44 #[v65,v67]) (fun v68=>
 kP v62 v68 (.bool false) fun v69=>
 K v69) w) w) w) w) w) w) w) w) w) w)) w) w) w) w) w) w) w) w) w) w) w) w) w) w) w) w) w) w) w) w) w) w) w) w) w) w
theorem sh_16_ok (h:sh_16 a0 a1 K w):callM prog 16 #[a0,a1] K w:=
 cZ (fun _=>0) func16 h
def sh_13 (a0:Value) (K:VK) (w:World):Prop:=
 oM prog (.box 29 (.tmp 0)) 0 [a0] (fun v1=>
 kQ [(.bool false),(.int .i64 0)] fun J_2 m_3 l_4 u_l_4 w0_l_4=>(fun w=>(
 kF 29 5 v1 (fun v5=>
 kL 27 v5 fun v6=>
 kN 27 v6 fun v7=>
 kB .lss 3 4 (l_4.getD 1 undef) v7 fun v8 w=>
 gT v8 (pureM (l_4.getD 1 undef)) (fun v10 w=>
 gT v8 (kB .leq 3 4 v10 (.int .i64 5)) (fun v11=>
 kP v8 v11 (.bool false) fun v12=>
 kO v12 (kF 29 5 v1 fun v15=>
 kL 27 v15 fun v16=>
 kI 27 v16 (l_4.getD 1 undef) fun v18=>
 kF 86 1 v18 fun v19=>
 kF 84 1 v19 fun v20=>
 kL 22 v20 fun v21=>
 kN 22 v21 fun v22=>
 kB .gtr 3 4 v22 (.int .i64 8) fun v23 w=>
 gF v23 (kF 29 5 v1) (fun v25 w=>
 gF v23 (kL 27 v25) (fun v26 w=>
 gF v23 (pureM (l_4.getD 1 undef)) (fun v27 w=>
 gF v23 (kI 27 v26 v27) (fun v28 w=>
 gF v23 (kF 86 2 v28) (fun v29 w=>
 gF v23 (kL 9 v29) (fun v30 w=>
 gF v23 (kN 9 v30) (fun v31 w=>
 gF v23 (kB .gtr 3 4 v31 (.int .i64 210)) (fun v32=>
 kP v23 (.bool true) v32 fun v33=>
 kO v33 (K (.bool false))
 (kB .add 3 3 (l_4.getD 1 undef) (.int .i64 1) fun v14=>
 kJ J_2 m_3 l_4 w0_l_4 [(l_4.getD 0 undef),v14])) w) w) w) w) w) w) w) w)
 (kF 29 2 v1 fun v34=>
 kL 22 v34 fun v35=>
 kN 22 v35 fun v36=>
 kB .leq 3 4 v36 (.int .i64 8) fun v37 w=>
 gT v37 (kF 29 3 v1) (fun v39 w=>
 gT v37 (kF 24 3 v39) (fun v40 w=>
 gT v37 (kL 22 v40) (fun v41 w=>
 gT v37 (kN 22 v41) (fun v42 w=>
 gT v37 (kB .leq 3 4 v42 (.int .i64 8)) (fun v43=>
 kP v37 v43 (.bool false) fun v44 w=>
 gT v44 (kF 29 5 v1) (fun v46 w=>
 gT v44 (kL 27 v46) (fun v47 w=>
 gT v44 (kN 27 v47) (fun v48 w=>
 gT v44 (kB .leq 3 4 v48 (.int .i64 5)) (fun v49=>
 kP v44 v49 (.bool false) fun v50=>
 K v50) w) w) w) w) w) w) w) w) w)) w) w) w)) w0_l_4) w
theorem sh_13_ok (h:sh_13 a0 K w):callM prog 13 #[a0] K w:=
 cZ (fun _=>0) func13 h
def sh_23 (a0 a1:Value) (K:VK) (w:World):Prop:=
 oM prog (.box 50 (.tmp 0)) 0 [a0] (fun v2=>
 kF 50 1 v2 fun v5=>
 kL 22 v5 fun v6=>
 kN 22 v6 fun v7=>
 kB .leq 3 4 v7 (.int .i64 8) fun v8 w=>
 gT v8 (pureM a1) (fun v10 w=>
 gT v8 (kN 51 v10) (fun v11 w=>
 gT v8 (kB .leq 3 4 v11 (.int .i64 18)) (fun v12=>
 kP v8 v12 (.bool false) fun v13=>
 K v13) w) w) w) w
theorem sh_23_ok (h:sh_23 a0 a1 K w):callM prog 23 #[a0,a1] K w:=
 cZ (fun _=>0) func23 h
def sh_24 (a0:Value) (K:VK) (w:World):Prop:=
 kQ [(.bool false),(.int .i64 0)] (fun J_1 m_2 l_3 u_l_3 w0_l_3=>(fun w=>(
 kN 52 a0 (fun v6=>
 kB .lss 3 4 (l_3.getD 1 undef) v6 fun v7 w=>
 gT v7 (pureM (l_3.getD 1 undef)) (fun v9 w=>
 gT v7 (kB .leq 3 4 v9 (.int .i64 6)) (fun v10=>
 kP v7 v10 (.bool false) fun v11=>
 kO v11 (kI 52 a0 (l_3.getD 1 undef) fun v16=>
 kL 29 v16 fun v17=>
 callM prog 13 #[v17] fun v18=>
 kU v18 fun v19=>
 kO v19 (K (.bool false))
 (kB .add 3 3 (l_3.getD 1 undef) (.int .i64 1) fun v13=>
 kJ J_1 m_2 l_3 w0_l_3 [(l_3.getD 0 undef),v13]))
 (kN 52 a0 fun v21=>
 kB .leq 3 4 v21 (.int .i64 6) fun v22=>
 K v22)) w) w) w)) w0_l_3) w
theorem sh_24_ok (h:sh_24 a0 K w):callM prog 24 #[a0] K w:=
 cZ (fun _=>0) func24 h
def sh_29 (a0 a1:Value) (K:VK) (w:World):Prop:=
 kN 59 a0 (fun v7=>
 kN 59 a1 fun v9=>
 kB .neq 3 4 v7 v9 fun v10=>
 kO v10 (K (.bool false))
 (kQ [(.bool false),(.int .i64 0)] fun J_4 m_5 l_6 u_l_6 w0_l_6=>(fun w=>(
 kN 59 a0 (fun v13=>
 kB .lss 3 4 (l_6.getD 1 undef) v13 fun v14=>
 kO v14 (kH fun C_9 w=>(((true:Bool) = true) ∧ (pureH a0 C_9 fun v17=>
 pureH (l_6.getD 1 undef) C_9 fun v18=>
 jI 59 v17 v18 C_9 fun v19=>
 jF 67 0 v19 C_9 fun v20=>
 jL 29 v20 C_9 fun v21=>
 pureH a1 C_9 fun v22=>
 pureH (l_6.getD 1 undef) C_9 fun v23=>
 jI 59 v22 v23 C_9 fun v24=>
 jF 67 0 v24 C_9 fun v25=>
 jL 29 v25 C_9 fun v26=>
 ∃ S_20:World → WK,xR S_20 fun R_21=>
 (∀ w,C_9 w → (callM prog 16 #[v21,v26] (xK C_9 S_20 R_21 w) w)) ∧
 (xR S_20 fun R_22=>
 (∀ w,C_9 w → ∀ v27,R_21 v27 w → (kU v27 (xK C_9 S_20 R_22 w) w)) ∧
 (xR S_20 fun R_24=>
 (∀ w,C_9 w → ∀ v28,R_22 v28 w → (C_9 w ∧ S_20 w w ∧ R_24 v28 w)) ∧
 (xR S_20 fun R_26=>
 (∀ w,C_9 w → ∀ v29,R_24 v29 w → (gF v29 (pureM a0) (xK C_9 S_20 R_26 w) w)) ∧
 (xR S_20 fun R_28=>
 (∀ w,C_9 w → ∀ v29,R_24 v29 w → (gF v29 (pureM (l_6.getD 1 undef)) (xK C_9 S_20 R_28 w) w)) ∧
 (xR S_20 fun R_30=>
 (∀ w,C_9 w → ∀ v29,R_24 v29 w → ∀ v30,R_26 v30 w → ∀ v31,R_28 v31 w → (gF v29 (kI 59 v30 v31) (xK C_9 S_20 R_30 w) w)) ∧
 (xR S_20 fun R_34=>
 (∀ w,C_9 w → ∀ v29,R_24 v29 w → ∀ v32,R_30 v32 w → (gF v29 (kF 67 1 v32) (xK C_9 S_20 R_34 w) w)) ∧
 (xR S_20 fun R_37=>
 (∀ w,C_9 w → ∀ v29,R_24 v29 w → ∀ v33,R_34 v33 w → (gF v29 (kL 3 v33) (xK C_9 S_20 R_37 w) w)) ∧
 (xR S_20 fun R_40=>
 (∀ w,C_9 w → ∀ v29,R_24 v29 w → (gF v29 (pureM a1) (xK C_9 S_20 R_40 w) w)) ∧
 (xR S_20 fun R_42=>
 (∀ w,C_9 w → ∀ v29,R_24 v29 w → (gF v29 (pureM (l_6.getD 1 undef)) (xK C_9 S_20 R_42 w) w)) ∧
 (xR S_20 fun R_44=>
 (∀ w,C_9 w → ∀ v29,R_24 v29 w → ∀ v35,R_40 v35 w → ∀ v36,R_42 v36 w → (gF v29 (kI 59 v35 v36) (xK C_9 S_20 R_44 w) w)) ∧
 (xR S_20 fun R_48=>
 (∀ w,C_9 w → ∀ v29,R_24 v29 w → ∀ v37,R_44 v37 w → (gF v29 (kF 67 1 v37) (xK C_9 S_20 R_48 w) w)) ∧
 (xR S_20 fun R_51=>
 (∀ w,C_9 w → ∀ v29,R_24 v29 w → ∀ v38,R_48 v38 w → (gF v29 (kL 3 v38) (xK C_9 S_20 R_51 w) w)) ∧
 (xR S_20 fun R_54=>
 (∀ w,C_9 w → ∀ v29,R_24 v29 w → ∀ v34,R_37 v34 w → ∀ v39,R_51 v39 w → (gF v29 (kB .neq 3 4 v34 v39) (xK C_9 S_20 R_54 w) w)) ∧
 (xR S_20 fun R_58=>
 (∀ w,C_9 w → ∀ v29,R_24 v29 w → ∀ v40,R_54 v40 w → (kP v29 (.bool true) v40 (xK C_9 S_20 R_58 w) w)) ∧
 (xR S_20 fun R_61=>
 (∀ w,C_9 w → ∀ v41,R_58 v41 w → (C_9 w ∧ S_20 w w ∧ R_61 v41 w)) ∧
 (xR S_20 fun R_63=>
 (∀ w,C_9 w → ∀ v42,R_61 v42 w → (gF v42 (pureM a0) (xK C_9 S_20 R_63 w) w)) ∧
 (xR S_20 fun R_65=>
 (∀ w,C_9 w → ∀ v42,R_61 v42 w → (gF v42 (pureM (l_6.getD 1 undef)) (xK C_9 S_20 R_65 w) w)) ∧
 (xR S_20 fun R_67=>
 (∀ w,C_9 w → ∀ v42,R_61 v42 w → ∀ v43,R_63 v43 w → ∀ v44,R_65 v44 w → (gF v42 (kI 59 v43 v44) (xK C_9 S_20 R_67 w) w)) ∧
 (xR S_20 fun R_71=>
 (∀ w,C_9 w → ∀ v42,R_61 v42 w → ∀ v45,R_67 v45 w → (gF v42 (kF 67 2 v45) (xK C_9 S_20 R_71 w) w)) ∧
 (xR S_20 fun R_74=>
 (∀ w,C_9 w → ∀ v42,R_61 v42 w → ∀ v46,R_71 v46 w → (gF v42 (kL 3 v46) (xK C_9 S_20 R_74 w) w)) ∧
 (xR S_20 fun R_77=>
 (∀ w,C_9 w → ∀ v42,R_61 v42 w → (gF v42 (pureM a1) (xK C_9 S_20 R_77 w) w)) ∧
 (xR S_20 fun R_79=>
 (∀ w,C_9 w → ∀ v42,R_61 v42 w → (gF v42 (pureM (l_6.getD 1 undef)) (xK C_9 S_20 R_79 w) w)) ∧
 (xR S_20 fun R_81=>
 (∀ w,C_9 w → ∀ v42,R_61 v42 w → ∀ v48,R_77 v48 w → ∀ v49,R_79 v49 w → (gF v42 (kI 59 v48 v49) (xK C_9 S_20 R_81 w) w)) ∧
 (xR S_20 fun R_85=>
 (∀ w,C_9 w → ∀ v42,R_61 v42 w → ∀ v50,R_81 v50 w → (gF v42 (kF 67 2 v50) (xK C_9 S_20 R_85 w) w)) ∧
 (xR S_20 fun R_88=>
 (∀ w,C_9 w → ∀ v42,R_61 v42 w → ∀ v51,R_85 v51 w → (gF v42 (kL 3 v51) (xK C_9 S_20 R_88 w) w)) ∧
 (xR S_20 fun R_91=>
 (∀ w,C_9 w → ∀ v42,R_61 v42 w → ∀ v47,R_74 v47 w → ∀ v52,R_88 v52 w → (gF v42 (kB .neq 3 4 v47 v52) (xK C_9 S_20 R_91 w) w)) ∧
 (xR S_20 fun R_95=>
 (∀ w,C_9 w → ∀ v42,R_61 v42 w → ∀ v53,R_91 v53 w → (kP v42 (.bool true) v53 (xK C_9 S_20 R_95 w) w)) ∧
 (xR S_20 fun R_98=>
 (∀ w,C_9 w → ∀ v54,R_95 v54 w → (C_9 w ∧ S_20 w w ∧ R_98 v54 w)) ∧
 (xR S_20 fun R_100=>
 (∀ w,C_9 w → ∀ v55,R_98 v55 w → (gF v55 (pureM a0) (xK C_9 S_20 R_100 w) w)) ∧
 (xR S_20 fun R_102=>
 (∀ w,C_9 w → ∀ v55,R_98 v55 w → (gF v55 (pureM (l_6.getD 1 undef)) (xK C_9 S_20 R_102 w) w)) ∧
 (xR S_20 fun R_104=>
 (∀ w,C_9 w → ∀ v55,R_98 v55 w → ∀ v56,R_100 v56 w → ∀ v57,R_102 v57 w → (gF v55 (kI 59 v56 v57) (xK C_9 S_20 R_104 w) w)) ∧
 (xR S_20 fun R_108=>
 (∀ w,C_9 w → ∀ v55,R_98 v55 w → ∀ v58,R_104 v58 w → (gF v55 (kF 67 3 v58) (xK C_9 S_20 R_108 w) w)) ∧
 (xR S_20 fun R_111=>
 (∀ w,C_9 w → ∀ v55,R_98 v55 w → ∀ v59,R_108 v59 w → (gF v55 (kL 4 v59) (xK C_9 S_20 R_111 w) w)) ∧
 (xR S_20 fun R_114=>
 (∀ w,C_9 w → ∀ v55,R_98 v55 w → (gF v55 (pureM a1) (xK C_9 S_20 R_114 w) w)) ∧
 (xR S_20 fun R_116=>
 (∀ w,C_9 w → ∀ v55,R_98 v55 w → (gF v55 (pureM (l_6.getD 1 undef)) (xK C_9 S_20 R_116 w) w)) ∧
 (xR S_20 fun R_118=>
 (∀ w,C_9 w → ∀ v55,R_98 v55 w → ∀ v61,R_114 v61 w → ∀ v62,R_116 v62 w → (gF v55 (kI 59 v61 v62) (xK C_9 S_20 R_118 w) w)) ∧
 (xR S_20 fun R_122=>
 (∀ w,C_9 w → ∀ v55,R_98 v55 w → ∀ v63,R_118 v63 w → (gF v55 (kF 67 3 v63) (xK C_9 S_20 R_122 w) w)) ∧
 (xR S_20 fun R_125=>
 (∀ w,C_9 w → ∀ v55,R_98 v55 w → ∀ v64,R_122 v64 w → (gF v55 (kL 4 v64) (xK C_9 S_20 R_125 w) w)) ∧
 (xR S_20 fun R_128=>
 (∀ w,C_9 w → ∀ v55,R_98 v55 w → ∀ v60,R_111 v60 w → ∀ v65,R_125 v65 w → (gF v55 (kB .neq 4 4 v60 v65) (xK C_9 S_20 R_128 w) w)) ∧
 (xR S_20 fun R_132=>
 (∀ w,C_9 w → ∀ v55,R_98 v55 w → ∀ v66,R_128 v66 w → (kP v55 (.bool true) v66 (xK C_9 S_20 R_132 w) w)) ∧
 (xR S_20 fun R_135=>
 (∀ w,C_9 w → ∀ v67,R_132 v67 w → (C_9 w ∧ S_20 w w ∧ R_135 v67 w)) ∧
 (xR S_20 fun R_137=>
 (∀ w,C_9 w → ∀ v68,R_135 v68 w → (gF v68 (pureM a0) (xK C_9 S_20 R_137 w) w)) ∧
 (xR S_20 fun R_139=>
 (∀ w,C_9 w → ∀ v68,R_135 v68 w → (gF v68 (pureM (l_6.getD 1 undef)) (xK C_9 S_20 R_139 w) w)) ∧
 (xR S_20 fun R_141=>
 (∀ w,C_9 w → ∀ v68,R_135 v68 w → ∀ v69,R_137 v69 w → ∀ v70,R_139 v70 w → (gF v68 (kI 59 v69 v70) (xK C_9 S_20 R_141 w) w)) ∧
 (xR S_20 fun R_145=>
 (∀ w,C_9 w → ∀ v68,R_135 v68 w → ∀ v71,R_141 v71 w → (gF v68 (kF 67 4 v71) (xK C_9 S_20 R_145 w) w)) ∧
 (xR S_20 fun R_148=>
 (∀ w,C_9 w → ∀ v68,R_135 v68 w → ∀ v72,R_145 v72 w → (gF v68 (kL 4 v72) (xK C_9 S_20 R_148 w) w)) ∧
 (xR S_20 fun R_151=>
 (∀ w,C_9 w → ∀ v68,R_135 v68 w → (gF v68 (pureM a1) (xK C_9 S_20 R_151 w) w)) ∧
 (xR S_20 fun R_153=>
 (∀ w,C_9 w → ∀ v68,R_135 v68 w → (gF v68 (pureM (l_6.getD 1 undef)) (xK C_9 S_20 R_153 w) w)) ∧
 (xR S_20 fun R_155=>
 (∀ w,C_9 w → ∀ v68,R_135 v68 w → ∀ v74,R_151 v74 w → ∀ v75,R_153 v75 w → (gF v68 (kI 59 v74 v75) (xK C_9 S_20 R_155 w) w)) ∧
 (xR S_20 fun R_159=>
 (∀ w,C_9 w → ∀ v68,R_135 v68 w → ∀ v76,R_155 v76 w → (gF v68 (kF 67 4 v76) (xK C_9 S_20 R_159 w) w)) ∧
 (xR S_20 fun R_162=>
 (∀ w,C_9 w → ∀ v68,R_135 v68 w → ∀ v77,R_159 v77 w → (gF v68 (kL 4 v77) (xK C_9 S_20 R_162 w) w)) ∧
 (∀ w,C_9 w → ∀ v27,R_21 v27 w → ∀ v28,R_22 v28 w → ∀ v29,R_24 v29 w → ∀ v30,R_26 v30 w → ∀ v31,R_28 v31 w → ∀ v32,R_30 v32 w → ∀ v33,R_34 v33 w → ∀ v34,R_37 v34 w → ∀ v35,R_40 v35 w → ∀ v36,R_42 v36 w → ∀ v37,R_44 v37 w → ∀ v38,R_48 v38 w → ∀ v39,R_51 v39 w → ∀ v40,R_54 v40 w → ∀ v41,R_58 v41 w → ∀ v42,R_61 v42 w → ∀ v43,R_63 v43 w → ∀ v44,R_65 v44 w → ∀ v45,R_67 v45 w → ∀ v46,R_71 v46 w → ∀ v47,R_74 v47 w → ∀ v48,R_77 v48 w → ∀ v49,R_79 v49 w → ∀ v50,R_81 v50 w → ∀ v51,R_85 v51 w → ∀ v52,R_88 v52 w → ∀ v53,R_91 v53 w → ∀ v54,R_95 v54 w → ∀ v55,R_98 v55 w → ∀ v56,R_100 v56 w → ∀ v57,R_102 v57 w → ∀ v58,R_104 v58 w → ∀ v59,R_108 v59 w → ∀ v60,R_111 v60 w → ∀ v61,R_114 v61 w → ∀ v62,R_116 v62 w → ∀ v63,R_118 v63 w → ∀ v64,R_122 v64 w → ∀ v65,R_125 v65 w → ∀ v66,R_128 v66 w → ∀ v67,R_132 v67 w → ∀ v68,R_135 v68 w → ∀ v69,R_137 v69 w → ∀ v70,R_139 v70 w → ∀ v71,R_141 v71 w → ∀ v72,R_145 v72 w → ∀ v73,R_148 v73 w → ∀ v74,R_151 v74 w → ∀ v75,R_153 v75 w → ∀ v76,R_155 v76 w → ∀ v77,R_159 v77 w → ∀ v78,R_162 v78 w → (
 gF v68 (kB .neq 4 4 v73 v78) (fun v79=>
 kP v68 (.bool true) v79 fun v80=>
 kO v80 (K (.bool false))
 (kB .add 3 3 (l_6.getD 1 undef) (.int .i64 1) fun v16=>
 kJ J_4 m_5 l_6 w0_l_6 [(l_6.getD 0 undef),v16])) w))))))))))))))))))))))))))))))))))))))))))))))))))))))))
 (K (.bool true))) w)) w0_l_6)) w
theorem sh_29_ok (h:sh_29 a0 a1 K w):callM prog 29 #[a0,a1] K w:=
 cZ (fun _=>(fz 10 52 2)) func29 h
def sh_25 (a0 a1 a2:Value) (K:VK) (w:World):Prop:=
 oM prog (.box 50 (.tmp 0)) 0 [a0] (fun v3=>
 callM prog 35 #[] fun v12=>
 oM prog (.binOp .eql 55 (.tmp 0) (.const (.pointer none)) 55) 4 [v12] fun v14=>
 kO v14 (K (.tuple #[(.pointer none),(.pointer none)]))
 (kL 50 v3 fun v17=>
 callM prog 34 #[v12,v17,a1] fun v19=>
 kE 0 56 v19 fun v20=>
 kE 1 62 v19 fun v21=>
 kC .neq 62 0 4 v21 fun v23 w=>
 gF v23 (pureM v20) (fun v25 w=>
 gF v23 (oM prog (.binOp .eql 56 (.tmp 0) (.const (.pointer none)) 56) 4 [v25]) (fun v26=>
 kP v23 (.bool true) v26 fun v27=>
 kO v27 (K (.tuple #[v12,(.pointer none)]))
 (kQ [v21,(.pointer none),(.pointer none),(.int .i64 0)] fun J_12 m_13 l_14 u_l_14 w0_l_14=>(fun w=>(
 kN 52 a2 (fun v31=>
 kB .lss 3 4 (l_14.getD 3 undef) v31 fun v32=>
 kO v32 (kI 52 a2 (l_14.getD 3 undef) fun v38=>
 kL 29 v38 fun v39=>
 callM prog 53 #[v20,v39] fun v40=>
 kC .neq 62 0 4 v40 fun v42 w=>
 gT v42 (pureM v40) (fun v44 w=>
 gT v42 (kC .neq 62 1 4 v44) (fun v45=>
 kP v42 v45 (.bool false) fun v46 w=>
 gT v46 (pureM v40) (fun v48 w=>
 gT v46 (kC .neq 62 5 4 v48) (fun v49=>
 kP v46 v49 (.bool false) fun v50=>
 kO v50 (K (.tuple #[v12,(.pointer none)]))
 (kB .add 3 3 (l_14.getD 3 undef) (.int .i64 1) fun v34=>
 kJ J_12 m_13 l_14 w0_l_14 [v40,(l_14.getD 1 undef),(l_14.getD 2 undef),v34])) w) w) w) w)
 (callM prog 69 #[v12,(.int .i64 0)] fun v53=>
 K (.tuple #[v12,v20]))) w)) w0_l_14)) w) w)) w
theorem sh_25_ok (h:sh_25 a0 a1 a2 K w):callM prog 25 #[a0,a1,a2] K w:=
 cZ (fun _=>0) func25 h
def sh_6 (a0 a1 a2 a3 a4 a5:Value) (K:VK) (w:World):Prop:=
 oM prog (.box 50 (.tmp 0)) 0 [a0] (fun v6=>
 callM prog 12 #[] fun v22=>
 kL 50 v6 fun v23=>
 callM prog 23 #[v23,a1] fun v25=>
 kU v25 fun v26 w=>
 gF v26 (pureM a2) (fun v28 w=>
 gF v26 (callM prog 24 #[v28]) (fun v29 w=>
 gF v26 (kU v29) (fun v30=>
 kP v26 (.bool true) v30 fun v31=>
 kO v31 (K v22)
 (kL 50 v6 fun v34=>
 callM prog 25 #[v34,a1,a2] fun v37=>
 kE 0 55 v37 fun v38=>
 kE 1 56 v37 fun v39=>
 oM prog (.binOp .eql 56 (.tmp 0) (.const (.pointer none)) 56) 4 [v39] fun v41=>
 kO v41 (K v22)
 (callM prog 26 #[v39] fun v44=>
 callM prog 27 #[v39,a3,a4] fun v48=>
 callM prog 28 #[v39,a3,a4,a5] fun v54=>
 kE 0 3 v54 fun v55=>
 kE 1 62 v54 fun v56=>
 callM prog 26 #[v39] fun v58=>
 kC .eql 62 0 4 v56 fun v60=>
 kB .gtr 3 4 v48 (.int .i64 0) fun v62 w=>
 gT v62 (pureM a5) (fun v64 w=>
 gT v62 (kB .geq 3 4 v64 (.int .i64 1)) (fun v65=>
 kP v62 v65 (.bool false) fun v66 w=>
 gT v66 (pureM a5) (fun v68 w=>
 gT v66 (kF 50 0 v6) (fun v69 w=>
 gT v66 (kF 48 1 v69) (fun v70 w=>
 gT v66 (kL 3 v70) (fun v71 w=>
 gT v66 (kB .lss 3 4 v68 v71) (fun v72=>
 kP v66 v72 (.bool false) fun v73=>
 kB .neq 4 4 v60 v73 fun v74 w=>
 gF v74 (pureM v58) (fun v76 w=>
 gF v74 (kN 59 v76) (fun v77 w=>
 gF v74 (pureM v44) (fun v78 w=>
 gF v74 (kN 59 v78) (fun v79 w=>
 gF v74 (kB .neq 3 4 v77 v79) (fun v80=>
 kP v74 (.bool true) v80 fun v81=>
 kO v81 (K (.bool false))
 (kC .neq 62 0 4 v56 fun v83=>
 kO v83 (gT v22 (pureM v44) fun v86 w=>
 gT v22 (pureM v58) (fun v87 w=>
 gT v22 (callM prog 29 #[v86,v87]) (fun v88=>
 kP v22 v88 (.bool false) fun v89 w=>
 gT v89 (pureM v39) (fun v91 w=>
 gT v89 (pureM a3) (fun v92 w=>
 gT v89 (pureM a4) (fun v93 w=>
 gT v89 (callM prog 27 #[v91,v92,v93]) (fun v94 w=>
 gT v89 (pureM v48) (fun v95 w=>
 gT v89 (kB .eql 3 4 v94 v95) (fun v96=>
 kP v89 v96 (.bool false) fun v97=>
 K v97) w) w) w) w) w) w) w) w)
 (kB .lss 3 4 v55 (.int .i64 0) fun v99 w=>
 gF v99 (pureM v55) (fun v101 w=>
 gF v99 (pureM v58) (fun v102 w=>
 gF v99 (kN 59 v102) (fun v103 w=>
 gF v99 (kB .geq 3 4 v101 v103) (fun v104=>
 kP v99 (.bool true) v104 fun v105 w=>
 gF v105 (pureM a3) (fun v107 w=>
 gF v105 (kB .lss 3 4 v107 (.int .i64 0)) (fun v108=>
 kP v105 (.bool true) v108 fun v109 w=>
 gF v109 (pureM a3) (fun v111 w=>
 gF v109 (pureM a1) (fun v112 w=>
 gF v109 (kN 51 v112) (fun v113 w=>
 gF v109 (kB .geq 3 4 v111 v113) (fun v114=>
 kP v109 (.bool true) v114 fun v115=>
 kO v115 (K (.bool false))
 (kI 59 v58 v55 fun v118=>
 kL 67 v118 fun v119=>
 kA 67 fun v21=>
 kS 67 v21 v119 fun _=>
 kH fun C_68 w=>(((true:Bool) = true) ∧ (jF 67 1 v21 C_68 fun v120=>
 jL 3 v120 C_68 fun v121=>
 jC .neq 3 1 4 v121 C_68 fun v122=>
 pureH v122 C_68 fun v123=>
 jG v123 (jF 67 2 v21) C_68 fun v124=>
 jG v123 (jL 3 v124) C_68 fun v125=>
 jG v123 (pureH a5) C_68 fun v126=>
 jG v123 (jB .neq 3 4 v125 v126) C_68 fun v127=>
 jP v123 (.bool true) v127 C_68 fun v128=>
 pureH v128 C_68 fun v129=>
 jG v129 (jF 67 0 v21) C_68 fun v130=>
 jG v129 (jF 29 0 v130) C_68 fun v131=>
 jG v129 (jL 3 v131) C_68 fun v132=>
 jG v129 (pureH a3) C_68 fun v133=>
 jG v129 (jB .neq 3 4 v132 v133) C_68 fun v134=>
 jP v129 (.bool true) v134 C_68 fun v135=>
 pureH v135 C_68 fun v136=>
 jG v136 (jF 67 0 v21) C_68 fun v137=>
 jG v136 (jF 29 1 v137) C_68 fun v138=>
 jG v136 (jL 3 v138) C_68 fun v139=>
 jG v136 (pureH a1) C_68 fun v140=>
 jG v136 (pureH a3) C_68 fun v141=>
 jG v136 (jI 51 v140 v141) C_68 fun v142=>
 jG v136 (jL 41 v142) C_68 fun v143=>
 jG v136 (pureH a4) C_68 fun v144=>
 ∃ S_94:World → WK,xR S_94 fun R_95=>
 (∀ w,C_68 w → (gF v136 (callM prog 20 #[v143,v144]) (xK C_68 S_94 R_95 w) w)) ∧
 (xR S_94 fun R_96=>
 (∀ w,C_68 w → ∀ v145,R_95 v145 w → (gF v136 (kB .neq 3 4 v139 v145) (xK C_68 S_94 R_96 w) w)) ∧
 (xR S_94 fun R_98=>
 (∀ w,C_68 w → ∀ v146,R_96 v146 w → (kP v136 (.bool true) v146 (xK C_68 S_94 R_98 w) w)) ∧
 (xR S_94 fun R_100=>
 (∀ w,C_68 w → ∀ v147,R_98 v147 w → (C_68 w ∧ S_94 w w ∧ R_100 v147 w)) ∧
 (xR S_94 fun R_102=>
 (∀ w,C_68 w → ∀ v148,R_100 v148 w → (gF v148 (pureM v44) (xK C_68 S_94 R_102 w) w)) ∧
 (xR S_94 fun R_104=>
 (∀ w,C_68 w → ∀ v148,R_100 v148 w → (gF v148 (pureM v55) (xK C_68 S_94 R_104 w) w)) ∧
 (∀ w,C_68 w → ∀ v145,R_95 v145 w → ∀ v146,R_96 v146 w → ∀ v147,R_98 v147 w → ∀ v148,R_100 v148 w → ∀ v149,R_102 v149 w → ∀ v150,R_104 v150 w → (
 gF v148 (kI 59 v149 v150) (fun v151 w=>
 gF v148 (kF 67 1 v151) (fun v152 w=>
 gF v148 (kL 3 v152) (fun v153 w=>
 gF v148 (kC .neq 3 0 4 v153) (fun v154=>
 kP v148 (.bool true) v154 fun v155=>
 kO v155 (K (.bool false))
 (kI 59 v44 v55 fun v160=>
 kL 67 v160 fun v161=>
 kI 59 v58 v55 fun v162=>
 kS 67 v162 v161 fun _ w=>
 gT v22 (pureM v44) (fun v165 w=>
 gT v22 (pureM v58) (fun v166 w=>
 gT v22 (callM prog 29 #[v165,v166]) (fun v167=>
 kP v22 v167 (.bool false) fun v168 w=>
 gT v168 (pureM v39) (fun v170 w=>
 gT v168 (pureM a3) (fun v171 w=>
 gT v168 (pureM a4) (fun v172 w=>
 gT v168 (callM prog 27 #[v170,v171,v172]) (fun v173 w=>
 gT v168 (pureM v48) (fun v174 w=>
 gT v168 (kB .sub 3 3 v174 (.int .i64 1)) (fun v175 w=>
 gT v168 (kB .eql 3 4 v173 v175) (fun v176=>
 kP v168 v176 (.bool false) fun v177=>
 K v177) w) w) w) w) w) w) w) w) w) w)) w) w) w) w))))))))))) w) w) w) w) w) w) w) w) w) w))) w) w) w) w) w) w) w) w) w) w) w) w))) w) w) w) w
theorem sh_6_ok (h:sh_6 a0 a1 a2 a3 a4 a5 K w):callM prog 6 #[a0,a1,a2,a3,a4,a5] K w:=
 cZ (fun _=>(fz 25 6 5)) func6 h
end Go.Proofs
namespace Go.Proofs
open Go Go.Sh Go.RowKit FdSpec TkSpec CodeSpec PuSpec DkSpec JnSpec
section
variable {K:VK} {w w' w0 W W':World} {L:List (Addr × Value)} {rb b:Nat}
@[go_sem] theorem neq_tkt (T:TypeId) (a b:Tkt):oM Tryz.prog (.binOp .neq 26 (.tmp 0) (.tmp 1) 26) T [tktV a,tktV b] = pureM (.bool (decide (a ≠ b))):=by
 funext K w
 have h1:(eqGuard .neq 26 (.tmp 0) (.tmp 1) (tktV a) (tktV b)).run Tryz.prog w = .ok () w:=run_eqGuard_agg w _ _ _ _ _ _ (by kernel_rfl)
 have h2:(binOp .neq 26 (tktV a) (tktV b)).run Tryz.prog w = .ok (.bool (decide (a ≠ b))) w:=by
  rw [run_neq_struct,run_equalIn_agg w 9999 26 _ _ (by kernel_rfl) (by kernel_rfl)]
  have u3:=Tryz.underlying3
  have e:decide (a ≠ b) = !((a.mark == b.mark) && (a.first == b.first) && (a.z == b.z) && (a.a == b.a) && (a.b == b.b) && (a.r == b.r)):=by
   obtain ⟨a1,a2,a3,a4,a5,a6⟩:=a
   obtain ⟨b1,b2,b3,b4,b5,b6⟩:=b
   rw [decide_not]
   congr 1
   simp [Tkt.mk.injEq,and_assoc,Bool.and_assoc]
   rfl
  rw [e]
  simp [go_sem,Program.fieldsOf,Tryz.underlying26,Op.eqFields,part,u3]
  repeat' split
  all_goals simp_all
 unfold oM opM
 simp [xop,execOp,evalL,evE,h1,h2]
 exact Iff.rfl
theorem SameSpend_ok {d1 d2:Int} {l m:List Int} {av bv:Value} (ha:Ints w av l) (hb:Ints w bv m) (k:∀ w',Bw w w' → K (.bool (decide (d1 = d2) && decide (l = m))) w'):callM Tryz.prog 85 #[.agg #[.int .i64 d1,av],.agg #[.int .i64 d2,bv]] K w:=by
 apply sh_85_ok
 unfold sh_85
 obtain ⟨a1,c1,rfl⟩:=ha.isSlice
 obtain ⟨a2,c2,rfl⟩:=hb.isSlice
 refine box_kn (cs:=[.int .i64 d1,.slice a1 l.length c1]) rfl (.start w) fun b1 W hk hb1 hbb=>?_
 refine box_kn (cs:=[.int .i64 d2,.slice a2 m.length c2]) rfl hk fun b2 W hk hb2 hbb=>?_
 by_cases h:d1 = d2
 ·rw [decide_eq_true h,bT] at k
  repeat (any_goals (first
  | (with_reducible refine zA ?_)
  | ((with_reducible refine oG fun X Y=>?_); simp [go_sem,hk.cells,h]; apply Y; clear Y X)))
  refine sameInts_ok (ha.next hk.below) (hb.next hk.below) (fun w3 h3=>?_)
  have k:=k _ (hk.next h3).below
  repeat (any_goals (with_reducible refine yB ?_))
  exact k
 ·rw [decide_eq_false h,bF] at k
  have k:=k _ hk.below
  repeat (any_goals (first
  | (with_reducible first|refine zB ?_|refine yC ?_)
  | ((with_reducible refine oG fun X Y=>?_); simp [go_sem,hk.cells,h]; apply Y; clear Y X)))
  exact k
theorem lnk_ext {x y:Lnk} (h1:x.ticket = y.ticket) (h2:x.terms = y.terms) (h3:x.spend.dare = y.spend.dare) (h4:x.spend.answers = y.spend.answers):x = y:=by
 obtain ⟨a,⟨b,c⟩,d⟩:=x
 obtain ⟨a',⟨b',c'⟩,d'⟩:=y
 simp only at *
 subst h1 h2 h3 h4
 rfl
theorem str_eq {x y:Bytes}:((⟨x.toArray⟩:ByteArray) = ⟨y.toArray⟩) ↔ x = y:=by
 constructor
 ·intro h
  have:=congrArg (fun b:ByteArray=>b.data.toList) h
  simpa using this
 ·rintro rfl; rfl
theorem lnk_cells {b p:Nat} {x:Lnk} {av:Value} (h:∀ j u,(lkC x av)[j]? = some u → w.cell? ⟨b,p + j,none⟩ = some u) :
  w.cell? ⟨b,p,none⟩ = some (.int .i64 x.ticket.mark) ∧ w.cell? ⟨b,p + 1,none⟩ = some (.int .i64 x.ticket.first) ∧ w.cell? ⟨b,p + 2,none⟩ = some (.int .i64 x.ticket.z) ∧ w.cell? ⟨b,p + 3,none⟩ = some (.int .i64 x.ticket.a) ∧ w.cell? ⟨b,p + 4,none⟩ = some (.int .i64 x.ticket.b) ∧ w.cell? ⟨b,p + 5,none⟩ = some (.int .i64 x.ticket.r) ∧
  w.cell? ⟨b,p + 6,none⟩ = some (.int .i64 x.spend.dare) ∧ w.cell? ⟨b,p + 6 + 1,none⟩ = some av ∧ w.cell? ⟨b,p + 8,none⟩ = some (.string ⟨x.terms.toArray⟩):=
 ⟨h 0 _ rfl,h 1 _ rfl,h 2 _ rfl,h 3 _ rfl,h 4 _ rfl,h 5 _ rfl,h 6 _ rfl,h 7 _ rfl,h 8 _ rfl⟩
theorem SameLinks_ok {va vb:Value} {l m:List Lnk} (ha:LnksR w va l) (hb:LnksR w vb m) (k:∀ w',Bw w w' → K (.bool (decide (l = m))) w'):callM Tryz.prog 44 #[va,vb] K w:=by
 apply sh_44_ok
 unfold sh_44
 obtain ⟨a1,c1,rfl⟩:=ha.isSlice
 obtain ⟨a2,c2,rfl⟩:=hb.isSlice
 have hll:=ha.len
 by_cases hl:l.length = m.length
 ·have hlZ:(l.length:Int) = m.length:=by omega
  repeat (any_goals (first
  | (with_reducible refine yM ?_)
  | ((with_reducible refine oG fun X Y=>?_); simp [go_sem,hlZ]; apply Y; clear Y X)))
  refine ⟨fun vs W=>∃ (i:Nat),vs = [.bool false,.int .i64 (i:Int)] ∧ i ≤ l.length ∧ l.take i = m.take i ∧ Nx w W,
   (fun vs _=>match vs with | [_,.int _ i]=>l.length - i.toNat | _=>0),⟨0,rfl,by omega,rfl,bR⟩,?_⟩
  rintro _ _ w2 ⟨i,rfl,hi,he,h2⟩
  by_cases hin:i = l.length
  ·have e:l = m:=by
    rw [hin,List.take_length,hl,List.take_length] at he
    exact he
   have k:=k _ h2
   rw [decide_eq_true e] at k
   have hn:¬ (i:Int) < m.length:=by omega
   repeat (any_goals (first
   | (with_reducible refine yM ?_)
   | ((with_reducible refine oG fun X Y=>?_); simp [go_sem,hn,hlZ]; apply Y; clear Y X)))
   exact k
  ·have hil:i < l.length:=by omega
   have him:i < m.length:=by omega
   have hiZ:(i:Int) < m.length:=by omega
   have ha2:=ha.next (atOf_stay lnk_vstay) h2
   have hb2:=hb.next (atOf_stay lnk_vstay) h2
   obtain ⟨b1,o1,rfl,hb1,cs1,hc1,hcc1,av,rfl,hA1,hw1⟩:=ha2.at hil
   obtain ⟨b2,o2,rfl,hb2l,cs2,hc2,hcc2,bv,rfl,hA2,hw2⟩:=hb2.at him
   obtain ⟨d1,n1,rfl⟩:=hA1.isSlice
   obtain ⟨d2,n2,rfl⟩:=hA2.isSlice
   have het:l.take (i + 1) = m.take (i + 1) ↔ l[i] = m[i]:=by
    rw [List.take_succ_eq_append_getElem hil,List.take_succ_eq_append_getElem him,he]
    exact ⟨fun h=>by simpa using List.append_cancel_left h,fun h=>by rw [h]⟩
   have hne:l[i] ≠ m[i] → l ≠ m:=fun h e=>h (by subst e; rfl)
   generalize l[i] = x at *
   generalize m[i] = y at *
   repeat (any_goals (first
   | (with_reducible refine yL ?_)
   | ((with_reducible refine oG fun X Y=>?_); simp [go_sem,hiZ,hlZ]; apply Y; clear Y X)))
   refine ⟨Nx { w2 with drawn:=w2.drawn + 1 },bR,rfl,?_⟩
   have h2d:=h2.on (.drawn (B:=w2.heap.size))
   have hbd:Below w2.heap.size w2 { w2 with drawn:=w2.drawn + 1 }:=.drawn
   generalize ({ w2 with drawn:=w2.drawn + 1 }:World) = W3 at h2d hbd ⊢
   have q1:=fun W0 (h:Nx W3 W0) (j:Nat) (u:Value) (hj:(lkC x (.slice d1 x.spend.answers.length n1))[j]? = some u)=>((hbd.on h).cell hb1).trans (hcc1 j u hj)
   have q2:=fun W0 (h:Nx W3 W0) (j:Nat) (u:Value) (hj:(lkC y (.slice d2 y.spend.answers.length n2))[j]? = some u)=>((hbd.on h).cell hb2l).trans (hcc2 j u hj)
   have bad:x ≠ y → ∀ w',Nx W3 w' → K (.bool false) w':=fun e w' hn=>by
    have k:=k _ (h2d.on hn)
    rwa [decide_eq_false (hne e)] at k
   by_cases e1:x.ticket = y.ticket
   ·by_cases e2:x.terms = y.terms
    ·repeat (any_goals (first
     | (with_reducible first|refine pX ?_|((refine idGdH ?_); refine gdH_conv fun _=>?_)|refine zC ?_)
     | ((with_reducible refine idOH ?_); first|(with_reducible refine vB ?_)|(with_reducible refine oH_of ⟨_,rfl⟩ (fun W0 hW0=>by (refine oG (fun X Y=>?_)); simp [go_sem,lnk_cells (q1 _ hW0),lnk_cells (q2 _ hW0),e1,e2,hiZ,hlZ]; (first | exact Y _ _ ⟨rfl,rfl⟩ | exact ⟨by omega,Y _ _ ⟨rfl,rfl⟩⟩)) ?_))))
     refine ⟨Nx,fun w4 h4=>?_⟩
     refine SameSpend_ok (hA1.next (hbd.on h4)) (hA2.next (hbd.on h4)) (fun w5 h5=>?_)
     have h45:=h4.on h5
     by_cases e3:x.spend.dare = y.spend.dare ∧ x.spend.answers = y.spend.answers
     ·rw [decide_eq_true e3.1,decide_eq_true e3.2]
      repeat (any_goals (first
      | (with_reducible first|refine zC ?_|refine yC ?_|refine yM ?_)
      | ((with_reducible refine oG fun X Y=>?_); simp [go_sem]; (try simp (disch:=omega) only [wrapI64,wrapU8,wrapU32,wrapU64]); apply Y; clear Y X)))
      exact ⟨⟨i + 1,rfl,by omega,het.2 (lnk_ext e1 e2 e3.1 e3.2),h2d.on h45⟩,by show l.length - (((i + 1:Nat):Int)).toNat < l.length - ((i:Nat):Int).toNat; omega⟩
     ·have e4:(decide (x.spend.dare = y.spend.dare) && decide (x.spend.answers = y.spend.answers)) = false:=by
       rw [← Bool.decide_and,decide_eq_false e3]
      rw [e4]
      have bad:=bad (fun e=>e3 (by subst e; exact ⟨rfl,rfl⟩)) _ h45
      repeat (any_goals (first
      | (with_reducible first|refine zC ?_|refine yC ?_|refine yL ?_)
      | ((with_reducible refine oG fun X Y=>?_); simp [go_sem]; apply Y; clear Y X)))
      exact bad
    ·have e2':¬ ((⟨x.terms.toArray⟩:ByteArray) = ⟨y.terms.toArray⟩):=fun e=>e2 (str_eq.1 e)
     repeat (any_goals (first
     | (with_reducible first|refine pX ?_|((refine idGdH ?_); refine gdH_conv fun _=>?_)|((refine idGd ?_); first|refine zC ?_|refine zD ?_))
     | ((with_reducible refine idOH ?_); first|(with_reducible refine vB ?_)|(with_reducible refine oH_of ⟨_,rfl⟩ (fun W0 hW0=>by (refine oG (fun X Y=>?_)); simp [go_sem,lnk_cells (q1 _ hW0),lnk_cells (q2 _ hW0),e1,e2',hiZ,hlZ]; (first | exact Y _ _ ⟨rfl,rfl⟩ | exact ⟨by omega,Y _ _ ⟨rfl,rfl⟩⟩)) ?_))))
     refine ⟨Nx,fun w4 h4=>?_⟩
     have bad:=bad (fun e=>e2 (by rw [e])) _ h4
     repeat (any_goals (with_reducible first|refine zD ?_|refine yB ?_|refine yL ?_))
     exact bad
   ·repeat (any_goals (first
    | (with_reducible first|refine pX ?_|((refine idGdH ?_); refine gdH_conv fun _=>?_)|refine zD ?_)
    | ((with_reducible refine idOH ?_); first|(with_reducible refine vA ?_)|(with_reducible refine oH_of ⟨_,rfl⟩ (fun W0 hW0=>by (refine oG (fun X Y=>?_)); simp [go_sem,lnk_cells (q1 _ hW0),lnk_cells (q2 _ hW0),e1,hiZ,hlZ]; (first | exact Y _ _ ⟨rfl,rfl⟩ | exact ⟨by omega,Y _ _ ⟨rfl,rfl⟩⟩)) ?_))))
    refine ⟨Nx,fun w4 h4=>?_⟩
    have bad:=bad (fun e=>e1 (by rw [e])) _ h4
    repeat (any_goals (with_reducible first|refine zD ?_|refine yB ?_|refine yL ?_))
    exact bad
 ·have hlZ:¬ (l.length:Int) = m.length:=by omega
  have k:=k _ (bR)
  rw [decide_eq_false (fun e=>hl (by rw [e]))] at k
  repeat (any_goals (first
  | (with_reducible refine yL ?_)
  | ((with_reducible refine oG fun X Y=>?_); simp [go_sem,hlZ]; apply Y; clear Y X)))
  exact k
theorem un_bld8:Tryz.prog.underlying 24 = some ((Tryz.prog.underlying 24).getD default):=by kernel_rfl
theorem hld_sub {x:Hld} {a y l:Value} {j:Nat} {u:Value} (hj:(bldC x.bl y)[j]? = some u):(hldC x a y l)[3 + j]? = some u:=by
 have hl:=(gS hj).1
 have:hldC x a y l = [.int .i64 x.limit,.int .i64 x.window,a] ++ (bldC x.bl y ++ [.int .i64 x.t.mark,.int .i64 x.t.first,.int .i64 x.t.z,.int .i64 x.t.a,.int .i64 x.t.b,.int .i64 x.t.r,l]):=rfl
 rw [this,List.getElem?_append_right (by simp)]
 simp only [List.length_cons,List.length_nil,Nat.zero_add,Nat.add_sub_cancel_left]
 rw [List.getElem?_append_left hl]
 exact hj
theorem holds_at {g:Nat} {T:TypeId} {xs:List Value} (h:Holds w g T xs) {j:Nat} {u:Value} (hj:xs[j]? = some u):w.cell? ⟨g,j,none⟩ = some u:=by
 obtain ⟨hl,rfl⟩:=gS hj
 exact h.cell j hl
theorem hld_ext {x y:Hld} (e1:x.limit = y.limit) (e2:x.window = y.window) (e3:x.bl.s = y.bl.s) (e4:x.bl.u = y.bl.u) (e5:x.bl.v = y.bl.v) (e6:x.t = y.t) (e7:x.attrs = y.attrs) (e8:x.bl.ys = y.bl.ys) (e9:x.links = y.links):x = y:=by
 obtain ⟨a,b,c,⟨d,e,f,g⟩,t,l⟩:=x
 obtain ⟨a',b',c',⟨d',e',f',g'⟩,t',l'⟩:=y
 simp only at *
 subst e1 e2 e3 e4 e5 e6 e7 e8 e9
 rfl
theorem SameHeld_ok (x y:Hld) {av yv kv av2 yv2 kv2:Value} (hx:HldR w x av yv kv) (hy:HldR w y av2 yv2 kv2) (k:∀ w',Bw w w' → K (.bool (decide (x = y))) w'):callM Tryz.prog 16 #[hldV x av yv kv,hldV y av2 yv2 kv2] K w:=by
 apply sh_16_ok
 unfold sh_16
 obtain ⟨a1,n1,d1,a2,n2,d2,a3,n3,d3,rfl,rfl,rfl⟩:=hldR_slices hx
 obtain ⟨a4,n4,d4,a5,n5,d5,a6,n6,d6,rfl,rfl,rfl⟩:=hldR_slices hy
 refine arr_box (cs:=hldC x (.slice a1 n1 d1) (.slice a2 n2 d2) (.slice a3 n3 d3)) rfl (fun b1 w1 h1 hb1 hB1=>?_)
 refine arr_box (cs:=hldC y (.slice a4 n4 d4) (.slice a5 n5 d5) (.slice a6 n6 d6)) rfl (fun b2 w2 h2 hb2 hB2=>?_)
 have hB1:=hB1.next h2
 iterate 1 (any_goals ((with_reducible refine oG fun X Y=>?_); simp [go_sem]; apply Y; clear Y X))
 refine row_load (cs:=bldC x.bl (.slice a2 n2 d2)) (p:=3) (fun j u hj=>holds_at hB1 (hld_sub hj)) un_bld8 (by kernel_rfl) (by kernel_rfl) ?_
 refine arr_alloc al_bld (fun g1 w3 h3 hg1 hG1=>?_)
 refine arr_store sz_bld (xs:=bldC x.bl (.slice a2 n2 d2)) rfl rfl (bld_one _ _ _ _) hG1 rfl (fun w4 hg4 hG1=>?_)
 have h24:Bw w2 w4:=grown_below h3 hg4 hg1
 have hB1:=hB1.next h24
 have hB2:=hB2.next h24
 iterate 1 (any_goals ((with_reducible refine oG fun X Y=>?_); simp [go_sem]; apply Y; clear Y X))
 refine row_load (cs:=bldC y.bl (.slice a5 n5 d5)) (p:=3) (fun j u hj=>holds_at hB2 (hld_sub hj)) un_bld8 (by kernel_rfl) (by kernel_rfl) ?_
 refine arr_alloc al_bld (fun g2 w5 h5 hg2 hG2=>?_)
 refine arr_store sz_bld (xs:=bldC y.bl (.slice a5 n5 d5)) rfl rfl (bld_one _ _ _ _) hG2 rfl (fun w6 hg6 hG2=>?_)
 have h46:Bw w4 w6:=grown_below h5 hg6 hg2
 have hB1:=hB1.next h46
 have hB2:=hB2.next h46
 have hG1:=hG1.next h46
 have h06:=((h1.on h2).on h24).on h46
 have bad:x ≠ y → ∀ w',Bw w6 w' → K (.bool false) w':=fun e w' hn=>by
  have k:=k _ (h06.on hn)
  rwa [decide_eq_false e] at k
 have p0:=hB1.cell 0 (by simp)
 have p1:=hB1.cell 1 (by simp)
 have p2:=hB1.cell 2 (by simp)
 have p13:=hB1.cell 13 (by simp)
 have q0:=hB2.cell 0 (by simp)
 have q1:=hB2.cell 1 (by simp)
 have q2:=hB2.cell 2 (by simp)
 have q13:=hB2.cell 13 (by simp)
 simp only [List.getElem_cons_zero,List.getElem_cons_succ] at p0 p1 p2 p13 q0 q1 q2 q13
 have r1:=hG1.are
 have r2:=hG2.are
 by_cases e1:x.limit = y.limit
 case neg=>
  have bad:=bad (fun e=>e1 (by rw [e])) _ (bR)
  repeat (any_goals (first
  | (with_reducible first|refine zD ?_|refine yB ?_|refine yL ?_)
  | ((with_reducible refine oG fun X Y=>?_); simp [go_sem,p0,q0,e1]; apply Y; clear Y X)))
  exact bad
 by_cases e2:x.window = y.window
 case neg=>
  have bad:=bad (fun e=>e2 (by rw [e])) _ (bR)
  repeat (any_goals (first
  | (with_reducible first|((refine idGd ?_); first|refine zC ?_|refine zD ?_)|((refine idPick ?_); first|refine yB ?_|refine yC ?_)|refine yL ?_)
  | ((with_reducible refine oG fun X Y=>?_); simp [go_sem,p0,q0,e1,p1,q1,e2]; apply Y; clear Y X)))
  exact bad
 by_cases e3:x.bl.s = y.bl.s
 case neg=>
  have bad:=bad (fun e=>e3 (by rw [e])) _ (bR)
  repeat (any_goals (first
  | (with_reducible first|((refine idGd ?_); first|refine zC ?_|refine zD ?_)|((refine idPick ?_); first|refine yB ?_|refine yC ?_)|refine yL ?_)
  | ((with_reducible refine oG fun X Y=>?_); simp [go_sem,p0,q0,e1,p1,q1,e2,r1,r2,e3]; apply Y; clear Y X)))
  exact bad
 by_cases e4:x.bl.u = y.bl.u
 case neg=>
  have bad:=bad (fun e=>e4 (by rw [e])) _ (bR)
  repeat (any_goals (first
  | (with_reducible first|((refine idGd ?_); first|refine zC ?_|refine zD ?_)|((refine idPick ?_); first|refine yB ?_|refine yC ?_)|refine yL ?_)
  | ((with_reducible refine oG fun X Y=>?_); simp [go_sem,p0,q0,e1,p1,q1,e2,r1,r2,e3,e4]; apply Y; clear Y X)))
  exact bad
 by_cases e5:x.bl.v = y.bl.v
 case neg=>
  have bad:=bad (fun e=>e5 (by rw [e])) _ (bR)
  repeat (any_goals (first
  | (with_reducible first|((refine idGd ?_); first|refine zC ?_|refine zD ?_)|((refine idPick ?_); first|refine yB ?_|refine yC ?_)|refine yL ?_)
  | ((with_reducible refine oG fun X Y=>?_); simp [go_sem,p0,q0,e1,p1,q1,e2,r1,r2,e3,e4,e5]; apply Y; clear Y X)))
  exact bad
 have t1:∀ j u,(tktC x.t)[j]? = some u → w6.cell? ⟨b1,7 + j,none⟩ = some u:=fun j u hj=>holds_at hB1 (by
  have:hldC x (.slice a1 n1 d1) (.slice a2 n2 d2) (.slice a3 n3 d3) = [.int .i64 x.limit,.int .i64 x.window,.slice a1 n1 d1] ++ bldC x.bl (.slice a2 n2 d2) ++ (tktC x.t ++ [.slice a3 n3 d3]):=rfl
  rw [this,List.getElem?_append_right (by simp)]
  simp only [List.length_append,List.length_cons,List.length_nil,Nat.zero_add,Nat.add_sub_cancel_left]
  rw [List.getElem?_append_left (gS hj).1]
  exact hj)
 have t2:∀ j u,(tktC y.t)[j]? = some u → w6.cell? ⟨b2,7 + j,none⟩ = some u:=fun j u hj=>holds_at hB2 (by
  have:hldC y (.slice a4 n4 d4) (.slice a5 n5 d5) (.slice a6 n6 d6) = [.int .i64 y.limit,.int .i64 y.window,.slice a4 n4 d4] ++ bldC y.bl (.slice a5 n5 d5) ++ (tktC y.t ++ [.slice a6 n6 d6]):=rfl
  rw [this,List.getElem?_append_right (by simp)]
  simp only [List.length_append,List.length_cons,List.length_nil,Nat.zero_add,Nat.add_sub_cancel_left]
  rw [List.getElem?_append_left (gS hj).1]
  exact hj)
 by_cases e6:x.t = y.t
 case neg=>
  have bad:=bad (fun e=>e6 (by rw [e])) _ (bR)
  repeat (any_goals (first
  | (with_reducible first|refine zC ?_|refine yC ?_|refine yL ?_)
  | ((with_reducible refine oG fun X Y=>?_); simp [go_sem,p0,q0,e1,p1,q1,e2,r1,r2,e3,e4,e5,t1 0 _ rfl,t1 1 _ rfl,t1 2 _ rfl,t1 3 _ rfl,t1 4 _ rfl,t1 5 _ rfl,t2 0 _ rfl,t2 1 _ rfl,t2 2 _ rfl,t2 3 _ rfl,t2 4 _ rfl,t2 5 _ rfl,e6]; apply Y; clear Y X)))
  exact bad
 repeat (any_goals (first
 | (with_reducible first|refine zC ?_|refine yC ?_|refine yM ?_)
 | ((with_reducible refine oG fun X Y=>?_); simp [go_sem,p0,q0,e1,p1,q1,e2,r1,r2,e3,e4,e5,t1 0 _ rfl,t1 1 _ rfl,t1 2 _ rfl,t1 3 _ rfl,t1 4 _ rfl,t1 5 _ rfl,t2 0 _ rfl,t2 1 _ rfl,t2 2 _ rfl,t2 3 _ rfl,t2 4 _ rfl,t2 5 _ rfl,e6,p2,q2]; apply Y; clear Y X)))
 have hx6:=hx.next h06
 have hy6:=hy.next h06
 refine sameInts_ok hx6.attrs hy6.attrs (fun w7 h7=>?_)
 by_cases e7:x.attrs = y.attrs
 case neg=>
  have bad:=bad (fun e=>e7 (by rw [e])) _ h7
  rw [decide_eq_false e7]
  repeat (any_goals (with_reducible first|refine zB ?_|refine yC ?_))
  exact bad
 rw [decide_eq_true e7]
 have r17:=(hG1.next h7).are
 have r27:=(hG2.next h7).are
 repeat (any_goals (first
 | (with_reducible refine zA ?_)
 | ((with_reducible refine oG fun X Y=>?_); simp [go_sem,r17,r27]; apply Y; clear Y X)))
 refine sameInts_ok (hx6.ys.next h7) (hy6.ys.next h7) (fun w8 h8=>?_)
 have h78:=h7.on h8
 by_cases e8:x.bl.ys = y.bl.ys
 case neg=>
  have bad:=bad (fun e=>e8 (by rw [e])) _ h78
  rw [decide_eq_false e8]
  repeat (any_goals (with_reducible first|refine zB ?_|((refine idPick ?_); first|refine yB ?_|refine yC ?_)))
  exact bad
 rw [decide_eq_true e8]
 have p13:=(h78.cell hB1.lt).trans p13
 have q13:=(h78.cell hB2.lt).trans q13
 repeat (any_goals (first
 | (with_reducible first|refine zA ?_|refine yB ?_)
 | ((with_reducible refine oG fun X Y=>?_); simp [go_sem,p13,q13]; apply Y; clear Y X)))
 refine SameLinks_ok (hx6.links.next (atOf_stay lnk_vstay) h78) (hy6.links.next (atOf_stay lnk_vstay) h78) (fun w9 h9=>?_)
 have k:=k _ (h06.on (h78.on h9))
 by_cases e9:x.links = y.links
 ·rw [decide_eq_true (hld_ext e1 e2 e3 e4 e5 e6 e7 e8 e9)] at k
  rw [decide_eq_true e9]
  repeat (any_goals (with_reducible refine yB ?_))
  exact k
 ·rw [decide_eq_false (fun e=>e9 (by rw [e]))] at k
  rw [decide_eq_false e9]
  repeat (any_goals (with_reducible refine yB ?_))
  exact k
end
def fewLk (y:Lnk):Bool:=decide (y.spend.answers.length ≤ 8) && decide (y.terms.length ≤ 210)
def fewHM (h:Hld):Bool:=(h.links.take 6).all fewLk && (decide (h.attrs.length ≤ 8) && decide (h.bl.ys.length ≤ 8) && decide (h.links.length ≤ 5))
def fewHsM (l:List Hld):Bool:=(l.take 7).all fewHM && decide (l.length ≤ 6)
section
variable {K:VK} {w w' w0 W W':World} {L:List (Addr × Value)} {rb b:Nat}
theorem FewSetup_ok (s:Stp) (lims:List Lim) {v lv:Value} (hs:Ints w v s.bases) (hl:LimR w lv lims) (k:∀ w',Bw w w' → K (.bool (decide (s.bases.length ≤ 8) && decide (lims.length ≤ 18))) w'):callM Tryz.prog 23 #[stpV s v,lv] K w:=by
 apply sh_23_ok
 unfold sh_23
 obtain ⟨a1,c1,rfl⟩:=hs.isSlice
 obtain ⟨a2,c2,rfl⟩:=hl.isSlice
 refine box_kn (cs:=stpC s (.slice a1 s.bases.length c1)) rfl (.start w) fun b1 W hk hb1 hbb=>?_
 have k:=k _ hk.below
 by_cases h:s.bases.length ≤ 8
 ·have hZ:(s.bases.length:Int) ≤ 8:=by omega
  by_cases h2:lims.length ≤ 18
  ·have h2Z:(lims.length:Int) ≤ 18:=by omega
   rw [decide_eq_true h,decide_eq_true h2] at k
   repeat (any_goals (first
   | (with_reducible first|refine pureM_in ?_|refine zA ?_|refine yB ?_)
   | ((with_reducible refine oG fun X Y=>?_); simp [go_sem,hk.cells,hZ,h2Z]; apply Y; clear Y X)))
   exact k
  ·have h2Z:¬ (lims.length:Int) ≤ 18:=by omega
   rw [decide_eq_true h,decide_eq_false h2] at k
   repeat (any_goals (first
   | (with_reducible first|refine pureM_in ?_|refine zA ?_|refine yB ?_)
   | ((with_reducible refine oG fun X Y=>?_); simp [go_sem,hk.cells,hZ,h2Z]; apply Y; clear Y X)))
   exact k
 ·have hZ:¬ (s.bases.length:Int) ≤ 8:=by omega
  rw [decide_eq_false h] at k
  repeat (any_goals (first
  | (with_reducible first|refine zB ?_|refine yC ?_)
  | ((with_reducible refine oG fun X Y=>?_); simp [go_sem,hk.cells,hZ]; apply Y; clear Y X)))
  exact k
theorem FewHeld_ok (x:Hld) {av yv kv:Value} (hx:HldR w x av yv kv) (k:∀ w',Bw w w' → K (.bool (fewHM x)) w'):callM Tryz.prog 13 #[hldV x av yv kv] K w:=by
 apply sh_13_ok
 unfold sh_13
 obtain ⟨a1,d1,rfl⟩:=hx.attrs.isSlice
 obtain ⟨a2,d2,rfl⟩:=hx.ys.isSlice
 obtain ⟨a3,d3,rfl⟩:=hx.links.isSlice
 have hll:=hx.links.len
 refine arr_box (cs:=hldC x (.slice a1 x.attrs.length d1) (.slice a2 x.bl.ys.length d2) (.slice a3 x.links.length d3)) rfl (fun b1 w1 h1 hb1 hB1=>?_)
 have p2:=hB1.cell 2 (by simp)
 have p6:=hB1.cell 6 (by simp)
 have p13:=hB1.cell 13 (by simp)
 simp only [List.getElem_cons_zero,List.getElem_cons_succ] at p2 p6 p13
 refine ⟨fun vs W=>∃ (i:Nat),vs = [.bool false,.int .i64 (i:Int)] ∧ i ≤ x.links.length ∧ i ≤ 6 ∧ (x.links.take i).all fewLk = true ∧ Nx w1 W,
  (fun vs _=>match vs with | [_,.int _ i]=>x.links.length - i.toNat | _=>0),⟨0,rfl,by omega,by omega,rfl,bR⟩,?_⟩
 rintro _ _ w2 ⟨i,rfl,hi,hi6,ha,h2⟩
 have p2:=(h2.cell hB1.lt).trans p2
 have p6:=(h2.cell hB1.lt).trans p6
 have p13:=(h2.cell hB1.lt).trans p13
 by_cases hil:i < x.links.length ∧ i < 6
 ·have hi1:(i:Int) < x.links.length:=by omega
  have hi2:(i:Int) ≤ 5:=by omega
  have hL:=hx.links.next (atOf_stay lnk_vstay) (h1.on h2)
  obtain ⟨lb,lo,rfl,hlb,cs,hcl,hcc,yv,rfl,hA,hw⟩:=hL.at hil.1
  obtain ⟨e1,n1,rfl⟩:=hA.isSlice
  have hc:=lnk_cells hcc
  have hnext:(x.links.take (i + 1)).all fewLk = fewLk x.links[i]:=by
   rw [List.take_succ_eq_append_getElem hil.1,List.all_append,ha]; simp
  have bad:fewLk x.links[i] = false → K (.bool false) w2:=fun e=>by
   have k:=k _ (h1.on h2)
   have:fewHM x = false:=by
    unfold fewHM
    rw [Bool.and_eq_false_iff]
    left
    rw [List.all_eq_false]
    refine ⟨x.links[i],?_,by rw [e]; simp⟩
    rw [List.mem_take_iff_getElem]
    exact ⟨i,by omega,rfl⟩
   rwa [this] at k
  by_cases q1:x.links[i].spend.answers.length ≤ 8
  ·have q1Z:¬ (8:Int) < x.links[i].spend.answers.length:=by omega
   by_cases q2:x.links[i].terms.length ≤ 210
   ·have q2Z:¬ (210:Int) < x.links[i].terms.length:=by omega
    repeat (any_goals (first
    | (with_reducible first|refine pureM_in ?_|((refine idGd ?_); first|refine zA ?_|refine zC ?_)|((refine idPick ?_); first|refine yB ?_|refine yC ?_)|((refine idCond ?_); first|refine yL ?_|refine yM ?_))
    | ((with_reducible refine oG fun X Y=>?_); simp [go_sem,p13,hi1,hi2,hc.2.2.2.2.2.2.2.1,hc.2.2.2.2.2.2.2.2,q1Z,q2Z]; (try simp (disch:=omega) only [wrapI64,wrapU8,wrapU32,wrapU64]); apply Y; clear Y X)))
    exact ⟨⟨i + 1,rfl,by omega,by omega,by rw [hnext]; unfold fewLk; rw [decide_eq_true q1,decide_eq_true q2]; rfl,h2⟩,by show x.links.length - (((i + 1:Nat):Int)).toNat < x.links.length - ((i:Nat):Int).toNat; omega⟩
   ·have q2Z:(210:Int) < x.links[i].terms.length:=by omega
    have bad:=bad (by unfold fewLk; rw [decide_eq_false q2]; simp)
    repeat (any_goals (first
    | (with_reducible first|refine pureM_in ?_|((refine idGd ?_); first|refine zA ?_|refine zC ?_)|((refine idPick ?_); first|refine yB ?_|refine yC ?_)|refine yL ?_)
    | ((with_reducible refine oG fun X Y=>?_); simp [go_sem,p13,hi1,hi2,hc.2.2.2.2.2.2.2.1,hc.2.2.2.2.2.2.2.2,q1Z,q2Z]; apply Y; clear Y X)))
    exact bad
  ·have q1Z:(8:Int) < x.links[i].spend.answers.length:=by omega
   have bad:=bad (by unfold fewLk; rw [decide_eq_false q1]; rfl)
   repeat (any_goals (first
   | (with_reducible first|refine pureM_in ?_|((refine idGd ?_); first|refine zA ?_|refine zD ?_)|refine yB ?_|refine yL ?_)
   | ((with_reducible refine oG fun X Y=>?_); simp [go_sem,p13,hi1,hi2,hc.2.2.2.2.2.2.2.1,hc.2.2.2.2.2.2.2.2,q1Z]; apply Y; clear Y X)))
   exact bad
 ·have e6:(x.links.take 6).all fewLk = true:=by
   by_cases h6:i = 6
   ·rw [← h6]; exact ha
   ·have:i = x.links.length:=by omega
    rw [this,List.take_length] at ha
    rw [List.take_of_length_le (by omega)]
    exact ha
  have k2:∀ r,(decide (x.attrs.length ≤ 8) && decide (x.bl.ys.length ≤ 8) && decide (x.links.length ≤ 5)) = r → K (.bool r) w2:=fun r e=>by
   have k:=k _ (h1.on h2)
   unfold fewHM at k
   rw [e6,e] at k
   exact k
  have hend:∀ (P:Prop) (t:P) ,P:=fun _ t=>t
  by_cases q1:x.attrs.length ≤ 8
  ·have q1Z:(x.attrs.length:Int) ≤ 8:=by omega
   by_cases q2:x.bl.ys.length ≤ 8
   ·have q2Z:(x.bl.ys.length:Int) ≤ 8:=by omega
    by_cases q3:x.links.length ≤ 5
    ·have q3Z:(x.links.length:Int) ≤ 5:=by omega
     have hi1:¬ (i:Int) < x.links.length:=by omega
     have k2:=k2 _ (by rw [decide_eq_true q1,decide_eq_true q2,decide_eq_true q3])
     repeat (any_goals (first
     | (with_reducible first|((refine idGd ?_); first|refine zA ?_|refine zB ?_)|((refine idPick ?_); first|refine yB ?_|refine yC ?_)|refine yM ?_)
     | ((with_reducible refine oG fun X Y=>?_); simp [go_sem,p13,p2,p6,hi1,q1Z,q2Z,q3Z]; apply Y; clear Y X)))
     exact k2
    ·have q3Z:¬ (x.links.length:Int) ≤ 5:=by omega
     have k2:=k2 _ (by rw [decide_eq_true q1,decide_eq_true q2,decide_eq_false q3])
     by_cases hi1:(i:Int) < x.links.length
     ·have hi2:¬ (i:Int) ≤ 5:=by omega
      repeat (any_goals (first
      | (with_reducible first|refine pureM_in ?_|refine zA ?_|refine yB ?_|refine yM ?_)
      | ((with_reducible refine oG fun X Y=>?_); simp [go_sem,p13,p2,p6,hi1,hi2,q1Z,q2Z,q3Z]; apply Y; clear Y X)))
      exact k2
     ·repeat (any_goals (first
      | (with_reducible first|((refine idGd ?_); first|refine zA ?_|refine zB ?_)|((refine idPick ?_); first|refine yB ?_|refine yC ?_)|refine yM ?_)
      | ((with_reducible refine oG fun X Y=>?_); simp [go_sem,p13,p2,p6,hi1,q1Z,q2Z,q3Z]; apply Y; clear Y X)))
      exact k2
   ·have q2Z:¬ (x.bl.ys.length:Int) ≤ 8:=by omega
    have k2:=k2 _ (by rw [decide_eq_true q1,decide_eq_false q2])
    by_cases hi1:(i:Int) < x.links.length
    ·have hi2:¬ (i:Int) ≤ 5:=by omega
     repeat (any_goals (first
     | (with_reducible first|refine pureM_in ?_|((refine idGd ?_); first|refine zA ?_|refine zB ?_)|((refine idPick ?_); first|refine yB ?_|refine yC ?_)|refine yM ?_)
     | ((with_reducible refine oG fun X Y=>?_); simp [go_sem,p13,p2,p6,hi1,hi2,q1Z,q2Z]; apply Y; clear Y X)))
     exact k2
    ·repeat (any_goals (first
     | (with_reducible first|((refine idGd ?_); first|refine zA ?_|refine zB ?_)|((refine idPick ?_); first|refine yB ?_|refine yC ?_)|refine yM ?_)
     | ((with_reducible refine oG fun X Y=>?_); simp [go_sem,p13,p2,p6,hi1,q1Z,q2Z]; apply Y; clear Y X)))
     exact k2
  ·have q1Z:¬ (x.attrs.length:Int) ≤ 8:=by omega
   have k2:=k2 _ (by rw [decide_eq_false q1])
   by_cases hi1:(i:Int) < x.links.length
   ·have hi2:¬ (i:Int) ≤ 5:=by omega
    repeat (any_goals (first
    | (with_reducible first|refine pureM_in ?_|((refine idGd ?_); first|refine zA ?_|refine zB ?_)|((refine idPick ?_); first|refine yB ?_|refine yC ?_)|refine yM ?_)
    | ((with_reducible refine oG fun X Y=>?_); simp [go_sem,p13,p2,p6,hi1,hi2,q1Z]; apply Y; clear Y X)))
    exact k2
   ·repeat (any_goals (first
    | (with_reducible first|refine zB ?_|refine yC ?_|refine yM ?_)
    | ((with_reducible refine oG fun X Y=>?_); simp [go_sem,p13,p2,p6,hi1,q1Z]; apply Y; clear Y X)))
    exact k2
theorem fewHelds_ok (l:List Hld) {v:Value} (hr:SRow 14 (AtOf 14 VHld) w v l) (k:∀ w',Bw w w' → K (.bool (fewHsM l)) w'):callM Tryz.prog 24 #[v] K w:=by
 apply sh_24_ok
 unfold sh_24
 obtain ⟨ad,d,rfl⟩:=hr.isSlice
 have hll:=hr.len
 refine ⟨fun vs W=>∃ (i:Nat),vs = [.bool false,.int .i64 (i:Int)] ∧ i ≤ l.length ∧ i ≤ 7 ∧ (l.take i).all fewHM = true ∧ Nx w W,
  (fun vs _=>match vs with | [_,.int _ i]=>l.length - i.toNat | _=>0),⟨0,rfl,by omega,by omega,rfl,bR⟩,?_⟩
 rintro _ _ w2 ⟨i,rfl,hi,hi7,ha,h2⟩
 by_cases hil:i < l.length ∧ i < 7
 ·have hi1:(i:Int) < l.length:=by omega
  have hi2:(i:Int) ≤ 6:=by omega
  have hL:=hr.next (atOf_stay hld_vstay) h2
  obtain ⟨lb,lo,rfl,hlb,cs,hcl,hcc,av,yv,kv,rfl,hH⟩:=hL.at hil.1
  obtain ⟨a1,n1,d1,a2,n2,d2,a3,n3,d3,rfl,rfl,rfl⟩:=hldR_slices hH
  have hnext:(l.take (i + 1)).all fewHM = fewHM l[i]:=by
   rw [List.take_succ_eq_append_getElem hil.1,List.all_append,ha]; simp
  repeat (any_goals (first
  | (with_reducible first|refine pureM_in ?_|refine zA ?_|refine yB ?_|refine yL ?_)
  | ((with_reducible refine oG fun X Y=>?_); simp [go_sem,hi1,hi2]; apply Y; clear Y X)))
  refine row_load (cs:=hldC l[i] (.slice a1 n1 d1) (.slice a2 n2 d2) (.slice a3 n3 d3)) hcc un_hld (by kernel_rfl) (by kernel_rfl) ?_
  refine FewHeld_ok l[i] hH (fun w3 h3=>?_)
  cases hf:fewHM l[i] with
  | true=>
   repeat (any_goals (first
   | (with_reducible refine yM ?_)
   | ((with_reducible refine oG fun X Y=>?_); simp [go_sem]; (try simp (disch:=omega) only [wrapI64,wrapU8,wrapU32,wrapU64]); apply Y; clear Y X)))
   exact ⟨⟨i + 1,rfl,by omega,by omega,by rw [hnext,hf],h2.on h3⟩,by show l.length - (((i + 1:Nat):Int)).toNat < l.length - ((i:Nat):Int).toNat; omega⟩
  | false=>
   have k:=k _ (h2.on h3)
   have:fewHsM l = false:=by
    unfold fewHsM
    rw [Bool.and_eq_false_iff]
    left
    rw [List.all_eq_false]
    refine ⟨l[i],?_,by rw [hf]; simp⟩
    rw [List.mem_take_iff_getElem]
    exact ⟨i,by omega,rfl⟩
   rw [this] at k
   repeat (any_goals (first
   | (with_reducible refine yL ?_)
   | ((with_reducible refine oG fun X Y=>?_); simp [go_sem]; apply Y; clear Y X)))
   exact k
 ·have e6:(l.take 7).all fewHM = true:=by
   by_cases h6:i = 7
   ·rw [← h6]; exact ha
   ·have:i = l.length:=by omega
    rw [this,List.take_length] at ha
    rw [List.take_of_length_le (by omega)]
    exact ha
  have k2:K (.bool (decide (l.length ≤ 6))) w2:=by
   have k:=k _ h2
   unfold fewHsM at k
   rw [e6] at k
   exact k
  by_cases q3:l.length ≤ 6
  ·have q3Z:(l.length:Int) ≤ 6:=by omega
   have hi1:¬ (i:Int) < l.length:=by omega
   rw [decide_eq_true q3] at k2
   repeat (any_goals (first
   | (with_reducible first|refine zB ?_|refine yC ?_|refine yM ?_)
   | ((with_reducible refine oG fun X Y=>?_); simp [go_sem,hi1,q3Z]; apply Y; clear Y X)))
   exact k2
  ·have q3Z:¬ (l.length:Int) ≤ 6:=by omega
   rw [decide_eq_false q3] at k2
   by_cases hi1:(i:Int) < l.length
   ·have hi2:¬ (i:Int) ≤ 6:=by omega
    repeat (any_goals (first
    | (with_reducible first|refine pureM_in ?_|refine zA ?_|refine yB ?_|refine yM ?_)
    | ((with_reducible refine oG fun X Y=>?_); simp [go_sem,hi1,hi2,q3Z]; apply Y; clear Y X)))
    exact k2
   ·repeat (any_goals (first
    | (with_reducible first|refine zB ?_|refine yC ?_|refine yM ?_)
    | ((with_reducible refine oG fun X Y=>?_); simp [go_sem,hi1,q3Z]; apply Y; clear Y X)))
    exact k2
theorem few_small {x:Hld} (h:fewHM x = true):SmallH x:=by
 unfold fewHM at h
 simp only [bA,dE] at h
 obtain ⟨h1,⟨h2,h3⟩,h4⟩:=h
 rw [List.take_of_length_le (by omega),List.all_eq_true] at h1
 refine ⟨by omega,by omega,by omega,fun y hy=>?_⟩
 have:=h1 y hy
 simp only [fewLk,bA,dE] at this
 omega
theorem fewHs_all {l:List Hld} (h:fewHsM l = true):l.length ≤ 6 ∧ ∀ x ∈ l,fewHM x = true:=by
 unfold fewHsM at h
 simp only [bA,dE] at h
 obtain ⟨h1,h2⟩:=h
 rw [List.take_of_length_le (by omega),List.all_eq_true] at h1
 exact ⟨h2,h1⟩
theorem itm_tail {b p:Nat} {x:Itm} {av yv lv:Value} (h:∀ j u,(itmC x av yv lv)[j]? = some u → w.cell? ⟨b,p + j,none⟩ = some u) :
  w.cell? ⟨b,p + 14,none⟩ = some (.int .i64 x.status) ∧ w.cell? ⟨b,p + 15,none⟩ = some (.int .i64 x.dare) ∧ w.cell? ⟨b,p + 16,none⟩ = some (.bool x.lent) ∧ w.cell? ⟨b,p + 17,none⟩ = some (.bool x.back):=
 ⟨h 14 _ rfl,h 15 _ rfl,h 16 _ rfl,h 17 _ rfl⟩
theorem itm_held {b p:Nat} {x:Itm} {av yv lv:Value} (h:∀ j u,(itmC x av yv lv)[j]? = some u → w.cell? ⟨b,p + j,none⟩ = some u) :
  ∀ j u,(hldC x.held av yv lv)[j]? = some u → w.cell? ⟨b,p + j,none⟩ = some u:=fun j u hj=>h j u (by
 have:itmC x av yv lv = hldC x.held av yv lv ++ [.int .i64 x.status,.int .i64 x.dare,.bool x.lent,.bool x.back]:=rfl
 rw [this,List.getElem?_append_left (gS hj).1]
 exact hj)
theorem itm_ext {x y:Itm} (h1:x.held = y.held) (h2:x.status = y.status) (h3:x.dare = y.dare) (h4:x.lent = y.lent) (h5:x.back = y.back):x = y:=by
 obtain ⟨a,b,c,d,e⟩:=x
 obtain ⟨a',b',c',d',e'⟩:=y
 simp only at *
 subst h1 h2 h3 h4 h5
 rfl
theorem held_load {P:Program} {T T':TypeId} {b p:Nat} {cs:List Value} {d:TypeDesc} {C:WK} {KQ:Value → Prop} (hc:∀ W,C W → ∀ (j:Nat) (v:Value),cs[j]? = some v → W.cell? ⟨b,p + j,none⟩ = some v)
  (hu:P.underlying T = some d) (hd:(match d with | .struct _ | .array _ _=>true | _=>false) = true) (hi:(P.info? T).map (·.size) = some cs.length) (k:KQ (.agg cs.toArray)) :
  oH P (.load T (.tmp 0)) T' [.pointer (some ⟨b,p,none⟩)] C KQ:=
 oH_of ⟨_,rfl⟩ (fun W h=>row_load (hc W h) hu hd hi ⟨rfl,rfl⟩) k
set_option maxHeartbeats 4000000 in
theorem SameItems_ok {va vb:Value} {l m:List Itm} (ha:SRow 18 (AtOf 18 VItm) w va l) (hb:SRow 18 (AtOf 18 VItm) w vb m) (k:∀ w',Bw w w' → K (.bool (decide (l = m))) w'):callM Tryz.prog 29 #[va,vb] K w:=by
 apply sh_29_ok
 unfold sh_29
 obtain ⟨a1,c1,rfl⟩:=ha.isSlice
 obtain ⟨a2,c2,rfl⟩:=hb.isSlice
 have hll:=ha.len
 by_cases hl:l.length = m.length
 ·have hlZ:(l.length:Int) = m.length:=by omega
  repeat (any_goals (first
  | (with_reducible refine yM ?_)
  | ((with_reducible refine oG fun X Y=>?_); simp [go_sem,hlZ]; apply Y; clear Y X)))
  refine ⟨fun vs W=>∃ (i:Nat),vs = [.bool false,.int .i64 (i:Int)] ∧ i ≤ l.length ∧ l.take i = m.take i ∧ Nx w W,
   (fun vs _=>match vs with | [_,.int _ i]=>l.length - i.toNat | _=>0),⟨0,rfl,by omega,rfl,bR⟩,?_⟩
  rintro _ _ w2 ⟨i,rfl,hi,he,h2⟩
  by_cases hin:i = l.length
  ·have e:l = m:=by
    rw [hin,List.take_length,hl,List.take_length] at he
    exact he
   have k:=k _ h2
   rw [decide_eq_true e] at k
   have hn:¬ (i:Int) < m.length:=by omega
   repeat (any_goals (first
   | (with_reducible refine yM ?_)
   | ((with_reducible refine oG fun X Y=>?_); simp [go_sem,hn,hlZ]; apply Y; clear Y X)))
   exact k
  ·have hil:i < l.length:=by omega
   have him:i < m.length:=by omega
   have hiZ:(i:Int) < m.length:=by omega
   have ha2:=ha.next (atOf_stay itm_vstay) h2
   have hb2:=hb.next (atOf_stay itm_vstay) h2
   obtain ⟨b1,o1,rfl,hb1,cs1,hc1,hcc1,av,yv,kv,rfl,hA1,-⟩:=ha2.at hil
   obtain ⟨b2,o2,rfl,hb2l,cs2,hc2,hcc2,av2,yv2,kv2,rfl,hA2,-⟩:=hb2.at him
   have het:l.take (i + 1) = m.take (i + 1) ↔ l[i] = m[i]:=by
    rw [List.take_succ_eq_append_getElem hil,List.take_succ_eq_append_getElem him,he]
    exact ⟨fun h=>by simpa using List.append_cancel_left h,fun h=>by rw [h]⟩
   have hne:l[i] ≠ m[i] → l ≠ m:=fun h e=>h (by subst e; rfl)
   generalize l[i] = x at *
   generalize m[i] = y at *
   repeat (any_goals (first
   | (with_reducible refine yL ?_)
   | ((with_reducible refine oG fun X Y=>?_); simp [go_sem,hiZ,hlZ]; apply Y; clear Y X)))
   refine ⟨Nx { w2 with drawn:=w2.drawn + 1 },bR,rfl,?_⟩
   have h2d:=h2.on (.drawn (B:=w2.heap.size))
   have hbd:Below w2.heap.size w2 { w2 with drawn:=w2.drawn + 1 }:=.drawn
   generalize ({ w2 with drawn:=w2.drawn + 1 }:World) = W3 at h2d hbd ⊢
   have q1:=fun W0 (h:Nx W3 W0) (j:Nat) (u:Value) (hj:(itmC x av yv kv)[j]? = some u)=>((hbd.on h).cell hb1).trans (hcc1 j u hj)
   have q2:=fun W0 (h:Nx W3 W0) (j:Nat) (u:Value) (hj:(itmC y av2 yv2 kv2)[j]? = some u)=>((hbd.on h).cell hb2l).trans (hcc2 j u hj)
   have bad:x ≠ y → ∀ w',Nx W3 w' → K (.bool false) w':=fun e w' hn=>by
    have k:=k _ (h2d.on hn)
    rwa [decide_eq_false (hne e)] at k
   iterate 4 (any_goals (first
   | (with_reducible refine pX ?_)
   | ((with_reducible refine idOH ?_); (with_reducible refine oH_of ⟨_,rfl⟩ (fun W0 hW0=>by (refine oG (fun X Y=>?_)); simp [go_sem,hiZ,hlZ]; (first | exact Y _ _ ⟨rfl,rfl⟩ | exact ⟨by omega,Y _ _ ⟨rfl,rfl⟩⟩)) ?_))))
   refine held_load (cs:=hldC x.held av yv kv) (fun W h=>itm_held (q1 W h)) un_hld (by kernel_rfl) (by kernel_rfl) ?_
   iterate 4 (any_goals (first
   | (with_reducible refine pX ?_)
   | ((with_reducible refine idOH ?_); (with_reducible refine oH_of ⟨_,rfl⟩ (fun W0 hW0=>by (refine oG (fun X Y=>?_)); simp [go_sem,hiZ,hlZ]; (first | exact Y _ _ ⟨rfl,rfl⟩ | exact ⟨by omega,Y _ _ ⟨rfl,rfl⟩⟩)) ?_))))
   refine held_load (cs:=hldC y.held av2 yv2 kv2) (fun W h=>itm_held (q2 W h)) un_hld (by kernel_rfl) (by kernel_rfl) ?_
   refine ⟨Nx,?_⟩
   apply monoE
   ·intro w9 h9
    exact SameHeld_ok x.held y.held (hA1.next (hbd.on h9)) (hA2.next (hbd.on h9)) (fun w5 h5=>⟨h9.on h5,h5,rfl⟩)
   by_cases e1:x.held = y.held
   case neg=>
    rw [decide_eq_false e1]
    repeat (apply monoE; focus (intro w9 h9; (repeat (intro v9 e9; try (obtain rfl:=e9))); (repeat (any_goals (first
     | (with_reducible first|refine zD ?_|refine yB ?_)
     | ((with_reducible refine oG fun X Y=>?_); simp [go_sem]; apply Y; clear Y X)))); exact ⟨h9,bR,rfl⟩))
    (intro w9 h9; repeat (intro v9 e9; try (obtain rfl:=e9)))
    rename_i h9
    have bad:=bad (fun e=>e1 (by rw [e])) _ h9
    repeat (any_goals (with_reducible first|refine zD ?_|refine yB ?_|refine yL ?_))
    exact bad
   rw [decide_eq_true e1]
   by_cases e2:x.status = y.status
   case neg=>
    repeat (apply monoE; focus (intro w9 h9; (repeat (intro v9 e9; try (obtain rfl:=e9))); (repeat (any_goals (first
     | (with_reducible first|refine pureM_in ?_|((refine idGd ?_); first|refine zC ?_|refine zD ?_)|((refine idPick ?_); first|refine yB ?_|refine yC ?_))
     | ((with_reducible refine oG fun X Y=>?_); simp [go_sem,itm_tail (q1 _ h9),itm_tail (q2 _ h9),e2,hiZ,hlZ]; apply Y; clear Y X)))); exact ⟨h9,bR,rfl⟩))
    (intro w9 h9; repeat (intro v9 e9; try (obtain rfl:=e9)))
    rename_i h9
    have bad:=bad (fun e=>e2 (by rw [e])) _ h9
    repeat (any_goals (with_reducible first|refine zD ?_|refine yB ?_|refine yL ?_))
    exact bad
   by_cases e3:x.dare = y.dare
   case neg=>
    repeat (apply monoE; focus (intro w9 h9; (repeat (intro v9 e9; try (obtain rfl:=e9))); (repeat (any_goals (first
     | (with_reducible first|refine pureM_in ?_|((refine idGd ?_); first|refine zC ?_|refine zD ?_)|((refine idPick ?_); first|refine yB ?_|refine yC ?_))
     | ((with_reducible refine oG fun X Y=>?_); simp [go_sem,itm_tail (q1 _ h9),itm_tail (q2 _ h9),e2,e3,hiZ,hlZ]; apply Y; clear Y X)))); exact ⟨h9,bR,rfl⟩))
    (intro w9 h9; repeat (intro v9 e9; try (obtain rfl:=e9)))
    rename_i h9
    have bad:=bad (fun e=>e3 (by rw [e])) _ h9
    repeat (any_goals (with_reducible first|refine zD ?_|refine yB ?_|refine yL ?_))
    exact bad
   by_cases e4:x.lent = y.lent
   case neg=>
    repeat (apply monoE; focus (intro w9 h9; (repeat (intro v9 e9; try (obtain rfl:=e9))); (repeat (any_goals (first
     | (with_reducible first|refine pureM_in ?_|((refine idGd ?_); first|refine zC ?_|refine zD ?_)|refine yC ?_)
     | ((with_reducible refine oG fun X Y=>?_); simp [go_sem,itm_tail (q1 _ h9),itm_tail (q2 _ h9),e2,e3,e4,hiZ,hlZ]; apply Y; clear Y X)))); exact ⟨h9,bR,rfl⟩))
    (intro w9 h9; repeat (intro v9 e9; try (obtain rfl:=e9)))
    rename_i h9
    have bad:=bad (fun e=>e4 (by rw [e])) _ h9
    repeat (any_goals (with_reducible first|refine zD ?_|refine yB ?_|refine yL ?_))
    exact bad
   repeat (apply monoE; focus (intro w9 h9; (repeat (intro v9 e9; try (obtain rfl:=e9))); (repeat (any_goals (first
    | (with_reducible first|refine pureM_in ?_|refine zC ?_|refine yC ?_)
    | ((with_reducible refine oG fun X Y=>?_); simp [go_sem,itm_tail (q1 _ h9),itm_tail (q2 _ h9),e2,e3,e4,hiZ,hlZ]; apply Y; clear Y X)))); exact ⟨h9,bR,rfl⟩))
   (intro w9 h9; repeat (intro v9 e9; try (obtain rfl:=e9)))
   rename_i h9
   by_cases e5:x.back = y.back
   ·repeat (any_goals (first
    | (with_reducible first|refine zC ?_|refine yC ?_|refine yM ?_)
    | ((with_reducible refine oG fun X Y=>?_); simp [go_sem,e5]; (try simp (disch:=omega) only [wrapI64,wrapU8,wrapU32,wrapU64]); apply Y; clear Y X)))
    exact ⟨⟨i + 1,rfl,by omega,het.2 (itm_ext e1 e2 e3 e4 e5),h2d.on h9⟩,by show l.length - (((i + 1:Nat):Int)).toNat < l.length - ((i:Nat):Int).toNat; omega⟩
   ·have bad:=bad (fun e=>e5 (by rw [e])) _ h9
    repeat (any_goals (first
    | (with_reducible first|refine zC ?_|refine yC ?_|refine yL ?_)
    | ((with_reducible refine oG fun X Y=>?_); simp [go_sem,e5]; apply Y; clear Y X)))
    exact bad
 ·have hlZ:¬ (l.length:Int) = m.length:=by omega
  have k:=k _ (bR)
  rw [decide_eq_false (fun e=>hl (by rw [e]))] at k
  repeat (any_goals (first
  | (with_reducible refine yL ?_)
  | ((with_reducible refine oG fun X Y=>?_); simp [go_sem,hlZ]; apply Y; clear Y X)))
  exact k
end
end Go.Proofs
namespace PuSpec
open FdSpec TkSpec CodeSpec DkSpec JnSpec
variable {s:Stp} {lims:List Lim} {A:Ab} {p:Pst} {all sure:List Bytes} {n:Nat}
def Apart (l:List Hld):Prop:=l.Pairwise fun a b=>a.t ≠ b.t
end PuSpec
namespace PuSpec
open FdSpec TkSpec CodeSpec DkSpec JnSpec
variable {s:Stp} {lims:List Lim} {A:Ab} {p:Pst} {all sure:List Bytes} {n:Nat}
end PuSpec
namespace PuSpec
open FdSpec TkSpec CodeSpec DkSpec JnSpec
variable {s:Stp} {lims:List Lim} {A:Ab} {p:Pst} {all sure:List Bytes}
end PuSpec
namespace PuSpec
open FdSpec TkSpec CodeSpec DkSpec JnSpec
variable {s:Stp} {lims:List Lim} {A:Ab} {p:Pst} {all sure:List Bytes} {n:Nat}
theorem Up.dsync (h:Up s lims A p sure n):(syncA A 0).1 = 0 ∧ Up s lims (syncA A 0).2 p p.j.recs n:=by
 obtain ⟨B,e,u,l⟩:=h.u.sync_rec h.live zero15 h.nb
 unfold syncJ at e
 rw [if_neg (by rw [h.nb]; simp)] at e
 have e1:(syncA A 0).1 = 0:=congrArg (fun x=>x.1) e
 have e2:(syncA A 0).2 = B:=congrArg (fun x=>x.2.1) e
 rw [e2]
 obtain ⟨rj,h1,h2⟩:=h.inv.live
 exact ⟨e1,u,⟨.inl ⟨h.nb,l⟩,h.inv.all,⟨rj,h1,h2⟩,spent_sure h1 h2⟩,h.nb,h.cnt,h.vs,h.vl,h.items⟩
theorem has_fresh {l:List Hld} {t:Tkt} (h:hasM (l.map freshI) t = false):∀ x ∈ l,x.t ≠ t:=by
 simp only [hasM,List.any_map,List.any_eq_false,Function.comp_apply,decide_eq_true_eq] at h
 exact h
theorem addAll_up2:∀ (hs:List Hld) {A:Ab} {p:Pst} {n:Nat} (l0:List Hld),Up s lims A p sure n → n + hs.length ≤ 50 → (∀ x ∈ hs,WHld x) → p.items = l0.map freshI → (∀ x ∈ l0,validM s lims x = true) → Apart l0 →
  ∃ B q l,addAll s lims hs A p = some (B,q) ∧ Up s lims B q sure (n + hs.length) ∧ q.items = l.map freshI ∧ (∀ x ∈ l,x ∈ hs ∨ x ∈ l0) ∧ (∀ x ∈ l,validM s lims x = true) ∧ Apart l
 | [],A,p,n,l0,h,_,_,hi,hv,ha=>⟨A,p,l0,rfl,h,hi,fun x hx=>.inr hx,hv,ha⟩
 | x :: hs,A,p,n,l0,h,hn,hw,hi,hv,ha=>by
  simp only [List.length_cons] at hn
  rcases h.add (by omega) (hw x (by simp)) with ⟨e1,e2,e3⟩ | ⟨e1,B,q,e2,e3,e4,e5,u⟩
  ·have u':Up s lims A p sure (n + 1):={ h with cnt:=by have:=h.cnt; omega }
   obtain ⟨B,q,l,f1,f2,f3,f4,f5,f6⟩:=addAll_up2 hs l0 u' (by omega) (fun y hy=>hw y (by simp [hy])) hi hv ha
   refine ⟨B,q,l,?_,?_,f3,fun y hy=>(f4 y hy).imp (fun h=>by simp [h]) id,f5,f6⟩
   ·rw [addAll,e2,if_pos (by rcases e3 with e | e <;> rw [e] <;> simp)]
    exact f1
   ·rw [List.length_cons,show n + (hs.length + 1) = n + 1 + hs.length by omega]; exact f2
  ·have hne:=has_fresh (by rw [← hi]; exact e5)
   obtain ⟨C,r,l,f1,f2,f3,f4,f5,f6⟩:=addAll_up2 hs (l0 ++ [x]) u (by omega) (fun y hy=>hw y (by simp [hy])) (by rw [e3,hi]; simp)
    (fun y hy=>(List.mem_append.1 hy).elim (hv y) (fun h=>by simp only [List.mem_singleton] at h; subst h; exact e4))
    (by
     refine List.pairwise_append.2 ⟨ha,by simp,fun y hy z hz=>?_⟩
     simp only [List.mem_singleton] at hz
     subst hz
     exact hne y hy)
   refine ⟨C,r,l,?_,?_,f3,fun y hy=>?_,f5,f6⟩
   ·rw [addAll,e2,if_pos (by simp)]
    exact f1
   ·rw [List.length_cons,show n + (hs.length + 1) = n + 1 + hs.length by omega]; exact f2
   ·rcases f4 y hy with h1 | h1
    ·exact .inl (by simp [h1])
    ·rcases List.mem_append.1 h1 with h1 | h1
     ·exact .inr h1
     ·simp only [List.mem_singleton] at h1
      exact .inl (by simp [h1])
structure Fresh0 (s:Stp) (lims:List Lim) (hs:List Hld) (p:Pst) (l:List Hld):Prop where
 items:p.items = l.map freshI
 mem:∀ x ∈ l,x ∈ hs
 valid:∀ x ∈ l,validM s lims x = true
 apart:Apart l
theorem opened_plain {hs:List Hld} (hv:validS s = true) (hl:limsM lims = true) (hw:∀ x ∈ hs,WHld x) (hn:hs.length ≤ 6) :
  ∃ B0 B q l,openP s lims newA = (some ⟨⟨[],0,false⟩,[]⟩,0,B0) ∧ addAll s lims hs B0 ⟨⟨[],0,false⟩,[]⟩ = some (B,q) ∧ Up s lims (syncA B 0).2 q q.j.recs 6 ∧ Fresh0 s lims hs q l:=by
 obtain ⟨B0,e,u⟩:=open_newP hv hl
 obtain ⟨B,q,l,f1,f2,f3,f4,f5,f6⟩:=addAll_up2 hs [] u (by omega) hw rfl (by simp) List.Pairwise.nil
 have f2':Up s lims B q [] 6:={ f2 with cnt:=by have:=f2.cnt; omega }
 exact ⟨B0,B,q,l,e,f1,f2'.dsync.2,f3,fun x hx=>(f4 x hx).elim id (fun h=>by cases h),f5,f6⟩
theorem openP_bad {A:Ab} (h:validS s = false ∨ limsM lims = false):openP s lims A = (none,1,A):=by
 unfold openP
 rw [if_pos (by rcases h with h | h <;> simp [h])]
end PuSpec
namespace Go.Proofs
open Go Go.Sh Go.RowKit FdSpec TkSpec CodeSpec PuSpec DkSpec JnSpec
section
variable {K:VK} {w w' w0 W W':World} {L:List (Addr × Value)} {rb b:Nat} {s:Stp} {lims:List Lim} {p p':Ph} {A:Ab} {P:Pst}
theorem nil_disk {T:TypeId} (b:Nat) (k:K (.bool false) w):oM Tryz.prog (Go.Op.binOp Go.BinOp.eql 55 (.tmp 0) (.const (.pointer none)) 55) T [.pointer (some ⟨b,0,none⟩)] K w:=by
 skip
 exact k
theorem purse_none {T:TypeId} (k:K (.bool true) w):oM Tryz.prog (Go.Op.binOp Go.BinOp.eql 56 (.tmp 0) (.const (.pointer none)) 56) T [.pointer none] K w:=by
 skip
 exact k
theorem PuR.dstep {A':Ab} {h':Dk} (hP:PuR s lims w0 w p A P) (d:IsDk w' p.b A' h') (t:Step w p.b p.h w' h') :
  PuR s lims w0 w' { p with h:=h',u:=p.u } A' P ∧ PuSt p w { p with h:=h',u:=p.u } w':=by
 have:=hP.jour (s':=hP.sys.step d t) (jn':=hP.jn.step t) (JSt.of_step t)
 exact this
theorem srow_fp {hs:List Hld} {v:Value} (hr:SRow 14 (AtOf 14 VHld) w v hs) {i:Nat} (hi:i < hs.length):∃ b o d av yv kv,v = .slice (some ⟨b,o,none⟩) hs.length d ∧ b < w.heap.size ∧ (∀ j u,(hldC hs[i] av yv kv)[j]? = some u → w.cell? ⟨b,o + i * 14 + j,none⟩ = some u) ∧ HldR w hs[i] av yv kv:=by
 obtain ⟨ad,d,rfl⟩:=hr.isSlice
 obtain ⟨b,o,rfl,hb,cs,hcl,hcc,av,yv,kv,rfl,hH⟩:=hr.at hi
 exact ⟨b,o,d,av,yv,kv,rfl,hb,hcc,hH⟩
set_option maxHeartbeats 4000000 in
theorem opened_ok (hl:Cd.LaidE w) {bv lv v:Value} {hs:List Hld} (hset:SetR w s bv) (hlim:LimR w lv lims) (hr:SRow 14 (AtOf 14 VHld) w v hs) (hfew:fewHsM hs = true) (hw:∀ x ∈ hs,WHld x)
  (k0:(validS s = false ∨ limsM lims = false) → ∀ w' d,Bw w w' → K (.tuple #[dkP d,.pointer none]) w')
  (k1:∀ w' p A P l,PuR s lims w w' p A P → Up s lims A P P.j.recs 6 → Fresh0 s lims hs P l → K (.tuple #[dkP p.b,.pointer (some ⟨p.pb,0,none⟩)]) w') :
  callM Tryz.prog 25 #[stpV s bv,lv,v] K w:=by
 apply sh_25_ok
 unfold sh_25
 obtain ⟨hn,hall⟩:=fewHs_all hfew
 obtain ⟨ad,c,rfl⟩:=hset.ints.isSlice
 obtain ⟨had,hc,rfl⟩:=hr.isSlice
 refine arr_box (cs:=stpC s (.slice ad s.bases.length c)) rfl (fun b1 w1 h1 hb1 hB1=>?_)
 refine new_ok (fun w2 d dk hd2 f2 ho2 hr2=>?_)
 have h2:Bw w1 w2:=⟨f2.os,f2.tape,f2.output,f2.size,fun i hi=>f2.block i hi id⟩
 have h02:=h1.on h2
 have hw8:=hl.size
 have s2:Sys w2 d newA dk:=⟨hd2,hl.below h02 hl.size,fun i hi=>by have:=ho2 i hi; have:=h1.size; omega⟩
 have hB2:=hB1.next h2
 refine nil_disk d ?_
 iterate 1 (any_goals (with_reducible refine yM ?_))
 refine arr_load hB2 un_stp (by kernel_rfl) (by kernel_rfl) ?_
 have hsl:FP (fun i=>i < w.heap.size) w2 (fun W=>SetR W s (.slice ad s.bases.length c) ∧ LimR W lv lims):=
  (FP.of_stay (p:=fun W=>SetR W s (.slice ad s.bases.length c) ∧ LimR W lv lims) ⟨hset,hlim⟩ (fun W hb h=>⟨h.1.next hb,h.2.next (atOf_stay lim_vstay) hb⟩)).next h02 (fun i hi=>hi)
 refine Open_ok (w0:=w) hl.size h02 s2 (fun i hi=>by
  rcases hi with hi | hi
  ·have:=ho2 i hi; have:=h1.size; omega
  ·exact absurd hi (hr2 i)) (fun i hi=>⟨by have:=h02.size; omega,fun e=>by have:=ho2 i e; have:=h1.size; omega⟩) hsl (fun w3 dk3 r3 s3 t3 o3=>?_)
 by_cases hbad:validS s = false ∨ limsM lims = false
 ·have k0:=k0 hbad
  rw [openP_bad hbad] at o3 ⊢
  have hz:r3 = .pointer none:=o3
  subst hz
  have h03:Bw w w3:=h02.trans ⟨t3.fr.os,t3.fr.tape,t3.fr.output,t3.fr.size,fun i hi=>t3.fr.block i (by have:=h02.size; omega) (fun e=>by have:=ho2 i e; have:=h1.size; omega)⟩
  have k0:=k0 w3 d h03
  repeat (any_goals (first
  | (with_reducible first|refine zD ?_|refine yB ?_|refine yL ?_)
  | ((with_reducible refine oG fun X Y=>?_); simp [go_sem]; apply Y; clear Y X)))
  exact k0
 ·have hvs:validS s = true:=by cases h:validS s with | true=>rfl | false=>exact absurd (.inl h) hbad
  have hvl:limsM lims = true:=by cases h:limsM lims with | true=>rfl | false=>exact absurd (.inr h) hbad
  obtain ⟨B0,B,q,l,e0,e1,hup,hfr⟩:=opened_plain hvs hvl hw hn
  rw [e0] at s3 o3 ⊢
  obtain ⟨p0,hpb,hph,rfl,hP,-⟩:=o3
  repeat (any_goals (first
  | (with_reducible first|refine pureM_in ?_|refine zC ?_)
  | ((with_reducible refine oG fun X Y=>?_); simp [go_sem]; apply Y; clear Y X)))
  refine nil_purse p0.pb ?_
  repeat (any_goals (with_reducible first|refine yC ?_|refine yM ?_))
  refine ⟨fun vs W=>∃ (e:Value) (i:Nat) (p:Ph) (A:Ab) (P:Pst),vs = [e,.pointer none,.pointer none,.int .i64 (i:Int)] ∧ i ≤ hs.length ∧ PuR s lims w W p A P ∧ p.pb = p0.pb ∧ p.b = p0.b ∧ addAll s lims (hs.drop i) A P = some (B,q),
   (fun vs _=>match vs with | [_,_,_,.int _ i]=>hs.length - i.toNat | _=>0),⟨_,0,p0,_,_,rfl,by omega,hP,rfl,rfl,e1⟩,?_⟩
  rintro _ _ w4 ⟨e,i,p,A,P,rfl,hi,hP4,epb,eb,hadd⟩
  by_cases hin:i = hs.length
  ·subst hin
   rw [List.drop_length] at hadd
   cases hadd
   repeat (any_goals (first
   | (with_reducible refine yM ?_)
   | ((with_reducible refine oG fun X Y=>?_); simp [go_sem]; apply Y; clear Y X)))
   have hd4:=hP4.sys.d
   rw [← hpb,← eb]
   refine Sync_ok hd4 0 (fun w5 h5 d5 t5=>?_)
   obtain ⟨hP5,_⟩:=hP4.dstep d5 t5
   have k1:=k1 w5 _ _ _ l hP5 hup hfr
   rw [← epb]
   skip
   exact k1
  ·have hil:i < hs.length:=by omega
   have hiZ:(i:Int) < hs.length:=by omega
   obtain ⟨hb,ho,d',av,yv,kv,hv,hbl,hcc,hH⟩:=srow_fp hr hil
   cases hv
   have hcell:=fun j u (hj:(hldC hs[i] av yv kv)[j]? = some u)=>(hP4.bl.cell hbl).trans (hcc j u hj)
   have hFP:FP (fun j=>j < w.heap.size) w4 (fun W=>HldR W hs[i] av yv kv):=(FP.of_stay (p:=fun W=>HldR W hs[i] av yv kv) hH (fun W hb h=>h.next hb)).next hP4.bl (fun i hi=>hi)
   obtain ⟨a1,n1,d1,a2,n2,d2,a3,n3,d3,rfl,rfl,rfl⟩:=hldR_slices hH
   repeat (any_goals (first
   | (with_reducible refine yL ?_)
   | ((with_reducible refine oG fun X Y=>?_); simp [go_sem,hiZ]; apply Y; clear Y X)))
   refine row_load (cs:=hldC hs[i] (.slice a1 n1 d1) (.slice a2 n2 d2) (.slice a3 n3 d3)) hcell un_hld (by kernel_rfl) (by kernel_rfl) ?_
   rw [← epb]
   refine PAdd_ok hP4 hs[i] (D:=fun j=>j < w.heap.size) (fun j hj=>⟨by have:=hP4.bl.size; omega,fun e=>by have:=hP4.yg j e; omega⟩) hFP (fun w5 p5 hP5 t5 ⟨epb5,eb5⟩=>?_)
   rw [List.drop_eq_getElem_cons hil,addAll] at hadd
   by_cases hok:(addP s lims A P hs[i]).1 = 0 ∨ (addP s lims A P hs[i]).1 = 1 ∨ (addP s lims A P hs[i]).1 = 5
   ·rw [if_pos hok] at hadd
    generalize addP s lims A P hs[i] = r at *
    obtain ⟨re,rA,rP⟩:=r
    simp only at *
    rcases hok with rfl | rfl | rfl
    ·repeat (any_goals (first
     | (with_reducible first|refine zB ?_|refine yC ?_|refine yM ?_)
     | ((with_reducible refine oG fun X Y=>?_); simp [go_sem]; (try simp (disch:=omega) only [wrapI64,wrapU8,wrapU32,wrapU64]); apply Y; clear Y X)))
     exact ⟨⟨_,i + 1,p5,rA,rP,rfl,by omega,hP5,epb5,eb5.trans eb,hadd⟩,by show hs.length - (((i + 1:Nat):Int)).toNat < hs.length - ((i:Nat):Int).toNat; omega⟩
    ·repeat (any_goals (first
     | (with_reducible first|refine pureM_in ?_|((refine idGd ?_); first|refine zA ?_|refine zB ?_)|((refine idPick ?_); first|refine yB ?_|refine yC ?_)|refine yM ?_)
     | ((with_reducible refine oG fun X Y=>?_); simp [go_sem]; (try simp (disch:=omega) only [wrapI64,wrapU8,wrapU32,wrapU64]); apply Y; clear Y X)))
     exact ⟨⟨_,i + 1,p5,rA,rP,rfl,by omega,hP5,epb5,eb5.trans eb,hadd⟩,by show hs.length - (((i + 1:Nat):Int)).toNat < hs.length - ((i:Nat):Int).toNat; omega⟩
    ·repeat (any_goals (first
     | (with_reducible first|refine pureM_in ?_|refine zA ?_|refine yB ?_|refine yM ?_)
     | ((with_reducible refine oG fun X Y=>?_); simp [go_sem]; (try simp (disch:=omega) only [wrapI64,wrapU8,wrapU32,wrapU64]); apply Y; clear Y X)))
     exact ⟨⟨_,i + 1,p5,rA,rP,rfl,by omega,hP5,epb5,eb5.trans eb,hadd⟩,by show hs.length - (((i + 1:Nat):Int)).toNat < hs.length - ((i:Nat):Int).toNat; omega⟩
   ·rw [if_neg hok] at hadd
    cases hadd
theorem left_le (lims:List Lim) (items:List Itm) (limit now:Int):leftM lims items limit now ≤ items.length:=by
 unfold leftM
 split
 ·omega
 ·have:=List.length_filter_le (fitsI lims limit now) items
  omega
theorem srow_wf {hs:List Hld} {v:Value} (hr:SRow 14 (AtOf 14 VHld) w v hs):∀ x ∈ hs,WHld x:=by
 intro x hx
 obtain ⟨i,hi,rfl⟩:=List.mem_iff_getElem.1 hx
 obtain ⟨_,_,_,_,_,_,_,_,_,hH⟩:=srow_fp hr hi
 exact hH.wf
theorem fresh0_small {hs:List Hld} {l:List Hld} (hF:Fresh0 s lims hs P l) (hfew:fewHsM hs = true):∀ x ∈ P.items,SmallH x.held:=by
 intro x hx
 rw [hF.items] at hx
 obtain ⟨y,hy,rfl⟩:=List.mem_map.1 hx
 exact few_small ((fewHs_all hfew).2 y (hF.mem y hy))
theorem small_set {l:List Itm} (h:∀ x ∈ l,SmallH x.held) {i:Nat} {x y:Itm} (hx:l[i]? = some x) (hy:y.held = x.held):∀ z ∈ l.set i y,SmallH z.held:=by
 intro z hz
 rcases List.mem_or_eq_of_mem_set hz with hz | rfl
 ·exact h z hz
 ·rw [hy]; exact h x (List.mem_of_getElem? hx)
set_option maxHeartbeats 4000000 in
theorem left_ok (s:Stp) (lims:List Lim) (hs:List Hld) (limit now dare:Int) {bv lv v:Value} (hset:SetR w s bv) (hlim:LimR w lv lims) (hr:SRow 14 (AtOf 14 VHld) w v hs) (hI1:I64 limit) (hI2:I64 now) (hI3:I64 dare) (hl:Cd.LaidE w) (hdb:DbT w)
  (k:∀ w',Bw w w' → K (.bool true) w'):callM Tryz.prog 6 #[stpV s bv,lv,v,.int .i64 limit,.int .i64 now,.int .i64 dare] K w:=by
 apply sh_6_ok
 unfold sh_6
 obtain ⟨ad,c,rfl⟩:=hset.ints.isSlice
 obtain ⟨had,hc,rfl⟩:=hr.isSlice
 obtain ⟨lad,lc,rfl⟩:=hlim.isSlice
 refine arr_box (cs:=stpC s (.slice ad s.bases.length c)) rfl (fun b1 w1 h1 hb1 hB1=>?_)
 refine sane_ok (hl.below h1 hl.size) (DbT.next hdb h1) (fun w2 h2=>?_)
 have h02:=h1.on h2
 have hB2:=hB1.next h2
 refine arr_load hB2 un_stp (by kernel_rfl) (by kernel_rfl) ?_
 refine FewSetup_ok s lims (hset.ints.next h02) (hlim.next (atOf_stay lim_vstay) h02) (fun w3 h3=>?_)
 have h03:=h02.on h3
 cases hfs:(decide (s.bases.length ≤ 8) && decide (lims.length ≤ 18)) with
 | false=>
  have k:=k _ h03
  repeat (any_goals (first
  | (with_reducible first|refine zD ?_|refine yB ?_|refine yL ?_)
  | ((with_reducible refine oG fun X Y=>?_); simp [go_sem]; apply Y; clear Y X)))
  exact k
 | true=>
 repeat (any_goals (first
 | (with_reducible first|refine pureM_in ?_|refine zC ?_)
 | ((with_reducible refine oG fun X Y=>?_); simp [go_sem]; apply Y; clear Y X)))
 refine fewHelds_ok hs (hr.next (atOf_stay hld_vstay) h03) (fun w4 h4=>?_)
 have h04:=h03.on h4
 cases hfh:fewHsM hs with
 | false=>
  have k:=k _ h04
  repeat (any_goals (first
  | (with_reducible first|refine zC ?_|refine yC ?_|refine yL ?_)
  | ((with_reducible refine oG fun X Y=>?_); simp [go_sem]; apply Y; clear Y X)))
  exact k
 | true=>
 have hB4:=(hB2.next h3).next h4
 iterate 4 (any_goals (first
 | (with_reducible first|refine zC ?_|refine yC ?_|refine yM ?_)
 | ((with_reducible refine oG fun X Y=>?_); simp [go_sem]; apply Y; clear Y X)))
 refine arr_load hB4 un_stp (by kernel_rfl) (by kernel_rfl) ?_
 have hl4:=hl.below h04 hl.size
 refine opened_ok hl4 (hset.next h04) (hlim.next (atOf_stay lim_vstay) h04) (hr.next (atOf_stay hld_vstay) h04) hfh (srow_wf hr) (fun _ w5 d h5=>?_) (fun w5 p A P l hP hU hF=>?_)
 ·have k:=k _ (h04.on h5)
  repeat (any_goals ((with_reducible refine oG fun X Y=>?_); simp [go_sem]; apply Y; clear Y X))
  refine purse_none ?_
  repeat (any_goals (with_reducible refine yL ?_))
  exact k
 have h45:=hP.bl
 have hsm:=fresh0_small hF hfh
 repeat (any_goals ((with_reducible refine oG fun X Y=>?_); simp [go_sem]; apply Y; clear Y X))
 refine nil_purse p.pb ?_
 repeat (any_goals (with_reducible refine yM ?_))
 have hd':InR dare:=⟨hI3.1,by have:=hI3.2; omega⟩
 refine Items_own hP.st hsm (fun w6 v6 B6 h6 hG6 hB6 ho6=>?_)
 have hP6:=hP.next h6
 refine PLeft_ok hP6.st limit now (fun w7 h7=>?_)
 have hP7:=hP6.next h7
 refine PReserve_ok hP7 limit now dare hd' (fun w8 p8 hP8 t8 ⟨epb,eb⟩=>?_)
 obtain ⟨L1,L2,L3⟩:=left_law hU (by omega) limit now dare hd'
 generalize reserveP s lims A P limit now dare = r at *
 obtain ⟨⟨ri,re⟩,rA,rP⟩:=r
 simp only at *
 have hs5:=h45.size
 have hs6:=h6.size
 have hs7:=h7.size
 have hs8:=t8.fr.size
 have G7:=hG6.next h7 (fun i hi=>hi.2)
 have G8:=G7.keep t8.fr (fun i hi=>⟨by omega,fun e=>by have:=hP.mu_lt i e; omega⟩) (fun i hi e=>by have:=hP.mu_lt i e; have:=ho6 i hi; omega)
 have hB8:=hB4.next hP8.bl
 have hcnt:=hP.st.cnt
 obtain ⟨ad6,c6,hv6⟩:=G8.isSlice
 subst hv6
 repeat (any_goals ((with_reducible refine oG fun X Y=>?_); simp [go_sem]; apply Y; clear Y X))
 rw [← epb]
 by_cases he:re = 0
 case neg=>
  cases L2 he
  refine Items_own hP8.st hsm (fun w9 v9 B9 h9 hG9 hB9 ho9=>?_)
  obtain ⟨ad9,c9,hv9⟩:=hG9.isSlice
  subst hv9
  have G9:=G8.next h9 (fun i hi=>by omega)
  have hP9:=hP8.next h9
  have hB9':=hB8.next h9
  have c1:=hB9'.cell 1 (by simp)
  simp only [List.getElem_cons_zero,List.getElem_cons_succ] at c1
  have fin:∀ W,Nx w9 W → K (.bool true) W:=fun W hW=>k _ (h04.on ((hP9.next hW).bl))
  have tail:∀ {K:VK},(∀ W,Nx w9 W → K (.bool true) W) → callM Tryz.prog 29 #[.slice ad6 P.items.length c6,.slice ad9 P.items.length c9] K w9:=fun h=>by
   refine SameItems_ok (G9.srow (by omega) (by omega)) (hG9.srow (by omega) (by omega)) (fun W hW=>?_)
   rw [decide_eq_true rfl]
   exact h W hW
  by_cases hn:0 < leftM lims P.items limit now
  ·by_cases hd1:1 ≤ dare
   ·have hd2:¬ dare < s.g.Q:=fun e=>he (L1.2 ⟨hn,hd1,e⟩)
    repeat (any_goals (first
    | (with_reducible first|refine pureM_in ?_|((refine idGd ?_); first|refine zA ?_|refine zC ?_)|((refine idPick ?_); first|refine yB ?_|refine yC ?_)|((refine idCond ?_); first|refine yL ?_|refine yM ?_))
    | ((with_reducible refine oG fun X Y=>?_); simp [go_sem,he,hn,hd1,hd2,c1]; apply Y; clear Y X)))
    refine tail (fun w10 h10=>?_)
    repeat (any_goals (with_reducible first|refine pureM_in ?_|refine zA ?_|refine yB ?_))
    refine PLeft_ok (hP9.next h10).st limit now (fun w11 h11=>?_)
    have fin:=fin _ (h10.on h11)
    repeat (any_goals (first
    | (with_reducible first|refine pureM_in ?_|refine zA ?_|refine yB ?_)
    | ((with_reducible refine oG fun X Y=>?_); simp [go_sem]; apply Y; clear Y X)))
    exact fin
   ·repeat (any_goals (first
    | (with_reducible first|refine pureM_in ?_|((refine idGd ?_); first|refine zA ?_|refine zB ?_|refine zC ?_)|((refine idPick ?_); first|refine yB ?_|refine yC ?_)|((refine idCond ?_); first|refine yL ?_|refine yM ?_))
    | ((with_reducible refine oG fun X Y=>?_); simp [go_sem,he,hn,hd1,c1]; apply Y; clear Y X)))
    refine tail (fun w10 h10=>?_)
    repeat (any_goals (with_reducible first|refine pureM_in ?_|refine zA ?_|refine yB ?_))
    refine PLeft_ok (hP9.next h10).st limit now (fun w11 h11=>?_)
    have fin:=fin _ (h10.on h11)
    repeat (any_goals (first
    | (with_reducible first|refine pureM_in ?_|refine zA ?_|refine yB ?_)
    | ((with_reducible refine oG fun X Y=>?_); simp [go_sem]; apply Y; clear Y X)))
    exact fin
  ·repeat (any_goals (first
   | (with_reducible first|refine pureM_in ?_|((refine idGd ?_); first|refine zA ?_|refine zB ?_|refine zC ?_)|refine yC ?_|((refine idCond ?_); first|refine yL ?_|refine yM ?_))
   | ((with_reducible refine oG fun X Y=>?_); simp [go_sem,he,hn,c1]; apply Y; clear Y X)))
   refine tail (fun w10 h10=>?_)
   repeat (any_goals (with_reducible first|refine pureM_in ?_|refine zA ?_|refine yB ?_))
   refine PLeft_ok (hP9.next h10).st limit now (fun w11 h11=>?_)
   have fin:=fin _ (h10.on h11)
   repeat (any_goals (first
   | (with_reducible first|refine pureM_in ?_|refine zA ?_|refine yB ?_)
   | ((with_reducible refine oG fun X Y=>?_); simp [go_sem]; apply Y; clear Y X)))
   exact fin
 subst he
 obtain ⟨l1,l2,x0,hx0,hf0,hst0,hit,hleft,hU2⟩:=L3 rfl
 obtain ⟨hn,hd1,hd2⟩:=L1.1 rfl
 have hri:=(gS hx0).1
 have hsm8:∀ x ∈ rP.items,SmallH x.held:=by rw [hit]; exact small_set hsm hx0 rfl
 refine Items_own hP8.st hsm8 (fun w9 v9 B9 h9 hG9 hB9 ho9=>?_)
 have hlen:rP.items.length = P.items.length:=by rw [hit,List.length_set]
 obtain ⟨ad9,c9,hv9⟩:=hG9.isSlice
 rw [hlen] at hv9
 subst hv9
 have G9:=G8.next h9 (fun i hi=>by omega)
 have hP9:=hP8.next h9
 have hB9':=hB8.next h9
 have c1:=hB9'.cell 1 (by simp)
 simp only [List.getElem_cons_zero,List.getElem_cons_succ] at c1
 have hriZ:(ri:Int) < P.items.length:=by omega
 have hl1:¬ limit < 0:=by omega
 have hl2:¬ (lims.length:Int) ≤ limit:=by omega
 have hri0:¬ (ri:Int) < 0:=by omega
 have hri1:¬ (P.items.length:Int) ≤ ri:=by omega
 have hy:rP.items[ri]? = some { x0 with dare:=dare,status:=1,lent:=false }:=by rw [hit,List.getElem?_set_self hri]
 obtain ⟨g6,cc6,cs6,hvg6,hgl6,hgB6,hcl6,hcc6,hV6⟩:=G8.elem hx0
 cases hvg6
 obtain ⟨av6,yv6,kv6,rfl,hH6,-⟩:=hV6.here
 obtain ⟨b4,m4,e4,b5,m5,e5,b6,m6,e6,rfl,rfl,rfl⟩:=hldR_slices hH6
 obtain ⟨g9,cc9,cs9,hvg9,hgl9,hgB9,hcl9,hcc9,hV9⟩:=hG9.elem hy
 rw [hlen] at hvg9
 cases hvg9
 obtain ⟨av,yv,kv,rfl,hH9,-⟩:=hV9.here
 obtain ⟨a1,n1,d1,a2,n2,d2,a3,n3,d3,rfl,rfl,rfl⟩:=hldR_slices hH9
 repeat (any_goals (first
 | (with_reducible first|refine pureM_in ?_|((refine idGd ?_); first|refine zA ?_|refine zC ?_)|((refine idPick ?_); first|refine yB ?_|refine yC ?_)|refine yM ?_)
 | ((with_reducible refine oG fun X Y=>?_); simp [go_sem,hn,hd1,hd2,c1,hl1,hl2,hri0,hri1]; (first|refine Y _ _ ?_|refine And.intro (by omega) (Y _ _ ?_)); clear Y X)))
 refine row_load (cs:=itmC { x0 with dare:=dare,status:=1,lent:=false } (.slice a1 n1 d1) (.slice a2 n2 d2) (.slice a3 n3 d3)) hcc9 un_itm (by kernel_rfl) (by kernel_rfl) ?_
 refine arr_alloc al_itm (fun g5 w10 h10 hg5 hH5=>?_)
 refine arr_store (xs:=itmC { x0 with dare:=dare,status:=1,lent:=false } (.slice a1 n1 d1) (.slice a2 n2 d2) (.slice a3 n3 d3)) sz_itm rfl rfl (itm_one _ _ _ _ _ _ _ _ _ _ _ _ _ _ _ _ _ _ _ _ _ _ _ _) hH5 rfl (fun w11 hg11 hH11=>?_)
 have h911:Bw w9 w11:=grown_below h10 hg11 hg5
 have h811:=h9.on (h911.on (.drawn (B:=w11.heap.size)))
 have hH12:=hH11.next (.drawn (B:=w11.heap.size))
 refine ⟨Nx { w11 with drawn:=w11.drawn + 1 },bR,trivial,?_⟩
 have h9d:=h911.on (.drawn (B:=w11.heap.size))
 generalize ({ w11 with drawn:=w11.drawn + 1 }:World) = W12 at h811 hH12 h9d ⊢
 clear hH11 hg11 hH5 h10 h911
 have d0:∀ W0,Nx W12 W0 → W0.cell? ⟨g5,0,none⟩ = some (.int .i64 x0.held.limit):=fun W0 h=>(h.cell hH12.lt).trans (holds_at hH12 (j:=0) rfl)
 have d1':∀ W0,Nx W12 W0 → W0.cell? ⟨g5,1,none⟩ = some (.int .i64 x0.held.window):=fun W0 h=>(h.cell hH12.lt).trans (holds_at hH12 (j:=1) rfl)
 have d14:∀ W0,Nx W12 W0 → W0.cell? ⟨g5,14,none⟩ = some (.int .i64 1):=fun W0 h=>(h.cell hH12.lt).trans (holds_at hH12 (j:=14) rfl)
 have d15:∀ W0,Nx W12 W0 → W0.cell? ⟨g5,15,none⟩ = some (.int .i64 dare):=fun W0 h=>(h.cell hH12.lt).trans (holds_at hH12 (j:=15) rfl)
 have hli:limit.toNat < lims.length:=by omega
 have hb4_12:=(hP8.bl.trans (h811.mono hP8.bl.size))
 obtain ⟨lb,lo,hlad,hlb,lcs,hlcl,hlcc,hlV⟩:=(hlim.next (atOf_stay lim_vstay) (h04.on hb4_12)).at hli
 obtain ⟨rfl,hlI⟩:=hlV
 subst hlad
 have hfx:x0.held.limit = limit ∧ x0.held.window = windowM lims[limit.toNat] now:=by
  simp only [fitsI,bA,dE] at hf0
  refine ⟨hf0.1.2,?_⟩
  rw [hf0.2,List.getD_eq_getElem?_getD,gE hli]
  rfl
 obtain ⟨hfx1,hfx2⟩:=hfx
 generalize lims[limit.toNat] = lm at *
 have q0:∀ W0,Nx W12 W0 → W0.cell? ⟨lb,lo + limit.toNat * 3,none⟩ = some (.int .i64 lm.count):=fun W0 h=>(h.cell hlb).trans (hlcc 0 _ rfl)
 have q1:∀ W0,Nx W12 W0 → W0.cell? ⟨lb,lo + limit.toNat * 3 + 1,none⟩ = some (.int .i64 lm.length):=fun W0 h=>(h.cell hlb).trans (hlcc 1 _ rfl)
 have q2:∀ W0,Nx W12 W0 → W0.cell? ⟨lb,lo + limit.toNat * 3 + 2,none⟩ = some (.int .i64 lm.gate):=fun W0 h=>(h.cell hlb).trans (hlcc 2 _ rfl)
 repeat (any_goals (first
 | (with_reducible first|refine pX ?_|((refine idGdH ?_); refine gdH_conv fun _=>?_)|refine zC ?_)
 | ((with_reducible refine idOH ?_); first|(with_reducible refine vB ?_)|(with_reducible refine oH_of ⟨_,rfl⟩ (fun W0 hW0=>by (refine oG (fun X Y=>?_)); simp [go_sem,d0 _ hW0,d1' _ hW0,d14 _ hW0,d15 _ hW0,hfx1,l1,l2,q0 _ hW0,q1 _ hW0,q2 _ hW0]; (first | exact Y _ _ ⟨rfl,rfl⟩ | exact ⟨by omega,Y _ _ ⟨rfl,rfl⟩⟩)) ?_))))
 dsimp only
 refine ⟨Nx,?_⟩
 apply monoE
 ·intro w13 h13
  repeat (any_goals (with_reducible refine zC ?_))
  exact Window_ok lm now (fun w2 h2=>⟨h13.on h2,h2,rfl⟩)
 repeat (apply monoE; focus (intro w9 h9; (repeat (intro v9 e9; try (obtain rfl:=e9))); (repeat (any_goals (first
  | (with_reducible first|refine pureM_in ?_|refine zC ?_|refine yC ?_)
  | ((with_reducible refine oG fun X Y=>?_); simp [go_sem,hfx2]; apply Y; clear Y X)))); exact ⟨h9,bR,rfl⟩))
 intro w13 h13
 repeat (intro v' e'; try (obtain rfl:=e'))
 have h8_13:=h811.on h13
 have h9_13:=h9d.on h13
 have c14:w13.cell? ⟨g6,ri * 18 + 14,none⟩ = some (.int .i64 0):=by
  rw [(h8_13.cell hgl6).trans (hcc6 14 _ rfl),hst0]
 repeat (any_goals (first
 | (with_reducible first|refine zC ?_|refine yC ?_|refine yM ?_)
 | ((with_reducible refine oG fun X Y=>?_); simp [go_sem,c14,hriZ]; apply Y; clear Y X)))
 refine row_load (cs:=itmC x0 (.slice b4 m4 e4) (.slice b5 m5 e5) (.slice b6 m6 e6)) (fun j u hj=>(h8_13.cell hgl6).trans (hcc6 j u hj)) un_itm (by kernel_rfl) (by kernel_rfl) ?_
 repeat (any_goals ((with_reducible refine oG fun X Y=>?_); simp [go_sem,hriZ]; apply Y; clear Y X))
 have z89:=h9.size
 have z9_13:=h9_13.size
 have hgo:=ho9 g9 rfl
 have G13:=(hG9.next h9_13 (fun j hj=>hj.2)).mono (E:=fun j=>j < w13.heap.size ∧ j ≠ g9) (fun j hj=>⟨by omega,by omega⟩)
 have hV13:FP (fun j=>j < w13.heap.size ∧ j ≠ g9) w13 (fun W=>VItm W (itmC x0 (.slice b4 m4 e4) (.slice b5 m5 e5) (.slice b6 m6 e6)) x0):=
  (hV6.next h8_13 (fun j hj=>by omega)).mono (fun j hj=>⟨by omega,by omega⟩)
 have G13':GRow 18 67 VItm w8.heap.size (fun j=>j < w13.heap.size ∧ j ≠ g9) w13 (.slice (some ⟨g9,0,none⟩) rP.items.length c9) rP.items:=by rw [hlen]; exact G13
 refine GRow.put (n:=18) (off:=0) (m:=18) (i:=ri) (xs:=itmC x0 (.slice b4 m4 e4) (.slice b5 m5 e5) (.slice b6 m6 e6)) (y:=x0) G13' hy (by omega) sz_itm rfl rfl (itm_one _ _ _ _ _ _ _ _ _ _ _ _ _ _ _ _ _ _ _ _ _ _ _ _) (fun j hj=>hj) (fun cs hcs _ _=>?_) (fun w14 hg14 hG14=>?_)
 ·have e0:cs.take 0 ++ (itmC x0 (.slice b4 m4 e4) (.slice b5 m5 e5) (.slice b6 m6 e6) ++ cs.drop (0 + 18)) = itmC x0 (.slice b4 m4 e4) (.slice b5 m5 e5) (.slice b6 m6 e6):=by
   rw [List.take_zero,List.drop_eq_nil_of_le (by omega),List.append_nil,List.nil_append]
  rw [e0]
  exact hV13
 have hback:rP.items.set ri x0 = P.items:=by rw [hit,List.set_set]; exact set_same hx0
 rw [hback,hlen] at hG14
 have h8_14:Bw w8 w14:=h8_13.grown hg14 (by have:=h8_13.size; omega) (fun j e=>by cases e; exact hgB9)
 have z14:=hg14.size
 have G14:=(G8.next h8_13 (fun i hi=>by omega)).keep (Fr.of_by hg14) (fun i hi=>⟨by omega,by omega⟩) (fun i hi e=>by have:=(G8.own hi).1; omega)
 have hlb:=left_le lims P.items limit now
 repeat (any_goals (with_reducible first|refine pureM_in ?_|refine zA ?_))
 refine SameItems_ok (G14.srow (by omega) (by omega)) (hG14.srow (by omega) (by omega)) (fun w15 h15=>?_)
 rw [decide_eq_true rfl]
 have hP15:=hP8.next (h8_14.on h15)
 repeat (any_goals (with_reducible first|refine pureM_in ?_|refine zA ?_|refine yB ?_))
 refine PLeft_ok hP15.st limit now (fun w16 h16=>?_)
 rw [hleft]
 have k:=k _ (h04.on (hP15.next h16).bl)
 generalize leftM lims P.items limit now = nl at *
 repeat (any_goals (first
 | (with_reducible first|refine pureM_in ?_|refine zA ?_|refine yB ?_)
 | ((with_reducible refine oG fun X Y=>?_); simp [go_sem]; (try simp (disch:=omega) only [wrapI64,wrapU8,wrapU32,wrapU64]); apply Y; clear Y X)))
 exact k
end
end Go.Proofs
namespace Go.Proofs
open Go Go.Sh Go.RowKit Go.Lib CodeSpec TkSpec FdSpec PuSpec Go.ChangeShapes Go.WideShapes Go.ChangeAt Go.Deep
section
variable {H:Type} {enc:TypeId × Value → H} {w:World} {sp:Nat → Bool} {hd:Bool}
theorem rowsOpen {P:Program} {α:Type} {n:Nat} {At:World → Nat → Nat → α → Prop} {t e:TypeId} {v:Value} {m0:Nat} {D:DataW H × List MemPlace} (ht:P.underlying t = some (.slice e)) (hC:P.cellsOf e = n) (hn:0 < n)
  (hrd:∀ (cs:List Value) (b p m:Nat) (D:DataW H × List MemPlace),cs.length = n → (∀ (j:Nat) (u:Value),cs[j]? = some u → w.cell? ⟨b,p + j,none⟩ = some u) → DataW.trod enc P w 0 sp hd m e cs = some D → ∃ x,At w b p x)
  (h:DataW.trod enc P w 0 sp hd m0 t [v] = some D):∃ l:List α,SRow n At w v l:=by
 rcases open_slice ht h with ⟨hcs,_⟩ | ⟨a',len,cap,m,n',D',Pl,hcs,_,hl,hm,hmm,_,hi⟩
 ·simp only [List.cons.injEq,and_true] at hcs
  subst hcs
  exact ⟨[],⟨none,0,rfl,.inl rfl⟩,by simp⟩
 ·simp only [List.cons.injEq,and_true] at hcs
  subst hcs
  subst hC
  have hml:len ≤ m:=by rw [hmm]; split <;> omega
  by_cases h0:len = 0
  ·subst h0
   exact ⟨[],⟨some a',cap,rfl,.inl rfl⟩,by simp⟩
  obtain ⟨cs0,hc0,_⟩:=hi 0 (by omega)
  obtain ⟨_,hl0,h00⟩:=World.cells?_some hc0
  have h00:=h00 0 hn
  rw [Nat.zero_mul] at h00
  have e0:(a'.add 0).add 0 = a':=by simp [Addr.add]
  rw [e0,gE (by omega)] at h00
  obtain ⟨hb,hs⟩:=Go.Sh.cell_lt h00
  obtain ⟨b,o,s⟩:=a'
  simp only at hs hb
  subst hs
  have key:∀ i:Fin len,∃ x,At w b (o + i * P.cellsOf e) x:=fun i=>by
   obtain ⟨cs,hc,ht2⟩:=hi i (by have:=i.2; omega)
   obtain ⟨_,hcl,hat⟩:=World.cells?_some hc
   refine hrd cs b (o + i * P.cellsOf e) _ _ hcl (fun j u hj=>?_) ht2
   have hjl:=(gS hj).1
   have:=hat j (by omega)
   rw [addr_add',addr_add'] at this
   rw [this,hj]
  refine ⟨List.ofFn (fun i=>(key i).choose),⟨some ⟨b,o,none⟩,cap,by rw [List.length_ofFn],.inr ⟨b,o,rfl,hb,fun i hil=>?_⟩⟩,by rw [List.length_ofFn]; simp only [maxLen] at hm; omega⟩
  rw [List.length_ofFn] at hil
  rw [List.getElem_ofFn]
  exact (key ⟨i,hil⟩).choose_spec
theorem ints_of_row {v:Value} {l:List Int} (h:∃ ad c,v = .slice ad l.length c ∧ (l = [] ∨ ∃ b o,ad = some ⟨b,o,none⟩ ∧ b < w.heap.size ∧ ∀ (i:Nat) (h:i < l.length),w.cell? ⟨b,o + i,none⟩ = some (Value.int .i64 l[i]))) (h0:∀ c,v = .slice none l.length c → l.length = 0 ∧ c = 0) (hl:l.length ≤ maxLen) (hr:∀ x ∈ l,I64 x):Ints w v l:=by
 obtain ⟨ad,c,rfl,h⟩:=h
 refine ⟨⟨ad,c,rfl,fun e=>?_,?_⟩,hr,hl⟩
 ·subst e
  exact h0 c rfl
 ·rcases h with h | ⟨b,o,rfl,hlt,hc⟩
  ·exact .inl h
  ·refine .inr ⟨b,o,rfl,hlt,fun k x hk=>?_⟩
   rw [flat_int] at hk
   obtain ⟨hk1,hk2⟩:=gS hk
   have hk1:k < l.length:=by rw [List.length_map] at hk1; exact hk1
   rw [hc k hk1,← hk2,List.getElem_map]
theorem nil_len {t:TypeId} {n m:Nat} {c:Nat} {D:DataW H × List MemPlace} (ht:Tryz.prog.underlying t = some (.slice 3)) (h:DataW.trod enc Tryz.prog w 0 sp hd n t [.slice none m c] = some D):m = 0 ∧ c = 0:=by
 rcases open_slice1 ht (by kernel_rfl) h with ⟨hcs,_⟩ | ⟨a',len,cap,m,n',V,D',Pl,hcs,_⟩
 ·simp only [List.cons.injEq,and_true,Value.slice.injEq] at hcs
  exact hcs.2
 ·simp only [List.cons.injEq,and_true,Value.slice.injEq] at hcs
  exact absurd hcs.1 (by simp)
theorem open_ints {v:Value} {n:Nat} {D:DataW H × List MemPlace} (h:DataW.trod enc Tryz.prog w 0 sp hd n 22 [v] = some D):∃ l,Ints w v l:=by
 have h':=h
 obtain ⟨l,h1,h2,h3⟩:=rowOpen (Value.int .i64) I64 Tryz.underlying22 (by kernel_rfl) (fun V n D h=>by
  obtain ⟨k,e,_,hw⟩:=DataW.trod_int Tryz.underlying3 h
  simp only [List.cons.injEq,and_true] at e
  exact ⟨k,e,intR hw⟩) h
 exact ⟨l,ints_of_row h1 (fun c e=>by subst e; exact nil_len Tryz.underlying22 h') h2 h3⟩
theorem open_grp {cs:List Value} {n:Nat} {D:DataW H × List MemPlace} (h:DataW.trod enc Tryz.prog w 0 sp hd n 48 cs = some D):∃ g:Grp,cs = [.int .i64 g.P,.int .i64 g.Q,.int .i64 g.G] ∧ GrpR g:=by
 obtain ⟨hcl,hf⟩:=open_fields Tryz.underlying48 (by kernel_rfl) (by kernel_rfl) h
 obtain ⟨v0,y0,m0,c0,f0⟩:=hf 0 _ rfl
 obtain ⟨v1,y1,m1,c1,f1⟩:=hf 1 _ rfl
 obtain ⟨v2,y2,m2,c2,f2⟩:=hf 2 _ rfl
 obtain ⟨k0,e0,_,w0⟩:=DataW.trod_int Tryz.underlying3 f0
 obtain ⟨k1,e1,_,w1⟩:=DataW.trod_int Tryz.underlying3 f1
 obtain ⟨k2,e2,_,w2⟩:=DataW.trod_int Tryz.underlying3 f2
 simp only [List.cons.injEq,and_true] at e0 e1 e2
 have h6:cs.length = 3:=hcl
 refine ⟨⟨k0,k1,k2⟩,?_,⟨intR w0,intR w1,intR w2⟩⟩
 match cs,h6 with
 | [x0,x1,x2],_=>
  simp only [List.getElem?_cons_zero,List.getElem?_cons_succ,Option.some.injEq] at c0 c1 c2
  rw [c0,c1,c2,e0,e1,e2]
theorem cells_stp:Tryz.prog.cellsOf 50 = 5:=by kernel_rfl
theorem cells_grp:Tryz.prog.cellsOf 48 = 3:=by kernel_rfl
theorem cells_ints:Tryz.prog.cellsOf 22 = 1:=by kernel_rfl
theorem cells_int:Tryz.prog.cellsOf 3 = 1:=by kernel_rfl
theorem open_stp {b0:Nat} {v:Value} {d:DataW H} {ps:List MemPlace} (hT:DbT w) (hval:Value.okWide Tryz.prog w .any b0 50 v) (h:DataW.Trod enc Tryz.prog w 0 sp hd 50 v d ps):∃ s x,v = stpV s x ∧ SetR w s x:=by
 obtain ⟨cs,rfl,hs⟩:=okWide_struct Tryz.underlying50 hval
 obtain ⟨fuel,hf⟩:=h
 have hf:DataW.trod enc Tryz.prog w 0 sp hd fuel 50 cs.toList = some (d,ps):=hf
 obtain ⟨xs,m,_,_,hcl,hxl,hf⟩:=DataW.trod_struct Tryz.underlying50 hf
 rw [cells_stp] at hcl
 have hcs:cs = cs.toList.toArray:=by simp
 rw [hcs]
 clear hs hcs
 generalize cs.toList = l at *
 have hxl:xs.length = 3:=hxl
 match l,hcl,xs,hxl with
 | [x0,x1,x2,x3,x4],_,[y0,y1,y2],_=>
  have f0:DataW.trod enc Tryz.prog w 0 sp hd m 48 (([x0,x1,x2,x3,x4].drop 0).take (Tryz.prog.cellsOf 48)) = some y0:=hf 0 _ rfl
  have f1:DataW.trod enc Tryz.prog w 0 sp hd m 22 (([x0,x1,x2,x3,x4].drop 3).take (Tryz.prog.cellsOf 22)) = some y1:=hf 1 _ rfl
  have f2:DataW.trod enc Tryz.prog w 0 sp hd m 3 (([x0,x1,x2,x3,x4].drop 4).take (Tryz.prog.cellsOf 3)) = some y2:=hf 2 _ rfl
  rw [cells_grp] at f0
  rw [cells_ints] at f1
  rw [cells_int] at f2
  obtain ⟨g,eg,hg⟩:=open_grp f0
  obtain ⟨l3,h3⟩:=open_ints f1
  obtain ⟨k4,e4,_,w4⟩:=DataW.trod_int Tryz.underlying3 f2
  simp only [List.drop_zero,List.take_succ_cons,List.take_zero,List.drop_succ_cons,List.cons.injEq,and_true] at eg e4
  obtain ⟨e0,e1,e2⟩:=eg
  exact ⟨⟨g,l3,k4⟩,x3,by rw [e0,e1,e2,e4],⟨hg,h3,intR w4,hT⟩⟩
theorem inR_of {n:Int} (h:(Lit.int .i64 n).wf = true):InR n:=by
 have:=intR h
 exact ⟨this.1,by have:=this.2; omega⟩
theorem open_tktC {cs:List Value} {n:Nat} {D:DataW H × List MemPlace} (h:DataW.trod enc Tryz.prog w 0 sp hd n 26 cs = some D):∃ t:Tkt,cs = tktC t ∧ WTkt t:=by
 obtain ⟨hcl,hf⟩:=open_fields Tryz.underlying26 (by kernel_rfl) (by kernel_rfl) h
 obtain ⟨v0,y0,m0,c0,f0⟩:=hf 0 _ rfl
 obtain ⟨v1,y1,m1,c1,f1⟩:=hf 1 _ rfl
 obtain ⟨v2,y2,m2,c2,f2⟩:=hf 2 _ rfl
 obtain ⟨v3,y3,m3,c3,f3⟩:=hf 3 _ rfl
 obtain ⟨v4,y4,m4,c4,f4⟩:=hf 4 _ rfl
 obtain ⟨v5,y5,m5,c5,f5⟩:=hf 5 _ rfl
 obtain ⟨k0,e0,_,w0⟩:=DataW.trod_int Tryz.underlying3 f0
 obtain ⟨k1,e1,_,w1⟩:=DataW.trod_int Tryz.underlying3 f1
 obtain ⟨k2,e2,_,w2⟩:=DataW.trod_int Tryz.underlying3 f2
 obtain ⟨k3,e3,_,w3⟩:=DataW.trod_int Tryz.underlying3 f3
 obtain ⟨k4,e4,_,w4⟩:=DataW.trod_int Tryz.underlying3 f4
 obtain ⟨k5,e5,_,w5⟩:=DataW.trod_int Tryz.underlying3 f5
 simp only [List.cons.injEq,and_true] at e0 e1 e2 e3 e4 e5
 have h6:cs.length = 6:=hcl
 refine ⟨⟨k0,k1,k2,k3,k4,k5⟩,?_,⟨?_⟩⟩
 ·match cs,h6 with
  | [x0,x1,x2,x3,x4,x5],_=>
   simp only [List.getElem?_cons_zero,List.getElem?_cons_succ,Option.some.injEq] at c0 c1 c2 c3 c4 c5
   rw [c0,c1,c2,c3,c4,c5,e0,e1,e2,e3,e4,e5]
 ·intro v hv
  simp only [tktL,List.mem_cons,List.not_mem_nil,or_false] at hv
  rcases hv with rfl | rfl | rfl | rfl | rfl | rfl
  ·exact inR_of w0
  ·exact inR_of w1
  ·exact inR_of w2
  ·exact inR_of w3
  ·exact inR_of w4
  ·exact inR_of w5
theorem open_lims {v:Value} {n:Nat} {D:DataW H × List MemPlace} (h:DataW.trod enc Tryz.prog w 0 sp hd n 51 [v] = some D):∃ l,LimR w v l:=
 rowsOpen Tryz.underlying51 (by kernel_rfl) (by decide) (fun cs b p m D hl hc ht=>by
  match cs,hl with
  | [x0,x1,x2],_=>
   obtain ⟨_,hf⟩:=open_fields Tryz.underlying41 (by kernel_rfl) (by kernel_rfl) ht
   obtain ⟨v0,y0,m0,c0,f0⟩:=hf 0 _ rfl
   obtain ⟨v1,y1,m1,c1,f1⟩:=hf 1 _ rfl
   obtain ⟨v2,y2,m2,c2,f2⟩:=hf 2 _ rfl
   obtain ⟨k0,e0,_,w0⟩:=DataW.trod_int Tryz.underlying3 f0
   obtain ⟨k1,e1,_,w1⟩:=DataW.trod_int Tryz.underlying3 f1
   obtain ⟨k2,e2,_,w2⟩:=DataW.trod_int Tryz.underlying3 f2
   simp only [List.cons.injEq,and_true] at e0 e1 e2
   simp only [List.getElem?_cons_zero,List.getElem?_cons_succ,Option.some.injEq] at c0 c1 c2
   subst c0; subst c1; subst c2; subst e0; subst e1; subst e2
   exact ⟨⟨k0,k1,k2⟩,_,rfl,hc,rfl,intR w0,intR w1,intR w2⟩) h
theorem open_limits {b0:Nat} {v:Value} {d:DataW H} {ps:List MemPlace} (hval:Value.okWide Tryz.prog w .any b0 51 v) (h:DataW.Trod enc Tryz.prog w 0 sp hd 51 v d ps):∃ l,LimR w v l:=by
 obtain ⟨a,n,c,rfl⟩:=okWide_slice Tryz.underlying51 hval
 obtain ⟨fu,hf⟩:=h
 exact open_lims hf
theorem cells_tkt:Tryz.prog.cellsOf 26 = 6:=by kernel_rfl
theorem cells_spd:Tryz.prog.cellsOf 84 = 2:=by kernel_rfl
theorem cells_str:Tryz.prog.cellsOf 9 = 1:=by kernel_rfl
theorem cells_bld:Tryz.prog.cellsOf 24 = 4:=by kernel_rfl
theorem cells_lnks:Tryz.prog.cellsOf 27 = 1:=by kernel_rfl
theorem cells_hld:Tryz.prog.cellsOf 29 = 14:=by kernel_rfl
theorem cells_lnk:Tryz.prog.cellsOf 86 = 9:=by kernel_rfl
theorem open_spdC {cs:List Value} {n:Nat} {D:DataW H × List MemPlace} (h:DataW.trod enc Tryz.prog w 0 sp hd n 84 cs = some D):∃ (d:Int) (av:Value) (l:List Int),cs = [.int .i64 d,av] ∧ InR d ∧ Ints w av l:=by
 obtain ⟨hcl,hf⟩:=open_fields Tryz.underlying84 (by kernel_rfl) (by kernel_rfl) h
 obtain ⟨v0,y0,m0,c0,f0⟩:=hf 0 _ rfl
 obtain ⟨v1,y1,m1,c1,f1⟩:=hf 1 _ rfl
 obtain ⟨k0,e0,_,w0⟩:=DataW.trod_int Tryz.underlying3 f0
 obtain ⟨l1,h1⟩:=open_ints f1
 simp only [List.cons.injEq,and_true] at e0
 have h6:cs.length = 2:=hcl
 refine ⟨k0,v1,l1,?_,inR_of w0,h1⟩
 match cs,h6 with
 | [x0,x1],_=>
  simp only [List.getElem?_cons_zero,List.getElem?_cons_succ,Option.some.injEq] at c0 c1
  rw [c0,c1,e0]
theorem open_bldC {cs:List Value} {n:Nat} {D:DataW H × List MemPlace} (h:DataW.trod enc Tryz.prog w 0 sp hd n 24 cs = some D):∃ (b:Bld) (v:Value),cs = bldC b v ∧ InR b.s ∧ InR b.u ∧ InR b.v ∧ Ints w v b.ys:=by
 obtain ⟨hcl,hf⟩:=open_fields Tryz.underlying24 (by kernel_rfl) (by kernel_rfl) h
 obtain ⟨v0,y0,m0,c0,f0⟩:=hf 0 _ rfl
 obtain ⟨v1,y1,m1,c1,f1⟩:=hf 1 _ rfl
 obtain ⟨v2,y2,m2,c2,f2⟩:=hf 2 _ rfl
 obtain ⟨v3,y3,m3,c3,f3⟩:=hf 3 _ rfl
 obtain ⟨k0,e0,_,w0⟩:=DataW.trod_int Tryz.underlying3 f0
 obtain ⟨k1,e1,_,w1⟩:=DataW.trod_int Tryz.underlying3 f1
 obtain ⟨k2,e2,_,w2⟩:=DataW.trod_int Tryz.underlying3 f2
 obtain ⟨l3,h3⟩:=open_ints f3
 simp only [List.cons.injEq,and_true] at e0 e1 e2
 have h6:cs.length = 4:=hcl
 refine ⟨⟨k0,k1,k2,l3⟩,v3,?_,inR_of w0,inR_of w1,inR_of w2,h3⟩
 match cs,h6 with
 | [x0,x1,x2,x3],_=>
  simp only [List.getElem?_cons_zero,List.getElem?_cons_succ,Option.some.injEq] at c0 c1 c2 c3
  rw [c0,c1,c2,c3,e0,e1,e2]
theorem ints_inR {v:Value} {l:List Int} (h:Ints w v l):∀ x ∈ l,InR x:=fun x hx=>⟨(h.rng x hx).1,by have:=(h.rng x hx).2; omega⟩
theorem ba_of (s:ByteArray):s = ⟨s.data.toList.toArray⟩:=by cases s; rfl
theorem open_lnks {v:Value} {n:Nat} {D:DataW H × List MemPlace} (h:DataW.trod enc Tryz.prog w 0 sp hd n 27 [v] = some D):∃ l,LnksR w v l:=
 rowsOpen Tryz.underlying27 cells_lnk (by decide) (fun cs b p m D hl hc ht=>by
  obtain ⟨xs,m,_,_,hcl,hxl,hf⟩:=DataW.trod_struct Tryz.underlying86 ht
  have hxl:xs.length = 3:=hxl
  match cs,hl,xs,hxl with
  | [x0,x1,x2,x3,x4,x5,x6,x7,x8],_,[y0,y1,y2],_=>
   have f0:DataW.trod enc Tryz.prog w 0 sp hd m 26 (([x0,x1,x2,x3,x4,x5,x6,x7,x8].drop 0).take (Tryz.prog.cellsOf 26)) = some y0:=hf 0 _ rfl
   have f1:DataW.trod enc Tryz.prog w 0 sp hd m 84 (([x0,x1,x2,x3,x4,x5,x6,x7,x8].drop 6).take (Tryz.prog.cellsOf 84)) = some y1:=hf 1 _ rfl
   have f2:DataW.trod enc Tryz.prog w 0 sp hd m 9 (([x0,x1,x2,x3,x4,x5,x6,x7,x8].drop 8).take (Tryz.prog.cellsOf 9)) = some y2:=hf 2 _ rfl
   rw [cells_tkt] at f0
   rw [cells_spd] at f1
   rw [cells_str] at f2
   obtain ⟨t,et,ht⟩:=open_tktC f0
   obtain ⟨d,av,al,es,hd,ha⟩:=open_spdC f1
   obtain ⟨s,ess,_,hs⟩:=DataW.trod_string Tryz.underlying9 f2
   simp only [List.drop_zero,List.take_succ_cons,List.take_zero,List.drop_succ_cons,List.cons.injEq,and_true,tktC] at et es ess
   obtain ⟨e0,e1,e2,e3,e4,e5⟩:=et
   obtain ⟨e6,e7⟩:=es
   refine ⟨⟨t,⟨d,al⟩,s.data.toList⟩,_,rfl,hc,av,?_,ha,ht,hd,ints_inR ha,?_,?_⟩
   ·rw [e0,e1,e2,e3,e4,e5,e6,e7,ess,ba_of s]
   ·have:=ha.len; show (al.length:Int) ≤ _; omega
   ·show ((s.data.toList.length:Nat):Int) ≤ _
    have:s.data.toList.length = s.size:=by simp
    rw [this]
    have:maxLen = 9223372036854775807:=rfl
    omega) h
theorem open_hldC {cs:List Value} {n:Nat} {D:DataW H × List MemPlace} (ht:DataW.trod enc Tryz.prog w 0 sp hd n 29 cs = some D):∃ (x:Hld) (av yv kv:Value),cs = hldC x av yv kv ∧ HldR w x av yv kv:=by
 obtain ⟨xs,m,_,_,hcl,hxl,hf⟩:=DataW.trod_struct Tryz.underlying29 ht
 have hxl:xs.length = 6:=hxl
 rw [cells_hld] at hcl
 match cs,hcl,xs,hxl with
 | [x0,x1,x2,x3,x4,x5,x6,x7,x8,x9,x10,x11,x12,x13],_,[y0,y1,y2,y3,y4,y5],_=>
  have f0:DataW.trod enc Tryz.prog w 0 sp hd m 3 (([x0,x1,x2,x3,x4,x5,x6,x7,x8,x9,x10,x11,x12,x13].drop 0).take (Tryz.prog.cellsOf 3)) = some y0:=hf 0 _ rfl
  have f1:DataW.trod enc Tryz.prog w 0 sp hd m 3 (([x0,x1,x2,x3,x4,x5,x6,x7,x8,x9,x10,x11,x12,x13].drop 1).take (Tryz.prog.cellsOf 3)) = some y1:=hf 1 _ rfl
  have f2:DataW.trod enc Tryz.prog w 0 sp hd m 22 (([x0,x1,x2,x3,x4,x5,x6,x7,x8,x9,x10,x11,x12,x13].drop 2).take (Tryz.prog.cellsOf 22)) = some y2:=hf 2 _ rfl
  have f3:DataW.trod enc Tryz.prog w 0 sp hd m 24 (([x0,x1,x2,x3,x4,x5,x6,x7,x8,x9,x10,x11,x12,x13].drop 3).take (Tryz.prog.cellsOf 24)) = some y3:=hf 3 _ rfl
  have f4:DataW.trod enc Tryz.prog w 0 sp hd m 26 (([x0,x1,x2,x3,x4,x5,x6,x7,x8,x9,x10,x11,x12,x13].drop 7).take (Tryz.prog.cellsOf 26)) = some y4:=hf 4 _ rfl
  have f5:DataW.trod enc Tryz.prog w 0 sp hd m 27 (([x0,x1,x2,x3,x4,x5,x6,x7,x8,x9,x10,x11,x12,x13].drop 13).take (Tryz.prog.cellsOf 27)) = some y5:=hf 5 _ rfl
  rw [cells_int] at f0 f1
  rw [cells_ints] at f2
  rw [cells_bld] at f3
  rw [cells_tkt] at f4
  rw [cells_lnks] at f5
  obtain ⟨k0,e0,_,w0⟩:=DataW.trod_int Tryz.underlying3 f0
  obtain ⟨k1,e1,_,w1⟩:=DataW.trod_int Tryz.underlying3 f1
  obtain ⟨al,ha⟩:=open_ints f2
  obtain ⟨b,bv,eb,hb1,hb2,hb3,hby⟩:=open_bldC f3
  obtain ⟨t,et,ht⟩:=open_tktC f4
  obtain ⟨ll,hll⟩:=open_lnks f5
  simp only [List.drop_zero,List.take_succ_cons,List.take_zero,List.drop_succ_cons,List.cons.injEq,and_true,tktC,bldC] at e0 e1 eb et
  obtain ⟨q0,q1,q2,q3⟩:=eb
  obtain ⟨t0,t1,t2,t3,t4,t5⟩:=et
  refine ⟨⟨k0,k1,al,b,t,ll⟩,x2,bv,x13,?_,⟨ha,hby,hll,⟨inR_of w0,inR_of w1,ints_inR ha,?_,hb1,hb2,hb3,ints_inR hby,?_,ht,?_⟩⟩⟩
  ·rw [e0,e1,q0,q1,q2,q3,t0,t1,t2,t3,t4,t5]
  ·have:=ha.len; show (al.length:Int) ≤ _; omega
  ·have:=hby.len; show (b.ys.length:Int) ≤ _; omega
  ·intro x hx
   obtain ⟨i,hi,rfl⟩:=List.mem_iff_getElem.1 hx
   obtain ⟨ad,c,hv⟩:=hll.isSlice
   have hll':LnksR w (.slice ad ll.length c) ll:=by rw [← hv]; exact hll
   obtain ⟨_,_,_,_,_,_,_,_,_,_,hw⟩:=hll'.at hi
   exact hw
theorem open_hlds {v:Value} {n:Nat} {D:DataW H × List MemPlace} (h:DataW.trod enc Tryz.prog w 0 sp hd n 52 [v] = some D):∃ l,SRow 14 (AtOf 14 VHld) w v l:=
 rowsOpen Tryz.underlying52 cells_hld (by decide) (fun cs b p m D hl hc ht=>by
  obtain ⟨x,av,yv,kv,e,hH⟩:=open_hldC ht
  exact ⟨x,cs,hl,hc,av,yv,kv,e,hH⟩) h
theorem open_helds {b0:Nat} {v:Value} {d:DataW H} {ps:List MemPlace} (hval:Value.okWide Tryz.prog w .any b0 52 v) (h:DataW.Trod enc Tryz.prog w 0 sp hd 52 v d ps):∃ l,SRow 14 (AtOf 14 VHld) w v l:=by
 obtain ⟨a,n,c,rfl⟩:=okWide_slice Tryz.underlying52 hval
 obtain ⟨fu,hf⟩:=h
 exact open_hlds hf
end
end Go.Proofs
