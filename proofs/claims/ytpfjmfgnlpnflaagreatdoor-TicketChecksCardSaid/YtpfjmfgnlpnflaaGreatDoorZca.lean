/- Parts of the proof of the seat's statements (ShCom, ShHeld, ShStage, Sh, ShOps, ShMem, ShQ, ShStr, ShQ2, ShQ3, ShMap, ShMap2, ShMap3, ShMap4, ShMap5, ShRow, ShRow2, ShBuf, ShBuf2, ShBit, ShBox, ShGo, ShKn, ShKn2, ShArr, ShMn, ShWk): lemmas about the given translation and plain laws. No condition of their own. -/
import Derived.WalkKit
import Derived.Still
import Derived.Deep.Quiet
import Derived.Laws.Panics
import Derived.Laws.DeepStrings4
import Derived.Below
import Derived.Laws.Small
import Derived.MapKept
import Derived.WideKeyRuns
import Derived.Laws.StructEq
import Derived.Laws.IdiomRangeMap
import Derived.Shelf.SlMaps.Clone
import Derived.Lib.BufferWrite
import Derived.Lib.SliceRun
import Derived.Laws.MakeOwn
import Derived.Laws.OwnMore
import Derived.Great.BuildSlice
import Derived.Laws.IdiomStrings
set_option linter.all false
set_option maxRecDepth 100000
namespace Go.Sh
open Go
def set1 (D:Nat → Bool) (i:Nat):Nat → Bool:=fun j=>bif Nat.beq j i then true else D j
def endsIn (P:Program) (C:World → Prop) (v:Value):Result Next → Prop
 | .ok (.value u) w'=>u = v ∧ C w'
 | .ok .skip w'=>v = undef ∧ C w'
 | .ok (.enter f args) w'=>Calls P f args w' (fun e w''=>e = .returned v ∧ C w'')
 | _=>False
def upAll:List Nat → (Nat → Bool) → Prop
 | [],_=>True
 | j :: js,D=>D j = true ∧ upAll js D
theorem upAll_of {D:Nat → Bool}:∀ {l:List Nat},(∀ j ∈ l,D j = true) → upAll l D
 | [],_=>trivial
 | j :: _,h=>⟨h j (by simp),upAll_of (fun k hk=>h k (by simp [hk]))⟩
def waits (o:Oper):List Nat:=(o.after.toList.filter (Region.binds .any)).map (·.on)
section
variable {P:Program} {ops:Array Oper} {C:(Nat → Bool) → World → Prop}
def gives (P:Program) (C:(Nat → Bool) → World → Prop) (i:Nat) (ds:List Nat) (s:Sem Next) (v:Value):Prop:=∀ D w,D i = false → upAll ds D → C D w → endsIn P (C (set1 D i)) v (s.run P w)
def rests (C:(Nat → Bool) → World → Prop) (i:Nat) (ds:List Nat):Prop:=∀ D w,D i = false → upAll ds D → C D w → C (set1 D i) w
def Comes (P:Program) (ops:Array Oper) (C:(Nat → Bool) → World → Prop) (i:Nat) (o:Oper) (a:Act) (v:Value):Prop:=
 bif Region.wanted o (yielded ops a.tmps) then gives P C i (waits o) (execOp a.eval o) v else v = undef ∧ rests C i (waits o)
def wpCom (P:Program) (ops:Array Oper) (C:(Nat → Bool) → World → Prop) (Q:Act → Prop):Nat → List Oper → Act → Prop
 | _,[],a=>Q a
 | k,o :: rest,a=>∃ v,Comes P ops C k o a v ∧ wpCom P ops C Q (k + 1) rest (a.put o.dst v)
def anyCom (P:Program) (ops:Array Oper) (C:(Nat → Bool) → World → Prop) (Q:Array Bool → Act → Prop):Nat → Array Bool → Act → Prop
 | 0,listed,a=>Region.ready .any ops listed = [] ∧ Q listed a
 | n + 1,listed,a=>(Region.ready .any ops listed = [] → Q listed a) ∧
  ∀ i ∈ Region.ready .any ops listed,∀ o,ops[i]? = some o → ∃ v,Comes P ops C i o a v ∧ anyCom P ops C Q n (listed.setIfInBounds i true) (a.put o.dst v)
def upOf (listed:Array Bool):Nat → Bool:=fun j=>listed.getD j true
theorem upOf_set (listed:Array Bool) (i:Nat):upOf (listed.setIfInBounds i true) = set1 (upOf listed) i:=by
 funext j
 unfold upOf set1
 by_cases h:j = i
 ·subst h
  have hb:Nat.beq j j = true:=by simp
  rw [hb]
  by_cases hlt:j < listed.size <;> simp [Array.getD_eq_getD_getElem?,Array.getElem?_setIfInBounds,hlt]
 ·have hb:Nat.beq j i = false:=by
   cases hx:Nat.beq j i with
   | false=>rfl
   | true=>exact absurd (Nat.eq_of_beq_eq_true hx) h
  rw [hb,getD_set_ne true (fun e=>h e.symm)]
  rfl
theorem any_of_com {Q:Array Bool → Act → Prop} {Q':Exit → Act → World → Prop} (hQ:∀ l a w,C (upOf l) w → Q l a → Q' .normal a w):∀ (n:Nat) (listed:Array Bool) (a:Act) (w:World),C (upOf listed) w →
  anyCom P ops C Q n listed a → wpAny P .any ops Q' n listed a w
 | 0,_,_,_,hw,h=>⟨h.1,hQ _ _ _ hw h.2⟩
 | n + 1,listed,a,w,hw,h=>by
  refine ⟨fun h0=>hQ _ _ _ hw (h.1 h0),fun i hi=>?_⟩
  obtain ⟨hun,o,ho,hdep⟩:=mem_ready.1 hi
  have hup:upAll (waits o) (upOf listed):=by
   refine upAll_of (fun j hj=>?_)
   simp only [waits,List.mem_map,List.mem_filter] at hj
   obtain ⟨e,⟨he,hb⟩,rfl⟩:=hj
   have h1:=hdep e (by simpa using he) hb
   unfold upOf
   unfold Array.getD at h1 ⊢
   split at h1
   ·rename_i hlt; rw [dif_pos hlt]; exact h1
   ·cases h1
  obtain ⟨v,hc,hn⟩:=h.2 i hi o ho
  have next:∀ w',C (set1 (upOf listed) i) w' → wpAny P .any ops Q' n (listed.setIfInBounds i true) (a.put o.dst v) w':=fun w' hw'=>
   any_of_com hQ n _ _ w' (by rw [upOf_set]; exact hw') hn
  unfold wpOp
  rw [ho]
  unfold Comes at hc
  show if Region.wanted o (yielded ops a.tmps) = true then _ else _
  cases hwant:Region.wanted o (yielded ops a.tmps) with
  | false=>
   rw [hwant] at hc
   obtain ⟨rfl,hr⟩:=hc
   rw [if_neg (by simp)]
   exact next w (hr _ _ hun hup hw)
  | true=>
   rw [hwant] at hc
   rw [if_pos rfl]
   left
   have hg:=hc _ _ hun hup hw
   unfold Oper.wp
   revert hg
   generalize (execOp a.eval o).run P w = r
   intro hg
   cases r with
   | halt x w'=>exact hg.elim
   | ok x w'=>
    cases x with
    | value u=>
     obtain ⟨rfl,hc'⟩:=hg
     exact next _ hc'
    | skip=>
     obtain ⟨rfl,hc'⟩:=hg
     exact next _ hc'
    | enter f args=>
     refine Calls.mono hg ?_
     rintro e w'' ⟨rfl,hc'⟩
     exact next _ hc'
    | _=>exact hg.elim
theorem Comes.put {i:Nat} {oi oj:Oper} {a:Act} {v u:Value} (hs:∀ cs b,oi.op ≠ .select cs b) (h:∀ d,oj.dst = some d → d ∉ oi.looksAt ops):Comes P ops C i oi (a.put oj.dst u) v ↔ Comes P ops C i oi a v:=by
 unfold Comes
 rw [wanted_put oi a oj.dst u h,execOp_put oi hs a oj.dst u h]
theorem com_first {Q:Array Bool → Act → Prop} {i:Nat} {oi:Oper} {v:Value} (hi:ops[i]? = some oi) (hsel:∀ (j:Nat) (o:Oper) cs b,ops[j]? = some o → o.op ≠ .select cs b) :
  ∀ (n:Nat) (listed:Array Bool) (a:Act),
   (∀ j oj,ops[j]? = some oj → j ≠ i → listed.getD j true = false → (∀ e ∈ oj.after,Region.binds .any e = true → e.on ≠ i) → oi.apart ops oj = true) →
   i ∈ Region.ready .any ops listed → Comes P ops C i oi a v →
   anyCom P ops C Q n (listed.setIfInBounds i true) (a.put oi.dst v) → anyCom P ops C Q (n + 1) listed a:=by
 intro n
 induction n with
 | zero=>
  intro listed a _ hr hy H
  refine ⟨fun h=>absurd hr (by rw [h]; simp),fun j hj oj hoj=>?_⟩
  by_cases hji:j = i
  ·subst hji
   obtain rfl:oi = oj:=by rw [hi] at hoj; exact Option.some.inj hoj
   exact ⟨v,hy,H⟩
  ·have h1:=ready_mono hj hji
   rw [H.1] at h1
   cases h1
 | succ n ih=>
  intro listed a hfree hr hy H
  refine ⟨fun h=>absurd hr (by rw [h]; simp),fun j hj oj hoj=>?_⟩
  by_cases hji:j = i
  ·subst hji
   obtain rfl:oi = oj:=by rw [hi] at hoj; exact Option.some.inj hoj
   exact ⟨v,hy,H⟩
  ·obtain ⟨hjun,oj',hoj',hall⟩:=mem_ready.1 hj
   obtain rfl:oj = oj':=by rw [hoj] at hoj'; exact Option.some.inj hoj'
   have hiun:=(mem_ready.1 hr).1
   have hnot:∀ e ∈ oj.after,Region.binds .any e = true → e.on ≠ i:=by
    intro e he hb heq
    have h1:=hall e he hb
    rw [heq] at h1
    unfold Array.getD at h1 hiun
    split at h1
    ·rename_i hlt
     rw [dif_pos hlt] at hiun
     rw [hiun] at h1
     cases h1
    ·cases h1
   have hap:=hfree j oj hoj hji hjun hnot
   obtain ⟨h1,h2,h3⟩:=Oper.apart_spec hap
   obtain ⟨u,hu,hn⟩:=H.2 j (ready_mono hj hji) oj hoj
   rw [Comes.put (fun cs b=>hsel j oj cs b hoj) h1] at hu
   refine ⟨u,hu,ih _ _ ?_ (ready_mono hr (fun e=>hji e.symm)) ((Comes.put (fun cs b=>hsel i oi cs b hi) h3).2 hy) ?_⟩
   ·intro k ok hk hki hun hno
    refine hfree k ok hk hki ?_ hno
    by_cases hjk:j = k
    ·subst hjk; exact hjun
    ·rw [getD_set_ne true hjk] at hun; exact hun
   ·rw [Array.setIfInBounds_comm _ _ hji,← Act.put_comm a v u h2]
    exact hn
theorem com_lex {Q:Array Bool → Act → Prop} (hs:Region.noSelect ops = true):∀ (l:List Oper) (k:Nat) (listed:Array Bool) (a:Act),(∀ j,l[j]? = ops[k + j]?) → k + l.length = ops.size → listed.size = ops.size → (∀ j,j < k → listed.getD j true = true) →
  Region.lexFrom .any ops l.length k listed = true → wpCom P ops C (fun a=>∀ l,upOf l = (fun _=>true) → Q l a) k l a → anyCom P ops C Q l.length listed a
 | [],k,listed,a,_,hk,hsz,hup,hB,h=>by
  refine ⟨by simpa [Region.lexFrom] using hB,h listed ?_⟩
  funext j
  unfold upOf
  by_cases hj:j < k
  ·exact hup j hj
  ·have:listed.size ≤ j:=by simp at hk; omega
   simp [Array.getD_eq_getD_getElem?,Array.getElem?_eq_none this]
 | o :: l,k,listed,a,hl,hk,hsz,hup,hB,h=>by
  have h0:ops[k]? = some o:=by simpa using (hl 0).symm
  simp only [List.length_cons,Region.lexFrom,Bool.and_eq_true] at hB
  obtain ⟨⟨hr,hf⟩,hB'⟩:=hB
  obtain ⟨v,hy,hK⟩:=h
  refine com_first h0 (Region.noSelect_spec hs) l.length listed a (Region.free_spec h0 hf) (by simpa using hr) hy ?_
  refine com_lex hs l (k + 1) _ _ (fun j=>by have:=hl (j + 1); simpa [Nat.add_assoc,Nat.add_comm 1 j] using this) (by simp at hk; omega) (by simpa using hsz) ?_ hB' hK
  intro j hj
  by_cases hjk:j = k
  ·subst hjk
   have:j < listed.size:=by simp at hk; omega
   simp [Array.getD_eq_getD_getElem?,Array.getElem?_setIfInBounds,this]
  ·rw [getD_set_ne true (fun e=>hjk e.symm)]
   exact hup j (by omega)
theorem wpCom_mono {Q Q':Act → Prop}:∀ (l:List Oper) (k:Nat) (a:Act),wpCom P ops C Q k l a → (∀ a,Q a → Q' a) → wpCom P ops C Q' k l a
 | [],_,_,h,hq=>hq _ h
 | _ :: rest,k,_,⟨v,hc,h⟩,hq=>⟨v,hc,wpCom_mono rest (k + 1) _ h hq⟩
theorem any_com {Q:Exit → Act → World → Prop} {a:Act} {w:World} (hB:Region.lexB .any ops = true) (hC:C (fun j=>Nat.ble ops.size j) { w with drawn:=w.drawn + 1 })
  (h:wpCom P ops C (fun a'=>∀ w',C (fun _=>true) w' → Q .normal a' w') 0 ops.toList a):wpAny P .any ops Q ops.size (Array.replicate ops.size false) a { w with drawn:=w.drawn + 1 }:=by
 simp only [Region.lexB,Bool.and_eq_true] at hB
 have e0:upOf (Array.replicate ops.size false) = (fun j=>Nat.ble ops.size j):=by
  funext j
  unfold upOf
  by_cases hj:j < ops.size
  ·have:Nat.ble ops.size j = false:=by
    cases hx:Nat.ble ops.size j with
    | false=>rfl
    | true=>have:=Nat.le_of_ble_eq_true hx; omega
   rw [this]
   simp [Array.getD_eq_getD_getElem?,Array.getElem?_replicate,hj]
  ·have:Nat.ble ops.size j = true:=Nat.ble_eq_true_of_le (by omega)
   rw [this]
   simp [Array.getD_eq_getD_getElem?,Array.getElem?_replicate,hj]
 refine any_of_com (C:=C) (Q:=fun l a'=>∀ w',C (upOf l) w' → Q .normal a' w') (fun l a w hw h=>h w hw) _ _ _ _ (by rw [e0]; exact hC) ?_
 have h':wpCom P ops C (fun a'=>∀ l,upOf l = (fun _=>true) → ∀ w',C (upOf l) w' → Q .normal a' w') 0 ops.toList a:=
  wpCom_mono ops.toList 0 a h (fun a ha l hl w' hw'=>ha w' (by rw [hl] at hw'; exact hw'))
 have:=com_lex (Q:=fun l a'=>∀ w',C (upOf l) w' → Q .normal a' w') hB.1 ops.toList 0 (Array.replicate ops.size false) a (by simp) (by simp) (by simp) (fun j hj=>absurd hj (by omega)) (by simpa using hB.2) h'
 simpa using this
end
end Go.Sh
namespace Go.Sh
open Go
section
def tame (o:Oper):Bool:=
 match o.op with
 | .move _ | .pick _ _ _ | .load _ _ | .nilCheck _ | .binOp _ _ _ _ _ | .unOp _ _ _ | .fieldAddr _ _ _ | .field _ _ _ | .indexAddr _ _ _ | .index _ _ _ | .lookup _ _ _ _ | .extract _ _ | .slice _ _ _ _ _=>true
 | .call { callee:=.builtin b,args:=_,argTypes:=_ }=>match b with | .len | .min | .max=>true | _=>false
 | _=>false
def stillL:List Oper → List Bool → List Bool
 | [],acc=>acc
 | o :: rest,acc=>stillL rest (acc ++ [tame o && (waits o).all (fun j=>acc.getD j false)])
def pickL (b:Bool):List Bool → Nat → List (Nat × Bool)
 | [],_=>[]
 | x :: xs,i=>bif x == b then (i,b) :: pickL b xs (i + 1) else pickL b xs (i + 1)
def ordOf (ops:Array Oper):List (Nat × Bool):=pickL true (stillL ops.toList []) 0 ++ pickL false (stillL ops.toList []) 0
def heldB (ops:Array Oper):List (Nat × Bool) → Array Bool → Bool
 | [],listed=>(Region.ready .any ops listed).isEmpty
 | (i,true) :: r,listed=>(Region.ready .any ops listed).contains i && Region.free .any ops listed i && heldB ops r (listed.setIfInBounds i true)
 | (i,false) :: r,listed=>(Region.ready .any ops listed == [i]) && heldB ops r (listed.setIfInBounds i true)
def heldOk (ops:Array Oper):Bool:=Region.noSelect ops && heldB ops (ordOf ops) (Array.replicate ops.size false) && Nat.beq (ordOf ops).length ops.size
variable {P:Program} {ops:Array Oper} {C:World → Prop}
def runsTo (P:Program) (s:Sem Next) (K:Value → World → Prop) (w:World):Prop:=
 match s.run P w with
 | .ok (.value v) w'=>K v w'
 | .ok .skip w'=>K undef w'
 | .ok (.enter f args) w'=>Calls P f args w' (fun e w''=>∃ v,e = .returned v ∧ K v w'')
 | _=>False
theorem runsTo_mono {s:Sem Next} {K K':Value → World → Prop} {w:World} (h:runsTo P s K w) (hk:∀ v w',K v w' → K' v w'):runsTo P s K' w:=by
 unfold runsTo at *
 generalize s.run P w = r at *
 cases r with
 | halt=>exact h.elim
 | ok n w'=>
  cases n <;> try exact h.elim
  ·exact hk _ _ h
  ·exact hk _ _ h
  ·exact Calls.mono h (fun e w'' ⟨v,hv,h⟩=>⟨v,hv,hk _ _ h⟩)
def Looks (P:Program) (ops:Array Oper) (C:World → Prop) (o:Oper) (a:Act) (v:Value):Prop:=
 bif Region.wanted o (yielded ops a.tmps) then ∀ w,C w → (execOp a.eval o).run P w = .ok (.value v) w else v = undef
def stepH (P:Program) (ops:Array Oper) (o:Oper) (a:Act) (w:World) (K:Act → World → Prop):Prop:=
 bif Region.wanted o (yielded ops a.tmps) then runsTo P (execOp a.eval o) (fun v w'=>K (a.put o.dst v) w') w else K (a.put o.dst undef) w
theorem stepH_mono {o:Oper} {a:Act} {w:World} {K K':Act → World → Prop} (h:stepH P ops o a w K) (hk:∀ v w',K (a.put o.dst v) w' → K' (a.put o.dst v) w'):stepH P ops o a w K':=by
 unfold stepH at *
 cases hw:Region.wanted o (yielded ops a.tmps) with
 | true=>rw [hw] at h; exact runsTo_mono h (fun v w'=>hk v w')
 | false=>rw [hw] at h; exact hk _ _ h
def wpHeld (P:Program) (ops:Array Oper) (C:World → Prop) (Q:Act → World → Prop):List (Nat × Bool) → Act → World → Prop
 | [],a,w=>Q a w
 | (i,true) :: r,a,w=>∃ o,ops[i]? = some o ∧ ∃ v,Looks P ops C o a v ∧ wpHeld P ops C Q r (a.put o.dst v) w
 | (i,false) :: r,a,w=>∃ o,ops[i]? = some o ∧ stepH P ops o a w (fun a' w'=>C w' ∧ wpHeld P ops C Q r a' w')
def anyH (P:Program) (ops:Array Oper) (C:World → Prop) (Q:Act → World → Prop):Nat → Array Bool → Act → World → Prop
 | 0,listed,a,w=>C w ∧ Region.ready .any ops listed = [] ∧ Q a w
 | n + 1,listed,a,w=>C w ∧ (Region.ready .any ops listed = [] → Q a w) ∧
  ∀ i ∈ Region.ready .any ops listed,∀ o,ops[i]? = some o → stepH P ops o a w (anyH P ops C Q n (listed.setIfInBounds i true))
theorem anyH_C {Q:Act → World → Prop} {n:Nat} {listed:Array Bool} {a:Act} {w:World} (h:anyH P ops C Q n listed a w):C w:=by
 cases n <;> exact h.1
theorem any_of_held {Q:Act → World → Prop} {Q':Exit → Act → World → Prop} (hQ:∀ a w,Q a w → Q' .normal a w):∀ (n:Nat) (listed:Array Bool) (a:Act) (w:World),
  anyH P ops C Q n listed a w → wpAny P .any ops Q' n listed a w
 | 0,_,_,_,h=>⟨h.2.1,hQ _ _ h.2.2⟩
 | n + 1,listed,a,w,h=>by
  refine ⟨fun h0=>hQ _ _ (h.2.1 h0),fun i hi=>?_⟩
  obtain ⟨_,o,ho,_⟩:=mem_ready.1 hi
  have hs:=h.2.2 i hi o ho
  unfold wpOp
  rw [ho]
  show if Region.wanted o (yielded ops a.tmps) = true then _ else _
  unfold stepH at hs
  cases hwant:Region.wanted o (yielded ops a.tmps) with
  | false=>
   rw [hwant] at hs
   rw [if_neg (by simp)]
   exact any_of_held hQ n _ _ _ hs
  | true=>
   rw [hwant] at hs
   rw [if_pos rfl]
   left
   unfold Oper.wp
   revert hs
   show runsTo P (execOp a.eval o) _ w → _
   unfold runsTo
   generalize (execOp a.eval o).run P w = r
   intro hs
   cases r with
   | halt x w'=>exact hs.elim
   | ok x w'=>
    cases x with
    | value u=>exact any_of_held hQ n _ _ _ hs
    | skip=>exact any_of_held hQ n _ _ _ hs
    | enter f args=>
     refine Calls.mono hs ?_
     rintro e w'' ⟨v,rfl,hc⟩
     exact any_of_held hQ n _ _ _ hc
    | _=>exact hs.elim
theorem Looks.put {oi oj:Oper} {a:Act} {v u:Value} (hs:∀ cs b,oi.op ≠ .select cs b) (h:∀ d,oj.dst = some d → d ∉ oi.looksAt ops):Looks P ops C oi (a.put oj.dst u) v ↔ Looks P ops C oi a v:=by
 unfold Looks
 rw [wanted_put oi a oj.dst u h,execOp_put oi hs a oj.dst u h]
theorem Looks.step {oi:Oper} {a:Act} {v:Value} {w:World} {K:Act → World → Prop} (h:Looks P ops C oi a v) (hw:C w) (k:K (a.put oi.dst v) w):stepH P ops oi a w K:=by
 unfold Looks at h
 unfold stepH
 cases hwant:Region.wanted oi (yielded ops a.tmps) with
 | false=>rw [hwant] at h; have h:v = undef:=h; subst h; exact k
 | true=>
  rw [hwant] at h
  have h:=h w hw
  show runsTo P (execOp a.eval oi) _ w
  unfold runsTo
  rw [h]
  exact k
theorem held_first {Q:Act → World → Prop} {i:Nat} {oi:Oper} {v:Value} (hi:ops[i]? = some oi) (hsel:∀ (j:Nat) (o:Oper) cs b,ops[j]? = some o → o.op ≠ .select cs b) :
  ∀ (n:Nat) (listed:Array Bool) (a:Act) (w:World),
   (∀ j oj,ops[j]? = some oj → j ≠ i → listed.getD j true = false → (∀ e ∈ oj.after,Region.binds .any e = true → e.on ≠ i) → oi.apart ops oj = true) →
   i ∈ Region.ready .any ops listed → Looks P ops C oi a v → C w →
   anyH P ops C Q n (listed.setIfInBounds i true) (a.put oi.dst v) w → anyH P ops C Q (n + 1) listed a w:=by
 intro n
 induction n with
 | zero=>
  intro listed a w _ hr hy hw H
  refine ⟨hw,fun h=>absurd hr (by rw [h]; simp),fun j hj oj hoj=>?_⟩
  by_cases hji:j = i
  ·subst hji
   obtain rfl:oi = oj:=by rw [hi] at hoj; exact Option.some.inj hoj
   exact hy.step hw H
  ·have h1:=ready_mono hj hji
   rw [H.2.1] at h1
   cases h1
 | succ n ih=>
  intro listed a w hfree hr hy hw H
  refine ⟨hw,fun h=>absurd hr (by rw [h]; simp),fun j hj oj hoj=>?_⟩
  by_cases hji:j = i
  ·subst hji
   obtain rfl:oi = oj:=by rw [hi] at hoj; exact Option.some.inj hoj
   exact hy.step hw H
  ·obtain ⟨hjun,oj',hoj',hall⟩:=mem_ready.1 hj
   obtain rfl:oj = oj':=by rw [hoj] at hoj'; exact Option.some.inj hoj'
   have hiun:=(mem_ready.1 hr).1
   have hnot:∀ e ∈ oj.after,Region.binds .any e = true → e.on ≠ i:=by
    intro e he hb heq
    have h1:=hall e he hb
    rw [heq] at h1
    unfold Array.getD at h1 hiun
    split at h1
    ·rename_i hlt
     rw [dif_pos hlt] at hiun
     rw [hiun] at h1
     cases h1
    ·cases h1
   have hap:=hfree j oj hoj hji hjun hnot
   obtain ⟨h1,h2,h3⟩:=Oper.apart_spec hap
   have hs:=H.2.2 j (ready_mono hj hji) oj hoj
   have hs':stepH P ops oj a w (fun a' w'=>anyH P ops C Q n ((listed.setIfInBounds i true).setIfInBounds j true) (a'.put oi.dst v) w'):=by
    unfold stepH at hs ⊢
    rw [wanted_put oj a oi.dst v h1,execOp_put oj (fun cs b=>hsel j oj cs b hoj) a oi.dst v h1] at hs
    cases hwant:Region.wanted oj (yielded ops a.tmps) with
    | true=>
     rw [hwant] at hs
     exact runsTo_mono hs (fun u w' h=>by
      show anyH P ops C Q n _ ((a.put oj.dst u).put oi.dst v) w'
      rw [← Act.put_comm a v u h2]; exact h)
    | false=>
     rw [hwant] at hs
     show anyH P ops C Q n _ ((a.put oj.dst undef).put oi.dst v) w
     rw [← Act.put_comm a v undef h2]; exact hs
   refine stepH_mono hs' (fun u w' hn=>ih _ _ _ ?_ (ready_mono hr (fun e=>hji e.symm)) ((Looks.put (fun cs b=>hsel i oi cs b hi) h3).2 hy) (anyH_C hn) ?_)
   ·intro k ok hk hki hun hno
    refine hfree k ok hk hki ?_ hno
    by_cases hjk:j = k
    ·subst hjk; exact hjun
    ·rw [getD_set_ne true hjk] at hun; exact hun
   ·rw [Array.setIfInBounds_comm _ _ hji]
    exact hn
theorem held_lex {Q:Act → World → Prop} (hs:Region.noSelect ops = true):∀ (l:List (Nat × Bool)) (listed:Array Bool) (a:Act) (w:World),
  heldB ops l listed = true → C w → wpHeld P ops C Q l a w → anyH P ops C Q l.length listed a w
 | [],listed,a,w,hB,hw,h=>⟨hw,by simpa [heldB] using hB,h⟩
 | (i,true) :: r,listed,a,w,hB,hw,h=>by
  simp only [heldB,Bool.and_eq_true] at hB
  obtain ⟨⟨hr,hf⟩,hB'⟩:=hB
  obtain ⟨o,ho,v,hv,hn⟩:=h
  exact held_first ho (Region.noSelect_spec hs) r.length listed a w (Region.free_spec ho hf) (by simpa using hr) hv hw (held_lex hs r _ _ w hB' hw hn)
 | (i,false) :: r,listed,a,w,hB,hw,h=>by
  simp only [heldB,Bool.and_eq_true,beq_iff_eq] at hB
  obtain ⟨hr,hB'⟩:=hB
  obtain ⟨o,ho,hs'⟩:=h
  refine ⟨hw,fun h0=>absurd (hr.symm.trans h0) (by simp),fun j hj oj hoj=>?_⟩
  rw [hr,List.mem_singleton] at hj
  subst hj
  obtain rfl:o = oj:=by rw [ho] at hoj; exact Option.some.inj hoj
  exact stepH_mono hs' (fun v w' ⟨hc,hn⟩=>held_lex hs r _ _ w' hB' hc hn)
theorem any_held {Q:Exit → Act → World → Prop} {a:Act} {w:World} (hB:heldOk ops = true) (hC:C { w with drawn:=w.drawn + 1 })
  (h:wpHeld P ops C (fun a' w'=>Q .normal a' w') (ordOf ops) a { w with drawn:=w.drawn + 1 }):wpAny P .any ops Q ops.size (Array.replicate ops.size false) a { w with drawn:=w.drawn + 1 }:=by
 simp only [heldOk,Bool.and_eq_true] at hB
 refine any_of_held (C:=C) (Q:=fun a' w'=>Q .normal a' w') (fun a w h=>h) _ _ _ _ ?_
 have:=held_lex hB.1.1 _ _ _ _ hB.1.2 hC h
 rw [Nat.eq_of_beq_eq_true hB.2] at this
 exact this
inductive Tr where
 | done
 | look (i:Nat) (t:Tr)
 | only (i:Nat) (t:Tr)
 | alt (i:Nat) (t u:Tr)
def Tr.heads:Tr → List Nat
 | .only i _=>[i]
 | .alt i _ u=>i :: u.heads
 | _=>[]
def trB (ops:Array Oper):Tr → Bool → Nat → Array Bool → Bool
 | .done,_,m,listed=>Nat.beq m 0 && (Region.ready .any ops listed).isEmpty
 | .look i t,inside,m,listed=>!inside && (Nat.ble 1 m && ((Region.ready .any ops listed).contains i && (Region.free .any ops listed i && trB ops t false (m - 1) (listed.setIfInBounds i true))))
 | .only i t,inside,m,listed=>(inside || Region.ready .any ops listed == [i]) && (Nat.ble 1 m && trB ops t false (m - 1) (listed.setIfInBounds i true))
 | .alt i t u,inside,m,listed=>(inside || Region.ready .any ops listed == i :: u.heads) && (Nat.ble 1 m && (trB ops t false (m - 1) (listed.setIfInBounds i true) && trB ops u true m listed))
def trOk (ops:Array Oper) (t:Tr):Bool:=Region.noSelect ops && trB ops t false ops.size (Array.replicate ops.size false)
end
end Go.Sh
namespace Go.Sh
open Go
section
variable {P:Program} {ops:Array Oper} {C:Nat → World → Prop} {ws:List Nat}
def upto (C:Nat → World → Prop) (n:Nat) (w:World):Prop:=∃ s,s ≤ n ∧ C s w
def wsOf (l:List (Nat × Bool)):List Nat:=l.filterMap (fun x=>bif x.2 then none else some x.1)
def stage (ws:List Nat) (listed:Array Bool):Nat:=(ws.filter (fun j=>listed.getD j false)).length
def closI (ops:Array Oper) (i:Nat):Array Bool:=
 (List.range ops.size).foldl (fun cl j=>bif !Nat.beq j i && (match ops[j]? with | some o=>(waits o).all (fun d=>cl.getD d false) | none=>false) then cl.setIfInBounds j true else cl) (Array.replicate ops.size false)
def satB (ops:Array Oper) (cl:Array Bool) (i:Nat):Bool:=(Region.ready .any ops cl).all (fun j=>Nat.beq j i)
def subB (listed cl:Array Bool):Bool:=(List.range listed.size).all (fun j=>!listed.getD j false || cl.getD j false)
def dueOf (ops:Array Oper) (ws:List Nat) (i:Nat):Nat:=stage ws (closI ops i)
def stageB (ops:Array Oper) (ws:List Nat):List (Nat × Bool) → Array Bool → Bool
 | [],listed=>(Region.ready .any ops listed).isEmpty
 | (i,true) :: r,listed=>(Region.ready .any ops listed).contains i && Region.free .any ops listed i && !ws.contains i && Nat.beq (closI ops i).size ops.size && satB ops (closI ops i) i && subB listed (closI ops i) && stageB ops ws r (listed.setIfInBounds i true)
 | (i,false) :: r,listed=>(Region.ready .any ops listed == [i]) && Nat.beq (stage ws (listed.setIfInBounds i true)) (stage ws listed + 1) && stageB ops ws r (listed.setIfInBounds i true)
def stageOk (ops:Array Oper):Bool:=Region.noSelect ops && stageB ops (wsOf (ordOf ops)) (ordOf ops) (Array.replicate ops.size false) && Nat.beq (ordOf ops).length ops.size && Nat.beq (stage (wsOf (ordOf ops)) (Array.replicate ops.size false)) 0
def Sub (listed cl:Array Bool):Prop:=∀ j,listed.getD j false = true → cl.getD j false = true
theorem sub_of {listed cl:Array Bool} (h:subB listed cl = true):Sub listed cl:=by
 intro j hj
 unfold subB at h
 rw [List.all_eq_true] at h
 have hlt:j < listed.size:=by
  rcases Nat.lt_or_ge j listed.size with h' | h'
  ·exact h'
  ·simp [Array.getD,Nat.not_lt.2 h'] at hj
 have:=h j (List.mem_range.2 hlt)
 rw [hj] at this
 simpa using this
theorem stage_mono {listed cl:Array Bool} (h:Sub listed cl):stage ws listed ≤ stage ws cl:=by
 unfold stage
 induction ws with
 | nil=>simp
 | cons j r ih=>
  simp only [List.filter_cons]
  cases hj:listed.getD j false with
  | true=>
   rw [h j hj]
   simpa using ih
  | false=>
   cases cl.getD j false with
   | true=>simp only [Bool.false_eq_true,if_true,if_false,List.length_cons]; omega
   | false=>simpa using ih
theorem stage_look {listed:Array Bool} {i:Nat} (h:ws.contains i = false):stage ws (listed.setIfInBounds i true) = stage ws listed:=by
 unfold stage
 congr 1
 apply List.filter_congr
 intro j hj
 exact getD_set_ne false (fun e=>by
  subst e
  have:ws.contains i = true:=by simpa using hj
  rw [h] at this; cases this)
theorem sub_step {listed cl:Array Bool} {i j:Nat} (hs:Sub listed cl) (hsz:cl.size = ops.size) (hsat:satB ops cl i = true) (hj:j ∈ Region.ready .any ops listed) (hji:j ≠ i):Sub (listed.setIfInBounds j true) cl:=by
 intro k hk
 by_cases hkj:j = k
 ·subst hkj
  cases hc:cl.getD j false with
  | true=>rfl
  | false=>
   obtain ⟨h0,o,ho,hall⟩:=mem_ready.1 hj
   have hlt:j < cl.size:=by rw [hsz]; exact (Array.getElem?_eq_some_iff.1 ho).1
   have hm:j ∈ Region.ready .any ops cl:=mem_ready.2 ⟨by
    unfold Array.getD at hc ⊢
    rw [dif_pos hlt] at hc ⊢
    exact hc,o,ho,fun e he hb=>hs _ (hall e he hb)⟩
   unfold satB at hsat
   rw [List.all_eq_true] at hsat
   exact absurd (Nat.eq_of_beq_eq_true (hsat j hm)) hji
 ·rw [getD_set_ne false hkj] at hk
  exact hs k hk
def wpStage (P:Program) (ops:Array Oper) (ws:List Nat) (C:Nat → World → Prop) (Q:Act → World → Prop):List (Nat × Bool) → Nat → Act → World → Prop
 | [],_,a,w=>Q a w
 | (i,true) :: r,s,a,w=>∃ o,ops[i]? = some o ∧ ∃ v,Looks P ops (upto C (dueOf ops ws i)) o a v ∧ wpStage P ops ws C Q r s (a.put o.dst v) w
 | (i,false) :: r,s,a,w=>∃ o,ops[i]? = some o ∧ stepH P ops o a w (fun a' w'=>C (s + 1) w' ∧ wpStage P ops ws C Q r (s + 1) a' w')
theorem wpStage_mono:∀ (l:List (Nat × Bool)) (s:Nat) {Q Q':Act → World → Prop} (a:Act) (w:World),wpStage P ops ws C Q l s a w → (∀ a w,Q a w → Q' a w) → wpStage P ops ws C Q' l s a w
 | [],_,_,_,_,_,h,hq=>hq _ _ h
 | (i,true) :: r,s,_,_,a,w,⟨o,ho,v,hv,h⟩,hq=>⟨o,ho,v,hv,wpStage_mono r s _ _ h hq⟩
 | (i,false) :: r,s,_,_,a,w,⟨o,ho,h⟩,hq=>⟨o,ho,stepH_mono h (fun _ _ ⟨hc,h⟩=>⟨hc,wpStage_mono r (s + 1) _ _ h hq⟩)⟩
def anyS (P:Program) (ops:Array Oper) (ws:List Nat) (C:Nat → World → Prop) (Q:Act → World → Prop):Nat → Array Bool → Act → World → Prop
 | 0,listed,a,w=>C (stage ws listed) w ∧ Region.ready .any ops listed = [] ∧ Q a w
 | n + 1,listed,a,w=>C (stage ws listed) w ∧ (Region.ready .any ops listed = [] → Q a w) ∧
  ∀ i ∈ Region.ready .any ops listed,∀ o,ops[i]? = some o → stepH P ops o a w (anyS P ops ws C Q n (listed.setIfInBounds i true))
theorem anyS_C {Q:Act → World → Prop} {n:Nat} {listed:Array Bool} {a:Act} {w:World} (h:anyS P ops ws C Q n listed a w):C (stage ws listed) w:=by
 cases n <;> exact h.1
theorem any_of_stage {Q:Act → World → Prop} {Q':Exit → Act → World → Prop} (hQ:∀ a w,Q a w → Q' .normal a w):∀ (n:Nat) (listed:Array Bool) (a:Act) (w:World),
  anyS P ops ws C Q n listed a w → wpAny P .any ops Q' n listed a w
 | 0,_,_,_,h=>⟨h.2.1,hQ _ _ h.2.2⟩
 | n + 1,listed,a,w,h=>by
  refine ⟨fun h0=>hQ _ _ (h.2.1 h0),fun i hi=>?_⟩
  obtain ⟨_,o,ho,_⟩:=mem_ready.1 hi
  have hs:=h.2.2 i hi o ho
  unfold wpOp
  rw [ho]
  show if Region.wanted o (yielded ops a.tmps) = true then _ else _
  unfold stepH at hs
  cases hwant:Region.wanted o (yielded ops a.tmps) with
  | false=>
   rw [hwant] at hs
   rw [if_neg (by simp)]
   exact any_of_stage hQ n _ _ _ hs
  | true=>
   rw [hwant] at hs
   rw [if_pos rfl]
   left
   unfold Oper.wp
   revert hs
   show runsTo P (execOp a.eval o) _ w → _
   unfold runsTo
   generalize (execOp a.eval o).run P w = r
   intro hs
   cases r with
   | halt x w'=>exact hs.elim
   | ok x w'=>
    cases x with
    | value u=>exact any_of_stage hQ n _ _ _ hs
    | skip=>exact any_of_stage hQ n _ _ _ hs
    | enter f args=>
     refine Calls.mono hs ?_
     rintro e w'' ⟨v,rfl,hc⟩
     exact any_of_stage hQ n _ _ _ hc
    | _=>exact hs.elim
theorem stage_first {Q:Act → World → Prop} {i:Nat} {oi:Oper} {v:Value} {cl:Array Bool} (hiw:ws.contains i = false) (hsz:cl.size = ops.size) (hsat:satB ops cl i = true) (hi:ops[i]? = some oi) (hsel:∀ (j:Nat) (o:Oper) cs b,ops[j]? = some o → o.op ≠ .select cs b) :
  ∀ (n:Nat) (listed:Array Bool) (a:Act) (w:World),
   (∀ j oj,ops[j]? = some oj → j ≠ i → listed.getD j true = false → (∀ e ∈ oj.after,Region.binds .any e = true → e.on ≠ i) → oi.apart ops oj = true) →
   i ∈ Region.ready .any ops listed → Looks P ops (upto C (stage ws cl)) oi a v → Sub listed cl →
   anyS P ops ws C Q n (listed.setIfInBounds i true) (a.put oi.dst v) w → anyS P ops ws C Q (n + 1) listed a w:=by
 intro n
 induction n with
 | zero=>
  intro listed a w _ hr hy hsub H
  have hw:C (stage ws listed) w:=stage_look (listed:=listed) hiw ▸ anyS_C H
  refine ⟨hw,fun h=>absurd hr (by rw [h]; simp),fun j hj oj hoj=>?_⟩
  by_cases hji:j = i
  ·subst hji
   obtain rfl:oi = oj:=by rw [hi] at hoj; exact Option.some.inj hoj
   exact hy.step ⟨_,stage_mono hsub,hw⟩ H
  ·have h1:=ready_mono hj hji
   rw [H.2.1] at h1
   cases h1
 | succ n ih=>
  intro listed a w hfree hr hy hsub H
  have hw:C (stage ws listed) w:=stage_look (listed:=listed) hiw ▸ anyS_C H
  refine ⟨hw,fun h=>absurd hr (by rw [h]; simp),fun j hj oj hoj=>?_⟩
  by_cases hji:j = i
  ·subst hji
   obtain rfl:oi = oj:=by rw [hi] at hoj; exact Option.some.inj hoj
   exact hy.step ⟨_,stage_mono hsub,hw⟩ H
  ·obtain ⟨hjun,oj',hoj',hall⟩:=mem_ready.1 hj
   obtain rfl:oj = oj':=by rw [hoj] at hoj'; exact Option.some.inj hoj'
   have hiun:=(mem_ready.1 hr).1
   have hnot:∀ e ∈ oj.after,Region.binds .any e = true → e.on ≠ i:=by
    intro e he hb heq
    have h1:=hall e he hb
    rw [heq] at h1
    unfold Array.getD at h1 hiun
    split at h1
    ·rename_i hlt
     rw [dif_pos hlt] at hiun
     rw [hiun] at h1
     cases h1
    ·cases h1
   have hap:=hfree j oj hoj hji hjun hnot
   obtain ⟨h1,h2,h3⟩:=Oper.apart_spec hap
   have hs:=H.2.2 j (ready_mono hj hji) oj hoj
   have hs':stepH P ops oj a w (fun a' w'=>anyS P ops ws C Q n ((listed.setIfInBounds i true).setIfInBounds j true) (a'.put oi.dst v) w'):=by
    unfold stepH at hs ⊢
    rw [wanted_put oj a oi.dst v h1,execOp_put oj (fun cs b=>hsel j oj cs b hoj) a oi.dst v h1] at hs
    cases hwant:Region.wanted oj (yielded ops a.tmps) with
    | true=>
     rw [hwant] at hs
     exact runsTo_mono hs (fun u w' h=>by
      show anyS P ops ws C Q n _ ((a.put oj.dst u).put oi.dst v) w'
      rw [← Act.put_comm a v u h2]; exact h)
    | false=>
     rw [hwant] at hs
     show anyS P ops ws C Q n _ ((a.put oj.dst undef).put oi.dst v) w
     rw [← Act.put_comm a v undef h2]; exact hs
   refine stepH_mono hs' (fun u w' hn=>ih _ _ _ ?_ (ready_mono hr (fun e=>hji e.symm)) ((Looks.put (fun cs b=>hsel i oi cs b hi) h3).2 hy) (sub_step hsub hsz hsat hj hji) ?_)
   ·intro k ok hk hki hun hno
    refine hfree k ok hk hki ?_ hno
    by_cases hjk:j = k
    ·subst hjk; exact hjun
    ·rw [getD_set_ne true hjk] at hun; exact hun
   ·rw [Array.setIfInBounds_comm _ _ hji]
    exact hn
theorem stage_lex {Q:Act → World → Prop} (hs:Region.noSelect ops = true):∀ (l:List (Nat × Bool)) (listed:Array Bool) (a:Act) (w:World),
  stageB ops ws l listed = true → C (stage ws listed) w → wpStage P ops ws C Q l (stage ws listed) a w → anyS P ops ws C Q l.length listed a w
 | [],listed,a,w,hB,hw,h=>⟨hw,by simpa [stageB] using hB,h⟩
 | (i,true) :: r,listed,a,w,hB,hw,h=>by
  simp only [stageB,Bool.and_eq_true,Bool.not_eq_true'] at hB
  obtain ⟨⟨⟨⟨⟨⟨hr,hf⟩,hiw⟩,hsz⟩,hsat⟩,hsub⟩,hB'⟩:=hB
  obtain ⟨o,ho,v,hv,hn⟩:=h
  exact stage_first hiw (Nat.eq_of_beq_eq_true hsz) hsat ho (Region.noSelect_spec hs) r.length listed a w (Region.free_spec ho hf) (by simpa using hr) hv (sub_of hsub) (stage_lex hs r _ _ w hB' (by rw [stage_look hiw]; exact hw) (by rw [stage_look hiw]; exact hn))
 | (i,false) :: r,listed,a,w,hB,hw,h=>by
  simp only [stageB,Bool.and_eq_true,beq_iff_eq] at hB
  obtain ⟨⟨hr,hst⟩,hB'⟩:=hB
  have hst:=Nat.eq_of_beq_eq_true hst
  obtain ⟨o,ho,hs'⟩:=h
  refine ⟨hw,fun h0=>absurd (hr.symm.trans h0) (by simp),fun j hj oj hoj=>?_⟩
  rw [hr,List.mem_singleton] at hj
  subst hj
  obtain rfl:o = oj:=by rw [ho] at hoj; exact Option.some.inj hoj
  exact stepH_mono hs' (fun v w' ⟨hc,hn⟩=>stage_lex hs r _ _ w' hB' (by rw [hst]; exact hc) (by rw [hst]; exact hn))
theorem any_stage {Q:Exit → Act → World → Prop} {a:Act} {w:World} (hB:stageOk ops = true) (hC:C 0 { w with drawn:=w.drawn + 1 })
  (h:wpStage P ops (wsOf (ordOf ops)) C (fun a' w'=>Q .normal a' w') (ordOf ops) 0 a { w with drawn:=w.drawn + 1 }):wpAny P .any ops Q ops.size (Array.replicate ops.size false) a { w with drawn:=w.drawn + 1 }:=by
 simp only [stageOk,Bool.and_eq_true] at hB
 obtain ⟨⟨⟨h1,h2⟩,h3⟩,h4⟩:=hB
 have h4:=Nat.eq_of_beq_eq_true h4
 refine any_of_stage (ws:=wsOf (ordOf ops)) (C:=C) (Q:=fun a' w'=>Q .normal a' w') (fun a w h=>h) _ _ _ _ ?_
 have:=stage_lex h1 _ (Array.replicate ops.size false) a { w with drawn:=w.drawn + 1 } h2 (by rw [h4]; exact hC) (by rw [h4]; exact h)
 rw [Nat.eq_of_beq_eq_true h3] at this
 exact this
end
end Go.Sh
namespace Go.Sh
open Go
abbrev Env:=Nat → Value
def evE (e:Env):Operand → Value
 | .tmp t=>e t
 | .const v=>v
 | .global g=>.pointer (some ⟨g,0,none⟩)
 | .func f=>.func (.func f) #[] #[]
def upd (n:Nat) (e:Env):Option Nat → Value → Env
 | none,_=>e
 | some d,v=>fun i=>bif Nat.beq i d && Nat.blt d n then v else e i
structure Rel (ds:List Deferred) (n:Nat) (e:Env) (a:Act):Prop where
 size:a.tmps.size = n
 defers:a.defers = ds
 get:∀ i,a.tmps.getD i undef = e i
variable {ds:List Deferred}
theorem Rel.eval {n:Nat} {e:Env} {a:Act} (h:Rel ds n e a):a.eval = evE e:=by
 funext x
 cases x <;> simp only [Act.eval,evE]
 exact h.get _
theorem Rel.put {n:Nat} {e:Env} {a:Act} (h:Rel ds n e a) (d:Option Nat) (v:Value):Rel ds n (upd n e d v) (a.put d v):=by
 cases d with
 | none=>exact h
 | some d=>
  refine ⟨by simp [Act.put,h.size],by simpa [Act.put] using h.defers,fun i=>?_⟩
  have hg:=h.get i
  simp only [Act.put,upd,Array.getD_eq_getD_getElem?,Array.getElem?_setIfInBounds,h.size] at hg ⊢
  by_cases hi:i = d
  ·subst hi
   by_cases hd:i < n
   ·have hb:Nat.blt i n = true:=by simpa [Nat.blt,Nat.succ_le_iff] using hd
    simp [hd,hb]
   ·have hb:Nat.blt i n = false:=by
     cases hx:Nat.blt i n with
     | false=>rfl
     | true=>exact absurd (by simpa [Nat.blt,Nat.succ_le_iff] using hx) hd
    simp [hd,← hg,h.size,hb]
  ·have hb:Nat.beq i d = false:=by
    cases hx:Nat.beq i d with
    | false=>rfl
    | true=>exact absurd (Nat.eq_of_beq_eq_true hx) hi
   rw [if_neg (fun e=>hi e.symm),hg,hb]
   rfl
def opM (P:Program) (s:Sem Next) (K:Value → World → Prop) (w:World):Prop:=
 match s.run P w with
 | .ok (.value v) w'=>K v w'
 | .ok .skip w'=>K undef w'
 | .ok (.enter f args) w'=>Calls P f args w' (fun e w''=>∃ v,e = .returned v ∧ K v w'')
 | _=>False
def callM (P:Program) (f:FuncId) (args:Array Value) (K:Value → World → Prop) (w:World):Prop:=
 Calls P f args w (fun e w'=>∃ v,e = .returned v ∧ K v w')
def extM (P:Program) (f:FuncId) (args:Array Value) (K:Value → World → Prop) (w:World):Prop:=opM P (callFunc f args) K w
def pureM (v:Value) (K:Value → World → Prop) (w:World):Prop:=K v w
theorem opM_value {P:Program} {x:Sem Value} {K:Value → World → Prop} {w:World}:opM P (do let v ← x; pure (.value v)) K w ↔ ∃ v w',x.run P w = .ok v w' ∧ K v w':=by
 unfold opM
 rw [Sem.run_bind]
 generalize x.run P w = r
 cases r with
 | halt=>simp
 | ok v w'=>exact ⟨fun h=>⟨v,w',rfl,h⟩,fun ⟨_,_,h,hk⟩=>by cases h; exact hk⟩
theorem opM_mono {P:Program} {s:Sem Next} {K K':Value → World → Prop} {w:World} (h:opM P s K w) (hk:∀ v w',K v w' → K' v w'):opM P s K' w:=by
 unfold opM at *
 generalize s.run P w = r at *
 cases r with
 | halt=>exact h.elim
 | ok n w'=>
  cases n <;> try exact h.elim
  ·exact hk _ _ h
  ·exact hk _ _ h
  ·exact Calls.mono h (fun e w'' ⟨v,hv,h⟩=>⟨v,hv,hk _ _ h⟩)
theorem opM_wp {P:Program} {o:Oper} {a:Act} {w:World} {next:Act → World → Prop} {Q:Exit → Act → World → Prop}
  (h:opM P (execOp a.eval o) (fun v w'=>next (a.put o.dst v) w') w):o.wp P a w next Q:=by
 unfold opM at h; unfold Oper.wp
 generalize (execOp a.eval o).run P w = r at h
 cases r with
 | halt=>exact h.elim
 | ok n w'=>
  cases n <;> try exact h.elim
  ·exact h
  ·exact h
  ·rw [Oper.upon_enter]
   refine Calls.mono h ?_
   rintro e w'' ⟨v,rfl,hk⟩
   exact hk
def isConst:Operand → Bool
 | .const _=>true
 | _=>false
def num (keep:Bool):Nat → List Operand → List Operand × List Operand
 | _,[]=>([],[])
 | k,x :: xs=>bif keep && isConst x then (x :: (num keep k xs).1,(num keep k xs).2) else (.tmp k :: (num keep (k + 1) xs).1,x :: (num keep (k + 1) xs).2)
def num2:Nat → List (Nat × Operand) → List (Nat × Operand) × List Operand
 | _,[]=>([],[])
 | k,(i,x) :: xs=>((i,.tmp k) :: (num2 (k + 1) xs).1,x :: (num2 (k + 1) xs).2)
def numO (k:Nat):Option Operand → Option Operand × List Operand
 | none=>(none,[])
 | some x=>(some (.tmp k),[x])
def renum:Op → Option (Op × List Operand)
 | .pick c a b=>some (.pick (.tmp 0) (.tmp 1) (.tmp 2),[c,a,b])
 | .alloc t=>some (.alloc t,[])
 | .box t x=>some (.box t (.tmp 0),[x])
 | .build t ps=>some (.build t (num2 0 ps.toList).1.toArray,(num2 0 ps.toList).2)
 | .buildSlice t n ps=>some (.buildSlice t n (num2 0 ps.toList).1.toArray,(num2 0 ps.toList).2)
 | .load t a=>some (.load t (.tmp 0),[a])
 | .store t a x=>some (.store t (.tmp 0) (.tmp 1),[a,x])
 | .nilCheck x=>some (.nilCheck (.tmp 0),[x])
 | .binOp .eql t x y t'=>some (.binOp .eql t ((num true 0 [x,y]).1.getD 0 x) ((num true 0 [x,y]).1.getD 1 x) t',(num true 0 [x,y]).2)
 | .binOp .neq t x y t'=>some (.binOp .neq t ((num true 0 [x,y]).1.getD 0 x) ((num true 0 [x,y]).1.getD 1 x) t',(num true 0 [x,y]).2)
 | .binOp o t x y t'=>some (.binOp o t (.tmp 0) (.tmp 1) t',[x,y])
 | .unOp o t x=>some (.unOp o t (.tmp 0),[x])
 | .convert s d x=>some (.convert s d (.tmp 0),[x])
 | .makeInterface t x=>some (.makeInterface t (.tmp 0),[x])
 | .makeFunc fn fs cs=>some (.makeFunc fn (num false 0 fs.toList).1.toArray (num false fs.size cs.toList).1.toArray,(num false 0 fs.toList).2 ++ (num false fs.size cs.toList).2)
 | .makeMap t r=>some (.makeMap t (numO 0 r).1,(numO 0 r).2)
 | .makeSlice t l c=>some (.makeSlice t (.tmp 0) (.tmp 1),[l,c])
 | .slice t x lo hi none=>some (.slice t (.tmp 0) (numO 1 lo).1 (numO (1 + (numO 1 lo).2.length) hi).1 none,x :: ((numO 1 lo).2 ++ (numO (1 + (numO 1 lo).2.length) hi).2))
 | .fieldAddr t x f=>some (.fieldAddr t (.tmp 0) f,[x])
 | .field t x f=>some (.field t (.tmp 0) f,[x])
 | .indexAddr t x i=>some (.indexAddr t (.tmp 0) (.tmp 1),[x,i])
 | .index t x i=>some (.index t (.tmp 0) (.tmp 1),[x,i])
 | .lookup t x i ok=>some (.lookup t (.tmp 0) (.tmp 1) ok,[x,i])
 | .mapUpdate t m k x=>some (.mapUpdate t (.tmp 0) (.tmp 1) (.tmp 2),[m,k,x])
 | .insert t m k x=>some (.insert t (.tmp 0) (.tmp 1) (.tmp 2),[m,k,x])
 | .mapEntry t m k=>some (.mapEntry t (.tmp 0) (.tmp 1),[m,k])
 | .entryStore t m s x=>some (.entryStore t (.tmp 0) (.tmp 1) (.tmp 2),[m,s,x])
 | .range t x=>some (.range t (.tmp 0),[x])
 | .next it s=>some (.next (.tmp 0) s,[it])
 | .entry it=>some (.entry (.tmp 0),[it])
 | .typeAssert x t t' ok=>some (.typeAssert (.tmp 0) t t' ok,[x])
 | .extract t i=>some (.extract (.tmp 0) i,[t])
 | .panic x=>some (.panic (.tmp 0),[x])
 | .call { callee:=.builtin b,args:=args,argTypes:=ts }=>some (.call { callee:=.builtin b,args:=(num true 0 args.toList).1.toArray,argTypes:=ts },(num true 0 args.toList).2)
 | .call { callee:=.value f,args:=args,argTypes:=ts }=>some (.call { callee:=.value (.tmp 0),args:=(num false 1 args.toList).1.toArray,argTypes:=ts },f :: (num false 1 args.toList).2)
 | _=>none
def evalL (args:List Value):Operand → Value:=evE (fun t=>args.getD t undef)
theorem num_eval (keep:Bool) (ρ:Operand → Value) (hc:∀ v,ρ (.const v) = v):∀ (xs:List Operand) (k:Nat) (pre:List Value) (post:List Value),pre.length = k →
  (num keep k xs).1.map (evalL (pre ++ (num keep k xs).2.map ρ ++ post)) = xs.map ρ
 | [],_,_,_,_=>rfl
 | x :: xs,k,pre,post,hk=>by
  unfold num
  cases hb:keep && isConst x with
  | true=>
   simp only [cond_true,List.map_cons]
   rw [num_eval keep ρ hc xs k pre post hk]
   congr 1
   cases x <;> simp_all [isConst,evalL,evE]
  | false=>
   simp only [cond_false,List.map_cons]
   have:=num_eval keep ρ hc xs (k + 1) (pre ++ [ρ x]) post (by simp [hk])
   simp only [List.append_assoc,List.cons_append,List.nil_append] at this ⊢
   rw [this]
   congr 1
   simp [evalL,evE,← hk]
theorem num_const (keep:Bool):∀ (xs:List Operand) (k:Nat),keep = true → (num keep k xs).1.map isConst = xs.map isConst
 | [],_,_=>rfl
 | x :: xs,k,hk=>by
  unfold num
  subst hk
  cases hb:isConst x with
  | true=>simp [hb,num_const true xs k rfl]
  | false=>
   simp [hb,num_const true xs (k + 1) rfl]
   rfl
theorem num2_eval (ρ:Operand → Value):∀ (xs:List (Nat × Operand)) (k:Nat) (pre:List Value),pre.length = k →
  (num2 k xs).1.map (fun (i,x)=>(i,evalL (pre ++ (num2 k xs).2.map ρ) x)) = xs.map (fun (i,x)=>(i,ρ x))
 | [],_,_,_=>rfl
 | (i,x) :: xs,k,pre,hk=>by
  unfold num2
  simp only [List.map_cons]
  have:=num2_eval ρ xs (k + 1) (pre ++ [ρ x]) (by simp [hk])
  simp only [List.append_assoc,List.cons_append,List.nil_append] at this
  rw [this]
  congr 1
  simp [evalL,evE,← hk]
def xop (o : Op) (type : TypeId) (args : List Value) : Sem Next := execOp (evalL args) { dst := none, op := o, type := type, pos := "", after := #[], guard := none }
theorem num_arr (ρ:Operand → Value) (hc:∀ v,ρ (.const v) = v) (keep:Bool) (xs:Array Operand) (k:Nat) (pre post:List Value) (hk:pre.length = k) :
  (num keep k xs.toList).1.toArray.map (evalL (pre ++ (num keep k xs.toList).2.map ρ ++ post)) = xs.map ρ:=by
 rw [List.map_toArray,num_eval keep ρ hc _ _ _ _ hk]
 apply Array.ext'
 rw [Array.toList_map]
theorem execOp_renum {ρ:Operand → Value} (hc:∀ v,ρ (.const v) = v) (o:Oper) (op':Op) (xs:List Operand) (h:renum o.op = some (op',xs)) :
  execOp ρ o = xop op' o.type (xs.map ρ):=by
 obtain ⟨dst,op,type,pos,after,guard⟩:=o
 unfold xop
 cases op with
 | binOp b t x y t'=>
  cases b with
  | eql=>cases x <;> cases y <;> simp only [renum,Option.some.injEq,Prod.mk.injEq] at h <;> obtain ⟨rfl,rfl⟩:=h <;> simp only [num,isConst,Bool.and_true,Bool.and_false,cond_true,cond_false,List.getD_cons_zero,List.getD_cons_succ,List.map_cons,List.map_nil,execOp,evalL,evE,hc] <;> rfl
  | neq=>cases x <;> cases y <;> simp only [renum,Option.some.injEq,Prod.mk.injEq] at h <;> obtain ⟨rfl,rfl⟩:=h <;> simp only [num,isConst,Bool.and_true,Bool.and_false,cond_true,cond_false,List.getD_cons_zero,List.getD_cons_succ,List.map_cons,List.map_nil,execOp,evalL,evE,hc] <;> rfl
  | _=>simp only [renum,Option.some.injEq,Prod.mk.injEq] at h; obtain ⟨rfl,rfl⟩:=h; rfl
 | build t ps=>
  simp only [renum,Option.some.injEq,Prod.mk.injEq] at h
  obtain ⟨rfl,rfl⟩:=h
  have:=num2_eval ρ ps.toList 0 [] rfl
  simp only [List.nil_append] at this
  have e:Array.map (fun x=>(x.1,ρ x.2)) ps = (List.map (fun x=>(x.1,ρ x.2)) ps.toList).toArray:=by
   apply Array.ext'
   rw [Array.toList_map]
  simp only [execOp,List.map_toArray,this,e]
 | buildSlice t n ps=>
  simp only [renum,Option.some.injEq,Prod.mk.injEq] at h
  obtain ⟨rfl,rfl⟩:=h
  have:=num2_eval ρ ps.toList 0 [] rfl
  simp only [List.nil_append] at this
  have e:Array.map (fun x=>(x.1,ρ x.2)) ps = (List.map (fun x=>(x.1,ρ x.2)) ps.toList).toArray:=by
   apply Array.ext'
   rw [Array.toList_map]
  simp only [execOp,List.map_toArray,this,e]
 | makeFunc fn fs cs=>
  simp only [renum,Option.some.injEq,Prod.mk.injEq] at h
  obtain ⟨rfl,rfl⟩:=h
  have h1:=num_arr ρ hc false fs 0 [] ((num false fs.size cs.toList).2.map ρ) rfl
  have hl:∀ (xs:List Operand) (k:Nat),(num false k xs).2.length = xs.length:=by
   intro xs
   induction xs with
   | nil=>intro k; rfl
   | cons x xs ih=>intro k; simp [num,ih]
  have h2:=num_arr ρ hc false cs fs.size ((num false 0 fs.toList).2.map ρ) [] (by simp [hl])
  simp only [List.nil_append,List.append_nil] at h1 h2
  simp only [execOp,List.map_append,h1,h2]
 | makeMap t r=>
  cases r <;> simp only [renum,numO,Option.some.injEq,Prod.mk.injEq] at h <;> obtain ⟨rfl,rfl⟩:=h <;> rfl
 | slice t x lo hi mx=>
  cases mx <;> cases lo <;> cases hi <;> simp only [renum,numO,Option.some.injEq,Prod.mk.injEq,reduceCtorEq] at h <;> obtain ⟨rfl,rfl⟩:=h <;> rfl
 | call c=>
  obtain ⟨callee,args,ts⟩:=c
  cases callee with
  | invoke r m=>simp [renum] at h
  | builtin b=>
   simp only [renum,Option.some.injEq,Prod.mk.injEq] at h
   obtain ⟨rfl,rfl⟩:=h
   have h1:=num_arr ρ hc true args 0 [] [] rfl
   simp only [List.nil_append,List.append_nil] at h1
   have h2:=num_const true args.toList 0 rfl
   simp only [execOp,resolve,h1]
   have e:∀ G:Operand → Bool,(∀ x,G x = isConst x) → Array.map G args = Array.map G (num true 0 args.toList).1.toArray:=by
    intro G hG
    have:G = isConst:=funext hG
    subst this
    apply Array.ext'
    rw [Array.toList_map,Array.toList_map]
    exact h2.symm
   exact congrArg (fun cs=>(do let d ← pure ({ target:=Target.builtin b ts type cs,args:=Array.map ρ args }:Deferred); invoke d.target d.args:Sem Next)) (e _ (fun x=>by cases x <;> rfl))
  | value f=>
   simp only [renum,Option.some.injEq,Prod.mk.injEq] at h
   obtain ⟨rfl,rfl⟩:=h
   have h1:=num_arr ρ hc false args 1 [ρ f] [] rfl
   simp only [List.append_nil] at h1
   simp only [execOp,resolve,List.map_cons]
   have:evalL (ρ f :: (num false 1 args.toList).2.map ρ) = evalL ([ρ f] ++ (num false 1 args.toList).2.map ρ):=rfl
   rw [this,h1]
   rfl
 | _=>first | (simp only [renum,Option.some.injEq,Prod.mk.injEq] at h; obtain ⟨rfl,rfl⟩:=h; rfl) | (simp [renum] at h)
def oM (P:Program) (o:Op) (type:TypeId) (args:List Value) (K:Value → World → Prop) (w:World):Prop:=opM P (xop o type args) K w
def gd (v:Value) (want:Bool):Bool:=(match (some v:Option Value) with | some (.bool b)=>some b | _=>none) == some want
def gdM (g:Bool) (m:(Value → World → Prop) → World → Prop) (K:Value → World → Prop) (w:World):Prop:=bif g then m K w else K undef w
def condM (v:Value) (A B:Prop):Prop:=∃ t,v = .bool t ∧ (t = true → A) ∧ (t = false → B)
def isBody (P:Program) (f:FuncId):Bool:=match P.funcs[f]? with
 | some fn => fn.body.isSome && !(fn.name == "runtime.NumGoroutine")
 | none=>false
theorem isBody_run {P:Program} {f:FuncId} (h:isBody P f = true) (args:Array Value) (w:World):(callFunc f args).run P w = .ok (.enter f args) w:=by
 unfold isBody at h
 unfold callFunc
 rw [Sem.run_bind]
 have hp:(program:Sem Program).run P w = .ok P w:=rfl
 rw [hp,Result.andThen_ok]
 split at h
 ·rename_i fn hfn
  simp only [hfn]
  simp only [Bool.and_eq_true,Bool.not_eq_true'] at h
  have hn:fn.body.isNone = false:=by
   have:=h.1
   cases hx:fn.body with
   | none=>rw [hx] at this; exact absurd this (by simp)
   | some c=>rfl
  rw [if_neg (by rw [h.2]; simp),if_neg (by rw [hn]; simp)]
  rfl
 ·exact absurd h (by simp)
def static:Op → Option (FuncId × List Operand)
 | .call { callee:=.value (.func f),args:=args,argTypes:=_ }=>some (f,args.toList)
 | _=>none
def moved:Op → Option Operand
 | .move x | .assign x=>some x
 | _=>none
def op1 (P:Program) (e:Env) (o:Oper) (K:Value → World → Prop) (w:World):Prop:=
 match moved o.op with
 | some x=>K (evE e x) w
 | none=>
  match static o.op with
  | some (f,xs)=>match isBody P f with | true=>callM P f (xs.map (evE e)).toArray K w | false=>extM P f (xs.map (evE e)).toArray K w
  | none=>
   match renum o.op with
   | some (op',xs)=>oM P op' o.type (xs.map (evE e)) K w
   | none=>False
theorem exec_moved {ρ:Operand → Value} {o:Oper} {x:Operand} (hx:moved o.op = some x):execOp ρ o = pure (.value (ρ x)):=by
 unfold moved at hx
 split at hx
 ·rename_i hop; simp only [Option.some.injEq] at hx; subst hx; unfold execOp; rw [hop]
 ·rename_i hop; simp only [Option.some.injEq] at hx; subst hx; unfold execOp; rw [hop]
 ·simp at hx
theorem exec_static {ρ:Operand → Value} {o:Oper} {f:FuncId} {xs:List Operand} (hf:ρ (.func f) = .func (.func f) #[] #[]) (hs:static o.op = some (f,xs)) :
  execOp ρ o = callFunc f (xs.map ρ).toArray:=by
 unfold static at hs
 split at hs
 ·rename_i g args ts hop
  simp only [Option.some.injEq,Prod.mk.injEq] at hs
  obtain ⟨rfl,rfl⟩:=hs
  have e1:(args.toList.map ρ).toArray = args.map ρ:=by
   apply Array.ext'
   rw [Array.toList_map]
  rw [e1]
  unfold execOp
  rw [hop]
  show (do let d ← resolve ρ { callee:=.value (.func g),args:=args,argTypes:=ts } o.type; invoke d.target d.args:Sem Next) = _
  have e2:(do let d ← resolve ρ { callee:=.value (.func g),args:=args,argTypes:=ts } o.type; invoke d.target d.args:Sem Next) = callFunc g (#[] ++ args.map ρ ++ #[]):=by
   unfold resolve
   simp only [hf]
   rfl
  rw [e2,Array.append_empty,Array.empty_append]
 ·simp at hs
theorem op1_opM {P:Program} {e:Env} {o:Oper} {K:Value → World → Prop} {w:World} (h:op1 P e o K w):opM P (execOp (evE e) o) K w:=by
 unfold op1 at h
 split at h
 ·rename_i x hx
  rw [exec_moved hx]
  exact h
 ·split at h
  ·rename_i f xs hs
   rw [exec_static rfl hs]
   cases hb:isBody P f with
   | false=>rw [hb] at h; exact h
   | true=>
    rw [hb] at h
    unfold opM
    rw [isBody_run hb]
    exact h
  ·split at h
   ·rename_i op' xs hr
    rw [execOp_renum (fun _=>rfl) o op' xs hr]
    exact h
   ·exact h.elim
def dstOf (all:Array Oper) (j:Nat):Option Nat:=(all[j]?).bind (·.dst)
def gdE (all:Array Oper) (e:Env) (j:Nat) (want:Bool):Bool:=
 match dstOf all j with
 | some d=>gd (e d) want
 | none=>false
theorem gdE_wanted {n:Nat} {e:Env} {a:Act} (h:Rel ds n e a) (all:Array Oper) (o:Oper) (j:Nat) (want:Bool) (ho:o.guard = some (j,want)) :
  Region.wanted o (yielded all a.tmps) = gdE all e j want:=by
 unfold Region.wanted
 rw [ho]
 show (yielded all a.tmps j == some want) = _
 unfold gdE dstOf yielded
 cases hd:(all[j]?).bind (·.dst) with
 | none=>rw [Option.bind_none]; cases want <;> rfl
 | some d=>
  have hg:=h.get d
  rw [Option.bind_some]
  show _ = gd (e d) want
  unfold gd
  rw [← hg,Array.getD_eq_getD_getElem?]
  cases hx:a.tmps[d]? with
  | none=>cases want <;> rfl
  | some v=>rfl
def ops (P:Program) (n:Nat) (all:Array Oper) (K:Env → World → Prop):List Oper → Env → World → Prop
 | [],e,w=>K e w
 | o :: rest,e,w=>
  match o.guard with
  | none=>op1 P e o (fun v w'=>ops P n all K rest (upd n e o.dst v) w') w
  | some (j,want)=>gdM (gdE all e j want) (op1 P e o) (fun v w'=>ops P n all K rest (upd n e o.dst v) w') w
def AgreeE (mods:List Nat) (e e':Env):Prop:=∀ i,mods.contains i = false → e' i = e i
theorem AgreeE.refl (mods:List Nat) (e:Env):AgreeE mods e e:=fun _ _=>rfl
theorem AgreeE.trans {mods:List Nat} {a b c:Env} (h:AgreeE mods a b) (k:AgreeE mods b c):AgreeE mods a c:=fun i hi=>(k i hi).trans (h i hi)
theorem AgreeE.mono {m m':List Nat} {a b:Env} (h:AgreeE m a b) (hm:∀ i ∈ m,i ∈ m'):AgreeE m' a b:=fun i hi=>h i (by
 cases hx:m.contains i with
 | false=>rfl
 | true=>
  have:=hm i (by simpa using hx)
  simp [this] at hi)
theorem AgreeE.upd {mods:List Nat} {n:Nat} {e:Env} {o:Option Nat} (v:Value) (h:∀ d,o = some d → d ∈ mods):AgreeE mods e (upd n e o v):=by
 cases o with
 | none=>exact AgreeE.refl _ _
 | some d=>
  intro i hi
  unfold Sh.upd
  have hne:i ≠ d:=by
   rintro rfl
   have:=h i rfl
   simp [this] at hi
  have hb:Nat.beq i d = false:=by
   cases hx:Nat.beq i d with
   | false=>rfl
   | true=>exact absurd (Nat.eq_of_beq_eq_true hx) hne
  simp only [hb,Bool.false_and,cond_false]
theorem ops_wp {P:Program} {n:Nat} {all:Array Oper} {mods:List Nat} {K:Env → World → Prop}:∀ (l:List Oper) (e:Env) (a:Act) (w:World),Rel ds n e a →
  (∀ o ∈ l,∀ d,o.dst = some d → d ∈ mods) → ops P n all K l e w →
  wpList P all (fun ex a' w'=>ex = .normal ∧ ∃ e',Rel ds n e' a' ∧ AgreeE mods e e' ∧ K e' w') l a w
 | [],e,a,w,hr,_,h=>⟨rfl,e,hr,AgreeE.refl _ _,h⟩
 | o :: rest,e,a,w,hr,hm,h=>by
  have hp:=fun v=>AgreeE.upd (n:=n) (e:=e) (o:=o.dst) v (hm o List.mem_cons_self)
  have lift:∀ v w',ops P n all K rest (Sh.upd n e o.dst v) w' → wpList P all (fun ex a' w'=>ex = .normal ∧ ∃ e',Rel ds n e' a' ∧ AgreeE mods e e' ∧ K e' w') rest (a.put o.dst v) w':=by
   intro v w' h
   have:=ops_wp rest _ _ w' (hr.put o.dst v) (fun o ho=>hm o (List.mem_cons_of_mem _ ho)) h
   have e0:(fun (ex:Exit) (a':Act) (w':World)=>ex = .normal ∧ ∃ e',Rel ds n e' a' ∧ AgreeE mods e e' ∧ K e' w') = (fun ex a' w'=>ex = .normal ∧ ∃ e',Rel ds n e' a' ∧ AgreeE mods e e' ∧ K e' w'):=rfl
   exact wpList_mono rest _ _ this (fun ex a' w' ⟨h0,e',h1,h2,h3⟩=>⟨h0,e',h1,(hp v).trans h2,h3⟩)
  have one:op1 P e o (fun v w'=>ops P n all K rest (Sh.upd n e o.dst v) w') w → o.wp P a w (wpList P all (fun ex a' w'=>ex = .normal ∧ ∃ e',Rel ds n e' a' ∧ AgreeE mods e e' ∧ K e' w') rest) (fun ex a' w'=>ex = .normal ∧ ∃ e',Rel ds n e' a' ∧ AgreeE mods e e' ∧ K e' w'):=by
   intro h
   refine opM_wp ?_
   rw [hr.eval]
   exact opM_mono (op1_opM h) lift
  unfold ops at h; unfold wpList
  cases hg:o.guard with
  | none=>
   rw [hg] at h
   rw [if_pos (by simp [Region.wanted,hg])]
   exact .inl (one h)
  | some g=>
   obtain ⟨j,want⟩:=g
   rw [hg] at h
   have h:gdM (gdE all e j want) (op1 P e o) (fun v w'=>ops P n all K rest (Sh.upd n e o.dst v) w') w:=h
   rw [gdE_wanted hr all o j want hg]
   cases hgd:gdE all e j want with
   | true=>
    rw [hgd] at h
    rw [if_pos rfl]
    exact .inl (one h)
   | false=>
    rw [hgd] at h
    rw [if_neg (by simp)]
    exact lift undef w h
where
 wpList_mono {P:Program} {all:Array Oper} {Q Q':Exit → Act → World → Prop}:∀ (l:List Oper) (a:Act) (w:World),wpList P all Q l a w →
   (∀ e a w,Q e a w → Q' e a w) → wpList P all Q' l a w
  | [],_,_,h,hq=>hq _ _ _ h
  | o :: rest,a,w,h,hq=>by
   unfold wpList at h ⊢
   split
   ·rename_i hw
    rw [if_pos hw] at h
    rcases h with h | ⟨h,a',w',h'⟩
    ·refine .inl ?_
     unfold Oper.wp at h ⊢
     revert h
     generalize (execOp a.eval o).run P w = r
     intro h
     unfold Oper.upon at h ⊢
     split at h
     ·exact wpList_mono rest _ _ h hq
     ·exact wpList_mono rest _ _ h hq
     ·exact wpList_mono rest _ _ h hq
     ·refine Calls.mono h ?_
      intro e w''
      cases e with
      | returned v=>exact fun h=>wpList_mono rest _ _ h hq
      | panicked ch=>exact fun h=>hq _ _ _ h
      | outgrown=>exact fun ⟨a,w,h⟩=>⟨a,w,hq _ _ _ h⟩
     ·exact Rows.mono h (fun v w'' h=>wpList_mono rest _ _ h hq)
     ·exact hq _ _ _ h
     ·exact h.elim
    ·exact .inr ⟨h,a',w',hq _ _ _ h'⟩
   ·rename_i hw
    rw [if_neg hw] at h
    exact wpList_mono rest _ _ h hq
def quietS (P:Program) (C:World → Prop) (s:Sem Next) (K:Value → Prop):Prop:=∃ v,(∀ w,C w → Oper.quietUpon P C w v (s.run P w)) ∧ K v
def oQ (P:Program) (o:Op) (type:TypeId) (args:List Value) (C:World → Prop) (K:Value → Prop):Prop:=quietS P C (xop o type args) K
def pureQ (v:Value) (_C:World → Prop) (K:Value → Prop):Prop:=K v
def callQ (P:Program) (f:FuncId) (args:Array Value) (C:World → Prop) (K:Value → Prop):Prop:=
 ∃ v,(∀ w,C w → Calls P f args w (fun e w''=>e = .returned v ∧ C w'')) ∧ K v
def gdQ (g:Bool) (m:(World → Prop) → (Value → Prop) → Prop) (C:World → Prop) (K:Value → Prop):Prop:=bif g then m C K else K undef
def op1Q (P:Program) (e:Env) (o:Oper) (C:World → Prop) (K:Value → Prop):Prop:=
 match moved o.op with
 | some x=>K (evE e x)
 | none=>
  match static o.op with
  | some (f,xs)=>match isBody P f with | true=>callQ P f (xs.map (evE e)).toArray C K | false=>False
  | none=>
   match renum o.op with
   | some (op',xs)=>oQ P op' o.type (xs.map (evE e)) C K
   | none=>False
theorem op1Q_quiet {P:Program} {e:Env} {o:Oper} {C:World → Prop} {K:Value → Prop} (h:op1Q P e o C K) :
  ∃ v,(∀ w,C w → Oper.quietUpon P C w v ((execOp (evE e) o).run P w)) ∧ K v:=by
 unfold op1Q at h
 split at h
 ·rename_i x hx
  rw [exec_moved hx]
  exact ⟨evE e x,fun w _=>⟨rfl,rfl⟩,h⟩
 ·split at h
  ·rename_i f xs hs
   cases hb:isBody P f with
   | false=>rw [hb] at h; exact h.elim
   | true=>
    rw [hb] at h
    obtain ⟨v,hv,hk⟩:=h
    refine ⟨v,fun w hw=>?_,hk⟩
    rw [exec_static rfl hs,isBody_run hb]
    exact ⟨rfl,hv w hw⟩
  ·split at h
   ·rename_i op' xs hr
    rw [execOp_renum (fun _=>rfl) o op' xs hr]
    exact h
   ·exact h.elim
def quietOps (P:Program) (n:Nat) (all:Array Oper) (C:World → Prop) (K:Env → Prop):List Oper → Env → Prop
 | [],e=>K e
 | o :: rest,e=>
  match o.guard with
  | none=>op1Q P e o C (fun v=>quietOps P n all C K rest (upd n e o.dst v))
  | some (j,want)=>gdQ (gdE all e j want) (op1Q P e o) C (fun v=>quietOps P n all C K rest (upd n e o.dst v))
theorem quietOps_wp {P:Program} {n:Nat} {all:Array Oper} {C:World → Prop} {mods:List Nat} {K:Env → Prop}:∀ (l:List Oper) (e:Env) (a:Act),Rel ds n e a →
  (∀ o ∈ l,∀ d,o.dst = some d → d ∈ mods) → quietOps P n all C K l e → wpQuiet P all C (fun a'=>∃ e',Rel ds n e' a' ∧ AgreeE mods e e' ∧ K e') l a
 | [],e,a,hr,_,h=>⟨e,hr,AgreeE.refl _ _,h⟩
 | o :: rest,e,a,hr,hm,h=>by
  have hp:=fun v=>AgreeE.upd (n:=n) (e:=e) (o:=o.dst) v (hm o List.mem_cons_self)
  have lift:∀ v,quietOps P n all C K rest (Sh.upd n e o.dst v) → wpQuiet P all C (fun a'=>∃ e',Rel ds n e' a' ∧ AgreeE mods e e' ∧ K e') rest (a.put o.dst v):=by
   intro v h
   exact wpQuiet_mono rest _ (quietOps_wp rest _ _ (hr.put o.dst v) (fun o ho=>hm o (List.mem_cons_of_mem _ ho)) h) (fun a' ⟨e',h1,h2,h3⟩=>⟨e',h1,(hp v).trans h2,h3⟩)
  have one:op1Q P e o C (fun v=>quietOps P n all C K rest (Sh.upd n e o.dst v)) → Oper.quiet P o a C (wpQuiet P all C (fun a'=>∃ e',Rel ds n e' a' ∧ AgreeE mods e e' ∧ K e') rest):=by
   intro h
   obtain ⟨v,hv,hk⟩:=op1Q_quiet h
   refine ⟨v,fun w hw=>?_,lift v hk⟩
   unfold Oper.quietAt
   rw [hr.eval]
   exact hv w hw
  unfold quietOps at h; unfold wpQuiet
  cases hg:o.guard with
  | none=>
   rw [hg] at h
   rw [if_pos (by simp [Region.wanted,hg])]
   exact one h
  | some g=>
   obtain ⟨j,want⟩:=g
   rw [hg] at h
   have h:gdQ (gdE all e j want) (op1Q P e o) C (fun v=>quietOps P n all C K rest (Sh.upd n e o.dst v)):=h
   rw [gdE_wanted hr all o j want hg]
   cases hgd:gdE all e j want with
   | true=>
    rw [hgd] at h
    rw [if_pos rfl]
    exact one h
   | false=>
    rw [hgd] at h
    rw [if_neg (by simp)]
    exact lift undef h
where
 wpQuiet_mono {P:Program} {all:Array Oper} {C:World → Prop} {Q Q':Act → Prop}:∀ (l:List Oper) (a:Act),wpQuiet P all C Q l a → (∀ a,Q a → Q' a) → wpQuiet P all C Q' l a
  | [],_,h,hq=>hq _ h
  | o :: rest,a,h,hq=>by
   unfold wpQuiet at h ⊢
   split
   ·rename_i hw
    rw [if_pos hw] at h
    obtain ⟨v,hv,hk⟩:=h
    exact ⟨v,hv,wpQuiet_mono rest _ hk hq⟩
   ·rename_i hw
    rw [if_neg hw] at h
    exact wpQuiet_mono rest _ h hq
def oC (P:Program) (o:Op) (type:TypeId) (args:List Value) (C:(Nat → Bool) → World → Prop) (i:Nat) (ds:List Nat) (K:Value → Prop):Prop:=∃ v,gives P C i ds (xop o type args) v ∧ K v
def pureC (v:Value) (C:(Nat → Bool) → World → Prop) (i:Nat) (ds:List Nat) (K:Value → Prop):Prop:=rests C i ds ∧ K v
def callC (P:Program) (f:FuncId) (args:Array Value) (C:(Nat → Bool) → World → Prop) (i:Nat) (ds:List Nat) (K:Value → Prop):Prop:=
 ∃ v,(∀ D w,D i = false → upAll ds D → C D w → Calls P f args w (fun e w''=>e = .returned v ∧ C (set1 D i) w'')) ∧ K v
def gdC (g:Bool) (m:((Nat → Bool) → World → Prop) → Nat → List Nat → (Value → Prop) → Prop) (C:(Nat → Bool) → World → Prop) (i:Nat) (ds:List Nat) (K:Value → Prop):Prop:=bif g then m C i ds K else rests C i ds ∧ K undef
def op1C (P:Program) (e:Env) (o:Oper) (C:(Nat → Bool) → World → Prop) (i:Nat) (ds:List Nat) (K:Value → Prop):Prop:=
 match moved o.op with
 | some x=>pureC (evE e x) C i ds K
 | none=>
  match static o.op with
  | some (f,xs)=>match isBody P f with | true=>callC P f (xs.map (evE e)).toArray C i ds K | false=>False
  | none=>
   match renum o.op with
   | some (op',xs)=>oC P op' o.type (xs.map (evE e)) C i ds K
   | none=>False
theorem op1C_gives {P:Program} {e:Env} {o:Oper} {C:(Nat → Bool) → World → Prop} {i:Nat} {ds:List Nat} {K:Value → Prop} (h:op1C P e o C i ds K) :
  ∃ v,gives P C i ds (execOp (evE e) o) v ∧ K v:=by
 unfold op1C at h
 split at h
 ·rename_i x hx
  rw [exec_moved hx]
  exact ⟨evE e x,fun D w hD hu hw=>⟨rfl,h.1 D w hD hu hw⟩,h.2⟩
 ·split at h
  ·rename_i f xs hs
   cases hb:isBody P f with
   | false=>rw [hb] at h; exact h.elim
   | true=>
    rw [hb] at h
    obtain ⟨v,hv,hk⟩:=h
    refine ⟨v,fun D w hD hu hw=>?_,hk⟩
    rw [exec_static rfl hs,isBody_run hb]
    exact hv D w hD hu hw
  ·split at h
   ·rename_i op' xs hr
    rw [execOp_renum (fun _=>rfl) o op' xs hr]
    exact h
   ·exact h.elim
def comOps (P:Program) (n:Nat) (all:Array Oper) (C:(Nat → Bool) → World → Prop) (K:Env → Prop):Nat → List Oper → Env → Prop
 | _,[],e=>K e
 | i,o :: rest,e=>
  match o.guard with
  | none=>op1C P e o C i (waits o) (fun v=>comOps P n all C K (i + 1) rest (upd n e o.dst v))
  | some (j,want)=>gdC (gdE all e j want) (op1C P e o) C i (waits o) (fun v=>comOps P n all C K (i + 1) rest (upd n e o.dst v))
theorem comOps_wp {P:Program} {n:Nat} {all:Array Oper} {C:(Nat → Bool) → World → Prop} {mods:List Nat} {K:Env → Prop}:∀ (l:List Oper) (i:Nat) (e:Env) (a:Act),Rel ds n e a →
  (∀ o ∈ l,∀ d,o.dst = some d → d ∈ mods) → comOps P n all C K i l e → wpCom P all C (fun a'=>∃ e',Rel ds n e' a' ∧ AgreeE mods e e' ∧ K e') i l a
 | [],_,e,a,hr,_,h=>⟨e,hr,AgreeE.refl _ _,h⟩
 | o :: rest,i,e,a,hr,hm,h=>by
  have hp:=fun v=>AgreeE.upd (n:=n) (e:=e) (o:=o.dst) v (hm o List.mem_cons_self)
  have lift:∀ v,comOps P n all C K (i + 1) rest (Sh.upd n e o.dst v) → wpCom P all C (fun a'=>∃ e',Rel ds n e' a' ∧ AgreeE mods e e' ∧ K e') (i + 1) rest (a.put o.dst v):=by
   intro v h
   exact wpCom_mono rest (i + 1) _ (comOps_wp rest (i + 1) _ _ (hr.put o.dst v) (fun o ho=>hm o (List.mem_cons_of_mem _ ho)) h) (fun a' ⟨e',h1,h2,h3⟩=>⟨e',h1,(hp v).trans h2,h3⟩)
  have one:op1C P e o C i (waits o) (fun v=>comOps P n all C K (i + 1) rest (Sh.upd n e o.dst v)) → Region.wanted o (yielded all a.tmps) = true → ∃ v,Comes P all C i o a v ∧ wpCom P all C (fun a'=>∃ e',Rel ds n e' a' ∧ AgreeE mods e e' ∧ K e') (i + 1) rest (a.put o.dst v):=by
   intro h hw
   obtain ⟨v,hv,hk⟩:=op1C_gives h
   refine ⟨v,?_,lift v hk⟩
   unfold Comes
   rw [hw,hr.eval]
   exact hv
  unfold comOps at h; unfold wpCom
  cases hg:o.guard with
  | none=>
   rw [hg] at h
   exact one h (by simp [Region.wanted,hg])
  | some g=>
   obtain ⟨j,want⟩:=g
   rw [hg] at h
   have h:gdC (gdE all e j want) (op1C P e o) C i (waits o) (fun v=>comOps P n all C K (i + 1) rest (Sh.upd n e o.dst v)):=h
   have hw:=gdE_wanted hr all o j want hg
   cases hgd:gdE all e j want with
   | true=>
    rw [hgd] at h hw
    exact one h hw
   | false=>
    rw [hgd] at h hw
    refine ⟨undef,?_,lift undef h.2⟩
    unfold Comes
    rw [hw]
    exact ⟨rfl,h.1⟩
def oH (P:Program) (o:Op) (type:TypeId) (args:List Value) (C:World → Prop) (K:Value → Prop):Prop:=∃ v,(∀ w,C w → (xop o type args).run P w = .ok (.value v) w) ∧ K v
def pureH (v:Value) (_C:World → Prop) (K:Value → Prop):Prop:=K v
def gdH (g:Bool) (m:(World → Prop) → (Value → Prop) → Prop) (C:World → Prop) (K:Value → Prop):Prop:=bif g then m C K else K undef
def op1H (P:Program) (e:Env) (o:Oper) (C:World → Prop) (K:Value → Prop):Prop:=
 match moved o.op with
 | some x=>pureH (evE e x) C K
 | none=>
  match static o.op with
  | some _=>False
  | none=>
   match renum o.op with
   | some (op',xs)=>oH P op' o.type (xs.map (evE e)) C K
   | none=>False
theorem op1H_looks {P:Program} {e:Env} {o:Oper} {C:World → Prop} {K:Value → Prop} (h:op1H P e o C K) :
  ∃ v,(∀ w,C w → (execOp (evE e) o).run P w = .ok (.value v) w) ∧ K v:=by
 unfold op1H at h
 split at h
 ·rename_i x hx
  rw [exec_moved hx]
  exact ⟨evE e x,fun w _=>rfl,h⟩
 ·split at h
  ·exact h.elim
  ·split at h
   ·rename_i op' xs hr
    rw [execOp_renum (fun _=>rfl) o op' xs hr]
    exact h
   ·exact h.elim
def heldOps (P:Program) (n:Nat) (all:Array Oper) (C:World → Prop) (K:Env → World → Prop):List (Nat × Bool) → Env → World → Prop
 | [],e,w=>K e w
 | (i,true) :: r,e,w=>
  match all[i]? with
  | none=>False
  | some o=>
   match o.guard with
   | none=>op1H P e o C (fun v=>heldOps P n all C K r (upd n e o.dst v) w)
   | some (j,want)=>gdH (gdE all e j want) (op1H P e o) C (fun v=>heldOps P n all C K r (upd n e o.dst v) w)
 | (i,false) :: r,e,w=>
  match all[i]? with
  | none=>False
  | some o=>
   match o.guard with
   | none=>op1 P e o (fun v w'=>C w' ∧ heldOps P n all C K r (upd n e o.dst v) w') w
   | some (j,want)=>gdM (gdE all e j want) (op1 P e o) (fun v w'=>C w' ∧ heldOps P n all C K r (upd n e o.dst v) w') w
theorem runsTo_opM {P:Program} {s:Sem Next} {K:Value → World → Prop} {w:World}:runsTo P s K w = opM P s K w:=rfl
theorem heldOps_wp {P:Program} {n:Nat} {all:Array Oper} {C:World → Prop} {mods:List Nat} {K:Env → World → Prop} (hm:∀ o ∈ all.toList,∀ d,o.dst = some d → d ∈ mods):∀ (l:List (Nat × Bool)) (e:Env) (a:Act) (w:World),Rel ds n e a →
  heldOps P n all C K l e w → wpHeld P all C (fun a' w'=>∃ e',Rel ds n e' a' ∧ AgreeE mods e e' ∧ K e' w') l a w
 | [],e,a,w,hr,h=>⟨e,hr,AgreeE.refl _ _,h⟩
 | (i,true) :: r,e,a,w,hr,h=>by
  unfold heldOps at h
  split at h
  ·exact h.elim
  rename_i o ho
  have hmem:o ∈ all.toList:=by simpa using Array.mem_of_getElem? ho
  have hp:=fun v=>AgreeE.upd (n:=n) (e:=e) (o:=o.dst) v (hm o hmem)
  have lift:∀ v,heldOps P n all C K r (Sh.upd n e o.dst v) w → wpHeld P all C (fun a' w'=>∃ e',Rel ds n e' a' ∧ AgreeE mods e e' ∧ K e' w') r (a.put o.dst v) w:=by
   intro v h
   exact wpHeld_mono r _ _ (heldOps_wp hm r _ _ w (hr.put o.dst v) h) (fun a' w' ⟨e',h1,h2,h3⟩=>⟨e',h1,(hp v).trans h2,h3⟩)
  have one:op1H P e o C (fun v=>heldOps P n all C K r (Sh.upd n e o.dst v) w) → Region.wanted o (yielded all a.tmps) = true → ∃ o',all[i]? = some o' ∧ ∃ v,Looks P all C o' a v ∧ wpHeld P all C (fun a' w'=>∃ e',Rel ds n e' a' ∧ AgreeE mods e e' ∧ K e' w') r (a.put o'.dst v) w:=by
   intro h hw
   obtain ⟨v,hv,hk⟩:=op1H_looks h
   refine ⟨o,ho,v,?_,lift v hk⟩
   unfold Looks
   rw [hw,hr.eval]
   exact hv
  unfold wpHeld
  split at h
  ·rename_i hg
   exact one h (by simp [Region.wanted,hg])
  ·rename_i j want hg
   have hw:=gdE_wanted hr all o j want hg
   cases hgd:gdE all e j want with
   | true=>
    rw [hgd] at h hw
    exact one h hw
   | false=>
    rw [hgd] at h hw
    refine ⟨o,ho,undef,?_,lift undef h⟩
    unfold Looks
    rw [hw]
    rfl
 | (i,false) :: r,e,a,w,hr,h=>by
  unfold heldOps at h
  split at h
  ·exact h.elim
  rename_i o ho
  have hmem:o ∈ all.toList:=by simpa using Array.mem_of_getElem? ho
  have hp:=fun v=>AgreeE.upd (n:=n) (e:=e) (o:=o.dst) v (hm o hmem)
  have lift:∀ v w',C w' ∧ heldOps P n all C K r (Sh.upd n e o.dst v) w' → C w' ∧ wpHeld P all C (fun a' w'=>∃ e',Rel ds n e' a' ∧ AgreeE mods e e' ∧ K e' w') r (a.put o.dst v) w':=by
   intro v w' ⟨hc,h⟩
   exact ⟨hc,wpHeld_mono r _ _ (heldOps_wp hm r _ _ w' (hr.put o.dst v) h) (fun a' w' ⟨e',h1,h2,h3⟩=>⟨e',h1,(hp v).trans h2,h3⟩)⟩
  have one:op1 P e o (fun v w'=>C w' ∧ heldOps P n all C K r (Sh.upd n e o.dst v) w') w → Region.wanted o (yielded all a.tmps) = true → stepH P all o a w (fun a' w'=>C w' ∧ wpHeld P all C (fun a' w'=>∃ e',Rel ds n e' a' ∧ AgreeE mods e e' ∧ K e' w') r a' w'):=by
   intro h hw
   unfold stepH
   rw [hw,hr.eval]
   show runsTo P _ _ w
   rw [runsTo_opM]
   exact opM_mono (op1_opM h) (fun v w' h=>lift v w' h)
  unfold wpHeld
  refine ⟨o,ho,?_⟩
  split at h
  ·rename_i hg
   exact one h (by simp [Region.wanted,hg])
  ·rename_i j want hg
   have hw:=gdE_wanted hr all o j want hg
   cases hgd:gdE all e j want with
   | true=>
    rw [hgd] at h hw
    exact one h hw
   | false=>
    rw [hgd] at h hw
    unfold stepH
    rw [hw]
    exact lift undef w h
where
 wpHeld_mono {P:Program} {all:Array Oper} {C:World → Prop} {Q Q':Act → World → Prop}:∀ (l:List (Nat × Bool)) (a:Act) (w:World),wpHeld P all C Q l a w → (∀ a w,Q a w → Q' a w) → wpHeld P all C Q' l a w
  | [],_,_,h,hq=>hq _ _ h
  | (_,true) :: r,_,_,⟨o,ho,v,hv,h⟩,hq=>⟨o,ho,v,hv,wpHeld_mono r _ _ h hq⟩
  | (_,false) :: r,_,_,⟨o,ho,h⟩,hq=>⟨o,ho,stepH_mono h (fun _ _ ⟨hc,h⟩=>⟨hc,wpHeld_mono r _ _ h hq⟩)⟩
def trOps (P:Program) (n:Nat) (all:Array Oper) (C:World → Prop) (K:Env → World → Prop):Tr → Env → World → Prop
 | .done,e,w=>K e w
 | .look i t,e,w=>
  match all[i]? with
  | none=>False
  | some o=>
   match o.guard with
   | none=>op1H P e o C (fun v=>trOps P n all C K t (upd n e o.dst v) w)
   | some (j,want)=>gdH (gdE all e j want) (op1H P e o) C (fun v=>trOps P n all C K t (upd n e o.dst v) w)
 | .only i t,e,w=>
  match all[i]? with
  | none=>False
  | some o=>
   match o.guard with
   | none=>op1 P e o (fun v w'=>C w' ∧ trOps P n all C K t (upd n e o.dst v) w') w
   | some (j,want)=>gdM (gdE all e j want) (op1 P e o) (fun v w'=>C w' ∧ trOps P n all C K t (upd n e o.dst v) w') w
 | .alt i t u,e,w=>
  (match all[i]? with
  | none=>False
  | some o=>
   match o.guard with
   | none=>op1 P e o (fun v w'=>C w' ∧ trOps P n all C K t (upd n e o.dst v) w') w
   | some (j,want)=>gdM (gdE all e j want) (op1 P e o) (fun v w'=>C w' ∧ trOps P n all C K t (upd n e o.dst v) w') w) ∧
  trOps P n all C K u e w
theorem anyH_mono {P:Program} {all:Array Oper} {C:World → Prop} {Q Q':Act → World → Prop} (hq:∀ a w,Q a w → Q' a w):∀ (n:Nat) (listed:Array Bool) (a:Act) (w:World),anyH P all C Q n listed a w → anyH P all C Q' n listed a w
 | 0,_,_,_,h=>⟨h.1,h.2.1,hq _ _ h.2.2⟩
 | n + 1,listed,a,w,h=>⟨h.1,fun h0=>hq _ _ (h.2.1 h0),fun i hi o ho=>stepH_mono (h.2.2 i hi o ho) (fun _ _ h=>anyH_mono hq n _ _ _ h)⟩
theorem trOps_wp {P:Program} {n:Nat} {all:Array Oper} {C:World → Prop} {mods:List Nat} {K:Env → World → Prop} (hsel:Region.noSelect all = true) (hm:∀ o ∈ all.toList,∀ d,o.dst = some d → d ∈ mods) (t:Tr):∀ (m:Nat) (listed:Array Bool) (e:Env) (a:Act) (w:World),Rel ds n e a → C w → trOps P n all C K t e w →
  (trB all t false m listed = true → anyH P all C (fun a' w'=>∃ e',Rel ds n e' a' ∧ AgreeE mods e e' ∧ K e' w') m listed a w) ∧
  (trB all t true m listed = true → ∀ i ∈ t.heads,∀ o,all[i]? = some o → stepH P all o a w (anyH P all C (fun a' w'=>∃ e',Rel ds n e' a' ∧ AgreeE mods e e' ∧ K e' w') (m - 1) (listed.setIfInBounds i true))):=by
 have one:∀ (t:Tr),(∀ (m:Nat) (listed:Array Bool) (e:Env) (a:Act) (w:World),Rel ds n e a → C w → trOps P n all C K t e w → trB all t false m listed = true → anyH P all C (fun a' w'=>∃ e',Rel ds n e' a' ∧ AgreeE mods e e' ∧ K e' w') m listed a w) →
   ∀ (i m:Nat) (listed:Array Bool) (e:Env) (a:Act) (w:World),Rel ds n e a → trB all t false m listed = true →
   (match all[i]? with
    | none=>False
    | some o=>
     match o.guard with
     | none=>op1 P e o (fun v w'=>C w' ∧ trOps P n all C K t (upd n e o.dst v) w') w
     | some (j,want)=>gdM (gdE all e j want) (op1 P e o) (fun v w'=>C w' ∧ trOps P n all C K t (upd n e o.dst v) w') w) →
   ∀ o,all[i]? = some o → stepH P all o a w (anyH P all C (fun a' w'=>∃ e',Rel ds n e' a' ∧ AgreeE mods e e' ∧ K e' w') m listed):=by
  intro t ih i m listed e a w hr hB h o ho
  rw [ho] at h
  simp only at h
  have hmem:o ∈ all.toList:=by simpa using Array.mem_of_getElem? ho
  have hp:=fun v=>AgreeE.upd (n:=n) (e:=e) (o:=o.dst) v (hm o hmem)
  have lift:∀ v w',C w' ∧ trOps P n all C K t (Sh.upd n e o.dst v) w' → anyH P all C (fun a' w'=>∃ e',Rel ds n e' a' ∧ AgreeE mods e e' ∧ K e' w') m listed (a.put o.dst v) w':=by
   intro v w' ⟨hc,h⟩
   exact anyH_mono (fun a' w' ⟨e',h1,h2,h3⟩=>⟨e',h1,(hp v).trans h2,h3⟩) _ _ _ _ (ih m _ _ _ w' (hr.put o.dst v) hc h hB)
  have one:op1 P e o (fun v w'=>C w' ∧ trOps P n all C K t (Sh.upd n e o.dst v) w') w → Region.wanted o (yielded all a.tmps) = true → stepH P all o a w (anyH P all C (fun a' w'=>∃ e',Rel ds n e' a' ∧ AgreeE mods e e' ∧ K e' w') m listed):=by
   intro h hw
   unfold stepH
   rw [hw,hr.eval]
   show runsTo P _ _ w
   rw [runsTo_opM]
   exact opM_mono (op1_opM h) (fun v w' h=>lift v w' h)
  split at h
  ·rename_i hg
   exact one h (by simp [Region.wanted,hg])
  ·rename_i j want hg
   have hw:=gdE_wanted hr all o j want hg
   cases hgd:gdE all e j want with
   | true=>
    rw [hgd] at h hw
    exact one h hw
   | false=>
    rw [hgd] at h hw
    unfold stepH
    rw [hw]
    exact lift undef w h
 induction t with
 | done=>
  intro m listed e a w hr hc h
  refine ⟨fun hB=>?_,fun _ i hi=>by simp [Tr.heads] at hi⟩
  simp only [trB,Bool.and_eq_true] at hB
  obtain ⟨h0,h1⟩:=hB
  have h0:=Nat.eq_of_beq_eq_true h0
  subst h0
  exact ⟨hc,by simpa using h1,e,hr,AgreeE.refl _ _,h⟩
 | look i t ih=>
  intro m listed e a w hr hc h
  refine ⟨fun hB=>?_,fun _ i hi=>by simp [Tr.heads] at hi⟩
  simp only [trB,Bool.and_eq_true] at hB
  obtain ⟨_,hm1,hrd,hfree,hB⟩:=hB
  obtain ⟨m,rfl⟩:∃ k,m = k + 1:=⟨m - 1,by have:=Nat.le_of_ble_eq_true hm1; omega⟩
  rw [Nat.add_sub_cancel] at hB
  unfold trOps at h
  split at h
  ·exact h.elim
  rename_i o ho
  have hmem:o ∈ all.toList:=by simpa using Array.mem_of_getElem? ho
  have hp:=fun v=>AgreeE.upd (n:=n) (e:=e) (o:=o.dst) v (hm o hmem)
  have fin:∀ v,Looks P all C o a v → trOps P n all C K t (Sh.upd n e o.dst v) w → anyH P all C (fun a' w'=>∃ e',Rel ds n e' a' ∧ AgreeE mods e e' ∧ K e' w') (m + 1) listed a w:=by
   intro v hl h
   exact held_first ho (Region.noSelect_spec hsel) m listed a w (Region.free_spec ho hfree) (by simpa using hrd) hl hc (anyH_mono (fun a' w' ⟨e',h1,h2,h3⟩=>⟨e',h1,(hp v).trans h2,h3⟩) _ _ _ _ ((ih m _ _ _ w (hr.put o.dst v) hc h).1 hB))
  have one:op1H P e o C (fun v=>trOps P n all C K t (Sh.upd n e o.dst v) w) → Region.wanted o (yielded all a.tmps) = true → anyH P all C (fun a' w'=>∃ e',Rel ds n e' a' ∧ AgreeE mods e e' ∧ K e' w') (m + 1) listed a w:=by
   intro h hw
   obtain ⟨v,hv,hk⟩:=op1H_looks h
   refine fin v ?_ hk
   unfold Looks
   rw [hw,hr.eval]
   exact hv
  split at h
  ·rename_i hg
   exact one h (by simp [Region.wanted,hg])
  ·rename_i j want hg
   have hw:=gdE_wanted hr all o j want hg
   cases hgd:gdE all e j want with
   | true=>
    rw [hgd] at h hw
    exact one h hw
   | false=>
    rw [hgd] at h hw
    refine fin undef ?_ h
    unfold Looks
    rw [hw]
    rfl
 | only i t ih=>
  intro m listed e a w hr hc h
  have key:trB all t false (m - 1) (listed.setIfInBounds i true) = true → ∀ o,all[i]? = some o → stepH P all o a w (anyH P all C (fun a' w'=>∃ e',Rel ds n e' a' ∧ AgreeE mods e e' ∧ K e' w') (m - 1) (listed.setIfInBounds i true)):=
   fun hB=>one t (fun m l e a w h1 h2 h3 h4=>(ih m l e a w h1 h2 h3).1 h4) i _ _ e a w hr hB (by unfold trOps at h; exact h)
  refine ⟨fun hB=>?_,fun hB j hj=>?_⟩
  ·simp only [trB,Bool.and_eq_true,Bool.false_or,beq_iff_eq] at hB
   obtain ⟨hrd,hm1,hB⟩:=hB
   have key:=key hB
   obtain ⟨m,rfl⟩:∃ k,m = k + 1:=⟨m - 1,by have:=Nat.le_of_ble_eq_true hm1; omega⟩
   rw [Nat.add_sub_cancel] at key
   refine ⟨hc,fun h0=>(by rw [hrd] at h0; cases h0),fun j hj=>?_⟩
   rw [hrd,List.mem_singleton] at hj
   subst hj
   exact key
  ·simp only [trB,Bool.and_eq_true,Bool.true_or] at hB
   simp only [Tr.heads,List.mem_singleton] at hj
   subst hj
   exact key hB.2.2
 | alt i t u ih ihu=>
  intro m listed e a w hr hc h
  unfold trOps at h
  obtain ⟨h,hu⟩:=h
  have key:trB all t false (m - 1) (listed.setIfInBounds i true) = true → ∀ o,all[i]? = some o → stepH P all o a w (anyH P all C (fun a' w'=>∃ e',Rel ds n e' a' ∧ AgreeE mods e e' ∧ K e' w') (m - 1) (listed.setIfInBounds i true)):=
   fun hB=>one t (fun m l e a w h1 h2 h3 h4=>(ih m l e a w h1 h2 h3).1 h4) i _ _ e a w hr hB h
  have keyu:=(ihu m listed e a w hr hc hu).2
  refine ⟨fun hB=>?_,fun hB j hj=>?_⟩
  ·simp only [trB,Bool.and_eq_true,Bool.false_or,beq_iff_eq] at hB
   obtain ⟨hrd,hm1,hB,hBu⟩:=hB
   have key:=key hB
   have keyu:=keyu hBu
   obtain ⟨m,rfl⟩:∃ k,m = k + 1:=⟨m - 1,by have:=Nat.le_of_ble_eq_true hm1; omega⟩
   rw [Nat.add_sub_cancel] at key keyu
   refine ⟨hc,fun h0=>(by rw [hrd] at h0; cases h0),fun j hj=>?_⟩
   rw [hrd] at hj
   rcases List.mem_cons.1 hj with rfl | hj
   ·exact key
   ·exact keyu j hj
  ·simp only [trB,Bool.and_eq_true,Bool.true_or] at hB
   rcases List.mem_cons.1 hj with rfl | hj
   ·exact key hB.2.2.1
   ·exact keyu hB.2.2.2 j hj
def stageOps (P:Program) (n:Nat) (all:Array Oper) (ws:List Nat) (C:Nat → World → Prop) (K:Env → World → Prop):List (Nat × Bool) → Nat → Env → World → Prop
 | [],_,e,w=>K e w
 | (i,true) :: r,s,e,w=>
  match all[i]? with
  | none=>False
  | some o=>
   match o.guard with
   | none=>op1H P e o (upto C (dueOf all ws i)) (fun v=>stageOps P n all ws C K r s (upd n e o.dst v) w)
   | some (j,want)=>gdH (gdE all e j want) (op1H P e o) (upto C (dueOf all ws i)) (fun v=>stageOps P n all ws C K r s (upd n e o.dst v) w)
 | (i,false) :: r,s,e,w=>
  match all[i]? with
  | none=>False
  | some o=>
   match o.guard with
   | none=>op1 P e o (fun v w'=>C (s + 1) w' ∧ stageOps P n all ws C K r (s + 1) (upd n e o.dst v) w') w
   | some (j,want)=>gdM (gdE all e j want) (op1 P e o) (fun v w'=>C (s + 1) w' ∧ stageOps P n all ws C K r (s + 1) (upd n e o.dst v) w') w
theorem stageOps_wp {P:Program} {n:Nat} {all:Array Oper} {ws:List Nat} {C:Nat → World → Prop} {mods:List Nat} {K:Env → World → Prop} (hm:∀ o ∈ all.toList,∀ d,o.dst = some d → d ∈ mods):∀ (l:List (Nat × Bool)) (s:Nat) (e:Env) (a:Act) (w:World),Rel ds n e a →
  stageOps P n all ws C K l s e w → wpStage P all ws C (fun a' w'=>∃ e',Rel ds n e' a' ∧ AgreeE mods e e' ∧ K e' w') l s a w
 | [],s,e,a,w,hr,h=>⟨e,hr,AgreeE.refl _ _,h⟩
 | (i,true) :: r,s,e,a,w,hr,h=>by
  unfold stageOps at h
  split at h
  ·exact h.elim
  rename_i o ho
  have hmem:o ∈ all.toList:=by simpa using Array.mem_of_getElem? ho
  have hp:=fun v=>AgreeE.upd (n:=n) (e:=e) (o:=o.dst) v (hm o hmem)
  have lift:∀ v,stageOps P n all ws C K r s (Sh.upd n e o.dst v) w → wpStage P all ws C (fun a' w'=>∃ e',Rel ds n e' a' ∧ AgreeE mods e e' ∧ K e' w') r s (a.put o.dst v) w:=by
   intro v h
   exact wpStage_mono r s _ _ (stageOps_wp hm r s _ _ w (hr.put o.dst v) h) (fun a' w' ⟨e',h1,h2,h3⟩=>⟨e',h1,(hp v).trans h2,h3⟩)
  have one:op1H P e o (upto C (dueOf all ws i)) (fun v=>stageOps P n all ws C K r s (Sh.upd n e o.dst v) w) → Region.wanted o (yielded all a.tmps) = true → ∃ o',all[i]? = some o' ∧ ∃ v,Looks P all (upto C (dueOf all ws i)) o' a v ∧ wpStage P all ws C (fun a' w'=>∃ e',Rel ds n e' a' ∧ AgreeE mods e e' ∧ K e' w') r s (a.put o'.dst v) w:=by
   intro h hw
   obtain ⟨v,hv,hk⟩:=op1H_looks h
   refine ⟨o,ho,v,?_,lift v hk⟩
   unfold Looks
   rw [hw,hr.eval]
   exact hv
  unfold wpStage
  split at h
  ·rename_i hg
   exact one h (by simp [Region.wanted,hg])
  ·rename_i j want hg
   have hw:=gdE_wanted hr all o j want hg
   cases hgd:gdE all e j want with
   | true=>
    rw [hgd] at h hw
    exact one h hw
   | false=>
    rw [hgd] at h hw
    refine ⟨o,ho,undef,?_,lift undef h⟩
    unfold Looks
    rw [hw]
    rfl
 | (i,false) :: r,s,e,a,w,hr,h=>by
  unfold stageOps at h
  split at h
  ·exact h.elim
  rename_i o ho
  have hmem:o ∈ all.toList:=by simpa using Array.mem_of_getElem? ho
  have hp:=fun v=>AgreeE.upd (n:=n) (e:=e) (o:=o.dst) v (hm o hmem)
  have lift:∀ v w',C (s + 1) w' ∧ stageOps P n all ws C K r (s + 1) (Sh.upd n e o.dst v) w' → C (s + 1) w' ∧ wpStage P all ws C (fun a' w'=>∃ e',Rel ds n e' a' ∧ AgreeE mods e e' ∧ K e' w') r (s + 1) (a.put o.dst v) w':=by
   intro v w' ⟨hc,h⟩
   exact ⟨hc,wpStage_mono r (s + 1) _ _ (stageOps_wp hm r (s + 1) _ _ w' (hr.put o.dst v) h) (fun a' w' ⟨e',h1,h2,h3⟩=>⟨e',h1,(hp v).trans h2,h3⟩)⟩
  have one:op1 P e o (fun v w'=>C (s + 1) w' ∧ stageOps P n all ws C K r (s + 1) (Sh.upd n e o.dst v) w') w → Region.wanted o (yielded all a.tmps) = true → stepH P all o a w (fun a' w'=>C (s + 1) w' ∧ wpStage P all ws C (fun a' w'=>∃ e',Rel ds n e' a' ∧ AgreeE mods e e' ∧ K e' w') r (s + 1) a' w'):=by
   intro h hw
   unfold stepH
   rw [hw,hr.eval]
   show runsTo P _ _ w
   rw [runsTo_opM]
   exact opM_mono (op1_opM h) (fun v w' h=>lift v w' h)
  unfold wpStage
  refine ⟨o,ho,?_⟩
  split at h
  ·rename_i hg
   exact one h (by simp [Region.wanted,hg])
  ·rename_i j want hg
   have hw:=gdE_wanted hr all o j want hg
   cases hgd:gdE all e j want with
   | true=>
    rw [hgd] at h hw
    exact one h hw
   | false=>
    rw [hgd] at h hw
    unfold stepH
    rw [hw]
    exact lift undef w h
abbrev Fact:=Value → World → Prop
def opG (P:Program) (all:Array Oper) (e:Env) (o:Oper) (K:Value → World → Prop) (w:World):Prop:=
 match o.guard with
 | none=>op1 P e o K w
 | some (j,want)=>gdM (gdE all e j want) (op1 P e o) K w
theorem opG_step {P:Program} {n:Nat} {all:Array Oper} {ec e':Env} {a:Act} {o:Oper} {K:Value → World → Prop} {w:World} (hr:Rel ds n ec a) (hs:∀ cs b,o.op ≠ .select cs b) (hl:∀ t ∈ o.looksAt all,e' t = ec t) (h:opG P all e' o K w) :
  stepH P all o a w (fun a' w'=>∃ v,a' = a.put o.dst v ∧ K v w'):=by
 have hx:execOp (evE e') o = execOp a.eval o:=by
  rw [hr.eval]
  refine execOp_congr o hs (fun x hx=>?_)
  cases x with
  | tmp t=>exact hl t (List.mem_append_left _ (List.mem_filterMap.2 ⟨.tmp t,by simpa using hx,rfl⟩))
  | _=>rfl
 have one:op1 P e' o K w → Region.wanted o (yielded all a.tmps) = true → stepH P all o a w (fun a' w'=>∃ v,a' = a.put o.dst v ∧ K v w'):=by
  intro h hw
  unfold stepH
  rw [hw,← hx]
  show runsTo P _ _ w
  rw [runsTo_opM]
  exact opM_mono (op1_opM h) (fun v w' h=>⟨v,rfl,h⟩)
 unfold opG at h
 split at h
 ·rename_i hg
  exact one h (by simp [Region.wanted,hg])
 ·rename_i j want hg
  have hw:=gdE_wanted hr all o j want hg
  have he:gdE all e' j want = gdE all ec j want:=by
   unfold gdE
   cases hd:dstOf all j with
   | none=>rfl
   | some d=>
    simp only
    rw [hl d]
    refine List.mem_append_right _ ?_
    unfold dstOf at hd
    simp only [hg,hd]
    simp
  rw [he] at h
  cases hgd:gdE all ec j want with
  | true=>
   rw [hgd] at h hw
   exact one h hw
  | false=>
   rw [hgd] at h hw
   unfold stepH
   rw [hw]
   exact ⟨undef,rfl,h⟩
def rdOf (all:Array Oper) (o:Oper) (j:Nat):Bool:=match dstOf all j with | some d=>(o.looksAt all).contains d | none=>false
def depM (n:Nat) (all:Array Oper) (p:Nat → Bool):List (Nat × Fact) → Env → World → (Env → Prop) → Prop
 | [],e,_,K=>K e
 | (j,R) :: rs,e,w,K=>bif p j then ∀ v,R v w → depM n all p rs (upd n e (dstOf all j) v) w K else depM n all p rs e w K
def monoOps (P:Program) (n:Nat) (all:Array Oper) (C:World → Prop) (S:World → World → Prop) (K:Env → World → Prop):List Nat → List (Nat × Fact) → Env → Prop
 | [],rs,e=>∀ w,C w → depM n all (fun _=>true) rs e w (fun e=>K e w)
 | k :: r,rs,e=>
  match all[k]? with
  | none=>False
  | some o=>∃ R:Fact,(∀ v w w',S w w' → R v w → R v w') ∧ (∀ w,C w → depM n all (rdOf all o) rs e w (fun e=>opG P all e o (fun v w'=>C w' ∧ S w w' ∧ R v w') w)) ∧
    monoOps P n all C S K r (rs ++ [(k,R)]) e
theorem depM_at {n:Nat} {all:Array Oper} {p:Nat → Bool} {w:World} {K:Env → Prop} {ec:Env}:∀ (rs:List (Nat × Fact)) (e:Env),(∀ q ∈ rs,∃ d,dstOf all q.1 = some d ∧ d < n) →
  (∀ q ∈ rs,p q.1 = true → ∀ d,dstOf all q.1 = some d → q.2 (ec d) w) → depM n all p rs e w K →
  ∃ e',K e' ∧ ∀ t,(e' t = ec t ∧ ∃ q ∈ rs,p q.1 = true ∧ dstOf all q.1 = some t) ∨ (e' t = e t ∧ ∀ q ∈ rs,p q.1 = true → dstOf all q.1 ≠ some t)
 | [],e,_,_,h=>⟨e,h,fun t=>.inr ⟨rfl,by simp⟩⟩
 | (j,R) :: rs,e,hd,hR,h=>by
  unfold depM at h
  cases hp:p j with
  | false=>
   rw [hp] at h
   obtain ⟨e',hk,ht⟩:=depM_at rs e (fun q hq=>hd q (List.mem_cons_of_mem _ hq)) (fun q hq=>hR q (List.mem_cons_of_mem _ hq)) h
   refine ⟨e',hk,fun t=>?_⟩
   rcases ht t with ⟨h1,q,hq,h2⟩ | ⟨h1,h2⟩
   ·exact .inl ⟨h1,q,List.mem_cons_of_mem _ hq,h2⟩
   ·refine .inr ⟨h1,fun q hq hpq=>?_⟩
    rcases List.mem_cons.1 hq with rfl | hq
    ·rw [hp] at hpq; cases hpq
    ·exact h2 q hq hpq
  | true=>
   rw [hp] at h
   obtain ⟨d,hdj,hdn⟩:=hd (j,R) (List.mem_cons_self ..)
   have h:=h (ec d) (hR (j,R) (List.mem_cons_self ..) hp d hdj)
   obtain ⟨e',hk,ht⟩:=depM_at rs _ (fun q hq=>hd q (List.mem_cons_of_mem _ hq)) (fun q hq=>hR q (List.mem_cons_of_mem _ hq)) h
   refine ⟨e',hk,fun t=>?_⟩
   rcases ht t with ⟨h1,q,hq,h2⟩ | ⟨h1,h2⟩
   ·exact .inl ⟨h1,q,List.mem_cons_of_mem _ hq,h2⟩
   ·by_cases htd:t = d
    ·subst htd
     refine .inl ⟨?_,(j,R),List.mem_cons_self ..,hp,hdj⟩
     rw [h1]
     show upd n e (dstOf all j) (ec t) t = ec t
     rw [hdj]
     have hb:Nat.blt t n = true:=by simpa [Nat.blt,Nat.succ_le_iff] using hdn
     simp [upd,hb]
    ·refine .inr ⟨?_,fun q hq hpq=>?_⟩
     ·rw [h1]
      show upd n e (dstOf all j) (ec d) t = e t
      rw [hdj]
      have hb:Nat.beq t d = false:=by
       cases hx:Nat.beq t d with
       | false=>rfl
       | true=>exact absurd (Nat.eq_of_beq_eq_true hx) htd
      simp [upd,hb]
     ·rcases List.mem_cons.1 hq with rfl | hq
      ·rw [hdj]; intro he; exact htd (Option.some.inj he).symm
      ·exact h2 q hq hpq
def setAll:List Nat → Array Bool → Array Bool
 | [],l=>l
 | i :: r,l=>setAll r (l.setIfInBounds i true)
theorem setAll_size:∀ (L:List Nat) (l:Array Bool),(setAll L l).size = l.size
 | [],_=>rfl
 | i :: r,l=>by rw [setAll,setAll_size r]; simp
theorem setAll_getD:∀ (L:List Nat) (l:Array Bool) (j:Nat),(setAll L l).getD j true = true ↔ (j ∈ L ∨ l.getD j true = true)
 | [],l,j=>by simp [setAll]
 | i :: r,l,j=>by
  rw [setAll,setAll_getD r]
  by_cases h:j = i
  ·subst h
   simp only [List.mem_cons,true_or,iff_true]
   right
   by_cases hlt:j < l.size <;> simp [Array.getD_eq_getD_getElem?,Array.getElem?_setIfInBounds,hlt]
  ·rw [getD_set_ne true (fun e=>h e.symm)]
   simp [h]
def lookB (all:Array Oper):List Nat → Array Bool → Bool
 | [],_=>true
 | i :: r,listed=>(Region.ready .any all listed).contains i && (Region.free .any all listed i && lookB all r (listed.setIfInBounds i true))
def monoB1 (n:Nat) (all:Array Oper) (L M:List Nat):List Nat → List Nat → Bool
 | [],_=>true
 | k :: r,done=>
  (match all[k]? with
  | none=>false
  | some o=>
   (match o.dst with
   | none=>false
   | some d=>Nat.blt d n && r.all (fun j=>match dstOf all j with | some d'=>!Nat.beq d d' | none=>true)) &&
   ((waits o).all (fun j=>L.contains j || done.contains j) && M.all (fun j=>!rdOf all o j || ((waits o).contains j && done.contains j)))) &&
  (!L.contains k && (!r.contains k && monoB1 n all L M r (done ++ [k])))
def coverB (all:Array Oper) (M:List Nat) (t:Nat):Bool:=
 M.all fun k=>(t :: M).any fun x=>Nat.blt k x && (match all[x]? with | some o=>(waits o).contains k | none=>false)
def monoB (n:Nat) (all:Array Oper) (L M T:List Nat):Bool:=
 Region.noSelect all && (lookB all L (Array.replicate all.size false) && (L.all (fun i=>Nat.blt i all.size) && (monoB1 n all L M M [] &&
  (heldB all (T.map (·,false)) (setAll M (setAll L (Array.replicate all.size false))) &&
  (Nat.beq (L.length + (M.length + T.length)) all.size && (match T with | []=>true | t :: _=>coverB all M t))))))
theorem look_lex {P:Program} {all:Array Oper} {C:World → Prop} {Q0 Q:Act → World → Prop} (hs:Region.noSelect all = true) {m:Nat}:∀ (L:List Nat) (listed:Array Bool) (a:Act) (w:World),lookB all L listed = true → C w →
  wpHeld P all C Q0 (L.map (·,true)) a w → (∀ a',Q0 a' w → anyH P all C Q m (setAll L listed) a' w) → anyH P all C Q (L.length + m) listed a w
 | [],listed,a,w,_,_,h,k=>by rw [List.length_nil,Nat.zero_add]; exact k a h
 | i :: r,listed,a,w,hB,hw,h,k=>by
  simp only [lookB,Bool.and_eq_true] at hB
  obtain ⟨hr,hf,hB'⟩:=hB
  obtain ⟨o,ho,v,hv,hn⟩:=h
  have:=held_first ho (Region.noSelect_spec hs) (r.length + m) listed a w (Region.free_spec ho hf) (by simpa using hr) hv hw (look_lex hs r _ _ w hB' hw hn k)
  rwa [show (i :: r).length + m = r.length + m + 1 by simp; omega]
theorem monoB1_spec {n:Nat} {all:Array Oper} {L M:List Nat}:∀ (r done:List Nat),monoB1 n all L M r done = true →
  r.Nodup ∧ (∀ k ∈ r,k ∉ L) ∧ r.Pairwise (fun k j=>∀ d,dstOf all k = some d → dstOf all j ≠ some d) ∧
  ∀ pre k post,r = pre ++ k :: post → ∃ o d,all[k]? = some o ∧ o.dst = some d ∧ d < n ∧ (∀ j ∈ waits o,j ∈ L ∨ j ∈ done ++ pre) ∧ (∀ j ∈ M,rdOf all o j = true → j ∈ waits o ∧ j ∈ done ++ pre)
 | [],_,_=>⟨.nil,by simp,.nil,fun pre k post h=>by simp at h⟩
 | k :: r,done,h=>by
  simp only [monoB1,Bool.and_eq_true] at h
  obtain ⟨h1,h2,h3,h4⟩:=h
  obtain ⟨i1,i2,i3,i4⟩:=monoB1_spec r (done ++ [k]) h4
  split at h1
  ·cases h1
  rename_i o ho
  simp only [Bool.and_eq_true] at h1
  obtain ⟨h5,h6,h7⟩:=h1
  split at h5
  ·cases h5
  rename_i d hd
  simp only [Bool.and_eq_true] at h5
  obtain ⟨h8,h9⟩:=h5
  have hdk:dstOf all k = some d:=by unfold dstOf; rw [ho]; exact hd
  refine ⟨List.nodup_cons.2 ⟨by simpa using h3,i1⟩,fun x hx=>?_,List.pairwise_cons.2 ⟨fun j hj d' hd' he=>?_,i3⟩,fun pre x post e=>?_⟩
  ·rcases List.mem_cons.1 hx with rfl | hx
   ·simpa using h2
   ·exact i2 x hx
  ·rw [hdk] at hd'
   obtain rfl:=Option.some.inj hd'
   have:=List.all_eq_true.1 h9 j hj
   simp only [he] at this
   simp at this
  ·cases pre with
   | nil=>
    simp only [List.nil_append,List.cons.injEq] at e
    obtain ⟨rfl,rfl⟩:=e
    refine ⟨o,d,ho,hd,?_,fun j hj=>?_,fun j hj hr=>?_⟩
    ·simpa [Nat.blt,Nat.succ_le_iff] using h8
    ·have:=List.all_eq_true.1 h6 j hj
     simpa using this
    ·have:=List.all_eq_true.1 h7 j hj
     simpa [hr] using this
   | cons p pre=>
    simp only [List.cons_append,List.cons.injEq] at e
    obtain ⟨rfl,e⟩:=e
    obtain ⟨o,d,a1,a2,a3,a4,a5⟩:=i4 pre x post e
    refine ⟨o,d,a1,a2,a3,fun j hj=>?_,fun j hj hr=>?_⟩
    ·have:=a4 j hj
     simpa [List.append_assoc] using this
    ·have:=a5 j hj hr
     simpa [List.append_assoc] using this
theorem monoOps_spec {P:Program} {n:Nat} {all:Array Oper} {C:World → Prop} {S:World → World → Prop} {K:Env → World → Prop} {e:Env} {L M:List Nat}:∀ (r done:List Nat) (rs:List (Nat × Fact)),rs.map (·.1) = done →
  monoB1 n all L M r done = true → monoOps P n all C S K r rs e →
  ∃ rs':List (Nat × Fact),rs'.map (·.1) = r ∧ (∀ q ∈ rs',∀ v w w',S w w' → q.2 v w → q.2 v w') ∧
   (∀ q ∈ rs',∀ o,all[q.1]? = some o → ∃ pre:List (Nat × Fact),(∀ x ∈ pre,x ∈ rs ++ rs') ∧ (∀ j ∈ M,rdOf all o j = true → j ∈ pre.map (·.1)) ∧ ∀ w,C w → depM n all (rdOf all o) pre e w (fun e=>opG P all e o (fun v w'=>C w' ∧ S w w' ∧ q.2 v w') w)) ∧
   ∀ w,C w → depM n all (fun _=>true) (rs ++ rs') e w (fun e=>K e w)
 | [],_,rs,_,_,h=>⟨[],rfl,by simp,by simp,by simpa [monoOps] using h⟩
 | k :: r,done,rs,hrs,hB,h=>by
  obtain ⟨o,d,a1,a2,a3,a4,a5⟩:=(monoB1_spec (k :: r) done hB).2.2.2 [] k r rfl
  simp only [monoB1,Bool.and_eq_true] at hB
  unfold monoOps at h
  rw [a1] at h
  obtain ⟨R,hst,hop,hn⟩:=h
  obtain ⟨rs',b1,b2,b3,b4⟩:=monoOps_spec r (done ++ [k]) (rs ++ [(k,R)]) (by simp [hrs]) hB.2.2.2 hn
  refine ⟨(k,R) :: rs',by simp [b1],fun q hq=>?_,fun q hq oq hoq=>?_,fun w hw=>?_⟩
  ·rcases List.mem_cons.1 hq with rfl | hq
   ·exact hst
   ·exact b2 q hq
  ·rcases List.mem_cons.1 hq with rfl | hq
   ·obtain rfl:o = oq:=Option.some.inj (a1.symm.trans hoq)
    exact ⟨rs,fun x hx=>List.mem_append_left _ hx,fun j hj hr=>by have:=(a5 j hj hr).2; simpa [hrs] using this,hop⟩
   ·obtain ⟨pre,c1,c2,c3⟩:=b3 q hq oq hoq
    exact ⟨pre,fun x hx=>by have:=c1 x hx; simpa [List.append_assoc] using this,c2,c3⟩
  ·have:=b4 w hw
   simpa [List.append_assoc] using this
theorem first_split {U:List Nat}:∀ (M:List Nat),(∃ k ∈ M,k ∈ U) → ∃ pre k post,M = pre ++ k :: post ∧ k ∈ U ∧ ∀ j ∈ pre,j ∉ U
 | [],h=>by simp at h
 | x :: M,h=>by
  by_cases hx:x ∈ U
  ·exact ⟨[],x,M,rfl,hx,by simp⟩
  ·obtain ⟨k,hk,hu⟩:=h
   rcases List.mem_cons.1 hk with rfl | hk
   ·exact absurd hu hx
   ·obtain ⟨pre,y,post,e,h1,h2⟩:=first_split M ⟨k,hk,hu⟩
    refine ⟨x :: pre,y,post,by rw [e]; rfl,h1,fun j hj=>?_⟩
    rcases List.mem_cons.1 hj with rfl | hj
    ·exact hx
    ·exact h2 j hj
theorem key_uniq:∀ {l:List (Nat × Fact)},(l.map (·.1)).Nodup → ∀ {p q:Nat × Fact},p ∈ l → q ∈ l → p.1 = q.1 → p = q
 | [],_,_,_,h,_,_=>by simp at h
 | x :: l,hn,p,q,hp,hq,e=>by
  simp only [List.map_cons,List.nodup_cons] at hn
  rcases List.mem_cons.1 hp with hp' | hp' <;> rcases List.mem_cons.1 hq with hq' | hq'
  ·rw [hp',hq']
  ·exact absurd (by rw [← hp',e]; exact List.mem_map_of_mem (f:=(·.1)) hq') hn.1
  ·exact absurd (by rw [← hq',← e]; exact List.mem_map_of_mem (f:=(·.1)) hp') hn.1
  ·exact key_uniq hn.2 hp' hq' e
theorem mem_waits {o:Oper} {e:Edge} (he:e ∈ o.after) (hb:Region.binds .any e = true):e.on ∈ waits o:=by
 simp only [waits,List.mem_map,List.mem_filter]
 exact ⟨e,⟨by simpa using he,hb⟩,rfl⟩
theorem waits_mem {o:Oper} {j:Nat} (h:j ∈ waits o):∃ e ∈ o.after,Region.binds .any e = true ∧ e.on = j:=by
 simp only [waits,List.mem_map,List.mem_filter] at h
 obtain ⟨e,⟨he,hb⟩,rfl⟩:=h
 exact ⟨e,by simpa using he,hb,rfl⟩
theorem getD_tf {l:Array Bool} {j:Nat} (h:l.getD j false = true):l.getD j true = true:=by
 rw [Array.getD_eq_getD_getElem?] at h ⊢
 cases hx:l[j]? with
 | none=>rfl
 | some b=>rw [hx] at h; exact h
theorem getD_ft {l:Array Bool} {j:Nat} (hj:j < l.size) (h:l.getD j true = true):l.getD j false = true:=by
 rw [Array.getD_eq_getD_getElem?,Array.getElem?_eq_getElem hj] at h ⊢
 exact h
theorem getD_lt {l:Array Bool} {j:Nat} (h:l.getD j false = true):j < l.size:=by
 by_cases hj:j < l.size
 ·exact hj
 ·rw [Array.getD_eq_getD_getElem?,Array.getElem?_eq_none (by omega)] at h
  cases h
section
variable {P:Program} {n:Nat} {all:Array Oper} {C:World → Prop} {S:World → World → Prop} {Kf:Env → World → Prop} {e:Env} {L M T:List Nat} {mods:List Nat} {l2:Array Bool} {rsA:List (Nat × Fact)}
theorem monoA (hsel:Region.noSelect all = true) (hm:∀ o ∈ all.toList,∀ d,o.dst = some d → d ∈ mods) (hB1:monoB1 n all L M M [] = true) (hL:L.all (fun i=>Nat.blt i all.size) = true)
  (hT:heldB all (T.map (·,false)) l2 = true) (hl2:l2.size = all.size) (hl2L:∀ j,j ∈ L ∨ j ∈ M → l2.getD j true = true) (hcov:∀ t ts,T = t :: ts → coverB all M t = true)
  (hkeys:rsA.map (·.1) = M) (F1:∀ q ∈ rsA,∀ v w w',S w w' → q.2 v w → q.2 v w')
  (F2:∀ q ∈ rsA,∀ o,all[q.1]? = some o → ∃ pre:List (Nat × Fact),(∀ x ∈ pre,x ∈ rsA) ∧ (∀ j ∈ M,rdOf all o j = true → j ∈ pre.map (·.1)) ∧ ∀ w,C w → depM n all (rdOf all o) pre e w (fun e=>opG P all e o (fun v w'=>C w' ∧ S w w' ∧ q.2 v w') w))
  (F3:∀ w,C w → depM n all (fun _=>true) rsA e w (fun e=>heldOps P n all C Kf (T.map (·,false)) e w)) :
  ∀ (u:Nat) (U:List Nat) (listed:Array Bool) (ec:Env) (a:Act) (w:World),U.length = u → Rel ds n ec a → C w → U.Nodup → (∀ k ∈ U,k ∈ M) → listed.size = all.size →
   (∀ j,listed.getD j true = true ↔ (j ∉ U ∧ l2.getD j true = true)) → (∀ x ∈ M,x ∉ U → ∀ o,all[x]? = some o → ∀ y ∈ waits o,y ∉ U) → (∀ t,(∀ j ∈ M,dstOf all j ≠ some t) → ec t = e t) →
   (∀ q ∈ rsA,q.1 ∉ U → ∀ d,dstOf all q.1 = some d → q.2 (ec d) w) → anyH P all C (fun a' w'=>∃ e',Rel ds n e' a' ∧ AgreeE mods e e' ∧ Kf e' w') (u + T.length) listed a w:=by
 obtain ⟨hnd,hML,hpw,hspec⟩:=monoB1_spec M [] hB1
 have hMd:∀ j ∈ M,∃ o d,all[j]? = some o ∧ o.dst = some d ∧ d < n ∧ dstOf all j = some d:=by
  intro j hj
  obtain ⟨pre,post,e⟩:=List.append_of_mem hj
  obtain ⟨o,d,a1,a2,a3,_⟩:=hspec pre j post e
  exact ⟨o,d,a1,a2,a3,by unfold dstOf; rw [a1]; exact a2⟩
 have hMlt:∀ j ∈ M,j < all.size:=by
  intro j hj
  obtain ⟨o,d,a1,_⟩:=hMd j hj
  exact (Array.getElem?_eq_some_iff.1 a1).1
 have hLlt:∀ j ∈ L,j < all.size:=by
  intro j hj
  have:=List.all_eq_true.1 hL j hj
  simpa [Nat.blt,Nat.succ_le_iff] using this
 have hmods:∀ t,t ∉ mods → ∀ j ∈ M,dstOf all j ≠ some t:=by
  intro t ht j hj he
  obtain ⟨o,d,a1,a2,a3,a4⟩:=hMd j hj
  rw [a4] at he
  obtain rfl:=Option.some.inj he
  exact ht (hm o (by simpa using Array.mem_of_getElem? a1) d a2)
 have hinj:∀ i ∈ M,∀ j ∈ M,i ≠ j → ∀ d,dstOf all i = some d → dstOf all j ≠ some d:=by
  have:∀ (l:List Nat),l.Pairwise (fun k j=>∀ d,dstOf all k = some d → dstOf all j ≠ some d) → ∀ i ∈ l,∀ j ∈ l,i ≠ j → ∀ d,dstOf all i = some d → dstOf all j ≠ some d:=by
   intro l
   induction l with
   | nil=>intro _ i hi; simp at hi
   | cons x l ih=>
    intro hp i hi j hj hne d hd
    obtain ⟨h1,h2⟩:=List.pairwise_cons.1 hp
    rcases List.mem_cons.1 hi with rfl | hi' <;> rcases List.mem_cons.1 hj with rfl | hj'
    ·exact absurd rfl hne
    ·exact h1 j hj' d hd
    ·intro he; exact h1 i hi' d he hd
    ·exact ih h2 i hi' j hj' hne d hd
  exact this M hpw
 have hkn:(rsA.map (·.1)).Nodup:=by rw [hkeys]; exact hnd
 intro u
 induction u with
 | zero=>
  intro U listed ec a w hU hr hC _ _ hsz hli _ hM1 hM2
  obtain rfl:=List.length_eq_zero_iff.1 hU
  have hel:listed = l2:=by
   refine Array.ext (by omega) (fun j hj hj'=>?_)
   have:=hli j
   rw [Array.getD_eq_getD_getElem?,Array.getD_eq_getD_getElem?,Array.getElem?_eq_getElem hj,Array.getElem?_eq_getElem hj'] at this
   simp only [List.not_mem_nil,not_false_eq_true,true_and,Option.getD_some] at this
   cases h1:listed[j] <;> cases h2:l2[j] <;> simp_all
  subst hel
  obtain ⟨e',hk,ht⟩:=depM_at (ec:=ec) rsA e (fun q hq=>by
   obtain ⟨o,d,_,_,a3,a4⟩:=hMd q.1 (hkeys ▸ List.mem_map_of_mem (f:=(·.1)) hq)
   exact ⟨d,a4,a3⟩) (fun q hq _ d hd=>hM2 q hq (by simp) d hd) (F3 w hC)
  have he:e' = ec:=by
   funext t
   rcases ht t with ⟨h1,_⟩ | ⟨h1,h2⟩
   ·exact h1
   ·rw [h1,hM1 t (fun j hj=>?_)]
    rw [← hkeys] at hj
    obtain ⟨q,hq,rfl⟩:=List.mem_map.1 hj
    exact h2 q hq rfl
  subst he
  rw [Nat.zero_add]
  have h:=heldOps_wp hm (T.map (·,false)) e' a w hr hk
  have h:=held_lex hsel _ _ _ _ hT hC h
  rw [List.length_map] at h
  refine anyH_mono (fun a' w' ⟨e2,h1,h2,h3⟩=>⟨e2,h1,AgreeE.trans (fun i hi=>?_) h2,h3⟩) _ _ _ _ h
  exact hM1 i (hmods i (by simpa using hi))
 | succ u ih=>
  intro U listed ec a w hU hr hC hnU hUM hsz hli hDC hM1 hM2
  have hup:∀ j,listed.getD j false = true → l2.getD j false = true:=fun j hj=>getD_ft (by have:=getD_lt hj; omega) ((hli j).1 (getD_tf hj)).2
  rw [Nat.succ_add]
  refine ⟨hC,fun h0=>?_,fun i hi o ho=>?_⟩
  ·exfalso
   obtain ⟨x,hx⟩:∃ x,x ∈ U:=List.exists_mem_of_length_pos (by omega)
   obtain ⟨pre,k,post,e1,hkU,hpre⟩:=first_split M ⟨x,hUM x hx,hx⟩
   obtain ⟨o,d,a1,a2,a3,a4,a5⟩:=hspec pre k post e1
   have:k ∈ Region.ready .any all listed:=by
    refine mem_ready.2 ⟨?_,o,a1,fun ed hed hb=>?_⟩
    ·cases hg:listed.getD k true with
     | false=>rfl
     | true=>exact absurd hkU ((hli k).1 hg).1
    ·have hw:=a4 _ (mem_waits hed hb)
     simp only [List.nil_append] at hw
     have hnU':ed.on ∉ U:=by
      rcases hw with hw | hw
      ·exact fun hu=>hML _ (hUM _ hu) hw
      ·exact hpre _ hw
     have hin:ed.on ∈ L ∨ ed.on ∈ M:=hw.imp id (fun h=>by rw [e1]; exact List.mem_append_left _ h)
     exact getD_ft (by rcases hin with h | h; have:=hLlt _ h; omega; have:=hMlt _ h; omega) ((hli _).2 ⟨hnU',hl2L _ hin⟩)
   rw [h0] at this
   simp at this
  ·obtain ⟨hun,o',ho',hall⟩:=mem_ready.1 hi
   obtain rfl:o = o':=Option.some.inj (ho.symm.trans ho')
   have hwU:∀ y ∈ waits o,y ∉ U:=by
    intro y hy
    obtain ⟨ed,hed,hb,rfl⟩:=waits_mem hy
    exact ((hli _).1 (getD_tf (hall ed hed hb))).1
   by_cases hiU:i ∈ U
   ·have hiM:=hUM i hiU
    obtain ⟨q,hq,rfl⟩:=List.mem_map.1 (hkeys.symm ▸ hiM)
    obtain ⟨o2,d,a1,a2,a3,a4⟩:=hMd q.1 hiM
    obtain rfl:o = o2:=Option.some.inj (ho.symm.trans a1)
    obtain ⟨pre,b1,b2,b3⟩:=F2 q hq o ho
    obtain ⟨pr,po,e1⟩:=List.append_of_mem hiM
    obtain ⟨o3,d3,c1,c2,c3,c4,c5⟩:=hspec pr q.1 po e1
    obtain rfl:o = o3:=Option.some.inj (ho.symm.trans c1)
    obtain ⟨e',hk,ht⟩:=depM_at (ec:=ec) pre e (fun x hx=>by
     obtain ⟨o,d,_,_,a3,a4⟩:=hMd x.1 (hkeys ▸ List.mem_map_of_mem (f:=(·.1)) (b1 x hx))
     exact ⟨d,a4,a3⟩) (fun x hx hrd dx hdx=>hM2 x (b1 x hx) (hwU _ (c5 x.1 (hkeys ▸ List.mem_map_of_mem (f:=(·.1)) (b1 x hx)) hrd).1) dx hdx) (b3 w hC)
    have hl:∀ t ∈ o.looksAt all,e' t = ec t:=by
     intro t htl
     rcases ht t with ⟨h1,_⟩ | ⟨h1,h2⟩
     ·exact h1
     ·rw [h1,hM1 t (fun j hj hjd=>?_)]
      have hrd:rdOf all o j = true:=by
       unfold rdOf; rw [hjd]; simpa using htl
      obtain ⟨x,hx,rfl⟩:=List.mem_map.1 (b2 j hj hrd)
      exact h2 x hx hrd hjd
    refine stepH_mono (K:=fun a' w'=>∃ v,a' = a.put o.dst v ∧ C w' ∧ S w w' ∧ q.2 v w') (opG_step hr (fun cs b=>Region.noSelect_spec hsel q.1 o cs b ho) hl hk) ?_
    rintro v0 w' ⟨v,hv,hC',hS,hR⟩
    rw [hv]
    have hr':=hr.put o.dst v
    rw [a2] at hr'
    have hmemE:∀ j,j ∈ U.erase q.1 ↔ (j ≠ q.1 ∧ j ∈ U):=fun j=>hnU.mem_erase_iff
    have hud:upd n ec (some d) v d = v:=by
     have hb:Nat.blt d n = true:=by simpa [Nat.blt,Nat.succ_le_iff] using a3
     simp [upd,hb]
    have hun':∀ t,t ≠ d → upd n ec (some d) v t = ec t:=by
     intro t htd
     have hb:Nat.beq t d = false:=by
      cases hx:Nat.beq t d with
      | false=>rfl
      | true=>exact absurd (Nat.eq_of_beq_eq_true hx) htd
     simp [upd,hb]
    have:=ih (U.erase q.1) (listed.setIfInBounds q.1 true) (upd n ec (some d) v) (a.put o.dst v) w' (by rw [List.length_erase_of_mem hiU]; omega) (by rw [a2]; exact hr') hC' (hnU.erase _) (fun k hk=>hUM k ((hmemE k).1 hk).2) (by simpa using hsz) (fun j=>?_) (fun x hx hxU ox hox y hy=>?_) (fun t ht=>?_) (fun q' hq' hqU d' hd'=>?_)
    ·exact this
    ·by_cases hj:j = q.1
     ·subst hj
      have h1:(listed.setIfInBounds q.1 true).getD q.1 true = true:=by
       have hlt:=hMlt _ hiM
       simp [Array.getD_eq_getD_getElem?,Array.getElem?_setIfInBounds,hsz,hlt]
      simp only [h1,true_iff]
      exact ⟨fun h=>((hmemE _).1 h).1 rfl,hl2L _ (.inr hiM)⟩
     ·rw [getD_set_ne true (fun e=>hj e.symm),hli j,hmemE]
      simp [hj]
    ·have hyU:y ∉ U:=by
      by_cases hxi:x = q.1
      ·subst hxi
       obtain rfl:o = ox:=Option.some.inj (ho.symm.trans hox)
       exact hwU y hy
      ·exact hDC x hx (fun h=>hxU ((hmemE x).2 ⟨hxi,h⟩)) ox hox y hy
     exact fun h=>hyU ((hmemE y).1 h).2
    ·rw [hun' t (fun e=>ht q.1 hiM (by rw [a4,e]))]
     exact hM1 t ht
    ·by_cases hqi:q'.1 = q.1
     ·obtain rfl:=key_uniq hkn hq' hq hqi
      rw [a4] at hd'
      obtain rfl:=Option.some.inj hd'
      rw [hud]; exact hR
     ·have hne:d' ≠ d:=fun he=>hinj _ (hkeys ▸ List.mem_map_of_mem (f:=(·.1)) hq') _ hiM hqi d' hd' (by rw [a4,he])
      rw [hun' d' hne]
      exact F1 q' hq' _ _ _ hS (hM2 q' hq' (fun h=>hqU ((hmemE _).2 ⟨hqi,h⟩)) d' hd')
   ·exfalso
    have hrl:i ∈ Region.ready .any all l2:=by
     refine mem_ready.2 ⟨?_,o,ho,fun ed hed hb=>hup _ (hall ed hed hb)⟩
     cases hg:l2.getD i true with
     | false=>rfl
     | true=>rw [(hli i).2 ⟨hiU,hg⟩] at hun; cases hun
    cases T with
    | nil=>
     simp only [List.map_nil,heldB,List.isEmpty_iff] at hT
     rw [hT] at hrl
     simp at hrl
    | cons t ts=>
     simp only [List.map_cons,heldB,Bool.and_eq_true,beq_iff_eq] at hT
     rw [hT.1,List.mem_singleton] at hrl
     subst hrl
     have hc:=hcov i ts rfl
     have:∀ m k,all.size - k ≤ m → k ∈ M → k ∉ U:=by
      intro m
      induction m with
      | zero=>intro k hk hkM; have:=hMlt k hkM; omega
      | succ m ihm=>
       intro k hk hkM
       have:=List.all_eq_true.1 hc k hkM
       obtain ⟨x,hx,h2⟩:=List.any_eq_true.1 this
       simp only [Bool.and_eq_true] at h2
       obtain ⟨hkx,h2⟩:=h2
       have hkx:k < x:=by simpa [Nat.blt,Nat.succ_le_iff] using hkx
       split at h2
       ·rename_i ox hox
        have h2:k ∈ waits ox:=by simpa using h2
        have hkl:=hMlt k hkM
        rcases List.mem_cons.1 hx with rfl | hx
        ·obtain rfl:o = ox:=Option.some.inj (ho.symm.trans hox)
         exact hwU k h2
        ·exact hDC x hx (ihm x (by omega) hx) ox hox k h2
       ·cases h2
     obtain ⟨x,hx⟩:∃ x,x ∈ U:=List.exists_mem_of_length_pos (by omega)
     exact this _ x (Nat.le_refl _) (hUM x hx) hx
end
def monoM (P:Program) (n:Nat) (all:Array Oper) (L M T:List Nat) (K:Env → World → Prop) (C:World → Prop) (e:Env) (w:World):Prop:=
 monoB n all L M T = true ∧ heldOps P n all C (fun e _=>∃ S:World → World → Prop,monoOps P n all C S (fun e w=>heldOps P n all C K (T.map (·,false)) e w) M [] e) (L.map (·,true)) e w
theorem monoM_any {P:Program} {n:Nat} {all:Array Oper} {L M T:List Nat} {K:Env → World → Prop} {C:World → Prop} {mods:List Nat} (hm:∀ o ∈ all.toList,∀ d,o.dst = some d → d ∈ mods) {e:Env} {a:Act} {w:World} (hr:Rel ds n e a) (hC:C w)
  (h:monoM P n all L M T K C e w):anyH P all C (fun a' w'=>∃ e',Rel ds n e' a' ∧ AgreeE mods e e' ∧ K e' w') all.size (Array.replicate all.size false) a w:=by
 obtain ⟨hB,h⟩:=h
 simp only [monoB,Bool.and_eq_true] at hB
 obtain ⟨hsel,hlook,hL,hB1,hT,hlen,hcov⟩:=hB
 have hlen:=Nat.eq_of_beq_eq_true hlen
 have h:=heldOps_wp hm _ e a w hr h
 have key:=look_lex (Q:=fun a' w'=>∃ e',Rel ds n e' a' ∧ AgreeE mods e e' ∧ K e' w') hsel (m:=M.length + T.length) L (Array.replicate all.size false) a w hlook hC h ?_
 ·rw [hlen] at key; exact key
 rintro a' ⟨e1,hr1,ha1,S,hmo⟩
 obtain ⟨rsA,k1,k2,k3,k4⟩:=monoOps_spec M [] [] rfl hB1 hmo
 simp only [List.nil_append] at k3 k4
 have hnd:=(monoB1_spec M [] hB1)
 refine anyH_mono (fun a' w' ⟨e2,h1,h2,h3⟩=>⟨e2,h1,ha1.trans h2,h3⟩) _ _ _ _
  (monoA (S:=S) (rsA:=rsA) hsel hm hB1 hL hT (by rw [setAll_size,setAll_size]; simp) (fun j hj=>(setAll_getD _ _ _).2 (hj.symm.imp id (fun h=>(setAll_getD _ _ _).2 (.inl h)))) (fun t ts e=>by subst e; exact hcov) k1 k2 k3 k4 M.length M _ e1 a' w rfl hr1 hC hnd.1 (fun k hk=>hk) (by rw [setAll_size]; simp) (fun j=>?_) (fun x hx hxM=>absurd hx hxM) (fun t _=>rfl) (fun q hq hqM=>absurd (k1 ▸ List.mem_map_of_mem (f:=(·.1)) hq) hqM))
 have e1:=setAll_getD M (setAll L (Array.replicate all.size false)) j
 constructor
 ·intro hj
  refine ⟨fun hjM=>?_,e1.2 (.inr hj)⟩
  have hjl:j < all.size:=by
   obtain ⟨pre,post,e⟩:=List.append_of_mem hjM
   obtain ⟨o,d,a1,_⟩:=hnd.2.2.2 pre j post e
   exact (Array.getElem?_eq_some_iff.1 a1).1
  rcases (setAll_getD _ _ _).1 hj with hj | hj
  ·exact hnd.2.1 j hjM hj
  ·simp [Array.getD_eq_getD_getElem?,Array.getElem?_replicate,hjl] at hj
 ·rintro ⟨hjM,hj⟩
  exact (e1.1 hj).resolve_left hjM
section
variable {P:Program} {all:Array Oper} {C:World → Prop} {D:Nat → Bool}
def anyH2 (P:Program) (ops:Array Oper) (C:World → Prop) (D:Nat → Bool) (Q:Act → World → Prop):Nat → Array Bool → Act → World → Prop
 | 0,listed,a,w=>Region.ready .any ops listed = [] ∧ Q a w
 | n + 1,listed,a,w=>(Region.ready .any ops listed = [] → Q a w) ∧
  ∀ i ∈ Region.ready .any ops listed,∀ o,ops[i]? = some o → stepH P ops o a w (fun a' w'=>(D i = true → C w') ∧ anyH2 P ops C D Q n (listed.setIfInBounds i true) a' w')
theorem any_of_held2 {Q:Act → World → Prop} {Q':Exit → Act → World → Prop} (hQ:∀ a w,Q a w → Q' .normal a w):∀ (n:Nat) (listed:Array Bool) (a:Act) (w:World),
  anyH2 P all C D Q n listed a w → wpAny P .any all Q' n listed a w
 | 0,_,_,_,h=>⟨h.1,hQ _ _ h.2⟩
 | n + 1,listed,a,w,h=>by
  refine ⟨fun h0=>hQ _ _ (h.1 h0),fun i hi=>?_⟩
  obtain ⟨_,o,ho,_⟩:=mem_ready.1 hi
  have hs:=h.2 i hi o ho
  unfold wpOp
  rw [ho]
  show if Region.wanted o (yielded all a.tmps) = true then _ else _
  unfold stepH at hs
  cases hwant:Region.wanted o (yielded all a.tmps) with
  | false=>
   rw [hwant] at hs
   rw [if_neg (by simp)]
   exact any_of_held2 hQ n _ _ _ hs.2
  | true=>
   rw [hwant] at hs
   rw [if_pos rfl]
   left
   unfold Oper.wp
   revert hs
   show runsTo P (execOp a.eval o) _ w → _
   unfold runsTo
   generalize (execOp a.eval o).run P w = r
   intro hs
   cases r with
   | halt x w'=>exact hs.elim
   | ok x w'=>
    cases x with
    | value u=>exact any_of_held2 hQ n _ _ _ hs.2
    | skip=>exact any_of_held2 hQ n _ _ _ hs.2
    | enter f args=>
     refine Calls.mono hs ?_
     rintro e w'' ⟨v,rfl,hc⟩
     exact any_of_held2 hQ n _ _ _ hc.2
    | _=>exact hs.elim
def DownC (all:Array Oper) (listed:Array Bool):Prop:=∀ x o,all[x]? = some o → listed.getD x true = true → ∀ y ∈ waits o,listed.getD y false = true
theorem DownC.step {listed:Array Bool} (h:DownC all listed) {j:Nat} (hj:j ∈ Region.ready .any all listed):DownC all (listed.setIfInBounds j true):=by
 obtain ⟨_,oj,hoj,hall⟩:=mem_ready.1 hj
 intro x o ho hx y hy
 by_cases hxj:x = j
 ·subst hxj
  obtain rfl:oj = o:=Option.some.inj (hoj.symm.trans ho)
  obtain ⟨ed,hed,hb,rfl⟩:=waits_mem hy
  exact getD_set_true (hall ed hed hb)
 ·rw [getD_set_ne true (fun e=>hxj e.symm)] at hx
  exact getD_set_true (h x o ho hx y hy)
theorem held_first2 {Q:Act → World → Prop} {i:Nat} {oi:Oper} {v:Value} (hi:all[i]? = some oi) (hsel:∀ (j:Nat) (o:Oper) cs b,all[j]? = some o → o.op ≠ .select cs b)
  (hcov:∀ listed,DownC all listed → listed.getD i true = false → ∀ j ∈ Region.ready .any all listed,D j = true) :
  ∀ (n:Nat) (listed:Array Bool) (a:Act) (w:World),DownC all listed →
   (∀ j oj,all[j]? = some oj → j ≠ i → listed.getD j true = false → (∀ e ∈ oj.after,Region.binds .any e = true → e.on ≠ i) → oi.apart all oj = true) →
   i ∈ Region.ready .any all listed → Looks P all C oi a v → C w →
   anyH2 P all C D Q n (listed.setIfInBounds i true) (a.put oi.dst v) w → anyH2 P all C D Q (n + 1) listed a w:=by
 intro n
 induction n with
 | zero=>
  intro listed a w _ _ hr hy hw H
  refine ⟨fun h=>absurd hr (by rw [h]; simp),fun j hj oj hoj=>?_⟩
  by_cases hji:j = i
  ·subst hji
   obtain rfl:oi = oj:=by rw [hi] at hoj; exact Option.some.inj hoj
   exact hy.step hw ⟨fun _=>hw,H⟩
  ·have h1:=ready_mono hj hji
   rw [H.1] at h1
   cases h1
 | succ n ih=>
  intro listed a w hdc hfree hr hy hw H
  refine ⟨fun h=>absurd hr (by rw [h]; simp),fun j hj oj hoj=>?_⟩
  by_cases hji:j = i
  ·subst hji
   obtain rfl:oi = oj:=by rw [hi] at hoj; exact Option.some.inj hoj
   exact hy.step hw ⟨fun _=>hw,H⟩
  ·obtain ⟨hjun,oj',hoj',hall⟩:=mem_ready.1 hj
   obtain rfl:oj = oj':=by rw [hoj] at hoj'; exact Option.some.inj hoj'
   have hiun:=(mem_ready.1 hr).1
   have hDj:=hcov listed hdc hiun j hj
   have hnot:∀ e ∈ oj.after,Region.binds .any e = true → e.on ≠ i:=by
    intro e he hb heq
    have h1:=hall e he hb
    rw [heq] at h1
    rw [getD_tf h1] at hiun
    cases hiun
   have hap:=hfree j oj hoj hji hjun hnot
   obtain ⟨h1,h2,h3⟩:=Oper.apart_spec hap
   have hs:=H.2 j (ready_mono hj hji) oj hoj
   have hs':stepH P all oj a w (fun a' w'=>(D j = true → C w') ∧ anyH2 P all C D Q n ((listed.setIfInBounds i true).setIfInBounds j true) (a'.put oi.dst v) w'):=by
    unfold stepH at hs ⊢
    rw [wanted_put oj a oi.dst v h1,execOp_put oj (fun cs b=>hsel j oj cs b hoj) a oi.dst v h1] at hs
    cases hwant:Region.wanted oj (yielded all a.tmps) with
    | true=>
     rw [hwant] at hs
     exact runsTo_mono hs (fun u w' h=>by
      show (D j = true → C w') ∧ anyH2 P all C D Q n _ ((a.put oj.dst u).put oi.dst v) w'
      rw [← Act.put_comm a v u h2]; exact h)
    | false=>
     rw [hwant] at hs
     show (D j = true → C w) ∧ anyH2 P all C D Q n _ ((a.put oj.dst undef).put oi.dst v) w
     rw [← Act.put_comm a v undef h2]; exact hs
   refine stepH_mono hs' (fun u w' hn=>⟨hn.1,ih _ _ _ (hdc.step hj) ?_ (ready_mono hr (fun e=>hji e.symm)) ((Looks.put (fun cs b=>hsel i oi cs b hi) h3).2 hy) (hn.1 hDj) ?_⟩)
   ·intro k ok hk hki hun hno
    refine hfree k ok hk hki ?_ hno
    by_cases hjk:j = k
    ·subst hjk; exact hjun
    ·rw [getD_set_ne true hjk] at hun; exact hun
   ·rw [Array.setIfInBounds_comm _ _ hji]
    exact hn.2
def coverX (all:Array Oper) (X:List Nat) (t:Nat):Bool:=
 X.all fun k=>Nat.blt k all.size && (t :: X).any fun x=>Nat.blt k x && (match all[x]? with | some o=>(waits o).contains k | none=>false)
def coverT (all:Array Oper):List Nat → List Nat → Bool
 | _,[]=>true
 | X,t :: ts=>coverX all X t && coverT all (X ++ [t]) ts
theorem coverX_spec {X:List Nat} {t:Nat} {ot:Oper} (h:coverX all X t = true) (hot:all[t]? = some ot) {listed:Array Bool} (hdc:DownC all listed) (hw:∀ y ∈ waits ot,listed.getD y false = true):∀ k ∈ X,listed.getD k true = true:=by
 have:∀ m k,all.size - k ≤ m → k ∈ X → listed.getD k true = true:=by
  intro m
  induction m with
  | zero=>
   intro k hk hkX
   have:=List.all_eq_true.1 h k hkX
   simp only [Bool.and_eq_true] at this
   have hlt:k < all.size:=by simpa [Nat.blt,Nat.succ_le_iff] using this.1
   omega
  | succ m ihm=>
   intro k hk hkX
   have:=List.all_eq_true.1 h k hkX
   simp only [Bool.and_eq_true] at this
   obtain ⟨hlt,h1⟩:=this
   obtain ⟨x,hx,h2⟩:=List.any_eq_true.1 h1
   simp only [Bool.and_eq_true] at h2
   obtain ⟨hkx,h2⟩:=h2
   have hkx:k < x:=by simpa [Nat.blt,Nat.succ_le_iff] using hkx
   split at h2
   ·rename_i ox hox
    have h2:k ∈ waits ox:=by simpa using h2
    rcases List.mem_cons.1 hx with rfl | hx
    ·obtain rfl:ot = ox:=Option.some.inj (hot.symm.trans hox)
     exact getD_tf (hw k h2)
    ·have hlt:k < all.size:=by simpa [Nat.blt,Nat.succ_le_iff] using hlt
     exact getD_tf (hdc x ox hox (ihm x (by omega) hx) k h2)
   ·cases h2
 exact fun k hk=>this _ k (Nat.le_refl _) hk
theorem coverT_spec:∀ (T X:List Nat),coverT all X T = true → ∀ t ∈ T,∃ Y,coverX all Y t = true ∧ ∀ k ∈ X,k ∈ Y
 | [],_,_,t,ht=>by simp at ht
 | u :: us,X,h,t,ht=>by
  simp only [coverT,Bool.and_eq_true] at h
  rcases List.mem_cons.1 ht with rfl | ht
  ·exact ⟨X,h.1,fun k hk=>hk⟩
  ·obtain ⟨Y,h1,h2⟩:=coverT_spec us (X ++ [u]) h.2 t ht
   exact ⟨Y,h1,fun k hk=>h2 k (List.mem_append_left _ hk)⟩
theorem look_lex2 {Q0 Q:Act → World → Prop} (hs:Region.noSelect all = true) {X:List Nat} (hcov:∀ i ∈ X,∀ listed,DownC all listed → listed.getD i true = false → ∀ j ∈ Region.ready .any all listed,D j = true) {m:Nat}:∀ (L:List Nat) (listed:Array Bool) (a:Act) (w:World),(∀ i ∈ L,i ∈ X) → DownC all listed → lookB all L listed = true → C w →
  wpHeld P all C Q0 (L.map (·,true)) a w → (∀ a',DownC all (setAll L listed) → Q0 a' w → anyH2 P all C D Q m (setAll L listed) a' w) → anyH2 P all C D Q (L.length + m) listed a w
 | [],listed,a,w,_,hdc,_,_,h,k=>by rw [List.length_nil,Nat.zero_add]; exact k a hdc h
 | i :: r,listed,a,w,hX,hdc,hB,hw,h,k=>by
  simp only [lookB,Bool.and_eq_true] at hB
  obtain ⟨hr,hf,hB'⟩:=hB
  obtain ⟨o,ho,v,hv,hn⟩:=h
  have hr:i ∈ Region.ready .any all listed:=by simpa using hr
  have:=held_first2 ho (Region.noSelect_spec hs) (hcov i (hX i (List.mem_cons_self ..))) (r.length + m) listed a w hdc (Region.free_spec ho hf) hr hv hw (look_lex2 hs hcov r _ _ w (fun x hx=>hX x (List.mem_cons_of_mem _ hx)) (hdc.step hr) hB' hw hn k)
  rwa [show (i :: r).length + m = r.length + m + 1 by simp; omega]
end
def seqOps (P:Program) (n:Nat) (all:Array Oper) (K:Env → World → Prop):List Nat → Env → World → Prop
 | [],e,w=>K e w
 | i :: r,e,w=>
  match all[i]? with
  | none=>False
  | some o=>opG P all e o (fun v w'=>seqOps P n all K r (upd n e o.dst v) w') w
theorem seq_any {P:Program} {n:Nat} {all:Array Oper} {C:World → Prop} {D:Nat → Bool} {K:Env → World → Prop} {mods:List Nat} (hs:Region.noSelect all = true) (hm:∀ o ∈ all.toList,∀ d,o.dst = some d → d ∈ mods) :
  ∀ (T:List Nat) (listed:Array Bool) (e:Env) (a:Act) (w:World),(∀ t ∈ T,D t = false) → Rel ds n e a → heldB all (T.map (·,false)) listed = true → seqOps P n all K T e w →
  anyH2 P all C D (fun a' w'=>∃ e',Rel ds n e' a' ∧ AgreeE mods e e' ∧ K e' w') T.length listed a w
 | [],listed,e,a,w,_,hr,hB,h=>⟨by simpa [heldB] using hB,e,hr,AgreeE.refl _ _,h⟩
 | t :: ts,listed,e,a,w,hD,hr,hB,h=>by
  simp only [List.map_cons,heldB,Bool.and_eq_true,beq_iff_eq] at hB
  obtain ⟨hrd,hB'⟩:=hB
  refine ⟨fun h0=>absurd (hrd.symm.trans h0) (by simp),fun j hj o ho=>?_⟩
  rw [hrd,List.mem_singleton] at hj
  subst hj
  unfold seqOps at h
  rw [ho] at h
  refine stepH_mono (opG_step hr (fun cs b=>Region.noSelect_spec hs j o cs b ho) (fun _ _=>rfl) h) ?_
  rintro v0 w' ⟨v,hv,hk⟩
  rw [hv]
  refine ⟨fun hd=>absurd (hD j (List.mem_cons_self ..)) (by rw [hd]; simp),?_⟩
  have:=seq_any (C:=C) hs hm ts _ _ _ w' (fun x hx=>hD x (List.mem_cons_of_mem _ hx)) (hr.put o.dst v) hB' hk
  have hmem:o ∈ all.toList:=by simpa using Array.mem_of_getElem? ho
  have hp:=AgreeE.upd (n:=n) (e:=e) (o:=o.dst) v (hm o hmem)
  exact anyH2_mono (fun a' w' ⟨e',h1,h2,h3⟩=>⟨e',h1,hp.trans h2,h3⟩) _ _ _ _ this
where
 anyH2_mono {P:Program} {all:Array Oper} {C:World → Prop} {D:Nat → Bool} {Q Q':Act → World → Prop} (hq:∀ a w,Q a w → Q' a w):∀ (n:Nat) (listed:Array Bool) (a:Act) (w:World),anyH2 P all C D Q n listed a w → anyH2 P all C D Q' n listed a w
  | 0,_,_,_,h=>⟨h.1,hq _ _ h.2⟩
  | n + 1,listed,a,w,h=>⟨fun h0=>hq _ _ (h.1 h0),fun i hi o ho=>stepH_mono (h.2 i hi o ho) (fun _ _ h=>⟨h.1,anyH2_mono hq n _ _ _ h.2⟩)⟩
section
variable {P:Program} {n:Nat} {all:Array Oper} {C:World → Prop} {S:World → World → Prop} {Kf:Env → World → Prop} {e:Env} {L M T:List Nat} {mods:List Nat} {l2:Array Bool} {rsA:List (Nat × Fact)}
theorem monoA2 {D:Nat → Bool} (hsel:Region.noSelect all = true) (hm:∀ o ∈ all.toList,∀ d,o.dst = some d → d ∈ mods) (hB1:monoB1 n all L M M [] = true) (hL:L.all (fun i=>Nat.blt i all.size) = true)
  (hT:heldB all (T.map (·,false)) l2 = true) (hl2:l2.size = all.size) (hl2L:∀ j,j ∈ L ∨ j ∈ M → l2.getD j true = true) (hDl:∀ i,D i = true → l2.getD i true = true) (hDT:∀ t ∈ T,D t = false) (hDn:∀ i,i < all.size → D i = false → i ∈ T) (hcov:∀ t ∈ T,∃ Y,coverX all Y t = true ∧ ∀ k ∈ M,k ∈ Y)
  (hkeys:rsA.map (·.1) = M) (F1:∀ q ∈ rsA,∀ v w w',S w w' → q.2 v w → q.2 v w')
  (F2:∀ q ∈ rsA,∀ o,all[q.1]? = some o → ∃ pre:List (Nat × Fact),(∀ x ∈ pre,x ∈ rsA) ∧ (∀ j ∈ M,rdOf all o j = true → j ∈ pre.map (·.1)) ∧ ∀ w,C w → depM n all (rdOf all o) pre e w (fun e=>opG P all e o (fun v w'=>C w' ∧ S w w' ∧ q.2 v w') w))
  (F3:∀ w,C w → depM n all (fun _=>true) rsA e w (fun e=>seqOps P n all Kf T e w)) :
  ∀ (u:Nat) (U:List Nat) (listed:Array Bool) (ec:Env) (a:Act) (w:World),U.length = u → Rel ds n ec a → C w → U.Nodup → (∀ k ∈ U,k ∈ M) → listed.size = all.size → DownC all listed →
   (∀ j,listed.getD j true = true ↔ (j ∉ U ∧ l2.getD j true = true)) → (∀ x ∈ M,x ∉ U → ∀ o,all[x]? = some o → ∀ y ∈ waits o,y ∉ U) → (∀ t,(∀ j ∈ M,dstOf all j ≠ some t) → ec t = e t) →
   (∀ q ∈ rsA,q.1 ∉ U → ∀ d,dstOf all q.1 = some d → q.2 (ec d) w) → anyH2 P all C D (fun a' w'=>∃ e',Rel ds n e' a' ∧ AgreeE mods e e' ∧ Kf e' w') (u + T.length) listed a w:=by
 obtain ⟨hnd,hML,hpw,hspec⟩:=monoB1_spec M [] hB1
 have hMd:∀ j ∈ M,∃ o d,all[j]? = some o ∧ o.dst = some d ∧ d < n ∧ dstOf all j = some d:=by
  intro j hj
  obtain ⟨pre,post,e⟩:=List.append_of_mem hj
  obtain ⟨o,d,a1,a2,a3,_⟩:=hspec pre j post e
  exact ⟨o,d,a1,a2,a3,by unfold dstOf; rw [a1]; exact a2⟩
 have hMlt:∀ j ∈ M,j < all.size:=by
  intro j hj
  obtain ⟨o,d,a1,_⟩:=hMd j hj
  exact (Array.getElem?_eq_some_iff.1 a1).1
 have hLlt:∀ j ∈ L,j < all.size:=by
  intro j hj
  have:=List.all_eq_true.1 hL j hj
  simpa [Nat.blt,Nat.succ_le_iff] using this
 have hmods:∀ t,t ∉ mods → ∀ j ∈ M,dstOf all j ≠ some t:=by
  intro t ht j hj he
  obtain ⟨o,d,a1,a2,a3,a4⟩:=hMd j hj
  rw [a4] at he
  obtain rfl:=Option.some.inj he
  exact ht (hm o (by simpa using Array.mem_of_getElem? a1) d a2)
 have hinj:∀ i ∈ M,∀ j ∈ M,i ≠ j → ∀ d,dstOf all i = some d → dstOf all j ≠ some d:=by
  have:∀ (l:List Nat),l.Pairwise (fun k j=>∀ d,dstOf all k = some d → dstOf all j ≠ some d) → ∀ i ∈ l,∀ j ∈ l,i ≠ j → ∀ d,dstOf all i = some d → dstOf all j ≠ some d:=by
   intro l
   induction l with
   | nil=>intro _ i hi; simp at hi
   | cons x l ih=>
    intro hp i hi j hj hne d hd
    obtain ⟨h1,h2⟩:=List.pairwise_cons.1 hp
    rcases List.mem_cons.1 hi with rfl | hi' <;> rcases List.mem_cons.1 hj with rfl | hj'
    ·exact absurd rfl hne
    ·exact h1 j hj' d hd
    ·intro he; exact h1 i hi' d he hd
    ·exact ih h2 i hi' j hj' hne d hd
  exact this M hpw
 have hkn:(rsA.map (·.1)).Nodup:=by rw [hkeys]; exact hnd
 intro u
 induction u with
 | zero=>
  intro U listed ec a w hU hr hC _ _ hsz _ hli _ hM1 hM2
  obtain rfl:=List.length_eq_zero_iff.1 hU
  have hel:listed = l2:=by
   refine Array.ext (by omega) (fun j hj hj'=>?_)
   have:=hli j
   rw [Array.getD_eq_getD_getElem?,Array.getD_eq_getD_getElem?,Array.getElem?_eq_getElem hj,Array.getElem?_eq_getElem hj'] at this
   simp only [List.not_mem_nil,not_false_eq_true,true_and,Option.getD_some] at this
   cases h1:listed[j] <;> cases h2:l2[j] <;> simp_all
  subst hel
  obtain ⟨e',hk,ht⟩:=depM_at (ec:=ec) rsA e (fun q hq=>by
   obtain ⟨o,d,_,_,a3,a4⟩:=hMd q.1 (hkeys ▸ List.mem_map_of_mem (f:=(·.1)) hq)
   exact ⟨d,a4,a3⟩) (fun q hq _ d hd=>hM2 q hq (by simp) d hd) (F3 w hC)
  have he:e' = ec:=by
   funext t
   rcases ht t with ⟨h1,_⟩ | ⟨h1,h2⟩
   ·exact h1
   ·rw [h1,hM1 t (fun j hj=>?_)]
    rw [← hkeys] at hj
    obtain ⟨q,hq,rfl⟩:=List.mem_map.1 hj
    exact h2 q hq rfl
  subst he
  rw [Nat.zero_add]
  have h:=seq_any (C:=C) (D:=D) hsel hm T _ _ a w hDT hr hT hk
  refine seq_any.anyH2_mono (fun a' w' ⟨e2,h1,h2,h3⟩=>⟨e2,h1,AgreeE.trans (fun i hi=>?_) h2,h3⟩) _ _ _ _ h
  exact hM1 i (hmods i (by simpa using hi))
 | succ u ih=>
  intro U listed ec a w hU hr hC hnU hUM hsz hdn hli hDC hM1 hM2
  have hup:∀ j,listed.getD j false = true → l2.getD j false = true:=fun j hj=>getD_ft (by have:=getD_lt hj; omega) ((hli j).1 (getD_tf hj)).2
  rw [Nat.succ_add]
  refine ⟨fun h0=>?_,fun i hi o ho=>?_⟩
  ·exfalso
   obtain ⟨x,hx⟩:∃ x,x ∈ U:=List.exists_mem_of_length_pos (by omega)
   obtain ⟨pre,k,post,e1,hkU,hpre⟩:=first_split M ⟨x,hUM x hx,hx⟩
   obtain ⟨o,d,a1,a2,a3,a4,a5⟩:=hspec pre k post e1
   have:k ∈ Region.ready .any all listed:=by
    refine mem_ready.2 ⟨?_,o,a1,fun ed hed hb=>?_⟩
    ·cases hg:listed.getD k true with
     | false=>rfl
     | true=>exact absurd hkU ((hli k).1 hg).1
    ·have hw:=a4 _ (mem_waits hed hb)
     simp only [List.nil_append] at hw
     have hnU':ed.on ∉ U:=by
      rcases hw with hw | hw
      ·exact fun hu=>hML _ (hUM _ hu) hw
      ·exact hpre _ hw
     have hin:ed.on ∈ L ∨ ed.on ∈ M:=hw.imp id (fun h=>by rw [e1]; exact List.mem_append_left _ h)
     exact getD_ft (by rcases hin with h | h; have:=hLlt _ h; omega; have:=hMlt _ h; omega) ((hli _).2 ⟨hnU',hl2L _ hin⟩)
   rw [h0] at this
   simp at this
  ·obtain ⟨hun,o',ho',hall⟩:=mem_ready.1 hi
   obtain rfl:o = o':=Option.some.inj (ho.symm.trans ho')
   have hwU:∀ y ∈ waits o,y ∉ U:=by
    intro y hy
    obtain ⟨ed,hed,hb,rfl⟩:=waits_mem hy
    exact ((hli _).1 (getD_tf (hall ed hed hb))).1
   by_cases hiU:i ∈ U
   ·have hiM:=hUM i hiU
    obtain ⟨q,hq,rfl⟩:=List.mem_map.1 (hkeys.symm ▸ hiM)
    obtain ⟨o2,d,a1,a2,a3,a4⟩:=hMd q.1 hiM
    obtain rfl:o = o2:=Option.some.inj (ho.symm.trans a1)
    obtain ⟨pre,b1,b2,b3⟩:=F2 q hq o ho
    obtain ⟨pr,po,e1⟩:=List.append_of_mem hiM
    obtain ⟨o3,d3,c1,c2,c3,c4,c5⟩:=hspec pr q.1 po e1
    obtain rfl:o = o3:=Option.some.inj (ho.symm.trans c1)
    obtain ⟨e',hk,ht⟩:=depM_at (ec:=ec) pre e (fun x hx=>by
     obtain ⟨o,d,_,_,a3,a4⟩:=hMd x.1 (hkeys ▸ List.mem_map_of_mem (f:=(·.1)) (b1 x hx))
     exact ⟨d,a4,a3⟩) (fun x hx hrd dx hdx=>hM2 x (b1 x hx) (hwU _ (c5 x.1 (hkeys ▸ List.mem_map_of_mem (f:=(·.1)) (b1 x hx)) hrd).1) dx hdx) (b3 w hC)
    have hl:∀ t ∈ o.looksAt all,e' t = ec t:=by
     intro t htl
     rcases ht t with ⟨h1,_⟩ | ⟨h1,h2⟩
     ·exact h1
     ·rw [h1,hM1 t (fun j hj hjd=>?_)]
      have hrd:rdOf all o j = true:=by
       unfold rdOf; rw [hjd]; simpa using htl
      obtain ⟨x,hx,rfl⟩:=List.mem_map.1 (b2 j hj hrd)
      exact h2 x hx hrd hjd
    refine stepH_mono (K:=fun a' w'=>∃ v,a' = a.put o.dst v ∧ C w' ∧ S w w' ∧ q.2 v w') (opG_step hr (fun cs b=>Region.noSelect_spec hsel q.1 o cs b ho) hl hk) ?_
    rintro v0 w' ⟨v,hv,hC',hS,hR⟩
    rw [hv]
    have hr':=hr.put o.dst v
    rw [a2] at hr'
    have hmemE:∀ j,j ∈ U.erase q.1 ↔ (j ≠ q.1 ∧ j ∈ U):=fun j=>hnU.mem_erase_iff
    have hud:upd n ec (some d) v d = v:=by
     have hb:Nat.blt d n = true:=by simpa [Nat.blt,Nat.succ_le_iff] using a3
     simp [upd,hb]
    have hun':∀ t,t ≠ d → upd n ec (some d) v t = ec t:=by
     intro t htd
     have hb:Nat.beq t d = false:=by
      cases hx:Nat.beq t d with
      | false=>rfl
      | true=>exact absurd (Nat.eq_of_beq_eq_true hx) htd
     simp [upd,hb]
    have:=ih (U.erase q.1) (listed.setIfInBounds q.1 true) (upd n ec (some d) v) (a.put o.dst v) w' (by rw [List.length_erase_of_mem hiU]; omega) (by rw [a2]; exact hr') hC' (hnU.erase _) (fun k hk=>hUM k ((hmemE k).1 hk).2) (by simpa using hsz) (hdn.step hi) (fun j=>?_) (fun x hx hxU ox hox y hy=>?_) (fun t ht=>?_) (fun q' hq' hqU d' hd'=>?_)
    ·exact ⟨fun _=>hC',this⟩
    ·by_cases hj:j = q.1
     ·subst hj
      have h1:(listed.setIfInBounds q.1 true).getD q.1 true = true:=by
       have hlt:=hMlt _ hiM
       simp [Array.getD_eq_getD_getElem?,Array.getElem?_setIfInBounds,hsz,hlt]
      simp only [h1,true_iff]
      exact ⟨fun h=>((hmemE _).1 h).1 rfl,hl2L _ (.inr hiM)⟩
     ·rw [getD_set_ne true (fun e=>hj e.symm),hli j,hmemE]
      simp [hj]
    ·have hyU:y ∉ U:=by
      by_cases hxi:x = q.1
      ·subst hxi
       obtain rfl:o = ox:=Option.some.inj (ho.symm.trans hox)
       exact hwU y hy
      ·exact hDC x hx (fun h=>hxU ((hmemE x).2 ⟨hxi,h⟩)) ox hox y hy
     exact fun h=>hyU ((hmemE y).1 h).2
    ·rw [hun' t (fun e=>ht q.1 hiM (by rw [a4,e]))]
     exact hM1 t ht
    ·by_cases hqi:q'.1 = q.1
     ·obtain rfl:=key_uniq hkn hq' hq hqi
      rw [a4] at hd'
      obtain rfl:=Option.some.inj hd'
      rw [hud]; exact hR
     ·have hne:d' ≠ d:=fun he=>hinj _ (hkeys ▸ List.mem_map_of_mem (f:=(·.1)) hq') _ hiM hqi d' hd' (by rw [a4,he])
      rw [hun' d' hne]
      exact F1 q' hq' _ _ _ hS (hM2 q' hq' (fun h=>hqU ((hmemE _).2 ⟨hqi,h⟩)) d' hd')
   ·exfalso
    have hiT:i ∈ T:=by
     refine hDn i (Array.getElem?_eq_some_iff.1 ho).1 ?_
     cases hd:D i with
     | false=>rfl
     | true=>exact absurd ((hli i).2 ⟨hiU,hDl i hd⟩) (by rw [hun]; simp)
    obtain ⟨Y,hY,hMY⟩:=hcov i hiT
    obtain ⟨x,hx⟩:∃ x,x ∈ U:=List.exists_mem_of_length_pos (by omega)
    have:=coverX_spec hY ho hdn (fun y hy=>by
     obtain ⟨ed,hed,hb,rfl⟩:=waits_mem hy
     exact hall ed hed hb) x (hMY x (hUM x hx))
    exact ((hli x).1 this).1 hx
end
def monoB2 (n:Nat) (all:Array Oper) (L M T:List Nat):Bool:=
 Region.noSelect all && (lookB all L (Array.replicate all.size false) && (L.all (fun i=>Nat.blt i all.size) && (monoB1 n all L M M [] &&
  (heldB all (T.map (·,false)) (setAll M (setAll L (Array.replicate all.size false))) &&
  (Nat.beq (L.length + (M.length + T.length)) all.size && (coverT all (L ++ M) T && (T.all (fun t=>!(L ++ M).contains t) && (List.range all.size).all (fun j=>(L ++ M).contains j || T.contains j))))))))
def monoN (P:Program) (n:Nat) (all:Array Oper) (L M T:List Nat) (K:Env → World → Prop) (C:World → Prop) (e:Env) (w:World):Prop:=
 monoB2 n all L M T = true ∧ heldOps P n all C (fun e _=>∃ S:World → World → Prop,monoOps P n all C S (fun e w=>seqOps P n all K T e w) M [] e) (L.map (·,true)) e w
theorem monoN_any {P:Program} {n:Nat} {all:Array Oper} {L M T:List Nat} {K:Env → World → Prop} {C:World → Prop} {mods:List Nat} (hm:∀ o ∈ all.toList,∀ d,o.dst = some d → d ∈ mods) {e:Env} {a:Act} {w:World} (hr:Rel ds n e a) (hC:C w)
  (h:monoN P n all L M T K C e w):anyH2 P all C (fun j=>(L ++ M).contains j) (fun a' w'=>∃ e',Rel ds n e' a' ∧ AgreeE mods e e' ∧ K e' w') all.size (Array.replicate all.size false) a w:=by
 obtain ⟨hB,h⟩:=h
 simp only [monoB2,Bool.and_eq_true] at hB
 obtain ⟨hsel,hlook,hL,hB1,hT,hlen,hcov,hTX,hcn⟩:=hB
 have hlen:=Nat.eq_of_beq_eq_true hlen
 have hcovT:=coverT_spec T (L ++ M) hcov
 have hDT:∀ t ∈ T,(L ++ M).contains t = false:=fun t ht=>by simpa using List.all_eq_true.1 hTX t ht
 have hDn:∀ i,i < all.size → (L ++ M).contains i = false → i ∈ T:=fun i hi hd=>by
  have:=List.all_eq_true.1 hcn i (List.mem_range.2 hi)
  rw [hd,Bool.false_or] at this
  simpa using this
 have h:=heldOps_wp hm _ e a w hr h
 have hcv:∀ i ∈ L ++ M,∀ listed,DownC all listed → listed.getD i true = false → ∀ j ∈ Region.ready .any all listed,(L ++ M).contains j = true:=by
  intro i hi listed hdc hun j hj
  cases hd:(L ++ M).contains j with
  | true=>rfl
  | false=>
   obtain ⟨_,oj,hoj,hall⟩:=mem_ready.1 hj
   obtain ⟨Y,hY,hXY⟩:=hcovT j (hDn j (Array.getElem?_eq_some_iff.1 hoj).1 hd)
   have:=coverX_spec hY hoj hdc (fun y hy=>by
    obtain ⟨ed,hed,hb,rfl⟩:=waits_mem hy
    exact hall ed hed hb) i (hXY i hi)
   rw [this] at hun; cases hun
 have key:=look_lex2 (D:=fun j=>(L ++ M).contains j) (Q:=fun a' w'=>∃ e',Rel ds n e' a' ∧ AgreeE mods e e' ∧ K e' w') hsel hcv (m:=M.length + T.length) L (Array.replicate all.size false) a w (fun i hi=>List.mem_append_left _ hi) (fun x o ho hx=>by
  have hlt:=(Array.getElem?_eq_some_iff.1 ho).1
  simp [Array.getD_eq_getD_getElem?,Array.getElem?_replicate,hlt] at hx) hlook hC h ?_
 ·rw [hlen] at key; exact key
 rintro a' hdc ⟨e1,hr1,ha1,S,hmo⟩
 obtain ⟨rsA,k1,k2,k3,k4⟩:=monoOps_spec M [] [] rfl hB1 hmo
 simp only [List.nil_append] at k3 k4
 have hnd:=(monoB1_spec M [] hB1)
 have hl2:∀ j,j ∈ L ∨ j ∈ M → (setAll M (setAll L (Array.replicate all.size false))).getD j true = true:=fun j hj=>(setAll_getD _ _ _).2 (hj.symm.imp id (fun h=>(setAll_getD _ _ _).2 (.inl h)))
 refine seq_any.anyH2_mono (fun a' w' ⟨e2,h1,h2,h3⟩=>⟨e2,h1,ha1.trans h2,h3⟩) _ _ _ _
  (monoA2 (S:=S) (rsA:=rsA) (D:=fun j=>(L ++ M).contains j) hsel hm hB1 hL hT (by rw [setAll_size,setAll_size]; simp) hl2 (fun i hi=>hl2 i (by simpa using hi)) hDT hDn (fun t ht=>(hcovT t ht).imp fun Y h=>⟨h.1,fun k hk=>h.2 k (List.mem_append_right _ hk)⟩) k1 k2 k3 k4 M.length M _ e1 a' w rfl hr1 hC hnd.1 (fun k hk=>hk) (by rw [setAll_size]; simp) hdc (fun j=>?_) (fun x hx hxM=>absurd hx hxM) (fun t _=>rfl) (fun q hq hqM=>absurd (k1 ▸ List.mem_map_of_mem (f:=(·.1)) hq) hqM))
 have e1:=setAll_getD M (setAll L (Array.replicate all.size false)) j
 constructor
 ·intro hj
  refine ⟨fun hjM=>?_,e1.2 (.inr hj)⟩
  have hjl:j < all.size:=by
   obtain ⟨pre,post,e⟩:=List.append_of_mem hjM
   obtain ⟨o,d,a1,_⟩:=hnd.2.2.2 pre j post e
   exact (Array.getElem?_eq_some_iff.1 a1).1
  rcases (setAll_getD _ _ _).1 hj with hj | hj
  ·exact hnd.2.1 j hjM hj
  ·simp [Array.getD_eq_getD_getElem?,Array.getElem?_replicate,hjl] at hj
 ·rintro ⟨hjM,hj⟩
  exact (e1.1 hj).resolve_left hjM
def dsts:Code → List Nat
 | .region _ os _=>os.toList.filterMap (·.dst)
 | .seq x y=>dsts x ++ dsts y
 | .cond _ x y=>dsts x ++ dsts y
 | .block _ c | .loop c | .scope c=>dsts c
 | _=>[]
def assigned:Code → List Nat
 | .region _ os _=>os.toList.filterMap (fun o=>match o.op with | .assign _=>o.dst | _=>none)
 | .seq x y=>assigned x ++ assigned y
 | .cond _ x y=>assigned x ++ assigned y
 | .block _ c | .loop c | .scope c=>assigned c
 | _=>[]
def dedup:List Nat → List Nat → List Nat
 | [],acc=>acc.reverse
 | i :: l,acc=>bif acc.contains i then dedup l acc else dedup l (i :: acc)
def slots:List Operand → List Nat
 | []=>[]
 | .tmp t :: xs=>t :: slots xs
 | _ :: xs=>slots xs
def reads (o:Oper):List Nat:=
 match moved o.op with
 | some x=>slots [x]
 | none=>
  match static o.op with
  | some (_,xs)=>slots xs
  | none=>
   match renum o.op with
   | some (_,xs)=>slots xs
   | none=>[]
def fresh (wr:List Nat):List Nat → List Nat → List Nat
 | [],acc=>acc
 | i :: l,acc=>bif wr.contains i then fresh wr l acc else fresh wr l (i :: acc)
def exposedOps (all:Array Oper):List Oper → List Nat → List Nat → List Nat × List Nat
 | [],acc,wr=>(acc,wr)
 | o :: rest,acc,wr=>exposedOps all rest (fresh wr (match o.guard with | some (j,_)=>(match dstOf all j with | some d=>d :: reads o | none=>reads o) | none=>reads o) acc)
   (match o.dst with | some d=>d :: wr | none=>wr)
def exposed:Code → List Nat → List Nat → List Nat × List Nat
 | .region _ os _,acc,wr=>exposedOps os os.toList acc wr
 | .seq x y,acc,wr=>exposed y (exposed x acc wr).1 (exposed x acc wr).2
 | .cond c x y,acc,wr=>((exposed y (exposed x (fresh wr (slots [c]) acc) wr).1 wr).1,wr)
 | .block _ c,acc,wr | .loop c,acc,wr | .scope c,acc,wr=>((exposed c acc wr).1,wr)
 | _,acc,wr=>(acc,wr)
def vars (c:Code):List Nat:=(dedup (dsts c) []).filter (fun d=>(assigned c).contains d || (exposed c [] []).1.contains d)
def idx:List Nat → Nat → Nat → Option Nat
 | [],_,_=>none
 | v :: vs,i,n=>bif Nat.beq v i then some n else idx vs i (n + 1)
def mix (vs:List Nat) (l:List Value) (u:Env) (i:Nat):Value:=
 match idx vs i 0 with
 | some n=>l.getD n undef
 | none=>u i
theorem mix_self (vs:List Nat) (e:Env):mix vs (vs.map e) e = e:=by
 have key:∀ (vs pre:List Nat) (i n:Nat),idx vs i pre.length = some n → ((pre ++ vs).map e).getD n undef = e i:=by
  intro vs
  induction vs with
  | nil=>intro pre i n h; simp [idx] at h
  | cons v vs ih=>
   intro pre i n h
   unfold idx at h
   cases hb:Nat.beq v i with
   | true=>
    rw [hb] at h
    simp only [cond_true,Option.some.injEq] at h
    subst h
    have:v = i:=Nat.eq_of_beq_eq_true hb
    subst this
    simp
   | false=>
    rw [hb] at h
    have:=ih (pre ++ [v]) i n (by simpa using h)
    simpa using this
 funext i
 unfold mix
 split
 ·rename_i n h
  have:=key vs [] i n (by simpa using h)
  simpa using this
 ·rfl
def over (e:Env) (mods:List Nat) (u:Env):Env:=fun i=>bif mods.contains i then u i else e i
theorem over_self {mods:List Nat} {e e':Env} (h:AgreeE mods e e'):over e mods e' = e':=by
 funext i
 unfold over
 cases hb:mods.contains i with
 | true=>rfl
 | false=>exact (h i hb).symm
def envOf (a:Act):Env:=fun i=>a.tmps.getD i undef
def exits:Code → Nat × List Nat
 | .skip | .region _ _ _ | .label _=>(1,[])
 | .exit i=>(0,[i])
 | .seq x y=>match (exits x).1 with
  | 0=>exits x
  | _=>((exits y).1,(exits x).2 ++ (exits y).2)
 | .cond _ x y=>((exits x).1 + (exits y).1,(exits x).2 ++ (exits y).2)
 | .block i c=>((exits c).1 + ((exits c).2.filter (fun j=>Nat.beq j i)).length,(exits c).2.filter (fun j=>!Nat.beq j i))
 | .loop c=>(0,(exits c).2)
 | .scope c=>exits c
 | _=>(0,[])
def jvars (x y:Code):List Nat:=(dedup (dsts x) []).filter (fun d=>(assigned x).contains d || (exposed y [] []).1.contains d)
def loopM (x:List Value) (w:World) (body:(List Value → World → Prop) → (List Value → World → Nat) → List Value → Env → World → Prop):Prop:=
 ∃ (J:List Value → World → Prop) (μ:List Value → World → Nat),J x w ∧ ∀ (l:List Value) (u:Env) (w:World),J l w → body J μ l u w
def joinM (pre:(List Value → World → Prop) → Prop) (post:List Value → Env → World → Prop):Prop:=
 ∃ M:List Value → World → Prop,pre M ∧ ∀ (l:List Value) (u:Env) (w:World),M l w → post l u w
def quietM (w:World) (body:(World → Prop) → Prop):Prop:=∃ C:World → Prop,C { w with drawn:=w.drawn + 1 } ∧ body C
def comM (n:Nat) (w:World) (body:((Nat → Bool) → World → Prop) → Prop):Prop:=∃ C:(Nat → Bool) → World → Prop,C (fun j=>Nat.ble n j) { w with drawn:=w.drawn + 1 } ∧ body C
def stageM (w:World) (body:(Nat → World → Prop) → World → Prop):Prop:=∃ C:Nat → World → Prop,C 0 { w with drawn:=w.drawn + 1 } ∧ body C { w with drawn:=w.drawn + 1 }
def heldM (w:World) (body:(World → Prop) → World → Prop):Prop:=∃ C:World → Prop,C { w with drawn:=w.drawn + 1 } ∧ body C { w with drawn:=w.drawn + 1 }
inductive Md where
 | quiet
 | com
 | held
 | stage
 | tree (t:Tr)
 | mono (L M T:List Nat)
 | free (L M T:List Nat)
instance:OfNat Md 0:=⟨.quiet⟩
instance:OfNat Md 1:=⟨.com⟩
instance:OfNat Md 2:=⟨.held⟩
instance:OfNat Md 3:=⟨.stage⟩
def code (P:Program) (q:Nat → Md) (n:Nat):Code → Env → (Exit → Env → World → Prop) → World → Prop
 | .skip,e,K,w=>K .normal e w
 | .region id os draw,e,K,w=>
  match draw with
  | false=>ops P n os (K .normal) os.toList e w
  | true=>
   match q id with
   | .quiet=>quietM w (fun C=>quietOps P n os C (fun e'=>∀ w',C w' → K .normal e' w') os.toList e)
   | .com=>comM os.size w (fun C=>comOps P n os C (fun e'=>∀ w',C (fun _=>true) w' → K .normal e' w') 0 os.toList e)
   | .held=>heldM w (fun C w=>heldOps P n os C (fun e' w'=>K .normal e' w') (ordOf os) e w)
   | .tree t=>heldM w (fun C w=>trOps P n os C (fun e' w'=>K .normal e' w') t e w)
   | .mono L M T=>heldM w (fun C w=>monoM P n os L M T (fun e' w'=>K .normal e' w') C e w)
   | .free L M T=>heldM w (fun C w=>monoN P n os L M T (fun e' w'=>K .normal e' w') C e w)
   | .stage=>stageM w (fun C w=>stageOps P n os (wsOf (ordOf os)) C (fun e' w'=>K .normal e' w') (ordOf os) 0 e w)
 | .seq x y,e,K,w=>
  match Nat.ble 2 (exits x).1 with
  | false=>code P q n x e (fun ex e' w'=>match ex with | .normal=>code P q n y e' K w' | _=>K ex e' w') w
  | true=>joinM (fun M=>code P q n x e (fun ex e' w'=>match ex with | .normal=>M ((jvars x y).map e') w' | _=>K ex e' w') w)
    (fun l u w=>code P q n y (over e (dsts x) (mix (jvars x y) l u)) K w)
 | .cond c x y,e,K,w=>condM (evE e c) (code P q n x e K w) (code P q n y e K w)
 | .block id c,e,K,w=>code P q n c e (fun ex e' w'=>match ex with | .exit i=>bif Nat.beq i id then K .normal e' w' else K ex e' w' | _=>K ex e' w') w
 | .loop c,e,K,w=>loopM ((vars c).map e) w (fun J μ l u w=>code P q n c (over e (dsts c) (mix (vars c) l u)) (fun ex e' w'=>match ex with | .normal=>J ((vars c).map e') w' ∧ μ ((vars c).map e') w' < μ l w | _=>K ex e' w') w)
 | .exit id,e,K,w=>K (.exit id) e w
 | .ret,e,K,w=>K .ret e w
 | .label _,e,K,w=>K .normal e w
 | .scope c,e,K,w=>code P q n c e (fun ex e' w'=>match ex with | .goto _=>False | _=>K ex e' w') w
 | _,_,_,_=>False
def quietOk (P:Program) (q:Nat → Md):Code → Bool
 | .region id os draw=>!draw || (P.follows .mixedOrders && (match q id with | .quiet | .com=>Region.lexB .any os | .held=>heldOk os | .tree t=>trOk os t | .mono _ _ _=>true | .free _ _ _=>true | .stage=>stageOk os))
 | .seq x y=>quietOk P q x && quietOk P q y
 | .cond _ x y=>quietOk P q x && quietOk P q y
 | .block _ c | .loop c | .scope c=>quietOk P q c
 | _=>true
theorem any_quiet {P:Program} {ops:Array Oper} {C:World → Prop} {Q:Exit → Act → World → Prop} {a:Act} {w:World} (hB:Region.lexB .any ops = true) (hC:C { w with drawn:=w.drawn + 1 })
  (h:wpQuiet P ops C (fun a'=>∀ w',C w' → Q .normal a' w') ops.toList a):wpAny P .any ops Q ops.size (Array.replicate ops.size false) a { w with drawn:=w.drawn + 1 }:=by
 simp only [Region.lexB,Bool.and_eq_true] at hB
 refine wpAny_of_quiet (Q:=fun a'=>∀ w',C w' → Q .normal a' w') (fun _ w' hw' h=>h w' hw') _ _ _ _ hC ?_
 have:=wpAnyQ_lex (C:=C) (md:=.any) hB.1 ops.toList 0 (Array.replicate ops.size false) a (by simp) (by simpa using hB.2) h
 simpa using this
theorem drawn_sound {P:Program} {q:Nat → Md} {n:Nat} {id:Nat} {os:Array Oper} (hq:quietOk P q (.region id os true) = true) {e:Env} {a:Act} {K:Exit → Env → World → Prop} {w:World} (hr:Rel ds n e a) (h:code P q n (.region id os true) e K w) :
  P.follows .mixedOrders = true ∧ wpAny P .any os (fun ex a' w'=>ex = .normal ∧ ∃ e',Rel ds n e' a' ∧ AgreeE (os.toList.filterMap (·.dst)) e e' ∧ K .normal e' w') os.size (Array.replicate os.size false) a { w with drawn:=w.drawn + 1 }:=by
 unfold code at h
 match hqi:q id with
 | .quiet=>
  rw [hqi] at h
  simp only [quietOk,hqi,Bool.not_true,Bool.false_or,Bool.and_eq_true] at hq
  obtain ⟨C,hC,h⟩:=h
  refine ⟨hq.1,any_quiet (C:=C) hq.2 hC (quietOps_wp.wpQuiet_mono _ _ (quietOps_wp os.toList e a hr (mods:=os.toList.filterMap (·.dst)) (fun o ho d hd=>by simp only [List.mem_filterMap]; exact ⟨o,ho,hd⟩) h) ?_)⟩
  rintro a' ⟨e',h1,h2,h3⟩ w' hw'
  exact ⟨rfl,e',h1,h2,h3 w' hw'⟩
 | .com=>
  rw [hqi] at h
  simp only [quietOk,hqi,Bool.not_true,Bool.false_or,Bool.and_eq_true] at hq
  obtain ⟨C,hC,h⟩:=h
  refine ⟨hq.1,any_com (C:=C) hq.2 hC (wpCom_mono _ _ _ (comOps_wp os.toList 0 e a hr (mods:=os.toList.filterMap (·.dst)) (fun o ho d hd=>by simp only [List.mem_filterMap]; exact ⟨o,ho,hd⟩) h) ?_)⟩
  rintro a' ⟨e',h1,h2,h3⟩ w' hw'
  exact ⟨rfl,e',h1,h2,h3 w' hw'⟩
 | .held=>
  rw [hqi] at h
  simp only [quietOk,hqi,Bool.not_true,Bool.false_or,Bool.and_eq_true] at hq
  obtain ⟨C,hC,h⟩:=h
  refine ⟨hq.1,any_held (C:=C) hq.2 hC (heldOps_wp.wpHeld_mono _ _ _ (heldOps_wp (mods:=os.toList.filterMap (·.dst)) (fun o ho d hd=>by simp only [List.mem_filterMap]; exact ⟨o,ho,hd⟩) _ e a _ hr h) ?_)⟩
  rintro a' w' ⟨e',h1,h2,h3⟩
  exact ⟨rfl,e',h1,h2,h3⟩
 | .stage=>
  rw [hqi] at h
  simp only [quietOk,hqi,Bool.not_true,Bool.false_or,Bool.and_eq_true] at hq
  obtain ⟨C,hC,h⟩:=h
  refine ⟨hq.1,any_stage (C:=C) hq.2 hC (wpStage_mono _ _ _ _ (stageOps_wp (mods:=os.toList.filterMap (·.dst)) (fun o ho d hd=>by simp only [List.mem_filterMap]; exact ⟨o,ho,hd⟩) _ 0 e a _ hr h) ?_)⟩
  rintro a' w' ⟨e',h1,h2,h3⟩
  exact ⟨rfl,e',h1,h2,h3⟩
 | .tree t=>
  rw [hqi] at h
  simp only [quietOk,hqi,Bool.not_true,Bool.false_or,Bool.and_eq_true,trOk] at hq
  obtain ⟨C,hC,h⟩:=h
  refine ⟨hq.1,any_of_held (C:=C) (Q:=fun a' w'=>Exit.normal = .normal ∧ ∃ e',Rel ds n e' a' ∧ AgreeE (os.toList.filterMap (·.dst)) e e' ∧ K .normal e' w') (fun _ _ h=>h) _ _ _ _ (anyH_mono ?_ _ _ _ _ ((trOps_wp (mods:=os.toList.filterMap (·.dst)) hq.2.1 (fun o ho d hd=>by simp only [List.mem_filterMap]; exact ⟨o,ho,hd⟩) t _ _ e a _ hr hC h).1 hq.2.2))⟩
  rintro a' w' ⟨e',h1,h2,h3⟩
  exact ⟨rfl,e',h1,h2,h3⟩
 | .mono L M T=>
  rw [hqi] at h
  simp only [quietOk,hqi,Bool.not_true,Bool.false_or,Bool.and_eq_true] at hq
  obtain ⟨C,hC,h⟩:=h
  refine ⟨hq.1,any_of_held (C:=C) (Q:=fun a' w'=>Exit.normal = .normal ∧ ∃ e',Rel ds n e' a' ∧ AgreeE (os.toList.filterMap (·.dst)) e e' ∧ K .normal e' w') (fun _ _ h=>h) _ _ _ _ (anyH_mono ?_ _ _ _ _ (monoM_any (mods:=os.toList.filterMap (·.dst)) (fun o ho d hd=>by simp only [List.mem_filterMap]; exact ⟨o,ho,hd⟩) hr hC h))⟩
  rintro a' w' ⟨e',h1,h2,h3⟩
  exact ⟨rfl,e',h1,h2,h3⟩
 | .free L M T=>
  rw [hqi] at h
  simp only [quietOk,hqi,Bool.not_true,Bool.false_or,Bool.and_eq_true] at hq
  obtain ⟨C,hC,h⟩:=h
  refine ⟨hq.1,any_of_held2 (Q:=fun a' w'=>∃ e',Rel ds n e' a' ∧ AgreeE (os.toList.filterMap (·.dst)) e e' ∧ K .normal e' w') ?_ _ _ _ _ (monoN_any (mods:=os.toList.filterMap (·.dst)) (fun o ho d hd=>by simp only [List.mem_filterMap]; exact ⟨o,ho,hd⟩) hr hC h)⟩
  rintro a' w' ⟨e',h1,h2,h3⟩
  exact ⟨rfl,e',h1,h2,h3⟩
structure WpLike (P:Program) (ok:Array Oper → Bool) (sc:Bool) (W:Code → (Exit → Act → World → Prop) → Act → World → Prop):Prop where
 mono:∀ {c Q Q' a w},W c Q a w → (∀ e a w,Q e a w → Q' e a w) → W c Q' a w
 skip:∀ {Q a w},Q .normal a w → W .skip Q a w
 label:∀ {l Q a w},Q .normal a w → W (.label l) Q a w
 exit:∀ {id Q a w},Q (.exit id) a w → W (.exit id) Q a w
 ret:∀ {Q a w},Q .ret a w → W .ret Q a w
 seq:∀ {x y Q a w},W x (Exit.then (W y Q) Q) a w → W (.seq x y) Q a w
 cond:∀ {c x y t Q a w},Act.eval a c = .bool t → (t = true → W x Q a w) → (t = false → W y Q a w) → W (.cond c x y) Q a w
 block:∀ {id c Q a w},W c (Exit.inBlock id Q) a w → W (.block id c) Q a w
 loop:∀ {c Q a w} (I:Act → World → Prop) (μ:Act → World → Nat),I a w → (∀ a w,I a w → W c (Exit.then (fun a' w'=>I a' w' ∧ μ a' w' < μ a w) Q) a w) → W (.loop c) Q a w
 scope:∀ {c Q a w},sc = true → W c (Exit.noGoto Q) a w → W (.scope c) Q a w
 list:∀ {id:Nat} {os:Array Oper} {Q:Act → World → Prop} {a:Act} {w:World},ok os = true → wpList P os (fun ex a w=>ex = .normal ∧ Q a w) os.toList a w → W (.region id os false) (fun ex a w=>ex = .normal ∧ Q a w) a w
 any:∀ {id:Nat} {os:Array Oper} {Q:Act → World → Prop} {a:Act} {w:World},ok os = true → P.follows .mixedOrders = true → wpAny P .any os (fun ex a w=>ex = .normal ∧ Q a w) os.size (Array.replicate os.size false) a { w with drawn:=w.drawn + 1 } → W (.region id os true) (fun ex a w=>ex = .normal ∧ Q a w) a w
theorem wpLike_wp (P:Program):WpLike P (fun _=>true) true (Code.wp P) where
 mono h hq:=wp_mono h hq
 skip:=wp_skip
 label:=wp_label
 exit:=wp_exit
 ret:=wp_ret
 seq:=wp_seq
 cond hc h1 h2:=wp_cond_split hc h1 h2
 block:=wp_block
 loop I μ h0 h:=wp_loop I μ h0 h
 scope _:=wp_scope_straight
 list _ h:=wp_region_list h
 any _ hm h:=wp_region_any hm h
def okCode (ok:Array Oper → Bool) (sc:Bool):Code → Bool
 | .region _ os _=>ok os
 | .seq x y | .cond _ x y=>okCode ok sc x && okCode ok sc y
 | .block _ c | .loop c=>okCode ok sc c
 | .scope c=>sc && okCode ok sc c
 | _=>true
theorem okCode_true:∀ c:Code,okCode (fun _=>true) true c = true
 | .region _ _ _=>rfl
 | .seq x y=>by simp [okCode,okCode_true x,okCode_true y]
 | .cond _ x y=>by simp [okCode,okCode_true x,okCode_true y]
 | .block _ c=>by simp [okCode,okCode_true c]
 | .loop c=>by simp [okCode,okCode_true c]
 | .scope c=>by simp [okCode,okCode_true c]
 | .skip | .label _ | .exit _ | .ret | .goto _ | .rangeFunc _ _ _ _ | .refuse _=>rfl
theorem code_sound_like {P:Program} {ok:Array Oper → Bool} {sc:Bool} {W:Code → (Exit → Act → World → Prop) → Act → World → Prop} (hW:WpLike P ok sc W) {q:Nat → Md} {n:Nat} (c:Code) (hq:quietOk P q c = true) (hok:okCode ok sc c = true):∀ (e:Env) (a:Act) (K:Exit → Env → World → Prop) (w:World),Rel ds n e a → code P q n c e K w →
  W c (fun ex a' w'=>∃ e',Rel ds n e' a' ∧ AgreeE (dsts c) e e' ∧ K ex e' w') a w:=by
 induction c with
 | skip=>exact fun e a K w hr h=>hW.skip ⟨e,hr,AgreeE.refl _ _,h⟩
 | label l=>exact fun e a K w hr h=>hW.label ⟨e,hr,AgreeE.refl _ _,h⟩
 | exit id=>exact fun e a K w hr h=>hW.exit ⟨e,hr,AgreeE.refl _ _,h⟩
 | ret=>exact fun e a K w hr h=>hW.ret ⟨e,hr,AgreeE.refl _ _,h⟩
 | goto l=>exact fun e a K w hr h=>h.elim
 | rangeFunc f ps xs c=>exact fun e a K w hr h=>h.elim
 | refuse s=>exact fun e a K w hr h=>h.elim
 | region id os d=>
  intro e a K w hr h
  cases d with
  | false=>
   have h:ops P n os (K .normal) os.toList e w:=h
   refine hW.mono (hW.list (Q:=fun a' w'=>∃ e',Rel ds n e' a' ∧ AgreeE (os.toList.filterMap (·.dst)) e e' ∧ K .normal e' w') hok (ops_wp os.toList e a w hr (mods:=os.toList.filterMap (·.dst)) (fun o ho d hd=>by simp only [List.mem_filterMap]; exact ⟨o,ho,hd⟩) h)) ?_
   rintro ex a' w' ⟨rfl,e',h1,h2,h3⟩
   exact ⟨e',h1,h2,h3⟩
  | true=>
   have hd:=drawn_sound hq hr h
   refine hW.mono (hW.any (Q:=fun a' w'=>∃ e',Rel ds n e' a' ∧ AgreeE (os.toList.filterMap (·.dst)) e e' ∧ K .normal e' w') hok hd.1 hd.2) ?_
   rintro ex a' w' ⟨rfl,e',h1,h2,h3⟩
   exact ⟨e',h1,h2,h3⟩
 | seq x y ihx ihy=>
  intro e a K w hr h
  simp only [quietOk,Bool.and_eq_true] at hq
  simp only [okCode,Bool.and_eq_true] at hok
  have h:∃ M:Env → World → Prop,code P q n x e (fun ex e' w'=>match ex with | .normal=>M e' w' | _=>K ex e' w') w ∧
    ∀ (e':Env) (w:World),AgreeE (dsts x) e e' → M e' w → code P q n y e' K w:=by
   unfold code at h
   split at h
   ·exact ⟨_,h,fun _ _ _ h=>h⟩
   ·obtain ⟨M,h1,h2⟩:=h
    refine ⟨fun e' w'=>M ((jvars x y).map e') w',h1,fun e' w' ha hm=>?_⟩
    have:=h2 _ e' w' hm
    dsimp only at this
    rwa [mix_self,over_self ha] at this
  obtain ⟨M,h,hM⟩:=h
  refine hW.seq (hW.mono (ihx hq.1 hok.1 _ _ _ _ hr h) ?_)
  rintro ex a' w' ⟨e',hr',ha,hk⟩
  have ha':AgreeE (dsts (.seq x y)) e e':=ha.mono (fun i hi=>by simp only [dsts,List.mem_append]; exact .inl hi)
  cases ex with
  | normal=>
   have hk:=hM e' w' ha hk
   refine hW.mono (ihy hq.2 hok.2 _ _ _ _ hr' hk) ?_
   rintro ex a'' w'' ⟨e'',hr'',hb,hk⟩
   exact ⟨e'',hr'',ha'.trans (hb.mono (fun i hi=>by simp only [dsts,List.mem_append]; exact .inr hi)),hk⟩
  | _=>exact ⟨e',hr',ha',hk⟩
 | cond c x y ihx ihy=>
  intro e a K w hr h
  simp only [quietOk,Bool.and_eq_true] at hq
  simp only [okCode,Bool.and_eq_true] at hok
  obtain ⟨t,hc,ht,hf⟩:=h
  have hc:a.eval c = .bool t:=by rw [hr.eval]; exact hc
  refine hW.cond hc (fun e1=>hW.mono (ihx hq.1 hok.1 _ _ _ _ hr (ht e1)) ?_) (fun e1=>hW.mono (ihy hq.2 hok.2 _ _ _ _ hr (hf e1)) ?_)
  ·rintro ex a' w' ⟨e',hr',ha,hk⟩
   exact ⟨e',hr',ha.mono (fun i hi=>by simp only [dsts,List.mem_append]; exact .inl hi),hk⟩
  ·rintro ex a' w' ⟨e',hr',ha,hk⟩
   exact ⟨e',hr',ha.mono (fun i hi=>by simp only [dsts,List.mem_append]; exact .inr hi),hk⟩
 | block id c ih=>
  intro e a K w hr h
  refine hW.block (hW.mono (ih hq hok _ _ _ _ hr h) ?_)
  rintro ex a' w' ⟨e',hr',ha,hk⟩
  have ha:AgreeE (dsts (.block id c)) e e':=ha
  cases ex with
  | exit id'=>
   simp only [Exit.inBlock] at hk ⊢
   split
   ·rename_i he
    subst he
    have hb:Nat.beq id' id' = true:=by simp
    rw [hb] at hk
    exact ⟨e',hr',ha,hk⟩
   ·rename_i he
    have hb:Nat.beq id' id = false:=by
     cases hx:Nat.beq id' id with
     | false=>rfl
     | true=>exact absurd (Nat.eq_of_beq_eq_true hx) he
    rw [hb] at hk
    exact ⟨e',hr',ha,hk⟩
  | _=>exact ⟨e',hr',ha,hk⟩
 | loop c ih=>
  intro e a K w hr h
  obtain ⟨J,μ,h0,hstep⟩:=h
  refine hW.loop (fun a' w'=>∃ e',Rel ds n e' a' ∧ AgreeE (dsts c) e e' ∧ J ((vars c).map e') w') (fun a' w'=>μ ((vars c).map (envOf a')) w') ⟨e,hr,AgreeE.refl _ _,h0⟩ ?_
  rintro a' w' ⟨e',hr',ha,hJ⟩
  have hs:=hstep _ e' w' hJ
  dsimp only at hs
  rw [mix_self,over_self ha] at hs
  have he:envOf a' = e':=funext hr'.get
  refine hW.mono (ih hq hok _ _ _ _ hr' hs) ?_
  rintro ex a'' w'' ⟨e'',hr'',hb,hk⟩
  cases ex with
  | normal=>
   have he':envOf a'' = e'':=funext hr''.get
   refine ⟨⟨e'',hr'',ha.trans hb,hk.1⟩,?_⟩
   show μ ((vars c).map (envOf a'')) w'' < μ ((vars c).map (envOf a')) w'
   rw [he,he']
   exact hk.2
  | _=>exact ⟨e'',hr'',ha.trans hb,hk⟩
 | scope c ih=>
  intro e a K w hr h
  simp only [okCode,Bool.and_eq_true] at hok
  refine hW.scope hok.1 (hW.mono (ih hq hok.2 _ _ _ _ hr h) ?_)
  rintro ex a' w' ⟨e',hr',ha,hk⟩
  cases ex with
  | goto l=>exact hk.elim
  | _=>exact ⟨e',hr',ha,hk⟩
theorem code_sound {P:Program} {q:Nat → Md} {n:Nat} (c:Code) (hq:quietOk P q c = true) (e:Env) (a:Act) (K:Exit → Env → World → Prop) (w:World) (hr:Rel ds n e a) (h:code P q n c e K w) :
  Code.wp P c (fun ex a' w'=>∃ e',Rel ds n e' a' ∧ AgreeE (dsts c) e e' ∧ K ex e' w') a w:=code_sound_like (wpLike_wp P) c hq (okCode_true c) e a K w hr h
def resM (P:Program) (e:Env) (w:World):List ResultVar → (List Value → Prop) → Prop
 | [],K=>K []
 | .tmp t :: r,K=>resM P e w r (fun vs=>K (e t :: vs))
 | .cell s t :: r,K=>∃ v,(do loadVar t (← asAddr (e s)):Sem Value).run P w = .ok v w ∧ resM P e w r (fun vs=>K (v :: vs))
def oneOf:List Value → Value
 | [v]=>v
 | vs=>.tuple vs.toArray
def retK (P:Program) (rs:List ResultVar) (K:Value → World → Prop) (ex:Exit) (e:Env) (w:World):Prop:=
 match ex with
 | .normal | .ret=>resM P e w rs (fun vs=>K (oneOf vs) w)
 | _=>False
theorem results_run {P:Program} {a:Act} {w:World} {K:Value → Prop} (rs:List ResultVar) (fn:Func) (hfn:fn.results = rs.toArray)
  (h:resM P (envOf a) w rs (fun vs=>K (oneOf vs))):∃ v,(results fn a.tmps).run P w = .ok v w ∧ K v:=by
 have key:∀ (rs:List ResultVar) (K:List Value → Prop),resM P (envOf a) w rs K →
   ∃ vs,((rs.mapM (fun r:ResultVar=>(match r with | .tmp t=>pure (a.tmps.getD t undef) | .cell s t=>do loadVar t (← asAddr (a.tmps.getD s undef)):Sem Value))).run P w) = .ok vs w ∧ K vs:=by
  intro rs
  induction rs with
  | nil=>intro K h; exact ⟨[],by simp [List.mapM_nil],h⟩
  | cons r rs ih=>
   intro K h
   cases r with
   | tmp t=>
    obtain ⟨vs,hr,hk⟩:=ih _ h
    exact ⟨_,by simp only [List.mapM_cons,pure_bind,Sem.run_bind,hr]; rfl,hk⟩
   | cell s t=>
    obtain ⟨v,hv,h⟩:=h
    obtain ⟨vs,hr,hk⟩:=ih _ h
    refine ⟨v :: vs,?_,hk⟩
    simp only [List.mapM_cons]
    unfold envOf at hv
    rw [Sem.run_bind,hv,Result.andThen_ok,Sem.run_bind,hr]
    rfl
 obtain ⟨vs,hr,hk⟩:=key _ _ h
 refine ⟨oneOf vs,?_,hk⟩
 have e:(results fn a.tmps) = (do
   let vs ← rs.mapM (fun r:ResultVar=>(match r with | .tmp t=>pure (a.tmps.getD t undef) | .cell s t=>do loadVar t (← asAddr (a.tmps.getD s undef)):Sem Value))
   pure (if h:vs.toArray.size = 1 then vs.toArray[0] else .tuple vs.toArray)):=by
  unfold results
  rw [hfn,List.mapM_toArray]
  simp only [map_eq_pure_bind,bind_assoc,pure_bind]
  rfl
 rw [e,Sem.run_bind,hr,Result.andThen_ok,Sem.run_pure]
 congr 1
 match vs with
 | []=>rfl
 | [v]=>rfl
 | v :: u :: l=>simp [oneOf]
def slotsAt (args:List Value):Env:=fun i=>args.getD i undef
theorem calls_of_code {P:Program} (q:Nat → Md) {f:FuncId} {fn:Func} {c:Code} {rs:List ResultVar} {args:List Value} {K:Value → World → Prop} {w:World}
  (hf:P.funcs[f]? = some fn) (hb:fn.body = some c) (hrs:fn.results = rs.toArray) (hq:quietOk P q c = true) (hn:args.length ≤ fn.ntmps)
  (h:code P q fn.ntmps c (slotsAt args) (retK P rs K) w):callM P f args.toArray K w:=by
 have hr:Rel [] fn.ntmps (slotsAt args) { tmps:=args.toArray ++ Array.replicate (fn.ntmps - args.toArray.size) undef,defers:=[] }:=by
  refine ⟨by simp; omega,rfl,fun i=>?_⟩
  simp only [slotsAt,Array.getD_eq_getD_getElem?,List.getD_eq_getElem?_getD]
  by_cases hi:i < args.length
  ·rw [Array.getElem?_append_left (by simpa using hi)]
   simp
  ·rw [Array.getElem?_append_right (by simpa using hi)]
   have:args[i]? = none:=by simp; omega
   rw [this]
   simp only [Array.getElem?_replicate]
   split <;> rfl
 refine calls_of_wp hf hb (wp_mono (code_sound c hq _ _ _ _ hr h) ?_)
 rintro ex a w' ⟨e',hr',ha,hk⟩
 have he:envOf a = e':=funext hr'.get
 subst he
 cases ex <;> first
  | exact hk.elim
  | (obtain ⟨v,hr,hk⟩:=results_run (K:=fun v=>K v w') rs fn hrs hk
     exact ⟨hr'.defers,v,hr,v,rfl,hk⟩)
end Go.Sh
namespace Go.Sh
open Go
theorem oM_of_run {P:Program} {o:Op} {T:TypeId} {args:List Value} {K:Value → World → Prop} {w w':World} {v:Value}
  (h:(xop o T args).run P w = .ok (.value v) w'):oM P o T args K w = K v w':=by
 unfold oM opM
 rw [h]
section
variable {P:Program} {K:Value → World → Prop} {w:World}
@[go_sem] theorem gdM_true (m:(Value → World → Prop) → World → Prop):gdM true m K w = m K w:=rfl
@[go_sem] theorem gdM_false (m:(Value → World → Prop) → World → Prop):gdM false m K w = K undef w:=rfl
@[go_sem] theorem gd_true (b:Bool):gd (.bool b) true = b:=by cases b <;> rfl
@[go_sem] theorem gd_false (b:Bool):gd (.bool b) false = !b:=by cases b <;> rfl
@[go_sem] theorem pureM_eq (v:Value):pureM v K w = K v w:=rfl
theorem oM_pick (T:TypeId) (b:Bool) (x y:Value):oM P (.pick (.tmp 0) (.tmp 1) (.tmp 2)) T [.bool b,x,y] K w = K (bif b then x else y) w:=by
 simp [oM,opM,xop,execOp,evalL,evE,asBool]
 cases b <;> rfl
theorem oM_len_string (t T:TypeId) (s:ByteArray) (h:P.underlying t = some .string):oM P (.call { callee:=.builtin .len,args:=#[.tmp 0],argTypes:=#[t] }) T [.string s] K w = K (.int .i64 s.size) w:=
 by
 have hr:=run_len_string (P:=P) (w:=w) t T s h
 refine oM_of_run (w':=w) ?_
 simp [xop,evalL,evE,go_sem]
 rw [hr]
 rfl
theorem oM_lss (t t' T:TypeId) (k:IntKind) (a b:Int):oM P (.binOp .lss t (.tmp 0) (.tmp 1) t') T [.int k a,.int k b] K w = K (.bool (decide (a < b))) w:=by
 simp [oM,opM,xop,evalL,evE,go_sem]
theorem oM_leq (t t' T:TypeId) (k:IntKind) (a b:Int):oM P (.binOp .leq t (.tmp 0) (.tmp 1) t') T [.int k a,.int k b] K w = K (.bool (decide (a ≤ b))) w:=by
 simp [oM,opM,xop,evalL,evE,go_sem]
theorem oM_gtr (t t' T:TypeId) (k:IntKind) (a b:Int):oM P (.binOp .gtr t (.tmp 0) (.tmp 1) t') T [.int k a,.int k b] K w = K (.bool (decide (b < a))) w:=by
 simp [oM,opM,xop,evalL,evE,go_sem]
theorem oM_geq (t t' T:TypeId) (k:IntKind) (a b:Int):oM P (.binOp .geq t (.tmp 0) (.tmp 1) t') T [.int k a,.int k b] K w = K (.bool (decide (b ≤ a))) w:=by
 simp [oM,opM,xop,evalL,evE,go_sem]
theorem oM_add (t t' T:TypeId) (k:IntKind) (a b:Int):oM P (.binOp .add t (.tmp 0) (.tmp 1) t') T [.int k a,.int k b] K w = K (.int k (k.wrap (a + b))) w:=by
 simp [oM,opM,xop,evalL,evE,go_sem]
theorem oM_sub (t t' T:TypeId) (k:IntKind) (a b:Int):oM P (.binOp .sub t (.tmp 0) (.tmp 1) t') T [.int k a,.int k b] K w = K (.int k (k.wrap (a - b))) w:=by
 simp [oM,opM,xop,evalL,evE,go_sem]
theorem oM_mul (t t' T:TypeId) (k:IntKind) (a b:Int):oM P (.binOp .mul t (.tmp 0) (.tmp 1) t') T [.int k a,.int k b] K w = K (.int k (k.wrap (a * b))) w:=by
 simp [oM,opM,xop,evalL,evE,go_sem]
theorem oM_eq_tc (t t' T:TypeId) (k:IntKind) (a b:Int):oM P (.binOp .eql t (.tmp 0) (.const (.int k b)) t') T [.int k a] K w = K (.bool (decide (a = b))) w:=by
 simp [oM,opM,xop,evalL,evE,go_sem]
 rfl
theorem oM_ne_tc (t t' T:TypeId) (k:IntKind) (a b:Int):oM P (.binOp .neq t (.tmp 0) (.const (.int k b)) t') T [.int k a] K w = K (.bool (!decide (a = b))) w:=by
 simp [oM,opM,xop,evalL,evE,go_sem]
 rfl
theorem oM_eq_tt (t t' T:TypeId) (k:IntKind) (a b:Int):oM P (.binOp .eql t (.tmp 0) (.tmp 1) t') T [.int k a,.int k b] K w = K (.bool (decide (a = b))) w:=by
 simp [oM,opM,xop,evalL,evE,go_sem]
 rfl
theorem oM_ne_tt (t t' T:TypeId) (k:IntKind) (a b:Int):oM P (.binOp .neq t (.tmp 0) (.tmp 1) t') T [.int k a,.int k b] K w = K (.bool (!decide (a = b))) w:=by
 simp [oM,opM,xop,evalL,evE,go_sem]
 rfl
theorem bytes_beq (a b:ByteArray):(a.toList == b.toList) = decide (a = b):=by
 rw [ByteArray.toList_eq,ByteArray.toList_eq,Bool.eq_iff_iff]
 simp only [beq_iff_eq,decide_eq_true_eq]
 refine ⟨fun h=>?_,fun h=>by rw [h]⟩
 obtain ⟨a⟩:=a
 obtain ⟨b⟩:=b
 congr 1
 exact Array.ext' h
theorem halts (α:Type) (P:Program) (k:IntKind) (i:Int) (n:Nat) (c:BoundsCode) (w:World):∃ h w',(boundsPanic k i n c:Sem α).run P w = .halt h w':=by
 obtain ⟨s,w',h⟩:=run_boundsPanic (α:=α) (P:=P) (w:=w) k i n c
 exact ⟨_,_,h⟩
theorem oM_value {S:Sem Value} {o:Op} {T:TypeId} {args:List Value} (hx:xop o T args = (do let v ← S; pure (.value v))):oM P o T args K w = ∃ v w',S.run P w = .ok v w' ∧ K v w':=by
 unfold oM
 rw [hx]
 exact propext opM_value
theorem ok_iff {v:Value} {w':World}:(∃ v' w'',(Result.ok v w':Result Value) = .ok v' w'' ∧ K v' w'') = K v w':=
 propext ⟨fun ⟨_,_,h,hk⟩=>by cases h; exact hk,fun h=>⟨_,_,rfl,h⟩⟩
theorem halt_iff {h:Halt} {w':World}:(∃ v' w'',(Result.halt h w':Result Value) = .ok v' w'' ∧ K v' w'') = False:=
 propext ⟨fun ⟨_,_,h,_⟩=>(by cases h),fun h=>h.elim⟩
theorem oM_eqs_tc (t t' T:TypeId) (a b:ByteArray):oM P (.binOp .eql t (.tmp 0) (.const (.string b)) t') T [.string a] K w = K (.bool (decide (a = b))) w:=by
 simp [oM,opM,xop,evalL,evE,go_sem,bytes_beq]
theorem oM_nes_tc (t t' T:TypeId) (a b:ByteArray):oM P (.binOp .neq t (.tmp 0) (.const (.string b)) t') T [.string a] K w = K (.bool (!decide (a = b))) w:=by
 simp [oM,opM,xop,evalL,evE,go_sem,bytes_beq]
theorem oM_eqs_tt (t t' T:TypeId) (a b:ByteArray):oM P (.binOp .eql t (.tmp 0) (.tmp 1) t') T [.string a,.string b] K w = K (.bool (decide (a = b))) w:=by
 simp [oM,opM,xop,evalL,evE,go_sem,bytes_beq]
theorem oM_nes_tt (t t' T:TypeId) (a b:ByteArray):oM P (.binOp .neq t (.tmp 0) (.tmp 1) t') T [.string a,.string b] K w = K (.bool (!decide (a = b))) w:=by
 simp [oM,opM,xop,evalL,evE,go_sem,bytes_beq]
theorem oM_not (t T:TypeId) (b:Bool):oM P (.unOp .not t (.tmp 0)) T [.bool b] K w = K (.bool (!b)) w:=by
 simp [oM,opM,xop,evalL,evE,go_sem]
theorem oM_index_string (t T:TypeId) (s:ByteArray) (i:Int) (h:P.underlying t = some .string):oM P (.index t (.tmp 0) (.tmp 1)) T [.string s,.int .i64 i] K w = ∃ h:0 ≤ i ∧ i.toNat < s.size,K (.int .u8 (s[i.toNat]'h.2).toNat) w:=by
 rw [oM_value (S:=Instr.index t (.string s) (.int .i64 i)) rfl,run_index_string (P:=P) (w:=w) t s .i64 i h]
 by_cases hi:0 ≤ i ∧ i < s.size
 ·rw [dif_pos hi,ok_iff]
  exact propext ⟨fun hk=>⟨⟨hi.1,by omega⟩,hk⟩,fun ⟨_,hk⟩=>hk⟩
 ·rw [dif_neg hi]
  obtain ⟨e,w',he⟩:=halts Value P .i64 i s.size .index w
  rw [he,halt_iff]
  exact propext ⟨fun h=>h.elim,fun ⟨h,_⟩=>hi ⟨h.1,by omega⟩⟩
theorem oM_slice_from (t T:TypeId) (s:ByteArray) (i:Int) (h:P.underlying t = some .string):oM P (.slice t (.tmp 0) (some (.tmp 1)) none none) T [.string s,.int .i64 i] K w = ((0 ≤ i ∧ i ≤ s.size) ∧ K (.string (s.extract i.toNat s.size)) w):=by
 have e:xop (.slice t (.tmp 0) (some (.tmp 1)) none none) T [.string s,.int .i64 i] = (do let v ← Instr.sliceAt t (.string s) (some (.int .i64 i)) none none; pure (.value v)):=rfl
 have e2:(Instr.sliceAt t (.string s) (some (.int .i64 i)) none none).run P w = (Instr.slice t (.string s) (some (.int .i64 i)) none none).run P w:=by
  unfold Instr.sliceAt
  rw [Sem.run_bind,run_underlying h]
  rfl
 rw [oM_value e,e2,run_slice_string_from_if (P:=P) (w:=w) t s .i64 i h]
 by_cases hi:0 ≤ i ∧ i ≤ (s.size:Int)
 ·rw [if_pos hi,ok_iff]
  exact propext ⟨fun hk=>⟨hi,hk⟩,fun ⟨_,hk⟩=>hk⟩
 ·rw [if_neg hi]
  obtain ⟨e,w',he⟩:=halts Nat P .i64 i s.size .sliceB w
  rw [he,Result.andThen_halt,halt_iff]
  exact propext ⟨fun h=>h.elim,fun ⟨h,_⟩=>hi h⟩
theorem oM_slice_to (t T:TypeId) (s:ByteArray) (i:Int) (h:P.underlying t = some .string):oM P (.slice t (.tmp 0) none (some (.tmp 1)) none) T [.string s,.int .i64 i] K w = ((0 ≤ i ∧ i ≤ s.size) ∧ K (.string (s.extract 0 i.toNat)) w):=by
 have e:xop (.slice t (.tmp 0) none (some (.tmp 1)) none) T [.string s,.int .i64 i] = (do let v ← Instr.sliceAt t (.string s) none (some (.int .i64 i)) none; pure (.value v)):=rfl
 have e2:(Instr.sliceAt t (.string s) none (some (.int .i64 i)) none).run P w = (Instr.slice t (.string s) none (some (.int .i64 i)) none).run P w:=by
  unfold Instr.sliceAt
  rw [Sem.run_bind,run_underlying h]
  rfl
 rw [oM_value e,e2,run_slice_string_to_if (P:=P) (w:=w) t s .i64 i h]
 by_cases hi:0 ≤ i ∧ i ≤ (s.size:Int)
 ·rw [if_pos hi,ok_iff]
  exact propext ⟨fun hk=>⟨hi,hk⟩,fun ⟨_,hk⟩=>hk⟩
 ·rw [if_neg hi]
  obtain ⟨e,w',he⟩:=halts Nat P .i64 i s.size .sliceAlen w
  rw [he,Result.andThen_halt,halt_iff]
  exact propext ⟨fun h=>h.elim,fun ⟨h,_⟩=>hi h⟩
theorem oM_slice_both (t T:TypeId) (s:ByteArray) (i j:Int) (h:P.underlying t = some .string):oM P (.slice t (.tmp 0) (some (.tmp 1)) (some (.tmp 2)) none) T [.string s,.int .i64 i,.int .i64 j] K w = ((0 ≤ i ∧ i ≤ j ∧ j ≤ s.size) ∧ K (.string (s.extract i.toNat j.toNat)) w):=by
 have e:xop (.slice t (.tmp 0) (some (.tmp 1)) (some (.tmp 2)) none) T [.string s,.int .i64 i,.int .i64 j] = (do let v ← Instr.sliceAt t (.string s) (some (.int .i64 i)) (some (.int .i64 j)) none; pure (.value v)):=rfl
 have e2:(Instr.sliceAt t (.string s) (some (.int .i64 i)) (some (.int .i64 j)) none).run P w = (Instr.slice t (.string s) (some (.int .i64 i)) (some (.int .i64 j)) none).run P w:=by
  unfold Instr.sliceAt
  rw [Sem.run_bind,run_underlying h]
  rfl
 rw [oM_value e,e2,run_slice_string_if (P:=P) (w:=w) t s .i64 .i64 i j h]
 by_cases hj:0 ≤ j ∧ j ≤ (s.size:Int)
 ·rw [if_pos hj]
  by_cases hi:0 ≤ i ∧ i ≤ j
  ·rw [if_pos hi,ok_iff]
   exact propext ⟨fun hk=>⟨⟨hi.1,hi.2,hj.2⟩,hk⟩,fun ⟨_,hk⟩=>hk⟩
  ·rw [if_neg hi]
   obtain ⟨e,w',he⟩:=halts Nat P .i64 i j.toNat .sliceB w
   rw [he,Result.andThen_halt,halt_iff]
   exact propext ⟨fun h=>h.elim,fun ⟨h,_⟩=>hi ⟨h.1,h.2.1⟩⟩
 ·rw [if_neg hj]
  obtain ⟨e,w',he⟩:=halts Nat P .i64 j s.size .sliceAlen w
  rw [he,Result.andThen_halt,halt_iff]
  exact propext ⟨fun h=>h.elim,fun ⟨h,_⟩=>hj ⟨by omega,h.2.2⟩⟩
theorem oM_extract2_0 (T:TypeId) (a b:Value):oM P (.extract (.tmp 0) 0) T [.tuple #[a,b]] K w = K a w:=oM_of_run rfl
theorem oM_extract2_1 (T:TypeId) (a b:Value):oM P (.extract (.tmp 0) 1) T [.tuple #[a,b]] K w = K b w:=oM_of_run rfl
theorem oM_extract3_0 (T:TypeId) (a b c:Value):oM P (.extract (.tmp 0) 0) T [.tuple #[a,b,c]] K w = K a w:=oM_of_run rfl
theorem oM_extract3_1 (T:TypeId) (a b c:Value):oM P (.extract (.tmp 0) 1) T [.tuple #[a,b,c]] K w = K b w:=oM_of_run rfl
theorem oM_extract3_2 (T:TypeId) (a b c:Value):oM P (.extract (.tmp 0) 2) T [.tuple #[a,b,c]] K w = K c w:=oM_of_run rfl
@[go_sem] theorem oM_pick' (T:TypeId) (b:Bool) (x y:Value):oM P (.pick (.tmp 0) (.tmp 1) (.tmp 2)) T [.bool b,x,y] = pureM (bif b then x else y):=by
 funext K w
 exact oM_pick T b x y
@[go_sem] theorem oM_lss' (t t' T:TypeId) (k:IntKind) (a b:Int):oM P (.binOp .lss t (.tmp 0) (.tmp 1) t') T [.int k a,.int k b] = pureM (.bool (decide (a < b))):=by
 funext K w
 exact oM_lss t t' T k a b
@[go_sem] theorem oM_leq' (t t' T:TypeId) (k:IntKind) (a b:Int):oM P (.binOp .leq t (.tmp 0) (.tmp 1) t') T [.int k a,.int k b] = pureM (.bool (decide (a ≤ b))):=by
 funext K w
 exact oM_leq t t' T k a b
@[go_sem] theorem oM_gtr' (t t' T:TypeId) (k:IntKind) (a b:Int):oM P (.binOp .gtr t (.tmp 0) (.tmp 1) t') T [.int k a,.int k b] = pureM (.bool (decide (b < a))):=by
 funext K w
 exact oM_gtr t t' T k a b
@[go_sem] theorem oM_geq' (t t' T:TypeId) (k:IntKind) (a b:Int):oM P (.binOp .geq t (.tmp 0) (.tmp 1) t') T [.int k a,.int k b] = pureM (.bool (decide (b ≤ a))):=by
 funext K w
 exact oM_geq t t' T k a b
@[go_sem] theorem oM_add' (t t' T:TypeId) (k:IntKind) (a b:Int):oM P (.binOp .add t (.tmp 0) (.tmp 1) t') T [.int k a,.int k b] = pureM (.int k (k.wrap (a + b))):=by
 funext K w
 exact oM_add t t' T k a b
@[go_sem] theorem oM_sub' (t t' T:TypeId) (k:IntKind) (a b:Int):oM P (.binOp .sub t (.tmp 0) (.tmp 1) t') T [.int k a,.int k b] = pureM (.int k (k.wrap (a - b))):=by
 funext K w
 exact oM_sub t t' T k a b
@[go_sem] theorem oM_mul' (t t' T:TypeId) (k:IntKind) (a b:Int):oM P (.binOp .mul t (.tmp 0) (.tmp 1) t') T [.int k a,.int k b] = pureM (.int k (k.wrap (a * b))):=by
 funext K w
 exact oM_mul t t' T k a b
@[go_sem] theorem oM_eq_tc' (t t' T:TypeId) (k:IntKind) (a b:Int):oM P (.binOp .eql t (.tmp 0) (.const (.int k b)) t') T [.int k a] = pureM (.bool (decide (a = b))):=by
 funext K w
 exact oM_eq_tc t t' T k a b
@[go_sem] theorem oM_ne_tc' (t t' T:TypeId) (k:IntKind) (a b:Int):oM P (.binOp .neq t (.tmp 0) (.const (.int k b)) t') T [.int k a] = pureM (.bool (!decide (a = b))):=by
 funext K w
 exact oM_ne_tc t t' T k a b
@[go_sem] theorem oM_eq_tt' (t t' T:TypeId) (k:IntKind) (a b:Int):oM P (.binOp .eql t (.tmp 0) (.tmp 1) t') T [.int k a,.int k b] = pureM (.bool (decide (a = b))):=by
 funext K w
 exact oM_eq_tt t t' T k a b
@[go_sem] theorem oM_ne_tt' (t t' T:TypeId) (k:IntKind) (a b:Int):oM P (.binOp .neq t (.tmp 0) (.tmp 1) t') T [.int k a,.int k b] = pureM (.bool (!decide (a = b))):=by
 funext K w
 exact oM_ne_tt t t' T k a b
@[go_sem] theorem oM_eqs_tc' (t t' T:TypeId) (a b:ByteArray):oM P (.binOp .eql t (.tmp 0) (.const (.string b)) t') T [.string a] = pureM (.bool (decide (a = b))):=by
 funext K w
 exact oM_eqs_tc t t' T a b
@[go_sem] theorem oM_nes_tc' (t t' T:TypeId) (a b:ByteArray):oM P (.binOp .neq t (.tmp 0) (.const (.string b)) t') T [.string a] = pureM (.bool (!decide (a = b))):=by
 funext K w
 exact oM_nes_tc t t' T a b
@[go_sem] theorem oM_eqs_tt' (t t' T:TypeId) (a b:ByteArray):oM P (.binOp .eql t (.tmp 0) (.tmp 1) t') T [.string a,.string b] = pureM (.bool (decide (a = b))):=by
 funext K w
 exact oM_eqs_tt t t' T a b
@[go_sem] theorem oM_nes_tt' (t t' T:TypeId) (a b:ByteArray):oM P (.binOp .neq t (.tmp 0) (.tmp 1) t') T [.string a,.string b] = pureM (.bool (!decide (a = b))):=by
 funext K w
 exact oM_nes_tt t t' T a b
@[go_sem] theorem oM_not' (t T:TypeId) (b:Bool):oM P (.unOp .not t (.tmp 0)) T [.bool b] = pureM (.bool (!b)):=by
 funext K w
 exact oM_not t T b
@[go_sem] theorem oM_extract2_0' (T:TypeId) (a b:Value):oM P (.extract (.tmp 0) 0) T [.tuple #[a,b]] = pureM a:=by
 funext K w
 exact oM_extract2_0 T a b
@[go_sem] theorem oM_extract2_1' (T:TypeId) (a b:Value):oM P (.extract (.tmp 0) 1) T [.tuple #[a,b]] = pureM b:=by
 funext K w
 exact oM_extract2_1 T a b
@[go_sem] theorem oM_extract3_0' (T:TypeId) (a b c:Value):oM P (.extract (.tmp 0) 0) T [.tuple #[a,b,c]] = pureM a:=by
 funext K w
 exact oM_extract3_0 T a b c
@[go_sem] theorem oM_extract3_1' (T:TypeId) (a b c:Value):oM P (.extract (.tmp 0) 1) T [.tuple #[a,b,c]] = pureM b:=by
 funext K w
 exact oM_extract3_1 T a b c
@[go_sem] theorem oM_extract3_2' (T:TypeId) (a b c:Value):oM P (.extract (.tmp 0) 2) T [.tuple #[a,b,c]] = pureM c:=by
 funext K w
 exact oM_extract3_2 T a b c
@[go_sem] theorem oM_len_string' (t T:TypeId) (s:ByteArray) (h:P.underlying t = some .string):oM P (.call { callee:=.builtin .len,args:=#[.tmp 0],argTypes:=#[t] }) T [.string s] = pureM (.int .i64 s.size):=by
 funext K w
 exact oM_len_string t T s h
def byteAt (s:ByteArray) (n:Nat):UInt8:=s.data.toList.getD n 0
theorem byteAt_get (s:ByteArray) (n:Nat) (h:n < s.size):byteAt s n = s[n]:=by
 unfold byteAt
 have h':n < s.data.toList.length:=by simpa using h
 rw [List.getD_eq_getElem?_getD,List.getElem?_eq_getElem h']
 rfl
def onM (p:Prop) (v:Value) (K:Value → World → Prop) (w:World):Prop:=p ∧ K v w
@[go_sem] theorem onM_eq (p:Prop) (v:Value):onM p v K w = (p ∧ K v w):=rfl
@[go_sem] theorem oM_index_string' (t T:TypeId) (s:ByteArray) (i:Int) (h:P.underlying t = some .string):oM P (.index t (.tmp 0) (.tmp 1)) T [.string s,.int .i64 i] = onM (0 ≤ i ∧ i.toNat < s.size) (.int .u8 (byteAt s i.toNat).toNat):=by
 funext K w
 rw [oM_index_string t T s i h]
 exact propext ⟨fun ⟨h,hk⟩=>⟨h,by rw [byteAt_get _ _ h.2]; exact hk⟩,fun ⟨h,hk⟩=>⟨h,by rw [byteAt_get _ _ h.2] at hk; exact hk⟩⟩
@[go_sem] theorem oM_slice_from' (t T:TypeId) (s:ByteArray) (i:Int) (h:P.underlying t = some .string):oM P (.slice t (.tmp 0) (some (.tmp 1)) none none) T [.string s,.int .i64 i] = onM (0 ≤ i ∧ i ≤ s.size) (.string (s.extract i.toNat s.size)):=by
 funext K w
 exact oM_slice_from t T s i h
@[go_sem] theorem oM_slice_to' (t T:TypeId) (s:ByteArray) (i:Int) (h:P.underlying t = some .string):oM P (.slice t (.tmp 0) none (some (.tmp 1)) none) T [.string s,.int .i64 i] = onM (0 ≤ i ∧ i ≤ s.size) (.string (s.extract 0 i.toNat)):=by
 funext K w
 exact oM_slice_to t T s i h
@[go_sem] theorem oM_slice_both' (t T:TypeId) (s:ByteArray) (i j:Int) (h:P.underlying t = some .string):oM P (.slice t (.tmp 0) (some (.tmp 1)) (some (.tmp 2)) none) T [.string s,.int .i64 i,.int .i64 j] = onM (0 ≤ i ∧ i ≤ j ∧ j ≤ s.size) (.string (s.extract i.toNat j.toNat)):=by
 funext K w
 exact oM_slice_both t T s i j h
theorem gdM_dec {p:Prop} [Decidable p] {m:(Value → World → Prop) → World → Prop} (h1:p → m K w) (h2:¬p → K undef w):gdM (decide p) m K w:=by
 by_cases h:p
 ·rw [decide_eq_true h]; exact h1 h
 ·rw [decide_eq_false h]; exact h2 h
theorem gdM_ndec {p:Prop} [Decidable p] {m:(Value → World → Prop) → World → Prop} (h1:p → K undef w) (h2:¬p → m K w):gdM (!decide p) m K w:=by
 by_cases h:p
 ·rw [decide_eq_true h]; exact h1 h
 ·rw [decide_eq_false h]; exact h2 h
theorem gdM_bool {b:Bool} {m:(Value → World → Prop) → World → Prop} (h1:b = true → m K w) (h2:b = false → K undef w):gdM b m K w:=by
 cases b
 ·exact h2 rfl
 ·exact h1 rfl
theorem condM_dec {p:Prop} [Decidable p] {A B:Prop} (h1:p → A) (h2:¬p → B):condM (.bool (decide p)) A B:=⟨decide p,rfl,fun h=>h1 (of_decide_eq_true h),fun h=>h2 (of_decide_eq_false h)⟩
theorem condM_ndec {p:Prop} [Decidable p] {A B:Prop} (h1:p → B) (h2:¬p → A):condM (.bool (!decide p)) A B:=⟨!decide p,rfl,fun h=>h2 (by simpa using h),fun h=>h1 (by simpa using h)⟩
theorem condM_b {b:Bool} {A B:Prop} (h1:b = true → A) (h2:b = false → B):condM (.bool b) A B:=⟨b,rfl,h1,h2⟩
@[go_sem] theorem condM_true (A B:Prop):condM (.bool true) A B = A:=propext ⟨fun ⟨_,h,ha,_⟩=>by cases h; exact ha rfl,fun h=>⟨true,rfl,fun _=>h,fun e=>(by cases e)⟩⟩
@[go_sem] theorem condM_false (A B:Prop):condM (.bool false) A B = B:=propext ⟨fun ⟨_,h,_,hb⟩=>by cases h; exact hb rfl,fun h=>⟨false,rfl,fun e=>(by cases e),fun _=>h⟩⟩
attribute [go_sem] cond_true cond_false decide_true decide_false Bool.not_true Bool.not_false
@[go_sem] theorem gd_undef (b:Bool):gd undef b = false:=by cases b <;> rfl
theorem wrapI64 (x:Int) (h1:-9223372036854775808 ≤ x) (h2:x ≤ 9223372036854775807):IntKind.i64.wrap x = x:=by
 unfold IntKind.wrap
 simp only [IntKind.bits,IntKind.signed]
 simp
 omega
theorem wrapU8 (x:Int) (h1:0 ≤ x) (h2:x ≤ 255):IntKind.u8.wrap x = x:=by
 unfold IntKind.wrap
 simp only [IntKind.bits,IntKind.signed]
 simp
 omega
theorem wrapU32 (x:Int) (h1:0 ≤ x) (h2:x ≤ 4294967295):IntKind.u32.wrap x = x:=by
 unfold IntKind.wrap
 simp only [IntKind.bits,IntKind.signed]
 simp
 omega
theorem wrapU64 (x:Int) (h1:0 ≤ x) (h2:x ≤ 18446744073709551615):IntKind.u64.wrap x = x:=by
 unfold IntKind.wrap
 simp only [IntKind.bits,IntKind.signed]
 simp
 omega
attribute [go_sem] Int.toNat_natCast
def rM (r:Result Value) (K:Value → World → Prop):Prop:=match r with
 | .ok v w'=>K v w'
 | .halt _ _=>False
def uM (r:Result Unit) (K:Value → World → Prop):Prop:=match r with
 | .ok _ w'=>K undef w'
 | .halt _ _=>False
@[go_sem] theorem rM_ok (v:Value) (w':World):rM (.ok v w') K = K v w':=rfl
@[go_sem] theorem uM_ok (w':World):uM (.ok () w') K = K undef w':=rfl
theorem oM_unit {S:Sem Unit} {o:Op} {T:TypeId} {args:List Value} (hx:xop o T args = (do S; pure .skip)):oM P o T args K w = uM (S.run P w) K:=by
 unfold oM opM uM
 rw [hx,Sem.run_bind]
 generalize S.run P w = r
 cases r with
 | ok v w'=>rfl
 | halt h w'=>rfl
@[go_sem] theorem oM_alloc (T:TypeId) (t:TypeId):oM P (.alloc t) T [] K w = rM ((Instr.alloc t true (.tuple #[])).run P w) K:=by
 rw [oM_value (S:=Instr.alloc t true (.tuple #[])) rfl]
 unfold rM
 generalize (Instr.alloc t true (.tuple #[])).run P w = r
 cases r with
 | ok v w'=>exact ok_iff
 | halt h w'=>exact halt_iff
@[go_sem] theorem oM_box (T:TypeId) (t:TypeId) (x:Value):oM P (.box t (.tmp 0)) T [x] K w = rM ((Instr.box t x).run P w) K:=by
 rw [oM_value (S:=Instr.box t x) rfl]
 unfold rM
 generalize (Instr.box t x).run P w = r
 cases r with
 | ok v w'=>exact ok_iff
 | halt h w'=>exact halt_iff
@[go_sem] theorem oM_load (T:TypeId) (t:TypeId) (x:Value):oM P (.load t (.tmp 0)) T [x] K w = rM ((Instr.loadAt t x).run P w) K:=by
 rw [oM_value (S:=Instr.loadAt t x) rfl]
 unfold rM
 generalize (Instr.loadAt t x).run P w = r
 cases r with
 | ok v w'=>exact ok_iff
 | halt h w'=>exact halt_iff
@[go_sem] theorem oM_store (T:TypeId) (t:TypeId) (x y:Value):oM P (.store t (.tmp 0) (.tmp 1)) T [x,y] K w = uM ((Instr.storeAt t x y).run P w) K:=by
 rw [oM_unit (S:=Instr.storeAt t x y) rfl]
@[go_sem] theorem oM_fieldAddr (T:TypeId) (t:TypeId) (x:Value) (f:Nat):oM P (.fieldAddr t (.tmp 0) f) T [x] K w = rM ((Instr.fieldAt t x f).run P w) K:=by
 rw [oM_value (S:=Instr.fieldAt t x f) rfl]
 unfold rM
 generalize (Instr.fieldAt t x f).run P w = r
 cases r with
 | ok v w'=>exact ok_iff
 | halt h w'=>exact halt_iff
@[go_sem] theorem oM_field (T:TypeId) (t:TypeId) (x:Value) (f:Nat):oM P (.field t (.tmp 0) f) T [x] K w = rM ((Instr.field t x f).run P w) K:=by
 rw [oM_value (S:=Instr.field t x f) rfl]
 unfold rM
 generalize (Instr.field t x f).run P w = r
 cases r with
 | ok v w'=>exact ok_iff
 | halt h w'=>exact halt_iff
theorem oM_indexAddr (T:TypeId) (t:TypeId) (x i:Value):oM P (.indexAddr t (.tmp 0) (.tmp 1)) T [x,i] K w = rM ((Instr.indexAt t x i).run P w) K:=by
 rw [oM_value (S:=Instr.indexAt t x i) rfl]
 unfold rM
 generalize (Instr.indexAt t x i).run P w = r
 cases r with
 | ok v w'=>exact ok_iff
 | halt h w'=>exact halt_iff
@[go_sem] theorem oM_index_agg (T:TypeId) (t:TypeId) (cs:Array Value) (i:Value):oM P (.index t (.tmp 0) (.tmp 1)) T [.agg cs,i] K w = rM ((Instr.index t (.agg cs) i).run P w) K:=by
 rw [oM_value (S:=Instr.index t (.agg cs) i) rfl]
 unfold rM
 generalize (Instr.index t (.agg cs) i).run P w = r
 cases r with
 | ok v w'=>exact ok_iff
 | halt h w'=>exact halt_iff
@[go_sem] theorem oM_convert (T:TypeId) (s d:TypeId) (x:Value):oM P (.convert s d (.tmp 0)) T [x] K w = rM ((convert s d x).run P w) K:=by
 rw [oM_value (S:=convert s d x) rfl]
 unfold rM
 generalize (convert s d x).run P w = r
 cases r with
 | ok v w'=>exact ok_iff
 | halt h w'=>exact halt_iff
@[go_sem] theorem oM_build0 (T:TypeId) (t:TypeId):oM P (.build t #[]) T [] K w = rM ((Instr.build t #[]).run P w) K:=by
 rw [oM_value (S:=Instr.build t #[]) (by simp [xop,execOp,evalL,evE])]
 unfold rM
 generalize (Instr.build t #[]).run P w = r
 cases r with
 | ok v w'=>exact ok_iff
 | halt h w'=>exact halt_iff
@[go_sem] theorem oM_build1 (T:TypeId) (t:TypeId) (i0:Nat) (v0:Value):oM P (.build t #[(i0,.tmp 0)]) T [v0] K w = rM ((Instr.build t #[(i0,v0)]).run P w) K:=by
 rw [oM_value (S:=Instr.build t #[(i0,v0)]) (by simp [xop,execOp,evalL,evE])]
 unfold rM
 generalize (Instr.build t #[(i0,v0)]).run P w = r
 cases r with
 | ok v w'=>exact ok_iff
 | halt h w'=>exact halt_iff
@[go_sem] theorem oM_build2 (T:TypeId) (t:TypeId) (i0 i1:Nat) (v0 v1:Value):oM P (.build t #[(i0,.tmp 0),(i1,.tmp 1)]) T [v0,v1] K w = rM ((Instr.build t #[(i0,v0),(i1,v1)]).run P w) K:=by
 rw [oM_value (S:=Instr.build t #[(i0,v0),(i1,v1)]) (by simp [xop,execOp,evalL,evE])]
 unfold rM
 generalize (Instr.build t #[(i0,v0),(i1,v1)]).run P w = r
 cases r with
 | ok v w'=>exact ok_iff
 | halt h w'=>exact halt_iff
@[go_sem] theorem oM_build3 (T:TypeId) (t:TypeId) (i0 i1 i2:Nat) (v0 v1 v2:Value):oM P (.build t #[(i0,.tmp 0),(i1,.tmp 1),(i2,.tmp 2)]) T [v0,v1,v2] K w = rM ((Instr.build t #[(i0,v0),(i1,v1),(i2,v2)]).run P w) K:=by
 rw [oM_value (S:=Instr.build t #[(i0,v0),(i1,v1),(i2,v2)]) (by simp [xop,execOp,evalL,evE])]
 unfold rM
 generalize (Instr.build t #[(i0,v0),(i1,v1),(i2,v2)]).run P w = r
 cases r with
 | ok v w'=>exact ok_iff
 | halt h w'=>exact halt_iff
@[go_sem] theorem oM_build4 (T:TypeId) (t:TypeId) (i0 i1 i2 i3:Nat) (v0 v1 v2 v3:Value):oM P (.build t #[(i0,.tmp 0),(i1,.tmp 1),(i2,.tmp 2),(i3,.tmp 3)]) T [v0,v1,v2,v3] K w = rM ((Instr.build t #[(i0,v0),(i1,v1),(i2,v2),(i3,v3)]).run P w) K:=by
 rw [oM_value (S:=Instr.build t #[(i0,v0),(i1,v1),(i2,v2),(i3,v3)]) (by simp [xop,execOp,evalL,evE])]
 unfold rM
 generalize (Instr.build t #[(i0,v0),(i1,v1),(i2,v2),(i3,v3)]).run P w = r
 cases r with
 | ok v w'=>exact ok_iff
 | halt h w'=>exact halt_iff
@[go_sem] theorem oM_build5 (T:TypeId) (t:TypeId) (i0 i1 i2 i3 i4:Nat) (v0 v1 v2 v3 v4:Value):oM P (.build t #[(i0,.tmp 0),(i1,.tmp 1),(i2,.tmp 2),(i3,.tmp 3),(i4,.tmp 4)]) T [v0,v1,v2,v3,v4] K w = rM ((Instr.build t #[(i0,v0),(i1,v1),(i2,v2),(i3,v3),(i4,v4)]).run P w) K:=by
 rw [oM_value (S:=Instr.build t #[(i0,v0),(i1,v1),(i2,v2),(i3,v3),(i4,v4)]) (by simp [xop,execOp,evalL,evE])]
 unfold rM
 generalize (Instr.build t #[(i0,v0),(i1,v1),(i2,v2),(i3,v3),(i4,v4)]).run P w = r
 cases r with
 | ok v w'=>exact ok_iff
 | halt h w'=>exact halt_iff
@[go_sem] theorem oM_build6 (T:TypeId) (t:TypeId) (i0 i1 i2 i3 i4 i5:Nat) (v0 v1 v2 v3 v4 v5:Value):oM P (.build t #[(i0,.tmp 0),(i1,.tmp 1),(i2,.tmp 2),(i3,.tmp 3),(i4,.tmp 4),(i5,.tmp 5)]) T [v0,v1,v2,v3,v4,v5] K w = rM ((Instr.build t #[(i0,v0),(i1,v1),(i2,v2),(i3,v3),(i4,v4),(i5,v5)]).run P w) K:=by
 rw [oM_value (S:=Instr.build t #[(i0,v0),(i1,v1),(i2,v2),(i3,v3),(i4,v4),(i5,v5)]) (by simp [xop,execOp,evalL,evE])]
 unfold rM
 generalize (Instr.build t #[(i0,v0),(i1,v1),(i2,v2),(i3,v3),(i4,v4),(i5,v5)]).run P w = r
 cases r with
 | ok v w'=>exact ok_iff
 | halt h w'=>exact halt_iff
theorem oM_gen {o:Op} {T:TypeId} {args:List Value} (h:∀ K':Value → World → Prop,(∀ v w,K v w → K' v w) → oM P o T args K' w):oM P o T args K w:=h K (fun _ _ h=>h)
theorem pureM_in {v:Value} (h:K v w):pureM v K w:=h
section
variable {m:(Value → World → Prop) → World → Prop} {p:Prop} [Decidable p] {b:Bool} {A B:Prop} {x y:Value} {T:TypeId}
theorem gdt_pos (h:p) (k:m K w):gdM (gd (.bool (decide p)) true) m K w:=by rw [gd_true,decide_eq_true h]; exact k
theorem gdt_neg (h:¬p) (k:K undef w):gdM (gd (.bool (decide p)) true) m K w:=by rw [gd_true,decide_eq_false h]; exact k
theorem gdt_split (h1:p → m K w) (h2:¬p → K undef w):gdM (gd (.bool (decide p)) true) m K w:=by rw [gd_true]; exact gdM_dec h1 h2
theorem gdf_pos (h:¬p) (k:m K w):gdM (gd (.bool (decide p)) false) m K w:=by rw [gd_false,decide_eq_false h]; exact k
theorem gdf_neg (h:p) (k:K undef w):gdM (gd (.bool (decide p)) false) m K w:=by rw [gd_false,decide_eq_true h]; exact k
theorem gdf_split (h1:p → K undef w) (h2:¬p → m K w):gdM (gd (.bool (decide p)) false) m K w:=by rw [gd_false]; exact gdM_ndec h1 h2
theorem gdtn_pos (h:¬p) (k:m K w):gdM (gd (.bool (!decide p)) true) m K w:=by rw [gd_true,decide_eq_false h]; exact k
theorem gdtn_neg (h:p) (k:K undef w):gdM (gd (.bool (!decide p)) true) m K w:=by rw [gd_true,decide_eq_true h]; exact k
theorem gdfn_pos (h:p) (k:m K w):gdM (gd (.bool (!decide p)) false) m K w:=by rw [gd_false,decide_eq_true h]; exact k
theorem gdfn_neg (h:¬p) (k:K undef w):gdM (gd (.bool (!decide p)) false) m K w:=by rw [gd_false,decide_eq_false h]; exact k
theorem gdfn_split (h1:p → m K w) (h2:¬p → K undef w):gdM (gd (.bool (!decide p)) false) m K w:=by rw [gd_false,Bool.not_not]; exact gdM_dec h1 h2
theorem gdtb_pos (h:b = true) (k:m K w):gdM (gd (.bool b) true) m K w:=by rw [gd_true,h]; exact k
theorem gdtb_neg (h:b = false) (k:K undef w):gdM (gd (.bool b) true) m K w:=by rw [gd_true,h]; exact k
theorem gdtb_split (h1:b = true → m K w) (h2:b = false → K undef w):gdM (gd (.bool b) true) m K w:=by rw [gd_true]; exact gdM_bool h1 h2
theorem gdtbn_neg (h:b = true) (k:K undef w):gdM (gd (.bool (!b)) true) m K w:=by rw [gd_true,h]; exact k
theorem gdtT (k:m K w):gdM (gd (.bool true) true) m K w:=k
theorem gdtF (k:K undef w):gdM (gd (.bool false) true) m K w:=k
theorem gdfF (k:m K w):gdM (gd (.bool false) false) m K w:=k
theorem gdfT (k:K undef w):gdM (gd (.bool true) false) m K w:=k
theorem pick_pos (h:p) (k:K x w):oM P (.pick (.tmp 0) (.tmp 1) (.tmp 2)) T [.bool (decide p),x,y] K w:=by rw [oM_pick,decide_eq_true h]; exact k
theorem pick_neg (h:¬p) (k:K y w):oM P (.pick (.tmp 0) (.tmp 1) (.tmp 2)) T [.bool (decide p),x,y] K w:=by rw [oM_pick,decide_eq_false h]; exact k
theorem pickn_pos (h:¬p) (k:K x w):oM P (.pick (.tmp 0) (.tmp 1) (.tmp 2)) T [.bool (!decide p),x,y] K w:=by rw [oM_pick,decide_eq_false h]; exact k
theorem pickn_neg (h:p) (k:K y w):oM P (.pick (.tmp 0) (.tmp 1) (.tmp 2)) T [.bool (!decide p),x,y] K w:=by rw [oM_pick,decide_eq_true h]; exact k
theorem pickb_pos (h:b = true) (k:K x w):oM P (.pick (.tmp 0) (.tmp 1) (.tmp 2)) T [.bool b,x,y] K w:=by rw [oM_pick,h]; exact k
theorem pickb_neg (h:b = false) (k:K y w):oM P (.pick (.tmp 0) (.tmp 1) (.tmp 2)) T [.bool b,x,y] K w:=by rw [oM_pick,h]; exact k
theorem pickT (k:K x w):oM P (.pick (.tmp 0) (.tmp 1) (.tmp 2)) T [.bool true,x,y] K w:=by rw [oM_pick]; exact k
theorem pickF (k:K y w):oM P (.pick (.tmp 0) (.tmp 1) (.tmp 2)) T [.bool false,x,y] K w:=by rw [oM_pick]; exact k
theorem cond_pos (h:p) (k:A):condM (.bool (decide p)) A B:=condM_dec (fun _=>k) (fun h'=>absurd h h')
theorem cond_neg (h:¬p) (k:B):condM (.bool (decide p)) A B:=condM_dec (fun h'=>absurd h' h) (fun _=>k)
theorem condn_pos (h:¬p) (k:A):condM (.bool (!decide p)) A B:=condM_ndec (fun h'=>absurd h' h) (fun _=>k)
theorem condn_neg (h:p) (k:B):condM (.bool (!decide p)) A B:=condM_ndec (fun _=>k) (fun h'=>absurd h h')
theorem condb_pos (h:b = true) (k:A):condM (.bool b) A B:=condM_b (fun _=>k) (fun h'=>absurd (h.symm.trans h') (by simp))
theorem condb_neg (h:b = false) (k:B):condM (.bool b) A B:=condM_b (fun h'=>absurd (h.symm.trans h') (by simp)) (fun _=>k)
theorem condbn_split (h1:b = true → B) (h2:b = false → A):condM (.bool (!b)) A B:=by
 cases b
 ·exact condb_pos rfl (h2 rfl)
 ·exact condb_neg rfl (h1 rfl)
theorem condT (k:A):condM (.bool true) A B:=condb_pos rfl k
theorem condF (k:B):condM (.bool false) A B:=condb_neg rfl k
end
theorem oM_callv {f:FuncId} {o:Op} {T:TypeId} {args:List Value} (xs:Array Value) (hb:isBody P f = true) (hx:xop o T args = callFunc f xs) (h:callM P f xs K w):oM P o T args K w:=by
 unfold oM opM
 rw [hx,isBody_run hb]
 exact h
theorem oM_callv1 {f:FuncId} {fs cs:Array Value} {T:TypeId} {ts:Array TypeId} {x:Value} (hb:isBody P f = true) (h:callM P f (fs ++ #[x] ++ cs) K w):oM P (.call { callee:=.value (.tmp 0),args:=#[.tmp 1],argTypes:=ts }) T [.func (.func f) fs cs,x] K w:=
 oM_callv _ hb (by simp [xop,execOp,evalL,evE,resolve,Deferred.ofValue,invoke]) h
@[go_sem] theorem oM_nilCheck (T:TypeId) (a:Addr):oM P (.nilCheck (.tmp 0)) T [.pointer (some a)] K w = K (.pointer (some a)) w:=oM_of_run rfl
theorem rM_of {S:Sem Value} {o:Op} {T:TypeId} {args:List Value} (hx:xop o T args = (do let v ← S; pure (.value v))):oM P o T args K w = rM (S.run P w) K:=by
 rw [oM_value hx]
 unfold rM
 generalize S.run P w = r
 cases r with
 | ok v w'=>exact ok_iff
 | halt h w'=>exact halt_iff
theorem oM_eqc (t t' T:TypeId) (x c:Value):oM P (.binOp .eql t (.tmp 0) (.const c) t') T [x] K w = rM ((do eqGuard .eql t (.tmp 0) (.const c) x c; binOp .eql t x c:Sem Value).run P w) K:=rM_of rfl
theorem oM_nec (t t' T:TypeId) (x c:Value):oM P (.binOp .neq t (.tmp 0) (.const c) t') T [x] K w = rM ((do eqGuard .neq t (.tmp 0) (.const c) x c; binOp .neq t x c:Sem Value).run P w) K:=rM_of rfl
theorem oM_net (t t' T:TypeId) (x y:Value):oM P (.binOp .neq t (.tmp 0) (.tmp 1) t') T [x,y] K w = rM ((do eqGuard .neq t (.tmp 0) (.tmp 1) x y; binOp .neq t x y:Sem Value).run P w) K:=rM_of rfl
@[go_sem] theorem oM_buildSlice1 (T t i0:Nat) (x:Value) (n:Nat):oM P (.buildSlice t n #[(i0,.tmp 0)]) T [x] K w = rM ((Instr.buildSlice t n #[(i0,x)]).run P w) K:=rM_of (by simp [xop,execOp,evalL,evE])
end
end Go.Sh
namespace Go.Sh
open Go Go.RowKit
variable {P:Program} {K:Value → World → Prop} {w:World}
theorem grownBy_trans {w a b:World} {row:Option Nat} (h:w.grownBy a row) (k:a.grownBy b row):w.grownBy b row:=
 ⟨k.os.trans h.os,k.tape.trans h.tape,k.output.trans h.output,Nat.le_trans h.size k.size,fun i hi hr=>(k.block i (Nat.lt_of_lt_of_le hi h.size) hr).trans (h.block i hi hr)⟩
theorem oM_append_new {t ty e base n:Nat} {i:TypeInfo} {z v:Value} {cs:Array Value} {xs:List Value} (hu:P.underlying t = some (.slice e)) (hi:P.info? e = some i) (hz:i.zero = some z)
  (hsz:i.size = cs.size) (hzs:z.cells.size = cs.size) (hpos:0 < cs.size) (h1:∀ u ∈ cs.toList,u.oneCell' = true) (hown:w.ownsRow base e cs.size v n xs) (hbase:base ≤ w.heap.size)
  (hn:n + 1 ≤ maxLen) (hb:(n + 1) * i.bytes ≤ 140737488355328)
  (k:∀ v' w',w'.ownsRow base e cs.size v' (n + 1) (xs ++ cs.toList) → w.grownBy w' v.ownBlock → K v' w') :
  oM P (.call { callee:=.builtin .append,args:=#[.tmp 0,.tmp 1],argTypes:=#[t,t] }) ty [v,.slice (some ⟨w.heap.size,0,none⟩) 1 1] K (w.alloc (.cells cs e)):=by
 obtain ⟨v',w',hrun,ho,hg,_⟩:=run_append_own (P:=P) (w:=w.alloc (.cells cs e)) base t ty e i z cs.size i.bytes hu hi hz hsz rfl hzs hpos v n xs (hown.alloc _)
  ⟨w.heap.size,0,none⟩ 1 1 cs.toList (by simp) (by
   intro j u hj
   have hh:(w.alloc (.cells cs e)).heap[w.heap.size]? = some (.cells cs e):=by
    show (w.heap.push _)[w.heap.size]? = _
    simp
   have ha:(⟨w.heap.size,0,none⟩:Addr).add j = ⟨w.heap.size,j,none⟩:=by
    unfold Addr.add
    split
    ·rename_i h0; rw [h0]
    ·simp
   rw [ha]
   unfold World.cell?
   rw [hh]
   simpa using hj) h1 hn hb (by simp; omega)
 rw [oM_value (S:=Builtin.append_ #[t,t] ty #[v,.slice (some ⟨w.heap.size,0,none⟩) 1 1]) (by simp [xop,execOp,evalL,evE,resolve,invoke,builtin]),hrun,ok_iff]
 exact k v' w' ho (grownBy_trans (World.grownBy_alloc w _ _) hg)
@[go_sem] theorem oM_len_slice' (t T:TypeId) (a:Option Addr) (n c:Nat) (h:P.underlying t = some (.slice (P.elem t))):oM P (.call { callee:=.builtin .len,args:=#[.tmp 0],argTypes:=#[t] }) T [.slice a n c] = pureM (.int .i64 n):=by
 funext K w
 have hr:=run_len_slice (P:=P) (w:=w) t T a n c h
 rw [oM_value (S:=Builtin.len_ #[t] T #[.slice a n c]) (by simp [xop,execOp,evalL,evE,resolve,invoke,builtin]),hr,ok_iff]
 rfl
end Go.Sh
namespace Go.Sh
open Go Go.RowKit
variable {P:Program} {w W0:World}
theorem quietM_one {body:(World → Prop) → Prop} (h:body (fun w'=>w' = { w with drawn:=w.drawn + 1 })):quietM w body:=
 ⟨fun w'=>w' = { w with drawn:=w.drawn + 1 },rfl,h⟩
theorem oQ_one {o:Op} {T:TypeId} {args:List Value} {K:Value → Prop} (hx:∃ S:Sem Value,xop o T args = (do let v ← S; pure (.value v))) (h:oM P o T args (fun v w'=>w' = W0 ∧ K v) W0):oQ P o T args (fun w=>w = W0) K:=by
 obtain ⟨S,hx⟩:=hx
 rw [oM_value hx] at h
 obtain ⟨v,w',hr,rfl,hk⟩:=h
 refine ⟨v,?_,hk⟩
 rintro w rfl
 rw [hx,Sem.run_bind,hr]
 exact ⟨rfl,rfl⟩
theorem pickQ {b:Bool} {x y:Value} {T:TypeId} {C:World → Prop} {K:Value → Prop} (k:K (bif b then x else y)):oQ P (.pick (.tmp 0) (.tmp 1) (.tmp 2)) T [.bool b,x,y] C K:=by
 refine ⟨_,fun w _=>?_,k⟩
 simp [xop,execOp,evalL,evE,asBool]
 cases b <;> exact ⟨rfl,rfl⟩
theorem gdQ_conv {g:Bool} {m:(World → Prop) → (Value → Prop) → Prop} {K:Value → Prop} {C:World → Prop} (h:∀ W0,gdM g (fun K' w=>m C (fun v=>K' v w)) (fun v _=>K v) W0):gdQ g m C K:=by
 have h:=h ⟨#[],default,0,default,default⟩
 cases g <;> exact h
theorem forall_one {W0:World} {F:World → Prop} (h:F W0):∀ w,(fun w'=>w' = W0) w → F w:=by rintro w rfl; exact h
section
variable {p:Prop} [Decidable p] {b:Bool} {x y:Value} {T:TypeId} {C:World → Prop} {K:Value → Prop}
theorem pickQn_pos (h:¬p) (k:K x):oQ P (.pick (.tmp 0) (.tmp 1) (.tmp 2)) T [.bool (!decide p),x,y] C K:=pickQ (by rw [decide_eq_false h]; exact k)
theorem pickQn_neg (h:p) (k:K y):oQ P (.pick (.tmp 0) (.tmp 1) (.tmp 2)) T [.bool (!decide p),x,y] C K:=pickQ (by rw [decide_eq_true h]; exact k)
theorem pickQT (k:K x):oQ P (.pick (.tmp 0) (.tmp 1) (.tmp 2)) T [.bool true,x,y] C K:=pickQ k
theorem pickQF (k:K y):oQ P (.pick (.tmp 0) (.tmp 1) (.tmp 2)) T [.bool false,x,y] C K:=pickQ k
end
theorem pureQ_in {v:Value} {C:World → Prop} {K:Value → Prop} (h:K v):pureQ v C K:=h
end Go.Sh
namespace Go.Sh
open Go
variable {P:Program} {K:Value → World → Prop} {w:World}
@[go_sem] theorem oM_adds (t t' T:TypeId) (a b:ByteArray):oM P (.binOp .add t (.tmp 0) (.tmp 1) t') T [.string a,.string b] K w = (a.size + b.size ≤ 9223372036854775807 ∧ K (.string (a ++ b)) w):=by
 simp [oM,opM,xop,evalL,evE,go_sem]
 by_cases h:9223372036854775807 < a.size + b.size
 ·rw [if_pos h]
  simp
  omega
 ·rw [if_neg h]
  simp
  exact fun _=>by omega
@[go_sem] theorem oM_neb (t t' T:TypeId) (a b:Bool) (h:P.underlying t = some .bool):oM P (.binOp .neq t (.tmp 0) (.tmp 1) t') T [.bool a,.bool b] = pureM (.bool (!decide (a = b))):=by
 funext K w
 simp [oM,opM,xop,evalL,evE,go_sem,run_neq_bool (P:=P) (w:=w) t a b h]
 cases a <;> cases b <;> rfl
@[go_sem] theorem oM_eqb (t t' T:TypeId) (a b:Bool) (h:P.underlying t = some .bool):oM P (.binOp .eql t (.tmp 0) (.tmp 1) t') T [.bool a,.bool b] = pureM (.bool (decide (a = b))):=by
 funext K w
 simp [oM,opM,xop,evalL,evE,go_sem,run_eql_bool (P:=P) (w:=w) t a b h]
 cases a <;> cases b <;> rfl
theorem ba_append (x y:List UInt8):(⟨x.toArray⟩:ByteArray) ++ ⟨y.toArray⟩ = ⟨(x ++ y).toArray⟩:=by
 apply ByteArray.ext
 rw [ByteArray.data_append]
 simp
theorem ba_size (x:List UInt8):(⟨x.toArray⟩:ByteArray).size = x.length:=rfl
theorem ba_list (x:List UInt8):(⟨x.toArray⟩:ByteArray).data.toList = x:=rfl
end Go.Sh
namespace Go.Sh
open Go Go.RowKit
section
variable {P:Program} {w:World}
theorem oQ_of {o:Op} {T:TypeId} {args:List Value} {C:World → Prop} {K:Value → Prop} {v:Value} (hx:∃ S:Sem Value,xop o T args = (do let v ← S; pure (.value v))) (h:∀ w,C w → oM P o T args (fun v' w'=>v' = v ∧ w' = w) w) (k:K v):oQ P o T args C K:=by
 obtain ⟨S,hx⟩:=hx
 refine ⟨v,fun w hw=>?_,k⟩
 have:=h w hw
 rw [oM_value hx] at this
 obtain ⟨v',w',hr,rfl,rfl⟩:=this
 rw [hx,Sem.run_bind,hr]
 exact ⟨rfl,rfl⟩
theorem oQ_nil {a:Addr} {T:TypeId} {C:World → Prop} {K:Value → Prop} (k:K (.pointer (some a))):oQ P (.nilCheck (.tmp 0)) T [.pointer (some a)] C K:=
 ⟨_,fun w _=>by
  have:(xop (.nilCheck (.tmp 0)) T [.pointer (some a)]).run P w = .ok (.value (.pointer (some a))) w:=rfl
  rw [this]; exact ⟨rfl,rfl⟩,k⟩
theorem callQ_of {f:FuncId} {args:Array Value} {C:World → Prop} {K:Value → Prop} {v:Value} (h:∀ w,C w → callM P f args (fun v' w'=>v' = v ∧ C w') w) (k:K v):callQ P f args C K:=by
 refine ⟨v,fun w hw=>?_,k⟩
 exact Calls.mono (h w hw) (fun e w' ⟨v',he,hv,hc⟩=>⟨by rw [he,hv],hc⟩)
variable {K:Value → World → Prop}
@[go_sem] theorem oM_min (T:TypeId) (ts:Array TypeId) (k:IntKind) (a b:Int):oM P (.call { callee:=.builtin .min,args:=#[.tmp 0,.tmp 1],argTypes:=ts }) T [.int k a,.int k b] = pureM (.int k (min a b)):=by
 funext K w
 have hr:(Builtin.min_ ts T #[.int k a,.int k b]).run P w = .ok (.int k (min a b)) w:=by
  rw [run_min_int2]
  congr 2
  split <;> omega
 rw [oM_value (S:=Builtin.min_ ts T #[.int k a,.int k b]) (by simp [xop,execOp,evalL,evE,resolve,invoke,builtin]),hr,ok_iff]
 rfl
@[go_sem] theorem oM_max (T:TypeId) (ts:Array TypeId) (k:IntKind) (a b:Int):oM P (.call { callee:=.builtin .max,args:=#[.tmp 0,.tmp 1],argTypes:=ts }) T [.int k a,.int k b] = pureM (.int k (max a b)):=by
 funext K w
 have hr:(Builtin.max_ ts T #[.int k a,.int k b]).run P w = .ok (.int k (max a b)) w:=by
  rw [run_max_int2]
  congr 2
  split <;> omega
 rw [oM_value (S:=Builtin.max_ ts T #[.int k a,.int k b]) (by simp [xop,execOp,evalL,evE,resolve,invoke,builtin]),hr,ok_iff]
 rfl
theorem oM_callv0 {f:FuncId} {fs cs:Array Value} {T:TypeId} {ts:Array TypeId} (hb:isBody P f = true) (h:callM P f (fs ++ #[] ++ cs) K w):oM P (.call { callee:=.value (.tmp 0),args:=#[],argTypes:=ts }) T [.func (.func f) fs cs] K w:=
 oM_callv _ hb (by simp [xop,execOp,evalL,evE,resolve,Deferred.ofValue,invoke]) h
@[go_sem] theorem oM_quo (t t' T:TypeId) (k:IntKind) (a b:Int):oM P (.binOp .quo t (.tmp 0) (.tmp 1) t') T [.int k a,.int k b] = onM (b ≠ 0) (.int k (k.wrap (a.tdiv b))):=by
 funext K w
 by_cases hb:b = 0
 ·subst hb
  simp [oM,opM,xop,evalL,evE,go_sem,Op.intDiv]
 ·simp [oM,opM,xop,evalL,evE,go_sem,Op.intDiv,hb]
@[go_sem] theorem oM_rem (t t' T:TypeId) (k:IntKind) (a b:Int):oM P (.binOp .rem t (.tmp 0) (.tmp 1) t') T [.int k a,.int k b] = onM (b ≠ 0) (.int k (a.tmod b)):=by
 funext K w
 by_cases hb:b = 0
 ·subst hb
  simp [oM,opM,xop,evalL,evE,go_sem,Op.intDiv]
 ·simp [oM,opM,xop,evalL,evE,go_sem,Op.intDiv,hb]
@[go_sem] theorem oM_neg (t T:TypeId) (k:IntKind) (a:Int):oM P (.unOp .neg t (.tmp 0)) T [.int k a] = pureM (.int k (k.wrap (-a))):=by
 funext K w
 simp [oM,opM,xop,evalL,evE,go_sem]
@[go_sem] theorem oM_makeFunc1 (fn:Fn) (T:TypeId) (x:Value):oM P (.makeFunc fn #[.tmp 0] #[]) T [x] K w = K (.func fn #[x] #[]) w:=oM_of_run (by simp [xop,execOp,evalL,evE,Instr.makeFunc])
end
end Go.Sh
namespace Go.Sh
open Go Go.RowKit
section
variable {P:Program} {w:World} {K:Value → World → Prop}
@[go_sem] theorem oM_buildSlice2 (T t i0 i1:Nat) (x y:Value) (n:Nat):oM P (.buildSlice t n #[(i0,.tmp 0),(i1,.tmp 1)]) T [x,y] K w = rM ((Instr.buildSlice t n #[(i0,x),(i1,y)]).run P w) K:=rM_of (by simp [xop,execOp,evalL,evE])
@[go_sem] theorem oM_buildSlice3 (T t i0 i1 i2:Nat) (x y z:Value) (n:Nat):oM P (.buildSlice t n #[(i0,.tmp 0),(i1,.tmp 1),(i2,.tmp 2)]) T [x,y,z] K w = rM ((Instr.buildSlice t n #[(i0,x),(i1,y),(i2,z)]).run P w) K:=rM_of (by simp [xop,execOp,evalL,evE])
variable {C:(Nat → Bool) → World → Prop} {i:Nat} {ds:List Nat}
section
variable {C:World → Prop} {K:Value → Prop} {o:Op} {T:TypeId} {args:List Value} {v:Value}
theorem oH_of (hx:∃ S:Sem Value,xop o T args = (do let v ← S; pure (.value v))) (h:∀ w,C w → oM P o T args (fun v' w'=>v' = v ∧ w' = w) w) (k:K v):oH P o T args C K:=by
 obtain ⟨S,hx⟩:=hx
 refine ⟨v,fun w hw=>?_,k⟩
 have:=h w hw
 rw [oM_value hx] at this
 obtain ⟨v',w',hrun,rfl,rfl⟩:=this
 rw [hx,Sem.run_bind,hrun]
 rfl
theorem pureH_in (k:K v):pureH v C K:=k
end
end
end Go.Sh
namespace Go.Sh
open Go Go.RowKit
section
variable {κ α:Type} [DecidableEq κ]
end
section
variable {P:Program} {w:World}
end
end Go.Sh
namespace Go.Sh
open Go Go.RowKit
section
variable {κ α:Type} [DecidableEq κ]
theorem map_set (l:List (κ × α)) (k:κ) (v:α) (i:Nat) (hn:(l.map (·.1)).Nodup) {x:κ × α} (hi:l[i]? = some x) (hx:x.1 = k):l.map (fun x=>if x.1 = k then (k,v) else x) = l.set i (k,v):=by
 apply List.ext_getElem?
 intro j
 rw [List.getElem?_map,List.getElem?_set]
 by_cases hij:i = j
 ·subst hij
  have hlt:=(List.getElem?_eq_some_iff.1 hi).1
  rw [hi]
  simp [hx,hlt]
 ·rw [if_neg hij]
  cases hj:l[j]? with
  | none=>rfl
  | some y=>
   have:¬ y.1 = k:=by
    intro hy
    have h1:(l.map (·.1))[i]? = some k:=by rw [List.getElem?_map,hi]; simp [hx]
    have h2:(l.map (·.1))[j]? = some k:=by rw [List.getElem?_map,hj]; simp [hy]
    exact hij ((List.getElem?_inj (by have:=(List.getElem?_eq_some_iff.1 hi).1; simpa using this) hn).1 (h1.trans h2.symm))
   simp [this]
end
section
variable {P:Program} {w:World} {κ:Type} [DecidableEq κ] {mk:κ → Value}
def MapIs (mk:κ → Value) (w:World) (b:Nat) (l:List (κ × Value)):Prop:=
 ∃ es clock,w.heap[b]? = some (.map es clock) ∧ es.toList.map (fun e=>(e.key,e.val)) = l.map (fun x=>(mk x.1,x.2)) ∧ (l.map (·.1)).Nodup ∧ (es.toList.map (·.born)).Nodup ∧ ∀ e ∈ es.toList,e.born < clock
theorem MapIs.lt {b:Nat} {l:List (κ × Value)} (h:MapIs mk w b l):b < w.heap.size:=by
 obtain ⟨es,clock,hb,_⟩:=h
 exact (Array.getElem?_eq_some_iff.1 hb).1
theorem MapIs.of_block {w':World} {b:Nat} {l:List (κ × Value)} (h:MapIs mk w b l) (hb:w'.heap[b]? = w.heap[b]?):MapIs mk w' b l:=by
 obtain ⟨es,clock,h1,h2⟩:=h
 exact ⟨es,clock,by rw [hb]; exact h1,h2⟩
end
end Go.Sh
namespace Go.Sh
open Go Go.RowKit
section
variable {κ α:Type} [DecidableEq κ]
end
section
variable {P:Program} {w:World} {κ:Type} [DecidableEq κ] {mk:κ → Value}
theorem MapIs.alloc {b:Nat} {l:List (κ × Value)} (h:MapIs mk w b l) (o:Obj):MapIs mk (w.alloc o) b l:=h.of_block (heap_alloc_old w o h.lt)
omit [DecidableEq κ] in
theorem MapIs.copy {b:Nat} {l:List (κ × Value)} (h:MapIs mk w b l):∃ o,w.heap[b]? = some o ∧ MapIs mk (w.alloc o) w.heap.size l ∧ ∃ es c,o = .map es c:=by
 obtain ⟨es,clock,hb,h2⟩:=h
 exact ⟨_,hb,⟨es,clock,heap_alloc_new w _,h2⟩,_,_,rfl⟩
end
end Go.Sh
namespace Go.Sh
open Go Go.RowKit
section
variable {P:Program} {w:World} {κ:Type} [DecidableEq κ] {mk:κ → Value}
def Ranged (mk:κ → Value) (w:World) (it b:Nat) (l:List (κ × Value)) (ks done:List κ):Prop:=
 ∃ es clock seen f,w.heap[b]? = some (.map es clock) ∧ w.heap[it]? = some (.mapIter (some b) clock seen clock) ∧ es.toList.map (fun e=>(e.key,e.val)) = l.map (fun x=>(mk x.1,x.2)) ∧ es.toList.map (·.born) = (l.map (·.1)).map f ∧
  (l.map (·.1)).Nodup ∧ (∀ a ∈ ks,∀ c ∈ ks,f a = f c → a = c) ∧ (∀ a ∈ ks,f a < clock) ∧ seen.toList = done.reverse.map f ∧ (∀ a ∈ l.map (·.1),a ∈ ks) ∧ (∀ a ∈ done,a ∈ ks)
theorem nodup_map {α β:Type} (f:α → β) (l:List α) (hi:∀ a ∈ l,∀ c ∈ l,f a = f c → a = c) (hn:l.Nodup):(l.map f).Nodup:=by
 induction l with
 | nil=>simp
 | cons a l ih=>
  rw [List.nodup_cons] at hn
  rw [List.map_cons,List.nodup_cons]
  refine ⟨?_,ih (fun x hx y hy=>hi x (List.mem_cons_of_mem _ hx) y (List.mem_cons_of_mem _ hy)) hn.2⟩
  intro hm
  obtain ⟨c,hc,e⟩:=List.mem_map.1 hm
  have:=hi c (List.mem_cons_of_mem _ hc) a (List.mem_cons_self ..) e
  exact hn.1 (this ▸ hc)
omit [DecidableEq κ] in
theorem Ranged.map {it b:Nat} {l:List (κ × Value)} {ks done:List κ} (h:Ranged mk w it b l ks done):MapIs mk w b l:=by
 obtain ⟨es,clock,seen,f,h1,h2,h3,h4,h5,h6,h7,h8,h9,h10⟩:=h
 refine ⟨es,clock,h1,h3,h5,?_,?_⟩
 ·rw [h4]
  exact nodup_map f _ (fun a ha c hc=>h6 a (h9 a ha) c (h9 c hc)) h5
 ·intro e he
  have:e.born ∈ es.toList.map (·.born):=List.mem_map_of_mem he
  rw [h4] at this
  obtain ⟨a,ha,hb⟩:=List.mem_map.1 this
  rw [← hb]
  exact h7 a (h9 a ha)
omit [DecidableEq κ] in
theorem Ranged.lt {it b:Nat} {l:List (κ × Value)} {ks done:List κ} (h:Ranged mk w it b l ks done):b < w.heap.size ∧ it < w.heap.size ∧ b ≠ it:=by
 obtain ⟨es,clock,seen,f,h1,h2,h3⟩:=h
 refine ⟨(Array.getElem?_eq_some_iff.1 h1).1,(Array.getElem?_eq_some_iff.1 h2).1,?_⟩
 rintro rfl
 rw [h1] at h2; cases h2
end
end Go.Sh
namespace Go.Sh
open Go Go.RowKit
section
variable {P:Program} {K:Value → World → Prop} {w:World}
@[go_sem] theorem oM_lookup (t T:TypeId) (x i:Value):oM P (.lookup t (.tmp 0) (.tmp 1) false) T [x,i] K w = rM ((Instr.lookup t x i false).run P w) K:=rM_of rfl
@[go_sem] theorem oM_mapUpdate (t T:TypeId) (m k x:Value):oM P (.mapUpdate t (.tmp 0) (.tmp 1) (.tmp 2)) T [m,k,x] K w = uM ((Instr.mapUpdate t m k x).run P w) K:=by
 rw [oM_unit (S:=Instr.mapUpdate t m k x) rfl]
@[go_sem] theorem oM_mapEntry (t T:TypeId) (m k:Value):oM P (.mapEntry t (.tmp 0) (.tmp 1)) T [m,k] K w = rM ((Instr.mapEntry t m k).run P w) K:=rM_of rfl
@[go_sem] theorem oM_entryStore (t T:TypeId) (m s x:Value):oM P (.entryStore t (.tmp 0) (.tmp 1) (.tmp 2)) T [m,s,x] K w = uM ((Instr.entryStore t m s x).run P w) K:=by
 rw [oM_unit (S:=Instr.entryStore t m s x) rfl]
@[go_sem] theorem oM_makeMap (t T:TypeId):oM P (.makeMap t none) T [] K w = K (.map (some w.heap.size)) (w.alloc (.map #[] 0)):=by
 rw [rM_of (S:=Instr.makeMap t none) rfl,run_makeMap]
 rfl
@[go_sem] theorem oM_range (t T:TypeId) (x:Value):oM P (.range t (.tmp 0)) T [x] K w = rM ((Instr.range t x).run P w) K:=rM_of rfl
@[go_sem] theorem oM_next (T:TypeId) (s:Bool) (x:Value):oM P (.next (.tmp 0) s) T [x] K w = rM ((Instr.next x s T).run P w) K:=rM_of rfl
@[go_sem] theorem oM_entry (T:TypeId) (x:Value):oM P (.entry (.tmp 0)) T [x] K w = rM ((Instr.entry x).run P w) K:=rM_of rfl
@[go_sem] theorem oM_delete (T:TypeId) (ts:Array TypeId) (x y:Value):oM P (.call { callee:=.builtin .delete,args:=#[.tmp 0,.tmp 1],argTypes:=ts }) T [x,y] K w = rM ((Builtin.delete_ ts T #[x,y]).run P w) K:=
 rM_of (by simp [xop,execOp,evalL,evE,resolve,invoke,builtin])
@[go_sem] theorem oM_clear (T:TypeId) (ts:Array TypeId) (x:Value):oM P (.call { callee:=.builtin .clear,args:=#[.tmp 0],argTypes:=ts }) T [x] K w = rM ((Builtin.clear_ ts T #[x]).run P w) K:=
 rM_of (by simp [xop,execOp,evalL,evE,resolve,invoke,builtin])
@[go_sem] theorem oM_copy (T:TypeId) (ts:Array TypeId) (x y:Value):oM P (.call { callee:=.builtin .copy,args:=#[.tmp 0,.tmp 1],argTypes:=ts }) T [x,y] K w = rM ((Builtin.copy_ ts T #[x,y]).run P w) K:=
 rM_of (by simp [xop,execOp,evalL,evE,resolve,invoke,builtin])
theorem oM_append (T:TypeId) (ts:Array TypeId) (x y:Value):oM P (.call { callee:=.builtin .append,args:=#[.tmp 0,.tmp 1],argTypes:=ts }) T [x,y] K w = rM ((Builtin.append_ ts T #[x,y]).run P w) K:=
 rM_of (by simp [xop,execOp,evalL,evE,resolve,invoke,builtin])
@[go_sem] theorem oM_makeSlice (t T:TypeId) (x y:Value):oM P (.makeSlice t (.tmp 0) (.tmp 1)) T [x,y] K w = rM ((Instr.makeSlice t x y).run P w) K:=rM_of rfl
@[go_sem] theorem oM_typeAssert (t u T:TypeId) (x:Value):oM P (.typeAssert (.tmp 0) t u false) T [x] K w = rM ((Instr.typeAssert x t u false).run P w) K:=rM_of rfl
@[go_sem] theorem oM_makeInterface (t T:TypeId) (x:Value):oM P (.makeInterface t (.tmp 0)) T [x] K w = rM ((Instr.makeInterface t x).run P w) K:=rM_of rfl
@[go_sem] theorem oM_buildSlice0 (T t:Nat) (n:Nat):oM P (.buildSlice t n #[]) T [] K w = rM ((Instr.buildSlice t n #[]).run P w) K:=rM_of (by simp [xop,execOp,evalL,evE])
theorem oM_sliceFrom (t T:TypeId) (x i:Value):oM P (.slice t (.tmp 0) (some (.tmp 1)) none none) T [x,i] K w = rM ((Instr.sliceAt t x (some i) none none).run P w) K:=rM_of rfl
theorem oM_sliceTo (t T:TypeId) (x i:Value):oM P (.slice t (.tmp 0) none (some (.tmp 1)) none) T [x,i] K w = rM ((Instr.sliceAt t x none (some i) none).run P w) K:=rM_of rfl
theorem low_bits (n:Nat) (hn:n < 60) (x:Int):IntKind.i64.wrap ((BitVec.ofInt 64 x &&& BitVec.ofInt 64 (2 ^ n - 1)).toNat:Int) = x % 2 ^ n:=by
 have hp:(0:Int) < 2 ^ n:=Int.pow_pos (by omega)
 have hp':(2:Nat) ^ n ≤ 2 ^ 59:=Nat.pow_le_pow_right (by omega) (by omega)
 have hpc:((2:Int) ^ n) = ((2 ^ n:Nat):Int):=by simp
 have hb:(BitVec.ofInt 64 (2 ^ n - 1)).toNat = 2 ^ n - 1:=by
  rw [BitVec.toNat_ofInt,hpc]
  omega
 have ha:(BitVec.ofInt 64 x).toNat = (x % 2 ^ 64).toNat:=by rw [BitVec.toNat_ofInt]; rfl
 rw [BitVec.toNat_and,hb,ha,Nat.and_two_pow_sub_one_eq_mod]
 have hdv:((2:Int) ^ n) ∣ 2 ^ 64:=⟨2 ^ (64 - n),by rw [← Int.pow_add]; congr 1; omega⟩
 have h1:(((x % 2 ^ 64).toNat % 2 ^ n:Nat):Int) = x % 2 ^ n:=by
  rw [Int.natCast_emod,Int.toNat_of_nonneg (Int.emod_nonneg _ (by omega)),← hpc,Int.emod_emod_of_dvd _ hdv]
 rw [h1]
 have h2:=Int.emod_nonneg x (b:=2 ^ n) (by omega)
 have h3:=Int.emod_lt_of_pos x hp
 exact wrapI64 _ (by omega) (by omega)
theorem oM_low (n:Nat) (hn:n < 60) (t t' T:TypeId) (x m:Int) (hm:m = 2 ^ n - 1):oM P (.binOp .and t (.tmp 0) (.tmp 1) t') T [.int .i64 x,.int .i64 m] K w = K (.int .i64 (x % 2 ^ n)) w:=by
 subst hm
 rw [← low_bits n hn x]
 exact oM_of_run rfl
@[go_sem] theorem oM_and1 (t t' T:TypeId) (x:Int):oM P (.binOp .and t (.tmp 0) (.tmp 1) t') T [.int .i64 x,.int .i64 1] K w = K (.int .i64 (x % 2)) w:=oM_low 1 (by omega) t t' T x 1 rfl
@[go_sem] theorem oM_and3 (t t' T:TypeId) (x:Int):oM P (.binOp .and t (.tmp 0) (.tmp 1) t') T [.int .i64 x,.int .i64 3] K w = K (.int .i64 (x % 4)) w:=oM_low 2 (by omega) t t' T x 3 rfl
@[go_sem] theorem oM_and7 (t t' T:TypeId) (x:Int):oM P (.binOp .and t (.tmp 0) (.tmp 1) t') T [.int .i64 x,.int .i64 7] K w = K (.int .i64 (x % 8)) w:=oM_low 3 (by omega) t t' T x 7 rfl
end
end Go.Sh
namespace Go.Sh
open Go Go.RowKit
section
variable {w:World} {B:Nat} {e:TypeId} {sz:Nat} {v:Value} {n:Nat} {xs:List Value}
theorem owns_cells (h:w.ownsRow B e sz v n xs) (hn:0 < n):∃ g cap cur,v = .slice (some ⟨g,0,none⟩) n cap ∧ g < w.heap.size ∧ B ≤ g ∧ w.heap[g]? = some (.cells cur e (0,0)) ∧ cur.size = cap * sz ∧ n ≤ cap ∧ ∀ (k:Nat) (x:Value),xs[k]? = some x → w.cell? ⟨g,k,none⟩ = some x:=by
 rcases h.2 with ⟨_,h0⟩ | ⟨g,cap,cur,hv,hb,hg,hc,hm,hs,ht⟩
 ·omega
 ·refine ⟨g,cap,cur,hv,(Array.getElem?_eq_some_iff.1 hg).1,hb,hg,hs,hc,fun k x hk=>?_⟩
  have hlt:k < n * sz:=by have:=(List.getElem?_eq_some_iff.1 hk).1; rw [h.1] at this; exact this
  rw [← ht,List.getElem?_take_of_lt hlt] at hk
  unfold World.cell?
  rw [hg]
  simpa using hk
theorem owns_own (h:w.ownsRow B e sz v n xs) {i:Nat} (hi:v.ownBlock = some i):i < w.heap.size ∧ B ≤ i ∧ ∃ cur,w.heap[i]? = some (.cells cur e (0,0)):=by
 rcases h.2 with ⟨rfl,h0⟩ | ⟨g,cap,cur,rfl,hb,hg,hc,hm,hs,ht⟩
 ·cases hi
 ·cases hi
  exact ⟨(Array.getElem?_eq_some_iff.1 hg).1,hb,cur,hg⟩
theorem owns_keep {w':World} (h:w.ownsRow B e sz v n xs) (hk:∀ i,v.ownBlock = some i → w'.heap[i]? = w.heap[i]?):w'.ownsRow B e sz v n xs:=by
 refine ⟨h.1,?_⟩
 rcases h.2 with h0 | ⟨g,cap,cur,rfl,hb,hg,hr⟩
 ·exact .inl h0
 ·exact .inr ⟨g,cap,cur,rfl,hb,by rw [hk g rfl]; exact hg,hr⟩
theorem owns_len (h:w.ownsRow B e sz v n xs):∃ a c,v = .slice a n c:=by
 rcases h.2 with ⟨rfl,rfl⟩ | ⟨g,cap,cur,rfl,_⟩
 ·exact ⟨none,0,rfl⟩
 ·exact ⟨_,cap,rfl⟩
end
def flat {α:Type} (mk:α → List Value) (l:List α):List Value:=l.flatMap mk
section
variable {α:Type} {mk:α → List Value} {sz:Nat}
theorem flat_cons (x:α) (l:List α):flat mk (x :: l) = mk x ++ flat mk l:=rfl
theorem flat_snoc (l:List α) (x:α):flat mk (l ++ [x]) = flat mk l ++ mk x:=by simp [flat]
theorem flat_length (hm:∀ x,(mk x).length = sz) (l:List α):(flat mk l).length = l.length * sz:=by
 induction l with
 | nil=>simp [flat]
 | cons x l ih=>rw [flat_cons,List.length_append,hm,ih,List.length_cons,Nat.succ_mul,Nat.add_comm]
end
structure Fr (S:Nat → Prop) (w w':World):Prop where
 os:w'.os = w.os
 tape:w'.tape = w.tape
 output:w'.output = w.output
 size:w.heap.size ≤ w'.heap.size
 block:∀ i,i < w.heap.size → ¬ S i → w'.heap[i]? = w.heap[i]?
section
variable {S S':Nat → Prop} {w w1 w2:World}
theorem Fr.refl (S:Nat → Prop) (w:World):Fr S w w:=⟨rfl,rfl,rfl,Nat.le_refl _,fun _ _ _=>rfl⟩
theorem Fr.trans (h:Fr S w w1) (k:Fr S' w1 w2) (hs:∀ i,S' i → S i ∨ w.heap.size ≤ i):Fr S w w2:=
 ⟨k.os.trans h.os,k.tape.trans h.tape,k.output.trans h.output,Nat.le_trans h.size k.size,fun i hi hn=>(k.block i (Nat.lt_of_lt_of_le hi h.size) (fun hx=>(hs i hx).elim hn (by omega))).trans (h.block i hi hn)⟩
theorem Fr.by (h:Fr S w w1) {b:Option Nat} (k:w1.grownBy w2 b) (hs:∀ i,b = some i → S i ∨ w.heap.size ≤ i):Fr S w w2:=
 ⟨k.os.trans h.os,k.tape.trans h.tape,k.output.trans h.output,Nat.le_trans h.size k.size,fun i hi hn=>(k.block i (Nat.lt_of_lt_of_le hi h.size) (fun hx=>(hs i hx.symm).elim hn (by omega))).trans (h.block i hi hn)⟩
theorem Fr.none_by (h:Fr S w w1) (k:w1.grownBy w2 none):Fr S w w2:=h.by k (fun _ h=>by cases h)
theorem Fr.alloc (h:Fr S w w1) (o:Obj):Fr S w (w1.alloc o):=h.none_by (World.grownBy_alloc w1 o none)
theorem Fr.drew (h:Fr S w w1):Fr S w { w1 with drawn:=w1.drawn + 1 }:=⟨h.os,h.tape,h.output,h.size,h.block⟩
theorem Fr.mono (h:Fr S w w1) (hs:∀ i,i < w.heap.size → S i → S' i):Fr S' w w1:=⟨h.os,h.tape,h.output,h.size,fun i hi hn=>h.block i hi (fun hx=>hn (hs i hi hx))⟩
theorem setCell_heap_ne (w:World) (a:Addr) (u:Value) (i:Nat) (h:i ≠ a.block):(w.setCell a u).heap[i]? = w.heap[i]?:=by
 simp only [World.setCell,Array.getElem?_modify]
 rw [if_neg (Ne.symm h)]
theorem grown_setCell (w:World) (a:Addr) (u:Value):w.grownBy (w.setCell a u) (some a.block):=
 ⟨rfl,rfl,rfl,by simp [World.setCell],fun i _ hi=>setCell_heap_ne w a u i (fun e=>hi (by rw [e]))⟩
theorem Fr.set (h:Fr S w w1) (a:Addr) (u:Value) (hs:S a.block ∨ w.heap.size ≤ a.block):Fr S w (w1.setCell a u):=h.by (grown_setCell w1 a u) (fun i e=>by cases e; exact hs)
end
theorem cell_of_block {w:World} {b:Nat} {cs:Array Value} {T:TypeId} {f:Nat × Nat} (h:w.heap[b]? = some (.cells cs T f)) (i:Nat):w.cell? ⟨b,i,none⟩ = cs[i]?:=by
 simp [World.cell?,h]
theorem block_set {w:World} {b i:Nat} {cs:Array Value} {T:TypeId} {f:Nat × Nat} (h:w.heap[b]? = some (.cells cs T f)) (u:Value):(w.setCell ⟨b,i,none⟩ u).heap[b]? = some (.cells (cs.setIfInBounds i u) T f):=by
 simp [World.setCell,Array.getElem?_modify,h]
end Go.Sh
namespace Go.Sh
open Go Go.RowKit
section
variable {P:Program} {w:World} {K:Value → World → Prop}
theorem owns_base {B C:Nat} {e:TypeId} {sz:Nat} {v:Value} {n:Nat} {xs:List Value} (h:w.ownsRow B e sz v n xs) (hc:C ≤ B):w.ownsRow C e sz v n xs:=
 ⟨h.1,h.2.imp id (fun ⟨g,cap,cur,a,b,r⟩=>⟨g,cap,cur,a,Nat.le_trans hc b,r⟩)⟩
theorem run_append_more (t ty e:TypeId) (i:TypeInfo) (z:Value) (size bytes:Nat) (ht:P.underlying t = some (.slice e)) (hi:P.info? e = some i) (hz:i.zero = some z)
  (hsize:i.size = size) (hby:i.bytes = bytes) (hzs:z.cells.size = size) (hsz:0 < size)
  (v:Value) (n:Nat) (xs:List Value) (hown:w.ownsRow 0 e size v n xs)
  (a:Addr) (m c:Nat) (news:List Value) (hl:news.length = m * size) (hnews:∀ j u,news[j]? = some u → w.cell? (a.add j) = some u) (h1:∀ u ∈ news,u.oneCell' = true)
  (h63:n + m ≤ maxLen) (hbytes:(n + m) * bytes ≤ 140737488355328) :
  ∃ v' w',(Builtin.append_ #[t,t] ty #[v,.slice (some a) m c]).run P w = .ok v' w' ∧ w'.ownsRow 0 e size v' (n + m) (xs ++ news) ∧ w.grownBy w' v.ownBlock ∧
   (∀ i,v'.ownBlock = some i → v.ownBlock = some i ∨ w.heap.size ≤ i):=by
 rcases hown.2 with ⟨hv,hn⟩ | ⟨g,cap,cur,hv,hb,hg,hnc,hm,hcs,htk⟩
 ·have h':w.ownsRow w.heap.size e size v n xs:=⟨hown.1,.inl ⟨hv,hn⟩⟩
  obtain ⟨v',w',hr,ho,hgr,_⟩:=run_append_own (P:=P) (w:=w) w.heap.size t ty e i z size bytes ht hi hz hsize hby hzs hsz v n xs h' a m c news hl hnews h1 h63 hbytes (Nat.le_refl _)
  exact ⟨v',w',hr,owns_base ho (Nat.zero_le _),hgr,fun j hj=>.inr (owns_own ho hj).2.1⟩
 ·by_cases hroom:n + m ≤ cap
  ·subst hv
   obtain ⟨w',hr,ho,hgr⟩:=run_append_fits (P:=P) (w:=w) 0 t ty e i size ht hi hsize g n cap xs hown a m c news hl hnews h1 hroom
   exact ⟨_,w',hr,ho,hgr,fun j hj=>.inl hj⟩
  ·obtain ⟨v',w',hr,ho,hgr,_⟩:=run_append_own (P:=P) (w:=w) 0 t ty e i z size bytes ht hi hz hsize hby hzs hsz v n xs hown a m c news hl hnews h1 h63 hbytes (Nat.zero_le _)
   subst hsize
   subst hv
   have holds:∀ j u,xs[j]? = some u → w.cell? ((⟨g,0,none⟩:Addr).add j) = some u:=hown.cells (g:=g) rfl
   have hr2:=run_append_grow (P:=P) (w:=w) t ty e i z ht hi hz ⟨g,0,none⟩ n cap xs hown.1 holds a m c news hl hnews (by omega) (by simp only [maxLen] at h63; omega) (growslice_fits (by omega) (by rw [hby]; exact hbytes))
   rw [hr] at hr2
   cases hr2
   exact ⟨_,_,hr,ho,hgr,fun j hj=>by cases hj; exact .inr (Nat.le_refl _)⟩
theorem append_at (t T e:TypeId) (i:TypeInfo) (z:Value) (size bytes:Nat) (ht:P.underlying t = some (.slice e)) (hi:P.info? e = some i) (hz:i.zero = some z)
  (hsize:i.size = size) (hby:i.bytes = bytes) (hzs:z.cells.size = size) (hsz:0 < size)
  {v:Value} {n:Nat} {xs:List Value} (hown:w.ownsRow 0 e size v n xs)
  {ad:Option Addr} {m c:Nat} (news:List Value) (hl:news.length = m * size) (had:ad = none → m = 0 ∧ c = 0) (hnews:∀ a,ad = some a → ∀ j u,news[j]? = some u → w.cell? (a.add j) = some u) (h1:∀ u ∈ news,u.oneCell' = true)
  (h63:n + m ≤ maxLen) (hbytes:(n + m) * bytes ≤ 140737488355328)
  (k:∀ v' w',w'.ownsRow 0 e size v' (n + m) (xs ++ news) → w.grownBy w' v.ownBlock → (∀ i,v'.ownBlock = some i → v.ownBlock = some i ∨ w.heap.size ≤ i) → K v' w') :
  oM P (.call { callee:=.builtin .append,args:=#[.tmp 0,.tmp 1],argTypes:=#[t,t] }) T [v,.slice ad m c] K w:=by
 rw [oM_append]
 cases ad with
 | some a=>
  obtain ⟨v',w',hr,h2,h3,h4⟩:=run_append_more (P:=P) (w:=w) t T e i z size bytes ht hi hz hsize hby hzs hsz v n xs hown a m c news hl (hnews a rfl) h1 h63 hbytes
  rw [hr]
  exact k v' w' h2 h3 h4
 | none=>
  obtain ⟨rfl,rfl⟩:=had rfl
  have hn:news = []:=List.eq_nil_of_length_eq_zero (by simpa using hl)
  subst hn
  rw [run_append_owned_none (P:=P) (w:=w) 0 t T e i size ht hi v n xs hown]
  refine k v w ?_ ⟨rfl,rfl,rfl,Nat.le_refl _,fun _ _ _=>rfl⟩ (fun i h=>.inl h)
  simpa using hown
end
def RowR {α:Type} (mk:α → List Value) (sz:Nat) (w:World) (v:Value) (l:List α):Prop:=
 ∃ ad c,v = .slice ad l.length c ∧ (ad = none → l.length = 0 ∧ c = 0) ∧ (l = [] ∨ ∃ b o,ad = some ⟨b,o,none⟩ ∧ b < w.heap.size ∧ ∀ (k:Nat) (x:Value),(flat mk l)[k]? = some x → w.cell? ⟨b,o + k,none⟩ = some x)
section
variable {α:Type} {mk:α → List Value} {sz:Nat} {w w':World} {v:Value} {l:List α}
theorem RowR.of_owns {B:Nat} {e:TypeId} (h:w.ownsRow B e sz v l.length (flat mk l)):RowR mk sz w v l:=by
 rcases h.2 with ⟨rfl,h0⟩ | ⟨g,cap,cur,rfl,hb,hg,hn,hm,hcs,ht⟩
 ·exact ⟨none,0,by rw [h0],fun _=>⟨h0,rfl⟩,.inl (List.eq_nil_of_length_eq_zero h0)⟩
 ·refine ⟨_,cap,rfl,by simp,?_⟩
  by_cases h0:l = []
  ·exact .inl h0
  ·obtain ⟨g',cap',cur',hv,hlt,_,_,_,_,hc⟩:=owns_cells h (List.length_pos_iff.2 h0)
   cases hv
   exact .inr ⟨g,0,rfl,hlt,fun k x hk=>by rw [Nat.zero_add]; exact hc k x hk⟩
def Value.inBlock:Value → Option Nat
 | .slice (some a) _ _=>some a.block
 | _=>none
theorem RowR.keep (h:RowR mk sz w v l) (hs:w.heap.size ≤ w'.heap.size) (hk:∀ i,Value.inBlock v = some i → i < w.heap.size → w'.heap[i]? = w.heap[i]?):RowR mk sz w' v l:=by
 obtain ⟨ad,c,rfl,h0,h⟩:=h
 refine ⟨ad,c,rfl,h0,h.imp id ?_⟩
 rintro ⟨b,o,rfl,hlt,hc⟩
 refine ⟨b,o,rfl,Nat.lt_of_lt_of_le hlt hs,fun k x hx=>?_⟩
 have:=hc k x hx
 unfold World.cell? at this ⊢
 rw [hk b rfl hlt]
 exact this
end
theorem add_none (b o k:Nat):(⟨b,o,none⟩:Addr).add k = ⟨b,o + k,none⟩:=by
 unfold Addr.add
 split
 ·rename_i h0; rw [h0]; simp
 ·rfl
theorem clone_at {P:Program} {α:Type} {mk:α → List Value} {w:World} {K:Value → World → Prop} (t T e:TypeId) (i:TypeInfo) (z:Value) (size bytes:Nat) (ht:P.underlying t = some (.slice e)) (hi:P.info? e = some i) (hz:i.zero = some z)
  (hsize:i.size = size) (hby:i.bytes = bytes) (hzs:z.cells.size = size) (hsz:0 < size) (hm:∀ x,(mk x).length = size) (h1:∀ x,∀ u ∈ mk x,u.oneCell' = true)
  {v u:Value} {l:List α} (hr:RowR mk size w v l) (hu:w.ownsRow 0 e size u 0 []) {B:Nat} (hB:B ≤ w.heap.size) (hf:∀ i,u.ownBlock = some i → B ≤ i) (hll:l.length ≤ 4611686018427387904) (hb:l.length * bytes ≤ 140737488355328)
  (k:∀ v' w',w'.ownsRow 0 e size v' l.length (flat mk l) → w.grownBy w' u.ownBlock → (∀ i,v'.ownBlock = some i → B ≤ i) → K v' w') :
  oM P (.call { callee:=.builtin .append,args:=#[.tmp 0,.tmp 1],argTypes:=#[t,t] }) T [u,v] K w:=by
 obtain ⟨ad,c,rfl,h0,hc⟩:=hr
 refine append_at t T e i z size bytes ht hi hz hsize hby hzs hsz hu (flat mk l) (flat_length hm l) h0 ?_ ?_ (by simp only [maxLen]; omega) (by rw [Nat.zero_add]; exact hb) ?_
 ·rintro a rfl j x hj
  rcases hc with rfl | ⟨b,o,hbo,hlt,hc⟩
  ·simp [flat] at hj
  ·cases hbo
   rw [add_none]; exact hc j x hj
 ·intro x hx
  unfold flat at hx
  obtain ⟨y,_,hy⟩:=List.mem_flatMap.1 hx
  exact h1 y x hy
 ·intro v' w' ho hg hv
  rw [Nat.zero_add] at ho
  exact k v' w' ho hg (fun i hi=>(hv i hi).elim (hf i) (Nat.le_trans hB))
end Go.Sh
namespace Go.Sh
open Go Go.RowKit
theorem alloc_size (w:World) (o:Obj):(w.alloc o).heap.size = w.heap.size + 1:=by
 show (w.heap.push o).size = _
 simp
theorem grown_setRow (w:World) (g:Nat) (cs:Array Value):w.grownBy (w.setRow g cs) (some g):=
 ⟨rfl,rfl,rfl,by simp [World.setRow],fun i _ hi=>setRow_other w g i cs (fun e=>hi (by rw [e]))⟩
section
variable {P:Program} {w:World} {K:Value → World → Prop}
theorem sliceFrom_at {t T:TypeId} {g o n c:Nat} {sz:Nat} (ht:P.underlying t = some (.slice (P.elem t))) (hs:∀ w,(sizeOf (P.elem t)).run P w = .ok sz w) (i:Nat) (hi:i ≤ n) (hc:i < c) (k:K (.slice (some ⟨g,o + i * sz,none⟩) (n - i) (c - i)) w) :
  oM P (.slice t (.tmp 0) (some (.tmp 1)) none none) T [.slice (some ⟨g,o,none⟩) n c,.int .i64 i] K w:=by
 rw [oM_sliceFrom,run_sliceAt_slice w t _ _ _ _ ht,run_slice_l w t _ n c ht .i64 i (by omega) (by omega),hs]
 have:¬ c = i:=by omega
 simp only [Result.andThen_ok,sliced,Int.toNat_natCast,if_neg this,Option.map_some,add_none]
 exact k
theorem sliceTo_at {t T:TypeId} {a:Option Addr} {n c:Nat} {sz:Nat} (ht:P.underlying t = some (.slice (P.elem t))) (hs:∀ w,(sizeOf (P.elem t)).run P w = .ok sz w) (i:Nat) (hi:i ≤ c) (k:K (.slice a i c) w) :
  oM P (.slice t (.tmp 0) none (some (.tmp 1)) none) T [.slice a n c,.int .i64 i] K w:=by
 rw [oM_sliceTo,run_sliceAt_slice w t _ _ _ _ ht,run_slice_h w t _ n c ht .i64 i (by omega) (by omega),hs]
 have e:a.map (fun x=>x.add (0 * sz)) = a:=by
  cases a with
  | none=>rfl
  | some a=>simp [Addr.add]
 simp only [Result.andThen_ok,sliced,Int.toNat_natCast,Nat.sub_zero,e,ite_self]
 exact k
end
end Go.Sh
namespace Go.Sh
open Go Go.RowKit
def BufM (w:World) (e:TypeId) (v:Value) (l:List UInt8):Prop:=
 ∃ g cap cur fz,v = .slice (some ⟨g,0,none⟩) l.length cap ∧ w.heap[g]? = some (.cells cur e fz) ∧ (∀ i,i < cur.size → ¬ (fz.1 ≤ i ∧ i < fz.2)) ∧ cur.size = cap ∧ l.length ≤ cap ∧ ∀ j (h:j < l.length),cur[j]? = some (.int .u8 (l[j].toNat:Int))
section
variable {P:Program} {w w':World} {e:TypeId} {v:Value} {l:List UInt8} {K:Value → World → Prop}
theorem BufM.shape (h:BufM w e v l):∃ g c,v = .slice (some ⟨g,0,none⟩) l.length c ∧ g < w.heap.size:=by
 obtain ⟨g,cap,cur,fz,rfl,hg,_⟩:=h
 exact ⟨g,cap,rfl,(Array.getElem?_eq_some_iff.1 hg).1⟩
theorem BufM.keep (h:BufM w e v l) (hk:∀ i,v.ownBlock = some i → w'.heap[i]? = w.heap[i]?):BufM w' e v l:=by
 obtain ⟨g,cap,cur,fz,rfl,hg,r⟩:=h
 exact ⟨g,cap,cur,fz,rfl,by rw [hk g rfl]; exact hg,r⟩
theorem ofStr_at {s d T:TypeId} (hs:P.underlying s = some .string) (hd:P.underlying d = some (.slice e)) (he:P.underlying e = some (.int .u8)) (l:List UInt8)
  (k:∀ v w',BufM w' e v l → w.grownBy w' none → v.ownBlock = some w.heap.size → w.heap.size < w'.heap.size → K v w'):oM P (.convert s d (.tmp 0)) T [.string ⟨l.toArray⟩] K w:=by
 have hr:=run_bytes_of_string (P:=P) w s d e ⟨l.toArray⟩ hs hd he
 rw [rM_of (S:=convert s d (.string ⟨l.toArray⟩)) rfl,hr]
 have hge:l.length ≤ grownCap w (⟨l.toArray⟩:ByteArray).size 0 e:=grownCap_ge w l.length 0 e
 generalize grownCap w (⟨l.toArray⟩:ByteArray).size 0 e = C at *
 have hsz:(bytesRow ⟨l.toArray⟩ C).size = C:=by
  simp only [bytesRow,Array.size_append,Array.size_map,List.size_toArray,Array.size_replicate,ByteArray.size]
  omega
 rw [hsz]
 refine k _ _ ⟨w.heap.size,C,bytesRow ⟨l.toArray⟩ C,(C,C + 1),rfl,heap_alloc_new w.drew _,fun i hi=>by rw [hsz] at hi; simp only; omega,hsz,hge,fun j hj=>?_⟩ ⟨rfl,rfl,rfl,by simp,fun i hi _=>heap_alloc_old w.drew _ hi⟩ rfl (by simp)
 unfold bytesRow
 rw [Array.getElem?_append_left (by simpa using hj)]
 simp [hj]
theorem pushB_at {t T:TypeId} {i:TypeInfo} {x:UInt8} {a:Addr} {c:Nat} (ht:P.underlying t = some (.slice e)) (hi:P.info? e = some i) (hz:i.zero = some (.int .u8 0)) (hs:i.size = 1) (hb:i.bytes = 1) (h:BufM w e v l) (ha:w.cell? a = some (.int .u8 (x.toNat:Int))) (hl:l.length + 1 ≤ 1099511627776)
  (k:∀ v' w',BufM w' e v' (l ++ [x]) → w.grownBy w' v.ownBlock → (v'.ownBlock = v.ownBlock ∨ ∃ g,v'.ownBlock = some g ∧ w.heap.size ≤ g) → K v' w') :
  oM P (.call { callee:=.builtin .append,args:=#[.tmp 0,.tmp 1],argTypes:=#[t,t] }) T [v,.slice (some a) 1 c] K w:=by
 obtain ⟨g,cap,cur,fz,rfl,hg,hfz,hcs,hlc,hcell⟩:=h
 rw [oM_append]
 have hnews:∀ j u,([Value.int .u8 (x.toNat:Int)]:List Value)[j]? = some u → w.cell? (a.add j) = some u:=by
  intro j u hj
  match j,hj with
  | 0,hj=>
   simp only [List.getElem?_cons_zero,Option.some.injEq] at hj
   subst hj
   have:a.add 0 = a:=by simp [Addr.add]
   rw [this]; exact ha
 by_cases hroom:l.length + 1 ≤ cap
 ·have hr:=run_append_room_cells (P:=P) (w:=w) t T e i ht hi g 0 l.length cap a 1 c [.int .u8 (x.toNat:Int)] (by rw [hs]; rfl) hnews (by simp [Value.oneCell']) hroom (by
   intro j hj
   simp only [List.length_cons,List.length_nil] at hj
   rw [cell_of_block hg]
   simp [hs]
   omega) (by
   intro j hj
   simp only [List.length_cons,List.length_nil] at hj
   unfold World.frozen?
   rw [hg]
   have:=hfz (0 + l.length * i.size + j) (by rw [hs]; omega)
   simp only [Bool.and_eq_false_iff,decide_eq_false_iff_not]
   omega)
  rw [hr,hs,Nat.zero_add,Nat.mul_one]
  refine k _ (w.setCell ⟨g,l.length,none⟩ (.int .u8 (x.toNat:Int))) ⟨g,cap,cur.setIfInBounds l.length (.int .u8 (x.toNat:Int)),fz,by rw [List.length_append]; rfl,block_set hg _,by simpa using hfz,by simpa using hcs,by simpa using hroom,fun j hj=>?_⟩ (grown_setCell w ⟨g,l.length,none⟩ _) (.inl rfl)
  rw [List.length_append,List.length_cons,List.length_nil] at hj
  by_cases hjl:j < l.length
  ·rw [Array.getElem?_setIfInBounds_ne (by omega),hcell j hjl,List.getElem_append_left hjl]
  ·obtain rfl:j = l.length:=by omega
   rw [Array.getElem?_setIfInBounds_self_of_lt (by omega)]
   simp
 ·have hholds:∀ j u,(Lib.byteCells l)[j]? = some u → w.cell? ((⟨g,0,none⟩:Addr).add j) = some u:=by
   intro j u hj
   rw [add_none,Nat.zero_add,cell_of_block hg]
   have hjl:j < l.length:=by have:=(List.getElem?_eq_some_iff.1 hj).1; simpa [Lib.byteCells] using this
   rw [hcell j hjl,← hj]
   simp [Lib.byteCells,hjl]
  obtain ⟨v',w',hr,ho,hgr⟩:=run_append_arg_grows (P:=P) (w:=w) t T e i (.int .u8 0) 1 1 ht hi hz hs hb rfl (by omega) ⟨g,0,none⟩ l.length cap (Lib.byteCells l) (by simp [Lib.byteCells]) hholds a 1 c [.int .u8 (x.toNat:Int)] rfl hnews (by omega) (by simp only [maxLen]; omega) (by omega)
  rw [hr]
  rcases ho.2 with ⟨_,h0⟩ | ⟨g',cap',cur',rfl,hb',hg',hnc,hcm,hcs',htk⟩
  ·omega
  ·refine k _ w' ⟨g',cap',cur',(0,0),by rw [List.length_append]; rfl,hg',fun i _=>by omega,by omega,by rw [List.length_append]; exact hnc,fun j hj=>?_⟩ ⟨hgr.os,hgr.tape,hgr.output,hgr.size,fun i hi _=>hgr.block i hi (by simp)⟩ (.inr ⟨g',rfl,hb'⟩)
   have e1:cur'.toList.take (l.length + 1) = Lib.byteCells (l ++ [x]):=by
    rw [Nat.mul_one] at htk
    rw [htk]
    simp [Lib.byteCells]
   have e2:=congrArg (fun q=>q[j]?) e1
   rw [List.length_append,List.length_cons,List.length_nil] at hj
   simp only [List.getElem?_take_of_lt hj,Array.getElem?_toList] at e2
   rw [e2]
   have hj':j < (l ++ [x]).length:=by simpa using hj
   simp only [Lib.byteCells,List.getElem?_map,List.getElem?_eq_getElem hj',Option.map_some]
theorem BufM.set (h:BufM w e v l) {j:Nat} (hj:j < l.length) (x:UInt8):∃ g c,v = .slice (some ⟨g,0,none⟩) l.length c ∧ w.frozen? ⟨g,j,none⟩ = false ∧ (w.cell? ⟨g,j,none⟩).isSome = true ∧ BufM (w.setCell ⟨g,j,none⟩ (.int .u8 (x.toNat:Int))) e v (l.set j x):=by
 obtain ⟨g,cap,cur,fz,rfl,hg,hfz,hcs,hlc,hcell⟩:=h
 refine ⟨g,cap,rfl,?_,?_,⟨g,cap,cur.setIfInBounds j (.int .u8 (x.toNat:Int)),fz,by rw [List.length_set],block_set hg _,by simpa using hfz,by simpa using hcs,by simpa using hlc,fun k hk=>?_⟩⟩
 ·unfold World.frozen?
  rw [hg]
  have:=hfz j (by omega)
  simp only [Bool.and_eq_false_iff,decide_eq_false_iff_not]
  omega
 ·rw [cell_of_block hg,hcell j hj]; rfl
 ·rw [List.length_set] at hk
  by_cases hkj:k = j
  ·subst hkj
   rw [Array.getElem?_setIfInBounds_self_of_lt (by omega)]
   simp
  ·rw [Array.getElem?_setIfInBounds_ne (Ne.symm hkj),hcell k hk,List.getElem_set_ne (Ne.symm hkj)]
theorem BufM.cell (h:BufM w e v l) {j:Nat} (hj:j < l.length):∃ g c,v = .slice (some ⟨g,0,none⟩) l.length c ∧ w.cell? ⟨g,j,none⟩ = some (.int .u8 (l[j].toNat:Int)):=by
 obtain ⟨g,cap,cur,fz,rfl,hg,hfz,hcs,hlc,hcell⟩:=h
 exact ⟨g,cap,rfl,by rw [cell_of_block hg]; exact hcell j hj⟩
end
end Go.Sh
namespace Go.Sh
open Go Go.RowKit
section
variable {P:Program} {K:Value → World → Prop} {w:World}
@[go_sem] theorem oM_shr64 (t t' T:TypeId) (yk:IntKind) (x y:Int) (h0:0 ≤ y) (h1:y ≤ 64):oM P (.binOp .shr t (.tmp 0) (.tmp 1) t') T [.int .u64 x,.int yk y] = pureM (.int .u64 (x / 2 ^ y.toNat)):=by
 funext K w
 simp [oM,opM,xop,execOp,evalL,evE,binOp]
 rfl
@[go_sem] theorem oM_shl64 (t t' T:TypeId) (yk:IntKind) (x y:Int) (h0:0 ≤ y) (h1:y ≤ 64):oM P (.binOp .shl t (.tmp 0) (.tmp 1) t') T [.int .u64 x,.int yk y] = pureM (.int .u64 (x * 2 ^ y.toNat % 18446744073709551616)):=by
 funext K w
 simp [oM,opM,xop,execOp,evalL,evE,binOp]
 rfl
@[go_sem] theorem oM_shr32 (t t' T:TypeId) (yk:IntKind) (x y:Int) (h0:0 ≤ y) (h1:y ≤ 32):oM P (.binOp .shr t (.tmp 0) (.tmp 1) t') T [.int .u32 x,.int yk y] = pureM (.int .u32 (x / 2 ^ y.toNat)):=by
 funext K w
 simp [oM,opM,xop,execOp,evalL,evE,binOp]
 rfl
@[go_sem] theorem oM_shl32 (t t' T:TypeId) (yk:IntKind) (x y:Int) (h0:0 ≤ y) (h1:y ≤ 32):oM P (.binOp .shl t (.tmp 0) (.tmp 1) t') T [.int .u32 x,.int yk y] = pureM (.int .u32 (x * 2 ^ y.toNat % 4294967296)):=by
 funext K w
 simp [oM,opM,xop,execOp,evalL,evE,binOp]
 rfl
@[go_sem] theorem oM_and64 (t t' T:TypeId) (x y:Int):oM P (.binOp .and t (.tmp 0) (.tmp 1) t') T [.int .u64 x,.int .u64 y] = pureM (.int .u64 (bits .and .u64 x y)):=by
 funext K w
 simp [oM,opM,xop,execOp,evalL,evE,binOp,go_sem]
@[go_sem] theorem oM_or64 (t t' T:TypeId) (x y:Int):oM P (.binOp .or t (.tmp 0) (.tmp 1) t') T [.int .u64 x,.int .u64 y] = pureM (.int .u64 (bits .or .u64 x y)):=by
 funext K w
 simp [oM,opM,xop,execOp,evalL,evE,binOp,go_sem]
end
theorem bits_and64 (x y:Int) (hx:0 ≤ x ∧ x < 18446744073709551616) (hy:0 ≤ y ∧ y < 18446744073709551616):bits .and .u64 x y = ((x.toNat &&& y.toNat:Nat):Int):=by
 obtain ⟨a,rfl⟩:=Int.eq_ofNat_of_zero_le hx.1
 obtain ⟨b,rfl⟩:=Int.eq_ofNat_of_zero_le hy.1
 have ha:a < 2 ^ 64:=by omega
 have hb:b < 2 ^ 64:=by omega
 simp only [bits,Int.toNat_natCast]
 rw [BitVec.ofInt_natCast,BitVec.ofInt_natCast,BitVec.toNat_and]
 simp only [BitVec.toNat_ofNat]
 rw [show IntKind.u64.bits = 64 from rfl,Nat.mod_eq_of_lt ha,Nat.mod_eq_of_lt hb]
 have:a &&& b ≤ a:=Nat.and_le_left
 exact wrapU64 _ (by omega) (by omega)
theorem bits_or64 (x y:Int) (hx:0 ≤ x ∧ x < 18446744073709551616) (hy:0 ≤ y ∧ y < 18446744073709551616):bits .or .u64 x y = ((x.toNat ||| y.toNat:Nat):Int):=by
 obtain ⟨a,rfl⟩:=Int.eq_ofNat_of_zero_le hx.1
 obtain ⟨b,rfl⟩:=Int.eq_ofNat_of_zero_le hy.1
 have ha:a < 2 ^ 64:=by omega
 have hb:b < 2 ^ 64:=by omega
 simp only [bits,Int.toNat_natCast]
 rw [BitVec.ofInt_natCast,BitVec.ofInt_natCast,BitVec.toNat_or]
 simp only [BitVec.toNat_ofNat]
 rw [show IntKind.u64.bits = 64 from rfl,Nat.mod_eq_of_lt ha,Nat.mod_eq_of_lt hb]
 have:=Nat.or_lt_two_pow ha hb
 exact wrapU64 _ (by omega) (by omega)
theorem mask64 (n:Nat) (x m:Int) (hn:n ≤ 64) (hm:m = 2 ^ n - 1) (hx:0 ≤ x ∧ x < 18446744073709551616):bits .and .u64 x m = x % 2 ^ n:=by
 have hp:(0:Int) < 2 ^ n:=Int.pow_pos (by omega)
 have hp':(2:Nat) ^ n ≤ 2 ^ 64:=Nat.pow_le_pow_right (by omega) hn
 have hpc:((2:Int) ^ n) = ((2 ^ n:Nat):Int):=by simp
 rw [bits_and64 x m hx (by rw [hm,hpc]; omega)]
 have:m.toNat = 2 ^ n - 1:=by rw [hm,hpc]; omega
 rw [this,Nat.and_two_pow_sub_one_eq_mod,Int.natCast_emod,Int.toNat_of_nonneg hx.1,hpc]
theorem or_add64 (s:Nat) (x y:Int) (hs:s ≤ 64) (hx:0 ≤ x) (hy:0 ≤ y ∧ y < 2 ^ s) (h:x * 2 ^ s < 18446744073709551616):bits .or .u64 (x * 2 ^ s) y = x * 2 ^ s + y:=by
 obtain ⟨a,rfl⟩:=Int.eq_ofNat_of_zero_le hx
 obtain ⟨b,rfl⟩:=Int.eq_ofNat_of_zero_le hy.1
 have hpc:((2:Int) ^ s) = ((2 ^ s:Nat):Int):=by simp
 rw [hpc] at hy h ⊢
 have hp':(2:Nat) ^ s ≤ 2 ^ 64:=Nat.pow_le_pow_right (by omega) hs
 have hb:b < 2 ^ s:=by omega
 have e:((a:Int) * ((2 ^ s:Nat):Int)) = ((2 ^ s * a:Nat):Int):=by rw [Int.natCast_mul]; exact Int.mul_comm _ _
 rw [e] at h ⊢
 rw [bits_or64 _ _ (by omega) (by omega),Int.toNat_natCast,Int.toNat_natCast,← Nat.two_pow_add_eq_or_of_lt hb]
 simp
end Go.Sh
namespace Go.Sh
open Go Go.RowKit
abbrev Next (w w':World):Prop:=Below w.heap.size w w'
theorem _root_.Go.RowKit.Below.on {a b c:World} (h:Below a.heap.size a b) (k:Below b.heap.size b c):Below a.heap.size a c:=h.trans (k.mono h.size)
theorem _root_.Go.RowKit.Below.drawn {B:Nat} {w:World}:Below B w { w with drawn:=w.drawn + 1 }:=⟨rfl,rfl,rfl,Nat.le_refl _,fun _ _=>rfl⟩
def BoxIs (w:World) (g:Nat) (cs:List Value):Prop:=∀ w',Below w.heap.size w w' → ∀ (i:Nat) (v:Value),cs[i]? = some v → w'.cell? ⟨g,i,none⟩ = some v
theorem BoxIs.next {w w':World} {g:Nat} {cs:List Value} (h:BoxIs w g cs) (hb:Below w.heap.size w w'):BoxIs w' g cs:=
 fun w2 h2=>h w2 (Below.on hb h2)
theorem box_in {P:Program} {w:World} {K:Value → World → Prop} {T T':TypeId} {x:Value} {cs:List Value} (hx:x.cells = cs.toArray)
  (k:∀ g W,Below w.heap.size w W → w.heap.size ≤ g → BoxIs W g cs → K (.pointer (some ⟨g,0,none⟩)) W):oM P (.box T (.tmp 0)) T' [x] K w:=by
 rw [oM_box]
 have e:(Instr.box T x).run P w = .ok (.pointer (some ⟨w.heap.size,0,none⟩)) (w.alloc (.cells cs.toArray T)):=by
  rw [← hx]; rfl
 rw [e]
 refine k _ _ ((Below.refl _ w).alloc (Nat.le_refl _) _) (Nat.le_refl _) (fun w' hb i v hi=>?_)
 have hlt:w.heap.size < (w.alloc (.cells cs.toArray T)).heap.size:=by simp
 rw [hb.cell hlt]
 have:=World.cell?_alloc_at (w:=w) cs.toArray T w.heap.size i rfl
 rw [this]
 simpa using hi
def I64 (n:Int):Prop:=-9223372036854775808 ≤ n ∧ n < 9223372036854775808
def intC (n:Int):List Value:=[.int .i64 n]
structure Ints (w:World) (v:Value) (l:List Int):Prop where
 row:RowR intC 1 w v l
 rng:∀ n ∈ l,I64 n
 len:l.length ≤ 9223372036854775807
theorem Ints.next {w w':World} {v:Value} {l:List Int} (h:Ints w v l) (hb:Below w.heap.size w w'):Ints w' v l:=
 ⟨h.row.keep hb.size (fun i _ hi=>hb.block i hi),h.rng,h.len⟩
theorem Ints.nil (w:World):Ints w (.slice none 0 0) []:=⟨⟨none,0,rfl,fun _=>⟨rfl,rfl⟩,.inl rfl⟩,by simp,by simp⟩
theorem Ints.isSlice {w:World} {v:Value} {l:List Int} (h:Ints w v l):∃ ad c,v = .slice ad l.length c:=by
 obtain ⟨⟨ad,c,hv,_⟩,_⟩:=h; exact ⟨ad,c,hv⟩
theorem flat_int (l:List Int):flat intC l = l.map (fun n=>Value.int .i64 n):=by
 induction l with
 | nil=>rfl
 | cons a l ih=>rw [flat_cons,ih]; rfl
theorem Ints.at {w:World} {ad:Option Addr} {n c:Nat} {l:List Int} (h:Ints w (.slice ad n c) l) {i:Nat} (hi:i < l.length) :
  ∃ b o,ad = some ⟨b,o,none⟩ ∧ b < w.heap.size ∧ (∀ w',Below w.heap.size w w' → w'.cell? ⟨b,o + i,none⟩ = some (.int .i64 l[i])) ∧ I64 l[i] ∧ n = l.length:=by
 obtain ⟨⟨ad',c',hv,h0,hc⟩,hr,_⟩:=h
 cases hv
 rcases hc with rfl | ⟨b,o,rfl,hlt,hc⟩
 ·simp at hi
 ·refine ⟨b,o,rfl,hlt,fun w' hb=>?_,hr _ (List.getElem_mem hi),rfl⟩
  rw [hb.cell hlt]
  exact hc i _ (by rw [flat_int]; simp [hi])
theorem Ints.of_owns {w:World} {B:Nat} {e:TypeId} {v:Value} {l:List Int} (h:w.ownsRow B e 1 v l.length (flat intC l)) (hr:∀ n ∈ l,I64 n) (hl:l.length ≤ 9223372036854775807):Ints w v l:=
 ⟨RowR.of_owns h,hr,hl⟩
@[go_sem] theorem oM_makeFunc2 {P:Program} {K:Value → World → Prop} {w:World} (fn:Fn) (T:TypeId) (x y:Value):oM P (.makeFunc fn #[] #[.tmp 0,.tmp 1]) T [x,y] K w = K (.func fn #[] #[x,y]) w:=oM_of_run (by simp [xop,execOp,evalL,evE,Instr.makeFunc])
@[go_sem] theorem oM_makeFunc01 {P:Program} {K:Value → World → Prop} {w:World} (fn:Fn) (T:TypeId) (x:Value):oM P (.makeFunc fn #[] #[.tmp 0]) T [x] K w = K (.func fn #[] #[x]) w:=oM_of_run (by simp [xop,execOp,evalL,evE,Instr.makeFunc])
end Go.Sh
namespace Go.Sh
open Go
section
variable {P:Program} {K:Value → World → Prop} {w:World} {A B:Prop} {p:Prop} [Decidable p] {b c:Bool} {m:(Value → World → Prop) → World → Prop} {T:TypeId} {x y v:Value} {C:World → Prop} {KQ:Value → Prop}
theorem idGd {g:Bool} (h:gdM g m K w):gdM g m K w:=h
theorem idGdD {q:Prop} {d:Decidable q} (h:gdM (gd (.bool (@decide q d)) c) m K w):gdM (gd (.bool (@decide q d)) c) m K w:=h
theorem idGdN {q:Prop} {d:Decidable q} (h:gdM (gd (.bool (!@decide q d)) c) m K w):gdM (gd (.bool (!@decide q d)) c) m K w:=h
theorem idPick (h:oM P (.pick (.tmp 0) (.tmp 1) (.tmp 2)) T [v,x,y] K w):oM P (.pick (.tmp 0) (.tmp 1) (.tmp 2)) T [v,x,y] K w:=h
theorem idCond (h:condM v A B):condM v A B:=h
theorem idO {o:Op} {l:List Value} (h:oM P o T l K w):oM P o T l K w:=h
theorem idOQ {o:Op} {l:List Value} (h:oQ P o T l C KQ):oQ P o T l C KQ:=h
theorem idGdQ {g:Bool} {n:(World → Prop) → (Value → Prop) → Prop} (h:gdQ g n C KQ):gdQ g n C KQ:=h
theorem zF (k:m K w) (h:p:=by first|assumption|omega):gdM (gd (.bool (decide p)) true) m K w:=gdt_pos h k
theorem zG (k:K undef w) (h:¬p:=by first|assumption|omega):gdM (gd (.bool (decide p)) true) m K w:=gdt_neg h k
theorem zI (k:m K w) (h:¬p:=by first|assumption|omega):gdM (gd (.bool (decide p)) false) m K w:=gdf_pos h k
theorem zJ (k:K undef w) (h:p:=by first|assumption|omega):gdM (gd (.bool (decide p)) false) m K w:=gdf_neg h k
theorem zL (k:m K w) (h:¬p:=by first|assumption|omega):gdM (gd (.bool (!decide p)) true) m K w:=gdtn_pos h k
theorem zM (k:K undef w) (h:p:=by first|assumption|omega):gdM (gd (.bool (!decide p)) true) m K w:=gdtn_neg h k
theorem zO (k:m K w) (h:p:=by first|assumption|omega):gdM (gd (.bool (!decide p)) false) m K w:=gdfn_pos h k
theorem zP (k:K undef w) (h:¬p:=by first|assumption|omega):gdM (gd (.bool (!decide p)) false) m K w:=gdfn_neg h k
theorem zS (k:K undef w) (h:b = true:=by assumption):gdM (gd (.bool (!b)) true) m K w:=gdtbn_neg h k
theorem zV (k:m K w) (h:b = true:=by assumption):gdM (gd (.bool b) true) m K w:=gdtb_pos h k
theorem zW (k:K undef w) (h:b = false:=by assumption):gdM (gd (.bool b) true) m K w:=gdtb_neg h k
theorem zA (k:m K w):gdM (gd (.bool true) true) m K w:=gdtT k
theorem zB (k:K undef w):gdM (gd (.bool false) true) m K w:=gdtF k
theorem zC (k:m K w):gdM (gd (.bool false) false) m K w:=gdfF k
theorem zD (k:K undef w):gdM (gd (.bool true) false) m K w:=gdfT k
theorem zH (h1:p → m K w) (h2:¬p → K undef w):gdM (gd (.bool (decide p)) true) m K w:=gdt_split h1 h2
theorem zK (h1:p → K undef w) (h2:¬p → m K w):gdM (gd (.bool (decide p)) false) m K w:=gdf_split h1 h2
theorem zQ (h1:p → m K w) (h2:¬p → K undef w):gdM (gd (.bool (!decide p)) false) m K w:=gdfn_split h1 h2
theorem zX (h1:b = true → m K w) (h2:b = false → K undef w):gdM (gd (.bool b) true) m K w:=gdtb_split h1 h2
theorem yB (k:K x w):oM P (.pick (.tmp 0) (.tmp 1) (.tmp 2)) T [.bool true,x,y] K w:=pickT k
theorem yC (k:K y w):oM P (.pick (.tmp 0) (.tmp 1) (.tmp 2)) T [.bool false,x,y] K w:=pickF k
theorem yD (k:K x w) (h:p:=by first|assumption|omega):oM P (.pick (.tmp 0) (.tmp 1) (.tmp 2)) T [.bool (decide p),x,y] K w:=pick_pos h k
theorem yE (k:K y w) (h:¬p:=by first|assumption|omega):oM P (.pick (.tmp 0) (.tmp 1) (.tmp 2)) T [.bool (decide p),x,y] K w:=pick_neg h k
theorem yF (k:K x w) (h:¬p:=by first|assumption|omega):oM P (.pick (.tmp 0) (.tmp 1) (.tmp 2)) T [.bool (!decide p),x,y] K w:=pickn_pos h k
theorem yG (k:K y w) (h:p:=by first|assumption|omega):oM P (.pick (.tmp 0) (.tmp 1) (.tmp 2)) T [.bool (!decide p),x,y] K w:=pickn_neg h k
theorem yJ (k:K x w) (h:b = true:=by assumption):oM P (.pick (.tmp 0) (.tmp 1) (.tmp 2)) T [.bool b,x,y] K w:=pickb_pos h k
theorem yK (k:K y w) (h:b = false:=by assumption):oM P (.pick (.tmp 0) (.tmp 1) (.tmp 2)) T [.bool b,x,y] K w:=pickb_neg h k
theorem yL (k:A):condM (.bool true) A B:=condT k
theorem yM (k:B):condM (.bool false) A B:=condF k
theorem yN (k:A) (h:p:=by first|assumption|omega):condM (.bool (decide p)) A B:=cond_pos h k
theorem yO (k:B) (h:¬p:=by first|assumption|omega):condM (.bool (decide p)) A B:=cond_neg h k
theorem yQ (k:A) (h:¬p:=by first|assumption|omega):condM (.bool (!decide p)) A B:=condn_pos h k
theorem yR (k:B) (h:p:=by first|assumption|omega):condM (.bool (!decide p)) A B:=condn_neg h k
theorem yP (h1:p → A) (h2:¬p → B):condM (.bool (decide p)) A B:=condM_dec h1 h2
theorem yV (h1:b = true → B) (h2:b = false → A):condM (.bool (!b)) A B:=condbn_split h1 h2
theorem wA (k:KQ x):oQ P (.pick (.tmp 0) (.tmp 1) (.tmp 2)) T [.bool true,x,y] C KQ:=pickQT k
theorem wB (k:KQ y):oQ P (.pick (.tmp 0) (.tmp 1) (.tmp 2)) T [.bool false,x,y] C KQ:=pickQF k
theorem wE (k:KQ x) (h:¬p:=by first|assumption|omega):oQ P (.pick (.tmp 0) (.tmp 1) (.tmp 2)) T [.bool (!decide p),x,y] C KQ:=pickQn_pos h k
theorem wF (k:KQ y) (h:p:=by first|assumption|omega):oQ P (.pick (.tmp 0) (.tmp 1) (.tmp 2)) T [.bool (!decide p),x,y] C KQ:=pickQn_neg h k
end
end Go.Sh
namespace Go.Sh
open Go Go.RowKit
@[reducible] def cellsAre (w:World):List (Addr × Value) → Prop
 | []=>True
 | p :: l=>w.cell? p.1 = some p.2 ∧ cellsAre w l
theorem cellsAre_keep {w w':World}:∀ {L:List (Addr × Value)},cellsAre w L → (∀ (a:Addr),a.block < w.heap.size → w'.cell? a = w.cell? a) → cellsAre w' L
 | [],_,_=>trivial
 | p :: l,h,k=>by
  refine ⟨?_,cellsAre_keep h.2 k⟩
  have hlt:p.1.block < w.heap.size:=by
   have h1:=h.1
   by_cases hc:p.1.block < w.heap.size
   ·exact hc
   ·unfold World.cell? at h1
    rw [Array.getElem?_eq_none (by omega)] at h1
    simp at h1
  rw [k _ hlt]; exact h.1
theorem cellsAre_keepBut {w w':World} {g:Nat}:∀ {L:List (Addr × Value)},cellsAre w L → (∀ p ∈ L,p.1.block ≠ g) → (∀ (a:Addr),a.block < w.heap.size → a.block ≠ g → w'.cell? a = w.cell? a) → cellsAre w' L
 | [],_,_,_=>trivial
 | p :: l,h,hn,k=>by
  refine ⟨?_,cellsAre_keepBut h.2 (fun q hq=>hn q (List.mem_cons_of_mem _ hq)) k⟩
  have hlt:p.1.block < w.heap.size:=by
   have h1:=h.1
   by_cases hc:p.1.block < w.heap.size
   ·exact hc
   ·unfold World.cell? at h1
    rw [Array.getElem?_eq_none (by omega)] at h1
    simp at h1
  rw [k _ hlt (hn p (List.mem_cons_self ..))]; exact h.1
structure Kn (w0:World) (L:List (Addr × Value)) (w':World):Prop where
 below:Below w0.heap.size w0 w'
 cells:cellsAre w' L
namespace Kn
variable {w0 w w':World} {L:List (Addr × Value)}
theorem start (w:World):Kn w [] w:=⟨Below.refl _ _,trivial⟩
theorem next (h:Kn w0 L w) (hb:Below w.heap.size w w'):Kn w0 L w':=⟨h.below.on hb,cellsAre_keep h.cells fun a ha=>hb.cell ha⟩
theorem drew (h:Kn w0 L w):Kn w0 L { w with drawn:=w.drawn + 1 }:=h.next .drawn
theorem wrote (h:Kn w0 L w) {g:Nat} (hg:w.grownBy w' (some g)) (h0:w0.heap.size ≤ g) (hn:∀ p ∈ L,p.1.block ≠ g):Kn w0 L w':=
 ⟨h.below.grown hg h.below.size (fun k hk=>by cases hk; exact h0),
  cellsAre_keepBut h.cells hn fun a ha hna=>World.cell?_of_block (w:=w) (hg.block _ ha (fun e=>hna (Option.some.inj e)))⟩
theorem less {A:List (Addr × Value)} (h:Kn w0 (A ++ L) w):Kn w0 L w:=⟨h.below,by
 have:=h.cells
 clear h
 induction A with
 | nil=>exact this
 | cons a A ih=>exact ih this.2⟩
end Kn
@[reducible] def cellsOf (L:List (Addr × Value)) (b:Nat):Nat → List Value → List (Addr × Value)
 | _,[]=>L
 | i,v :: l=>(⟨b,i,none⟩,v) :: cellsOf L b (i + 1) l
theorem cellsOf_are {w:World} {b:Nat} {xs:List Value} {L:List (Addr × Value)} (hL:cellsAre w L) (h:∀ (i:Nat) (v:Value),xs[i]? = some v → w.cell? ⟨b,i,none⟩ = some v):∀ (l:List Value) (i:Nat),xs.drop i = l → cellsAre w (cellsOf L b i l)
 | [],_,_=>hL
 | v :: l,i,e=>by
  have hv:xs[i]? = some v:=by
   have:=congrArg (·[0]?) e
   simpa using this
  refine ⟨h i v hv,cellsOf_are hL h l (i + 1) ?_⟩
  have:=congrArg List.tail e
  simpa using this
def Mine (w:World) (g:Nat) (n:Nat):Prop:=∃ cur T,w.heap[g]? = some (.cells cur T (0,0)) ∧ cur.size = n
theorem Mine.next {w w':World} {g n:Nat} (h:Mine w g n) (hb:Below w.heap.size w w'):Mine w' g n:=by
 obtain ⟨cur,T,h1,h2⟩:=h
 refine ⟨cur,T,?_,h2⟩
 rw [hb.block g (Array.getElem?_eq_some_iff.1 h1).1]; exact h1
section
variable {P:Program} {w0 w:World} {K:Value → World → Prop} {T T':TypeId} {L:List (Addr × Value)}
theorem box_kn {x:Value} {cs:List Value} (hx:x.cells = cs.toArray) (hk:Kn w0 L w) (k:∀ b W,Kn w0 (cellsOf L b 0 cs) W → Below w.heap.size w W → w.heap.size ≤ b → K (.pointer (some ⟨b,0,none⟩)) W):oM P (.box T (.tmp 0)) T' [x] K w:=
 box_in hx fun g W h1 h2 h3=>k g W ⟨(hk.next h1).below,cellsOf_are (xs:=cs) (hk.next h1).cells (fun i v hi=>h3 W (Below.refl _ _) i v hi) cs 0 rfl⟩ h1 h2
end
end Go.Sh
namespace Go.Sh
open Go Go.RowKit
theorem cells_lt {w:World}:∀ {L:List (Addr × Value)},cellsAre w L → ∀ p ∈ L,p.1.block < w.heap.size
 | p :: l,h,q,hq=>by
  rcases List.mem_cons.1 hq with rfl | hq
  ·have h1:=h.1
   by_cases hc:q.1.block < w.heap.size
   ·exact hc
   ·unfold World.cell? at h1
    rw [Array.getElem?_eq_none (by omega)] at h1
    simp at h1
  ·exact cells_lt h.2 q hq
structure KnM (w0:World) (L:List (Addr × Value)) (g n:Nat) (w':World):Prop where
 kn:Kn w0 L w'
 mine:Mine w' g n
 base:w0.heap.size ≤ g
 off:∀ p ∈ L,p.1.block ≠ g
theorem mine_lt {w:World} {g n:Nat} (h:Mine w g n):g < w.heap.size:=by
 obtain ⟨cur,T,h1,_⟩:=h
 exact (Array.getElem?_eq_some_iff.1 h1).1
theorem cellsOf_mem {L:List (Addr × Value)} {b:Nat}:∀ (cs:List Value) (i:Nat) (p:Addr × Value),p ∈ cellsOf L b i cs → p.1.block = b ∨ p ∈ L
 | [],_,_,h=>.inr h
 | _ :: l,i,p,h=>by
  rcases List.mem_cons.1 h with rfl | h
  ·exact .inl rfl
  ·exact cellsOf_mem l (i + 1) p h
namespace KnM
variable {w0 w w':World} {L:List (Addr × Value)} {g n:Nat}
theorem next (h:KnM w0 L g n w) (hb:Below w.heap.size w w'):KnM w0 L g n w':=⟨h.kn.next hb,h.mine.next hb,h.base,h.off⟩
theorem drew (h:KnM w0 L g n w):KnM w0 L g n { w with drawn:=w.drawn + 1 }:=h.next .drawn
theorem cells (h:KnM w0 L g n w):cellsAre w L:=h.kn.cells
theorem below (h:KnM w0 L g n w):Below w0.heap.size w0 w:=h.kn.below
end KnM
section
variable {P:Program} {w0 w:World} {K:Value → World → Prop} {T T':TypeId} {L:List (Addr × Value)} {g n:Nat}
theorem alloc_mine {zs:List Value} (hA:∀ w,(Instr.alloc T true (.tuple #[])).run P w = .ok (.pointer (some ⟨w.heap.size,0,none⟩)) (w.alloc (.cells zs.toArray T))) (hn:zs.length = n) (hk:Kn w0 L w)
  (k:∀ g W,KnM w0 L g n W → Below w.heap.size w W → w.heap.size ≤ g → K (.pointer (some ⟨g,0,none⟩)) W):oM P (.alloc T) T' [] K w:=by
 rw [oM_alloc,hA]
 have hb:=(Below.refl w.heap.size w).alloc (Nat.le_refl _) (.cells zs.toArray T)
 refine k _ _ ⟨hk.next hb,⟨zs.toArray,T,?_,by simpa using hn⟩,hk.below.size,fun p hp=>?_⟩ hb (Nat.le_refl _)
 ·show (w.heap.push _)[w.heap.size]? = _
  simp
 ·have:=cells_lt hk.cells p hp
  omega
theorem store_run {x:Value} {xs:List Value} {W:World} (hT:∀ w,(sizeOf T).run P w = .ok n w) (hx:x.cells = xs.toArray) (hl:xs.length = n) (h1:∀ u ∈ xs,u.oneCell' = true) (hm:Mine w g n) :
  ∃ W,(Instr.storeAt T (.pointer (some ⟨g,0,none⟩)) x).run P w = .ok () W ∧ w.grownBy W (some g) ∧ Mine W g n ∧ cellsAre W (cellsOf [] g 0 xs):=by
 obtain ⟨cur,T0,hg,hc⟩:=hm
 have hst:=run_storeCells_at P g 0 T0 xs 0 cur w hg (by omega) h1
 have e1:(cur.toList.take (0 + 0) ++ xs ++ cur.toList.drop (0 + 0 + xs.length)).toArray = xs.toArray:=by
  rw [List.drop_of_length_le (by simp; omega)]
  simp
 rw [e1] at hst
 have hh:=setRow_heap w g cur xs.toArray T0 (0,0) hg
 refine ⟨w.setRow g xs.toArray,?_,grown_setRow _ _ _,⟨_,_,hh,by simpa using hl⟩,cellsOf_are (xs:=xs) (L:=[]) trivial (fun i v hi=>?_) xs 0 rfl⟩
 ·have e2:x.cells.toList = xs:=by rw [hx]
  have e3:x.cells.size = n:=by rw [hx]; simpa using hl
  unfold Instr.storeAt storeVar
  rw [e2,e3]
  simp [hT,go_sem]
  exact hst
 ·unfold World.cell?
  rw [hh]
  simpa using hi
theorem store_mine {x:Value} {xs:List Value} (hT:∀ w,(sizeOf T).run P w = .ok n w) (hx:x.cells = xs.toArray) (hl:xs.length = n) (h1:∀ u ∈ xs,u.oneCell' = true) (hk:KnM w0 L g n w)
  (k:∀ W,KnM w0 L g n W → cellsAre W (cellsOf [] g 0 xs) → K undef W):oM P (.store T (.tmp 0) (.tmp 1)) T' [.pointer (some ⟨g,0,none⟩),x] K w:=by
 obtain ⟨W,e,hg,hm,hc⟩:=store_run (W:=w) hT hx hl h1 hk.mine
 rw [oM_store,e]
 exact k W ⟨hk.kn.wrote hg hk.base hk.off,hm,hk.base,hk.off⟩ hc
theorem local_kn {zs:List Value} {x:Value} {xs:List Value} {T2:TypeId} {K:Value → World → Prop} (hA:∀ w,(Instr.alloc T true (.tuple #[])).run P w = .ok (.pointer (some ⟨w.heap.size,0,none⟩)) (w.alloc (.cells zs.toArray T))) (hn:zs.length = n)
  (hT:∀ w,(sizeOf T).run P w = .ok n w) (hx:x.cells = xs.toArray) (hl:xs.length = n) (h1:∀ u ∈ xs,u.oneCell' = true) (hk:Kn w0 L w)
  (k:∀ b W,Kn w0 (cellsOf L b 0 xs) W → Below w.heap.size w W → w.heap.size ≤ b → K (.pointer (some ⟨b,0,none⟩)) W) :
  oM P (.alloc T) T' [] (fun v w=>oM P (.store T (.tmp 0) (.tmp 1)) T2 [v,x] (fun _ w=>K v w) w) w:=by
 refine alloc_mine hA hn hk fun g W hk2 hb hg=>?_
 obtain ⟨W2,e,hgr,hm,hc⟩:=store_run (W:=w) hT hx hl h1 hk2.mine
 rw [oM_store,e]
 have hb2:Below w.heap.size w W2:=hb.grown hgr hb.size (fun k hk=>by cases hk; exact hg)
 refine k g W2 ⟨(hk2.kn.wrote hgr hk2.base hk2.off).below,?_⟩ hb2 hg
 have hL:=(hk2.kn.wrote hgr hk2.base hk2.off).cells
 clear e k
 have:∀ (l:List Value) (i:Nat),cellsAre W2 (cellsOf [] g i l) → cellsAre W2 (cellsOf L g i l):=by
  intro l
  induction l with
  | nil=>intro i _; exact hL
  | cons a l ih=>intro i h; exact ⟨h.1,ih (i + 1) h.2⟩
 exact this xs 0 hc
theorem local_knm {zs:List Value} {x:Value} {xs:List Value} {T2:TypeId} {K:Value → World → Prop} {m:Nat} (hA:∀ w,(Instr.alloc T true (.tuple #[])).run P w = .ok (.pointer (some ⟨w.heap.size,0,none⟩)) (w.alloc (.cells zs.toArray T))) (hn:zs.length = m)
  (hT:∀ w,(sizeOf T).run P w = .ok m w) (hx:x.cells = xs.toArray) (hl:xs.length = m) (h1:∀ u ∈ xs,u.oneCell' = true) (hk:KnM w0 L g n w)
  (k:∀ b W,KnM w0 (cellsOf L b 0 xs) g n W → Below w.heap.size w W → w.heap.size ≤ b → K (.pointer (some ⟨b,0,none⟩)) W) :
  oM P (.alloc T) T' [] (fun v w=>oM P (.store T (.tmp 0) (.tmp 1)) T2 [v,x] (fun _ w=>K v w) w) w:=
 local_kn hA hn hT hx hl h1 hk.kn fun b W hk' h1 h2=>k b W ⟨hk',hk.mine.next h1,hk.base,fun p hp=>(cellsOf_mem xs 0 p hp).elim (fun e=>by have:=mine_lt hk.mine; omega) (hk.off p)⟩ h1 h2
variable {C:World → Prop} {KQ:Value → Prop} {x y v:Value} {p:Prop} [Decidable p]
theorem idOH {o:Op} {l:List Value} (h:oH P o T l C KQ):oH P o T l C KQ:=h
theorem idGdH {c:Bool} {m:(World → Prop) → (Value → Prop) → Prop} (h:gdH c m C KQ):gdH c m C KQ:=h
theorem gdH_conv {c:Bool} {m:(World → Prop) → (Value → Prop) → Prop} (h:∀ W0,gdM c (fun K' w=>m C (fun v=>K' v w)) (fun v _=>KQ v) W0):gdH c m C KQ:=by
 have h:=h ⟨#[],default,0,default,default⟩
 cases c <;> exact h
theorem pickH {b:Bool} (k:KQ (bif b then x else y)):oH P (.pick (.tmp 0) (.tmp 1) (.tmp 2)) T [.bool b,x,y] C KQ:=by
 refine ⟨_,fun w _=>?_,k⟩
 simp [xop,execOp,evalL,evE,asBool]
theorem pickHT (k:KQ x):oH P (.pick (.tmp 0) (.tmp 1) (.tmp 2)) T [.bool true,x,y] C KQ:=pickH k
theorem pickHF (k:KQ y):oH P (.pick (.tmp 0) (.tmp 1) (.tmp 2)) T [.bool false,x,y] C KQ:=pickH k
theorem vA (k:KQ x):oH P (.pick (.tmp 0) (.tmp 1) (.tmp 2)) T [.bool true,x,y] C KQ:=pickHT k
theorem vB (k:KQ y):oH P (.pick (.tmp 0) (.tmp 1) (.tmp 2)) T [.bool false,x,y] C KQ:=pickHF k
end
end Go.Sh
namespace Go.Sh
open Go Go.RowKit
@[reducible] def ptr (g i:Nat):Value:=.pointer (some ⟨g,i,none⟩)
def Holds (w:World) (g:Nat) (T:TypeId) (vs:List Value):Prop:=w.heap[g]? = some (.cells vs.toArray T (0,0))
theorem Holds.lt {w:World} {g:Nat} {T:TypeId} {vs:List Value} (h:Holds w g T vs):g < w.heap.size:=(Array.getElem?_eq_some_iff.1 h).1
theorem Holds.next {w w':World} {g:Nat} {T:TypeId} {vs:List Value} (h:Holds w g T vs) (hb:Below w.heap.size w w'):Holds w' g T vs:=by
 unfold Holds
 rw [hb.block g h.lt]; exact h
theorem Holds.other {w w':World} {g g':Nat} {T:TypeId} {vs:List Value} (h:Holds w g T vs) (hg:w.grownBy w' (some g')) (hne:g ≠ g'):Holds w' g T vs:=by
 unfold Holds
 rw [hg.block g h.lt (fun e=>hne (by cases e; rfl))]; exact h
theorem Holds.cell {w:World} {g:Nat} {T:TypeId} {vs:List Value} (h:Holds w g T vs) (i:Nat) (hi:i < vs.length):w.cell? ⟨g,i,none⟩ = some vs[i]:=by
 unfold World.cell?
 rw [h]
 simp [hi]
theorem Holds.are {w:World} {g:Nat} {T:TypeId} {vs:List Value} (h:Holds w g T vs):cellsAre w (cellsOf [] g 0 vs):=
 cellsOf_are (xs:=vs) (L:=[]) trivial (fun i v hi=>by
  obtain ⟨hl,rfl⟩:=List.getElem?_eq_some_iff.1 hi
  exact h.cell i hl) vs 0 rfl
section
variable {P:Program} {w:World} {K:Value → World → Prop} {T T' T0:TypeId} {g n:Nat}
theorem arr_alloc {zs:List Value} (hA:∀ w,(Instr.alloc T true (.tuple #[])).run P w = .ok (.pointer (some ⟨w.heap.size,0,none⟩)) (w.alloc (.cells zs.toArray T)))
  (k:∀ g W,Below w.heap.size w W → w.heap.size ≤ g → Holds W g T zs → K (ptr g 0) W):oM P (.alloc T) T' [] K w:=by
 rw [oM_alloc,hA]
 refine k _ _ ((Below.refl w.heap.size w).alloc (Nat.le_refl _) _) (Nat.le_refl _) ?_
 show (w.heap.push _)[w.heap.size]? = _
 simp
theorem arr_box {x:Value} {cs:List Value} (hx:x.cells = cs.toArray) (k:∀ g W,Below w.heap.size w W → w.heap.size ≤ g → Holds W g T cs → K (ptr g 0) W):oM P (.box T (.tmp 0)) T' [x] K w:=by
 rw [oM_box]
 have e:(Instr.box T x).run P w = .ok (.pointer (some ⟨w.heap.size,0,none⟩)) (w.alloc (.cells cs.toArray T)):=by
  rw [← hx]; rfl
 rw [e]
 refine k _ _ ((Below.refl w.heap.size w).alloc (Nat.le_refl _) _) (Nat.le_refl _) ?_
 show (w.heap.push _)[w.heap.size]? = _
 simp
theorem arr_storeRow {o m:Nat} {cur xs:List Value} {x:Value} (hT:∀ w,(sizeOf T).run P w = .ok m w) (hx:x.cells = xs.toArray) (hl:xs.length = m) (h1:∀ u ∈ xs,u.oneCell' = true) (hg:Holds w g T0 cur) (hfit:o + m ≤ cur.length)
  (k:∀ W,w.grownBy W (some g) → Holds W g T0 (cur.take o ++ xs ++ cur.drop (o + m)) → K undef W):oM P (.store T (.tmp 0) (.tmp 1)) T' [ptr g o,x] K w:=by
 have hst:=run_storeCells_at P g o T0 xs 0 cur.toArray w hg (by simp; omega) h1
 rw [Nat.add_zero] at hst
 have e2:x.cells.toList = xs:=by rw [hx]
 have e3:x.cells.size = m:=by rw [hx]; simpa using hl
 have hrun:(Instr.storeAt T (ptr g o) x).run P w = .ok () (w.setRow g (cur.take o ++ xs ++ cur.drop (o + xs.length)).toArray):=by
  unfold Instr.storeAt storeVar
  rw [e2,e3]
  simp only [List.append_assoc] at hst ⊢
  simp [hT,go_sem]
  exact hst
 rw [oM_store,hrun]
 rw [hl] at *
 exact k _ (grown_setRow _ _ _) (setRow_heap w g _ _ T0 (0,0) hg)
theorem arr_store {cur xs:List Value} {x:Value} (hT:∀ w,(sizeOf T).run P w = .ok n w) (hx:x.cells = xs.toArray) (hl:xs.length = n) (h1:∀ u ∈ xs,u.oneCell' = true) (hg:Holds w g T0 cur) (hc:cur.length = n)
  (k:∀ W,w.grownBy W (some g) → Holds W g T0 xs → K undef W):oM P (.store T (.tmp 0) (.tmp 1)) T' [ptr g 0,x] K w:=by
 refine arr_storeRow hT hx hl h1 hg (by omega) (fun W h2 h3=>k W h2 ?_)
 rw [Nat.zero_add,List.take_zero,List.nil_append,List.drop_of_length_le (by omega),List.append_nil] at h3
 exact h3
theorem arr_set {cur:List Value} {x:Value} {i:Nat} (hT:∀ w,(sizeOf T).run P w = .ok 1 w) (hx:x.cells = #[x]) (h1:x.oneCell' = true) (hg:Holds w g T0 cur) (hi:i < cur.length)
  (k:∀ W,w.grownBy W (some g) → Holds W g T0 (cur.set i x) → K undef W):oM P (.store T (.tmp 0) (.tmp 1)) T' [ptr g i,x] K w:=by
 refine arr_storeRow (xs:=[x]) hT hx rfl (by intro u hu; rw [List.mem_singleton] at hu; subst hu; exact h1) hg (by omega) (fun W h2 h3=>k W h2 ?_)
 rw [List.set_eq_take_append_cons_drop,if_pos hi]
 simpa [List.append_assoc] using h3
theorem arr_load {cs:List Value} {d:TypeDesc} (hg:Holds w g T0 cs) (hu:P.underlying T = some d) (hd:(match d with | .struct _ | .array _ _=>true | _=>false) = true) (hi:(P.info? T).map (·.size) = some cs.length) (k:K (.agg cs.toArray) w) :
  oM P (.load T (.tmp 0)) T' [ptr g 0] K w:=by
 rw [oM_load]
 have:=run_loadVar_row (P:=P) w g T0 T cs.toArray (0,0) d hg hu hd (by simpa using hi)
 have e:(Instr.loadAt T (ptr g 0)).run P w = (loadVar T ⟨g,0,none⟩).run P w:=rfl
 rw [e,this]
 exact k
theorem arr_ret {cs:List Value} {d:TypeDesc} (hg:Holds w g T0 cs) (hu:P.underlying T = some d) (hd:(match d with | .struct _ | .array _ _=>true | _=>false) = true) (hi:(P.info? T).map (·.size) = some cs.length) (k:K (.agg cs.toArray) w) :
  ∃ r,(do loadVar T (← asAddr (ptr g 0)):Sem Value).run P w = .ok r w ∧ K r w:=by
 have:=run_loadVar_row (P:=P) w g T0 T cs.toArray (0,0) d hg hu hd (by simpa using hi)
 exact ⟨_,this,k⟩
theorem oM_idx_arr {N:Nat} (t:TypeId) (hu:P.underlying t = some (.array (P.arrayLen t) (P.elem t))) (hN:P.arrayLen t = N) (h2:2 ≤ N) (hs:∀ w,(sizeOf (P.elem t)).run P w = .ok 1 w) (T:TypeId) (b o:Nat) (x:Int) :
  oM P (.indexAddr t (.tmp 0) (.tmp 1)) T [.pointer (some ⟨b,o,none⟩),.int .i64 x] = onM (0 ≤ x ∧ x < N) (.pointer (some ⟨b,o + x.toNat,none⟩)):=by
 funext K w
 rw [oM_indexAddr,run_indexAt_array (h:=hu),hN]
 by_cases hi:0 ≤ x ∧ x < N
 ·rw [if_pos hi,hs]
  simp only [Result.andThen,add_none,Nat.mul_one,rM_ok]
  exact propext ⟨fun h=>⟨hi,h⟩,fun h=>h.2⟩
 ·rw [if_neg hi,if_neg (by omega)]
  obtain ⟨e',w',he⟩:=halts Value P .i64 x N .index w
  rw [he]
  exact propext ⟨fun h=>h.elim,fun h=>hi h.1⟩
theorem grown_below {w0 w':World} (h0:Below w0.heap.size w0 w) (hg:w.grownBy w' (some g)) (h:w0.heap.size ≤ g):Below w0.heap.size w0 w':=
 h0.grown hg h0.size (fun k hk=>by cases hk; exact h)
end
end Go.Sh
namespace Go.Sh
open Go Go.RowKit
abbrev Nx (w w':World):Prop:=Below w.heap.size w w'
variable {S:World → World → Prop} {A N:(Value → World → Prop) → Prop}
theorem monoE {x:Value} (h:A (fun v _=>v = x)) (n:N (fun v _=>v = x)):∃ R:Value → World → Prop,(∀ v w w1,S w w1 → R v w → R v w1) ∧ A R ∧ N R:=⟨_,fun _ _ _ _ h=>h,h,n⟩
theorem monoR (R:Value → World → Prop) (hs:∀ v w w1,S w w1 → R v w → R v w1) (h:A R) (n:N R):∃ R:Value → World → Prop,(∀ v w w1,S w w1 → R v w → R v w1) ∧ A R ∧ N R:=⟨R,hs,h,n⟩
end Go.Sh
namespace Go.Sh
open Go Go.RowKit
structure Yh (B:Prop):Prop where
 o:B
section
theorem An2 {p0 p1:Prop} (h0:p0) (h1:p1):p0 ∧ p1:=⟨h0,h1⟩
theorem An3 {p0 p1 p2:Prop} (h0:p0) (h1:p1) (h2:p2):p0 ∧ p1 ∧ p2:=⟨h0,h1,h2⟩
theorem An4 {p0 p1 p2 p3:Prop} (h0:p0) (h1:p1) (h2:p2) (h3:p3):p0 ∧ p1 ∧ p2 ∧ p3:=⟨h0,h1,h2,h3⟩
theorem An5 {p0 p1 p2 p3 p4:Prop} (h0:p0) (h1:p1) (h2:p2) (h3:p3) (h4:p4):p0 ∧ p1 ∧ p2 ∧ p3 ∧ p4:=⟨h0,h1,h2,h3,h4⟩
theorem An6 {p0 p1 p2 p3 p4 p5:Prop} (h0:p0) (h1:p1) (h2:p2) (h3:p3) (h4:p4) (h5:p5):p0 ∧ p1 ∧ p2 ∧ p3 ∧ p4 ∧ p5:=⟨h0,h1,h2,h3,h4,h5⟩
theorem An7 {p0 p1 p2 p3 p4 p5 p6:Prop} (h0:p0) (h1:p1) (h2:p2) (h3:p3) (h4:p4) (h5:p5) (h6:p6):p0 ∧ p1 ∧ p2 ∧ p3 ∧ p4 ∧ p5 ∧ p6:=⟨h0,h1,h2,h3,h4,h5,h6⟩
theorem An9 {p0 p1 p2 p3 p4 p5 p6 p7 p8:Prop} (h0:p0) (h1:p1) (h2:p2) (h3:p3) (h4:p4) (h5:p5) (h6:p6) (h7:p7) (h8:p8):p0 ∧ p1 ∧ p2 ∧ p3 ∧ p4 ∧ p5 ∧ p6 ∧ p7 ∧ p8:=⟨h0,h1,h2,h3,h4,h5,h6,h7,h8⟩
theorem An13 {p0 p1 p2 p3 p4 p5 p6 p7 p8 p9 p10 p11 p12:Prop} (h0:p0) (h1:p1) (h2:p2) (h3:p3) (h4:p4) (h5:p5) (h6:p6) (h7:p7) (h8:p8) (h9:p9) (h10:p10) (h11:p11) (h12:p12):p0 ∧ p1 ∧ p2 ∧ p3 ∧ p4 ∧ p5 ∧ p6 ∧ p7 ∧ p8 ∧ p9 ∧ p10 ∧ p11 ∧ p12:=⟨h0,h1,h2,h3,h4,h5,h6,h7,h8,h9,h10,h11,h12⟩
theorem An20 {p0 p1 p2 p3 p4 p5 p6 p7 p8 p9 p10 p11 p12 p13 p14 p15 p16 p17 p18 p19:Prop} (h0:p0) (h1:p1) (h2:p2) (h3:p3) (h4:p4) (h5:p5) (h6:p6) (h7:p7) (h8:p8) (h9:p9) (h10:p10) (h11:p11) (h12:p12) (h13:p13) (h14:p14) (h15:p15) (h16:p16) (h17:p17) (h18:p18) (h19:p19):p0 ∧ p1 ∧ p2 ∧ p3 ∧ p4 ∧ p5 ∧ p6 ∧ p7 ∧ p8 ∧ p9 ∧ p10 ∧ p11 ∧ p12 ∧ p13 ∧ p14 ∧ p15 ∧ p16 ∧ p17 ∧ p18 ∧ p19:=⟨h0,h1,h2,h3,h4,h5,h6,h7,h8,h9,h10,h11,h12,h13,h14,h15,h16,h17,h18,h19⟩
theorem Xa {A B F:Prop} (f:F) (b:B) (h:F → Yh B → A:=by
 intro f Y0
 repeat (any_goals (first
 | (with_reducible first|refine pureM_in ?_|((refine idGd ?_); first|refine zA ?_|refine zB ?_|refine zC ?_|refine zD ?_|((refine idGdD ?_); first|refine zF ?_|refine zG ?_|refine zH (fun hg=>?_) fun hg=>?_|refine zI ?_|refine zJ ?_|refine zK (fun hg=>?_) fun hg=>?_)|((refine idGdN ?_); first|refine zL ?_|refine zM ?_|refine zO ?_|refine zP ?_|refine zQ (fun hg=>?_) fun hg=>?_)|refine zV ?_|refine zW ?_|refine zX (fun hg=>?_) fun hg=>?_)|((refine idPick ?_); first|refine yB ?_|refine yC ?_|refine yD ?_|refine yE ?_|refine yF ?_|refine yG ?_|refine yJ ?_|refine yK ?_)|((refine idCond ?_); first|refine yL ?_|refine yM ?_|refine yN ?_|refine yO ?_|refine yP (fun hg=>?_) fun hg=>?_|refine yQ ?_|refine yR ?_))
 | ((with_reducible refine oM_gen fun Kv hK=>?_); simp [go_sem,f]; (try simp (disch:=omega) only [wrapI64,wrapU8,wrapU32,wrapU64]); (first|refine hK _ _ ?_|refine And.intro (by omega) (hK _ _ ?_)); clear hK Kv)))
 exact Y0.o):A:=h f ⟨b⟩
theorem Xa0 {A B:Prop} (b:B) (h:Yh B → A:=by
 intro Y0
 repeat (any_goals (first
 | (with_reducible first|refine pureM_in ?_|((refine idGd ?_); first|refine zA ?_|refine zB ?_|refine zC ?_|refine zD ?_|((refine idGdD ?_); refine zI ?_)|((refine idGdN ?_); refine zM ?_))|((refine idPick ?_); first|refine yB ?_|refine yC ?_|refine yD ?_|refine yE ?_|refine yF ?_|refine yG ?_)|((refine idCond ?_); first|refine yL ?_|refine yM ?_|refine yN ?_|refine yO ?_|refine yP (fun hg=>?_) fun hg=>?_|refine yQ ?_|refine yR ?_))
 | ((with_reducible refine oM_gen fun Kv hK=>?_); simp [go_sem]; (try simp (disch:=omega) only [wrapI64,wrapU8,wrapU32,wrapU64]); (first|refine hK _ _ ?_|refine And.intro (by omega) (hK _ _ ?_)); clear hK Kv)))
 exact Y0.o):A:=h ⟨b⟩
theorem Xb1_0 {A B:Prop} (b:B) (h:Yh B → A:=by
 intro Y0
 iterate 1 (any_goals ((with_reducible refine oM_gen fun Kv hK=>?_); simp [go_sem]; refine hK _ _ ?_; clear hK Kv))
 exact Y0.o):A:=h ⟨b⟩
theorem Xb2_0 {A B:Prop} (b:B) (h:Yh B → A:=by
 intro Y0
 iterate 2 (any_goals ((with_reducible refine oM_gen fun Kv hK=>?_); simp [go_sem]; refine hK _ _ ?_; clear hK Kv))
 exact Y0.o):A:=h ⟨b⟩
theorem Xb7 {A B F:Prop} (f:F) (b:B) (h:F → Yh B → A:=by
 intro f Y0
 iterate 7 (any_goals ((with_reducible refine oM_gen fun Kv hK=>?_); simp [go_sem,f]; refine hK _ _ ?_; clear hK Kv))
 exact Y0.o):A:=h f ⟨b⟩
theorem Xc {A B:Prop} {V:World} {G:World → Prop} (g:(∀ w,Nx V w → G w)) (b:B) (h:(∀ w,Nx V w → G w) → Yh B → A:=by
 intro g Y0
 repeat (any_goals (first
 | (with_reducible first|refine pureH_in ?_|((refine idGdH ?_); refine gdH_conv fun _=>?_)|((refine idGd ?_); first|refine zA ?_|refine zB ?_))
 | ((with_reducible refine idOQ ?_); (with_reducible refine oQ_of ⟨_,rfl⟩ (fun W0 hW0=>by (refine oM_gen (fun Kv hK=>?_)); simp [go_sem,g W0 hW0]; (first | exact hK _ _ ⟨rfl,rfl⟩ | exact ⟨by omega,hK _ _ ⟨rfl,rfl⟩⟩)) ?_))
 | ((with_reducible refine idOH ?_); first|(with_reducible refine vA ?_)|(with_reducible refine oH_of ⟨_,rfl⟩ (fun W0 hW0=>by (refine oM_gen (fun Kv hK=>?_)); simp [go_sem,g W0 hW0]; (first | exact hK _ _ ⟨rfl,rfl⟩ | exact ⟨by omega,hK _ _ ⟨rfl,rfl⟩⟩)) ?_))
 | ((with_reducible refine oM_gen fun Kv hK=>?_); simp [go_sem]; refine hK _ _ ?_; clear hK Kv)))
 exact Y0.o):A:=h g ⟨b⟩
theorem Xc0 {A B:Prop} (b:B) (h:Yh B → A:=by
 intro Y0
 repeat (any_goals (first
 | (with_reducible first|refine pureM_in ?_|((refine idGd ?_); first|refine zA ?_|refine zB ?_|refine zC ?_)|((refine idPick ?_); first|refine yB ?_|refine yC ?_)|((refine idCond ?_); first|refine yL ?_|refine yM ?_|refine yN ?_|refine yO ?_|refine yP (fun hg=>?_) fun hg=>?_))
 | ((with_reducible refine idOH ?_); (with_reducible refine oH_of ⟨_,rfl⟩ (fun W0 hW0=>by (refine oM_gen (fun Kv hK=>?_)); simp [go_sem]; (first | exact hK _ _ ⟨rfl,rfl⟩ | exact ⟨by omega,hK _ _ ⟨rfl,rfl⟩⟩)) ?_))
 | ((with_reducible refine oM_gen fun Kv hK=>?_); simp [go_sem]; (try simp (disch:=omega) only [wrapI64,wrapU8,wrapU32,wrapU64]); (first|refine hK _ _ ?_|refine And.intro (by omega) (hK _ _ ?_)); clear hK Kv)))
 exact Y0.o):A:=h ⟨b⟩
theorem Xd {A B:Prop} {V:World} {G:World → Prop} (g:(∀ w,Nx V w → G w)) (b:B) (h:(∀ w,Nx V w → G w) → Yh B → A:=by
 intro g Y0
 repeat (apply monoE; focus (intro w9 h9; (repeat (intro v9 e9; try (obtain rfl:=e9))); (repeat (any_goals (first
  | (with_reducible first|refine pureM_in ?_|refine zA ?_|refine yB ?_)
  | ((with_reducible refine oM_gen fun Kv hK=>?_); simp [go_sem,g w9 h9]; refine hK _ _ ?_; clear hK Kv)))); exact ⟨h9,Below.refl _ _,rfl⟩))
 exact Y0.o):A:=h g ⟨b⟩
theorem Xd0 {A B:Prop} (b:B) (h:Yh B → A:=by
 intro Y0
 repeat (apply monoE; focus (intro w9 h9; (repeat (intro v9 e9; try (obtain rfl:=e9))); (repeat (any_goals (first
  | (with_reducible refine zB ?_)
  | ((with_reducible refine oM_gen fun Kv hK=>?_); simp [go_sem]; (first|refine hK _ _ ?_|refine And.intro (by omega) (hK _ _ ?_)); clear hK Kv)))); exact ⟨h9,Below.refl _ _,rfl⟩))
 exact Y0.o):A:=h ⟨b⟩
theorem Xf {A B F:Prop} {V:World} {G:World → Prop} (g:(∀ w,Nx V w → G w)) (f:F) (b:B) (h:(∀ w,Nx V w → G w) → F → Yh B → A:=by
 intro g f Y0
 repeat (any_goals (first
 | (with_reducible first|refine pureH_in ?_|((refine idGdH ?_); refine gdH_conv fun _=>?_)|((refine idGd ?_); first|refine zC ?_|refine zD ?_))
 | ((with_reducible refine idOQ ?_); (with_reducible refine oQ_of ⟨_,rfl⟩ (fun W0 hW0=>by (refine oM_gen (fun Kv hK=>?_)); simp [go_sem,g W0 hW0,f]; (first | exact hK _ _ ⟨rfl,rfl⟩ | exact ⟨by omega,hK _ _ ⟨rfl,rfl⟩⟩)) ?_))
 | ((with_reducible refine idOH ?_); first|(with_reducible first|refine vA ?_|refine vB ?_)|(with_reducible refine oH_of ⟨_,rfl⟩ (fun W0 hW0=>by (refine oM_gen (fun Kv hK=>?_)); simp [go_sem,g W0 hW0,f]; (first | exact hK _ _ ⟨rfl,rfl⟩ | exact ⟨by omega,hK _ _ ⟨rfl,rfl⟩⟩)) ?_))))
 exact Y0.o):A:=h g f ⟨b⟩
theorem Xg {A B F:Prop} (f:F) (b:B) (h:F → Yh B → A:=by
 intro f Y0
 repeat (any_goals (first
 | (with_reducible first|refine pureM_in ?_|refine pureQ_in ?_|((refine idGdQ ?_); refine gdQ_conv fun _=>?_)|refine And.intro (Eq.refl (α:=World) _) ?_|refine forall_one ?_|((refine idGd ?_); first|refine zC ?_|refine zD ?_|((refine idGdD ?_); first|refine zF ?_|refine zG ?_|refine zI ?_|refine zJ ?_|refine zK (fun hg=>?_) fun hg=>?_)|((refine idGdN ?_); first|refine zO ?_|refine zP ?_|refine zQ (fun hg=>?_) fun hg=>?_)|refine zV ?_|refine zW ?_|refine zX (fun hg=>?_) fun hg=>?_)|((refine idPick ?_); first|refine yB ?_|refine yC ?_|refine yD ?_|refine yE ?_|refine yJ ?_|refine yK ?_)|((refine idCond ?_); first|refine yL ?_|refine yM ?_|refine yN ?_|refine yO ?_|refine yP (fun hg=>?_) fun hg=>?_|refine yQ ?_|refine yR ?_))
 | ((with_reducible refine idOQ ?_); first|(with_reducible first|refine wA ?_|refine wB ?_|refine wE ?_|refine wF ?_|refine oQ_nil ?_)|((with_reducible refine oQ_one ?_ ?_); exact ⟨_,rfl⟩)|(with_reducible refine oQ_of ⟨_,rfl⟩ (fun W0 hW0=>by (refine oM_gen (fun Kv hK=>?_)); simp [go_sem,f]; (first | exact hK _ _ ⟨rfl,rfl⟩ | exact ⟨by omega,hK _ _ ⟨rfl,rfl⟩⟩)) ?_))
 | ((with_reducible refine oM_gen fun Kv hK=>?_); simp [go_sem,f]; (try simp (disch:=omega) only [wrapI64,wrapU8,wrapU32,wrapU64]); (first|refine hK _ _ ?_|refine And.intro (by omega) (hK _ _ ?_)); clear hK Kv)))
 exact Y0.o):A:=h f ⟨b⟩
end
end Go.Sh
