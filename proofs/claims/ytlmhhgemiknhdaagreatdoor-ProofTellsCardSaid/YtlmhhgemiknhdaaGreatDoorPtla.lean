/- Parts of the proof of the seat's statements (ShCom, ShHeld, ShStage, Sh, ShOps, ShMem, ShQ, ShStr, ShQ2, ShQ3, ShMap, ShMap2, ShMap3, ShMap4, ShMap5, ShRow, ShRow2, ShBuf, ShBuf2, ShBit, ShBox, ShGo, ShKn, ShKn2, ShArr, ShMn, ShWk, HA0, ShRf, HAF, HFd, HTk, HTh): lemmas about the given translation and plain laws. No condition of their own. -/
import Derived.WalkKit
import Derived.Still
import Derived.Deep.Quiet
import Derived.Laws.Panics
import Derived.Laws.DeepStrings4
import Derived.Below
import Derived.Laws.Small
import Derived.MapKept
import Derived.WideKeyRuns
import Derived.Laws.StructEq
import Derived.Laws.IdiomRangeMap
import Derived.Shelf.SlMaps.Clone
import Derived.Lib.BufferWrite
import Derived.Lib.SliceRun
import Derived.Laws.MakeOwn
import Derived.Laws.OwnMore
import Derived.Great.BuildSlice
import Derived.Laws.IdiomStrings
import Derived.Test.YtlmhhgemiknhdaaGreatDoorProg
import Derived.RangeFuncNested
import Derived.RangeFuncLeaves
import Derived.OrdersIn
set_option linter.all false
set_option maxRecDepth 100000
namespace Go.Sh
open Go
abbrev L2:=List (List Int)
abbrev L3:=List L2
theorem lL {a b c:Nat} (h:a < b) (k:b ≤ c):a < c:=Nat.lt_of_lt_of_le h k
theorem bA (a b:Bool):((a && b) = true) = (a = true ∧ b = true):=Bool.and_eq_true a b
theorem dE {p:Prop} [Decidable p]:(decide p = true) = p:=decide_eq_true_eq
theorem bF (b:Bool):(false && b) = false:=Bool.false_and b
theorem bT (b:Bool):(true && b) = b:=Bool.true_and b
theorem oI {α:Type _} {a b:α} (h:some a = some b):a = b:=Option.some.inj h
theorem rL {n:Nat}:n ≤ n:=Nat.le_refl n
abbrev VK:=Value → World → Prop
abbrev WK:=World → Prop
theorem gS {α:Type _} {l:List α} {i:Nat} {a:α} (h:l[i]? = some a):∃ h:i < l.length,l[i] = a:=List.getElem?_eq_some_iff.1 h
theorem gE {α:Type _} {l:List α} {i:Nat} (h:i < l.length):l[i]? = some l[i]:=List.getElem?_eq_getElem h
def b2h (o:Oper):List Nat:=(o.after.toList.filter (Region.binds .any)).map (·.on)
end Go.Sh
namespace Go.Sh
open Go
section
def h1b (o:Oper):Bool:=
 match o.op with
 | .move _ | .pick _ _ _ | .load _ _ | .nilCheck _ | .binOp _ _ _ _ _ | .unOp _ _ _ | .fieldAddr _ _ _ | .field _ _ _ | .indexAddr _ _ _ | .index _ _ _ | .lookup _ _ _ _ | .extract _ _ | .slice _ _ _ _ _=>true
 | .call { callee:=.builtin b,args:=_,argTypes:=_ }=>match b with | .len | .min | .max=>true | _=>false
 | _=>false
def e1n:List Oper → List Bool → List Bool
 | [],acc=>acc
 | o :: rest,acc=>e1n rest (acc ++ [h1b o && (b2h o).all (fun j=>acc.getD j false)])
def e7w (b:Bool):List Bool → Nat → List (Nat × Bool)
 | [],_=>[]
 | x :: xs,i=>bif x == b then (i,b) :: e7w b xs (i + 1) else e7w b xs (i + 1)
def e7x (ops:Array Oper):List (Nat × Bool):=e7w true (e1n ops.toList []) 0 ++ e7w false (e1n ops.toList []) 0
def b5z (ops:Array Oper):List (Nat × Bool) → Array Bool → Bool
 | [],listed=>(Region.ready .any ops listed).isEmpty
 | (i,true) :: r,listed=>(Region.ready .any ops listed).contains i && Region.free .any ops listed i && b5z ops r (listed.setIfInBounds i true)
 | (i,false) :: r,listed=>(Region.ready .any ops listed == [i]) && b5z ops r (listed.setIfInBounds i true)
def e1o (ops:Array Oper):Bool:=Region.noSelect ops && b5z ops (e7x ops) (Array.replicate ops.size false) && Nat.beq (e7x ops).length ops.size
variable {P:Program} {ops:Array Oper} {C:WK}
def a7g (P:Program) (s:Sem Next) (K:VK) (w:World):Prop:=
 match s.run P w with
 | .ok (.value v) w'=>K v w'
 | .ok .skip w'=>K undef w'
 | .ok (.enter f args) w'=>Calls P f args w' (fun e w''=>∃ v,e = .returned v ∧ K v w'')
 | _=>False
theorem b2j {s:Sem Next} {K K':VK} {w:World} (h:a7g P s K w) (hk:∀ v w',K v w' → K' v w'):a7g P s K' w:=by
 unfold a7g at *
 generalize s.run P w = r at *
 cases r with
 | halt=>exact h.elim
 | ok n w'=>
  cases n <;> try exact h.elim
  ·exact hk _ _ h
  ·exact hk _ _ h
  ·exact Calls.mono h (fun e w'' ⟨v,hv,h⟩=>⟨v,hv,hk _ _ h⟩)
def Looks (P:Program) (ops:Array Oper) (C:WK) (o:Oper) (a:Act) (v:Value):Prop:=
 bif Region.wanted o (yielded ops a.tmps) then ∀ w,C w → (execOp a.eval o).run P w = .ok (.value v) w else v = undef
def a5c (P:Program) (ops:Array Oper) (o:Oper) (a:Act) (w:World) (K:Act → WK):Prop:=
 bif Region.wanted o (yielded ops a.tmps) then a7g P (execOp a.eval o) (fun v w'=>K (a.put o.dst v) w') w else K (a.put o.dst undef) w
theorem a4q {o:Oper} {a:Act} {w:World} {K K':Act → WK} (h:a5c P ops o a w K) (hk:∀ v w',K (a.put o.dst v) w' → K' (a.put o.dst v) w'):a5c P ops o a w K':=by
 unfold a5c at *
 cases hw:Region.wanted o (yielded ops a.tmps) with
 | true=>rw [hw] at h; exact b2j h (fun v w'=>hk v w')
 | false=>rw [hw] at h; exact hk _ _ h
def a7h (P:Program) (ops:Array Oper) (C:WK) (Q:Act → WK):List (Nat × Bool) → Act → WK
 | [],a,w=>Q a w
 | (i,true) :: r,a,w=>∃ o,ops[i]? = some o ∧ ∃ v,Looks P ops C o a v ∧ a7h P ops C Q r (a.put o.dst v) w
 | (i,false) :: r,a,w=>∃ o,ops[i]? = some o ∧ a5c P ops o a w (fun a' w'=>C w' ∧ a7h P ops C Q r a' w')
def b9t (P:Program) (ops:Array Oper) (C:WK) (Q:Act → WK):Nat → Array Bool → Act → WK
 | 0,listed,a,w=>C w ∧ Region.ready .any ops listed = [] ∧ Q a w
 | n + 1,listed,a,w=>C w ∧ (Region.ready .any ops listed = [] → Q a w) ∧
  ∀ i ∈ Region.ready .any ops listed,∀ o,ops[i]? = some o → a5c P ops o a w (b9t P ops C Q n (listed.setIfInBounds i true))
theorem g1y {Q:Act → WK} {n:Nat} {listed:Array Bool} {a:Act} {w:World} (h:b9t P ops C Q n listed a w):C w:=by
 cases n <;> exact h.1
theorem a5k {Q:Act → WK} {Q':Exit → Act → WK} (hQ:∀ a w,Q a w → Q' .normal a w):∀ (n:Nat) (listed:Array Bool) (a:Act) (w:World),
  b9t P ops C Q n listed a w → wpAny P .any ops Q' n listed a w
 | 0,_,_,_,h=>⟨h.2.1,hQ _ _ h.2.2⟩
 | n + 1,listed,a,w,h=>by
  refine ⟨fun h0=>hQ _ _ (h.2.1 h0),fun i hi=>?_⟩
  obtain ⟨_,o,ho,_⟩:=mem_ready.1 hi
  have hs:=h.2.2 i hi o ho
  unfold wpOp
  rw [ho]
  show if Region.wanted o (yielded ops a.tmps) = true then _ else _
  unfold a5c at hs
  cases hwant:Region.wanted o (yielded ops a.tmps) with
  | false=>
   rw [hwant] at hs
   rw [if_neg (by simp)]
   exact a5k hQ n _ _ _ hs
  | true=>
   rw [hwant] at hs
   rw [if_pos rfl]
   left
   unfold Oper.wp
   revert hs
   show a7g P (execOp a.eval o) _ w → _
   unfold a7g
   generalize (execOp a.eval o).run P w = r
   intro hs
   cases r with
   | halt x w'=>exact hs.elim
   | ok x w'=>
    cases x with
    | value u=>exact a5k hQ n _ _ _ hs
    | skip=>exact a5k hQ n _ _ _ hs
    | enter f args=>
     refine Calls.mono hs ?_
     rintro e w'' ⟨v,rfl,hc⟩
     exact a5k hQ n _ _ _ hc
    | _=>exact hs.elim
theorem Looks.put {oi oj:Oper} {a:Act} {v u:Value} (hs:∀ cs b,oi.op ≠ .select cs b) (h:∀ d,oj.dst = some d → d ∉ oi.looksAt ops):Looks P ops C oi (a.put oj.dst u) v ↔ Looks P ops C oi a v:=by
 unfold Looks
 rw [wanted_put oi a oj.dst u h,execOp_put oi hs a oj.dst u h]
theorem Looks.step {oi:Oper} {a:Act} {v:Value} {w:World} {K:Act → WK} (h:Looks P ops C oi a v) (hw:C w) (k:K (a.put oi.dst v) w):a5c P ops oi a w K:=by
 unfold Looks at h
 unfold a5c
 cases hwant:Region.wanted oi (yielded ops a.tmps) with
 | false=>rw [hwant] at h; have h:v = undef:=h; subst h; exact k
 | true=>
  rw [hwant] at h
  have h:=h w hw
  show a7g P (execOp a.eval oi) _ w
  unfold a7g
  rw [h]
  exact k
theorem c2g {Q:Act → WK} {i:Nat} {oi:Oper} {v:Value} (hi:ops[i]? = some oi) (hsel:∀ (j:Nat) (o:Oper) cs b,ops[j]? = some o → o.op ≠ .select cs b) :
  ∀ (n:Nat) (listed:Array Bool) (a:Act) (w:World),
   (∀ j oj,ops[j]? = some oj → j ≠ i → listed.getD j true = false → (∀ e ∈ oj.after,Region.binds .any e = true → e.on ≠ i) → oi.apart ops oj = true) →
   i ∈ Region.ready .any ops listed → Looks P ops C oi a v → C w →
   b9t P ops C Q n (listed.setIfInBounds i true) (a.put oi.dst v) w → b9t P ops C Q (n + 1) listed a w:=by
 intro n
 induction n with
 | zero=>
  intro listed a w _ hr hy hw H
  refine ⟨hw,fun h=>absurd hr (by rw [h]; simp),fun j hj oj hoj=>?_⟩
  by_cases hji:j = i
  ·subst hji
   obtain rfl:oi = oj:=by rw [hi] at hoj; exact oI hoj
   exact hy.step hw H
  ·have h1:=ready_mono hj hji
   rw [H.2.1] at h1
   cases h1
 | succ n ih=>
  intro listed a w hfree hr hy hw H
  refine ⟨hw,fun h=>absurd hr (by rw [h]; simp),fun j hj oj hoj=>?_⟩
  by_cases hji:j = i
  ·subst hji
   obtain rfl:oi = oj:=by rw [hi] at hoj; exact oI hoj
   exact hy.step hw H
  ·obtain ⟨hjun,oj',hoj',hall⟩:=mem_ready.1 hj
   obtain rfl:oj = oj':=by rw [hoj] at hoj'; exact oI hoj'
   have hiun:=(mem_ready.1 hr).1
   have hnot:∀ e ∈ oj.after,Region.binds .any e = true → e.on ≠ i:=by
    intro e he hb heq
    have h1:=hall e he hb
    rw [heq] at h1
    unfold Array.getD at h1 hiun
    split at h1
    ·rename_i hlt
     rw [dif_pos hlt] at hiun
     rw [hiun] at h1
     cases h1
    ·cases h1
   have hap:=hfree j oj hoj hji hjun hnot
   obtain ⟨h1,h2,h3⟩:=Oper.apart_spec hap
   have hs:=H.2.2 j (ready_mono hj hji) oj hoj
   have hs':a5c P ops oj a w (fun a' w'=>b9t P ops C Q n ((listed.setIfInBounds i true).setIfInBounds j true) (a'.put oi.dst v) w'):=by
    unfold a5c at hs ⊢
    rw [wanted_put oj a oi.dst v h1,execOp_put oj (fun cs b=>hsel j oj cs b hoj) a oi.dst v h1] at hs
    cases hwant:Region.wanted oj (yielded ops a.tmps) with
    | true=>
     rw [hwant] at hs
     exact b2j hs (fun u w' h=>by
      show b9t P ops C Q n _ ((a.put oj.dst u).put oi.dst v) w'
      rw [← Act.put_comm a v u h2]; exact h)
    | false=>
     rw [hwant] at hs
     show b9t P ops C Q n _ ((a.put oj.dst undef).put oi.dst v) w
     rw [← Act.put_comm a v undef h2]; exact hs
   refine a4q hs' (fun u w' hn=>ih _ _ _ ?_ (ready_mono hr (fun e=>hji e.symm)) ((Looks.put (fun cs b=>hsel i oi cs b hi) h3).2 hy) (g1y hn) ?_)
   ·intro k ok hk hki hun hno
    refine hfree k ok hk hki ?_ hno
    by_cases hjk:j = k
    ·subst hjk; exact hjun
    ·rw [getD_set_ne true hjk] at hun; exact hun
   ·rw [Array.setIfInBounds_comm _ _ hji]
    exact hn
theorem c4c {Q:Act → WK} (hs:Region.noSelect ops = true):∀ (l:List (Nat × Bool)) (listed:Array Bool) (a:Act) (w:World),
  b5z ops l listed = true → C w → a7h P ops C Q l a w → b9t P ops C Q l.length listed a w
 | [],listed,a,w,hB,hw,h=>⟨hw,by simpa [b5z] using hB,h⟩
 | (i,true) :: r,listed,a,w,hB,hw,h=>by
  simp only [b5z,bA] at hB
  obtain ⟨⟨hr,hf⟩,hB'⟩:=hB
  obtain ⟨o,ho,v,hv,hn⟩:=h
  exact c2g ho (Region.noSelect_spec hs) r.length listed a w (Region.free_spec ho hf) (by simpa using hr) hv hw (c4c hs r _ _ w hB' hw hn)
 | (i,false) :: r,listed,a,w,hB,hw,h=>by
  simp only [b5z,bA,beq_iff_eq] at hB
  obtain ⟨hr,hB'⟩:=hB
  obtain ⟨o,ho,hs'⟩:=h
  refine ⟨hw,fun h0=>absurd (hr.symm.trans h0) (by simp),fun j hj oj hoj=>?_⟩
  rw [hr,List.mem_singleton] at hj
  subst hj
  obtain rfl:o = oj:=by rw [ho] at hoj; exact oI hoj
  exact a4q hs' (fun v w' ⟨hc,hn⟩=>c4c hs r _ _ w' hB' hc hn)
theorem e7y {Q:Exit → Act → WK} {a:Act} {w:World} (hB:e1o ops = true) (hC:C { w with drawn:=w.drawn + 1 })
  (h:a7h P ops C (fun a' w'=>Q .normal a' w') (e7x ops) a { w with drawn:=w.drawn + 1 }):wpAny P .any ops Q ops.size (Array.replicate ops.size false) a { w with drawn:=w.drawn + 1 }:=by
 simp only [e1o,bA] at hB
 refine a5k (C:=C) (Q:=fun a' w'=>Q .normal a' w') (fun a w h=>h) _ _ _ _ ?_
 have:=c4c hB.1.1 _ _ _ _ hB.1.2 hC h
 rw [Nat.eq_of_beq_eq_true hB.2] at this
 exact this
inductive Tr where
 | done
 | look (i:Nat) (t:Tr)
 | only (i:Nat) (t:Tr)
 | alt (i:Nat) (t u:Tr)
def Tr.heads:Tr → List Nat
 | .only i _=>[i]
 | .alt i _ u=>i :: u.heads
 | _=>[]
def trB (ops:Array Oper):Tr → Bool → Nat → Array Bool → Bool
 | .done,_,m,listed=>Nat.beq m 0 && (Region.ready .any ops listed).isEmpty
 | .look i t,inside,m,listed=>!inside && (Nat.ble 1 m && ((Region.ready .any ops listed).contains i && (Region.free .any ops listed i && trB ops t false (m - 1) (listed.setIfInBounds i true))))
 | .only i t,inside,m,listed=>(inside || Region.ready .any ops listed == [i]) && (Nat.ble 1 m && trB ops t false (m - 1) (listed.setIfInBounds i true))
 | .alt i t u,inside,m,listed=>(inside || Region.ready .any ops listed == i :: u.heads) && (Nat.ble 1 m && (trB ops t false (m - 1) (listed.setIfInBounds i true) && trB ops u true m listed))
def g7h (ops:Array Oper) (t:Tr):Bool:=Region.noSelect ops && trB ops t false ops.size (Array.replicate ops.size false)
end
end Go.Sh

namespace Go.Sh
open Go
abbrev Env:=Nat → Value
def evE (e:Env):Operand → Value
 | .tmp t=>e t
 | .const v=>v
 | .global g=>.pointer (some ⟨g,0,none⟩)
 | .func f=>.func (.func f) #[] #[]
def upd (n:Nat) (e:Env):Option Nat → Value → Env
 | none,_=>e
 | some d,v=>fun i=>bif Nat.beq i d && Nat.blt d n then v else e i
structure Rel (ds:List Deferred) (n:Nat) (e:Env) (a:Act):Prop where
 size:a.tmps.size = n
 defers:a.defers = ds
 get:∀ i,a.tmps.getD i undef = e i
variable {ds:List Deferred}
theorem Rel.eval {n:Nat} {e:Env} {a:Act} (h:Rel ds n e a):a.eval = evE e:=by
 funext x
 cases x <;> simp only [Act.eval,evE]
 exact h.get _
theorem Rel.put {n:Nat} {e:Env} {a:Act} (h:Rel ds n e a) (d:Option Nat) (v:Value):Rel ds n (upd n e d v) (a.put d v):=by
 cases d with
 | none=>exact h
 | some d=>
  refine ⟨by simp [Act.put,h.size],by simpa [Act.put] using h.defers,fun i=>?_⟩
  have hg:=h.get i
  simp only [Act.put,upd,Array.getD_eq_getD_getElem?,Array.getElem?_setIfInBounds,h.size] at hg ⊢
  by_cases hi:i = d
  ·subst hi
   by_cases hd:i < n
   ·have hb:Nat.blt i n = true:=by simpa [Nat.blt,Nat.succ_le_iff] using hd
    simp [hd,hb]
   ·have hb:Nat.blt i n = false:=by
     cases hx:Nat.blt i n with
     | false=>rfl
     | true=>exact absurd (by simpa [Nat.blt,Nat.succ_le_iff] using hx) hd
    simp [hd,← hg,h.size,hb]
  ·have hb:Nat.beq i d = false:=by
    cases hx:Nat.beq i d with
    | false=>rfl
    | true=>exact absurd (Nat.eq_of_beq_eq_true hx) hi
   rw [if_neg (fun e=>hi e.symm),hg,hb]
   rfl
def opM (P:Program) (s:Sem Next) (K:VK) (w:World):Prop:=
 match s.run P w with
 | .ok (.value v) w'=>K v w'
 | .ok .skip w'=>K undef w'
 | .ok (.enter f args) w'=>Calls P f args w' (fun e w''=>∃ v,e = .returned v ∧ K v w'')
 | _=>False
def a0a (P:Program) (f:FuncId) (args:Array Value) (K:VK) (w:World):Prop:=
 Calls P f args w (fun e w'=>∃ v,e = .returned v ∧ K v w')
def g3r (P:Program) (f:FuncId) (args:Array Value) (K:VK) (w:World):Prop:=opM P (callFunc f args) K w
def a0j (v:Value) (K:VK) (w:World):Prop:=K v w
theorem e1d {P:Program} {x:Sem Value} {K:VK} {w:World}:opM P (do let v ← x; pure (.value v)) K w ↔ ∃ v w',x.run P w = .ok v w' ∧ K v w':=by
 unfold opM
 rw [Sem.run_bind]
 generalize x.run P w = r
 cases r with
 | halt=>simp
 | ok v w'=>exact ⟨fun h=>⟨v,w',rfl,h⟩,fun ⟨_,_,h,hk⟩=>by cases h; exact hk⟩
theorem b3k {P:Program} {s:Sem Next} {K K':VK} {w:World} (h:opM P s K w) (hk:∀ v w',K v w' → K' v w'):opM P s K' w:=by
 unfold opM at *
 generalize s.run P w = r at *
 cases r with
 | halt=>exact h.elim
 | ok n w'=>
  cases n <;> try exact h.elim
  ·exact hk _ _ h
  ·exact hk _ _ h
  ·exact Calls.mono h (fun e w'' ⟨v,hv,h⟩=>⟨v,hv,hk _ _ h⟩)
theorem f3s {P:Program} {o:Oper} {a:Act} {w:World} {next:Act → WK} {Q:Exit → Act → WK}
  (h:opM P (execOp a.eval o) (fun v w'=>next (a.put o.dst v) w') w):o.wp P a w next Q:=by
 unfold opM at h; unfold Oper.wp
 generalize (execOp a.eval o).run P w = r at h
 cases r with
 | halt=>exact h.elim
 | ok n w'=>
  cases n <;> try exact h.elim
  ·exact h
  ·exact h
  ·rw [Oper.upon_enter]
   refine Calls.mono h ?_
   rintro e w'' ⟨v,rfl,hk⟩
   exact hk
def a7r:Operand → Bool
 | .const _=>true
 | _=>false
def num (keep:Bool):Nat → List Operand → List Operand × List Operand
 | _,[]=>([],[])
 | k,x :: xs=>bif keep && a7r x then (x :: (num keep k xs).1,(num keep k xs).2) else (.tmp k :: (num keep (k + 1) xs).1,x :: (num keep (k + 1) xs).2)
def e7h:Nat → List (Nat × Operand) → List (Nat × Operand) × List Operand
 | _,[]=>([],[])
 | k,(i,x) :: xs=>((i,.tmp k) :: (e7h (k + 1) xs).1,x :: (e7h (k + 1) xs).2)
def e2w (k:Nat):Option Operand → Option Operand × List Operand
 | none=>(none,[])
 | some x=>(some (.tmp k),[x])
def a9h:Op → Option (Op × List Operand)
 | .pick c a b=>some (.pick (.tmp 0) (.tmp 1) (.tmp 2),[c,a,b])
 | .alloc t=>some (.alloc t,[])
 | .box t x=>some (.box t (.tmp 0),[x])
 | .build t ps=>some (.build t (e7h 0 ps.toList).1.toArray,(e7h 0 ps.toList).2)
 | .buildSlice t n ps=>some (.buildSlice t n (e7h 0 ps.toList).1.toArray,(e7h 0 ps.toList).2)
 | .load t a=>some (.load t (.tmp 0),[a])
 | .store t a x=>some (.store t (.tmp 0) (.tmp 1),[a,x])
 | .nilCheck x=>some (.nilCheck (.tmp 0),[x])
 | .binOp .eql t x y t'=>some (.binOp .eql t ((num true 0 [x,y]).1.getD 0 x) ((num true 0 [x,y]).1.getD 1 x) t',(num true 0 [x,y]).2)
 | .binOp .neq t x y t'=>some (.binOp .neq t ((num true 0 [x,y]).1.getD 0 x) ((num true 0 [x,y]).1.getD 1 x) t',(num true 0 [x,y]).2)
 | .binOp o t x y t'=>some (.binOp o t (.tmp 0) (.tmp 1) t',[x,y])
 | .unOp o t x=>some (.unOp o t (.tmp 0),[x])
 | .convert s d x=>some (.convert s d (.tmp 0),[x])
 | .makeInterface t x=>some (.makeInterface t (.tmp 0),[x])
 | .makeFunc fn fs cs=>some (.makeFunc fn (num false 0 fs.toList).1.toArray (num false fs.size cs.toList).1.toArray,(num false 0 fs.toList).2 ++ (num false fs.size cs.toList).2)
 | .makeMap t r=>some (.makeMap t (e2w 0 r).1,(e2w 0 r).2)
 | .makeSlice t l c=>some (.makeSlice t (.tmp 0) (.tmp 1),[l,c])
 | .slice t x lo hi none=>some (.slice t (.tmp 0) (e2w 1 lo).1 (e2w (1 + (e2w 1 lo).2.length) hi).1 none,x :: ((e2w 1 lo).2 ++ (e2w (1 + (e2w 1 lo).2.length) hi).2))
 | .fieldAddr t x f=>some (.fieldAddr t (.tmp 0) f,[x])
 | .field t x f=>some (.field t (.tmp 0) f,[x])
 | .indexAddr t x i=>some (.indexAddr t (.tmp 0) (.tmp 1),[x,i])
 | .index t x i=>some (.index t (.tmp 0) (.tmp 1),[x,i])
 | .lookup t x i ok=>some (.lookup t (.tmp 0) (.tmp 1) ok,[x,i])
 | .mapUpdate t m k x=>some (.mapUpdate t (.tmp 0) (.tmp 1) (.tmp 2),[m,k,x])
 | .insert t m k x=>some (.insert t (.tmp 0) (.tmp 1) (.tmp 2),[m,k,x])
 | .mapEntry t m k=>some (.mapEntry t (.tmp 0) (.tmp 1),[m,k])
 | .entryStore t m s x=>some (.entryStore t (.tmp 0) (.tmp 1) (.tmp 2),[m,s,x])
 | .range t x=>some (.range t (.tmp 0),[x])
 | .next it s=>some (.next (.tmp 0) s,[it])
 | .entry it=>some (.entry (.tmp 0),[it])
 | .typeAssert x t t' ok=>some (.typeAssert (.tmp 0) t t' ok,[x])
 | .extract t i=>some (.extract (.tmp 0) i,[t])
 | .panic x=>some (.panic (.tmp 0),[x])
 | .call { callee:=.builtin b,args:=args,argTypes:=ts }=>some (.call { callee:=.builtin b,args:=(num true 0 args.toList).1.toArray,argTypes:=ts },(num true 0 args.toList).2)
 | .call { callee:=.value f,args:=args,argTypes:=ts }=>some (.call { callee:=.value (.tmp 0),args:=(num false 1 args.toList).1.toArray,argTypes:=ts },f :: (num false 1 args.toList).2)
 | _=>none
def a1h (args:List Value):Operand → Value:=evE (fun t=>args.getD t undef)
theorem c3x (keep:Bool) (ρ:Operand → Value) (hc:∀ v,ρ (.const v) = v):∀ (xs:List Operand) (k:Nat) (pre:List Value) (post:List Value),pre.length = k →
  (num keep k xs).1.map (a1h (pre ++ (num keep k xs).2.map ρ ++ post)) = xs.map ρ
 | [],_,_,_,_=>rfl
 | x :: xs,k,pre,post,hk=>by
  unfold num
  cases hb:keep && a7r x with
  | true=>
   simp only [cond_true,List.map_cons]
   rw [c3x keep ρ hc xs k pre post hk]
   congr 1
   cases x <;> simp_all [a7r,a1h,evE]
  | false=>
   simp only [cond_false,List.map_cons]
   have:=c3x keep ρ hc xs (k + 1) (pre ++ [ρ x]) post (by simp [hk])
   simp only [List.append_assoc,List.cons_append,List.nil_append] at this ⊢
   rw [this]
   congr 1
   simp [a1h,evE,← hk]
theorem b8v (keep:Bool):∀ (xs:List Operand) (k:Nat),keep = true → (num keep k xs).1.map a7r = xs.map a7r
 | [],_,_=>rfl
 | x :: xs,k,hk=>by
  unfold num
  subst hk
  cases hb:a7r x with
  | true=>simp [hb,b8v true xs k rfl]
  | false=>
   simp [hb,b8v true xs (k + 1) rfl]
   rfl
theorem b8w (ρ:Operand → Value):∀ (xs:List (Nat × Operand)) (k:Nat) (pre:List Value),pre.length = k →
  (e7h k xs).1.map (fun (i,x)=>(i,a1h (pre ++ (e7h k xs).2.map ρ) x)) = xs.map (fun (i,x)=>(i,ρ x))
 | [],_,_,_=>rfl
 | (i,x) :: xs,k,pre,hk=>by
  unfold e7h
  simp only [List.map_cons]
  have:=b8w ρ xs (k + 1) (pre ++ [ρ x]) (by simp [hk])
  simp only [List.append_assoc,List.cons_append,List.nil_append] at this
  rw [this]
  congr 1
  simp [a1h,evE,← hk]
def xop (o : Op) (type : TypeId) (args : List Value) : Sem Next := execOp (a1h args) { dst := none, op := o, type := type, pos := "", after := #[], guard := none }
theorem c3y (ρ:Operand → Value) (hc:∀ v,ρ (.const v) = v) (keep:Bool) (xs:Array Operand) (k:Nat) (pre post:List Value) (hk:pre.length = k) :
  (num keep k xs.toList).1.toArray.map (a1h (pre ++ (num keep k xs.toList).2.map ρ ++ post)) = xs.map ρ:=by
 rw [List.map_toArray,c3x keep ρ hc _ _ _ _ hk]
 apply Array.ext'
 rw [Array.toList_map]
theorem a9x {ρ:Operand → Value} (hc:∀ v,ρ (.const v) = v) (o:Oper) (op':Op) (xs:List Operand) (h:a9h o.op = some (op',xs)) :
  execOp ρ o = xop op' o.type (xs.map ρ):=by
 obtain ⟨dst,op,type,pos,after,guard⟩:=o
 unfold xop
 cases op with
 | binOp b t x y t'=>
  cases b with
  | eql=>cases x <;> cases y <;> simp only [a9h,Option.some.injEq,Prod.mk.injEq] at h <;> obtain ⟨rfl,rfl⟩:=h <;> simp only [num,a7r,Bool.and_true,Bool.and_false,cond_true,cond_false,List.getD_cons_zero,List.getD_cons_succ,List.map_cons,List.map_nil,execOp,a1h,evE,hc] <;> rfl
  | neq=>cases x <;> cases y <;> simp only [a9h,Option.some.injEq,Prod.mk.injEq] at h <;> obtain ⟨rfl,rfl⟩:=h <;> simp only [num,a7r,Bool.and_true,Bool.and_false,cond_true,cond_false,List.getD_cons_zero,List.getD_cons_succ,List.map_cons,List.map_nil,execOp,a1h,evE,hc] <;> rfl
  | _=>simp only [a9h,Option.some.injEq,Prod.mk.injEq] at h; obtain ⟨rfl,rfl⟩:=h; rfl
 | build t ps=>
  simp only [a9h,Option.some.injEq,Prod.mk.injEq] at h
  obtain ⟨rfl,rfl⟩:=h
  have:=b8w ρ ps.toList 0 [] rfl
  simp only [List.nil_append] at this
  have e:Array.map (fun x=>(x.1,ρ x.2)) ps = (List.map (fun x=>(x.1,ρ x.2)) ps.toList).toArray:=by
   apply Array.ext'
   rw [Array.toList_map]
  simp only [execOp,List.map_toArray,this,e]
 | buildSlice t n ps=>
  simp only [a9h,Option.some.injEq,Prod.mk.injEq] at h
  obtain ⟨rfl,rfl⟩:=h
  have:=b8w ρ ps.toList 0 [] rfl
  simp only [List.nil_append] at this
  have e:Array.map (fun x=>(x.1,ρ x.2)) ps = (List.map (fun x=>(x.1,ρ x.2)) ps.toList).toArray:=by
   apply Array.ext'
   rw [Array.toList_map]
  simp only [execOp,List.map_toArray,this,e]
 | makeFunc fn fs cs=>
  simp only [a9h,Option.some.injEq,Prod.mk.injEq] at h
  obtain ⟨rfl,rfl⟩:=h
  have h1:=c3y ρ hc false fs 0 [] ((num false fs.size cs.toList).2.map ρ) rfl
  have hl:∀ (xs:List Operand) (k:Nat),(num false k xs).2.length = xs.length:=by
   intro xs
   induction xs with
   | nil=>intro k; rfl
   | cons x xs ih=>intro k; simp [num,ih]
  have h2:=c3y ρ hc false cs fs.size ((num false 0 fs.toList).2.map ρ) [] (by simp [hl])
  simp only [List.nil_append,List.append_nil] at h1 h2
  simp only [execOp,List.map_append,h1,h2]
 | makeMap t r=>
  cases r <;> simp only [a9h,e2w,Option.some.injEq,Prod.mk.injEq] at h <;> obtain ⟨rfl,rfl⟩:=h <;> rfl
 | slice t x lo hi mx=>
  cases mx <;> cases lo <;> cases hi <;> simp only [a9h,e2w,Option.some.injEq,Prod.mk.injEq,reduceCtorEq] at h <;> obtain ⟨rfl,rfl⟩:=h <;> rfl
 | call c=>
  obtain ⟨callee,args,ts⟩:=c
  cases callee with
  | invoke r m=>simp [a9h] at h
  | builtin b=>
   simp only [a9h,Option.some.injEq,Prod.mk.injEq] at h
   obtain ⟨rfl,rfl⟩:=h
   have h1:=c3y ρ hc true args 0 [] [] rfl
   simp only [List.nil_append,List.append_nil] at h1
   have h2:=b8v true args.toList 0 rfl
   simp only [execOp,resolve,h1]
   have e:∀ G:Operand → Bool,(∀ x,G x = a7r x) → Array.map G args = Array.map G (num true 0 args.toList).1.toArray:=by
    intro G hG
    have:G = a7r:=funext hG
    subst this
    apply Array.ext'
    rw [Array.toList_map,Array.toList_map]
    exact h2.symm
   exact congrArg (fun cs=>(do let d ← pure ({ target:=Target.builtin b ts type cs,args:=Array.map ρ args }:Deferred); invoke d.target d.args:Sem Next)) (e _ (fun x=>by cases x <;> rfl))
  | value f=>
   simp only [a9h,Option.some.injEq,Prod.mk.injEq] at h
   obtain ⟨rfl,rfl⟩:=h
   have h1:=c3y ρ hc false args 1 [ρ f] [] rfl
   simp only [List.append_nil] at h1
   simp only [execOp,resolve,List.map_cons]
   have:a1h (ρ f :: (num false 1 args.toList).2.map ρ) = a1h ([ρ f] ++ (num false 1 args.toList).2.map ρ):=rfl
   rw [this,h1]
   rfl
 | _=>first | (simp only [a9h,Option.some.injEq,Prod.mk.injEq] at h; obtain ⟨rfl,rfl⟩:=h; rfl) | (simp [a9h] at h)
def oM (P:Program) (o:Op) (type:TypeId) (args:List Value) (K:VK) (w:World):Prop:=opM P (xop o type args) K w
def gd (v:Value) (want:Bool):Bool:=(match (some v:Option Value) with | some (.bool b)=>some b | _=>none) == some want
def gdM (g:Bool) (m:(VK) → WK) (K:VK) (w:World):Prop:=bif g then m K w else K undef w
def a0v (v:Value) (A B:Prop):Prop:=∃ t,v = .bool t ∧ (t = true → A) ∧ (t = false → B)
def b3l (P:Program) (f:FuncId):Bool:=match P.funcs[f]? with
 | some fn => fn.body.isSome && !(fn.name == "runtime.NumGoroutine")
 | none=>false
theorem b0t {P:Program} {f:FuncId} (h:b3l P f = true) (args:Array Value) (w:World):(callFunc f args).run P w = .ok (.enter f args) w:=by
 unfold b3l at h
 unfold callFunc
 rw [Sem.run_bind]
 have hp:(program:Sem Program).run P w = .ok P w:=rfl
 rw [hp,Result.andThen_ok]
 split at h
 ·rename_i fn hfn
  simp only [hfn]
  simp only [bA,Bool.not_eq_true'] at h
  have hn:fn.body.isNone = false:=by
   have:=h.1
   cases hx:fn.body with
   | none=>rw [hx] at this; exact absurd this (by simp)
   | some c=>rfl
  rw [if_neg (by rw [h.2]; simp),if_neg (by rw [hn]; simp)]
  rfl
 ·exact absurd h (by simp)
def c2b:Op → Option (FuncId × List Operand)
 | .call { callee:=.value (.func f),args:=args,argTypes:=_ }=>some (f,args.toList)
 | _=>none
def d2r:Op → Option Operand
 | .move x | .assign x=>some x
 | _=>none
def op1 (P:Program) (e:Env) (o:Oper) (K:VK) (w:World):Prop:=
 match d2r o.op with
 | some x=>K (evE e x) w
 | none=>
  match c2b o.op with
  | some (f,xs)=>match b3l P f with | true=>a0a P f (xs.map (evE e)).toArray K w | false=>g3r P f (xs.map (evE e)).toArray K w
  | none=>
   match a9h o.op with
   | some (op',xs)=>oM P op' o.type (xs.map (evE e)) K w
   | none=>False
theorem b4z {ρ:Operand → Value} {o:Oper} {x:Operand} (hx:d2r o.op = some x):execOp ρ o = pure (.value (ρ x)):=by
 unfold d2r at hx
 split at hx
 ·rename_i hop; simp only [Option.some.injEq] at hx; subst hx; unfold execOp; rw [hop]
 ·rename_i hop; simp only [Option.some.injEq] at hx; subst hx; unfold execOp; rw [hop]
 ·simp at hx
theorem b8x {ρ:Operand → Value} {o:Oper} {f:FuncId} {xs:List Operand} (hf:ρ (.func f) = .func (.func f) #[] #[]) (hs:c2b o.op = some (f,xs)) :
  execOp ρ o = callFunc f (xs.map ρ).toArray:=by
 unfold c2b at hs
 split at hs
 ·rename_i g args ts hop
  simp only [Option.some.injEq,Prod.mk.injEq] at hs
  obtain ⟨rfl,rfl⟩:=hs
  have e1:(args.toList.map ρ).toArray = args.map ρ:=by
   apply Array.ext'
   rw [Array.toList_map]
  rw [e1]
  unfold execOp
  rw [hop]
  show (do let d ← resolve ρ { callee:=.value (.func g),args:=args,argTypes:=ts } o.type; invoke d.target d.args:Sem Next) = _
  have e2:(do let d ← resolve ρ { callee:=.value (.func g),args:=args,argTypes:=ts } o.type; invoke d.target d.args:Sem Next) = callFunc g (#[] ++ args.map ρ ++ #[]):=by
   unfold resolve
   simp only [hf]
   rfl
  rw [e2,Array.append_empty,Array.empty_append]
 ·simp at hs
theorem b8y {P:Program} {e:Env} {o:Oper} {K:VK} {w:World} (h:op1 P e o K w):opM P (execOp (evE e) o) K w:=by
 unfold op1 at h
 split at h
 ·rename_i x hx
  rw [b4z hx]
  exact h
 ·split at h
  ·rename_i f xs hs
   rw [b8x rfl hs]
   cases hb:b3l P f with
   | false=>rw [hb] at h; exact h
   | true=>
    rw [hb] at h
    unfold opM
    rw [b0t hb]
    exact h
  ·split at h
   ·rename_i op' xs hr
    rw [a9x (fun _=>rfl) o op' xs hr]
    exact h
   ·exact h.elim
def a4y (all:Array Oper) (j:Nat):Option Nat:=(all[j]?).bind (·.dst)
def gdE (all:Array Oper) (e:Env) (j:Nat) (want:Bool):Bool:=
 match a4y all j with
 | some d=>gd (e d) want
 | none=>false
theorem a5h {n:Nat} {e:Env} {a:Act} (h:Rel ds n e a) (all:Array Oper) (o:Oper) (j:Nat) (want:Bool) (ho:o.guard = some (j,want)) :
  Region.wanted o (yielded all a.tmps) = gdE all e j want:=by
 unfold Region.wanted
 rw [ho]
 show (yielded all a.tmps j == some want) = _
 unfold gdE a4y yielded
 cases hd:(all[j]?).bind (·.dst) with
 | none=>rw [Option.bind_none]; cases want <;> rfl
 | some d=>
  have hg:=h.get d
  rw [Option.bind_some]
  show _ = gd (e d) want
  unfold gd
  rw [← hg,Array.getD_eq_getD_getElem?]
  cases hx:a.tmps[d]? with
  | none=>cases want <;> rfl
  | some v=>rfl
def ops (P:Program) (n:Nat) (all:Array Oper) (K:Env → WK):List Oper → Env → WK
 | [],e,w=>K e w
 | o :: rest,e,w=>
  match o.guard with
  | none=>op1 P e o (fun v w'=>ops P n all K rest (upd n e o.dst v) w') w
  | some (j,want)=>gdM (gdE all e j want) (op1 P e o) (fun v w'=>ops P n all K rest (upd n e o.dst v) w') w
def AgreeE (mods:List Nat) (e e':Env):Prop:=∀ i,mods.contains i = false → e' i = e i
theorem AgreeE.refl (mods:List Nat) (e:Env):AgreeE mods e e:=fun _ _=>rfl
theorem AgreeE.trans {mods:List Nat} {a b c:Env} (h:AgreeE mods a b) (k:AgreeE mods b c):AgreeE mods a c:=fun i hi=>(k i hi).trans (h i hi)
theorem AgreeE.mono {m m':List Nat} {a b:Env} (h:AgreeE m a b) (hm:∀ i ∈ m,i ∈ m'):AgreeE m' a b:=fun i hi=>h i (by
 cases hx:m.contains i with
 | false=>rfl
 | true=>
  have:=hm i (by simpa using hx)
  simp [this] at hi)
theorem AgreeE.upd {mods:List Nat} {n:Nat} {e:Env} {o:Option Nat} (v:Value) (h:∀ d,o = some d → d ∈ mods):AgreeE mods e (upd n e o v):=by
 cases o with
 | none=>exact AgreeE.refl _ _
 | some d=>
  intro i hi
  unfold Sh.upd
  have hne:i ≠ d:=by
   rintro rfl
   have:=h i rfl
   simp [this] at hi
  have hb:Nat.beq i d = false:=by
   cases hx:Nat.beq i d with
   | false=>rfl
   | true=>exact absurd (Nat.eq_of_beq_eq_true hx) hne
  simp only [hb,bF,cond_false]
theorem f3t {P:Program} {n:Nat} {all:Array Oper} {mods:List Nat} {K:Env → WK}:∀ (l:List Oper) (e:Env) (a:Act) (w:World),Rel ds n e a →
  (∀ o ∈ l,∀ d,o.dst = some d → d ∈ mods) → ops P n all K l e w →
  wpList P all (fun ex a' w'=>ex = .normal ∧ ∃ e',Rel ds n e' a' ∧ AgreeE mods e e' ∧ K e' w') l a w
 | [],e,a,w,hr,_,h=>⟨rfl,e,hr,AgreeE.refl _ _,h⟩
 | o :: rest,e,a,w,hr,hm,h=>by
  have hp:=fun v=>AgreeE.upd (n:=n) (e:=e) (o:=o.dst) v (hm o List.mem_cons_self)
  have lift:∀ v w',ops P n all K rest (Sh.upd n e o.dst v) w' → wpList P all (fun ex a' w'=>ex = .normal ∧ ∃ e',Rel ds n e' a' ∧ AgreeE mods e e' ∧ K e' w') rest (a.put o.dst v) w':=by
   intro v w' h
   have:=f3t rest _ _ w' (hr.put o.dst v) (fun o ho=>hm o (List.mem_cons_of_mem _ ho)) h
   have e0:(fun (ex:Exit) (a':Act) (w':World)=>ex = .normal ∧ ∃ e',Rel ds n e' a' ∧ AgreeE mods e e' ∧ K e' w') = (fun ex a' w'=>ex = .normal ∧ ∃ e',Rel ds n e' a' ∧ AgreeE mods e e' ∧ K e' w'):=rfl
   exact wpList_mono rest _ _ this (fun ex a' w' ⟨h0,e',h1,h2,h3⟩=>⟨h0,e',h1,(hp v).trans h2,h3⟩)
  have one:op1 P e o (fun v w'=>ops P n all K rest (Sh.upd n e o.dst v) w') w → o.wp P a w (wpList P all (fun ex a' w'=>ex = .normal ∧ ∃ e',Rel ds n e' a' ∧ AgreeE mods e e' ∧ K e' w') rest) (fun ex a' w'=>ex = .normal ∧ ∃ e',Rel ds n e' a' ∧ AgreeE mods e e' ∧ K e' w'):=by
   intro h
   refine f3s ?_
   rw [hr.eval]
   exact b3k (b8y h) lift
  unfold ops at h; unfold wpList
  cases hg:o.guard with
  | none=>
   rw [hg] at h
   rw [if_pos (by simp [Region.wanted,hg])]
   exact .inl (one h)
  | some g=>
   obtain ⟨j,want⟩:=g
   rw [hg] at h
   have h:gdM (gdE all e j want) (op1 P e o) (fun v w'=>ops P n all K rest (Sh.upd n e o.dst v) w') w:=h
   rw [a5h hr all o j want hg]
   cases hgd:gdE all e j want with
   | true=>
    rw [hgd] at h
    rw [if_pos rfl]
    exact .inl (one h)
   | false=>
    rw [hgd] at h
    rw [if_neg (by simp)]
    exact lift undef w h
where
 wpList_mono {P:Program} {all:Array Oper} {Q Q':Exit → Act → WK}:∀ (l:List Oper) (a:Act) (w:World),wpList P all Q l a w →
   (∀ e a w,Q e a w → Q' e a w) → wpList P all Q' l a w
  | [],_,_,h,hq=>hq _ _ _ h
  | o :: rest,a,w,h,hq=>by
   unfold wpList at h ⊢
   split
   ·rename_i hw
    rw [if_pos hw] at h
    rcases h with h | ⟨h,a',w',h'⟩
    ·refine .inl ?_
     unfold Oper.wp at h ⊢
     revert h
     generalize (execOp a.eval o).run P w = r
     intro h
     unfold Oper.upon at h ⊢
     split at h
     ·exact wpList_mono rest _ _ h hq
     ·exact wpList_mono rest _ _ h hq
     ·exact wpList_mono rest _ _ h hq
     ·refine Calls.mono h ?_
      intro e w''
      cases e with
      | returned v=>exact fun h=>wpList_mono rest _ _ h hq
      | panicked ch=>exact fun h=>hq _ _ _ h
      | outgrown=>exact fun ⟨a,w,h⟩=>⟨a,w,hq _ _ _ h⟩
     ·exact Rows.mono h (fun v w'' h=>wpList_mono rest _ _ h hq)
     ·exact hq _ _ _ h
     ·exact h.elim
    ·exact .inr ⟨h,a',w',hq _ _ _ h'⟩
   ·rename_i hw
    rw [if_neg hw] at h
    exact wpList_mono rest _ _ h hq
def g1u (P:Program) (C:WK) (s:Sem Next) (K:Value → Prop):Prop:=∃ v,(∀ w,C w → Oper.quietUpon P C w v (s.run P w)) ∧ K v
def oQ (P:Program) (o:Op) (type:TypeId) (args:List Value) (C:WK) (K:Value → Prop):Prop:=g1u P C (xop o type args) K
def a3h (P:Program) (f:FuncId) (args:Array Value) (C:WK) (K:Value → Prop):Prop:=
 ∃ v,(∀ w,C w → Calls P f args w (fun e w''=>e = .returned v ∧ C w'')) ∧ K v
def gdQ (g:Bool) (m:(WK) → (Value → Prop) → Prop) (C:WK) (K:Value → Prop):Prop:=bif g then m C K else K undef
def f7s (P:Program) (e:Env) (o:Oper) (C:WK) (K:Value → Prop):Prop:=
 match d2r o.op with
 | some x=>K (evE e x)
 | none=>
  match c2b o.op with
  | some (f,xs)=>match b3l P f with | true=>a3h P f (xs.map (evE e)).toArray C K | false=>False
  | none=>
   match a9h o.op with
   | some (op',xs)=>oQ P op' o.type (xs.map (evE e)) C K
   | none=>False
theorem d2s {P:Program} {e:Env} {o:Oper} {C:WK} {K:Value → Prop} (h:f7s P e o C K) :
  ∃ v,(∀ w,C w → Oper.quietUpon P C w v ((execOp (evE e) o).run P w)) ∧ K v:=by
 unfold f7s at h
 split at h
 ·rename_i x hx
  rw [b4z hx]
  exact ⟨evE e x,fun w _=>⟨rfl,rfl⟩,h⟩
 ·split at h
  ·rename_i f xs hs
   cases hb:b3l P f with
   | false=>rw [hb] at h; exact h.elim
   | true=>
    rw [hb] at h
    obtain ⟨v,hv,hk⟩:=h
    refine ⟨v,fun w hw=>?_,hk⟩
    rw [b8x rfl hs,b0t hb]
    exact ⟨rfl,hv w hw⟩
  ·split at h
   ·rename_i op' xs hr
    rw [a9x (fun _=>rfl) o op' xs hr]
    exact h
   ·exact h.elim
def a7f (P:Program) (n:Nat) (all:Array Oper) (C:WK) (K:Env → Prop):List Oper → Env → Prop
 | [],e=>K e
 | o :: rest,e=>
  match o.guard with
  | none=>f7s P e o C (fun v=>a7f P n all C K rest (upd n e o.dst v))
  | some (j,want)=>gdQ (gdE all e j want) (f7s P e o) C (fun v=>a7f P n all C K rest (upd n e o.dst v))
theorem quietOps_wp {P:Program} {n:Nat} {all:Array Oper} {C:WK} {mods:List Nat} {K:Env → Prop}:∀ (l:List Oper) (e:Env) (a:Act),Rel ds n e a →
  (∀ o ∈ l,∀ d,o.dst = some d → d ∈ mods) → a7f P n all C K l e → wpQuiet P all C (fun a'=>∃ e',Rel ds n e' a' ∧ AgreeE mods e e' ∧ K e') l a
 | [],e,a,hr,_,h=>⟨e,hr,AgreeE.refl _ _,h⟩
 | o :: rest,e,a,hr,hm,h=>by
  have hp:=fun v=>AgreeE.upd (n:=n) (e:=e) (o:=o.dst) v (hm o List.mem_cons_self)
  have lift:∀ v,a7f P n all C K rest (Sh.upd n e o.dst v) → wpQuiet P all C (fun a'=>∃ e',Rel ds n e' a' ∧ AgreeE mods e e' ∧ K e') rest (a.put o.dst v):=by
   intro v h
   exact wpQuiet_mono rest _ (quietOps_wp rest _ _ (hr.put o.dst v) (fun o ho=>hm o (List.mem_cons_of_mem _ ho)) h) (fun a' ⟨e',h1,h2,h3⟩=>⟨e',h1,(hp v).trans h2,h3⟩)
  have one:f7s P e o C (fun v=>a7f P n all C K rest (Sh.upd n e o.dst v)) → Oper.quiet P o a C (wpQuiet P all C (fun a'=>∃ e',Rel ds n e' a' ∧ AgreeE mods e e' ∧ K e') rest):=by
   intro h
   obtain ⟨v,hv,hk⟩:=d2s h
   refine ⟨v,fun w hw=>?_,lift v hk⟩
   unfold Oper.quietAt
   rw [hr.eval]
   exact hv w hw
  unfold a7f at h; unfold wpQuiet
  cases hg:o.guard with
  | none=>
   rw [hg] at h
   rw [if_pos (by simp [Region.wanted,hg])]
   exact one h
  | some g=>
   obtain ⟨j,want⟩:=g
   rw [hg] at h
   have h:gdQ (gdE all e j want) (f7s P e o) C (fun v=>a7f P n all C K rest (Sh.upd n e o.dst v)):=h
   rw [a5h hr all o j want hg]
   cases hgd:gdE all e j want with
   | true=>
    rw [hgd] at h
    rw [if_pos rfl]
    exact one h
   | false=>
    rw [hgd] at h
    rw [if_neg (by simp)]
    exact lift undef h
where
 wpQuiet_mono {P:Program} {all:Array Oper} {C:WK} {Q Q':Act → Prop}:∀ (l:List Oper) (a:Act),wpQuiet P all C Q l a → (∀ a,Q a → Q' a) → wpQuiet P all C Q' l a
  | [],_,h,hq=>hq _ h
  | o :: rest,a,h,hq=>by
   unfold wpQuiet at h ⊢
   split
   ·rename_i hw
    rw [if_pos hw] at h
    obtain ⟨v,hv,hk⟩:=h
    exact ⟨v,hv,wpQuiet_mono rest _ hk hq⟩
   ·rename_i hw
    rw [if_neg hw] at h
    exact wpQuiet_mono rest _ h hq
def oH (P:Program) (o:Op) (type:TypeId) (args:List Value) (C:WK) (K:Value → Prop):Prop:=∃ v,(∀ w,C w → (xop o type args).run P w = .ok (.value v) w) ∧ K v
def a0c (v:Value) (_C:WK) (K:Value → Prop):Prop:=K v
def gdH (g:Bool) (m:(WK) → (Value → Prop) → Prop) (C:WK) (K:Value → Prop):Prop:=bif g then m C K else K undef
def f3u (P:Program) (e:Env) (o:Oper) (C:WK) (K:Value → Prop):Prop:=
 match d2r o.op with
 | some x=>a0c (evE e x) C K
 | none=>
  match c2b o.op with
  | some _=>False
  | none=>
   match a9h o.op with
   | some (op',xs)=>oH P op' o.type (xs.map (evE e)) C K
   | none=>False
theorem c2c {P:Program} {e:Env} {o:Oper} {C:WK} {K:Value → Prop} (h:f3u P e o C K) :
  ∃ v,(∀ w,C w → (execOp (evE e) o).run P w = .ok (.value v) w) ∧ K v:=by
 unfold f3u at h
 split at h
 ·rename_i x hx
  rw [b4z hx]
  exact ⟨evE e x,fun w _=>rfl,h⟩
 ·split at h
  ·exact h.elim
  ·split at h
   ·rename_i op' xs hr
    rw [a9x (fun _=>rfl) o op' xs hr]
    exact h
   ·exact h.elim
def a5i (P:Program) (n:Nat) (all:Array Oper) (C:WK) (K:Env → WK):List (Nat × Bool) → Env → WK
 | [],e,w=>K e w
 | (i,true) :: r,e,w=>
  match all[i]? with
  | none=>False
  | some o=>
   match o.guard with
   | none=>f3u P e o C (fun v=>a5i P n all C K r (upd n e o.dst v) w)
   | some (j,want)=>gdH (gdE all e j want) (f3u P e o) C (fun v=>a5i P n all C K r (upd n e o.dst v) w)
 | (i,false) :: r,e,w=>
  match all[i]? with
  | none=>False
  | some o=>
   match o.guard with
   | none=>op1 P e o (fun v w'=>C w' ∧ a5i P n all C K r (upd n e o.dst v) w') w
   | some (j,want)=>gdM (gdE all e j want) (op1 P e o) (fun v w'=>C w' ∧ a5i P n all C K r (upd n e o.dst v) w') w
theorem b5a {P:Program} {s:Sem Next} {K:VK} {w:World}:a7g P s K w = opM P s K w:=rfl
theorem heldOps_wp {P:Program} {n:Nat} {all:Array Oper} {C:WK} {mods:List Nat} {K:Env → WK} (hm:∀ o ∈ all.toList,∀ d,o.dst = some d → d ∈ mods):∀ (l:List (Nat × Bool)) (e:Env) (a:Act) (w:World),Rel ds n e a →
  a5i P n all C K l e w → a7h P all C (fun a' w'=>∃ e',Rel ds n e' a' ∧ AgreeE mods e e' ∧ K e' w') l a w
 | [],e,a,w,hr,h=>⟨e,hr,AgreeE.refl _ _,h⟩
 | (i,true) :: r,e,a,w,hr,h=>by
  unfold a5i at h
  split at h
  ·exact h.elim
  rename_i o ho
  have hmem:o ∈ all.toList:=by simpa using Array.mem_of_getElem? ho
  have hp:=fun v=>AgreeE.upd (n:=n) (e:=e) (o:=o.dst) v (hm o hmem)
  have lift:∀ v,a5i P n all C K r (Sh.upd n e o.dst v) w → a7h P all C (fun a' w'=>∃ e',Rel ds n e' a' ∧ AgreeE mods e e' ∧ K e' w') r (a.put o.dst v) w:=by
   intro v h
   exact wpHeld_mono r _ _ (heldOps_wp hm r _ _ w (hr.put o.dst v) h) (fun a' w' ⟨e',h1,h2,h3⟩=>⟨e',h1,(hp v).trans h2,h3⟩)
  have one:f3u P e o C (fun v=>a5i P n all C K r (Sh.upd n e o.dst v) w) → Region.wanted o (yielded all a.tmps) = true → ∃ o',all[i]? = some o' ∧ ∃ v,Looks P all C o' a v ∧ a7h P all C (fun a' w'=>∃ e',Rel ds n e' a' ∧ AgreeE mods e e' ∧ K e' w') r (a.put o'.dst v) w:=by
   intro h hw
   obtain ⟨v,hv,hk⟩:=c2c h
   refine ⟨o,ho,v,?_,lift v hk⟩
   unfold Looks
   rw [hw,hr.eval]
   exact hv
  unfold a7h
  split at h
  ·rename_i hg
   exact one h (by simp [Region.wanted,hg])
  ·rename_i j want hg
   have hw:=a5h hr all o j want hg
   cases hgd:gdE all e j want with
   | true=>
    rw [hgd] at h hw
    exact one h hw
   | false=>
    rw [hgd] at h hw
    refine ⟨o,ho,undef,?_,lift undef h⟩
    unfold Looks
    rw [hw]
    rfl
 | (i,false) :: r,e,a,w,hr,h=>by
  unfold a5i at h
  split at h
  ·exact h.elim
  rename_i o ho
  have hmem:o ∈ all.toList:=by simpa using Array.mem_of_getElem? ho
  have hp:=fun v=>AgreeE.upd (n:=n) (e:=e) (o:=o.dst) v (hm o hmem)
  have lift:∀ v w',C w' ∧ a5i P n all C K r (Sh.upd n e o.dst v) w' → C w' ∧ a7h P all C (fun a' w'=>∃ e',Rel ds n e' a' ∧ AgreeE mods e e' ∧ K e' w') r (a.put o.dst v) w':=by
   intro v w' ⟨hc,h⟩
   exact ⟨hc,wpHeld_mono r _ _ (heldOps_wp hm r _ _ w' (hr.put o.dst v) h) (fun a' w' ⟨e',h1,h2,h3⟩=>⟨e',h1,(hp v).trans h2,h3⟩)⟩
  have one:op1 P e o (fun v w'=>C w' ∧ a5i P n all C K r (Sh.upd n e o.dst v) w') w → Region.wanted o (yielded all a.tmps) = true → a5c P all o a w (fun a' w'=>C w' ∧ a7h P all C (fun a' w'=>∃ e',Rel ds n e' a' ∧ AgreeE mods e e' ∧ K e' w') r a' w'):=by
   intro h hw
   unfold a5c
   rw [hw,hr.eval]
   show a7g P _ _ w
   rw [b5a]
   exact b3k (b8y h) (fun v w' h=>lift v w' h)
  unfold a7h
  refine ⟨o,ho,?_⟩
  split at h
  ·rename_i hg
   exact one h (by simp [Region.wanted,hg])
  ·rename_i j want hg
   have hw:=a5h hr all o j want hg
   cases hgd:gdE all e j want with
   | true=>
    rw [hgd] at h hw
    exact one h hw
   | false=>
    rw [hgd] at h hw
    unfold a5c
    rw [hw]
    exact lift undef w h
where
 wpHeld_mono {P:Program} {all:Array Oper} {C:WK} {Q Q':Act → WK}:∀ (l:List (Nat × Bool)) (a:Act) (w:World),a7h P all C Q l a w → (∀ a w,Q a w → Q' a w) → a7h P all C Q' l a w
  | [],_,_,h,hq=>hq _ _ h
  | (_,true) :: r,_,_,⟨o,ho,v,hv,h⟩,hq=>⟨o,ho,v,hv,wpHeld_mono r _ _ h hq⟩
  | (_,false) :: r,_,_,⟨o,ho,h⟩,hq=>⟨o,ho,a4q h (fun _ _ ⟨hc,h⟩=>⟨hc,wpHeld_mono r _ _ h hq⟩)⟩
def a8v (P:Program) (n:Nat) (all:Array Oper) (C:WK) (K:Env → WK):Tr → Env → WK
 | .done,e,w=>K e w
 | .look i t,e,w=>
  match all[i]? with
  | none=>False
  | some o=>
   match o.guard with
   | none=>f3u P e o C (fun v=>a8v P n all C K t (upd n e o.dst v) w)
   | some (j,want)=>gdH (gdE all e j want) (f3u P e o) C (fun v=>a8v P n all C K t (upd n e o.dst v) w)
 | .only i t,e,w=>
  match all[i]? with
  | none=>False
  | some o=>
   match o.guard with
   | none=>op1 P e o (fun v w'=>C w' ∧ a8v P n all C K t (upd n e o.dst v) w') w
   | some (j,want)=>gdM (gdE all e j want) (op1 P e o) (fun v w'=>C w' ∧ a8v P n all C K t (upd n e o.dst v) w') w
 | .alt i t u,e,w=>
  (match all[i]? with
  | none=>False
  | some o=>
   match o.guard with
   | none=>op1 P e o (fun v w'=>C w' ∧ a8v P n all C K t (upd n e o.dst v) w') w
   | some (j,want)=>gdM (gdE all e j want) (op1 P e o) (fun v w'=>C w' ∧ a8v P n all C K t (upd n e o.dst v) w') w) ∧
  a8v P n all C K u e w
theorem b3m {P:Program} {all:Array Oper} {C:WK} {Q Q':Act → WK} (hq:∀ a w,Q a w → Q' a w):∀ (n:Nat) (listed:Array Bool) (a:Act) (w:World),b9t P all C Q n listed a w → b9t P all C Q' n listed a w
 | 0,_,_,_,h=>⟨h.1,h.2.1,hq _ _ h.2.2⟩
 | n + 1,listed,a,w,h=>⟨h.1,fun h0=>hq _ _ (h.2.1 h0),fun i hi o ho=>a4q (h.2.2 i hi o ho) (fun _ _ h=>b3m hq n _ _ _ h)⟩
theorem e7i {P:Program} {n:Nat} {all:Array Oper} {C:WK} {mods:List Nat} {K:Env → WK} (hsel:Region.noSelect all = true) (hm:∀ o ∈ all.toList,∀ d,o.dst = some d → d ∈ mods) (t:Tr):∀ (m:Nat) (listed:Array Bool) (e:Env) (a:Act) (w:World),Rel ds n e a → C w → a8v P n all C K t e w →
  (trB all t false m listed = true → b9t P all C (fun a' w'=>∃ e',Rel ds n e' a' ∧ AgreeE mods e e' ∧ K e' w') m listed a w) ∧
  (trB all t true m listed = true → ∀ i ∈ t.heads,∀ o,all[i]? = some o → a5c P all o a w (b9t P all C (fun a' w'=>∃ e',Rel ds n e' a' ∧ AgreeE mods e e' ∧ K e' w') (m - 1) (listed.setIfInBounds i true))):=by
 have one:∀ (t:Tr),(∀ (m:Nat) (listed:Array Bool) (e:Env) (a:Act) (w:World),Rel ds n e a → C w → a8v P n all C K t e w → trB all t false m listed = true → b9t P all C (fun a' w'=>∃ e',Rel ds n e' a' ∧ AgreeE mods e e' ∧ K e' w') m listed a w) →
   ∀ (i m:Nat) (listed:Array Bool) (e:Env) (a:Act) (w:World),Rel ds n e a → trB all t false m listed = true →
   (match all[i]? with
    | none=>False
    | some o=>
     match o.guard with
     | none=>op1 P e o (fun v w'=>C w' ∧ a8v P n all C K t (upd n e o.dst v) w') w
     | some (j,want)=>gdM (gdE all e j want) (op1 P e o) (fun v w'=>C w' ∧ a8v P n all C K t (upd n e o.dst v) w') w) →
   ∀ o,all[i]? = some o → a5c P all o a w (b9t P all C (fun a' w'=>∃ e',Rel ds n e' a' ∧ AgreeE mods e e' ∧ K e' w') m listed):=by
  intro t ih i m listed e a w hr hB h o ho
  rw [ho] at h
  simp only at h
  have hmem:o ∈ all.toList:=by simpa using Array.mem_of_getElem? ho
  have hp:=fun v=>AgreeE.upd (n:=n) (e:=e) (o:=o.dst) v (hm o hmem)
  have lift:∀ v w',C w' ∧ a8v P n all C K t (Sh.upd n e o.dst v) w' → b9t P all C (fun a' w'=>∃ e',Rel ds n e' a' ∧ AgreeE mods e e' ∧ K e' w') m listed (a.put o.dst v) w':=by
   intro v w' ⟨hc,h⟩
   exact b3m (fun a' w' ⟨e',h1,h2,h3⟩=>⟨e',h1,(hp v).trans h2,h3⟩) _ _ _ _ (ih m _ _ _ w' (hr.put o.dst v) hc h hB)
  have one:op1 P e o (fun v w'=>C w' ∧ a8v P n all C K t (Sh.upd n e o.dst v) w') w → Region.wanted o (yielded all a.tmps) = true → a5c P all o a w (b9t P all C (fun a' w'=>∃ e',Rel ds n e' a' ∧ AgreeE mods e e' ∧ K e' w') m listed):=by
   intro h hw
   unfold a5c
   rw [hw,hr.eval]
   show a7g P _ _ w
   rw [b5a]
   exact b3k (b8y h) (fun v w' h=>lift v w' h)
  split at h
  ·rename_i hg
   exact one h (by simp [Region.wanted,hg])
  ·rename_i j want hg
   have hw:=a5h hr all o j want hg
   cases hgd:gdE all e j want with
   | true=>
    rw [hgd] at h hw
    exact one h hw
   | false=>
    rw [hgd] at h hw
    unfold a5c
    rw [hw]
    exact lift undef w h
 induction t with
 | done=>
  intro m listed e a w hr hc h
  refine ⟨fun hB=>?_,fun _ i hi=>by simp [Tr.heads] at hi⟩
  simp only [trB,bA] at hB
  obtain ⟨h0,h1⟩:=hB
  have h0:=Nat.eq_of_beq_eq_true h0
  subst h0
  exact ⟨hc,by simpa using h1,e,hr,AgreeE.refl _ _,h⟩
 | look i t ih=>
  intro m listed e a w hr hc h
  refine ⟨fun hB=>?_,fun _ i hi=>by simp [Tr.heads] at hi⟩
  simp only [trB,bA] at hB
  obtain ⟨_,hm1,hrd,hfree,hB⟩:=hB
  obtain ⟨m,rfl⟩:∃ k,m = k + 1:=⟨m - 1,by have:=Nat.le_of_ble_eq_true hm1; omega⟩
  rw [Nat.add_sub_cancel] at hB
  unfold a8v at h
  split at h
  ·exact h.elim
  rename_i o ho
  have hmem:o ∈ all.toList:=by simpa using Array.mem_of_getElem? ho
  have hp:=fun v=>AgreeE.upd (n:=n) (e:=e) (o:=o.dst) v (hm o hmem)
  have fin:∀ v,Looks P all C o a v → a8v P n all C K t (Sh.upd n e o.dst v) w → b9t P all C (fun a' w'=>∃ e',Rel ds n e' a' ∧ AgreeE mods e e' ∧ K e' w') (m + 1) listed a w:=by
   intro v hl h
   exact c2g ho (Region.noSelect_spec hsel) m listed a w (Region.free_spec ho hfree) (by simpa using hrd) hl hc (b3m (fun a' w' ⟨e',h1,h2,h3⟩=>⟨e',h1,(hp v).trans h2,h3⟩) _ _ _ _ ((ih m _ _ _ w (hr.put o.dst v) hc h).1 hB))
  have one:f3u P e o C (fun v=>a8v P n all C K t (Sh.upd n e o.dst v) w) → Region.wanted o (yielded all a.tmps) = true → b9t P all C (fun a' w'=>∃ e',Rel ds n e' a' ∧ AgreeE mods e e' ∧ K e' w') (m + 1) listed a w:=by
   intro h hw
   obtain ⟨v,hv,hk⟩:=c2c h
   refine fin v ?_ hk
   unfold Looks
   rw [hw,hr.eval]
   exact hv
  split at h
  ·rename_i hg
   exact one h (by simp [Region.wanted,hg])
  ·rename_i j want hg
   have hw:=a5h hr all o j want hg
   cases hgd:gdE all e j want with
   | true=>
    rw [hgd] at h hw
    exact one h hw
   | false=>
    rw [hgd] at h hw
    refine fin undef ?_ h
    unfold Looks
    rw [hw]
    rfl
 | only i t ih=>
  intro m listed e a w hr hc h
  have key:trB all t false (m - 1) (listed.setIfInBounds i true) = true → ∀ o,all[i]? = some o → a5c P all o a w (b9t P all C (fun a' w'=>∃ e',Rel ds n e' a' ∧ AgreeE mods e e' ∧ K e' w') (m - 1) (listed.setIfInBounds i true)):=
   fun hB=>one t (fun m l e a w h1 h2 h3 h4=>(ih m l e a w h1 h2 h3).1 h4) i _ _ e a w hr hB (by unfold a8v at h; exact h)
  refine ⟨fun hB=>?_,fun hB j hj=>?_⟩
  ·simp only [trB,bA,Bool.false_or,beq_iff_eq] at hB
   obtain ⟨hrd,hm1,hB⟩:=hB
   have key:=key hB
   obtain ⟨m,rfl⟩:∃ k,m = k + 1:=⟨m - 1,by have:=Nat.le_of_ble_eq_true hm1; omega⟩
   rw [Nat.add_sub_cancel] at key
   refine ⟨hc,fun h0=>(by rw [hrd] at h0; cases h0),fun j hj=>?_⟩
   rw [hrd,List.mem_singleton] at hj
   subst hj
   exact key
  ·simp only [trB,bA,Bool.true_or] at hB
   simp only [Tr.heads,List.mem_singleton] at hj
   subst hj
   exact key hB.2.2
 | alt i t u ih ihu=>
  intro m listed e a w hr hc h
  unfold a8v at h
  obtain ⟨h,hu⟩:=h
  have key:trB all t false (m - 1) (listed.setIfInBounds i true) = true → ∀ o,all[i]? = some o → a5c P all o a w (b9t P all C (fun a' w'=>∃ e',Rel ds n e' a' ∧ AgreeE mods e e' ∧ K e' w') (m - 1) (listed.setIfInBounds i true)):=
   fun hB=>one t (fun m l e a w h1 h2 h3 h4=>(ih m l e a w h1 h2 h3).1 h4) i _ _ e a w hr hB h
  have keyu:=(ihu m listed e a w hr hc hu).2
  refine ⟨fun hB=>?_,fun hB j hj=>?_⟩
  ·simp only [trB,bA,Bool.false_or,beq_iff_eq] at hB
   obtain ⟨hrd,hm1,hB,hBu⟩:=hB
   have key:=key hB
   have keyu:=keyu hBu
   obtain ⟨m,rfl⟩:∃ k,m = k + 1:=⟨m - 1,by have:=Nat.le_of_ble_eq_true hm1; omega⟩
   rw [Nat.add_sub_cancel] at key keyu
   refine ⟨hc,fun h0=>(by rw [hrd] at h0; cases h0),fun j hj=>?_⟩
   rw [hrd] at hj
   rcases List.mem_cons.1 hj with rfl | hj
   ·exact key
   ·exact keyu j hj
  ·simp only [trB,bA,Bool.true_or] at hB
   rcases List.mem_cons.1 hj with rfl | hj
   ·exact key hB.2.2.1
   ·exact keyu hB.2.2.2 j hj
abbrev e1e:=VK
def opG (P:Program) (all:Array Oper) (e:Env) (o:Oper) (K:VK) (w:World):Prop:=
 match o.guard with
 | none=>op1 P e o K w
 | some (j,want)=>gdM (gdE all e j want) (op1 P e o) K w
theorem d0z {P:Program} {n:Nat} {all:Array Oper} {ec e':Env} {a:Act} {o:Oper} {K:VK} {w:World} (hr:Rel ds n ec a) (hs:∀ cs b,o.op ≠ .select cs b) (hl:∀ t ∈ o.looksAt all,e' t = ec t) (h:opG P all e' o K w) :
  a5c P all o a w (fun a' w'=>∃ v,a' = a.put o.dst v ∧ K v w'):=by
 have hx:execOp (evE e') o = execOp a.eval o:=by
  rw [hr.eval]
  refine execOp_congr o hs (fun x hx=>?_)
  cases x with
  | tmp t=>exact hl t (List.mem_append_left _ (List.mem_filterMap.2 ⟨.tmp t,by simpa using hx,rfl⟩))
  | _=>rfl
 have one:op1 P e' o K w → Region.wanted o (yielded all a.tmps) = true → a5c P all o a w (fun a' w'=>∃ v,a' = a.put o.dst v ∧ K v w'):=by
  intro h hw
  unfold a5c
  rw [hw,← hx]
  show a7g P _ _ w
  rw [b5a]
  exact b3k (b8y h) (fun v w' h=>⟨v,rfl,h⟩)
 unfold opG at h
 split at h
 ·rename_i hg
  exact one h (by simp [Region.wanted,hg])
 ·rename_i j want hg
  have hw:=a5h hr all o j want hg
  have he:gdE all e' j want = gdE all ec j want:=by
   unfold gdE
   cases hd:a4y all j with
   | none=>rfl
   | some d=>
    simp only
    rw [hl d]
    refine List.mem_append_right _ ?_
    unfold a4y at hd
    simp only [hg,hd]
    simp
  rw [he] at h
  cases hgd:gdE all ec j want with
  | true=>
   rw [hgd] at h hw
   exact one h hw
  | false=>
   rw [hgd] at h hw
   unfold a5c
   rw [hw]
   exact ⟨undef,rfl,h⟩
def e7j (all:Array Oper) (o:Oper) (j:Nat):Bool:=match a4y all j with | some d=>(o.looksAt all).contains d | none=>false
def e2x (n:Nat) (all:Array Oper) (p:Nat → Bool):List (Nat × e1e) → Env → World → (Env → Prop) → Prop
 | [],e,_,K=>K e
 | (j,R) :: rs,e,w,K=>bif p j then ∀ v,R v w → e2x n all p rs (upd n e (a4y all j) v) w K else e2x n all p rs e w K
def b8z (P:Program) (n:Nat) (all:Array Oper) (C:WK) (S:World → WK) (K:Env → WK):List Nat → List (Nat × e1e) → Env → Prop
 | [],rs,e=>∀ w,C w → e2x n all (fun _=>true) rs e w (fun e=>K e w)
 | k :: r,rs,e=>
  match all[k]? with
  | none=>False
  | some o=>∃ R:e1e,(∀ v w w',S w w' → R v w → R v w') ∧ (∀ w,C w → e2x n all (e7j all o) rs e w (fun e=>opG P all e o (fun v w'=>C w' ∧ S w w' ∧ R v w') w)) ∧
    b8z P n all C S K r (rs ++ [(k,R)]) e
theorem c3z {n:Nat} {all:Array Oper} {p:Nat → Bool} {w:World} {K:Env → Prop} {ec:Env}:∀ (rs:List (Nat × e1e)) (e:Env),(∀ q ∈ rs,∃ d,a4y all q.1 = some d ∧ d < n) →
  (∀ q ∈ rs,p q.1 = true → ∀ d,a4y all q.1 = some d → q.2 (ec d) w) → e2x n all p rs e w K →
  ∃ e',K e' ∧ ∀ t,(e' t = ec t ∧ ∃ q ∈ rs,p q.1 = true ∧ a4y all q.1 = some t) ∨ (e' t = e t ∧ ∀ q ∈ rs,p q.1 = true → a4y all q.1 ≠ some t)
 | [],e,_,_,h=>⟨e,h,fun t=>.inr ⟨rfl,by simp⟩⟩
 | (j,R) :: rs,e,hd,hR,h=>by
  unfold e2x at h
  cases hp:p j with
  | false=>
   rw [hp] at h
   obtain ⟨e',hk,ht⟩:=c3z rs e (fun q hq=>hd q (List.mem_cons_of_mem _ hq)) (fun q hq=>hR q (List.mem_cons_of_mem _ hq)) h
   refine ⟨e',hk,fun t=>?_⟩
   rcases ht t with ⟨h1,q,hq,h2⟩ | ⟨h1,h2⟩
   ·exact .inl ⟨h1,q,List.mem_cons_of_mem _ hq,h2⟩
   ·refine .inr ⟨h1,fun q hq hpq=>?_⟩
    rcases List.mem_cons.1 hq with rfl | hq
    ·rw [hp] at hpq; cases hpq
    ·exact h2 q hq hpq
  | true=>
   rw [hp] at h
   obtain ⟨d,hdj,hdn⟩:=hd (j,R) (List.mem_cons_self ..)
   have h:=h (ec d) (hR (j,R) (List.mem_cons_self ..) hp d hdj)
   obtain ⟨e',hk,ht⟩:=c3z rs _ (fun q hq=>hd q (List.mem_cons_of_mem _ hq)) (fun q hq=>hR q (List.mem_cons_of_mem _ hq)) h
   refine ⟨e',hk,fun t=>?_⟩
   rcases ht t with ⟨h1,q,hq,h2⟩ | ⟨h1,h2⟩
   ·exact .inl ⟨h1,q,List.mem_cons_of_mem _ hq,h2⟩
   ·by_cases htd:t = d
    ·subst htd
     refine .inl ⟨?_,(j,R),List.mem_cons_self ..,hp,hdj⟩
     rw [h1]
     show upd n e (a4y all j) (ec t) t = ec t
     rw [hdj]
     have hb:Nat.blt t n = true:=by simpa [Nat.blt,Nat.succ_le_iff] using hdn
     simp [upd,hb]
    ·refine .inr ⟨?_,fun q hq hpq=>?_⟩
     ·rw [h1]
      show upd n e (a4y all j) (ec d) t = e t
      rw [hdj]
      have hb:Nat.beq t d = false:=by
       cases hx:Nat.beq t d with
       | false=>rfl
       | true=>exact absurd (Nat.eq_of_beq_eq_true hx) htd
      simp [upd,hb]
     ·rcases List.mem_cons.1 hq with rfl | hq
      ·rw [hdj]; intro he; exact htd (oI he).symm
      ·exact h2 q hq hpq
def a8c:List Nat → Array Bool → Array Bool
 | [],l=>l
 | i :: r,l=>a8c r (l.setIfInBounds i true)
theorem a8w:∀ (L:List Nat) (l:Array Bool),(a8c L l).size = l.size
 | [],_=>rfl
 | i :: r,l=>by rw [a8c,a8w r]; simp
theorem a6s:∀ (L:List Nat) (l:Array Bool) (j:Nat),(a8c L l).getD j true = true ↔ (j ∈ L ∨ l.getD j true = true)
 | [],l,j=>by simp [a8c]
 | i :: r,l,j=>by
  rw [a8c,a6s r]
  by_cases h:j = i
  ·subst h
   simp only [List.mem_cons,true_or,iff_true]
   right
   by_cases hlt:j < l.size <;> simp [Array.getD_eq_getD_getElem?,Array.getElem?_setIfInBounds,hlt]
  ·rw [getD_set_ne true (fun e=>h e.symm)]
   simp [h]
def e7k (all:Array Oper):List Nat → Array Bool → Bool
 | [],_=>true
 | i :: r,listed=>(Region.ready .any all listed).contains i && (Region.free .any all listed i && e7k all r (listed.setIfInBounds i true))
def b9a (n:Nat) (all:Array Oper) (L M:List Nat):List Nat → List Nat → Bool
 | [],_=>true
 | k :: r,done=>
  (match all[k]? with
  | none=>false
  | some o=>
   (match o.dst with
   | none=>false
   | some d=>Nat.blt d n && r.all (fun j=>match a4y all j with | some d'=>!Nat.beq d d' | none=>true)) &&
   ((b2h o).all (fun j=>L.contains j || done.contains j) && M.all (fun j=>!e7j all o j || ((b2h o).contains j && done.contains j)))) &&
  (!L.contains k && (!r.contains k && b9a n all L M r (done ++ [k])))
theorem a8x {n:Nat} {all:Array Oper} {L M:List Nat}:∀ (r done:List Nat),b9a n all L M r done = true →
  r.Nodup ∧ (∀ k ∈ r,k ∉ L) ∧ r.Pairwise (fun k j=>∀ d,a4y all k = some d → a4y all j ≠ some d) ∧
  ∀ pre k post,r = pre ++ k :: post → ∃ o d,all[k]? = some o ∧ o.dst = some d ∧ d < n ∧ (∀ j ∈ b2h o,j ∈ L ∨ j ∈ done ++ pre) ∧ (∀ j ∈ M,e7j all o j = true → j ∈ b2h o ∧ j ∈ done ++ pre)
 | [],_,_=>⟨.nil,by simp,.nil,fun pre k post h=>by simp at h⟩
 | k :: r,done,h=>by
  simp only [b9a,bA] at h
  obtain ⟨h1,h2,h3,h4⟩:=h
  obtain ⟨i1,i2,i3,i4⟩:=a8x r (done ++ [k]) h4
  split at h1
  ·cases h1
  rename_i o ho
  simp only [bA] at h1
  obtain ⟨h5,h6,h7⟩:=h1
  split at h5
  ·cases h5
  rename_i d hd
  simp only [bA] at h5
  obtain ⟨h8,h9⟩:=h5
  have hdk:a4y all k = some d:=by unfold a4y; rw [ho]; exact hd
  refine ⟨List.nodup_cons.2 ⟨by simpa using h3,i1⟩,fun x hx=>?_,List.pairwise_cons.2 ⟨fun j hj d' hd' he=>?_,i3⟩,fun pre x post e=>?_⟩
  ·rcases List.mem_cons.1 hx with rfl | hx
   ·simpa using h2
   ·exact i2 x hx
  ·rw [hdk] at hd'
   obtain rfl:=oI hd'
   have:=List.all_eq_true.1 h9 j hj
   simp only [he] at this
   simp at this
  ·cases pre with
   | nil=>
    simp only [List.nil_append,List.cons.injEq] at e
    obtain ⟨rfl,rfl⟩:=e
    refine ⟨o,d,ho,hd,?_,fun j hj=>?_,fun j hj hr=>?_⟩
    ·simpa [Nat.blt,Nat.succ_le_iff] using h8
    ·have:=List.all_eq_true.1 h6 j hj
     simpa using this
    ·have:=List.all_eq_true.1 h7 j hj
     simpa [hr] using this
   | cons p pre=>
    simp only [List.cons_append,List.cons.injEq] at e
    obtain ⟨rfl,e⟩:=e
    obtain ⟨o,d,a1,a2,a3,a4,a5⟩:=i4 pre x post e
    refine ⟨o,d,a1,a2,a3,fun j hj=>?_,fun j hj hr=>?_⟩
    ·have:=a4 j hj
     simpa [List.append_assoc] using this
    ·have:=a5 j hj hr
     simpa [List.append_assoc] using this
theorem b5t {P:Program} {n:Nat} {all:Array Oper} {C:WK} {S:World → WK} {K:Env → WK} {e:Env} {L M:List Nat}:∀ (r done:List Nat) (rs:List (Nat × e1e)),rs.map (·.1) = done →
  b9a n all L M r done = true → b8z P n all C S K r rs e →
  ∃ rs':List (Nat × e1e),rs'.map (·.1) = r ∧ (∀ q ∈ rs',∀ v w w',S w w' → q.2 v w → q.2 v w') ∧
   (∀ q ∈ rs',∀ o,all[q.1]? = some o → ∃ pre:List (Nat × e1e),(∀ x ∈ pre,x ∈ rs ++ rs') ∧ (∀ j ∈ M,e7j all o j = true → j ∈ pre.map (·.1)) ∧ ∀ w,C w → e2x n all (e7j all o) pre e w (fun e=>opG P all e o (fun v w'=>C w' ∧ S w w' ∧ q.2 v w') w)) ∧
   ∀ w,C w → e2x n all (fun _=>true) (rs ++ rs') e w (fun e=>K e w)
 | [],_,rs,_,_,h=>⟨[],rfl,by simp,by simp,by simpa [b8z] using h⟩
 | k :: r,done,rs,hrs,hB,h=>by
  obtain ⟨o,d,a1,a2,a3,a4,a5⟩:=(a8x (k :: r) done hB).2.2.2 [] k r rfl
  simp only [b9a,bA] at hB
  unfold b8z at h
  rw [a1] at h
  obtain ⟨R,hst,hop,hn⟩:=h
  obtain ⟨rs',b1,b2,b3,b4⟩:=b5t r (done ++ [k]) (rs ++ [(k,R)]) (by simp [hrs]) hB.2.2.2 hn
  refine ⟨(k,R) :: rs',by simp [b1],fun q hq=>?_,fun q hq oq hoq=>?_,fun w hw=>?_⟩
  ·rcases List.mem_cons.1 hq with rfl | hq
   ·exact hst
   ·exact b2 q hq
  ·rcases List.mem_cons.1 hq with rfl | hq
   ·obtain rfl:o = oq:=oI (a1.symm.trans hoq)
    exact ⟨rs,fun x hx=>List.mem_append_left _ hx,fun j hj hr=>by have:=(a5 j hj hr).2; simpa [hrs] using this,hop⟩
   ·obtain ⟨pre,c1,c2,c3⟩:=b3 q hq oq hoq
    exact ⟨pre,fun x hx=>by have:=c1 x hx; simpa [List.append_assoc] using this,c2,c3⟩
  ·have:=b4 w hw
   simpa [List.append_assoc] using this
theorem b9b {U:List Nat}:∀ (M:List Nat),(∃ k ∈ M,k ∈ U) → ∃ pre k post,M = pre ++ k :: post ∧ k ∈ U ∧ ∀ j ∈ pre,j ∉ U
 | [],h=>by simp at h
 | x :: M,h=>by
  by_cases hx:x ∈ U
  ·exact ⟨[],x,M,rfl,hx,by simp⟩
  ·obtain ⟨k,hk,hu⟩:=h
   rcases List.mem_cons.1 hk with rfl | hk
   ·exact absurd hu hx
   ·obtain ⟨pre,y,post,e,h1,h2⟩:=b9b M ⟨k,hk,hu⟩
    refine ⟨x :: pre,y,post,by rw [e]; rfl,h1,fun j hj=>?_⟩
    rcases List.mem_cons.1 hj with rfl | hj
    ·exact hx
    ·exact h2 j hj
theorem d1a:∀ {l:List (Nat × e1e)},(l.map (·.1)).Nodup → ∀ {p q:Nat × e1e},p ∈ l → q ∈ l → p.1 = q.1 → p = q
 | [],_,_,_,h,_,_=>by simp at h
 | x :: l,hn,p,q,hp,hq,e=>by
  simp only [List.map_cons,List.nodup_cons] at hn
  rcases List.mem_cons.1 hp with hp' | hp' <;> rcases List.mem_cons.1 hq with hq' | hq'
  ·rw [hp',hq']
  ·exact absurd (by rw [← hp',e]; exact List.mem_map_of_mem (f:=(·.1)) hq') hn.1
  ·exact absurd (by rw [← hq',← e]; exact List.mem_map_of_mem (f:=(·.1)) hp') hn.1
  ·exact d1a hn.2 hp' hq' e
theorem e1f {o:Oper} {e:Edge} (he:e ∈ o.after) (hb:Region.binds .any e = true):e.on ∈ b2h o:=by
 simp only [b2h,List.mem_map,List.mem_filter]
 exact ⟨e,⟨by simpa using he,hb⟩,rfl⟩
theorem b3n {o:Oper} {j:Nat} (h:j ∈ b2h o):∃ e ∈ o.after,Region.binds .any e = true ∧ e.on = j:=by
 simp only [b2h,List.mem_map,List.mem_filter] at h
 obtain ⟨e,⟨he,hb⟩,rfl⟩:=h
 exact ⟨e,by simpa using he,hb,rfl⟩
theorem b9c {l:Array Bool} {j:Nat} (h:l.getD j false = true):l.getD j true = true:=by
 rw [Array.getD_eq_getD_getElem?] at h ⊢
 cases hx:l[j]? with
 | none=>rfl
 | some b=>rw [hx] at h; exact h
theorem e1g {l:Array Bool} {j:Nat} (hj:j < l.size) (h:l.getD j true = true):l.getD j false = true:=by
 rw [Array.getD_eq_getD_getElem?,Array.getElem?_eq_getElem hj] at h ⊢
 exact h
theorem f6t {l:Array Bool} {j:Nat} (h:l.getD j false = true):j < l.size:=by
 by_cases hj:j < l.size
 ·exact hj
 ·rw [Array.getD_eq_getD_getElem?,Array.getElem?_eq_none (by omega)] at h
  cases h
section
variable {P:Program} {all:Array Oper} {C:WK} {D:Nat → Bool}
def b3o (P:Program) (ops:Array Oper) (C:WK) (D:Nat → Bool) (Q:Act → WK):Nat → Array Bool → Act → WK
 | 0,listed,a,w=>Region.ready .any ops listed = [] ∧ Q a w
 | n + 1,listed,a,w=>(Region.ready .any ops listed = [] → Q a w) ∧
  ∀ i ∈ Region.ready .any ops listed,∀ o,ops[i]? = some o → a5c P ops o a w (fun a' w'=>(D i = true → C w') ∧ b3o P ops C D Q n (listed.setIfInBounds i true) a' w')
theorem a5w {Q:Act → WK} {Q':Exit → Act → WK} (hQ:∀ a w,Q a w → Q' .normal a w):∀ (n:Nat) (listed:Array Bool) (a:Act) (w:World),
  b3o P all C D Q n listed a w → wpAny P .any all Q' n listed a w
 | 0,_,_,_,h=>⟨h.1,hQ _ _ h.2⟩
 | n + 1,listed,a,w,h=>by
  refine ⟨fun h0=>hQ _ _ (h.1 h0),fun i hi=>?_⟩
  obtain ⟨_,o,ho,_⟩:=mem_ready.1 hi
  have hs:=h.2 i hi o ho
  unfold wpOp
  rw [ho]
  show if Region.wanted o (yielded all a.tmps) = true then _ else _
  unfold a5c at hs
  cases hwant:Region.wanted o (yielded all a.tmps) with
  | false=>
   rw [hwant] at hs
   rw [if_neg (by simp)]
   exact a5w hQ n _ _ _ hs.2
  | true=>
   rw [hwant] at hs
   rw [if_pos rfl]
   left
   unfold Oper.wp
   revert hs
   show a7g P (execOp a.eval o) _ w → _
   unfold a7g
   generalize (execOp a.eval o).run P w = r
   intro hs
   cases r with
   | halt x w'=>exact hs.elim
   | ok x w'=>
    cases x with
    | value u=>exact a5w hQ n _ _ _ hs.2
    | skip=>exact a5w hQ n _ _ _ hs.2
    | enter f args=>
     refine Calls.mono hs ?_
     rintro e w'' ⟨v,rfl,hc⟩
     exact a5w hQ n _ _ _ hc.2
    | _=>exact hs.elim
def DownC (all:Array Oper) (listed:Array Bool):Prop:=∀ x o,all[x]? = some o → listed.getD x true = true → ∀ y ∈ b2h o,listed.getD y false = true
theorem DownC.step {listed:Array Bool} (h:DownC all listed) {j:Nat} (hj:j ∈ Region.ready .any all listed):DownC all (listed.setIfInBounds j true):=by
 obtain ⟨_,oj,hoj,hall⟩:=mem_ready.1 hj
 intro x o ho hx y hy
 by_cases hxj:x = j
 ·subst hxj
  obtain rfl:oj = o:=oI (hoj.symm.trans ho)
  obtain ⟨ed,hed,hb,rfl⟩:=b3n hy
  exact getD_set_true (hall ed hed hb)
 ·rw [getD_set_ne true (fun e=>hxj e.symm)] at hx
  exact getD_set_true (h x o ho hx y hy)
theorem c8w {Q:Act → WK} {i:Nat} {oi:Oper} {v:Value} (hi:all[i]? = some oi) (hsel:∀ (j:Nat) (o:Oper) cs b,all[j]? = some o → o.op ≠ .select cs b)
  (hcov:∀ listed,DownC all listed → listed.getD i true = false → ∀ j ∈ Region.ready .any all listed,D j = true) :
  ∀ (n:Nat) (listed:Array Bool) (a:Act) (w:World),DownC all listed →
   (∀ j oj,all[j]? = some oj → j ≠ i → listed.getD j true = false → (∀ e ∈ oj.after,Region.binds .any e = true → e.on ≠ i) → oi.apart all oj = true) →
   i ∈ Region.ready .any all listed → Looks P all C oi a v → C w →
   b3o P all C D Q n (listed.setIfInBounds i true) (a.put oi.dst v) w → b3o P all C D Q (n + 1) listed a w:=by
 intro n
 induction n with
 | zero=>
  intro listed a w _ _ hr hy hw H
  refine ⟨fun h=>absurd hr (by rw [h]; simp),fun j hj oj hoj=>?_⟩
  by_cases hji:j = i
  ·subst hji
   obtain rfl:oi = oj:=by rw [hi] at hoj; exact oI hoj
   exact hy.step hw ⟨fun _=>hw,H⟩
  ·have h1:=ready_mono hj hji
   rw [H.1] at h1
   cases h1
 | succ n ih=>
  intro listed a w hdc hfree hr hy hw H
  refine ⟨fun h=>absurd hr (by rw [h]; simp),fun j hj oj hoj=>?_⟩
  by_cases hji:j = i
  ·subst hji
   obtain rfl:oi = oj:=by rw [hi] at hoj; exact oI hoj
   exact hy.step hw ⟨fun _=>hw,H⟩
  ·obtain ⟨hjun,oj',hoj',hall⟩:=mem_ready.1 hj
   obtain rfl:oj = oj':=by rw [hoj] at hoj'; exact oI hoj'
   have hiun:=(mem_ready.1 hr).1
   have hDj:=hcov listed hdc hiun j hj
   have hnot:∀ e ∈ oj.after,Region.binds .any e = true → e.on ≠ i:=by
    intro e he hb heq
    have h1:=hall e he hb
    rw [heq] at h1
    rw [b9c h1] at hiun
    cases hiun
   have hap:=hfree j oj hoj hji hjun hnot
   obtain ⟨h1,h2,h3⟩:=Oper.apart_spec hap
   have hs:=H.2 j (ready_mono hj hji) oj hoj
   have hs':a5c P all oj a w (fun a' w'=>(D j = true → C w') ∧ b3o P all C D Q n ((listed.setIfInBounds i true).setIfInBounds j true) (a'.put oi.dst v) w'):=by
    unfold a5c at hs ⊢
    rw [wanted_put oj a oi.dst v h1,execOp_put oj (fun cs b=>hsel j oj cs b hoj) a oi.dst v h1] at hs
    cases hwant:Region.wanted oj (yielded all a.tmps) with
    | true=>
     rw [hwant] at hs
     exact b2j hs (fun u w' h=>by
      show (D j = true → C w') ∧ b3o P all C D Q n _ ((a.put oj.dst u).put oi.dst v) w'
      rw [← Act.put_comm a v u h2]; exact h)
    | false=>
     rw [hwant] at hs
     show (D j = true → C w) ∧ b3o P all C D Q n _ ((a.put oj.dst undef).put oi.dst v) w
     rw [← Act.put_comm a v undef h2]; exact hs
   refine a4q hs' (fun u w' hn=>⟨hn.1,ih _ _ _ (hdc.step hj) ?_ (ready_mono hr (fun e=>hji e.symm)) ((Looks.put (fun cs b=>hsel i oi cs b hi) h3).2 hy) (hn.1 hDj) ?_⟩)
   ·intro k ok hk hki hun hno
    refine hfree k ok hk hki ?_ hno
    by_cases hjk:j = k
    ·subst hjk; exact hjun
    ·rw [getD_set_ne true hjk] at hun; exact hun
   ·rw [Array.setIfInBounds_comm _ _ hji]
    exact hn.2
def d1b (all:Array Oper) (X:List Nat) (t:Nat):Bool:=
 X.all fun k=>Nat.blt k all.size && (t :: X).any fun x=>Nat.blt k x && (match all[x]? with | some o=>(b2h o).contains k | none=>false)
def d1c (all:Array Oper):List Nat → List Nat → Bool
 | _,[]=>true
 | X,t :: ts=>d1b all X t && d1c all (X ++ [t]) ts
theorem b9d {X:List Nat} {t:Nat} {ot:Oper} (h:d1b all X t = true) (hot:all[t]? = some ot) {listed:Array Bool} (hdc:DownC all listed) (hw:∀ y ∈ b2h ot,listed.getD y false = true):∀ k ∈ X,listed.getD k true = true:=by
 have:∀ m k,all.size - k ≤ m → k ∈ X → listed.getD k true = true:=by
  intro m
  induction m with
  | zero=>
   intro k hk hkX
   have:=List.all_eq_true.1 h k hkX
   simp only [bA] at this
   have hlt:k < all.size:=by simpa [Nat.blt,Nat.succ_le_iff] using this.1
   omega
  | succ m ihm=>
   intro k hk hkX
   have:=List.all_eq_true.1 h k hkX
   simp only [bA] at this
   obtain ⟨hlt,h1⟩:=this
   obtain ⟨x,hx,h2⟩:=List.any_eq_true.1 h1
   simp only [bA] at h2
   obtain ⟨hkx,h2⟩:=h2
   have hkx:k < x:=by simpa [Nat.blt,Nat.succ_le_iff] using hkx
   split at h2
   ·rename_i ox hox
    have h2:k ∈ b2h ox:=by simpa using h2
    rcases List.mem_cons.1 hx with rfl | hx
    ·obtain rfl:ot = ox:=oI (hot.symm.trans hox)
     exact b9c (hw k h2)
    ·have hlt:k < all.size:=by simpa [Nat.blt,Nat.succ_le_iff] using hlt
     exact b9c (hdc x ox hox (ihm x (by omega) hx) k h2)
   ·cases h2
 exact fun k hk=>this _ k (rL) hk
theorem b9e:∀ (T X:List Nat),d1c all X T = true → ∀ t ∈ T,∃ Y,d1b all Y t = true ∧ ∀ k ∈ X,k ∈ Y
 | [],_,_,t,ht=>by simp at ht
 | u :: us,X,h,t,ht=>by
  simp only [d1c,bA] at h
  rcases List.mem_cons.1 ht with rfl | ht
  ·exact ⟨X,h.1,fun k hk=>hk⟩
  ·obtain ⟨Y,h1,h2⟩:=b9e us (X ++ [u]) h.2 t ht
   exact ⟨Y,h1,fun k hk=>h2 k (List.mem_append_left _ hk)⟩
theorem c6w {Q0 Q:Act → WK} (hs:Region.noSelect all = true) {X:List Nat} (hcov:∀ i ∈ X,∀ listed,DownC all listed → listed.getD i true = false → ∀ j ∈ Region.ready .any all listed,D j = true) {m:Nat}:∀ (L:List Nat) (listed:Array Bool) (a:Act) (w:World),(∀ i ∈ L,i ∈ X) → DownC all listed → e7k all L listed = true → C w →
  a7h P all C Q0 (L.map (·,true)) a w → (∀ a',DownC all (a8c L listed) → Q0 a' w → b3o P all C D Q m (a8c L listed) a' w) → b3o P all C D Q (L.length + m) listed a w
 | [],listed,a,w,_,hdc,_,_,h,k=>by rw [List.length_nil,Nat.zero_add]; exact k a hdc h
 | i :: r,listed,a,w,hX,hdc,hB,hw,h,k=>by
  simp only [e7k,bA] at hB
  obtain ⟨hr,hf,hB'⟩:=hB
  obtain ⟨o,ho,v,hv,hn⟩:=h
  have hr:i ∈ Region.ready .any all listed:=by simpa using hr
  have:=c8w ho (Region.noSelect_spec hs) (hcov i (hX i (List.mem_cons_self ..))) (r.length + m) listed a w hdc (Region.free_spec ho hf) hr hv hw (c6w hs hcov r _ _ w (fun x hx=>hX x (List.mem_cons_of_mem _ hx)) (hdc.step hr) hB' hw hn k)
  rwa [show (i :: r).length + m = r.length + m + 1 by simp; omega]
end
def c6x (P:Program) (n:Nat) (all:Array Oper) (K:Env → WK):List Nat → Env → WK
 | [],e,w=>K e w
 | i :: r,e,w=>
  match all[i]? with
  | none=>False
  | some o=>opG P all e o (fun v w'=>c6x P n all K r (upd n e o.dst v) w') w
theorem seq_any {P:Program} {n:Nat} {all:Array Oper} {C:WK} {D:Nat → Bool} {K:Env → WK} {mods:List Nat} (hs:Region.noSelect all = true) (hm:∀ o ∈ all.toList,∀ d,o.dst = some d → d ∈ mods) :
  ∀ (T:List Nat) (listed:Array Bool) (e:Env) (a:Act) (w:World),(∀ t ∈ T,D t = false) → Rel ds n e a → b5z all (T.map (·,false)) listed = true → c6x P n all K T e w →
  b3o P all C D (fun a' w'=>∃ e',Rel ds n e' a' ∧ AgreeE mods e e' ∧ K e' w') T.length listed a w
 | [],listed,e,a,w,_,hr,hB,h=>⟨by simpa [b5z] using hB,e,hr,AgreeE.refl _ _,h⟩
 | t :: ts,listed,e,a,w,hD,hr,hB,h=>by
  simp only [List.map_cons,b5z,bA,beq_iff_eq] at hB
  obtain ⟨hrd,hB'⟩:=hB
  refine ⟨fun h0=>absurd (hrd.symm.trans h0) (by simp),fun j hj o ho=>?_⟩
  rw [hrd,List.mem_singleton] at hj
  subst hj
  unfold c6x at h
  rw [ho] at h
  refine a4q (d0z hr (fun cs b=>Region.noSelect_spec hs j o cs b ho) (fun _ _=>rfl) h) ?_
  rintro v0 w' ⟨v,hv,hk⟩
  rw [hv]
  refine ⟨fun hd=>absurd (hD j (List.mem_cons_self ..)) (by rw [hd]; simp),?_⟩
  have:=seq_any (C:=C) hs hm ts _ _ _ w' (fun x hx=>hD x (List.mem_cons_of_mem _ hx)) (hr.put o.dst v) hB' hk
  have hmem:o ∈ all.toList:=by simpa using Array.mem_of_getElem? ho
  have hp:=AgreeE.upd (n:=n) (e:=e) (o:=o.dst) v (hm o hmem)
  exact anyH2_mono (fun a' w' ⟨e',h1,h2,h3⟩=>⟨e',h1,hp.trans h2,h3⟩) _ _ _ _ this
where
 anyH2_mono {P:Program} {all:Array Oper} {C:WK} {D:Nat → Bool} {Q Q':Act → WK} (hq:∀ a w,Q a w → Q' a w):∀ (n:Nat) (listed:Array Bool) (a:Act) (w:World),b3o P all C D Q n listed a w → b3o P all C D Q' n listed a w
  | 0,_,_,_,h=>⟨h.1,hq _ _ h.2⟩
  | n + 1,listed,a,w,h=>⟨fun h0=>hq _ _ (h.1 h0),fun i hi o ho=>a4q (h.2 i hi o ho) (fun _ _ h=>⟨h.1,anyH2_mono hq n _ _ _ h.2⟩)⟩
section
variable {P:Program} {n:Nat} {all:Array Oper} {C:WK} {S:World → WK} {Kf:Env → WK} {e:Env} {L M T:List Nat} {mods:List Nat} {l2:Array Bool} {rsA:List (Nat × e1e)}
theorem g1v {D:Nat → Bool} (hsel:Region.noSelect all = true) (hm:∀ o ∈ all.toList,∀ d,o.dst = some d → d ∈ mods) (hB1:b9a n all L M M [] = true) (hL:L.all (fun i=>Nat.blt i all.size) = true)
  (hT:b5z all (T.map (·,false)) l2 = true) (hl2:l2.size = all.size) (hl2L:∀ j,j ∈ L ∨ j ∈ M → l2.getD j true = true) (hDl:∀ i,D i = true → l2.getD i true = true) (hDT:∀ t ∈ T,D t = false) (hDn:∀ i,i < all.size → D i = false → i ∈ T) (hcov:∀ t ∈ T,∃ Y,d1b all Y t = true ∧ ∀ k ∈ M,k ∈ Y)
  (hkeys:rsA.map (·.1) = M) (F1:∀ q ∈ rsA,∀ v w w',S w w' → q.2 v w → q.2 v w')
  (F2:∀ q ∈ rsA,∀ o,all[q.1]? = some o → ∃ pre:List (Nat × e1e),(∀ x ∈ pre,x ∈ rsA) ∧ (∀ j ∈ M,e7j all o j = true → j ∈ pre.map (·.1)) ∧ ∀ w,C w → e2x n all (e7j all o) pre e w (fun e=>opG P all e o (fun v w'=>C w' ∧ S w w' ∧ q.2 v w') w))
  (F3:∀ w,C w → e2x n all (fun _=>true) rsA e w (fun e=>c6x P n all Kf T e w)) :
  ∀ (u:Nat) (U:List Nat) (listed:Array Bool) (ec:Env) (a:Act) (w:World),U.length = u → Rel ds n ec a → C w → U.Nodup → (∀ k ∈ U,k ∈ M) → listed.size = all.size → DownC all listed →
   (∀ j,listed.getD j true = true ↔ (j ∉ U ∧ l2.getD j true = true)) → (∀ x ∈ M,x ∉ U → ∀ o,all[x]? = some o → ∀ y ∈ b2h o,y ∉ U) → (∀ t,(∀ j ∈ M,a4y all j ≠ some t) → ec t = e t) →
   (∀ q ∈ rsA,q.1 ∉ U → ∀ d,a4y all q.1 = some d → q.2 (ec d) w) → b3o P all C D (fun a' w'=>∃ e',Rel ds n e' a' ∧ AgreeE mods e e' ∧ Kf e' w') (u + T.length) listed a w:=by
 obtain ⟨hnd,hML,hpw,hspec⟩:=a8x M [] hB1
 have hMd:∀ j ∈ M,∃ o d,all[j]? = some o ∧ o.dst = some d ∧ d < n ∧ a4y all j = some d:=by
  intro j hj
  obtain ⟨pre,post,e⟩:=List.append_of_mem hj
  obtain ⟨o,d,a1,a2,a3,_⟩:=hspec pre j post e
  exact ⟨o,d,a1,a2,a3,by unfold a4y; rw [a1]; exact a2⟩
 have hMlt:∀ j ∈ M,j < all.size:=by
  intro j hj
  obtain ⟨o,d,a1,_⟩:=hMd j hj
  exact (Array.getElem?_eq_some_iff.1 a1).1
 have hLlt:∀ j ∈ L,j < all.size:=by
  intro j hj
  have:=List.all_eq_true.1 hL j hj
  simpa [Nat.blt,Nat.succ_le_iff] using this
 have hmods:∀ t,t ∉ mods → ∀ j ∈ M,a4y all j ≠ some t:=by
  intro t ht j hj he
  obtain ⟨o,d,a1,a2,a3,a4⟩:=hMd j hj
  rw [a4] at he
  obtain rfl:=oI he
  exact ht (hm o (by simpa using Array.mem_of_getElem? a1) d a2)
 have hinj:∀ i ∈ M,∀ j ∈ M,i ≠ j → ∀ d,a4y all i = some d → a4y all j ≠ some d:=by
  have:∀ (l:List Nat),l.Pairwise (fun k j=>∀ d,a4y all k = some d → a4y all j ≠ some d) → ∀ i ∈ l,∀ j ∈ l,i ≠ j → ∀ d,a4y all i = some d → a4y all j ≠ some d:=by
   intro l
   induction l with
   | nil=>intro _ i hi; simp at hi
   | cons x l ih=>
    intro hp i hi j hj hne d hd
    obtain ⟨h1,h2⟩:=List.pairwise_cons.1 hp
    rcases List.mem_cons.1 hi with rfl | hi' <;> rcases List.mem_cons.1 hj with rfl | hj'
    ·exact absurd rfl hne
    ·exact h1 j hj' d hd
    ·intro he; exact h1 i hi' d he hd
    ·exact ih h2 i hi' j hj' hne d hd
  exact this M hpw
 have hkn:(rsA.map (·.1)).Nodup:=by rw [hkeys]; exact hnd
 intro u
 induction u with
 | zero=>
  intro U listed ec a w hU hr hC _ _ hsz _ hli _ hM1 hM2
  obtain rfl:=List.length_eq_zero_iff.1 hU
  have hel:listed = l2:=by
   refine Array.ext (by omega) (fun j hj hj'=>?_)
   have:=hli j
   rw [Array.getD_eq_getD_getElem?,Array.getD_eq_getD_getElem?,Array.getElem?_eq_getElem hj,Array.getElem?_eq_getElem hj'] at this
   simp only [List.not_mem_nil,not_false_eq_true,true_and,Option.getD_some] at this
   cases h1:listed[j] <;> cases h2:l2[j] <;> simp_all
  subst hel
  obtain ⟨e',hk,ht⟩:=c3z (ec:=ec) rsA e (fun q hq=>by
   obtain ⟨o,d,_,_,a3,a4⟩:=hMd q.1 (hkeys ▸ List.mem_map_of_mem (f:=(·.1)) hq)
   exact ⟨d,a4,a3⟩) (fun q hq _ d hd=>hM2 q hq (by simp) d hd) (F3 w hC)
  have he:e' = ec:=by
   funext t
   rcases ht t with ⟨h1,_⟩ | ⟨h1,h2⟩
   ·exact h1
   ·rw [h1,hM1 t (fun j hj=>?_)]
    rw [← hkeys] at hj
    obtain ⟨q,hq,rfl⟩:=List.mem_map.1 hj
    exact h2 q hq rfl
  subst he
  rw [Nat.zero_add]
  have h:=seq_any (C:=C) (D:=D) hsel hm T _ _ a w hDT hr hT hk
  refine seq_any.anyH2_mono (fun a' w' ⟨e2,h1,h2,h3⟩=>⟨e2,h1,AgreeE.trans (fun i hi=>?_) h2,h3⟩) _ _ _ _ h
  exact hM1 i (hmods i (by simpa using hi))
 | succ u ih=>
  intro U listed ec a w hU hr hC hnU hUM hsz hdn hli hDC hM1 hM2
  have hup:∀ j,listed.getD j false = true → l2.getD j false = true:=fun j hj=>e1g (by have:=f6t hj; omega) ((hli j).1 (b9c hj)).2
  rw [Nat.succ_add]
  refine ⟨fun h0=>?_,fun i hi o ho=>?_⟩
  ·exfalso
   obtain ⟨x,hx⟩:∃ x,x ∈ U:=List.exists_mem_of_length_pos (by omega)
   obtain ⟨pre,k,post,e1,hkU,hpre⟩:=b9b M ⟨x,hUM x hx,hx⟩
   obtain ⟨o,d,a1,a2,a3,a4,a5⟩:=hspec pre k post e1
   have:k ∈ Region.ready .any all listed:=by
    refine mem_ready.2 ⟨?_,o,a1,fun ed hed hb=>?_⟩
    ·cases hg:listed.getD k true with
     | false=>rfl
     | true=>exact absurd hkU ((hli k).1 hg).1
    ·have hw:=a4 _ (e1f hed hb)
     simp only [List.nil_append] at hw
     have hnU':ed.on ∉ U:=by
      rcases hw with hw | hw
      ·exact fun hu=>hML _ (hUM _ hu) hw
      ·exact hpre _ hw
     have hin:ed.on ∈ L ∨ ed.on ∈ M:=hw.imp id (fun h=>by rw [e1]; exact List.mem_append_left _ h)
     exact e1g (by rcases hin with h | h; have:=hLlt _ h; omega; have:=hMlt _ h; omega) ((hli _).2 ⟨hnU',hl2L _ hin⟩)
   rw [h0] at this
   simp at this
  ·obtain ⟨hun,o',ho',hall⟩:=mem_ready.1 hi
   obtain rfl:o = o':=oI (ho.symm.trans ho')
   have hwU:∀ y ∈ b2h o,y ∉ U:=by
    intro y hy
    obtain ⟨ed,hed,hb,rfl⟩:=b3n hy
    exact ((hli _).1 (b9c (hall ed hed hb))).1
   by_cases hiU:i ∈ U
   ·have hiM:=hUM i hiU
    obtain ⟨q,hq,rfl⟩:=List.mem_map.1 (hkeys.symm ▸ hiM)
    obtain ⟨o2,d,a1,a2,a3,a4⟩:=hMd q.1 hiM
    obtain rfl:o = o2:=oI (ho.symm.trans a1)
    obtain ⟨pre,b1,b2,b3⟩:=F2 q hq o ho
    obtain ⟨pr,po,e1⟩:=List.append_of_mem hiM
    obtain ⟨o3,d3,c1,c2,c3,c4,c5⟩:=hspec pr q.1 po e1
    obtain rfl:o = o3:=oI (ho.symm.trans c1)
    obtain ⟨e',hk,ht⟩:=c3z (ec:=ec) pre e (fun x hx=>by
     obtain ⟨o,d,_,_,a3,a4⟩:=hMd x.1 (hkeys ▸ List.mem_map_of_mem (f:=(·.1)) (b1 x hx))
     exact ⟨d,a4,a3⟩) (fun x hx hrd dx hdx=>hM2 x (b1 x hx) (hwU _ (c5 x.1 (hkeys ▸ List.mem_map_of_mem (f:=(·.1)) (b1 x hx)) hrd).1) dx hdx) (b3 w hC)
    have hl:∀ t ∈ o.looksAt all,e' t = ec t:=by
     intro t htl
     rcases ht t with ⟨h1,_⟩ | ⟨h1,h2⟩
     ·exact h1
     ·rw [h1,hM1 t (fun j hj hjd=>?_)]
      have hrd:e7j all o j = true:=by
       unfold e7j; rw [hjd]; simpa using htl
      obtain ⟨x,hx,rfl⟩:=List.mem_map.1 (b2 j hj hrd)
      exact h2 x hx hrd hjd
    refine a4q (K:=fun a' w'=>∃ v,a' = a.put o.dst v ∧ C w' ∧ S w w' ∧ q.2 v w') (d0z hr (fun cs b=>Region.noSelect_spec hsel q.1 o cs b ho) hl hk) ?_
    rintro v0 w' ⟨v,hv,hC',hS,hR⟩
    rw [hv]
    have hr':=hr.put o.dst v
    rw [a2] at hr'
    have hmemE:∀ j,j ∈ U.erase q.1 ↔ (j ≠ q.1 ∧ j ∈ U):=fun j=>hnU.mem_erase_iff
    have hud:upd n ec (some d) v d = v:=by
     have hb:Nat.blt d n = true:=by simpa [Nat.blt,Nat.succ_le_iff] using a3
     simp [upd,hb]
    have hun':∀ t,t ≠ d → upd n ec (some d) v t = ec t:=by
     intro t htd
     have hb:Nat.beq t d = false:=by
      cases hx:Nat.beq t d with
      | false=>rfl
      | true=>exact absurd (Nat.eq_of_beq_eq_true hx) htd
     simp [upd,hb]
    have:=ih (U.erase q.1) (listed.setIfInBounds q.1 true) (upd n ec (some d) v) (a.put o.dst v) w' (by rw [List.length_erase_of_mem hiU]; omega) (by rw [a2]; exact hr') hC' (hnU.erase _) (fun k hk=>hUM k ((hmemE k).1 hk).2) (by simpa using hsz) (hdn.step hi) (fun j=>?_) (fun x hx hxU ox hox y hy=>?_) (fun t ht=>?_) (fun q' hq' hqU d' hd'=>?_)
    ·exact ⟨fun _=>hC',this⟩
    ·by_cases hj:j = q.1
     ·subst hj
      have h1:(listed.setIfInBounds q.1 true).getD q.1 true = true:=by
       have hlt:=hMlt _ hiM
       simp [Array.getD_eq_getD_getElem?,Array.getElem?_setIfInBounds,hsz,hlt]
      simp only [h1,true_iff]
      exact ⟨fun h=>((hmemE _).1 h).1 rfl,hl2L _ (.inr hiM)⟩
     ·rw [getD_set_ne true (fun e=>hj e.symm),hli j,hmemE]
      simp [hj]
    ·have hyU:y ∉ U:=by
      by_cases hxi:x = q.1
      ·subst hxi
       obtain rfl:o = ox:=oI (ho.symm.trans hox)
       exact hwU y hy
      ·exact hDC x hx (fun h=>hxU ((hmemE x).2 ⟨hxi,h⟩)) ox hox y hy
     exact fun h=>hyU ((hmemE y).1 h).2
    ·rw [hun' t (fun e=>ht q.1 hiM (by rw [a4,e]))]
     exact hM1 t ht
    ·by_cases hqi:q'.1 = q.1
     ·obtain rfl:=d1a hkn hq' hq hqi
      rw [a4] at hd'
      obtain rfl:=oI hd'
      rw [hud]; exact hR
     ·have hne:d' ≠ d:=fun he=>hinj _ (hkeys ▸ List.mem_map_of_mem (f:=(·.1)) hq') _ hiM hqi d' hd' (by rw [a4,he])
      rw [hun' d' hne]
      exact F1 q' hq' _ _ _ hS (hM2 q' hq' (fun h=>hqU ((hmemE _).2 ⟨hqi,h⟩)) d' hd')
   ·exfalso
    have hiT:i ∈ T:=by
     refine hDn i (Array.getElem?_eq_some_iff.1 ho).1 ?_
     cases hd:D i with
     | false=>rfl
     | true=>exact absurd ((hli i).2 ⟨hiU,hDl i hd⟩) (by rw [hun]; simp)
    obtain ⟨Y,hY,hMY⟩:=hcov i hiT
    obtain ⟨x,hx⟩:∃ x,x ∈ U:=List.exists_mem_of_length_pos (by omega)
    have:=b9d hY ho hdn (fun y hy=>by
     obtain ⟨ed,hed,hb,rfl⟩:=b3n hy
     exact hall ed hed hb) x (hMY x (hUM x hx))
    exact ((hli x).1 this).1 hx
end
def f3v (n:Nat) (all:Array Oper) (L M T:List Nat):Bool:=
 Region.noSelect all && (e7k all L (Array.replicate all.size false) && (L.all (fun i=>Nat.blt i all.size) && (b9a n all L M M [] &&
  (b5z all (T.map (·,false)) (a8c M (a8c L (Array.replicate all.size false))) &&
  (Nat.beq (L.length + (M.length + T.length)) all.size && (d1c all (L ++ M) T && (T.all (fun t=>!(L ++ M).contains t) && (List.range all.size).all (fun j=>(L ++ M).contains j || T.contains j))))))))
def g1w (P:Program) (n:Nat) (all:Array Oper) (L M T:List Nat) (K:Env → WK) (C:WK) (e:Env) (w:World):Prop:=
 f3v n all L M T = true ∧ a5i P n all C (fun e _=>∃ S:World → WK,b8z P n all C S (fun e w=>c6x P n all K T e w) M [] e) (L.map (·,true)) e w
theorem e1h {P:Program} {n:Nat} {all:Array Oper} {L M T:List Nat} {K:Env → WK} {C:WK} {mods:List Nat} (hm:∀ o ∈ all.toList,∀ d,o.dst = some d → d ∈ mods) {e:Env} {a:Act} {w:World} (hr:Rel ds n e a) (hC:C w)
  (h:g1w P n all L M T K C e w):b3o P all C (fun j=>(L ++ M).contains j) (fun a' w'=>∃ e',Rel ds n e' a' ∧ AgreeE mods e e' ∧ K e' w') all.size (Array.replicate all.size false) a w:=by
 obtain ⟨hB,h⟩:=h
 simp only [f3v,bA] at hB
 obtain ⟨hsel,hlook,hL,hB1,hT,hlen,hcov,hTX,hcn⟩:=hB
 have hlen:=Nat.eq_of_beq_eq_true hlen
 have hcovT:=b9e T (L ++ M) hcov
 have hDT:∀ t ∈ T,(L ++ M).contains t = false:=fun t ht=>by simpa using List.all_eq_true.1 hTX t ht
 have hDn:∀ i,i < all.size → (L ++ M).contains i = false → i ∈ T:=fun i hi hd=>by
  have:=List.all_eq_true.1 hcn i (List.mem_range.2 hi)
  rw [hd,Bool.false_or] at this
  simpa using this
 have h:=heldOps_wp hm _ e a w hr h
 have hcv:∀ i ∈ L ++ M,∀ listed,DownC all listed → listed.getD i true = false → ∀ j ∈ Region.ready .any all listed,(L ++ M).contains j = true:=by
  intro i hi listed hdc hun j hj
  cases hd:(L ++ M).contains j with
  | true=>rfl
  | false=>
   obtain ⟨_,oj,hoj,hall⟩:=mem_ready.1 hj
   obtain ⟨Y,hY,hXY⟩:=hcovT j (hDn j (Array.getElem?_eq_some_iff.1 hoj).1 hd)
   have:=b9d hY hoj hdc (fun y hy=>by
    obtain ⟨ed,hed,hb,rfl⟩:=b3n hy
    exact hall ed hed hb) i (hXY i hi)
   rw [this] at hun; cases hun
 have key:=c6w (D:=fun j=>(L ++ M).contains j) (Q:=fun a' w'=>∃ e',Rel ds n e' a' ∧ AgreeE mods e e' ∧ K e' w') hsel hcv (m:=M.length + T.length) L (Array.replicate all.size false) a w (fun i hi=>List.mem_append_left _ hi) (fun x o ho hx=>by
  have hlt:=(Array.getElem?_eq_some_iff.1 ho).1
  simp [Array.getD_eq_getD_getElem?,Array.getElem?_replicate,hlt] at hx) hlook hC h ?_
 ·rw [hlen] at key; exact key
 rintro a' hdc ⟨e1,hr1,ha1,S,hmo⟩
 obtain ⟨rsA,k1,k2,k3,k4⟩:=b5t M [] [] rfl hB1 hmo
 simp only [List.nil_append] at k3 k4
 have hnd:=(a8x M [] hB1)
 have hl2:∀ j,j ∈ L ∨ j ∈ M → (a8c M (a8c L (Array.replicate all.size false))).getD j true = true:=fun j hj=>(a6s _ _ _).2 (hj.symm.imp id (fun h=>(a6s _ _ _).2 (.inl h)))
 refine seq_any.anyH2_mono (fun a' w' ⟨e2,h1,h2,h3⟩=>⟨e2,h1,ha1.trans h2,h3⟩) _ _ _ _
  (g1v (S:=S) (rsA:=rsA) (D:=fun j=>(L ++ M).contains j) hsel hm hB1 hL hT (by rw [a8w,a8w]; simp) hl2 (fun i hi=>hl2 i (by simpa using hi)) hDT hDn (fun t ht=>(hcovT t ht).imp fun Y h=>⟨h.1,fun k hk=>h.2 k (List.mem_append_right _ hk)⟩) k1 k2 k3 k4 M.length M _ e1 a' w rfl hr1 hC hnd.1 (fun k hk=>hk) (by rw [a8w]; simp) hdc (fun j=>?_) (fun x hx hxM=>absurd hx hxM) (fun t _=>rfl) (fun q hq hqM=>absurd (k1 ▸ List.mem_map_of_mem (f:=(·.1)) hq) hqM))
 have e1:=a6s M (a8c L (Array.replicate all.size false)) j
 constructor
 ·intro hj
  refine ⟨fun hjM=>?_,e1.2 (.inr hj)⟩
  have hjl:j < all.size:=by
   obtain ⟨pre,post,e⟩:=List.append_of_mem hjM
   obtain ⟨o,d,a1,_⟩:=hnd.2.2.2 pre j post e
   exact (Array.getElem?_eq_some_iff.1 a1).1
  rcases (a6s _ _ _).1 hj with hj | hj
  ·exact hnd.2.1 j hjM hj
  ·simp [Array.getD_eq_getD_getElem?,Array.getElem?_replicate,hjl] at hj
 ·rintro ⟨hjM,hj⟩
  exact (e1.1 hj).resolve_left hjM
def a9k:Code → List Nat
 | .region _ os _=>os.toList.filterMap (·.dst)
 | .seq x y=>a9k x ++ a9k y
 | .cond _ x y=>a9k x ++ a9k y
 | .block _ c | .loop c | .scope c=>a9k c
 | _=>[]
def a8y:Code → List Nat
 | .region _ os _=>os.toList.filterMap (fun o=>match o.op with | .assign _=>o.dst | _=>none)
 | .seq x y=>a8y x ++ a8y y
 | .cond _ x y=>a8y x ++ a8y y
 | .block _ c | .loop c | .scope c=>a8y c
 | _=>[]
def e7l:List Nat → List Nat → List Nat
 | [],acc=>acc.reverse
 | i :: l,acc=>bif acc.contains i then e7l l acc else e7l l (i :: acc)
def d2t:List Operand → List Nat
 | []=>[]
 | .tmp t :: xs=>t :: d2t xs
 | _ :: xs=>d2t xs
def f6u (o:Oper):List Nat:=
 match d2r o.op with
 | some x=>d2t [x]
 | none=>
  match c2b o.op with
  | some (_,xs)=>d2t xs
  | none=>
   match a9h o.op with
   | some (_,xs)=>d2t xs
   | none=>[]
def fresh (wr:List Nat):List Nat → List Nat → List Nat
 | [],acc=>acc
 | i :: l,acc=>bif wr.contains i then fresh wr l acc else fresh wr l (i :: acc)
def c2d (all:Array Oper):List Oper → List Nat → List Nat → List Nat × List Nat
 | [],acc,wr=>(acc,wr)
 | o :: rest,acc,wr=>c2d all rest (fresh wr (match o.guard with | some (j,_)=>(match a4y all j with | some d=>d :: f6u o | none=>f6u o) | none=>f6u o) acc)
   (match o.dst with | some d=>d :: wr | none=>wr)
def a9y:Code → List Nat → List Nat → List Nat × List Nat
 | .region _ os _,acc,wr=>c2d os os.toList acc wr
 | .seq x y,acc,wr=>a9y y (a9y x acc wr).1 (a9y x acc wr).2
 | .cond c x y,acc,wr=>((a9y y (a9y x (fresh wr (d2t [c]) acc) wr).1 wr).1,wr)
 | .block _ c,acc,wr | .loop c,acc,wr | .scope c,acc,wr=>((a9y c acc wr).1,wr)
 | _,acc,wr=>(acc,wr)
def vars (c:Code):List Nat:=(e7l (a9k c) []).filter (fun d=>(a8y c).contains d || (a9y c [] []).1.contains d)
def idx:List Nat → Nat → Nat → Option Nat
 | [],_,_=>none
 | v :: vs,i,n=>bif Nat.beq v i then some n else idx vs i (n + 1)
def mix (vs:List Nat) (l:List Value) (u:Env) (i:Nat):Value:=
 match idx vs i 0 with
 | some n=>l.getD n undef
 | none=>u i
theorem b0u (vs:List Nat) (e:Env):mix vs (vs.map e) e = e:=by
 have key:∀ (vs pre:List Nat) (i n:Nat),idx vs i pre.length = some n → ((pre ++ vs).map e).getD n undef = e i:=by
  intro vs
  induction vs with
  | nil=>intro pre i n h; simp [idx] at h
  | cons v vs ih=>
   intro pre i n h
   unfold idx at h
   cases hb:Nat.beq v i with
   | true=>
    rw [hb] at h
    simp only [cond_true,Option.some.injEq] at h
    subst h
    have:v = i:=Nat.eq_of_beq_eq_true hb
    subst this
    simp
   | false=>
    rw [hb] at h
    have:=ih (pre ++ [v]) i n (by simpa using h)
    simpa using this
 funext i
 unfold mix
 split
 ·rename_i n h
  have:=key vs [] i n (by simpa using h)
  simpa using this
 ·rfl
def over (e:Env) (mods:List Nat) (u:Env):Env:=fun i=>bif mods.contains i then u i else e i
theorem a8d {mods:List Nat} {e e':Env} (h:AgreeE mods e e'):over e mods e' = e':=by
 funext i
 unfold over
 cases hb:mods.contains i with
 | true=>rfl
 | false=>exact (h i hb).symm
def a9z (a:Act):Env:=fun i=>a.tmps.getD i undef
def b0a:Code → Nat × List Nat
 | .skip | .region _ _ _ | .label _=>(1,[])
 | .exit i=>(0,[i])
 | .seq x y=>match (b0a x).1 with
  | 0=>b0a x
  | _=>((b0a y).1,(b0a x).2 ++ (b0a y).2)
 | .cond _ x y=>((b0a x).1 + (b0a y).1,(b0a x).2 ++ (b0a y).2)
 | .block i c=>((b0a c).1 + ((b0a c).2.filter (fun j=>Nat.beq j i)).length,(b0a c).2.filter (fun j=>!Nat.beq j i))
 | .loop c=>(0,(b0a c).2)
 | .scope c=>b0a c
 | _=>(0,[])
def c6y (x y:Code):List Nat:=(e7l (a9k x) []).filter (fun d=>(a8y x).contains d || (a9y y [] []).1.contains d)
def e7m (x:List Value) (w:World) (body:(List Value → World → Prop) → (List Value → World → Nat) → List Value → Env → WK):Prop:=
 ∃ (J:List Value → World → Prop) (μ:List Value → World → Nat),J x w ∧ ∀ (l:List Value) (u:Env) (w:World),J l w → body J μ l u w
def a5z (pre:(List Value → World → Prop) → Prop) (post:List Value → Env → WK):Prop:=
 ∃ M:List Value → World → Prop,pre M ∧ ∀ (l:List Value) (u:Env) (w:World),M l w → post l u w
def a4o (w:World) (body:(WK) → Prop):Prop:=∃ C:WK,C { w with drawn:=w.drawn + 1 } ∧ body C
def e7n (w:World) (body:(WK) → WK):Prop:=∃ C:WK,C { w with drawn:=w.drawn + 1 } ∧ body C { w with drawn:=w.drawn + 1 }
inductive Md where
 | quiet
 | held
 | tree (t:Tr)
 | free (L M T:List Nat)
instance:OfNat Md 0:=⟨.quiet⟩
instance:OfNat Md 2:=⟨.held⟩
def b3y (P:Program) (q:Nat → Md) (n:Nat):Code → Env → (Exit → Env → WK) → WK
 | .skip,e,K,w=>K .normal e w
 | .region id os draw,e,K,w=>
  match draw with
  | false=>ops P n os (K .normal) os.toList e w
  | true=>
   match q id with
   | .quiet=>a4o w (fun C=>a7f P n os C (fun e'=>∀ w',C w' → K .normal e' w') os.toList e)
   | .held=>e7n w (fun C w=>a5i P n os C (fun e' w'=>K .normal e' w') (e7x os) e w)
   | .tree t=>e7n w (fun C w=>a8v P n os C (fun e' w'=>K .normal e' w') t e w)
   | .free L M T=>e7n w (fun C w=>g1w P n os L M T (fun e' w'=>K .normal e' w') C e w)
 | .seq x y,e,K,w=>
  match Nat.ble 2 (b0a x).1 with
  | false=>b3y P q n x e (fun ex e' w'=>match ex with | .normal=>b3y P q n y e' K w' | _=>K ex e' w') w
  | true=>a5z (fun M=>b3y P q n x e (fun ex e' w'=>match ex with | .normal=>M ((c6y x y).map e') w' | _=>K ex e' w') w)
    (fun l u w=>b3y P q n y (over e (a9k x) (mix (c6y x y) l u)) K w)
 | .cond c x y,e,K,w=>a0v (evE e c) (b3y P q n x e K w) (b3y P q n y e K w)
 | .block id c,e,K,w=>b3y P q n c e (fun ex e' w'=>match ex with | .exit i=>bif Nat.beq i id then K .normal e' w' else K ex e' w' | _=>K ex e' w') w
 | .loop c,e,K,w=>e7m ((vars c).map e) w (fun J μ l u w=>b3y P q n c (over e (a9k c) (mix (vars c) l u)) (fun ex e' w'=>match ex with | .normal=>J ((vars c).map e') w' ∧ μ ((vars c).map e') w' < μ l w | _=>K ex e' w') w)
 | .exit id,e,K,w=>K (.exit id) e w
 | .ret,e,K,w=>K .ret e w
 | .label _,e,K,w=>K .normal e w
 | .scope c,e,K,w=>b3y P q n c e (fun ex e' w'=>match ex with | .goto _=>False | _=>K ex e' w') w
 | _,_,_,_=>False
def a2g (P:Program) (q:Nat → Md):Code → Bool
 | .region id os draw=>!draw || (P.follows .mixedOrders && (match q id with | .quiet=>Region.lexB .any os | .held=>e1o os | .tree t=>g7h os t | .free _ _ _=>true))
 | .seq x y=>a2g P q x && a2g P q y
 | .cond _ x y=>a2g P q x && a2g P q y
 | .block _ c | .loop c | .scope c=>a2g P q c
 | _=>true
theorem e1i {P:Program} {ops:Array Oper} {C:WK} {Q:Exit → Act → WK} {a:Act} {w:World} (hB:Region.lexB .any ops = true) (hC:C { w with drawn:=w.drawn + 1 })
  (h:wpQuiet P ops C (fun a'=>∀ w',C w' → Q .normal a' w') ops.toList a):wpAny P .any ops Q ops.size (Array.replicate ops.size false) a { w with drawn:=w.drawn + 1 }:=by
 simp only [Region.lexB,bA] at hB
 refine wpAny_of_quiet (Q:=fun a'=>∀ w',C w' → Q .normal a' w') (fun _ w' hw' h=>h w' hw') _ _ _ _ hC ?_
 have:=wpAnyQ_lex (C:=C) (md:=.any) hB.1 ops.toList 0 (Array.replicate ops.size false) a (by simp) (by simpa using hB.2) h
 simpa using this
theorem c8x {P:Program} {q:Nat → Md} {n:Nat} {id:Nat} {os:Array Oper} (hq:a2g P q (.region id os true) = true) {e:Env} {a:Act} {K:Exit → Env → WK} {w:World} (hr:Rel ds n e a) (h:b3y P q n (.region id os true) e K w) :
  P.follows .mixedOrders = true ∧ wpAny P .any os (fun ex a' w'=>ex = .normal ∧ ∃ e',Rel ds n e' a' ∧ AgreeE (os.toList.filterMap (·.dst)) e e' ∧ K .normal e' w') os.size (Array.replicate os.size false) a { w with drawn:=w.drawn + 1 }:=by
 unfold b3y at h
 match hqi:q id with
 | .quiet=>
  rw [hqi] at h
  simp only [a2g,hqi,Bool.not_true,Bool.false_or,bA] at hq
  obtain ⟨C,hC,h⟩:=h
  refine ⟨hq.1,e1i (C:=C) hq.2 hC (quietOps_wp.wpQuiet_mono _ _ (quietOps_wp os.toList e a hr (mods:=os.toList.filterMap (·.dst)) (fun o ho d hd=>by simp only [List.mem_filterMap]; exact ⟨o,ho,hd⟩) h) ?_)⟩
  rintro a' ⟨e',h1,h2,h3⟩ w' hw'
  exact ⟨rfl,e',h1,h2,h3 w' hw'⟩
 | .held=>
  rw [hqi] at h
  simp only [a2g,hqi,Bool.not_true,Bool.false_or,bA] at hq
  obtain ⟨C,hC,h⟩:=h
  refine ⟨hq.1,e7y (C:=C) hq.2 hC (heldOps_wp.wpHeld_mono _ _ _ (heldOps_wp (mods:=os.toList.filterMap (·.dst)) (fun o ho d hd=>by simp only [List.mem_filterMap]; exact ⟨o,ho,hd⟩) _ e a _ hr h) ?_)⟩
  rintro a' w' ⟨e',h1,h2,h3⟩
  exact ⟨rfl,e',h1,h2,h3⟩
 | .tree t=>
  rw [hqi] at h
  simp only [a2g,hqi,Bool.not_true,Bool.false_or,bA,g7h] at hq
  obtain ⟨C,hC,h⟩:=h
  refine ⟨hq.1,a5k (C:=C) (Q:=fun a' w'=>Exit.normal = .normal ∧ ∃ e',Rel ds n e' a' ∧ AgreeE (os.toList.filterMap (·.dst)) e e' ∧ K .normal e' w') (fun _ _ h=>h) _ _ _ _ (b3m ?_ _ _ _ _ ((e7i (mods:=os.toList.filterMap (·.dst)) hq.2.1 (fun o ho d hd=>by simp only [List.mem_filterMap]; exact ⟨o,ho,hd⟩) t _ _ e a _ hr hC h).1 hq.2.2))⟩
  rintro a' w' ⟨e',h1,h2,h3⟩
  exact ⟨rfl,e',h1,h2,h3⟩
 | .free L M T=>
  rw [hqi] at h
  simp only [a2g,hqi,Bool.not_true,Bool.false_or,bA] at hq
  obtain ⟨C,hC,h⟩:=h
  refine ⟨hq.1,a5w (Q:=fun a' w'=>∃ e',Rel ds n e' a' ∧ AgreeE (os.toList.filterMap (·.dst)) e e' ∧ K .normal e' w') ?_ _ _ _ _ (e1h (mods:=os.toList.filterMap (·.dst)) (fun o ho d hd=>by simp only [List.mem_filterMap]; exact ⟨o,ho,hd⟩) hr hC h)⟩
  rintro a' w' ⟨e',h1,h2,h3⟩
  exact ⟨rfl,e',h1,h2,h3⟩
structure WpLike (P:Program) (ok:Array Oper → Bool) (sc:Bool) (W:Code → (Exit → Act → WK) → Act → WK):Prop where
 mono:∀ {c Q Q' a w},W c Q a w → (∀ e a w,Q e a w → Q' e a w) → W c Q' a w
 skip:∀ {Q a w},Q .normal a w → W .skip Q a w
 label:∀ {l Q a w},Q .normal a w → W (.label l) Q a w
 exit:∀ {id Q a w},Q (.exit id) a w → W (.exit id) Q a w
 ret:∀ {Q a w},Q .ret a w → W .ret Q a w
 seq:∀ {x y Q a w},W x (Exit.then (W y Q) Q) a w → W (.seq x y) Q a w
 cond:∀ {c x y t Q a w},Act.eval a c = .bool t → (t = true → W x Q a w) → (t = false → W y Q a w) → W (.cond c x y) Q a w
 block:∀ {id c Q a w},W c (Exit.inBlock id Q) a w → W (.block id c) Q a w
 loop:∀ {c Q a w} (I:Act → WK) (μ:Act → World → Nat),I a w → (∀ a w,I a w → W c (Exit.then (fun a' w'=>I a' w' ∧ μ a' w' < μ a w) Q) a w) → W (.loop c) Q a w
 scope:∀ {c Q a w},sc = true → W c (Exit.noGoto Q) a w → W (.scope c) Q a w
 list:∀ {id:Nat} {os:Array Oper} {Q:Act → WK} {a:Act} {w:World},ok os = true → wpList P os (fun ex a w=>ex = .normal ∧ Q a w) os.toList a w → W (.region id os false) (fun ex a w=>ex = .normal ∧ Q a w) a w
 any:∀ {id:Nat} {os:Array Oper} {Q:Act → WK} {a:Act} {w:World},ok os = true → P.follows .mixedOrders = true → wpAny P .any os (fun ex a w=>ex = .normal ∧ Q a w) os.size (Array.replicate os.size false) a { w with drawn:=w.drawn + 1 } → W (.region id os true) (fun ex a w=>ex = .normal ∧ Q a w) a w
theorem e1j (P:Program):WpLike P (fun _=>true) true (Code.wp P) where
 mono h hq:=wp_mono h hq
 skip:=wp_skip
 label:=wp_label
 exit:=wp_exit
 ret:=wp_ret
 seq:=wp_seq
 cond hc h1 h2:=wp_cond_split hc h1 h2
 block:=wp_block
 loop I μ h0 h:=wp_loop I μ h0 h
 scope _:=wp_scope_straight
 list _ h:=wp_region_list h
 any _ hm h:=wp_region_any hm h
def a4p (ok:Array Oper → Bool) (sc:Bool):Code → Bool
 | .region _ os _=>ok os
 | .seq x y | .cond _ x y=>a4p ok sc x && a4p ok sc y
 | .block _ c | .loop c=>a4p ok sc c
 | .scope c=>sc && a4p ok sc c
 | _=>true
theorem a3p:∀ c:Code,a4p (fun _=>true) true c = true
 | .region _ _ _=>rfl
 | .seq x y=>by simp [a4p,a3p x,a3p y]
 | .cond _ x y=>by simp [a4p,a3p x,a3p y]
 | .block _ c=>by simp [a4p,a3p c]
 | .loop c=>by simp [a4p,a3p c]
 | .scope c=>by simp [a4p,a3p c]
 | .skip | .label _ | .exit _ | .ret | .goto _ | .rangeFunc _ _ _ _ | .refuse _=>rfl
theorem a6t {P:Program} {ok:Array Oper → Bool} {sc:Bool} {W:Code → (Exit → Act → WK) → Act → WK} (hW:WpLike P ok sc W) {q:Nat → Md} {n:Nat} (c:Code) (hq:a2g P q c = true) (hok:a4p ok sc c = true):∀ (e:Env) (a:Act) (K:Exit → Env → WK) (w:World),Rel ds n e a → b3y P q n c e K w →
  W c (fun ex a' w'=>∃ e',Rel ds n e' a' ∧ AgreeE (a9k c) e e' ∧ K ex e' w') a w:=by
 induction c with
 | skip=>exact fun e a K w hr h=>hW.skip ⟨e,hr,AgreeE.refl _ _,h⟩
 | label l=>exact fun e a K w hr h=>hW.label ⟨e,hr,AgreeE.refl _ _,h⟩
 | exit id=>exact fun e a K w hr h=>hW.exit ⟨e,hr,AgreeE.refl _ _,h⟩
 | ret=>exact fun e a K w hr h=>hW.ret ⟨e,hr,AgreeE.refl _ _,h⟩
 | goto l=>exact fun e a K w hr h=>h.elim
 | rangeFunc f ps xs c=>exact fun e a K w hr h=>h.elim
 | refuse s=>exact fun e a K w hr h=>h.elim
 | region id os d=>
  intro e a K w hr h
  cases d with
  | false=>
   have h:ops P n os (K .normal) os.toList e w:=h
   refine hW.mono (hW.list (Q:=fun a' w'=>∃ e',Rel ds n e' a' ∧ AgreeE (os.toList.filterMap (·.dst)) e e' ∧ K .normal e' w') hok (f3t os.toList e a w hr (mods:=os.toList.filterMap (·.dst)) (fun o ho d hd=>by simp only [List.mem_filterMap]; exact ⟨o,ho,hd⟩) h)) ?_
   rintro ex a' w' ⟨rfl,e',h1,h2,h3⟩
   exact ⟨e',h1,h2,h3⟩
  | true=>
   have hd:=c8x hq hr h
   refine hW.mono (hW.any (Q:=fun a' w'=>∃ e',Rel ds n e' a' ∧ AgreeE (os.toList.filterMap (·.dst)) e e' ∧ K .normal e' w') hok hd.1 hd.2) ?_
   rintro ex a' w' ⟨rfl,e',h1,h2,h3⟩
   exact ⟨e',h1,h2,h3⟩
 | seq x y ihx ihy=>
  intro e a K w hr h
  simp only [a2g,bA] at hq
  simp only [a4p,bA] at hok
  have h:∃ M:Env → WK,b3y P q n x e (fun ex e' w'=>match ex with | .normal=>M e' w' | _=>K ex e' w') w ∧
    ∀ (e':Env) (w:World),AgreeE (a9k x) e e' → M e' w → b3y P q n y e' K w:=by
   unfold b3y at h
   split at h
   ·exact ⟨_,h,fun _ _ _ h=>h⟩
   ·obtain ⟨M,h1,h2⟩:=h
    refine ⟨fun e' w'=>M ((c6y x y).map e') w',h1,fun e' w' ha hm=>?_⟩
    have:=h2 _ e' w' hm
    dsimp only at this
    rwa [b0u,a8d ha] at this
  obtain ⟨M,h,hM⟩:=h
  refine hW.seq (hW.mono (ihx hq.1 hok.1 _ _ _ _ hr h) ?_)
  rintro ex a' w' ⟨e',hr',ha,hk⟩
  have ha':AgreeE (a9k (.seq x y)) e e':=ha.mono (fun i hi=>by simp only [a9k,List.mem_append]; exact .inl hi)
  cases ex with
  | normal=>
   have hk:=hM e' w' ha hk
   refine hW.mono (ihy hq.2 hok.2 _ _ _ _ hr' hk) ?_
   rintro ex a'' w'' ⟨e'',hr'',hb,hk⟩
   exact ⟨e'',hr'',ha'.trans (hb.mono (fun i hi=>by simp only [a9k,List.mem_append]; exact .inr hi)),hk⟩
  | _=>exact ⟨e',hr',ha',hk⟩
 | cond c x y ihx ihy=>
  intro e a K w hr h
  simp only [a2g,bA] at hq
  simp only [a4p,bA] at hok
  obtain ⟨t,hc,ht,hf⟩:=h
  have hc:a.eval c = .bool t:=by rw [hr.eval]; exact hc
  refine hW.cond hc (fun e1=>hW.mono (ihx hq.1 hok.1 _ _ _ _ hr (ht e1)) ?_) (fun e1=>hW.mono (ihy hq.2 hok.2 _ _ _ _ hr (hf e1)) ?_)
  ·rintro ex a' w' ⟨e',hr',ha,hk⟩
   exact ⟨e',hr',ha.mono (fun i hi=>by simp only [a9k,List.mem_append]; exact .inl hi),hk⟩
  ·rintro ex a' w' ⟨e',hr',ha,hk⟩
   exact ⟨e',hr',ha.mono (fun i hi=>by simp only [a9k,List.mem_append]; exact .inr hi),hk⟩
 | block id c ih=>
  intro e a K w hr h
  refine hW.block (hW.mono (ih hq hok _ _ _ _ hr h) ?_)
  rintro ex a' w' ⟨e',hr',ha,hk⟩
  have ha:AgreeE (a9k (.block id c)) e e':=ha
  cases ex with
  | exit id'=>
   simp only [Exit.inBlock] at hk ⊢
   split
   ·rename_i he
    subst he
    have hb:Nat.beq id' id' = true:=by simp
    rw [hb] at hk
    exact ⟨e',hr',ha,hk⟩
   ·rename_i he
    have hb:Nat.beq id' id = false:=by
     cases hx:Nat.beq id' id with
     | false=>rfl
     | true=>exact absurd (Nat.eq_of_beq_eq_true hx) he
    rw [hb] at hk
    exact ⟨e',hr',ha,hk⟩
  | _=>exact ⟨e',hr',ha,hk⟩
 | loop c ih=>
  intro e a K w hr h
  obtain ⟨J,μ,h0,hstep⟩:=h
  refine hW.loop (fun a' w'=>∃ e',Rel ds n e' a' ∧ AgreeE (a9k c) e e' ∧ J ((vars c).map e') w') (fun a' w'=>μ ((vars c).map (a9z a')) w') ⟨e,hr,AgreeE.refl _ _,h0⟩ ?_
  rintro a' w' ⟨e',hr',ha,hJ⟩
  have hs:=hstep _ e' w' hJ
  dsimp only at hs
  rw [b0u,a8d ha] at hs
  have he:a9z a' = e':=funext hr'.get
  refine hW.mono (ih hq hok _ _ _ _ hr' hs) ?_
  rintro ex a'' w'' ⟨e'',hr'',hb,hk⟩
  cases ex with
  | normal=>
   have he':a9z a'' = e'':=funext hr''.get
   refine ⟨⟨e'',hr'',ha.trans hb,hk.1⟩,?_⟩
   show μ ((vars c).map (a9z a'')) w'' < μ ((vars c).map (a9z a')) w'
   rw [he,he']
   exact hk.2
  | _=>exact ⟨e'',hr'',ha.trans hb,hk⟩
 | scope c ih=>
  intro e a K w hr h
  simp only [a4p,bA] at hok
  refine hW.scope hok.1 (hW.mono (ih hq hok.2 _ _ _ _ hr h) ?_)
  rintro ex a' w' ⟨e',hr',ha,hk⟩
  cases ex with
  | goto l=>exact hk.elim
  | _=>exact ⟨e',hr',ha,hk⟩
theorem a8e {P:Program} {q:Nat → Md} {n:Nat} (c:Code) (hq:a2g P q c = true) (e:Env) (a:Act) (K:Exit → Env → WK) (w:World) (hr:Rel ds n e a) (h:b3y P q n c e K w) :
  Code.wp P c (fun ex a' w'=>∃ e',Rel ds n e' a' ∧ AgreeE (a9k c) e e' ∧ K ex e' w') a w:=a6t (e1j P) c hq (a3p c) e a K w hr h
def f7t (P:Program) (e:Env) (w:World):List ResultVar → (List Value → Prop) → Prop
 | [],K=>K []
 | .tmp t :: r,K=>f7t P e w r (fun vs=>K (e t :: vs))
 | .cell s t :: r,K=>∃ v,(do loadVar t (← asAddr (e s)):Sem Value).run P w = .ok v w ∧ f7t P e w r (fun vs=>K (v :: vs))
def e1k:List Value → Value
 | [v]=>v
 | vs=>.tuple vs.toArray
def g1x (P:Program) (rs:List ResultVar) (K:VK) (ex:Exit) (e:Env) (w:World):Prop:=
 match ex with
 | .normal | .ret=>f7t P e w rs (fun vs=>K (e1k vs) w)
 | _=>False
theorem b2f {P:Program} {a:Act} {w:World} {K:Value → Prop} (rs:List ResultVar) (fn:Func) (hfn:fn.results = rs.toArray)
  (h:f7t P (a9z a) w rs (fun vs=>K (e1k vs))):∃ v,(results fn a.tmps).run P w = .ok v w ∧ K v:=by
 have key:∀ (rs:List ResultVar) (K:List Value → Prop),f7t P (a9z a) w rs K →
   ∃ vs,((rs.mapM (fun r:ResultVar=>(match r with | .tmp t=>pure (a.tmps.getD t undef) | .cell s t=>do loadVar t (← asAddr (a.tmps.getD s undef)):Sem Value))).run P w) = .ok vs w ∧ K vs:=by
  intro rs
  induction rs with
  | nil=>intro K h; exact ⟨[],by simp [List.mapM_nil],h⟩
  | cons r rs ih=>
   intro K h
   cases r with
   | tmp t=>
    obtain ⟨vs,hr,hk⟩:=ih _ h
    exact ⟨_,by simp only [List.mapM_cons,pure_bind,Sem.run_bind,hr]; rfl,hk⟩
   | cell s t=>
    obtain ⟨v,hv,h⟩:=h
    obtain ⟨vs,hr,hk⟩:=ih _ h
    refine ⟨v :: vs,?_,hk⟩
    simp only [List.mapM_cons]
    unfold a9z at hv
    rw [Sem.run_bind,hv,Result.andThen_ok,Sem.run_bind,hr]
    rfl
 obtain ⟨vs,hr,hk⟩:=key _ _ h
 refine ⟨e1k vs,?_,hk⟩
 have e:(results fn a.tmps) = (do
   let vs ← rs.mapM (fun r:ResultVar=>(match r with | .tmp t=>pure (a.tmps.getD t undef) | .cell s t=>do loadVar t (← asAddr (a.tmps.getD s undef)):Sem Value))
   pure (if h:vs.toArray.size = 1 then vs.toArray[0] else .tuple vs.toArray)):=by
  unfold results
  rw [hfn,List.mapM_toArray]
  simp only [map_eq_pure_bind,bind_assoc,pure_bind]
  rfl
 rw [e,Sem.run_bind,hr,Result.andThen_ok,Sem.run_pure]
 congr 1
 match vs with
 | []=>rfl
 | [v]=>rfl
 | v :: u :: l=>simp [e1k]
def a5j (args:List Value):Env:=fun i=>args.getD i undef
theorem c4a {P:Program} (q:Nat → Md) {f:FuncId} {fn:Func} {c:Code} {rs:List ResultVar} {args:List Value} {K:VK} {w:World}
  (hf:P.funcs[f]? = some fn) (hb:fn.body = some c) (hrs:fn.results = rs.toArray) (hq:a2g P q c = true) (hn:args.length ≤ fn.ntmps)
  (h:b3y P q fn.ntmps c (a5j args) (g1x P rs K) w):a0a P f args.toArray K w:=by
 have hr:Rel [] fn.ntmps (a5j args) { tmps:=args.toArray ++ Array.replicate (fn.ntmps - args.toArray.size) undef,defers:=[] }:=by
  refine ⟨by simp; omega,rfl,fun i=>?_⟩
  simp only [a5j,Array.getD_eq_getD_getElem?,List.getD_eq_getElem?_getD]
  by_cases hi:i < args.length
  ·rw [Array.getElem?_append_left (by simpa using hi)]
   simp
  ·rw [Array.getElem?_append_right (by simpa using hi)]
   have:args[i]? = none:=by simp; omega
   rw [this]
   simp only [Array.getElem?_replicate]
   split <;> rfl
 refine calls_of_wp hf hb (wp_mono (a8e c hq _ _ _ _ hr h) ?_)
 rintro ex a w' ⟨e',hr',ha,hk⟩
 have he:a9z a = e':=funext hr'.get
 subst he
 cases ex <;> first
  | exact hk.elim
  | (obtain ⟨v,hr,hk⟩:=b2f (K:=fun v=>K v w') rs fn hrs hk
     exact ⟨hr'.defers,v,hr,v,rfl,hk⟩)
end Go.Sh
namespace Go.Sh
open Go
theorem a6v {P:Program} {o:Op} {T:TypeId} {args:List Value} {K:VK} {w w':World} {v:Value}
  (h:(xop o T args).run P w = .ok (.value v) w'):oM P o T args K w = K v w':=by
 unfold oM opM
 rw [h]
section
variable {P:Program} {K:VK} {w:World}
@[go_sem] theorem g3t (m:(VK) → WK):gdM true m K w = m K w:=rfl
@[go_sem] theorem g2d (m:(VK) → WK):gdM false m K w = K undef w:=rfl
@[go_sem] theorem b9h (b:Bool):gd (.bool b) true = b:=by cases b <;> rfl
@[go_sem] theorem b0v (b:Bool):gd (.bool b) false = !b:=by cases b <;> rfl
@[go_sem] theorem g3u (v:Value):a0j v K w = K v w:=rfl
theorem b5d (T:TypeId) (b:Bool) (x y:Value):oM P (.pick (.tmp 0) (.tmp 1) (.tmp 2)) T [.bool b,x,y] K w = K (bif b then x else y) w:=by
 simp [oM,opM,xop,execOp,a1h,evE,asBool]
 cases b <;> rfl
theorem c4e (t T:TypeId) (s:ByteArray) (h:P.underlying t = some .string):oM P (.call { callee:=.builtin .len,args:=#[.tmp 0],argTypes:=#[t] }) T [.string s] K w = K (.int .i64 s.size) w:=
 by
 have hr:=run_len_string (P:=P) (w:=w) t T s h
 refine a6v (w':=w) ?_
 simp [xop,a1h,evE,go_sem]
 rw [hr]
 rfl
theorem g2e (t t' T:TypeId) (k:IntKind) (a b:Int):oM P (.binOp .lss t (.tmp 0) (.tmp 1) t') T [.int k a,.int k b] K w = K (.bool (decide (a < b))) w:=by
 simp [oM,opM,xop,a1h,evE,go_sem]
theorem g2f (t t' T:TypeId) (k:IntKind) (a b:Int):oM P (.binOp .leq t (.tmp 0) (.tmp 1) t') T [.int k a,.int k b] K w = K (.bool (decide (a ≤ b))) w:=by
 simp [oM,opM,xop,a1h,evE,go_sem]
theorem g2g (t t' T:TypeId) (k:IntKind) (a b:Int):oM P (.binOp .gtr t (.tmp 0) (.tmp 1) t') T [.int k a,.int k b] K w = K (.bool (decide (b < a))) w:=by
 simp [oM,opM,xop,a1h,evE,go_sem]
theorem g2h (t t' T:TypeId) (k:IntKind) (a b:Int):oM P (.binOp .geq t (.tmp 0) (.tmp 1) t') T [.int k a,.int k b] K w = K (.bool (decide (b ≤ a))) w:=by
 simp [oM,opM,xop,a1h,evE,go_sem]
theorem g2i (t t' T:TypeId) (k:IntKind) (a b:Int):oM P (.binOp .add t (.tmp 0) (.tmp 1) t') T [.int k a,.int k b] K w = K (.int k (k.wrap (a + b))) w:=by
 simp [oM,opM,xop,a1h,evE,go_sem]
theorem g2j (t t' T:TypeId) (k:IntKind) (a b:Int):oM P (.binOp .sub t (.tmp 0) (.tmp 1) t') T [.int k a,.int k b] K w = K (.int k (k.wrap (a - b))) w:=by
 simp [oM,opM,xop,a1h,evE,go_sem]
theorem g2k (t t' T:TypeId) (k:IntKind) (a b:Int):oM P (.binOp .mul t (.tmp 0) (.tmp 1) t') T [.int k a,.int k b] K w = K (.int k (k.wrap (a * b))) w:=by
 simp [oM,opM,xop,a1h,evE,go_sem]
theorem e8d (t t' T:TypeId) (k:IntKind) (a b:Int):oM P (.binOp .eql t (.tmp 0) (.const (.int k b)) t') T [.int k a] K w = K (.bool (decide (a = b))) w:=by
 simp [oM,opM,xop,a1h,evE,go_sem]
 rfl
theorem e8e (t t' T:TypeId) (k:IntKind) (a b:Int):oM P (.binOp .neq t (.tmp 0) (.const (.int k b)) t') T [.int k a] K w = K (.bool (!decide (a = b))) w:=by
 simp [oM,opM,xop,a1h,evE,go_sem]
 rfl
theorem e8f (t t' T:TypeId) (k:IntKind) (a b:Int):oM P (.binOp .eql t (.tmp 0) (.tmp 1) t') T [.int k a,.int k b] K w = K (.bool (decide (a = b))) w:=by
 simp [oM,opM,xop,a1h,evE,go_sem]
 rfl
theorem e8g (t t' T:TypeId) (k:IntKind) (a b:Int):oM P (.binOp .neq t (.tmp 0) (.tmp 1) t') T [.int k a,.int k b] K w = K (.bool (!decide (a = b))) w:=by
 simp [oM,opM,xop,a1h,evE,go_sem]
 rfl
theorem e1u (a b:ByteArray):(a.toList == b.toList) = decide (a = b):=by
 rw [ByteArray.toList_eq,ByteArray.toList_eq,Bool.eq_iff_iff]
 simp only [beq_iff_eq,dE]
 refine ⟨fun h=>?_,fun h=>by rw [h]⟩
 obtain ⟨a⟩:=a
 obtain ⟨b⟩:=b
 congr 1
 exact Array.ext' h
theorem c9b (α:Type) (P:Program) (k:IntKind) (i:Int) (n:Nat) (c:BoundsCode) (w:World):∃ h w',(boundsPanic k i n c:Sem α).run P w = .halt h w':=by
 obtain ⟨s,w',h⟩:=run_boundsPanic (α:=α) (P:=P) (w:=w) k i n c
 exact ⟨_,_,h⟩
theorem a2e {S:Sem Value} {o:Op} {T:TypeId} {args:List Value} (hx:xop o T args = (do let v ← S; pure (.value v))):oM P o T args K w = ∃ v w',S.run P w = .ok v w' ∧ K v w':=by
 unfold oM
 rw [hx]
 exact propext e1d
theorem a6w {v:Value} {w':World}:(∃ v' w'',(Result.ok v w':Result Value) = .ok v' w'' ∧ K v' w'') = K v w':=
 propext ⟨fun ⟨_,_,h,hk⟩=>by cases h; exact hk,fun h=>⟨_,_,rfl,h⟩⟩
theorem a4a {h:Halt} {w':World}:(∃ v' w'',(Result.halt h w':Result Value) = .ok v' w'' ∧ K v' w'') = False:=
 propext ⟨fun ⟨_,_,h,_⟩=>(by cases h),fun h=>h.elim⟩
theorem e1v (t t' T:TypeId) (a b:ByteArray):oM P (.binOp .neq t (.tmp 0) (.tmp 1) t') T [.string a,.string b] K w = K (.bool (!decide (a = b))) w:=by
 simp [oM,opM,xop,a1h,evE,go_sem,e1u]
theorem g2l (t T:TypeId) (b:Bool):oM P (.unOp .not t (.tmp 0)) T [.bool b] K w = K (.bool (!b)) w:=by
 simp [oM,opM,xop,a1h,evE,go_sem]
theorem b9i (t T:TypeId) (s:ByteArray) (i:Int) (h:P.underlying t = some .string):oM P (.index t (.tmp 0) (.tmp 1)) T [.string s,.int .i64 i] K w = ∃ h:0 ≤ i ∧ i.toNat < s.size,K (.int .u8 (s[i.toNat]'h.2).toNat) w:=by
 rw [a2e (S:=Instr.index t (.string s) (.int .i64 i)) rfl,run_index_string (P:=P) (w:=w) t s .i64 i h]
 by_cases hi:0 ≤ i ∧ i < s.size
 ·rw [dif_pos hi,a6w]
  exact propext ⟨fun hk=>⟨⟨hi.1,by omega⟩,hk⟩,fun ⟨_,hk⟩=>hk⟩
 ·rw [dif_neg hi]
  obtain ⟨e,w',he⟩:=c9b Value P .i64 i s.size .index w
  rw [he,a4a]
  exact propext ⟨fun h=>h.elim,fun ⟨h,_⟩=>hi ⟨h.1,by omega⟩⟩
theorem c4f (T:TypeId) (a b:Value):oM P (.extract (.tmp 0) 0) T [.tuple #[a,b]] K w = K a w:=a6v rfl
theorem c4g (T:TypeId) (a b:Value):oM P (.extract (.tmp 0) 1) T [.tuple #[a,b]] K w = K b w:=a6v rfl
@[go_sem] theorem g5j (t t' T:TypeId) (k:IntKind) (a b:Int):oM P (.binOp .lss t (.tmp 0) (.tmp 1) t') T [.int k a,.int k b] = a0j (.bool (decide (a < b))):=by
 funext K w
 exact g2e t t' T k a b
@[go_sem] theorem g5k (t t' T:TypeId) (k:IntKind) (a b:Int):oM P (.binOp .leq t (.tmp 0) (.tmp 1) t') T [.int k a,.int k b] = a0j (.bool (decide (a ≤ b))):=by
 funext K w
 exact g2f t t' T k a b
@[go_sem] theorem g5l (t t' T:TypeId) (k:IntKind) (a b:Int):oM P (.binOp .gtr t (.tmp 0) (.tmp 1) t') T [.int k a,.int k b] = a0j (.bool (decide (b < a))):=by
 funext K w
 exact g2g t t' T k a b
@[go_sem] theorem g5m (t t' T:TypeId) (k:IntKind) (a b:Int):oM P (.binOp .geq t (.tmp 0) (.tmp 1) t') T [.int k a,.int k b] = a0j (.bool (decide (b ≤ a))):=by
 funext K w
 exact g2h t t' T k a b
@[go_sem] theorem f6y (t t' T:TypeId) (k:IntKind) (a b:Int):oM P (.binOp .add t (.tmp 0) (.tmp 1) t') T [.int k a,.int k b] = a0j (.int k (k.wrap (a + b))):=by
 funext K w
 exact g2i t t' T k a b
@[go_sem] theorem g5n (t t' T:TypeId) (k:IntKind) (a b:Int):oM P (.binOp .sub t (.tmp 0) (.tmp 1) t') T [.int k a,.int k b] = a0j (.int k (k.wrap (a - b))):=by
 funext K w
 exact g2j t t' T k a b
@[go_sem] theorem g5o (t t' T:TypeId) (k:IntKind) (a b:Int):oM P (.binOp .mul t (.tmp 0) (.tmp 1) t') T [.int k a,.int k b] = a0j (.int k (k.wrap (a * b))):=by
 funext K w
 exact g2k t t' T k a b
@[go_sem] theorem g2m (t t' T:TypeId) (k:IntKind) (a b:Int):oM P (.binOp .eql t (.tmp 0) (.const (.int k b)) t') T [.int k a] = a0j (.bool (decide (a = b))):=by
 funext K w
 exact e8d t t' T k a b
@[go_sem] theorem g2n (t t' T:TypeId) (k:IntKind) (a b:Int):oM P (.binOp .neq t (.tmp 0) (.const (.int k b)) t') T [.int k a] = a0j (.bool (!decide (a = b))):=by
 funext K w
 exact e8e t t' T k a b
@[go_sem] theorem g2o (t t' T:TypeId) (k:IntKind) (a b:Int):oM P (.binOp .eql t (.tmp 0) (.tmp 1) t') T [.int k a,.int k b] = a0j (.bool (decide (a = b))):=by
 funext K w
 exact e8f t t' T k a b
@[go_sem] theorem g2p (t t' T:TypeId) (k:IntKind) (a b:Int):oM P (.binOp .neq t (.tmp 0) (.tmp 1) t') T [.int k a,.int k b] = a0j (.bool (!decide (a = b))):=by
 funext K w
 exact e8g t t' T k a b
@[go_sem] theorem f7v (t t' T:TypeId) (a b:ByteArray):oM P (.binOp .neq t (.tmp 0) (.tmp 1) t') T [.string a,.string b] = a0j (.bool (!decide (a = b))):=by
 funext K w
 exact e1v t t' T a b
@[go_sem] theorem g5p (t T:TypeId) (b:Bool):oM P (.unOp .not t (.tmp 0)) T [.bool b] = a0j (.bool (!b)):=by
 funext K w
 exact g2l t T b
@[go_sem] theorem e2z (T:TypeId) (a b:Value):oM P (.extract (.tmp 0) 0) T [.tuple #[a,b]] = a0j a:=by
 funext K w
 exact c4f T a b
@[go_sem] theorem e3a (T:TypeId) (a b:Value):oM P (.extract (.tmp 0) 1) T [.tuple #[a,b]] = a0j b:=by
 funext K w
 exact c4g T a b
@[go_sem] theorem e3b (t T:TypeId) (s:ByteArray) (h:P.underlying t = some .string):oM P (.call { callee:=.builtin .len,args:=#[.tmp 0],argTypes:=#[t] }) T [.string s] = a0j (.int .i64 s.size):=by
 funext K w
 exact c4e t T s h
def a5d (s:ByteArray) (n:Nat):UInt8:=s.data.toList.getD n 0
theorem b5e (s:ByteArray) (n:Nat) (h:n < s.size):a5d s n = s[n]:=by
 unfold a5d
 have h':n < s.data.toList.length:=by simpa using h
 rw [List.getD_eq_getElem?_getD,gE h']
 rfl
def onM (p:Prop) (v:Value) (K:VK) (w:World):Prop:=p ∧ K v w
@[go_sem] theorem g7i (p:Prop) (v:Value):onM p v K w = (p ∧ K v w):=rfl
@[go_sem] theorem d3g (t T:TypeId) (s:ByteArray) (i:Int) (h:P.underlying t = some .string):oM P (.index t (.tmp 0) (.tmp 1)) T [.string s,.int .i64 i] = onM (0 ≤ i ∧ i.toNat < s.size) (.int .u8 (a5d s i.toNat).toNat):=by
 funext K w
 rw [b9i t T s i h]
 exact propext ⟨fun ⟨h,hk⟩=>⟨h,by rw [b5e _ _ h.2]; exact hk⟩,fun ⟨h,hk⟩=>⟨h,by rw [b5e _ _ h.2] at hk; exact hk⟩⟩
theorem e1w {p:Prop} [Decidable p] {m:(VK) → WK} (h1:p → m K w) (h2:¬p → K undef w):gdM (decide p) m K w:=by
 by_cases h:p
 ·rw [decide_eq_true h]; exact h1 h
 ·rw [decide_eq_false h]; exact h2 h
theorem e8h {p:Prop} [Decidable p] {m:(VK) → WK} (h1:p → K undef w) (h2:¬p → m K w):gdM (!decide p) m K w:=by
 by_cases h:p
 ·rw [decide_eq_true h]; exact h1 h
 ·rw [decide_eq_false h]; exact h2 h
theorem b9j {p:Prop} [Decidable p] {A B:Prop} (h1:p → A) (h2:¬p → B):a0v (.bool (decide p)) A B:=⟨decide p,rfl,fun h=>h1 (of_decide_eq_true h),fun h=>h2 (of_decide_eq_false h)⟩
theorem c2j {p:Prop} [Decidable p] {A B:Prop} (h1:p → B) (h2:¬p → A):a0v (.bool (!decide p)) A B:=⟨!decide p,rfl,fun h=>h2 (by simpa using h),fun h=>h1 (by simpa using h)⟩
theorem e1x {b:Bool} {A B:Prop} (h1:b = true → A) (h2:b = false → B):a0v (.bool b) A B:=⟨b,rfl,h1,h2⟩
attribute [go_sem] cond_true cond_false decide_true decide_false Bool.not_true Bool.not_false
@[go_sem] theorem e8i (b:Bool):gd undef b = false:=by cases b <;> rfl
theorem a0o (x:Int) (h1:-9223372036854775808 ≤ x) (h2:x ≤ 9223372036854775807):IntKind.i64.wrap x = x:=by
 unfold IntKind.wrap
 simp only [IntKind.bits,IntKind.signed]
 simp
 omega
theorem a4r (x:Int) (h1:0 ≤ x) (h2:x ≤ 255):IntKind.u8.wrap x = x:=by
 unfold IntKind.wrap
 simp only [IntKind.bits,IntKind.signed]
 simp
 omega
theorem a1v (x:Int) (h1:0 ≤ x) (h2:x ≤ 18446744073709551615):IntKind.u64.wrap x = x:=by
 unfold IntKind.wrap
 simp only [IntKind.bits,IntKind.signed]
 simp
 omega
attribute [go_sem] Int.toNat_natCast
def rM (r:Result Value) (K:VK):Prop:=match r with
 | .ok v w'=>K v w'
 | .halt _ _=>False
def uM (r:Result Unit) (K:VK):Prop:=match r with
 | .ok _ w'=>K undef w'
 | .halt _ _=>False
@[go_sem] theorem c4h (v:Value) (w':World):rM (.ok v w') K = K v w':=rfl
@[go_sem] theorem h1c (w':World):uM (.ok () w') K = K undef w':=rfl
theorem e1y {S:Sem Unit} {o:Op} {T:TypeId} {args:List Value} (hx:xop o T args = (do S; pure .skip)):oM P o T args K w = uM (S.run P w) K:=by
 unfold oM opM uM
 rw [hx,Sem.run_bind]
 generalize S.run P w = r
 cases r with
 | ok v w'=>rfl
 | halt h w'=>rfl
@[go_sem] theorem d1f (T:TypeId) (t:TypeId):oM P (.alloc t) T [] K w = rM ((Instr.alloc t true (.tuple #[])).run P w) K:=by
 rw [a2e (S:=Instr.alloc t true (.tuple #[])) rfl]
 unfold rM
 generalize (Instr.alloc t true (.tuple #[])).run P w = r
 cases r with
 | ok v w'=>exact a6w
 | halt h w'=>exact a4a
@[go_sem] theorem f3z (T:TypeId) (t:TypeId) (x:Value):oM P (.box t (.tmp 0)) T [x] K w = rM ((Instr.box t x).run P w) K:=by
 rw [a2e (S:=Instr.box t x) rfl]
 unfold rM
 generalize (Instr.box t x).run P w = r
 cases r with
 | ok v w'=>exact a6w
 | halt h w'=>exact a4a
@[go_sem] theorem f6z (T:TypeId) (t:TypeId) (x:Value):oM P (.load t (.tmp 0)) T [x] K w = rM ((Instr.loadAt t x).run P w) K:=by
 rw [a2e (S:=Instr.loadAt t x) rfl]
 unfold rM
 generalize (Instr.loadAt t x).run P w = r
 cases r with
 | ok v w'=>exact a6w
 | halt h w'=>exact a4a
@[go_sem] theorem b0w (T:TypeId) (t:TypeId) (x y:Value):oM P (.store t (.tmp 0) (.tmp 1)) T [x,y] K w = uM ((Instr.storeAt t x y).run P w) K:=by
 rw [e1y (S:=Instr.storeAt t x y) rfl]
@[go_sem] theorem f4a (T:TypeId) (t:TypeId) (x:Value) (f:Nat):oM P (.fieldAddr t (.tmp 0) f) T [x] K w = rM ((Instr.fieldAt t x f).run P w) K:=by
 rw [a2e (S:=Instr.fieldAt t x f) rfl]
 unfold rM
 generalize (Instr.fieldAt t x f).run P w = r
 cases r with
 | ok v w'=>exact a6w
 | halt h w'=>exact a4a
theorem a2x (T:TypeId) (t:TypeId) (x i:Value):oM P (.indexAddr t (.tmp 0) (.tmp 1)) T [x,i] K w = rM ((Instr.indexAt t x i).run P w) K:=by
 rw [a2e (S:=Instr.indexAt t x i) rfl]
 unfold rM
 generalize (Instr.indexAt t x i).run P w = r
 cases r with
 | ok v w'=>exact a6w
 | halt h w'=>exact a4a
@[go_sem] theorem f4b (T:TypeId) (t:TypeId) (cs:Array Value) (i:Value):oM P (.index t (.tmp 0) (.tmp 1)) T [.agg cs,i] K w = rM ((Instr.index t (.agg cs) i).run P w) K:=by
 rw [a2e (S:=Instr.index t (.agg cs) i) rfl]
 unfold rM
 generalize (Instr.index t (.agg cs) i).run P w = r
 cases r with
 | ok v w'=>exact a6w
 | halt h w'=>exact a4a
@[go_sem] theorem b5f (T:TypeId) (s d:TypeId) (x:Value):oM P (.convert s d (.tmp 0)) T [x] K w = rM ((convert s d x).run P w) K:=by
 rw [a2e (S:=convert s d x) rfl]
 unfold rM
 generalize (convert s d x).run P w = r
 cases r with
 | ok v w'=>exact a6w
 | halt h w'=>exact a4a
@[go_sem] theorem g2q (T:TypeId) (t:TypeId):oM P (.build t #[]) T [] K w = rM ((Instr.build t #[]).run P w) K:=by
 rw [a2e (S:=Instr.build t #[]) (by simp [xop,execOp,a1h,evE])]
 unfold rM
 generalize (Instr.build t #[]).run P w = r
 cases r with
 | ok v w'=>exact a6w
 | halt h w'=>exact a4a
@[go_sem] theorem g2r (T:TypeId) (t:TypeId) (i0 i1:Nat) (v0 v1:Value):oM P (.build t #[(i0,.tmp 0),(i1,.tmp 1)]) T [v0,v1] K w = rM ((Instr.build t #[(i0,v0),(i1,v1)]).run P w) K:=by
 rw [a2e (S:=Instr.build t #[(i0,v0),(i1,v1)]) (by simp [xop,execOp,a1h,evE])]
 unfold rM
 generalize (Instr.build t #[(i0,v0),(i1,v1)]).run P w = r
 cases r with
 | ok v w'=>exact a6w
 | halt h w'=>exact a4a
@[go_sem] theorem g2s (T:TypeId) (t:TypeId) (i0 i1 i2:Nat) (v0 v1 v2:Value):oM P (.build t #[(i0,.tmp 0),(i1,.tmp 1),(i2,.tmp 2)]) T [v0,v1,v2] K w = rM ((Instr.build t #[(i0,v0),(i1,v1),(i2,v2)]).run P w) K:=by
 rw [a2e (S:=Instr.build t #[(i0,v0),(i1,v1),(i2,v2)]) (by simp [xop,execOp,a1h,evE])]
 unfold rM
 generalize (Instr.build t #[(i0,v0),(i1,v1),(i2,v2)]).run P w = r
 cases r with
 | ok v w'=>exact a6w
 | halt h w'=>exact a4a
theorem oG {o:Op} {T:TypeId} {args:List Value} (h:∀ K':VK,(∀ v w,K v w → K' v w) → oM P o T args K' w):oM P o T args K w:=h K (fun _ _ h=>h)
theorem a4i {v:Value} (h:K v w):a0j v K w:=h
section
variable {m:(VK) → WK} {p:Prop} [Decidable p] {b:Bool} {A B:Prop} {x y:Value} {T:TypeId}
theorem f7a (h:p) (k:m K w):gdM (gd (.bool (decide p)) true) m K w:=by rw [b9h,decide_eq_true h]; exact k
theorem f7b (h:¬p) (k:K undef w):gdM (gd (.bool (decide p)) true) m K w:=by rw [b9h,decide_eq_false h]; exact k
theorem e1z (h1:p → m K w) (h2:¬p → K undef w):gdM (gd (.bool (decide p)) true) m K w:=by rw [b9h]; exact e1w h1 h2
theorem f7c (h:¬p) (k:m K w):gdM (gd (.bool (decide p)) false) m K w:=by rw [b0v,decide_eq_false h]; exact k
theorem f7d (h:p) (k:K undef w):gdM (gd (.bool (decide p)) false) m K w:=by rw [b0v,decide_eq_true h]; exact k
theorem e2a (h1:p → K undef w) (h2:¬p → m K w):gdM (gd (.bool (decide p)) false) m K w:=by rw [b0v]; exact e8h h1 h2
theorem e8j (h:¬p) (k:m K w):gdM (gd (.bool (!decide p)) true) m K w:=by rw [b9h,decide_eq_false h]; exact k
theorem e8k (h:p) (k:K undef w):gdM (gd (.bool (!decide p)) true) m K w:=by rw [b9h,decide_eq_true h]; exact k
theorem e8l (h:p) (k:m K w):gdM (gd (.bool (!decide p)) false) m K w:=by rw [b0v,decide_eq_true h]; exact k
theorem e8m (h:¬p) (k:K undef w):gdM (gd (.bool (!decide p)) false) m K w:=by rw [b0v,decide_eq_false h]; exact k
theorem d2z (h1:p → m K w) (h2:¬p → K undef w):gdM (gd (.bool (!decide p)) false) m K w:=by rw [b0v,Bool.not_not]; exact e1w h1 h2
theorem gdu (k:K undef w) (c:Bool):gdM (gd undef c) m K w:=by rw [e8i]; exact k
theorem h1d (k:m K w):gdM (gd (.bool true) true) m K w:=k
theorem h1e (k:K undef w):gdM (gd (.bool false) true) m K w:=k
theorem h1f (k:m K w):gdM (gd (.bool false) false) m K w:=k
theorem h1g (k:K undef w):gdM (gd (.bool true) false) m K w:=k
theorem e8n (h:p) (k:K x w):oM P (.pick (.tmp 0) (.tmp 1) (.tmp 2)) T [.bool (decide p),x,y] K w:=by rw [b5d,decide_eq_true h]; exact k
theorem e8o (h:¬p) (k:K y w):oM P (.pick (.tmp 0) (.tmp 1) (.tmp 2)) T [.bool (decide p),x,y] K w:=by rw [b5d,decide_eq_false h]; exact k
theorem e2b (h:¬p) (k:K x w):oM P (.pick (.tmp 0) (.tmp 1) (.tmp 2)) T [.bool (!decide p),x,y] K w:=by rw [b5d,decide_eq_false h]; exact k
theorem e2c (h:p) (k:K y w):oM P (.pick (.tmp 0) (.tmp 1) (.tmp 2)) T [.bool (!decide p),x,y] K w:=by rw [b5d,decide_eq_true h]; exact k
theorem g5q (k:K x w):oM P (.pick (.tmp 0) (.tmp 1) (.tmp 2)) T [.bool true,x,y] K w:=by rw [b5d]; exact k
theorem g5r (k:K y w):oM P (.pick (.tmp 0) (.tmp 1) (.tmp 2)) T [.bool false,x,y] K w:=by rw [b5d]; exact k
theorem e8p (h:p) (k:A):a0v (.bool (decide p)) A B:=b9j (fun _=>k) (fun h'=>absurd h h')
theorem e8q (h:¬p) (k:B):a0v (.bool (decide p)) A B:=b9j (fun h'=>absurd h' h) (fun _=>k)
theorem e2d (h:¬p) (k:A):a0v (.bool (!decide p)) A B:=c2j (fun h'=>absurd h' h) (fun _=>k)
theorem e2e (h:p) (k:B):a0v (.bool (!decide p)) A B:=c2j (fun _=>k) (fun h'=>absurd h h')
theorem e2f (h:b = true) (k:A):a0v (.bool b) A B:=e1x (fun _=>k) (fun h'=>absurd (h.symm.trans h') (by simp))
theorem e2g (h:b = false) (k:B):a0v (.bool b) A B:=e1x (fun h'=>absurd (h.symm.trans h') (by simp)) (fun _=>k)
theorem g5s (k:A):a0v (.bool true) A B:=e2f rfl k
theorem g5t (k:B):a0v (.bool false) A B:=e2g rfl k
end
theorem e8r {f:FuncId} {o:Op} {T:TypeId} {args:List Value} (xs:Array Value) (hb:b3l P f = true) (hx:xop o T args = callFunc f xs) (h:a0a P f xs K w):oM P o T args K w:=by
 unfold oM opM
 rw [hx,b0t hb]
 exact h
theorem b0c {f:FuncId} {fs cs:Array Value} {T:TypeId} {ts:Array TypeId} {x:Value} (hb:b3l P f = true) (h:a0a P f (fs ++ #[x] ++ cs) K w):oM P (.call { callee:=.value (.tmp 0),args:=#[.tmp 1],argTypes:=ts }) T [.func (.func f) fs cs,x] K w:=
 e8r _ hb (by simp [xop,execOp,a1h,evE,resolve,Deferred.ofValue,invoke]) h
@[go_sem] theorem f7e (T:TypeId) (a:Addr):oM P (.nilCheck (.tmp 0)) T [.pointer (some a)] K w = K (.pointer (some a)) w:=a6v rfl
theorem b0d {S:Sem Value} {o:Op} {T:TypeId} {args:List Value} (hx:xop o T args = (do let v ← S; pure (.value v))):oM P o T args K w = rM (S.run P w) K:=by
 rw [a2e hx]
 unfold rM
 generalize S.run P w = r
 cases r with
 | ok v w'=>exact a6w
 | halt h w'=>exact a4a
theorem e2h (t t' T:TypeId) (x c:Value):oM P (.binOp .eql t (.tmp 0) (.const c) t') T [x] K w = rM ((do eqGuard .eql t (.tmp 0) (.const c) x c; binOp .eql t x c:Sem Value).run P w) K:=b0d rfl
theorem g2t (t t' T:TypeId) (x y:Value):oM P (.binOp .neq t (.tmp 0) (.tmp 1) t') T [x,y] K w = rM ((do eqGuard .neq t (.tmp 0) (.tmp 1) x y; binOp .neq t x y:Sem Value).run P w) K:=b0d rfl
@[go_sem] theorem a1a (T t i0:Nat) (x:Value) (n:Nat):oM P (.buildSlice t n #[(i0,.tmp 0)]) T [x] K w = rM ((Instr.buildSlice t n #[(i0,x)]).run P w) K:=b0d (by simp [xop,execOp,a1h,evE])
end
end Go.Sh
namespace Go.Sh
open Go Go.RowKit
variable {P:Program} {K:VK} {w:World}
@[go_sem] theorem e8c (t T:TypeId) (a:Option Addr) (n c:Nat) (h:P.underlying t = some (.slice (P.elem t))):oM P (.call { callee:=.builtin .len,args:=#[.tmp 0],argTypes:=#[t] }) T [.slice a n c] = a0j (.int .i64 n):=by
 funext K w
 have hr:=run_len_slice (P:=P) (w:=w) t T a n c h
 rw [a2e (S:=Builtin.len_ #[t] T #[.slice a n c]) (by simp [xop,execOp,a1h,evE,resolve,invoke,builtin]),hr,a6w]
 rfl
end Go.Sh
namespace Go.Sh
open Go Go.RowKit
variable {P:Program} {w W0:World}
theorem d3a {body:(WK) → Prop} (h:body (fun w'=>w' = { w with drawn:=w.drawn + 1 })):a4o w body:=
 ⟨fun w'=>w' = { w with drawn:=w.drawn + 1 },rfl,h⟩
theorem e2i {o:Op} {T:TypeId} {args:List Value} {K:Value → Prop} (hx:∃ S:Sem Value,xop o T args = (do let v ← S; pure (.value v))) (h:oM P o T args (fun v w'=>w' = W0 ∧ K v) W0):oQ P o T args (fun w=>w = W0) K:=by
 obtain ⟨S,hx⟩:=hx
 rw [a2e hx] at h
 obtain ⟨v,w',hr,rfl,hk⟩:=h
 refine ⟨v,?_,hk⟩
 rintro w rfl
 rw [hx,Sem.run_bind,hr]
 exact ⟨rfl,rfl⟩
theorem b5g {W0:World} {F:WK} (h:F W0):∀ w,(fun w'=>w' = W0) w → F w:=by rintro w rfl; exact h
end Go.Sh
namespace Go.Sh
open Go
variable {P:Program} {K:VK} {w:World}
@[go_sem] theorem f7h (t t' T:TypeId) (a b:ByteArray):oM P (.binOp .add t (.tmp 0) (.tmp 1) t') T [.string a,.string b] K w = (a.size + b.size ≤ 9223372036854775807 ∧ K (.string (a ++ b)) w):=by
 simp [oM,opM,xop,a1h,evE,go_sem]
 by_cases h:9223372036854775807 < a.size + b.size
 ·rw [if_pos h]
  simp
  omega
 ·rw [if_neg h]
  simp
  exact fun _=>by omega
@[go_sem] theorem g7n (t t' T:TypeId) (a b:Bool) (h:P.underlying t = some .bool):oM P (.binOp .neq t (.tmp 0) (.tmp 1) t') T [.bool a,.bool b] = a0j (.bool (!decide (a = b))):=by
 funext K w
 simp [oM,opM,xop,a1h,evE,go_sem,run_neq_bool (P:=P) (w:=w) t a b h]
 cases a <;> cases b <;> rfl
@[go_sem] theorem g7o (t t' T:TypeId) (a b:Bool) (h:P.underlying t = some .bool):oM P (.binOp .eql t (.tmp 0) (.tmp 1) t') T [.bool a,.bool b] = a0j (.bool (decide (a = b))):=by
 funext K w
 simp [oM,opM,xop,a1h,evE,go_sem,run_eql_bool (P:=P) (w:=w) t a b h]
 cases a <;> cases b <;> rfl
theorem e2o (x y:List UInt8):(⟨x.toArray⟩:ByteArray) ++ ⟨y.toArray⟩ = ⟨(x ++ y).toArray⟩:=by
 apply ByteArray.ext
 rw [ByteArray.data_append]
 simp
theorem c4j (x:List UInt8):(⟨x.toArray⟩:ByteArray).size = x.length:=rfl
end Go.Sh
namespace Go.Sh
open Go Go.RowKit
section
variable {P:Program} {w:World}
theorem d3b {o:Op} {T:TypeId} {args:List Value} {C:WK} {K:Value → Prop} {v:Value} (hx:∃ S:Sem Value,xop o T args = (do let v ← S; pure (.value v))) (h:∀ w,C w → oM P o T args (fun v' w'=>v' = v ∧ w' = w) w) (k:K v):oQ P o T args C K:=by
 obtain ⟨S,hx⟩:=hx
 refine ⟨v,fun w hw=>?_,k⟩
 have:=h w hw
 rw [a2e hx] at this
 obtain ⟨v',w',hr,rfl,rfl⟩:=this
 rw [hx,Sem.run_bind,hr]
 exact ⟨rfl,rfl⟩
theorem a1j {f:FuncId} {args:Array Value} {C:WK} {K:Value → Prop} {v:Value} (h:∀ w,C w → a0a P f args (fun v' w'=>v' = v ∧ C w') w) (k:K v):a3h P f args C K:=by
 refine ⟨v,fun w hw=>?_,k⟩
 exact Calls.mono (h w hw) (fun e w' ⟨v',he,hv,hc⟩=>⟨by rw [he,hv],hc⟩)
variable {K:VK}
@[go_sem] theorem g7j (t t' T:TypeId) (k:IntKind) (a b:Int):oM P (.binOp .quo t (.tmp 0) (.tmp 1) t') T [.int k a,.int k b] = onM (b ≠ 0) (.int k (k.wrap (a.tdiv b))):=by
 funext K w
 by_cases hb:b = 0
 ·subst hb
  simp [oM,opM,xop,a1h,evE,go_sem,Op.intDiv]
 ·simp [oM,opM,xop,a1h,evE,go_sem,Op.intDiv,hb]
@[go_sem] theorem g7k (t t' T:TypeId) (k:IntKind) (a b:Int):oM P (.binOp .rem t (.tmp 0) (.tmp 1) t') T [.int k a,.int k b] = onM (b ≠ 0) (.int k (a.tmod b)):=by
 funext K w
 by_cases hb:b = 0
 ·subst hb
  simp [oM,opM,xop,a1h,evE,go_sem,Op.intDiv]
 ·simp [oM,opM,xop,a1h,evE,go_sem,Op.intDiv,hb]
@[go_sem] theorem g7l (t T:TypeId) (k:IntKind) (a:Int):oM P (.unOp .neg t (.tmp 0)) T [.int k a] = a0j (.int k (k.wrap (-a))):=by
 funext K w
 simp [oM,opM,xop,a1h,evE,go_sem]
end
end Go.Sh
namespace Go.Sh
open Go Go.RowKit
section
variable {P:Program} {w:World} {K:VK}
@[go_sem] theorem a3e (T t i0 i1:Nat) (x y:Value) (n:Nat):oM P (.buildSlice t n #[(i0,.tmp 0),(i1,.tmp 1)]) T [x,y] K w = rM ((Instr.buildSlice t n #[(i0,x),(i1,y)]).run P w) K:=b0d (by simp [xop,execOp,a1h,evE])
variable {C:(Nat → Bool) → WK} {i:Nat} {ds:List Nat}
section
variable {C:WK} {K:Value → Prop} {o:Op} {T:TypeId} {args:List Value} {v:Value}
theorem b5h (hx:∃ S:Sem Value,xop o T args = (do let v ← S; pure (.value v))) (h:∀ w,C w → oM P o T args (fun v' w'=>v' = v ∧ w' = w) w) (k:K v):oH P o T args C K:=by
 obtain ⟨S,hx⟩:=hx
 refine ⟨v,fun w hw=>?_,k⟩
 have:=h w hw
 rw [a2e hx] at this
 obtain ⟨v',w',hrun,rfl,rfl⟩:=this
 rw [hx,Sem.run_bind,hrun]
 rfl
theorem pX (k:K v):a0c v C K:=k
end
end
end Go.Sh
namespace Go.Sh
open Go Go.RowKit
def b5c {κ α:Type} [DecidableEq κ] (l:List (κ × α)) (k:κ):Option α:=(l.find? (fun x=>decide (x.1 = k))).map (·.2)
def e2y {κ α:Type} [DecidableEq κ] (l:List (κ × α)) (k:κ) (v:α):List (κ × α):=if (b5c l k).isSome then l.map (fun x=>if x.1 = k then (k,v) else x) else l ++ [(k,v)]
section
variable {κ α:Type} [DecidableEq κ]
theorem e1r (k:κ):b5c ([]:List (κ × α)) k = none:=rfl
theorem c2h (x:κ × α) (l:List (κ × α)) (k:κ):b5c (x :: l) k = if x.1 = k then some x.2 else b5c l k:=by
 unfold b5c
 by_cases h:x.1 = k <;> simp [h]
theorem d1e (l:List (κ × α)) (k:κ) (v:α):(e2y l k v).map (·.1) = if (b5c l k).isSome then l.map (·.1) else l.map (·.1) ++ [k]:=by
 unfold e2y
 split
 ·rw [List.map_map]
  apply List.map_congr_left
  intro x _
  simp only [Function.comp]
  split
  ·rename_i h; exact h.symm
  ·rfl
 ·simp
theorem a7i (l:List (κ × α)) (k:κ):(b5c l k).isSome = true ↔ k ∈ l.map (·.1):=by
 induction l with
 | nil=>simp [e1r]
 | cons x l ih=>
  rw [c2h]
  by_cases hx:x.1 = k
  ·simp [hx]
  ·have:¬ k = x.1:=fun e=>hx e.symm
   simp [hx,this,ih]
theorem b3r (l:List (κ × α)) (k:κ) (v:α) (hn:(l.map (·.1)).Nodup):((e2y l k v).map (·.1)).Nodup:=by
 rw [d1e]
 split
 ·exact hn
 ·rename_i h
  rw [List.nodup_append]
  refine ⟨hn,by simp,?_⟩
  intro a ha b hb
  simp only [List.mem_singleton] at hb
  subst hb
  rintro rfl
  exact h ((a7i l a).2 ha)
end
structure KeyOK (P:Program) (kt:TypeId) {κ:Type} [DecidableEq κ] (mk:κ → Value):Prop where
 find:∀ (w:World) (k:κ) (es:List MapEntry) (ks:List κ),es.map (·.key) = ks.map mk → (Instr.findKey kt (mk k) es).run P w = .ok ((ks.findIdx? (fun x=>decide (x = k))).bind fun i=>(es[i]?).map fun e=>(i,e.val)) w
 check:∀ (b:Bool) (w:World) (k:κ),(Instr.checkKey b 10000 kt (mk k)).run P w = .ok () w
 same:∀ k,Instr.sameBits 10000 (mk k) (mk k) = true
section
variable {P:Program} {w:World}
theorem c8z (ik:IntKind) (k:Int) (es:List MapEntry) (ks:List Int) (i:Nat) (h:es.map (·.key) = ks.map (fun n=>Value.int ik n)) :
  Instr.findNow (.int ik) (.int ik k) es i = some ((ks.findIdx? (fun x=>decide (x = k))).bind fun j=>(es[j]?).map fun e=>(i + j,e.val)):=by
 induction es generalizing ks i with
 | nil=>
  cases ks with
  | nil=>rfl
  | cons _ _=>simp at h
 | cons e es ih=>
  cases ks with
  | nil=>simp at h
  | cons n ks=>
   simp only [List.map_cons,List.cons.injEq] at h
   obtain ⟨h1,h2⟩:=h
   unfold Instr.findNow
   rw [h1]
   by_cases hn:n = k
   ·subst hn
    rw [List.findIdx?_cons]
    simp [Instr.sameNow]
   ·have hn':(k == n) = false:=by simp; exact fun e=>hn e.symm
    simp only [Instr.sameNow,if_true,hn']
    rw [ih ks (i + 1) h2]
    rw [List.findIdx?_cons]
    simp only [hn,decide_false,Bool.false_eq_true,if_false]
    cases ks.findIdx? (fun x=>decide (x = k)) with
    | none=>rfl
    | some j=>
     simp only [Option.bind_some,Option.map_some,List.getElem?_cons_succ]
     congr 1
     cases es[j]? with
     | none=>rfl
     | some e=>simp; omega
theorem g2c {kt:TypeId} {ik:IntKind} (h:P.underlying kt = some (.int ik)):KeyOK P kt (fun n:Int=>Value.int ik n) where
 find:=fun w k es ks hk=>by
  have:=c8z ik k es ks 0 hk
  simp only [Nat.zero_add] at this
  exact MapKept.run_findKey h this
 check:=fun b w k=>MapKept.run_checkKey h (by simp [MapKept.IsKey]) b 9999
 same:=fun k=>by simp [Instr.sameBits]
end
end Go.Sh
namespace Go.Sh
open Go Go.RowKit
section
variable {κ α:Type} [DecidableEq κ]
theorem e7z (l:List (κ × α)) (k:κ) (i:Nat) (h:(l.map (·.1)).findIdx? (fun x=>decide (x = k)) = some i):∃ x,l[i]? = some x ∧ x.1 = k ∧ b5c l k = some x.2:=by
 induction l generalizing i with
 | nil=>simp at h
 | cons x l ih=>
  rw [List.map_cons,List.findIdx?_cons] at h
  rw [c2h]
  by_cases hx:x.1 = k
  ·simp [hx] at h
   subst h
   exact ⟨x,rfl,hx,by simp [hx]⟩
  ·simp only [hx,decide_false,Bool.false_eq_true,if_false,Option.map_eq_some_iff] at h
   obtain ⟨j,hj,rfl⟩:=h
   obtain ⟨y,h1,h2,h3⟩:=ih j hj
   exact ⟨y,by simpa using h1,h2,by simp [hx,h3]⟩
theorem e8a (l:List (κ × α)) (k:κ) (h:(l.map (·.1)).findIdx? (fun x=>decide (x = k)) = none):b5c l k = none:=by
 cases hl:b5c l k with
 | none=>rfl
 | some v=>
  have:=(a7i l k).1 (by rw [hl]; rfl)
  rw [List.findIdx?_eq_none_iff] at h
  have:=h k this
  simp at this
theorem map_set (l:List (κ × α)) (k:κ) (v:α) (i:Nat) (hn:(l.map (·.1)).Nodup) {x:κ × α} (hi:l[i]? = some x) (hx:x.1 = k):l.map (fun x=>if x.1 = k then (k,v) else x) = l.set i (k,v):=by
 apply List.ext_getElem?
 intro j
 rw [List.getElem?_map,List.getElem?_set]
 by_cases hij:i = j
 ·subst hij
  have hlt:=(gS hi).1
  rw [hi]
  simp [hx,hlt]
 ·rw [if_neg hij]
  cases hj:l[j]? with
  | none=>rfl
  | some y=>
   have:¬ y.1 = k:=by
    intro hy
    have h1:(l.map (·.1))[i]? = some k:=by rw [List.getElem?_map,hi]; simp [hx]
    have h2:(l.map (·.1))[j]? = some k:=by rw [List.getElem?_map,hj]; simp [hy]
    exact hij ((List.getElem?_inj (by have:=(gS hi).1; simpa using this) hn).1 (h1.trans h2.symm))
   simp [this]
end
section
variable {P:Program} {w:World} {κ:Type} [DecidableEq κ] {mk:κ → Value}
def c9a (mk:κ → Value) (w:World) (b:Nat) (l:List (κ × Value)):Prop:=
 ∃ es clock,w.heap[b]? = some (.map es clock) ∧ es.toList.map (fun e=>(e.key,e.val)) = l.map (fun x=>(mk x.1,x.2)) ∧ (l.map (·.1)).Nodup ∧ (es.toList.map (·.born)).Nodup ∧ ∀ e ∈ es.toList,e.born < clock
theorem f6x {es:Array MapEntry} {l:List (κ × Value)} (h:es.toList.map (fun e=>(e.key,e.val)) = l.map (fun x=>(mk x.1,x.2))):es.toList.map (·.key) = (l.map (·.1)).map mk:=by
 have:=congrArg (List.map Prod.fst) h
 simpa [List.map_map,Function.comp_def] using this
theorem e1s {es:Array MapEntry} {l:List (κ × Value)} (h:es.toList.map (fun e=>(e.key,e.val)) = l.map (fun x=>(mk x.1,x.2))) {i:Nat} {x:κ × Value} (hi:l[i]? = some x):∃ e,es[i]? = some e ∧ e.key = mk x.1 ∧ e.val = x.2:=by
 have:=congrArg (fun l=>l[i]?) h
 simp only [List.getElem?_map,hi,Option.map_some,Option.map_eq_some_iff] at this
 obtain ⟨e,he,heq⟩:=this
 simp only [Prod.mk.injEq] at heq
 exact ⟨e,by simpa using he,heq.1,heq.2⟩
theorem e8b {kt:TypeId} (K:KeyOK P kt mk) {es:Array MapEntry} {l:List (κ × Value)} (h:es.toList.map (fun e=>(e.key,e.val)) = l.map (fun x=>(mk x.1,x.2))) (k:κ) :
  (∃ i x e,(Instr.findKey kt (mk k) es.toList).run P w = .ok (some (i,x.2)) w ∧ l[i]? = some x ∧ x.1 = k ∧ b5c l k = some x.2 ∧ es[i]? = some e ∧ e.key = mk k ∧ e.val = x.2) ∨ ((Instr.findKey kt (mk k) es.toList).run P w = .ok none w ∧ b5c l k = none):=by
 have hf:=K.find w k es.toList (l.map (·.1)) (f6x h)
 cases hi:(l.map (·.1)).findIdx? (fun x=>decide (x = k)) with
 | none=>
  right
  rw [hi] at hf
  exact ⟨hf,e8a l k hi⟩
 | some i=>
  left
  obtain ⟨x,h1,h2,h3⟩:=e7z l k i hi
  obtain ⟨e,he,hk,hv⟩:=e1s h h1
  rw [hi] at hf
  have he':es.toList[i]? = some e:=by simpa using he
  simp only [Option.bind_some,he',Option.map_some,hv] at hf
  exact ⟨i,x,e,hf,h1,h2,h3,he,by rw [hk,h2],hv⟩
theorem c2i (w:World) (b:Nat) (o:Obj):w.grownBy { w with heap:=w.heap.setIfInBounds b o } (some b):=
 ⟨rfl,rfl,rfl,by simp,fun i _ hi=>by
  have:b ≠ i:=fun e=>hi (by rw [e])
  simp [this]⟩
theorem d2w {es:Array MapEntry} {l:List (κ × Value)} (h:es.toList.map (fun e=>(e.key,e.val)) = l.map (fun x=>(mk x.1,x.2))) (hn:(l.map (·.1)).Nodup) {i:Nat} {x:κ × Value} (hi:l[i]? = some x) (v:Value) :
  ((es.modify i fun e=>{ e with key:=mk x.1,val:=v }).toList.map (fun e=>(e.key,e.val)) = (l.map (fun y=>if y.1 = x.1 then (x.1,v) else y)).map (fun x=>(mk x.1,x.2))) ∧
  (es.modify i fun e=>{ e with key:=mk x.1,val:=v }).toList.map (·.born) = es.toList.map (·.born):=by
 have key:∀ j:Nat,(es.toList.map (fun e=>(e.key,e.val)))[j]? = (l.map (fun x=>(mk x.1,x.2)))[j]?:=fun j=>by rw [h]
 constructor
 ·rw [map_set l x.1 v i hn hi rfl]
  apply List.ext_getElem?
  intro j
  have kj:=key j
  simp only [List.getElem?_map,Array.getElem?_toList,Array.getElem?_modify,List.getElem?_set] at kj ⊢
  by_cases hij:i = j
  ·subst hij
   obtain ⟨e,he,_⟩:=e1s h hi
   have hlt:=(gS hi).1
   simp [he,hlt]
  ·simp only [if_neg hij]
   exact kj
 ·apply List.ext_getElem?
  intro j
  simp only [List.getElem?_map,Array.getElem?_toList,Array.getElem?_modify]
  by_cases hij:i = j
  ·subst hij
   simp only [if_true]
   cases es[i]? <;> rfl
  ·simp only [if_neg hij]
theorem d2x {t kt et:TypeId} {b:Nat} {l:List (κ × Value)} (K:KeyOK P kt mk) (ht:P.underlying t = some (.map kt et)) (h:c9a mk w b l) (k:κ) (v:Value) :
  ∃ w',(Instr.mapUpdate t (.map (some b)) (mk k) v).run P w = .ok () w' ∧ c9a mk w' b (e2y l k v) ∧ w.grownBy w' (some b) ∧ w'.heap.size = w.heap.size:=by
 obtain ⟨es,clock,hb,hl,hn,hbn,hlt⟩:=h
 have hbs:=(Array.getElem?_eq_some_iff.1 hb).1
 unfold Instr.mapUpdate
 simp only [Sem.run_bind,run_underlying ht,Result.andThen_ok,MapKept.run_getObj_map hb,K.check]
 rcases e8b (w:=w) K hl k with ⟨i,x,e,h1,h2,h3,h4,h5,h6,h7⟩ | ⟨h1,h2⟩
 ·rw [h1]
  subst h3
  have hks:(Instr.keyThatStays (((es[i]?).map (·.key)).getD (mk x.1)) (mk x.1)).run P w = .ok (mk x.1) w:=by
   unfold Instr.keyThatStays
   rw [h5]
   simp only [Option.map_some,Option.getD_some,h6,K.same,if_true,Sem.run_pure]
  simp only [Result.andThen_ok,Sem.run_bind,hks,MapKept.run_setObj_map _ hb]
  obtain ⟨m1,m2⟩:=d2w hl hn h2 v
  refine ⟨_,rfl,⟨_,clock,(MapKept.heap_set hb).1,?_,b3r l _ v hn,?_,?_⟩,c2i _ _ _,by simp⟩
  ·rw [m1]
   unfold e2y
   rw [h4]
   simp
  ·rw [m2]; exact hbn
  ·intro e' he'
   have:e'.born ∈ (es.toList.map (·.born)):=by rw [← m2]; exact List.mem_map_of_mem he'
   obtain ⟨e'',he'',heq⟩:=List.mem_map.1 this
   rw [← heq]; exact hlt e'' he''
 ·rw [h1]
  simp only [Result.andThen_ok,MapKept.run_setObj_map _ hb]
  refine ⟨_,rfl,⟨_,clock + 1,(MapKept.heap_set hb).1,?_,b3r l _ v hn,?_,?_⟩,c2i _ _ _,by simp⟩
  ·unfold e2y
   rw [h2]
   simp [hl]
  ·simp only [Array.toList_push,List.map_append,List.map_cons,List.map_nil]
   rw [List.nodup_append]
   refine ⟨hbn,by simp,?_⟩
   intro a ha c hc
   obtain ⟨e',he',rfl⟩:=List.mem_map.1 ha
   have:=hlt e' he'
   simp at hc
   omega
  ·intro e' he'
   simp only [Array.toList_push,List.mem_append,List.mem_singleton] at he'
   rcases he' with he' | rfl
   ·have:=hlt e' he'; omega
   ·simp
end
end Go.Sh
namespace Go.Sh
open Go Go.RowKit
section
variable {P:Program} {w:World} {κ:Type} [DecidableEq κ] {mk:κ → Value}
theorem e1t (w:World):c9a mk (w.alloc (.map #[] 0)) w.heap.size ([]:List (κ × Value)):=
 ⟨#[],0,heap_alloc_new w _,rfl,by simp,by simp,by simp⟩
omit [DecidableEq κ] in
end
end Go.Sh
namespace Go.Sh
open Go Go.RowKit
end Go.Sh
namespace Go.Sh
open Go Go.RowKit
section
variable {P:Program} {K:VK} {w:World}
@[go_sem] theorem f7u (t T:TypeId):oM P (.makeMap t none) T [] K w = K (.map (some w.heap.size)) (w.alloc (.map #[] 0)):=by
 rw [b0d (S:=Instr.makeMap t none) rfl,run_makeMap]
 rfl
theorem b9g (T:TypeId) (ts:Array TypeId) (x y:Value):oM P (.call { callee:=.builtin .append,args:=#[.tmp 0,.tmp 1],argTypes:=ts }) T [x,y] K w = rM ((Builtin.append_ ts T #[x,y]).run P w) K:=
 b0d (by simp [xop,execOp,a1h,evE,resolve,invoke,builtin])
@[go_sem] theorem a7j (t T:TypeId) (x y:Value):oM P (.makeSlice t (.tmp 0) (.tmp 1)) T [x,y] K w = rM ((Instr.makeSlice t x y).run P w) K:=b0d rfl
@[go_sem] theorem a5s (T t:Nat) (n:Nat):oM P (.buildSlice t n #[]) T [] K w = rM ((Instr.buildSlice t n #[]).run P w) K:=b0d (by simp [xop,execOp,a1h,evE])
theorem c7a (t T:TypeId) (x i:Value):oM P (.slice t (.tmp 0) (some (.tmp 1)) none none) T [x,i] K w = rM ((Instr.sliceAt t x (some i) none none).run P w) K:=b0d rfl
theorem d2y (t T:TypeId) (x i:Value):oM P (.slice t (.tmp 0) none (some (.tmp 1)) none) T [x,i] K w = rM ((Instr.sliceAt t x none (some i) none).run P w) K:=b0d rfl
end
end Go.Sh
namespace Go.Sh
open Go Go.RowKit
section
variable {w:World} {B:Nat} {e:TypeId} {sz:Nat} {v:Value} {n:Nat} {xs:List Value}
theorem a6m (h:w.ownsRow B e sz v n xs) (hn:0 < n):∃ g cap cur,v = .slice (some ⟨g,0,none⟩) n cap ∧ g < w.heap.size ∧ B ≤ g ∧ w.heap[g]? = some (.cells cur e (0,0)) ∧ cur.size = cap * sz ∧ n ≤ cap ∧ ∀ (k:Nat) (x:Value),xs[k]? = some x → w.cell? ⟨g,k,none⟩ = some x:=by
 rcases h.2 with ⟨_,h0⟩ | ⟨g,cap,cur,hv,hb,hg,hc,hm,hs,ht⟩
 ·omega
 ·refine ⟨g,cap,cur,hv,(Array.getElem?_eq_some_iff.1 hg).1,hb,hg,hs,hc,fun k x hk=>?_⟩
  have hlt:k < n * sz:=by have:=(gS hk).1; rw [h.1] at this; exact this
  rw [← ht,List.getElem?_take_of_lt hlt] at hk
  unfold World.cell?
  rw [hg]
  simpa using hk
theorem a0d (h:w.ownsRow B e sz v n xs) {i:Nat} (hi:v.ownBlock = some i):i < w.heap.size ∧ B ≤ i ∧ ∃ cur,w.heap[i]? = some (.cells cur e (0,0)):=by
 rcases h.2 with ⟨rfl,h0⟩ | ⟨g,cap,cur,rfl,hb,hg,hc,hm,hs,ht⟩
 ·cases hi
 ·cases hi
  exact ⟨(Array.getElem?_eq_some_iff.1 hg).1,hb,cur,hg⟩
theorem a3r {w':World} (h:w.ownsRow B e sz v n xs) (hk:∀ i,v.ownBlock = some i → w'.heap[i]? = w.heap[i]?):w'.ownsRow B e sz v n xs:=by
 refine ⟨h.1,?_⟩
 rcases h.2 with h0 | ⟨g,cap,cur,rfl,hb,hg,hr⟩
 ·exact .inl h0
 ·exact .inr ⟨g,cap,cur,rfl,hb,by rw [hk g rfl]; exact hg,hr⟩
theorem a2m (h:w.ownsRow B e sz v n xs):∃ a c,v = .slice a n c:=by
 rcases h.2 with ⟨rfl,rfl⟩ | ⟨g,cap,cur,rfl,_⟩
 ·exact ⟨none,0,rfl⟩
 ·exact ⟨_,cap,rfl⟩
end
def a9b {α:Type} (mk:α → List Value) (l:List α):List Value:=l.flatMap mk
section
variable {α:Type} {mk:α → List Value} {sz:Nat}
theorem b9l (x:α) (l:List α):a9b mk (x :: l) = mk x ++ a9b mk l:=rfl
theorem c9f (l m:List α):a9b mk (l ++ m) = a9b mk l ++ a9b mk m:=by simp [a9b]
theorem a6x (l:List α) (x:α):a9b mk (l ++ [x]) = a9b mk l ++ mk x:=by simp [a9b]
theorem c9g (hm:∀ x,(mk x).length = sz) (l:List α):(a9b mk l).length = l.length * sz:=by
 induction l with
 | nil=>simp [a9b]
 | cons x l ih=>rw [b9l,List.length_append,hm,ih,List.length_cons,Nat.succ_mul,Nat.add_comm]
theorem f7g (hm:∀ x,(mk x).length = sz) (l:List α) (i j:Nat) {x:α} (hi:l[i]? = some x) (hj:j < sz):(a9b mk l)[i * sz + j]? = (mk x)[j]?:=by
 induction l generalizing i with
 | nil=>simp at hi
 | cons y l ih=>
  rw [b9l]
  cases i with
  | zero=>
   simp only [List.getElem?_cons_zero,Option.some.injEq] at hi
   subst hi
   rw [Nat.zero_mul,Nat.zero_add,List.getElem?_append_left (by rw [hm]; exact hj)]
  | succ i=>
   simp only [List.getElem?_cons_succ] at hi
   rw [Nat.succ_mul,List.getElem?_append_right (by rw [hm]; omega),hm,← ih i hi]
   congr 1
   omega
end
structure Fr (S:Nat → Prop) (w w':World):Prop where
 os:w'.os = w.os
 tape:w'.tape = w.tape
 output:w'.output = w.output
 size:w.heap.size ≤ w'.heap.size
 block:∀ i,i < w.heap.size → ¬ S i → w'.heap[i]? = w.heap[i]?
section
variable {S S':Nat → Prop} {w w1 w2:World}
theorem Fr.refl (S:Nat → Prop) (w:World):Fr S w w:=⟨rfl,rfl,rfl,rL,fun _ _ _=>rfl⟩
theorem Fr.trans (h:Fr S w w1) (k:Fr S' w1 w2) (hs:∀ i,S' i → S i ∨ w.heap.size ≤ i):Fr S w w2:=
 ⟨k.os.trans h.os,k.tape.trans h.tape,k.output.trans h.output,Nat.le_trans h.size k.size,fun i hi hn=>(k.block i (lL hi h.size) (fun hx=>(hs i hx).elim hn (by omega))).trans (h.block i hi hn)⟩
theorem Fr.by (h:Fr S w w1) {b:Option Nat} (k:w1.grownBy w2 b) (hs:∀ i,b = some i → S i ∨ w.heap.size ≤ i):Fr S w w2:=
 ⟨k.os.trans h.os,k.tape.trans h.tape,k.output.trans h.output,Nat.le_trans h.size k.size,fun i hi hn=>(k.block i (lL hi h.size) (fun hx=>(hs i hx.symm).elim hn (by omega))).trans (h.block i hi hn)⟩
theorem Fr.mono (h:Fr S w w1) (hs:∀ i,i < w.heap.size → S i → S' i):Fr S' w w1:=⟨h.os,h.tape,h.output,h.size,fun i hi hn=>h.block i hi (fun hx=>hn (hs i hi hx))⟩
theorem b9m (w:World) (a:Addr) (u:Value) (i:Nat) (h:i ≠ a.block):(w.setCell a u).heap[i]? = w.heap[i]?:=by
 simp only [World.setCell,Array.getElem?_modify]
 rw [if_neg (Ne.symm h)]
theorem c4i (w:World) (a:Addr) (u:Value):w.grownBy (w.setCell a u) (some a.block):=
 ⟨rfl,rfl,rfl,by simp [World.setCell],fun i _ hi=>b9m w a u i (fun e=>hi (by rw [e]))⟩
end
theorem a0r {w:World} {b:Nat} {cs:Array Value} {T:TypeId} {f:Nat × Nat} (h:w.heap[b]? = some (.cells cs T f)) (i:Nat):w.cell? ⟨b,i,none⟩ = cs[i]?:=by
 simp [World.cell?,h]
theorem e2n {w:World} {b i:Nat} {cs:Array Value} {T:TypeId} {f:Nat × Nat} (h:w.heap[b]? = some (.cells cs T f)) (u:Value):(w.setCell ⟨b,i,none⟩ u).heap[b]? = some (.cells (cs.setIfInBounds i u) T f):=by
 simp [World.setCell,Array.getElem?_modify,h]
end Go.Sh
namespace Go.Sh
open Go Go.RowKit
section
variable {P:Program} {w:World} {K:VK}
theorem a2v {B C:Nat} {e:TypeId} {sz:Nat} {v:Value} {n:Nat} {xs:List Value} (h:w.ownsRow B e sz v n xs) (hc:C ≤ B):w.ownsRow C e sz v n xs:=
 ⟨h.1,h.2.imp id (fun ⟨g,cap,cur,a,b,r⟩=>⟨g,cap,cur,a,Nat.le_trans hc b,r⟩)⟩
theorem b9n (t ty e:TypeId) (i:TypeInfo) (z:Value) (size bytes:Nat) (ht:P.underlying t = some (.slice e)) (hi:P.info? e = some i) (hz:i.zero = some z)
  (hsize:i.size = size) (hby:i.bytes = bytes) (hzs:z.cells.size = size) (hsz:0 < size)
  (v:Value) (n:Nat) (xs:List Value) (hown:w.ownsRow 0 e size v n xs)
  (a:Addr) (m c:Nat) (news:List Value) (hl:news.length = m * size) (hnews:∀ j u,news[j]? = some u → w.cell? (a.add j) = some u) (h1:∀ u ∈ news,u.oneCell' = true)
  (h63:n + m ≤ maxLen) (hbytes:(n + m) * bytes ≤ 140737488355328) :
  ∃ v' w',(Builtin.append_ #[t,t] ty #[v,.slice (some a) m c]).run P w = .ok v' w' ∧ w'.ownsRow 0 e size v' (n + m) (xs ++ news) ∧ w.grownBy w' v.ownBlock ∧
   (∀ i,v'.ownBlock = some i → v.ownBlock = some i ∨ w.heap.size ≤ i):=by
 rcases hown.2 with ⟨hv,hn⟩ | ⟨g,cap,cur,hv,hb,hg,hnc,hm,hcs,htk⟩
 ·have h':w.ownsRow w.heap.size e size v n xs:=⟨hown.1,.inl ⟨hv,hn⟩⟩
  obtain ⟨v',w',hr,ho,hgr,_⟩:=run_append_own (P:=P) (w:=w) w.heap.size t ty e i z size bytes ht hi hz hsize hby hzs hsz v n xs h' a m c news hl hnews h1 h63 hbytes (rL)
  exact ⟨v',w',hr,a2v ho (Nat.zero_le _),hgr,fun j hj=>.inr (a0d ho hj).2.1⟩
 ·by_cases hroom:n + m ≤ cap
  ·subst hv
   obtain ⟨w',hr,ho,hgr⟩:=run_append_fits (P:=P) (w:=w) 0 t ty e i size ht hi hsize g n cap xs hown a m c news hl hnews h1 hroom
   exact ⟨_,w',hr,ho,hgr,fun j hj=>.inl hj⟩
  ·obtain ⟨v',w',hr,ho,hgr,_⟩:=run_append_own (P:=P) (w:=w) 0 t ty e i z size bytes ht hi hz hsize hby hzs hsz v n xs hown a m c news hl hnews h1 h63 hbytes (Nat.zero_le _)
   subst hsize
   subst hv
   have holds:∀ j u,xs[j]? = some u → w.cell? ((⟨g,0,none⟩:Addr).add j) = some u:=hown.cells (g:=g) rfl
   have hr2:=run_append_grow (P:=P) (w:=w) t ty e i z ht hi hz ⟨g,0,none⟩ n cap xs hown.1 holds a m c news hl hnews (by omega) (by simp only [maxLen] at h63; omega) (growslice_fits (by omega) (by rw [hby]; exact hbytes))
   rw [hr] at hr2
   cases hr2
   exact ⟨_,_,hr,ho,hgr,fun j hj=>by cases hj; exact .inr (rL)⟩
theorem a5a (t T e:TypeId) (i:TypeInfo) (z:Value) (size bytes:Nat) (ht:P.underlying t = some (.slice e)) (hi:P.info? e = some i) (hz:i.zero = some z)
  (hsize:i.size = size) (hby:i.bytes = bytes) (hzs:z.cells.size = size) (hsz:0 < size)
  {v:Value} {n:Nat} {xs:List Value} (hown:w.ownsRow 0 e size v n xs)
  {ad:Option Addr} {m c:Nat} (news:List Value) (hl:news.length = m * size) (had:ad = none → m = 0 ∧ c = 0) (hnews:∀ a,ad = some a → ∀ j u,news[j]? = some u → w.cell? (a.add j) = some u) (h1:∀ u ∈ news,u.oneCell' = true)
  (h63:n + m ≤ maxLen) (hbytes:(n + m) * bytes ≤ 140737488355328)
  (k:∀ v' w',w'.ownsRow 0 e size v' (n + m) (xs ++ news) → w.grownBy w' v.ownBlock → (∀ i,v'.ownBlock = some i → v.ownBlock = some i ∨ w.heap.size ≤ i) → K v' w') :
  oM P (.call { callee:=.builtin .append,args:=#[.tmp 0,.tmp 1],argTypes:=#[t,t] }) T [v,.slice ad m c] K w:=by
 rw [b9g]
 cases ad with
 | some a=>
  obtain ⟨v',w',hr,h2,h3,h4⟩:=b9n (P:=P) (w:=w) t T e i z size bytes ht hi hz hsize hby hzs hsz v n xs hown a m c news hl (hnews a rfl) h1 h63 hbytes
  rw [hr]
  exact k v' w' h2 h3 h4
 | none=>
  obtain ⟨rfl,rfl⟩:=had rfl
  have hn:news = []:=List.eq_nil_of_length_eq_zero (by simpa using hl)
  subst hn
  rw [run_append_owned_none (P:=P) (w:=w) 0 t T e i size ht hi v n xs hown]
  refine k v w ?_ ⟨rfl,rfl,rfl,rL,fun _ _ _=>rfl⟩ (fun i h=>.inl h)
  simpa using hown
end
def RowR {α:Type} (mk:α → List Value) (sz:Nat) (w:World) (v:Value) (l:List α):Prop:=
 ∃ ad c,v = .slice ad l.length c ∧ (ad = none → l.length = 0 ∧ c = 0) ∧ (l = [] ∨ ∃ b o,ad = some ⟨b,o,none⟩ ∧ b < w.heap.size ∧ ∀ (k:Nat) (x:Value),(a9b mk l)[k]? = some x → w.cell? ⟨b,o + k,none⟩ = some x)
section
variable {α:Type} {mk:α → List Value} {sz:Nat} {w w':World} {v:Value} {l:List α}
theorem RowR.of_owns {B:Nat} {e:TypeId} (h:w.ownsRow B e sz v l.length (a9b mk l)):RowR mk sz w v l:=by
 rcases h.2 with ⟨rfl,h0⟩ | ⟨g,cap,cur,rfl,hb,hg,hn,hm,hcs,ht⟩
 ·exact ⟨none,0,by rw [h0],fun _=>⟨h0,rfl⟩,.inl (List.eq_nil_of_length_eq_zero h0)⟩
 ·refine ⟨_,cap,rfl,by simp,?_⟩
  by_cases h0:l = []
  ·exact .inl h0
  ·obtain ⟨g',cap',cur',hv,hlt,_,_,_,_,hc⟩:=a6m h (List.length_pos_iff.2 h0)
   cases hv
   exact .inr ⟨g,0,rfl,hlt,fun k x hk=>by rw [Nat.zero_add]; exact hc k x hk⟩
def Value.inBlock:Value → Option Nat
 | .slice (some a) _ _=>some a.block
 | _=>none
theorem RowR.keep (h:RowR mk sz w v l) (hs:w.heap.size ≤ w'.heap.size) (hk:∀ i,Value.inBlock v = some i → i < w.heap.size → w'.heap[i]? = w.heap[i]?):RowR mk sz w' v l:=by
 obtain ⟨ad,c,rfl,h0,h⟩:=h
 refine ⟨ad,c,rfl,h0,h.imp id ?_⟩
 rintro ⟨b,o,rfl,hlt,hc⟩
 refine ⟨b,o,rfl,lL hlt hs,fun k x hx=>?_⟩
 have:=hc k x hx
 unfold World.cell? at this ⊢
 rw [hk b rfl hlt]
 exact this
end
theorem a1w (b o k:Nat):(⟨b,o,none⟩:Addr).add k = ⟨b,o + k,none⟩:=by
 unfold Addr.add
 split
 ·rename_i h0; rw [h0]; simp
 ·rfl
theorem e8t {P:Program} {α:Type} {mk:α → List Value} {w:World} {K:VK} (t T e:TypeId) (i:TypeInfo) (z:Value) (size bytes:Nat) (ht:P.underlying t = some (.slice e)) (hi:P.info? e = some i) (hz:i.zero = some z)
  (hsize:i.size = size) (hby:i.bytes = bytes) (hzs:z.cells.size = size) (hsz:0 < size) (hm:∀ x,(mk x).length = size) (h1:∀ x,∀ u ∈ mk x,u.oneCell' = true)
  {v u:Value} {l:List α} (hr:RowR mk size w v l) (hu:w.ownsRow 0 e size u 0 []) {B:Nat} (hB:B ≤ w.heap.size) (hf:∀ i,u.ownBlock = some i → B ≤ i) (hll:l.length ≤ 4611686018427387904) (hb:l.length * bytes ≤ 140737488355328)
  (k:∀ v' w',w'.ownsRow 0 e size v' l.length (a9b mk l) → w.grownBy w' u.ownBlock → (∀ i,v'.ownBlock = some i → B ≤ i) → K v' w') :
  oM P (.call { callee:=.builtin .append,args:=#[.tmp 0,.tmp 1],argTypes:=#[t,t] }) T [u,v] K w:=by
 obtain ⟨ad,c,rfl,h0,hc⟩:=hr
 refine a5a t T e i z size bytes ht hi hz hsize hby hzs hsz hu (a9b mk l) (c9g hm l) h0 ?_ ?_ (by simp only [maxLen]; omega) (by rw [Nat.zero_add]; exact hb) ?_
 ·rintro a rfl j x hj
  rcases hc with rfl | ⟨b,o,hbo,hlt,hc⟩
  ·simp [a9b] at hj
  ·cases hbo
   rw [a1w]; exact hc j x hj
 ·intro x hx
  unfold a9b at hx
  obtain ⟨y,_,hy⟩:=List.mem_flatMap.1 hx
  exact h1 y x hy
 ·intro v' w' ho hg hv
  rw [Nat.zero_add] at ho
  exact k v' w' ho hg (fun i hi=>(hv i hi).elim (hf i) (Nat.le_trans hB))
end Go.Sh
namespace Go.Sh
open Go Go.RowKit
theorem b5b (w:World) (o:Obj):(w.alloc o).heap.size = w.heap.size + 1:=by
 show (w.heap.push o).size = _
 simp
theorem b5v (w:World) (g:Nat) (cs:Array Value):w.grownBy (w.setRow g cs) (some g):=
 ⟨rfl,rfl,rfl,by simp [World.setRow],fun i _ hi=>setRow_other w g i cs (fun e=>hi (by rw [e]))⟩
section
variable {P:Program} {w:World} {K:VK}
theorem d2u {t T:TypeId} {a:Option Addr} {n c:Nat} {sz:Nat} (ht:P.underlying t = some (.slice (P.elem t))) (hs:∀ w,(sizeOf (P.elem t)).run P w = .ok sz w) (i:Nat) (hi:i ≤ c) (k:K (.slice a i c) w) :
  oM P (.slice t (.tmp 0) none (some (.tmp 1)) none) T [.slice a n c,.int .i64 i] K w:=by
 rw [d2y,run_sliceAt_slice w t _ _ _ _ ht,run_slice_h w t _ n c ht .i64 i (by omega) (by omega),hs]
 have e:a.map (fun x=>x.add (0 * sz)) = a:=by
  cases a with
  | none=>rfl
  | some a=>simp [Addr.add]
 simp only [Result.andThen_ok,sliced,Int.toNat_natCast,Nat.sub_zero,e,ite_self]
 exact k
end
end Go.Sh
namespace Go.Sh
open Go Go.RowKit
def BufM (w:World) (e:TypeId) (v:Value) (l:List UInt8):Prop:=
 ∃ g cap cur fz,v = .slice (some ⟨g,0,none⟩) l.length cap ∧ w.heap[g]? = some (.cells cur e fz) ∧ (∀ i,i < cur.size → ¬ (fz.1 ≤ i ∧ i < fz.2)) ∧ cur.size = cap ∧ l.length ≤ cap ∧ ∀ j (h:j < l.length),cur[j]? = some (.int .u8 (l[j].toNat:Int))
section
variable {P:Program} {w w':World} {e:TypeId} {v:Value} {l:List UInt8} {K:VK}
theorem BufM.shape (h:BufM w e v l):∃ g c,v = .slice (some ⟨g,0,none⟩) l.length c ∧ g < w.heap.size:=by
 obtain ⟨g,cap,cur,fz,rfl,hg,_⟩:=h
 exact ⟨g,cap,rfl,(Array.getElem?_eq_some_iff.1 hg).1⟩
theorem BufM.keep (h:BufM w e v l) (hk:∀ i,v.ownBlock = some i → w'.heap[i]? = w.heap[i]?):BufM w' e v l:=by
 obtain ⟨g,cap,cur,fz,rfl,hg,r⟩:=h
 exact ⟨g,cap,cur,fz,rfl,by rw [hk g rfl]; exact hg,r⟩
theorem e7t {s d T:TypeId} (hs:P.underlying s = some .string) (hd:P.underlying d = some (.slice e)) (he:P.underlying e = some (.int .u8)) (l:List UInt8)
  (k:∀ v w',BufM w' e v l → w.grownBy w' none → v.ownBlock = some w.heap.size → w.heap.size < w'.heap.size → K v w'):oM P (.convert s d (.tmp 0)) T [.string ⟨l.toArray⟩] K w:=by
 have hr:=run_bytes_of_string (P:=P) w s d e ⟨l.toArray⟩ hs hd he
 rw [b0d (S:=convert s d (.string ⟨l.toArray⟩)) rfl,hr]
 have hge:l.length ≤ grownCap w (⟨l.toArray⟩:ByteArray).size 0 e:=grownCap_ge w l.length 0 e
 generalize grownCap w (⟨l.toArray⟩:ByteArray).size 0 e = C at *
 have hsz:(bytesRow ⟨l.toArray⟩ C).size = C:=by
  simp only [bytesRow,Array.size_append,Array.size_map,List.size_toArray,Array.size_replicate,ByteArray.size]
  omega
 rw [hsz]
 refine k _ _ ⟨w.heap.size,C,bytesRow ⟨l.toArray⟩ C,(C,C + 1),rfl,heap_alloc_new w.drew _,fun i hi=>by rw [hsz] at hi; simp only; omega,hsz,hge,fun j hj=>?_⟩ ⟨rfl,rfl,rfl,by simp,fun i hi _=>heap_alloc_old w.drew _ hi⟩ rfl (by simp)
 unfold bytesRow
 rw [Array.getElem?_append_left (by simpa using hj)]
 simp [hj]
theorem e7u {t T:TypeId} {i:TypeInfo} {x:UInt8} {a:Addr} {c:Nat} (ht:P.underlying t = some (.slice e)) (hi:P.info? e = some i) (hz:i.zero = some (.int .u8 0)) (hs:i.size = 1) (hb:i.bytes = 1) (h:BufM w e v l) (ha:w.cell? a = some (.int .u8 (x.toNat:Int))) (hl:l.length + 1 ≤ 1099511627776)
  (k:∀ v' w',BufM w' e v' (l ++ [x]) → w.grownBy w' v.ownBlock → (v'.ownBlock = v.ownBlock ∨ ∃ g,v'.ownBlock = some g ∧ w.heap.size ≤ g) → K v' w') :
  oM P (.call { callee:=.builtin .append,args:=#[.tmp 0,.tmp 1],argTypes:=#[t,t] }) T [v,.slice (some a) 1 c] K w:=by
 obtain ⟨g,cap,cur,fz,rfl,hg,hfz,hcs,hlc,hcell⟩:=h
 rw [b9g]
 have hnews:∀ j u,([Value.int .u8 (x.toNat:Int)]:List Value)[j]? = some u → w.cell? (a.add j) = some u:=by
  intro j u hj
  match j,hj with
  | 0,hj=>
   simp only [List.getElem?_cons_zero,Option.some.injEq] at hj
   subst hj
   have:a.add 0 = a:=by simp [Addr.add]
   rw [this]; exact ha
 by_cases hroom:l.length + 1 ≤ cap
 ·have hr:=run_append_room_cells (P:=P) (w:=w) t T e i ht hi g 0 l.length cap a 1 c [.int .u8 (x.toNat:Int)] (by rw [hs]; rfl) hnews (by simp [Value.oneCell']) hroom (by
   intro j hj
   simp only [List.length_cons,List.length_nil] at hj
   rw [a0r hg]
   simp [hs]
   omega) (by
   intro j hj
   simp only [List.length_cons,List.length_nil] at hj
   unfold World.frozen?
   rw [hg]
   have:=hfz (0 + l.length * i.size + j) (by rw [hs]; omega)
   simp only [Bool.and_eq_false_iff,decide_eq_false_iff_not]
   omega)
  rw [hr,hs,Nat.zero_add,Nat.mul_one]
  refine k _ (w.setCell ⟨g,l.length,none⟩ (.int .u8 (x.toNat:Int))) ⟨g,cap,cur.setIfInBounds l.length (.int .u8 (x.toNat:Int)),fz,by rw [List.length_append]; rfl,e2n hg _,by simpa using hfz,by simpa using hcs,by simpa using hroom,fun j hj=>?_⟩ (c4i w ⟨g,l.length,none⟩ _) (.inl rfl)
  rw [List.length_append,List.length_cons,List.length_nil] at hj
  by_cases hjl:j < l.length
  ·rw [Array.getElem?_setIfInBounds_ne (by omega),hcell j hjl,List.getElem_append_left hjl]
  ·obtain rfl:j = l.length:=by omega
   rw [Array.getElem?_setIfInBounds_self_of_lt (by omega)]
   simp
 ·have hholds:∀ j u,(Lib.byteCells l)[j]? = some u → w.cell? ((⟨g,0,none⟩:Addr).add j) = some u:=by
   intro j u hj
   rw [a1w,Nat.zero_add,a0r hg]
   have hjl:j < l.length:=by have:=(gS hj).1; simpa [Lib.byteCells] using this
   rw [hcell j hjl,← hj]
   simp [Lib.byteCells,hjl]
  obtain ⟨v',w',hr,ho,hgr⟩:=run_append_arg_grows (P:=P) (w:=w) t T e i (.int .u8 0) 1 1 ht hi hz hs hb rfl (by omega) ⟨g,0,none⟩ l.length cap (Lib.byteCells l) (by simp [Lib.byteCells]) hholds a 1 c [.int .u8 (x.toNat:Int)] rfl hnews (by omega) (by simp only [maxLen]; omega) (by omega)
  rw [hr]
  rcases ho.2 with ⟨_,h0⟩ | ⟨g',cap',cur',rfl,hb',hg',hnc,hcm,hcs',htk⟩
  ·omega
  ·refine k _ w' ⟨g',cap',cur',(0,0),by rw [List.length_append]; rfl,hg',fun i _=>by omega,by omega,by rw [List.length_append]; exact hnc,fun j hj=>?_⟩ ⟨hgr.os,hgr.tape,hgr.output,hgr.size,fun i hi _=>hgr.block i hi (by simp)⟩ (.inr ⟨g',rfl,hb'⟩)
   have e1:cur'.toList.take (l.length + 1) = Lib.byteCells (l ++ [x]):=by
    rw [Nat.mul_one] at htk
    rw [htk]
    simp [Lib.byteCells]
   have e2:=congrArg (fun q=>q[j]?) e1
   rw [List.length_append,List.length_cons,List.length_nil] at hj
   simp only [List.getElem?_take_of_lt hj,Array.getElem?_toList] at e2
   rw [e2]
   have hj':j < (l ++ [x]).length:=by simpa using hj
   simp only [Lib.byteCells,List.getElem?_map,gE hj',Option.map_some]
end
end Go.Sh
namespace Go.Sh
open Go Go.RowKit
section
variable {P:Program} {K:VK} {w:World}
@[go_sem] theorem b3p (t t' T:TypeId) (yk:IntKind) (x y:Int) (h0:0 ≤ y) (h1:y ≤ 64):oM P (.binOp .shr t (.tmp 0) (.tmp 1) t') T [.int .u64 x,.int yk y] = a0j (.int .u64 (x / 2 ^ y.toNat)):=by
 funext K w
 simp [oM,opM,xop,execOp,a1h,evE,binOp]
 rfl
@[go_sem] theorem e7o (t t' T:TypeId) (yk:IntKind) (x y:Int) (h0:0 ≤ y) (h1:y ≤ 64):oM P (.binOp .shl t (.tmp 0) (.tmp 1) t') T [.int .u64 x,.int yk y] = a0j (.int .u64 (x * 2 ^ y.toNat % 18446744073709551616)):=by
 funext K w
 simp [oM,opM,xop,execOp,a1h,evE,binOp]
 rfl
@[go_sem] theorem e7p (t t' T:TypeId) (yk:IntKind) (x y:Int) (h0:0 ≤ y) (h1:y ≤ 32):oM P (.binOp .shr t (.tmp 0) (.tmp 1) t') T [.int .u32 x,.int yk y] = a0j (.int .u32 (x / 2 ^ y.toNat)):=by
 funext K w
 simp [oM,opM,xop,execOp,a1h,evE,binOp]
 rfl
@[go_sem] theorem e7q (t t' T:TypeId) (yk:IntKind) (x y:Int) (h0:0 ≤ y) (h1:y ≤ 32):oM P (.binOp .shl t (.tmp 0) (.tmp 1) t') T [.int .u32 x,.int yk y] = a0j (.int .u32 (x * 2 ^ y.toNat % 4294967296)):=by
 funext K w
 simp [oM,opM,xop,execOp,a1h,evE,binOp]
 rfl
@[go_sem] theorem g3s (t t' T:TypeId) (x y:Int):oM P (.binOp .and t (.tmp 0) (.tmp 1) t') T [.int .u64 x,.int .u64 y] = a0j (.int .u64 (bits .and .u64 x y)):=by
 funext K w
 simp [oM,opM,xop,execOp,a1h,evE,binOp,go_sem]
@[go_sem] theorem g5h (t t' T:TypeId) (x y:Int):oM P (.binOp .or t (.tmp 0) (.tmp 1) t') T [.int .u64 x,.int .u64 y] = a0j (.int .u64 (bits .or .u64 x y)):=by
 funext K w
 simp [oM,opM,xop,execOp,a1h,evE,binOp,go_sem]
end
theorem c2f (x y:Int) (hx:0 ≤ x ∧ x < 18446744073709551616) (hy:0 ≤ y ∧ y < 18446744073709551616):bits .and .u64 x y = ((x.toNat &&& y.toNat:Nat):Int):=by
 obtain ⟨a,rfl⟩:=Int.eq_ofNat_of_zero_le hx.1
 obtain ⟨b,rfl⟩:=Int.eq_ofNat_of_zero_le hy.1
 have ha:a < 2 ^ 64:=by omega
 have hb:b < 2 ^ 64:=by omega
 simp only [bits,Int.toNat_natCast]
 rw [BitVec.ofInt_natCast,BitVec.ofInt_natCast,BitVec.toNat_and]
 simp only [BitVec.toNat_ofNat]
 rw [show IntKind.u64.bits = 64 from rfl,Nat.mod_eq_of_lt ha,Nat.mod_eq_of_lt hb]
 have:a &&& b ≤ a:=Nat.and_le_left
 exact a1v _ (by omega) (by omega)
theorem e1l (x y:Int) (hx:0 ≤ x ∧ x < 18446744073709551616) (hy:0 ≤ y ∧ y < 18446744073709551616):bits .or .u64 x y = ((x.toNat ||| y.toNat:Nat):Int):=by
 obtain ⟨a,rfl⟩:=Int.eq_ofNat_of_zero_le hx.1
 obtain ⟨b,rfl⟩:=Int.eq_ofNat_of_zero_le hy.1
 have ha:a < 2 ^ 64:=by omega
 have hb:b < 2 ^ 64:=by omega
 simp only [bits,Int.toNat_natCast]
 rw [BitVec.ofInt_natCast,BitVec.ofInt_natCast,BitVec.toNat_or]
 simp only [BitVec.toNat_ofNat]
 rw [show IntKind.u64.bits = 64 from rfl,Nat.mod_eq_of_lt ha,Nat.mod_eq_of_lt hb]
 have:=Nat.or_lt_two_pow ha hb
 exact a1v _ (by omega) (by omega)
theorem c6z (n:Nat) (x m:Int) (hn:n ≤ 64) (hm:m = 2 ^ n - 1) (hx:0 ≤ x ∧ x < 18446744073709551616):bits .and .u64 x m = x % 2 ^ n:=by
 have hp:(0:Int) < 2 ^ n:=Int.pow_pos (by omega)
 have hp':(2:Nat) ^ n ≤ 2 ^ 64:=Nat.pow_le_pow_right (by omega) hn
 have hpc:((2:Int) ^ n) = ((2 ^ n:Nat):Int):=by simp
 rw [c2f x m hx (by rw [hm,hpc]; omega)]
 have:m.toNat = 2 ^ n - 1:=by rw [hm,hpc]; omega
 rw [this,Nat.and_two_pow_sub_one_eq_mod,Int.natCast_emod,Int.toNat_of_nonneg hx.1,hpc]
theorem e7r (s:Nat) (x y:Int) (hs:s ≤ 64) (hx:0 ≤ x) (hy:0 ≤ y ∧ y < 2 ^ s) (h:x * 2 ^ s < 18446744073709551616):bits .or .u64 (x * 2 ^ s) y = x * 2 ^ s + y:=by
 obtain ⟨a,rfl⟩:=Int.eq_ofNat_of_zero_le hx
 obtain ⟨b,rfl⟩:=Int.eq_ofNat_of_zero_le hy.1
 have hpc:((2:Int) ^ s) = ((2 ^ s:Nat):Int):=by simp
 rw [hpc] at hy h ⊢
 have hp':(2:Nat) ^ s ≤ 2 ^ 64:=Nat.pow_le_pow_right (by omega) hs
 have hb:b < 2 ^ s:=by omega
 have e:((a:Int) * ((2 ^ s:Nat):Int)) = ((2 ^ s * a:Nat):Int):=by rw [Int.natCast_mul]; exact Int.mul_comm _ _
 rw [e] at h ⊢
 rw [e1l _ _ (by omega) (by omega),Int.toNat_natCast,Int.toNat_natCast,← Nat.two_pow_add_eq_or_of_lt hb]
 simp
end Go.Sh
namespace Go.Sh
open Go Go.RowKit
theorem _root_.Go.RowKit.Below.on {a b c:World} (h:Below a.heap.size a b) (k:Below b.heap.size b c):Below a.heap.size a c:=h.trans (k.mono h.size)
theorem _root_.Go.RowKit.Below.drawn {B:Nat} {w:World}:Below B w { w with drawn:=w.drawn + 1 }:=⟨rfl,rfl,rfl,rL,fun _ _=>rfl⟩
def g5i (w:World) (g:Nat) (cs:List Value):Prop:=∀ w',Below w.heap.size w w' → ∀ (i:Nat) (v:Value),cs[i]? = some v → w'.cell? ⟨g,i,none⟩ = some v
theorem f3w {P:Program} {w:World} {K:VK} {T T':TypeId} {x:Value} {cs:List Value} (hx:x.cells = cs.toArray)
  (k:∀ g W,Below w.heap.size w W → w.heap.size ≤ g → g5i W g cs → K (.pointer (some ⟨g,0,none⟩)) W):oM P (.box T (.tmp 0)) T' [x] K w:=by
 rw [f3z]
 have e:(Instr.box T x).run P w = .ok (.pointer (some ⟨w.heap.size,0,none⟩)) (w.alloc (.cells cs.toArray T)):=by
  rw [← hx]; rfl
 rw [e]
 refine k _ _ ((Below.refl _ w).alloc (rL) _) (rL) (fun w' hb i v hi=>?_)
 have hlt:w.heap.size < (w.alloc (.cells cs.toArray T)).heap.size:=by simp
 rw [hb.cell hlt]
 have:=World.cell?_alloc_at (w:=w) cs.toArray T w.heap.size i rfl
 rw [this]
 simpa using hi
def I64 (n:Int):Prop:=-9223372036854775808 ≤ n ∧ n < 9223372036854775808
def c7g (n:Int):List Value:=[.int .i64 n]
structure Ints (w:World) (v:Value) (l:List Int):Prop where
 row:RowR c7g 1 w v l
 rng:∀ n ∈ l,I64 n
 len:l.length ≤ 9223372036854775807
theorem Ints.next {w w':World} {v:Value} {l:List Int} (h:Ints w v l) (hb:Below w.heap.size w w'):Ints w' v l:=
 ⟨h.row.keep hb.size (fun i _ hi=>hb.block i hi),h.rng,h.len⟩
theorem Ints.nil (w:World):Ints w (.slice none 0 0) []:=⟨⟨none,0,rfl,fun _=>⟨rfl,rfl⟩,.inl rfl⟩,by simp,by simp⟩
theorem Ints.isSlice {w:World} {v:Value} {l:List Int} (h:Ints w v l):∃ ad c,v = .slice ad l.length c:=by
 obtain ⟨⟨ad,c,hv,_⟩,_⟩:=h; exact ⟨ad,c,hv⟩
theorem a3z (l:List Int):a9b c7g l = l.map (fun n=>Value.int .i64 n):=by
 induction l with
 | nil=>rfl
 | cons a l ih=>rw [b9l,ih]; rfl
theorem Ints.at {w:World} {ad:Option Addr} {n c:Nat} {l:List Int} (h:Ints w (.slice ad n c) l) {i:Nat} (hi:i < l.length) :
  ∃ b o,ad = some ⟨b,o,none⟩ ∧ b < w.heap.size ∧ (∀ w',Below w.heap.size w w' → w'.cell? ⟨b,o + i,none⟩ = some (.int .i64 l[i])) ∧ I64 l[i] ∧ n = l.length:=by
 obtain ⟨⟨ad',c',hv,h0,hc⟩,hr,_⟩:=h
 cases hv
 rcases hc with rfl | ⟨b,o,rfl,hlt,hc⟩
 ·simp at hi
 ·refine ⟨b,o,rfl,hlt,fun w' hb=>?_,hr _ (List.getElem_mem hi),rfl⟩
  rw [hb.cell hlt]
  exact hc i _ (by rw [a3z]; simp [hi])
theorem Ints.of_owns {w:World} {B:Nat} {e:TypeId} {v:Value} {l:List Int} (h:w.ownsRow B e 1 v l.length (a9b c7g l)) (hr:∀ n ∈ l,I64 n) (hl:l.length ≤ 9223372036854775807):Ints w v l:=
 ⟨RowR.of_owns h,hr,hl⟩
@[go_sem] theorem f3x {P:Program} {K:VK} {w:World} (fn:Fn) (T:TypeId) (x y:Value):oM P (.makeFunc fn #[] #[.tmp 0,.tmp 1]) T [x,y] K w = K (.func fn #[] #[x,y]) w:=a6v (by simp [xop,execOp,a1h,evE,Instr.makeFunc])
@[go_sem] theorem e7s {P:Program} {K:VK} {w:World} (fn:Fn) (T:TypeId) (x:Value):oM P (.makeFunc fn #[] #[.tmp 0]) T [x] K w = K (.func fn #[] #[x]) w:=a6v (by simp [xop,execOp,a1h,evE,Instr.makeFunc])
end Go.Sh
namespace Go.Sh
open Go
section
variable {P:Program} {K:VK} {w:World} {A B:Prop} {p:Prop} [Decidable p] {b c:Bool} {m:(VK) → WK} {T:TypeId} {x y v:Value} {C:WK} {KQ:Value → Prop}
theorem d1d {g:Bool} (h:gdM g m K w):gdM g m K w:=h
theorem b9s {q:Prop} {d:Decidable q} (h:gdM (gd (.bool (@decide q d)) c) m K w):gdM (gd (.bool (@decide q d)) c) m K w:=h
theorem e7v {q:Prop} {d:Decidable q} (h:gdM (gd (.bool (!@decide q d)) c) m K w):gdM (gd (.bool (!@decide q d)) c) m K w:=h
theorem b3q (h:oM P (.pick (.tmp 0) (.tmp 1) (.tmp 2)) T [v,x,y] K w):oM P (.pick (.tmp 0) (.tmp 1) (.tmp 2)) T [v,x,y] K w:=h
theorem a4z (h:a0v v A B):a0v v A B:=h
theorem idO {o:Op} {l:List Value} (h:oM P o T l K w):oM P o T l K w:=h
theorem f3y {o:Op} {l:List Value} (h:oQ P o T l C KQ):oQ P o T l C KQ:=h
theorem zF (k:m K w) (h:p:=by first|assumption|omega):gdM (gd (.bool (decide p)) true) m K w:=f7a h k
theorem zG (k:K undef w) (h:¬p:=by first|assumption|omega):gdM (gd (.bool (decide p)) true) m K w:=f7b h k
theorem zI (k:m K w) (h:¬p:=by first|assumption|omega):gdM (gd (.bool (decide p)) false) m K w:=f7c h k
theorem zJ (k:K undef w) (h:p:=by first|assumption|omega):gdM (gd (.bool (decide p)) false) m K w:=f7d h k
theorem zL (k:m K w) (h:¬p:=by first|assumption|omega):gdM (gd (.bool (!decide p)) true) m K w:=e8j h k
theorem zM (k:K undef w) (h:p:=by first|assumption|omega):gdM (gd (.bool (!decide p)) true) m K w:=e8k h k
theorem zO (k:m K w) (h:p:=by first|assumption|omega):gdM (gd (.bool (!decide p)) false) m K w:=e8l h k
theorem zP (k:K undef w) (h:¬p:=by first|assumption|omega):gdM (gd (.bool (!decide p)) false) m K w:=e8m h k
theorem zA (k:m K w):gdM (gd (.bool true) true) m K w:=h1d k
theorem zB (k:K undef w):gdM (gd (.bool false) true) m K w:=h1e k
theorem zC (k:m K w):gdM (gd (.bool false) false) m K w:=h1f k
theorem zD (k:K undef w):gdM (gd (.bool true) false) m K w:=h1g k
theorem zE (k:K undef w):gdM (gd undef c) m K w:=gdu k c
theorem zH (h1:p → m K w) (h2:¬p → K undef w):gdM (gd (.bool (decide p)) true) m K w:=e1z h1 h2
theorem zK (h1:p → K undef w) (h2:¬p → m K w):gdM (gd (.bool (decide p)) false) m K w:=e2a h1 h2
theorem zQ (h1:p → m K w) (h2:¬p → K undef w):gdM (gd (.bool (!decide p)) false) m K w:=d2z h1 h2
theorem yB (k:K x w):oM P (.pick (.tmp 0) (.tmp 1) (.tmp 2)) T [.bool true,x,y] K w:=g5q k
theorem yC (k:K y w):oM P (.pick (.tmp 0) (.tmp 1) (.tmp 2)) T [.bool false,x,y] K w:=g5r k
theorem yD (k:K x w) (h:p:=by first|assumption|omega):oM P (.pick (.tmp 0) (.tmp 1) (.tmp 2)) T [.bool (decide p),x,y] K w:=e8n h k
theorem yE (k:K y w) (h:¬p:=by first|assumption|omega):oM P (.pick (.tmp 0) (.tmp 1) (.tmp 2)) T [.bool (decide p),x,y] K w:=e8o h k
theorem yF (k:K x w) (h:¬p:=by first|assumption|omega):oM P (.pick (.tmp 0) (.tmp 1) (.tmp 2)) T [.bool (!decide p),x,y] K w:=e2b h k
theorem yG (k:K y w) (h:p:=by first|assumption|omega):oM P (.pick (.tmp 0) (.tmp 1) (.tmp 2)) T [.bool (!decide p),x,y] K w:=e2c h k
theorem yL (k:A):a0v (.bool true) A B:=g5s k
theorem yM (k:B):a0v (.bool false) A B:=g5t k
theorem yN (k:A) (h:p:=by first|assumption|omega):a0v (.bool (decide p)) A B:=e8p h k
theorem yO (k:B) (h:¬p:=by first|assumption|omega):a0v (.bool (decide p)) A B:=e8q h k
theorem yQ (k:A) (h:¬p:=by first|assumption|omega):a0v (.bool (!decide p)) A B:=e2d h k
theorem yR (k:B) (h:p:=by first|assumption|omega):a0v (.bool (!decide p)) A B:=e2e h k
theorem yP (h1:p → A) (h2:¬p → B):a0v (.bool (decide p)) A B:=b9j h1 h2
end
end Go.Sh
namespace Go.Sh
open Go Go.RowKit
@[reducible] def a0n (w:World):List (Addr × Value) → Prop
 | []=>True
 | p :: l=>w.cell? p.1 = some p.2 ∧ a0n w l
theorem a0q {w w':World}:∀ {L:List (Addr × Value)},a0n w L → (∀ (a:Addr),a.block < w.heap.size → w'.cell? a = w.cell? a) → a0n w' L
 | [],_,_=>trivial
 | p :: l,h,k=>by
  refine ⟨?_,a0q h.2 k⟩
  have hlt:p.1.block < w.heap.size:=by
   have h1:=h.1
   by_cases hc:p.1.block < w.heap.size
   ·exact hc
   ·unfold World.cell? at h1
    rw [Array.getElem?_eq_none (by omega)] at h1
    simp at h1
  rw [k _ hlt]; exact h.1
theorem a9e {w w':World} {g:Nat}:∀ {L:List (Addr × Value)},a0n w L → (∀ p ∈ L,p.1.block ≠ g) → (∀ (a:Addr),a.block < w.heap.size → a.block ≠ g → w'.cell? a = w.cell? a) → a0n w' L
 | [],_,_,_=>trivial
 | p :: l,h,hn,k=>by
  refine ⟨?_,a9e h.2 (fun q hq=>hn q (List.mem_cons_of_mem _ hq)) k⟩
  have hlt:p.1.block < w.heap.size:=by
   have h1:=h.1
   by_cases hc:p.1.block < w.heap.size
   ·exact hc
   ·unfold World.cell? at h1
    rw [Array.getElem?_eq_none (by omega)] at h1
    simp at h1
  rw [k _ hlt (hn p (List.mem_cons_self ..))]; exact h.1
structure Kn (w0:World) (L:List (Addr × Value)) (w':World):Prop where
 below:Below w0.heap.size w0 w'
 cells:a0n w' L
namespace Kn
variable {w0 w w':World} {L:List (Addr × Value)}
theorem start (w:World):Kn w [] w:=⟨Below.refl _ _,trivial⟩
theorem next (h:Kn w0 L w) (hb:Below w.heap.size w w'):Kn w0 L w':=⟨h.below.on hb,a0q h.cells fun a ha=>hb.cell ha⟩
theorem drew (h:Kn w0 L w):Kn w0 L { w with drawn:=w.drawn + 1 }:=h.next .drawn
theorem wrote (h:Kn w0 L w) {g:Nat} (hg:w.grownBy w' (some g)) (h0:w0.heap.size ≤ g) (hn:∀ p ∈ L,p.1.block ≠ g):Kn w0 L w':=
 ⟨h.below.grown hg h.below.size (fun k hk=>by cases hk; exact h0),
  a9e h.cells hn fun a ha hna=>World.cell?_of_block (w:=w) (hg.block _ ha (fun e=>hna (oI e)))⟩
end Kn
@[reducible] def cellsOf (L:List (Addr × Value)) (b:Nat):Nat → List Value → List (Addr × Value)
 | _,[]=>L
 | i,v :: l=>(⟨b,i,none⟩,v) :: cellsOf L b (i + 1) l
theorem a9a {w:World} {b:Nat} {xs:List Value} {L:List (Addr × Value)} (hL:a0n w L) (h:∀ (i:Nat) (v:Value),xs[i]? = some v → w.cell? ⟨b,i,none⟩ = some v):∀ (l:List Value) (i:Nat),xs.drop i = l → a0n w (cellsOf L b i l)
 | [],_,_=>hL
 | v :: l,i,e=>by
  have hv:xs[i]? = some v:=by
   have:=congrArg (·[0]?) e
   simpa using this
  refine ⟨h i v hv,a9a hL h l (i + 1) ?_⟩
  have:=congrArg List.tail e
  simpa using this
def Mine (w:World) (g:Nat) (n:Nat):Prop:=∃ cur T,w.heap[g]? = some (.cells cur T (0,0)) ∧ cur.size = n
theorem Mine.next {w w':World} {g n:Nat} (h:Mine w g n) (hb:Below w.heap.size w w'):Mine w' g n:=by
 obtain ⟨cur,T,h1,h2⟩:=h
 refine ⟨cur,T,?_,h2⟩
 rw [hb.block g (Array.getElem?_eq_some_iff.1 h1).1]; exact h1
section
variable {P:Program} {w0 w:World} {K:VK} {T T':TypeId} {L:List (Addr × Value)}
theorem a0l {x:Value} {cs:List Value} (hx:x.cells = cs.toArray) (hk:Kn w0 L w) (k:∀ b W,Kn w0 (cellsOf L b 0 cs) W → Below w.heap.size w W → w.heap.size ≤ b → K (.pointer (some ⟨b,0,none⟩)) W):oM P (.box T (.tmp 0)) T' [x] K w:=
 f3w hx fun g W h1 h2 h3=>k g W ⟨(hk.next h1).below,a9a (xs:=cs) (hk.next h1).cells (fun i v hi=>h3 W (Below.refl _ _) i v hi) cs 0 rfl⟩ h1 h2
end
end Go.Sh
namespace Go.Sh
open Go Go.RowKit
theorem a2q {w:World}:∀ {L:List (Addr × Value)},a0n w L → ∀ p ∈ L,p.1.block < w.heap.size
 | p :: l,h,q,hq=>by
  rcases List.mem_cons.1 hq with rfl | hq
  ·have h1:=h.1
   by_cases hc:q.1.block < w.heap.size
   ·exact hc
   ·unfold World.cell? at h1
    rw [Array.getElem?_eq_none (by omega)] at h1
    simp at h1
  ·exact a2q h.2 q hq
structure KnM (w0:World) (L:List (Addr × Value)) (g n:Nat) (w':World):Prop where
 kn:Kn w0 L w'
 mine:Mine w' g n
 base:w0.heap.size ≤ g
 off:∀ p ∈ L,p.1.block ≠ g
theorem a5l {w:World} {g n:Nat} (h:Mine w g n):g < w.heap.size:=by
 obtain ⟨cur,T,h1,_⟩:=h
 exact (Array.getElem?_eq_some_iff.1 h1).1
theorem a6u {L:List (Addr × Value)} {b:Nat}:∀ (cs:List Value) (i:Nat) (p:Addr × Value),p ∈ cellsOf L b i cs → p.1.block = b ∨ p ∈ L
 | [],_,_,h=>.inr h
 | _ :: l,i,p,h=>by
  rcases List.mem_cons.1 h with rfl | h
  ·exact .inl rfl
  ·exact a6u l (i + 1) p h
namespace KnM
variable {w0 w w':World} {L:List (Addr × Value)} {g n:Nat}
theorem next (h:KnM w0 L g n w) (hb:Below w.heap.size w w'):KnM w0 L g n w':=⟨h.kn.next hb,h.mine.next hb,h.base,h.off⟩
theorem drew (h:KnM w0 L g n w):KnM w0 L g n { w with drawn:=w.drawn + 1 }:=h.next .drawn
theorem cells (h:KnM w0 L g n w):a0n w L:=h.kn.cells
theorem below (h:KnM w0 L g n w):Below w0.heap.size w0 w:=h.kn.below
end KnM
section
variable {P:Program} {w0 w:World} {K:VK} {T T':TypeId} {L:List (Addr × Value)} {g n:Nat}
theorem a6l {zs:List Value} (hA:∀ w,(Instr.alloc T true (.tuple #[])).run P w = .ok (.pointer (some ⟨w.heap.size,0,none⟩)) (w.alloc (.cells zs.toArray T))) (hn:zs.length = n) (hk:Kn w0 L w)
  (k:∀ g W,KnM w0 L g n W → Below w.heap.size w W → w.heap.size ≤ g → K (.pointer (some ⟨g,0,none⟩)) W):oM P (.alloc T) T' [] K w:=by
 rw [d1f,hA]
 have hb:=(Below.refl w.heap.size w).alloc (rL) (.cells zs.toArray T)
 refine k _ _ ⟨hk.next hb,⟨zs.toArray,T,?_,by simpa using hn⟩,hk.below.size,fun p hp=>?_⟩ hb (rL)
 ·show (w.heap.push _)[w.heap.size]? = _
  simp
 ·have:=a2q hk.cells p hp
  omega
theorem b0b {x:Value} {xs:List Value} {W:World} (hT:∀ w,(sizeOf T).run P w = .ok n w) (hx:x.cells = xs.toArray) (hl:xs.length = n) (h1:∀ u ∈ xs,u.oneCell' = true) (hm:Mine w g n) :
  ∃ W,(Instr.storeAt T (.pointer (some ⟨g,0,none⟩)) x).run P w = .ok () W ∧ w.grownBy W (some g) ∧ Mine W g n ∧ a0n W (cellsOf [] g 0 xs):=by
 obtain ⟨cur,T0,hg,hc⟩:=hm
 have hst:=run_storeCells_at P g 0 T0 xs 0 cur w hg (by omega) h1
 have e1:(cur.toList.take (0 + 0) ++ xs ++ cur.toList.drop (0 + 0 + xs.length)).toArray = xs.toArray:=by
  rw [List.drop_of_length_le (by simp; omega)]
  simp
 rw [e1] at hst
 have hh:=setRow_heap w g cur xs.toArray T0 (0,0) hg
 refine ⟨w.setRow g xs.toArray,?_,b5v _ _ _,⟨_,_,hh,by simpa using hl⟩,a9a (xs:=xs) (L:=[]) trivial (fun i v hi=>?_) xs 0 rfl⟩
 ·have e2:x.cells.toList = xs:=by rw [hx]
  have e3:x.cells.size = n:=by rw [hx]; simpa using hl
  unfold Instr.storeAt storeVar
  rw [e2,e3]
  simp [hT,go_sem]
  exact hst
 ·unfold World.cell?
  rw [hh]
  simpa using hi
theorem a5r {zs:List Value} {x:Value} {xs:List Value} {T2:TypeId} {K:VK} (hA:∀ w,(Instr.alloc T true (.tuple #[])).run P w = .ok (.pointer (some ⟨w.heap.size,0,none⟩)) (w.alloc (.cells zs.toArray T))) (hn:zs.length = n)
  (hT:∀ w,(sizeOf T).run P w = .ok n w) (hx:x.cells = xs.toArray) (hl:xs.length = n) (h1:∀ u ∈ xs,u.oneCell' = true) (hk:Kn w0 L w)
  (k:∀ b W,Kn w0 (cellsOf L b 0 xs) W → Below w.heap.size w W → w.heap.size ≤ b → K (.pointer (some ⟨b,0,none⟩)) W) :
  oM P (.alloc T) T' [] (fun v w=>oM P (.store T (.tmp 0) (.tmp 1)) T2 [v,x] (fun _ w=>K v w) w) w:=by
 refine a6l hA hn hk fun g W hk2 hb hg=>?_
 obtain ⟨W2,e,hgr,hm,hc⟩:=b0b (W:=w) hT hx hl h1 hk2.mine
 rw [b0w,e]
 have hb2:Below w.heap.size w W2:=hb.grown hgr hb.size (fun k hk=>by cases hk; exact hg)
 refine k g W2 ⟨(hk2.kn.wrote hgr hk2.base hk2.off).below,?_⟩ hb2 hg
 have hL:=(hk2.kn.wrote hgr hk2.base hk2.off).cells
 clear e k
 have:∀ (l:List Value) (i:Nat),a0n W2 (cellsOf [] g i l) → a0n W2 (cellsOf L g i l):=by
  intro l
  induction l with
  | nil=>intro i _; exact hL
  | cons a l ih=>intro i h; exact ⟨h.1,ih (i + 1) h.2⟩
 exact this xs 0 hc
theorem e1p {zs:List Value} {x:Value} {xs:List Value} {T2:TypeId} {K:VK} {m:Nat} (hA:∀ w,(Instr.alloc T true (.tuple #[])).run P w = .ok (.pointer (some ⟨w.heap.size,0,none⟩)) (w.alloc (.cells zs.toArray T))) (hn:zs.length = m)
  (hT:∀ w,(sizeOf T).run P w = .ok m w) (hx:x.cells = xs.toArray) (hl:xs.length = m) (h1:∀ u ∈ xs,u.oneCell' = true) (hk:KnM w0 L g n w)
  (k:∀ b W,KnM w0 (cellsOf L b 0 xs) g n W → Below w.heap.size w W → w.heap.size ≤ b → K (.pointer (some ⟨b,0,none⟩)) W) :
  oM P (.alloc T) T' [] (fun v w=>oM P (.store T (.tmp 0) (.tmp 1)) T2 [v,x] (fun _ w=>K v w) w) w:=
 a5r hA hn hT hx hl h1 hk.kn fun b W hk' h1 h2=>k b W ⟨hk',hk.mine.next h1,hk.base,fun p hp=>(a6u xs 0 p hp).elim (fun e=>by have:=a5l hk.mine; omega) (hk.off p)⟩ h1 h2
variable {C:WK} {KQ:Value → Prop} {x y v:Value} {p:Prop} [Decidable p]
theorem e1q {o:Op} {l:List Value} (h:oH P o T l C KQ):oH P o T l C KQ:=h
theorem f6w {c:Bool} {m:(WK) → (Value → Prop) → Prop} (h:gdH c m C KQ):gdH c m C KQ:=h
theorem c4d {c:Bool} {m:(WK) → (Value → Prop) → Prop} (h:∀ W0,gdM c (fun K' w=>m C (fun v=>K' v w)) (fun v _=>KQ v) W0):gdH c m C KQ:=by
 have h:=h ⟨#[],default,0,default,default⟩
 cases c <;> exact h
theorem g1z {b:Bool} (k:KQ (bif b then x else y)):oH P (.pick (.tmp 0) (.tmp 1) (.tmp 2)) T [.bool b,x,y] C KQ:=by
 refine ⟨_,fun w _=>?_,k⟩
 simp [xop,execOp,a1h,evE,asBool]
theorem g2a (k:KQ x):oH P (.pick (.tmp 0) (.tmp 1) (.tmp 2)) T [.bool true,x,y] C KQ:=g1z k
theorem g2b (k:KQ y):oH P (.pick (.tmp 0) (.tmp 1) (.tmp 2)) T [.bool false,x,y] C KQ:=g1z k
theorem vA (k:KQ x):oH P (.pick (.tmp 0) (.tmp 1) (.tmp 2)) T [.bool true,x,y] C KQ:=g2a k
theorem vB (k:KQ y):oH P (.pick (.tmp 0) (.tmp 1) (.tmp 2)) T [.bool false,x,y] C KQ:=g2b k
end
end Go.Sh
namespace Go.Sh
open Go Go.RowKit
@[reducible] def ptr (g i:Nat):Value:=.pointer (some ⟨g,i,none⟩)
def Holds (w:World) (g:Nat) (T:TypeId) (vs:List Value):Prop:=w.heap[g]? = some (.cells vs.toArray T (0,0))
theorem Holds.lt {w:World} {g:Nat} {T:TypeId} {vs:List Value} (h:Holds w g T vs):g < w.heap.size:=(Array.getElem?_eq_some_iff.1 h).1
theorem Holds.next {w w':World} {g:Nat} {T:TypeId} {vs:List Value} (h:Holds w g T vs) (hb:Below w.heap.size w w'):Holds w' g T vs:=by
 unfold Holds
 rw [hb.block g h.lt]; exact h
theorem Holds.other {w w':World} {g g':Nat} {T:TypeId} {vs:List Value} (h:Holds w g T vs) (hg:w.grownBy w' (some g')) (hne:g ≠ g'):Holds w' g T vs:=by
 unfold Holds
 rw [hg.block g h.lt (fun e=>hne (by cases e; rfl))]; exact h
theorem Holds.cell {w:World} {g:Nat} {T:TypeId} {vs:List Value} (h:Holds w g T vs) (i:Nat) (hi:i < vs.length):w.cell? ⟨g,i,none⟩ = some vs[i]:=by
 unfold World.cell?
 rw [h]
 simp [hi]
theorem Holds.are {w:World} {g:Nat} {T:TypeId} {vs:List Value} (h:Holds w g T vs):a0n w (cellsOf [] g 0 vs):=
 a9a (xs:=vs) (L:=[]) trivial (fun i v hi=>by
  obtain ⟨hl,rfl⟩:=gS hi
  exact h.cell i hl) vs 0 rfl
section
variable {P:Program} {w:World} {K:VK} {T T' T0:TypeId} {g n:Nat}
theorem a1d {zs:List Value} (hA:∀ w,(Instr.alloc T true (.tuple #[])).run P w = .ok (.pointer (some ⟨w.heap.size,0,none⟩)) (w.alloc (.cells zs.toArray T)))
  (k:∀ g W,Below w.heap.size w W → w.heap.size ≤ g → Holds W g T zs → K (ptr g 0) W):oM P (.alloc T) T' [] K w:=by
 rw [d1f,hA]
 refine k _ _ ((Below.refl w.heap.size w).alloc (rL) _) (rL) ?_
 show (w.heap.push _)[w.heap.size]? = _
 simp
theorem f6v {x:Value} {cs:List Value} (hx:x.cells = cs.toArray) (k:∀ g W,Below w.heap.size w W → w.heap.size ≤ g → Holds W g T cs → K (ptr g 0) W):oM P (.box T (.tmp 0)) T' [x] K w:=by
 rw [f3z]
 have e:(Instr.box T x).run P w = .ok (.pointer (some ⟨w.heap.size,0,none⟩)) (w.alloc (.cells cs.toArray T)):=by
  rw [← hx]; rfl
 rw [e]
 refine k _ _ ((Below.refl w.heap.size w).alloc (rL) _) (rL) ?_
 show (w.heap.push _)[w.heap.size]? = _
 simp
theorem b5u {o m:Nat} {cur xs:List Value} {x:Value} (hT:∀ w,(sizeOf T).run P w = .ok m w) (hx:x.cells = xs.toArray) (hl:xs.length = m) (h1:∀ u ∈ xs,u.oneCell' = true) (hg:Holds w g T0 cur) (hfit:o + m ≤ cur.length)
  (k:∀ W,w.grownBy W (some g) → Holds W g T0 (cur.take o ++ xs ++ cur.drop (o + m)) → K undef W):oM P (.store T (.tmp 0) (.tmp 1)) T' [ptr g o,x] K w:=by
 have hst:=run_storeCells_at P g o T0 xs 0 cur.toArray w hg (by simp; omega) h1
 rw [Nat.add_zero] at hst
 have e2:x.cells.toList = xs:=by rw [hx]
 have e3:x.cells.size = m:=by rw [hx]; simpa using hl
 have hrun:(Instr.storeAt T (ptr g o) x).run P w = .ok () (w.setRow g (cur.take o ++ xs ++ cur.drop (o + xs.length)).toArray):=by
  unfold Instr.storeAt storeVar
  rw [e2,e3]
  simp only [List.append_assoc] at hst ⊢
  simp [hT,go_sem]
  exact hst
 rw [b0w,hrun]
 rw [hl] at *
 exact k _ (b5v _ _ _) (setRow_heap w g _ _ T0 (0,0) hg)
theorem a0x {cur xs:List Value} {x:Value} (hT:∀ w,(sizeOf T).run P w = .ok n w) (hx:x.cells = xs.toArray) (hl:xs.length = n) (h1:∀ u ∈ xs,u.oneCell' = true) (hg:Holds w g T0 cur) (hc:cur.length = n)
  (k:∀ W,w.grownBy W (some g) → Holds W g T0 xs → K undef W):oM P (.store T (.tmp 0) (.tmp 1)) T' [ptr g 0,x] K w:=by
 refine b5u hT hx hl h1 hg (by omega) (fun W h2 h3=>k W h2 ?_)
 rw [Nat.zero_add,List.take_zero,List.nil_append,List.drop_of_length_le (by omega),List.append_nil] at h3
 exact h3
theorem a3q {cur:List Value} {x:Value} {i:Nat} (hT:∀ w,(sizeOf T).run P w = .ok 1 w) (hx:x.cells = #[x]) (h1:x.oneCell' = true) (hg:Holds w g T0 cur) (hi:i < cur.length)
  (k:∀ W,w.grownBy W (some g) → Holds W g T0 (cur.set i x) → K undef W):oM P (.store T (.tmp 0) (.tmp 1)) T' [ptr g i,x] K w:=by
 refine b5u (xs:=[x]) hT hx rfl (by intro u hu; rw [List.mem_singleton] at hu; subst hu; exact h1) hg (by omega) (fun W h2 h3=>k W h2 ?_)
 rw [List.set_eq_take_append_cons_drop,if_pos hi]
 simpa [List.append_assoc] using h3
theorem a8z {cs:List Value} {d:TypeDesc} (hg:Holds w g T0 cs) (hu:P.underlying T = some d) (hd:(match d with | .struct _ | .array _ _=>true | _=>false) = true) (hi:(P.info? T).map (·.size) = some cs.length) (k:K (.agg cs.toArray) w) :
  oM P (.load T (.tmp 0)) T' [ptr g 0] K w:=by
 rw [f6z]
 have:=run_loadVar_row (P:=P) w g T0 T cs.toArray (0,0) d hg hu hd (by simpa using hi)
 have e:(Instr.loadAt T (ptr g 0)).run P w = (loadVar T ⟨g,0,none⟩).run P w:=rfl
 rw [e,this]
 exact k
theorem b2g {cs:List Value} {d:TypeDesc} (hg:Holds w g T0 cs) (hu:P.underlying T = some d) (hd:(match d with | .struct _ | .array _ _=>true | _=>false) = true) (hi:(P.info? T).map (·.size) = some cs.length) (k:K (.agg cs.toArray) w) :
  ∃ r,(do loadVar T (← asAddr (ptr g 0)):Sem Value).run P w = .ok r w ∧ K r w:=by
 have:=run_loadVar_row (P:=P) w g T0 T cs.toArray (0,0) d hg hu hd (by simpa using hi)
 exact ⟨_,this,k⟩
theorem c2e {N:Nat} (t:TypeId) (hu:P.underlying t = some (.array (P.arrayLen t) (P.elem t))) (hN:P.arrayLen t = N) (h2:2 ≤ N) (hs:∀ w,(sizeOf (P.elem t)).run P w = .ok 1 w) (T:TypeId) (b o:Nat) (x:Int) :
  oM P (.indexAddr t (.tmp 0) (.tmp 1)) T [.pointer (some ⟨b,o,none⟩),.int .i64 x] = onM (0 ≤ x ∧ x < N) (.pointer (some ⟨b,o + x.toNat,none⟩)):=by
 funext K w
 rw [a2x,run_indexAt_array (h:=hu),hN]
 by_cases hi:0 ≤ x ∧ x < N
 ·rw [if_pos hi,hs]
  simp only [Result.andThen,a1w,Nat.mul_one,c4h]
  exact propext ⟨fun h=>⟨hi,h⟩,fun h=>h.2⟩
 ·rw [if_neg hi,if_neg (by omega)]
  obtain ⟨e',w',he⟩:=c9b Value P .i64 x N .index w
  rw [he]
  exact propext ⟨fun h=>h.elim,fun h=>hi h.1⟩
theorem a0m {w0 w':World} (h0:Below w0.heap.size w0 w) (hg:w.grownBy w' (some g)) (h:w0.heap.size ≤ g):Below w0.heap.size w0 w':=
 h0.grown hg h0.size (fun k hk=>by cases hk; exact h)
end
end Go.Sh
namespace Go.Sh
open Go Go.RowKit
theorem bR {B:Nat} {w:World}:Below B w w:=Below.refl _ _
abbrev Bw (w w2:World):=Below w.heap.size w w2
abbrev Nx (w w':World):Prop:=Below w.heap.size w w'
variable {S:World → WK} {A N:(VK) → Prop}
theorem a1i {x:Value} (h:A (fun v _=>v = x)) (n:N (fun v _=>v = x)):∃ R:VK,(∀ v w w1,S w w1 → R v w → R v w1) ∧ A R ∧ N R:=⟨_,fun _ _ _ _ h=>h,h,n⟩
theorem a3i (R:VK) (hs:∀ v w w1,S w w1 → R v w → R v w1) (h:A R) (n:N R):∃ R:VK,(∀ v w w1,S w w1 → R v w → R v w1) ∧ A R ∧ N R:=⟨R,hs,h,n⟩
end Go.Sh
namespace Go.Sh
open Go Go.RowKit
structure Yh (B:Prop):Prop where
 o:B
section
theorem An2 {p0 p1:Prop} (h0:p0) (h1:p1):p0 ∧ p1:=⟨h0,h1⟩
theorem An3 {p0 p1 p2:Prop} (h0:p0) (h1:p1) (h2:p2):p0 ∧ p1 ∧ p2:=⟨h0,h1,h2⟩
theorem An4 {p0 p1 p2 p3:Prop} (h0:p0) (h1:p1) (h2:p2) (h3:p3):p0 ∧ p1 ∧ p2 ∧ p3:=⟨h0,h1,h2,h3⟩
theorem An5 {p0 p1 p2 p3 p4:Prop} (h0:p0) (h1:p1) (h2:p2) (h3:p3) (h4:p4):p0 ∧ p1 ∧ p2 ∧ p3 ∧ p4:=⟨h0,h1,h2,h3,h4⟩
theorem An6 {p0 p1 p2 p3 p4 p5:Prop} (h0:p0) (h1:p1) (h2:p2) (h3:p3) (h4:p4) (h5:p5):p0 ∧ p1 ∧ p2 ∧ p3 ∧ p4 ∧ p5:=⟨h0,h1,h2,h3,h4,h5⟩
theorem An7 {p0 p1 p2 p3 p4 p5 p6:Prop} (h0:p0) (h1:p1) (h2:p2) (h3:p3) (h4:p4) (h5:p5) (h6:p6):p0 ∧ p1 ∧ p2 ∧ p3 ∧ p4 ∧ p5 ∧ p6:=⟨h0,h1,h2,h3,h4,h5,h6⟩
theorem An8 {p0 p1 p2 p3 p4 p5 p6 p7:Prop} (h0:p0) (h1:p1) (h2:p2) (h3:p3) (h4:p4) (h5:p5) (h6:p6) (h7:p7):p0 ∧ p1 ∧ p2 ∧ p3 ∧ p4 ∧ p5 ∧ p6 ∧ p7:=⟨h0,h1,h2,h3,h4,h5,h6,h7⟩
theorem An9 {p0 p1 p2 p3 p4 p5 p6 p7 p8:Prop} (h0:p0) (h1:p1) (h2:p2) (h3:p3) (h4:p4) (h5:p5) (h6:p6) (h7:p7) (h8:p8):p0 ∧ p1 ∧ p2 ∧ p3 ∧ p4 ∧ p5 ∧ p6 ∧ p7 ∧ p8:=⟨h0,h1,h2,h3,h4,h5,h6,h7,h8⟩
theorem g7p {p0 p1 p2 p3 p4 p5 p6 p7 p8 p9 p10 p11 p12:Prop} (h0:p0) (h1:p1) (h2:p2) (h3:p3) (h4:p4) (h5:p5) (h6:p6) (h7:p7) (h8:p8) (h9:p9) (h10:p10) (h11:p11) (h12:p12):p0 ∧ p1 ∧ p2 ∧ p3 ∧ p4 ∧ p5 ∧ p6 ∧ p7 ∧ p8 ∧ p9 ∧ p10 ∧ p11 ∧ p12:=⟨h0,h1,h2,h3,h4,h5,h6,h7,h8,h9,h10,h11,h12⟩
theorem h1h {p0 p1 p2 p3 p4 p5 p6 p7 p8 p9 p10 p11 p12 p13 p14 p15 p16 p17 p18 p19:Prop} (h0:p0) (h1:p1) (h2:p2) (h3:p3) (h4:p4) (h5:p5) (h6:p6) (h7:p7) (h8:p8) (h9:p9) (h10:p10) (h11:p11) (h12:p12) (h13:p13) (h14:p14) (h15:p15) (h16:p16) (h17:p17) (h18:p18) (h19:p19):p0 ∧ p1 ∧ p2 ∧ p3 ∧ p4 ∧ p5 ∧ p6 ∧ p7 ∧ p8 ∧ p9 ∧ p10 ∧ p11 ∧ p12 ∧ p13 ∧ p14 ∧ p15 ∧ p16 ∧ p17 ∧ p18 ∧ p19:=⟨h0,h1,h2,h3,h4,h5,h6,h7,h8,h9,h10,h11,h12,h13,h14,h15,h16,h17,h18,h19⟩
theorem Xa {A B F:Prop} (f:F) (b:B) (h:F → Yh B → A:=by
 intro f Y0
 repeat (any_goals (first
 | (with_reducible first|refine a4i ?_|((refine d1d ?_); first|refine zA ?_|refine zB ?_|refine zC ?_|refine zD ?_|refine zE ?_|((refine b9s ?_); first|refine zF ?_|refine zG ?_|refine zH (fun hg=>?_) fun hg=>?_|refine zI ?_|refine zJ ?_|refine zK (fun hg=>?_) fun hg=>?_)|((refine e7v ?_); first|refine zL ?_|refine zM ?_|refine zO ?_|refine zP ?_|refine zQ (fun hg=>?_) fun hg=>?_)|refine zV ?_|refine zW ?_|refine zX (fun hg=>?_) fun hg=>?_)|((refine b3q ?_); first|refine yB ?_|refine yC ?_|refine yD ?_|refine yE ?_|refine yF ?_|refine yG ?_|refine yJ ?_|refine yK ?_)|((refine a4z ?_); first|refine yL ?_|refine yM ?_|refine yN ?_|refine yO ?_|refine yP (fun hg=>?_) fun hg=>?_|refine yQ ?_|refine yR ?_))
 | ((with_reducible refine oG fun X Y=>?_); simp [go_sem,f]; (try simp (disch:=omega) only [a0o,a4r,a1v]); (first|refine Y _ _ ?_|refine And.intro (by omega) (Y _ _ ?_)); clear Y X)))
 exact Y0.o):A:=h f ⟨b⟩
theorem Xa0 {A B:Prop} (b:B) (h:Yh B → A:=by
 intro Y0
 repeat (any_goals (first
 | (with_reducible first|refine a4i ?_|((refine d1d ?_); first|refine zA ?_|refine zB ?_|refine zC ?_|refine zD ?_|((refine b9s ?_); first|refine zI ?_|refine zJ ?_))|((refine b3q ?_); first|refine yB ?_|refine yC ?_|refine yD ?_|refine yE ?_|refine yF ?_)|((refine a4z ?_); first|refine yL ?_|refine yM ?_|refine yN ?_|refine yO ?_|refine yP (fun hg=>?_) fun hg=>?_|refine yQ ?_|refine yR ?_))
 | ((with_reducible refine oG fun X Y=>?_); simp [go_sem]; (try simp (disch:=omega) only [a0o,a4r,a1v]); (first|refine Y _ _ ?_|refine And.intro (by omega) (Y _ _ ?_)); clear Y X)))
 exact Y0.o):A:=h ⟨b⟩
theorem g2y {A B:Prop} (b:B) (h:Yh B → A:=by
 intro Y0
 skip
 exact Y0.o):A:=h ⟨b⟩
theorem Xb1 {A B F:Prop} (f:F) (b:B) (h:F → Yh B → A:=by
 intro f Y0
 iterate 1 (any_goals ((with_reducible refine oG fun X Y=>?_); simp [go_sem,f]; apply Y; clear Y X))
 exact Y0.o):A:=h f ⟨b⟩
theorem h1i {A B F:Prop} (f:F) (b:B) (h:F → Yh B → A:=by
 intro f Y0
 iterate 11 (any_goals (first
 | (with_reducible ((refine a4z ?_); first|refine yL ?_|refine yM ?_))
 | ((with_reducible refine oG fun X Y=>?_); simp [go_sem,f]; apply Y; clear Y X)))
 exact Y0.o):A:=h f ⟨b⟩
theorem a9i {A B:Prop} (b:B) (h:Yh B → A:=by
 intro Y0
 iterate 1 (any_goals (first
 | (with_reducible refine zA ?_)
 | ((with_reducible refine oG fun X Y=>?_); simp [go_sem]; apply Y; clear Y X)))
 exact Y0.o):A:=h ⟨b⟩
theorem Xb2 {A B F:Prop} (f:F) (b:B) (h:F → Yh B → A:=by
 intro f Y0
 iterate 2 (any_goals ((with_reducible refine oG fun X Y=>?_); simp [go_sem,f]; apply Y; clear Y X))
 exact Y0.o):A:=h f ⟨b⟩
theorem b5k {A B:Prop} (b:B) (h:Yh B → A:=by
 intro Y0
 iterate 2 (any_goals (first
 | (with_reducible ((refine a4z ?_); first|refine yM ?_|refine yN ?_))
 | ((with_reducible refine oG fun X Y=>?_); simp [go_sem]; apply Y; clear Y X)))
 exact Y0.o):A:=h ⟨b⟩
theorem Xb3 {A B F:Prop} (f:F) (b:B) (h:F → Yh B → A:=by
 intro f Y0
 iterate 3 (any_goals ((with_reducible refine oG fun X Y=>?_); simp [go_sem,f]; apply Y; clear Y X))
 exact Y0.o):A:=h f ⟨b⟩
theorem g2z {A B:Prop} (b:B) (h:Yh B → A:=by
 intro Y0
 iterate 3 (any_goals (first
 | (with_reducible refine yM ?_)
 | ((with_reducible refine oG fun X Y=>?_); simp [go_sem]; apply Y; clear Y X)))
 exact Y0.o):A:=h ⟨b⟩
theorem Xb4 {A B F:Prop} (f:F) (b:B) (h:F → Yh B → A:=by
 intro f Y0
 iterate 4 (any_goals (first
 | (with_reducible ((refine a4z ?_); first|refine yL ?_|refine yN ?_))
 | ((with_reducible refine oG fun X Y=>?_); simp [go_sem,f]; (first|refine Y _ _ ?_|refine And.intro (by omega) (Y _ _ ?_)); clear Y X)))
 exact Y0.o):A:=h f ⟨b⟩
theorem Xb5 {A B F:Prop} (f:F) (b:B) (h:F → Yh B → A:=by
 intro f Y0
 iterate 5 (any_goals (first
 | (with_reducible ((refine a4z ?_); first|refine yL ?_|refine yM ?_))
 | ((with_reducible refine oG fun X Y=>?_); simp [go_sem,f]; (try simp (disch:=omega) only [a0o,a4r,a1v]); apply Y; clear Y X)))
 exact Y0.o):A:=h f ⟨b⟩
theorem g5v {A B:Prop} (b:B) (h:Yh B → A:=by
 intro Y0
 iterate 5 (any_goals (first
 | (with_reducible refine yM ?_)
 | ((with_reducible refine oG fun X Y=>?_); simp [go_sem]; apply Y; clear Y X)))
 exact Y0.o):A:=h ⟨b⟩
theorem Xb7 {A B F:Prop} (f:F) (b:B) (h:F → Yh B → A:=by
 intro f Y0
 iterate 7 (any_goals (first
 | (with_reducible refine yL ?_)
 | ((with_reducible refine oG fun X Y=>?_); simp [go_sem,f]; (try simp (disch:=omega) only [a0o,a4r,a1v]); apply Y; clear Y X)))
 exact Y0.o):A:=h f ⟨b⟩
theorem Xb8 {A B F:Prop} (f:F) (b:B) (h:F → Yh B → A:=by
 intro f Y0
 iterate 8 (any_goals (first
 | (with_reducible first|refine zC ?_|refine yC ?_|refine yM ?_)
 | ((with_reducible refine oG fun X Y=>?_); simp [go_sem,f]; apply Y; clear Y X)))
 exact Y0.o):A:=h f ⟨b⟩
theorem Xb9 {A B F:Prop} (f:F) (b:B) (h:F → Yh B → A:=by
 intro f Y0
 iterate 9 (any_goals (first
 | (with_reducible refine yM ?_)
 | ((with_reducible refine oG fun X Y=>?_); simp [go_sem,f]; apply Y; clear Y X)))
 exact Y0.o):A:=h f ⟨b⟩
theorem Xc {A B:Prop} {V:World} {G:WK} (g:(∀ w,Nx V w → G w)) (b:B) (h:(∀ w,Nx V w → G w) → Yh B → A:=by
 intro g Y0
 repeat (any_goals (first
 | (with_reducible first|refine pX ?_|((refine f6w ?_); refine c4d fun _=>?_)|((refine d1d ?_); first|refine zA ?_|refine zC ?_))
 | ((with_reducible refine f3y ?_); (with_reducible refine d3b ⟨_,rfl⟩ (fun W0 hW0=>by (refine oG (fun X Y=>?_)); simp [go_sem,g W0 hW0]; (first | exact Y _ _ ⟨rfl,rfl⟩ | exact ⟨by omega,Y _ _ ⟨rfl,rfl⟩⟩)) ?_))
 | ((with_reducible refine e1q ?_); first|(with_reducible refine vA ?_)|(with_reducible refine b5h ⟨_,rfl⟩ (fun W0 hW0=>by (refine oG (fun X Y=>?_)); simp [go_sem,g W0 hW0]; (first | exact Y _ _ ⟨rfl,rfl⟩ | exact ⟨by omega,Y _ _ ⟨rfl,rfl⟩⟩)) ?_))))
 exact Y0.o):A:=h g ⟨b⟩
theorem Xc0 {A B:Prop} (b:B) (h:Yh B → A:=by
 intro Y0
 repeat (any_goals (first
 | (with_reducible refine yO ?_)
 | ((with_reducible refine oG fun X Y=>?_); simp [go_sem]; (try simp (disch:=omega) only [a0o,a4r,a1v]); apply Y; clear Y X)))
 exact Y0.o):A:=h ⟨b⟩
theorem Xd {A B:Prop} {V:World} {G:WK} (g:(∀ w,Nx V w → G w)) (b:B) (h:(∀ w,Nx V w → G w) → Yh B → A:=by
 intro g Y0
 repeat (apply a1i; focus (intro w9 h9; (repeat (intro v9 e9; try (obtain rfl:=e9))); (repeat (any_goals (first
  | (with_reducible first|refine a4i ?_|((refine d1d ?_); first|refine zA ?_|refine zC ?_|refine zD ?_)|((refine b3q ?_); first|refine yB ?_|refine yC ?_))
  | ((with_reducible refine oG fun X Y=>?_); simp [go_sem,g w9 h9]; apply Y; clear Y X)))); exact ⟨h9,bR,rfl⟩))
 exact Y0.o):A:=h g ⟨b⟩
theorem Xd0 {A B:Prop} (b:B) (h:Yh B → A:=by
 intro Y0
 repeat (apply a1i; focus (intro w9 h9; (repeat (intro v9 e9; try (obtain rfl:=e9))); (repeat (any_goals (first
  | (with_reducible first|refine a4i ?_|((refine d1d ?_); first|refine zA ?_|refine zC ?_|refine zD ?_))
  | ((with_reducible refine oG fun X Y=>?_); simp [go_sem]; apply Y; clear Y X)))); exact ⟨h9,bR,rfl⟩))
 exact Y0.o):A:=h ⟨b⟩
theorem Xf {A B F:Prop} {V:World} {G:WK} (g:(∀ w,Nx V w → G w)) (f:F) (b:B) (h:(∀ w,Nx V w → G w) → F → Yh B → A:=by
 intro g f Y0
 repeat (any_goals (first
 | (with_reducible first|refine pX ?_|((refine f6w ?_); refine c4d fun _=>?_)|((refine d1d ?_); first|refine zA ?_|refine zB ?_|refine zC ?_|refine zD ?_))
 | ((with_reducible refine f3y ?_); (with_reducible refine d3b ⟨_,rfl⟩ (fun W0 hW0=>by (refine oG (fun X Y=>?_)); simp [go_sem,g W0 hW0,f]; (first | exact Y _ _ ⟨rfl,rfl⟩ | exact ⟨by omega,Y _ _ ⟨rfl,rfl⟩⟩)) ?_))
 | ((with_reducible refine e1q ?_); first|(with_reducible first|refine vA ?_|refine vB ?_)|(with_reducible refine b5h ⟨_,rfl⟩ (fun W0 hW0=>by (refine oG (fun X Y=>?_)); simp [go_sem,g W0 hW0,f]; (first | exact Y _ _ ⟨rfl,rfl⟩ | exact ⟨by omega,Y _ _ ⟨rfl,rfl⟩⟩)) ?_))))
 exact Y0.o):A:=h g f ⟨b⟩
theorem Xg {A B F:Prop} (f:F) (b:B) (h:F → Yh B → A:=by
 intro f Y0
 repeat (any_goals (first
 | (with_reducible first|refine a4i ?_|refine pureQ_in ?_|refine pX ?_|((refine idGdQ ?_); refine gdQ_conv fun _=>?_)|((refine f6w ?_); refine c4d fun _=>?_)|refine And.intro (Eq.refl (α:=World) _) ?_|refine b5g ?_|((refine d1d ?_); first|refine zB ?_|refine zC ?_|refine zD ?_|((refine b9s ?_); first|refine zI ?_|refine zJ ?_)|((refine e7v ?_); first|refine zO ?_|refine zP ?_|refine zQ (fun hg=>?_) fun hg=>?_))|((refine b3q ?_); first|refine yD ?_|refine yE ?_)|((refine a4z ?_); first|refine yL ?_|refine yN ?_|refine yO ?_|refine yP (fun hg=>?_) fun hg=>?_))
 | ((with_reducible refine f3y ?_); first|(with_reducible first|refine wA ?_|refine wB ?_|refine wE ?_|refine wF ?_|refine oQ_nil ?_)|((with_reducible refine e2i ?_ ?_); exact ⟨_,rfl⟩)|(with_reducible refine d3b ⟨_,rfl⟩ (fun W0 hW0=>by (refine oG (fun X Y=>?_)); simp [go_sem,f]; (first | exact Y _ _ ⟨rfl,rfl⟩ | exact ⟨by omega,Y _ _ ⟨rfl,rfl⟩⟩)) ?_))
 | ((with_reducible refine e1q ?_); first|(with_reducible refine vB ?_)|(with_reducible refine b5h ⟨_,rfl⟩ (fun W0 hW0=>by (refine oG (fun X Y=>?_)); simp [go_sem,f]; (first | exact Y _ _ ⟨rfl,rfl⟩ | exact ⟨by omega,Y _ _ ⟨rfl,rfl⟩⟩)) ?_))
 | ((with_reducible refine oG fun X Y=>?_); simp [go_sem,f]; (try simp (disch:=omega) only [a0o,a4r,a1v]); (first|refine Y _ _ ?_|refine And.intro (by omega) (Y _ _ ?_)); clear Y X)))
 exact Y0.o):A:=h f ⟨b⟩
theorem Xh {A B F:Prop} {V:World} {G:WK} (g:(∀ w,Nx V w → G w)) (f:F) (b:B) (h:(∀ w,Nx V w → G w) → F → Yh B → A:=by
 intro g f Y0
 repeat (apply a1i; focus (intro w9 h9; (repeat (intro v9 e9; try (obtain rfl:=e9))); (repeat (any_goals (first
  | (with_reducible first|refine a4i ?_|refine zC ?_)
  | ((with_reducible refine oG fun X Y=>?_); simp [go_sem,g w9 h9,f]; apply Y; clear Y X)))); exact ⟨h9,bR,rfl⟩))
 exact Y0.o):A:=h g f ⟨b⟩
end
end Go.Sh
namespace Go.Proofs
open Go Go.Sh Tryz
theorem nB {a b:Nat} (h:Nat.ble a b = true):a ≤ b:=Nat.le_of_ble_eq_true h
abbrev kL (t:TypeId) (x:Value):=oM prog (.load t (.tmp 0)) t [x]
abbrev kF (t:TypeId) (i:Nat) (x:Value):=oM prog (.fieldAddr t (.tmp 0) i) 0 [x]
abbrev kI (t:TypeId) (x y:Value):=oM prog (.indexAddr t (.tmp 0) (.tmp 1)) 0 [x,y]
abbrev kB (o:BinOp) (t r:TypeId) (x y:Value):=oM prog (.binOp o t (.tmp 0) (.tmp 1) t) r [x,y]
abbrev kC (o:BinOp) (t:TypeId) (c:Int) (r:TypeId) (x:Value):=oM prog (.binOp o t (.tmp 0) (.const (.int .i64 c)) t) r [x]
abbrev kP (a b c:Value):=oM prog (.pick (.tmp 0) (.tmp 1) (.tmp 2)) 4 [a,b,c]
abbrev kN (t:TypeId) (x:Value):=oM prog (.call (Call.mk (.builtin .len) #[(.tmp 0)] #[t])) 3 [x]
abbrev kE (i:Nat) (t:TypeId) (x:Value):=oM prog (.extract (.tmp 0) i) t [x]
abbrev kU (x:Value):=oM prog (.unOp .not 4 (.tmp 0)) 4 [x]
abbrev jL (t:TypeId) (x:Value):=oH prog (.load t (.tmp 0)) t [x]
abbrev jF (t:TypeId) (i:Nat) (x:Value):=oH prog (.fieldAddr t (.tmp 0) i) 0 [x]
abbrev jI (t:TypeId) (x y:Value):=oH prog (.indexAddr t (.tmp 0) (.tmp 1)) 0 [x,y]
abbrev jB (o:BinOp) (t r:TypeId) (x y:Value):=oH prog (.binOp o t (.tmp 0) (.tmp 1) t) r [x,y]
abbrev jC (o:BinOp) (t:TypeId) (c:Int) (r:TypeId) (x:Value):=oH prog (.binOp o t (.tmp 0) (.const (.int .i64 c)) t) r [x]
abbrev jP (a b c:Value):=oH prog (.pick (.tmp 0) (.tmp 1) (.tmp 2)) 4 [a,b,c]
abbrev jN (t:TypeId) (x:Value):=oH prog (.call (Call.mk (.builtin .len) #[(.tmp 0)] #[t])) 3 [x]
abbrev jE (i:Nat) (t:TypeId) (x:Value):=oH prog (.extract (.tmp 0) i) t [x]
abbrev jU (x:Value):=oH prog (.unOp .not 4 (.tmp 0)) 4 [x]
abbrev kS (t:TypeId) (a v:Value):=oM prog (.store t (.tmp 0) (.tmp 1)) 0 [a,v]
abbrev kA (t:TypeId):=oM prog (.alloc t) 0 []
abbrev gT (v:Value):=gdM (gd v true)
abbrev gF (v:Value):=gdM (gd v false)
abbrev jT (v:Value):=gdH (gd v true)
abbrev jG (v:Value):=gdH (gd v false)
abbrev kO (v:Value) (A B:World → Prop) (w:World):Prop:=a0v v (A w) (B w)
abbrev kQ (I:List Value) (F:(List Value → World → Prop) → (List Value → World → Nat) → List Value → Env → WK) (w:World):Prop:=e7m I w F
abbrev kH (F:WK → WK) (w:World):Prop:=e7n w F
abbrev kR (t:TypeId) (v:Value) (K:VK) (w:World):Prop:=∃ r,(do loadVar t (← asAddr v):Sem Value).run prog w = .ok r w ∧ K r w
abbrev kJ (J:List Value → World → Prop) (m:List Value → World → Nat) (l:List Value) (w0:World) (x:List Value) (w:World):Prop:=J x w ∧ m x w < m l w0
abbrev xK (C:World → Prop) (S:World → World → Prop) (R:VK) (w:World):VK:=fun v w1=>C w1 ∧ S w w1 ∧ R v w1
abbrev xR (S:World → World → Prop) (F:VK → Prop):Prop:=∃ R:VK,(∀ v w w1,S w w1 → R v w → R v w1) ∧ F R
def okZ (P:Program) (q:Nat → Md) (fn:Func) (n:Nat):Bool:=match fn.body with | some c=>a2g P q c && Nat.ble n fn.ntmps | none=>false
def coZ (P:Program) (q:Nat → Md) (fn:Func) (args:List Value) (K:VK) (w:World):Prop:=match fn.body with | some c=>b3y P q fn.ntmps c (a5j args) (g1x P fn.results.toList K) w | none=>False
theorem cZ (q:Nat → Md) {f:FuncId} {fn:Func} (hf:prog.funcs[f]? = some fn) {args:List Value} {K:VK} {w:World} {G:Prop} (h:G) (h1:okZ prog q fn args.length = true:=by kernel_rfl) (h2:G = coZ prog q fn args K w:=by kernel_rfl):a0a prog f args.toArray K w:=by
 unfold okZ at h1
 rw [h2] at h
 unfold coZ at h
 cases hb:fn.body with
 | none=>rw [hb] at h1; cases h1
 | some c=>
  rw [hb] at h h1
  simp only [Bool.and_eq_true] at h1
  exact c4a q hf hb (by simp) h1.1 (nB h1.2) h
def mz:List (Nat × Md) → Nat → Md
 | [],_=>0
 | (n,m) :: r,i=>bif Nat.beq i n then m else mz r i
def fz (a b c:Nat):Md:=.free (List.range a) ((List.range b).map (a + ·)) ((List.range c).map (a + b + ·))
end Go.Proofs
namespace Go.Sh
open Go Go.RowKit
variable {ds:List Deferred}
def b5i (os:Array Oper):Bool:=os.toList.all fun o=>match o.op with | .defer _=>false | _=>true
theorem b5j {os:Array Oper} (h:b5i os = true) {o:Oper} (ho:o ∈ os.toList):∀ c,o.op ≠ .defer c:=by
 intro c hc
 have:=List.all_eq_true.1 h o ho
 simp only [hc] at this
 cases this
def FnR (ro:Option Nat):Fence:={ Fence.wide with round:=ro }
section
variable {P:Program} {ro:Option Nat} {m:Nat}
theorem e8s {f:FuncId} {args:Array Value} {w:World} {R:Ending → WK} (h:Calls P f args w R) (k:Nat):CallsIn (FnR ro) k P f args w R:=callsIn_wide (n:=k).2 h
theorem f7f {row:String} {args:Array Value} {w:World} {R:VK} (h:Rows P row args w R) (k:Nat):RowsIn (FnR ro) k P row args w R:=fun c cs _=>by
 obtain ⟨v,w',r,s⟩:=h c cs
 exact ⟨v,w',r,(stepsIn_wide (P:=P)).2 s⟩
theorem g2u {Q:Act → WK} (h:LetsOut (fun ex a w=>ex = .normal ∧ Q a w)):False:=by
 obtain ⟨_,_,h,_⟩:=h
 cases h
theorem c9c {o:Oper} (hd:∀ c,o.op ≠ .defer c) {a:Act} {w:World} {K K':Act → WK} {Q:Act → WK} (hk:∀ a w,K a w → K' a w)
  (h:o.wp P a w K (fun ex a w=>ex = .normal ∧ Q a w) ∨ (o.asks P a w ∧ LetsOut (fun ex a w=>ex = .normal ∧ Q a w))):o.wpIn (FnR ro) m P a w K' (fun ex a w=>ex = .normal ∧ Q a w):=by
 rcases h with h | ⟨_,_,_,h,_⟩
 ·refine ⟨fun _ _=>trivial,?_⟩
  show o.uponIn _ _ _ _ _ _ ((o.semAt ro a.eval).run P w)
  rw [Oper.semAt_eq ro _ _ hd]
  unfold Oper.wp at h
  generalize (execOp a.eval o).run P w = r at *
  cases r with
  | halt x w'=>cases x <;> simp only [Oper.upon] at h <;> first | exact h.elim | (obtain ⟨h,_⟩:=h; cases h)
  | ok x w'=>
   cases x <;> simp only [Oper.upon] at h <;> first
    | exact hk _ _ h
    | exact h.elim
    | (refine ⟨fun h=>by simp [FnR,Fence.wide] at h,(e8s h _).mono (fun e w'' he=>?_)⟩; cases e <;> first | exact hk _ _ he | exact (g2u he).elim | (obtain ⟨he,_⟩:=he; cases he))
    | exact ⟨fun h=>by simp [FnR,Fence.wide] at h,(f7f h _).mono (fun _ _ he=>hk _ _ he)⟩
 ·cases h
theorem e2j {all:Array Oper} {Q:Act → WK}:∀ (l:List Oper) (a:Act) (w:World),(∀ o ∈ l,∀ c,o.op ≠ .defer c) → wpList P all (fun ex a w=>ex = .normal ∧ Q a w) l a w → wpListIn (FnR ro) m P all (fun ex a w=>ex = .normal ∧ Q a w) l a w
 | [],_,_,_,h=>h
 | o :: rest,a,w,hd,h=>by
  unfold wpList at h
  unfold wpListIn
  have ih:∀ (a:Act) (w:World),wpList P all (fun ex a w=>ex = .normal ∧ Q a w) rest a w → wpListIn (FnR ro) m P all (fun ex a w=>ex = .normal ∧ Q a w) rest a w:=fun a w=>e2j rest a w (fun o ho=>hd o (List.mem_cons_of_mem _ ho))
  split at h
  ·rename_i hw
   rw [if_pos hw]
   exact c9c (hd o (by simp)) ih h
  ·rename_i hw
   rw [if_neg hw]
   exact ⟨fun _ _=>trivial,ih _ _ h⟩
theorem f4c {all:Array Oper} {Q:Act → WK} {md:Region.Mode} (hd:∀ o ∈ all.toList,∀ c,o.op ≠ .defer c):∀ (n:Nat) (listed:Array Bool) (a:Act) (w:World),wpAny P md all (fun ex a w=>ex = .normal ∧ Q a w) n listed a w → wpAnyIn (FnR ro) m P md all (fun ex a w=>ex = .normal ∧ Q a w) n listed a w
 | 0,_,_,_,h=>h
 | n + 1,listed,a,w,h=>by
  refine ⟨h.1,fun i hi=>?_⟩
  have h2:=h.2 i hi
  have ih:∀ (a:Act) (w:World),wpAny P md all (fun ex a w=>ex = .normal ∧ Q a w) n (listed.setIfInBounds i true) a w → wpAnyIn (FnR ro) m P md all (fun ex a w=>ex = .normal ∧ Q a w) n (listed.setIfInBounds i true) a w:=fun a w=>f4c hd n (listed.setIfInBounds i true) a w
  unfold wpOp at h2
  unfold wpOpIn
  cases ho:all[i]? with
  | none=>rw [ho] at h2; exact ih _ _ h2
  | some o=>
   rw [ho] at h2
   have hm:o ∈ all.toList:=by
    obtain ⟨hlt,rfl⟩:=Array.getElem?_eq_some_iff.1 ho
    exact Array.getElem_mem_toList hlt
   dsimp only at h2 ⊢
   split at h2
   ·rename_i hw
    rw [if_pos hw]
    exact c9c (hd o hm) ih h2
   ·rename_i hw
    rw [if_neg hw]
    exact ⟨fun _ _=>trivial,ih _ _ h2⟩
theorem c7b (P:Program) (ro:Option Nat) (m:Nat):WpLike P b5i false (Code.wpIn (FnR ro) m P) where
 mono h hq:=wpIn_mono h hq
 skip:=wpIn_skip
 label:=wpIn_label
 exit:=wpIn_exit
 ret:=wpIn_ret
 seq:=wpIn_seq
 cond hc h1 h2:=wpIn_cond_split hc h1 h2
 block:=wpIn_block
 loop I μ h0 h:=wpIn_loop I μ h0 h
 scope h:=by cases h
 list hd h:=wpIn_region_list (e2j _ _ _ (fun o ho=>b5j hd ho) h)
 any hd hm h:=wpIn_region_any hm (f4c (fun o ho=>b5j hd ho) _ _ _ _ h)
end
end Go.Sh
namespace Go.Sh
open Go Go.RowKit
def d3c (n:Nat) (vs:Array Value):Nat → List Nat → Env → Env
 | _,[],e=>e
 | k,p :: ps,e=>d3c n vs (k + 1) ps (upd n e (some p) (vs.getD k undef))
theorem c7c {ds:List Deferred} {n:Nat}:∀ (ps:List Nat) (vs:Array Value) (k:Nat) (e:Env) (a:Act),Rel ds n e a → vs.size = k + ps.length →
  Rel ds n (d3c n vs k ps e) { a with tmps:=(ps.zip (vs.toList.drop k)).foldl (fun t (p,v)=>t.setIfInBounds p v) a.tmps }
 | [],_,_,_,_,h,_=>h
 | p :: ps,vs,k,e,a,h,hs=>by
  have hs':vs.size = k + (ps.length + 1):=by simpa using hs
  have hk:k < vs.toList.length:=by rw [Array.length_toList,hs']; omega
  rw [List.drop_eq_getElem_cons hk]
  have e1:vs.getD k undef = vs.toList[k]:=by
   have hk':k < vs.size:=by simpa using hk
   rw [Array.getD_eq_getD_getElem?,Array.getElem?_eq_getElem hk',Option.getD_some,Array.getElem_toList]
  have:=c7c ps vs (k + 1) _ _ (h.put (some p) (vs.getD k undef)) (by omega)
  rw [← e1]
  exact this
def rangeM (P:Program) (g:Value) (np:Nat) (w:World) (A:Array Value → (List Value → World → Prop) → WK) (Bd:Array Value → List Value → Env → (WK) → (WK) → WK)
  (Kd Kr:Nat → WK):Prop:=
 ∃ (gf:Nat) (lb:Array Value) (α:Type) (encs:α → Array Value) (Kp:World → WK) (S Sp:List α → Prop) (N:Nat),
  g = .func (.func gf) #[] lb ∧ b3l P gf = true ∧ SeqStopsK Fence.wide 9 P gf lb encs Kp S Sp N w ∧ (∀ x,(encs x).size = np) ∧
  (∀ {A B C:World},Kp A B → Kp B C → Kp A C) ∧ (∀ (W:World) (l:Nat) (o o':Obj),w.heap.size ≤ l → W.heap[l]? = some o → o.isCells = false → o.isWalk = false → Kp W (W.putObj l o')) ∧
  ∃ (I Ix:List α → WK) (M:α → List Value → World → Prop),OwnFrom w.heap.size I ∧ OwnFrom w.heap.size Ix ∧ (∀ x l,OwnFrom w.heap.size (fun (_:Unit) W=>M x l W)) ∧ I [] w ∧
  (∀ pre x W,I pre W → A (encs x) (fun l W1=>KeepsFrom w.heap.size W W1 ∧ Kp W W1 ∧ I pre W1 ∧ M x l W1) W) ∧
  (∀ pre x l u W,I pre W → M x l W → pre.length < N → Bd (encs x) l u (fun W2=>KeepsFrom w.heap.size W W2 ∧ Kp W W2 ∧ I (pre ++ [x]) W2) (fun W2=>KeepsFrom w.heap.size W W2 ∧ Ix (pre ++ [x]) W2) W) ∧
  (∀ D xs W,w.heap.size ≤ D → S xs → I xs W → W.heap[D]? = some (.deferred (some [])) → Kd D W) ∧
  (∀ D pre W,w.heap.size ≤ D → Sp pre → Ix pre W → W.heap[D]? = some (.deferred (some [])) → Kr D W)
def b0e:Code → Bool
 | .rangeFunc _ _ _ _=>true
 | .seq x y | .cond _ x y=>b0e x || b0e y
 | .block _ c | .loop c | .scope c=>b0e c
 | _=>false
def b3s (P:Program) (q:Nat → Md) (n:Nat):Code → List Nat → Env → (List Nat → Exit → Env → WK) → WK
 | .rangeFunc g ps assign body,D,e,K,w=>rangeM P (evE e g) ps.size w
   (fun vs k w=>b3y P q n assign (d3c n vs 0 ps.toList e) (fun ex e' w'=>match ex with | .normal=>k ((a9k assign).map e') w' | _=>False) w)
   (fun vs l u kn kr w=>b3y P q n body (over (d3c n vs 0 ps.toList e) (a9k assign) (mix (a9k assign) l u)) (fun ex _ w'=>match ex with | .normal=>kn w' | .ret=>kr w' | _=>False) w)
   (fun D0 w'=>K (D0 :: D) .normal e w') (fun D0 w'=>K (D0 :: D) .ret e w')
 | .seq x y,D,e,K,w=>
  match b0e x with
  | true=>b3s P q n x D e (fun D' ex e' w'=>match ex with | .normal=>b3s P q n y D' e' K w' | _=>K D' ex e' w') w
  | false=>
   match b0e y with
   | true=>
    match Nat.ble 2 (b0a x).1 with
    | false=>b3y P q n x e (fun ex e' w'=>match ex with | .normal=>b3s P q n y D e' K w' | _=>K D ex e' w') w
    | true=>a5z (fun M=>b3y P q n x e (fun ex e' w'=>match ex with | .normal=>M ((c6y x y).map e') w' | _=>K D ex e' w') w)
      (fun l u w=>b3s P q n y D (over e (a9k x) (mix (c6y x y) l u)) K w)
   | false=>b3y P q n (.seq x y) e (K D) w
 | .cond c x y,D,e,K,w=>
  match b0e x || b0e y with
  | true=>a0v (evE e c) (b3s P q n x D e K w) (b3s P q n y D e K w)
  | false=>b3y P q n (.cond c x y) e (K D) w
 | .block id c,D,e,K,w=>
  match b0e c with
  | true=>b3s P q n c D e (fun D' ex e' w'=>match ex with | .exit i=>bif Nat.beq i id then K D' .normal e' w' else K D' ex e' w' | _=>K D' ex e' w') w
  | false=>b3y P q n (.block id c) e (K D) w
 | .scope c,D,e,K,w=>
  match b0e c with
  | true=>False
  | false=>b3y P q n (.scope c) e (K D) w
 | c,D,e,K,w=>b3y P q n c e (K D) w
def a3k (P:Program) (q:Nat → Md):Code → Bool
 | .rangeFunc _ _ x y=>a2g P q x && a2g P q y && a4p b5i false x && a4p b5i false y
 | .seq x y | .cond _ x y=>a3k P q x && a3k P q y
 | .block _ c | .scope c=>a3k P q c
 | c=>a2g P q c
def b5x (D:Nat):Deferred:={ target:=.collected D,args:=#[] }
theorem b3t {P:Program} {q:Nat → Md}:∀ (c:Code),b0e c = false → a3k P q c = true → a2g P q c = true
 | .seq x y,hn,h=>by
  simp only [b0e,Bool.or_eq_false_iff] at hn
  simp only [a3k,bA] at h
  simp only [a2g,bA]
  exact ⟨b3t x hn.1 h.1,b3t y hn.2 h.2⟩
 | .cond _ x y,hn,h=>by
  simp only [b0e,Bool.or_eq_false_iff] at hn
  simp only [a3k,bA] at h
  simp only [a2g,bA]
  exact ⟨b3t x hn.1 h.1,b3t y hn.2 h.2⟩
 | .block _ c,hn,h=>b3t c hn h
 | .loop c,_,h=>h
 | .scope c,hn,h=>b3t c hn h
 | .rangeFunc _ _ _ _,hn,_=>by cases hn
 | .region _ _ _,_,h=>h
 | .skip,_,h | .label _,_,h | .exit _,_,h | .ret,_,h | .goto _,_,h | .refuse _,_,h=>h
theorem a2d {P:Program} {q:Nat → Md} {n:Nat} (c:Code) (hn:b0e c = false) (hq:a3k P q c = true) {D:List Nat} {e:Env} {a:Act} {K:List Nat → Exit → Env → WK} {w:World} (hr:Rel (D.map b5x) n e a) (h:b3y P q n c e (K D) w) :
  c.wpIn Fence.wide 10 P (fun ex a' w'=>∃ D' e',Rel (D'.map b5x) n e' a' ∧ K D' ex e' w') a w:=by
 refine wpIn_wide.2 (wp_mono (a8e c (b3t c hn hq) e a (K D) w hr h) ?_)
 rintro ex a' w' ⟨e',h1,_,h3⟩
 exact ⟨D,e',h1,h3⟩
theorem c9d {P:Program} {q:Nat → Md} {n:Nat} (c:Code):a3k P q c = true → ∀ (D:List Nat) (e:Env) (a:Act) (K:List Nat → Exit → Env → WK) (w:World),Rel (D.map b5x) n e a → b3s P q n c D e K w →
  c.wpIn Fence.wide 10 P (fun ex a' w'=>∃ D' e',Rel (D'.map b5x) n e' a' ∧ K D' ex e' w') a w:=by
 induction c with
 | rangeFunc g ps x y=>
  intro hq D e a K w hr h
  simp only [a3k,bA] at hq
  obtain ⟨⟨⟨hqx,hqy⟩,hox⟩,hoy⟩:=hq
  obtain ⟨gf,lb,α,encs,Kp,S,Sp,N,hg,hbd,hseq,hps,hKt,hKb,I,Ix,M,hI,hIx,hM,h0,hA,hB,hd,hs⟩:=h
  have hps0:∀ v,Rel [] n (d3c n (encs v) 0 ps.toList e) { tmps:=(ps.zip (encs v)).foldl (fun t (p,v)=>t.setIfInBounds p v) a.tmps,defers:=[] }:=fun v=>by
   have h1:Rel [] n e { a with defers:=[] }:=⟨hr.size,rfl,hr.get⟩
   have:=c7c ps.toList (encs v) 0 e _ h1 (by rw [hps]; simp)
   rw [List.drop_zero] at this
   rw [← Array.foldl_toList,Array.toList_zip]
   exact this
  refine wpIn_rangeFunc_ownH (F:=Fence.wide) rfl (by omega) (by rw [hr.eval]; exact hg) trivial (fun args w=>b0t hbd args w) hseq hKt hKb (Below.refl _ _) (fun x=>hps x) I (fun c pre W=>c = .ret ∧ Ix pre W) hI
   (fun c s A B row hs hg hr=>⟨hs.1,hIx s A B row hs.2 hg hr⟩) h0 (fun v a' W=>∃ e',Rel [] n e' a' ∧ AgreeE (a9k x) (d3c n (encs v) 0 ps.toList e) e' ∧ M v ((a9k x).map e') W)
   (fun v a' s A B row hs hg hr=>by obtain ⟨e',h1,h2,h3⟩:=hs; exact ⟨e',h1,h2,hM v _ () A B row h3 hg hr⟩) ?_ ?_ ?_ ?_
  ·intro l pre v W K' hi Y
   have:=a6t (ds:=[]) (c7b P (some l) (10 - 1 - 1)) x hqx hox _ _ _ W (hps0 v) (hA pre v W hi)
   refine wpIn_mono this ?_
   rintro ex a' w' ⟨e',h1,h2,h3⟩
   cases ex with
   | normal=>exact Y a' w' h3.1 h3.2.1 h3.2.2.1 ⟨e',h1,h2,h3.2.2.2⟩
   | _=>exact h3.elim
  ·rintro l pre v a' W _ _ hi ⟨e',h1,h2,h3⟩ hlen
   have hb:=hB pre v _ e' W hi h3 hlen
   dsimp only at hb
   rw [b0u,a8d h2] at hb
   have:=a6t (ds:=[]) (c7b P (some l) (10 - 1 - 1)) y hqy hoy _ _ _ W h1 hb
   refine wpIn_mono this ?_
   rintro ex a' w' ⟨e',h1,h2,h3⟩
   cases ex with
   | normal=>exact h3
   | ret=>exact ⟨h3.1,rfl,h3.2⟩
   | _=>exact h3.elim
  ·intro D0 xs W hD hS hi hk
   exact ⟨D0 :: D,e,⟨hr.size,by simp [hr.defers,b5x],hr.get⟩,hd D0 xs W hD hS hi hk⟩
  ·rintro D0 c pre W hD hS ⟨rfl,hi⟩ hk
   exact wpIn_ret ⟨D0 :: D,e,⟨hr.size,by simp [hr.defers,b5x],hr.get⟩,hs D0 pre W hD hS hi hk⟩
 | seq x y ihx ihy=>
  intro hq D e a K w hr h
  have hq0:=hq
  simp only [a3k,bA] at hq
  unfold b3s at h
  split at h
  ·refine wpIn_seq (wpIn_mono (ihx hq.1 D e a _ w hr h) ?_)
   rintro ex a' w' ⟨D',e',h1,h3⟩
   cases ex with
   | normal=>exact ihy hq.2 D' e' a' K w' h1 h3
   | _=>exact ⟨D',e',h1,h3⟩
  ·rename_i hx
   split at h
   ·rename_i hy
    split at h
    ·refine wpIn_seq (wpIn_wide.2 (wp_mono (a8e x (b3t x hx hq.1) e a _ w hr h) ?_))
     rintro ex a' w' ⟨e',h1,_,h3⟩
     cases ex with
     | normal=>exact ihy hq.2 D e' a' K w' h1 h3
     | _=>exact ⟨D,e',h1,h3⟩
    ·obtain ⟨M,h1,h2⟩:=h
     refine wpIn_seq (wpIn_wide.2 (wp_mono (a8e x (b3t x hx hq.1) e a _ w hr h1) ?_))
     rintro ex a' w' ⟨e',h1,ha,h3⟩
     cases ex with
     | normal=>
      have:=h2 _ e' w' h3
      dsimp only at this
      rw [b0u,a8d ha] at this
      exact ihy hq.2 D e' a' K w' h1 this
     | _=>exact ⟨D,e',h1,h3⟩
   ·rename_i hy
    exact a2d _ (by simp [b0e,hx,hy]) hq0 hr h
 | cond c x y ihx ihy=>
  intro hq D e a K w hr h
  have hq0:=hq
  simp only [a3k,bA] at hq
  unfold b3s at h
  split at h
  ·obtain ⟨t,hc,h1,h2⟩:=h
   exact wpIn_cond_split (t:=t) (by rw [hr.eval]; exact hc) (fun ht=>ihx hq.1 D e a K w hr (h1 ht)) (fun ht=>ihy hq.2 D e a K w hr (h2 ht))
  ·rename_i hx
   exact a2d _ (by simpa [b0e] using hx) hq0 hr h
 | block id c ih=>
  intro hq D e a K w hr h
  have hq0:=hq
  simp only [a3k] at hq
  unfold b3s at h
  split at h
  ·refine wpIn_block (wpIn_mono (ih hq D e a _ w hr h) ?_)
   rintro ex a' w' ⟨D',e',h1,hk⟩
   cases ex with
   | exit id'=>
    simp only [Exit.inBlock] at hk ⊢
    split
    ·rename_i he
     subst he
     have hb:Nat.beq id' id' = true:=by simp
     rw [hb] at hk
     exact ⟨D',e',h1,hk⟩
    ·rename_i he
     have hb:Nat.beq id' id = false:=by
      cases hx:Nat.beq id' id with
      | false=>rfl
      | true=>exact absurd (Nat.eq_of_beq_eq_true hx) he
     rw [hb] at hk
     exact ⟨D',e',h1,hk⟩
   | _=>exact ⟨D',e',h1,hk⟩
  ·rename_i hx
   exact a2d _ (by simpa [b0e] using hx) hq0 hr h
 | scope c ih=>
  intro hq D e a K w hr h
  have hq0:=hq
  unfold b3s at h
  split at h
  ·exact h.elim
  ·rename_i hx
   exact a2d _ (by simpa [b0e] using hx) hq0 hr h
 | loop c ih=>
  intro hq D e a K w hr h
  refine wpIn_wide.2 (wp_mono (a8e (.loop c) hq e a (K D) w hr h) ?_)
  rintro ex a' w' ⟨e',h1,_,h3⟩
  exact ⟨D,e',h1,h3⟩
 | skip=>exact fun hq D e a K w hr h=>a2d _ rfl hq hr h
 | label l=>exact fun hq D e a K w hr h=>a2d _ rfl hq hr h
 | exit id=>exact fun hq D e a K w hr h=>a2d _ rfl hq hr h
 | ret=>exact fun hq D e a K w hr h=>a2d _ rfl hq hr h
 | goto l=>exact fun hq D e a K w hr h=>a2d _ rfl hq hr h
 | refuse s=>exact fun hq D e a K w hr h=>a2d _ rfl hq hr h
 | region id os d=>exact fun hq D e a K w hr h=>a2d _ rfl hq hr h
def g5u (P:Program) (e:Env) (rs:List ResultVar) (K:VK):List Nat → WK
 | [],w=>f7t P e w rs (fun vs=>K (e1k vs) w)
 | D :: Ds,w=>w.heap[D]? = some (.deferred (some [])) ∧ g5u P e rs K Ds (w.putObj D (.deferred none))
def g7m (P:Program) (rs:List ResultVar) (K:VK) (D:List Nat) (ex:Exit) (e:Env) (w:World):Prop:=
 match ex with
 | .normal | .ret=>g5u P e rs K D w
 | _=>False
theorem b9k {P:Program} {fn:Func} {rs:List ResultVar} {K:VK} (hrs:fn.results = rs.toArray):∀ (D:List Nat) (a:Act) (w:World),g5u P (a9z a) rs K D w →
  LeavesInM Fence.wide 10 P fn a.tmps (fun e w'=>∃ v,e = .returned v ∧ K v w') (D.map b5x) .returning w
 | [],a,w,h=>by
  obtain ⟨v,hr,hk⟩:=b2f (K:=fun v=>K v w) rs fn hrs h
  exact ⟨v,hr,v,rfl,hk⟩
 | d :: D,a,w,h=>⟨by simp,.inl ⟨d,_,rfl,run_takeDeferred h.1,b9k hrs D a _ h.2⟩⟩
theorem b9u {P:Program} (q:Nat → Md) {f:FuncId} {fn:Func} {c:Code} {rs:List ResultVar} {args:List Value} {K:VK} {w:World}
  (hf:P.funcs[f]? = some fn) (hb:fn.body = some c) (hrs:fn.results = rs.toArray) (hq:a3k P q c = true) (hn:args.length ≤ fn.ntmps)
  (h:b3s P q fn.ntmps c [] (a5j args) (g7m P rs K) w):a0a P f args.toArray K w:=by
 have hr:Rel (([]:List Nat).map b5x) fn.ntmps (a5j args) { tmps:=args.toArray ++ Array.replicate (fn.ntmps - args.toArray.size) undef,defers:=[] }:=by
  refine ⟨by simp; omega,rfl,fun i=>?_⟩
  simp only [a5j,Array.getD_eq_getD_getElem?,List.getD_eq_getElem?_getD]
  by_cases hi:i < args.length
  ·rw [Array.getElem?_append_left (by simpa using hi)]
   simp
  ·rw [Array.getElem?_append_right (by simpa using hi)]
   have:args[i]? = none:=by simp; omega
   rw [this]
   simp only [Array.getElem?_replicate]
   split <;> rfl
 refine callsIn_wide.1 (callsIn_of_wp_marks (F:=Fence.wide) (n:=10) hf hb trivial (wpIn_mono (c9d c hq [] _ _ _ _ hr h) ?_))
 rintro ex a w' ⟨D,e',hr',hk⟩
 have he:a9z a = e':=funext hr'.get
 subst he
 cases ex <;> first
  | exact hk.elim
  | (show LeavesInM _ _ _ _ _ _ _ _ _; rw [hr'.defers]; exact b9k hrs D a w' hk)
def e2k (P:Program) (f:Value) (args:List Value) (K:VK) (w:World):Prop:=
 ∃ l,f = .func (.yield l) #[] #[] ∧ YieldAt Fence.wide 8 P l args.toArray w (fun e w'=>∃ v,e = .returned v ∧ K v w')
def e2l:Op → Option (Tmp × List Operand)
 | .call { callee:=.value f,args:=args,argTypes:=_ }=>match f with
  | .tmp t=>some (t,args.toList)
  | _=>none
 | _=>none
def opY (P:Program) (e:Env) (o:Oper) (K:VK) (w:World):Prop:=
 match e2l o.op with
 | some (t,xs)=>e2k P (e t) (xs.map (evE e)) K w
 | none=>op1 P e o K w
def g2v (P:Program) (n:Nat) (K:Env → WK):List Oper → Env → WK
 | [],e,w=>K e w
 | o :: rest,e,w=>
  match o.guard with
  | none=>opY P e o (fun v w'=>g2v P n K rest (upd n e o.dst v) w') w
  | some _=>False
def b2k (P:Program) (n:Nat):Code → Env → (Exit → Env → WK) → WK
 | .skip,e,K,w=>K .normal e w
 | .region _ os draw,e,K,w=>
  match draw with
  | false=>g2v P n (K .normal) os.toList e w
  | true=>False
 | .seq x y,e,K,w=>
  match Nat.ble 2 (b0a x).1 with
  | false=>b2k P n x e (fun ex e' w'=>match ex with | .normal=>b2k P n y e' K w' | _=>K ex e' w') w
  | true=>a5z (fun M=>b2k P n x e (fun ex e' w'=>match ex with | .normal=>M ((c6y x y).map e') w' | _=>K ex e' w') w)
    (fun l u w=>b2k P n y (over e (a9k x) (mix (c6y x y) l u)) K w)
 | .cond c x y,e,K,w=>a0v (evE e c) (b2k P n x e K w) (b2k P n y e K w)
 | .block id c,e,K,w=>b2k P n c e (fun ex e' w'=>match ex with | .exit i=>bif Nat.beq i id then K .normal e' w' else K ex e' w' | _=>K ex e' w') w
 | .loop c,e,K,w=>e7m ((vars c).map e) w (fun J μ l u w=>b2k P n c (over e (a9k c) (mix (vars c) l u)) (fun ex e' w'=>match ex with | .normal=>J ((vars c).map e') w' ∧ μ ((vars c).map e') w' < μ l w | _=>K ex e' w') w)
 | .exit id,e,K,w=>K (.exit id) e w
 | .ret,e,K,w=>K .ret e w
 | .label _,e,K,w=>K .normal e w
 | _,_,_,_=>False
variable {ds:List Deferred}
theorem g2w {P:Program} {n m:Nat} {e:Env} {a:Act} {o:Oper} (hr:Rel ds n e a) (hd:∀ c,o.op ≠ .defer c) {K:VK} {K':Act → WK} {Q:Act → WK} {w:World} (h:opY P e o K w) (hk:∀ v w',K v w' → K' (a.put o.dst v) w') :
  o.wpIn Fence.wide (9 + m) P a w K' (fun ex a w=>ex = .normal ∧ Q a w):=by
 unfold opY at h
 split at h
 ·rename_i f xs hy
  unfold e2l at hy
  split at hy
  ·rename_i g args ts hop
   cases g with
   | tmp t=>
    simp only [Option.some.injEq,Prod.mk.injEq] at hy
    obtain ⟨rfl,rfl⟩:=hy
    obtain ⟨l,hl,fn,tmps,assign,body,hrun,hround⟩:=h
    refine ⟨fun _ _=>trivial,?_⟩
    have he:(execOp a.eval o).run P w = .ok (.round l fn tmps assign body) w:=by
     unfold execOp
     rw [hop,hr.eval]
     show (do let d ← resolve (evE e) { callee:=.value (.tmp t),args:=args,argTypes:=ts } o.type; invoke d.target d.args:Sem Next).run P w = _
     have e2:(do let d ← resolve (evE e) { callee:=.value (.tmp t),args:=args,argTypes:=ts } o.type; invoke d.target d.args:Sem Next) = Instr.yield l (args.map (evE e)):=by
      unfold resolve
      have hl':evE e (.tmp t) = .func (.yield l) #[] #[]:=hl
      simp only [hl',Deferred.ofValue,pure_bind,invoke,Array.empty_append,Array.append_empty]
     rw [e2]
     have e3:(args.toList.map (evE e)).toArray = args.map (evE e):=by
      apply Array.ext'
      rw [Array.toList_map]
     rw [← e3]
     exact hrun
    show o.uponIn _ _ _ _ _ _ ((o.semAt none a.eval).run P w)
    rw [Oper.semAt_none,he]
    refine ⟨fun h=>by simp [Fence.wide] at h,?_⟩
    have hround:RoundIn Fence.wide (9 + m - 1) P l fn tmps assign body w (fun e w'=>∃ v,e = .returned v ∧ K v w'):=⟨hround.1,fun c cs _=>hround.2 c cs (room_wide _)⟩
    refine hround.mono ?_
    rintro e w'' ⟨v,rfl,hv⟩
    exact hk v w'' hv
   | _=>cases hy
  ·cases hy
 ·have h1:o.wp P a w K' (fun ex a w=>ex = .normal ∧ Q a w):=f3s (by rw [hr.eval]; exact b3k (b8y h) hk)
  exact c9c (ro:=none) hd (fun _ _ h=>h) (.inl h1)
theorem a3f {F:Fence} {n:Nat} {P:Program} {all:Array Oper} {Q Q':Exit → Act → WK}:∀ (l:List Oper) (a:Act) (w:World),wpListIn F n P all Q l a w → (∀ e a w,Q e a w → Q' e a w) → wpListIn F n P all Q' l a w
 | [],a,w,h,hq=>hq _ _ _ h
 | o :: rest,a,w,h,hq=>by
  unfold wpListIn at h ⊢
  split at h
  ·rename_i hw
   rw [if_pos hw]
   refine ⟨h.1,?_⟩
   have h2:=h.2
   generalize (o.semAt F.round a.eval).run P w = r at *
   cases r with
   | halt x w'=>cases x <;> simp only [Oper.uponIn] at h2 ⊢ <;> first | exact h2 | exact hq _ _ _ h2
   | ok x w'=>
    cases x <;> simp only [Oper.uponIn] at h2 ⊢ <;> first
     | exact a3f rest _ _ h2 hq
     | exact h2
     | exact ⟨h2.1,CallsIn.mono h2.2 (fun e w'' he=>by cases e <;> first | exact a3f rest _ _ he hq | exact hq _ _ _ he | exact (let ⟨a,w,x⟩:=he; ⟨a,w,hq _ _ _ x⟩))⟩
     | exact ⟨h2.1,RowsIn.mono h2.2 (fun _ _ he=>a3f rest _ _ he hq)⟩
     | exact ⟨h2.1,RoundIn.mono h2.2 (fun e w'' he=>by cases e <;> first | exact a3f rest _ _ he hq | exact hq _ _ _ he | exact (let ⟨a,w,x⟩:=he; ⟨a,w,hq _ _ _ x⟩))⟩
  ·rename_i hw
   rw [if_neg hw]
   exact ⟨h.1,a3f rest _ _ h.2 hq⟩
theorem e2m {P:Program} {n m:Nat} {all:Array Oper} {mods:List Nat} {K:Env → WK}:∀ (l:List Oper) (e:Env) (a:Act) (w:World),Rel ds n e a → (∀ o ∈ l,∀ c,o.op ≠ .defer c) →
  (∀ o ∈ l,∀ d,o.dst = some d → d ∈ mods) → g2v P n K l e w →
  wpListIn Fence.wide (9 + m) P all (fun ex a' w'=>ex = .normal ∧ ∃ e',Rel ds n e' a' ∧ AgreeE mods e e' ∧ K e' w') l a w
 | [],e,a,w,hr,_,_,h=>⟨rfl,e,hr,AgreeE.refl _ _,h⟩
 | o :: rest,e,a,w,hr,hd,hm,h=>by
  have hp:=fun v=>AgreeE.upd (n:=n) (e:=e) (o:=o.dst) v (hm o List.mem_cons_self)
  unfold g2v at h; unfold wpListIn
  cases hg:o.guard with
  | some g=>rw [hg] at h; exact h.elim
  | none=>
   rw [hg] at h
   rw [if_pos (by simp [Region.wanted,hg])]
   refine g2w hr (hd o (by simp)) h (fun v w' h=>?_)
   have:=e2m rest _ _ w' (hr.put o.dst v) (fun o ho=>hd o (List.mem_cons_of_mem _ ho)) (fun o ho=>hm o (List.mem_cons_of_mem _ ho)) h (all:=all) (m:=m)
   refine a3f rest _ _ this ?_
   rintro ex a' w' ⟨h0,e',h1,h2,h3⟩
   exact ⟨h0,e',h1,(hp v).trans h2,h3⟩
theorem c9e {P:Program} {n m:Nat} (c:Code) (hok:a4p b5i false c = true):∀ (e:Env) (a:Act) (K:Exit → Env → WK) (w:World),Rel ds n e a → b2k P n c e K w →
  c.wpIn Fence.wide (9 + m) P (fun ex a' w'=>∃ e',Rel ds n e' a' ∧ AgreeE (a9k c) e e' ∧ K ex e' w') a w:=by
 induction c with
 | skip=>exact fun e a K w hr h=>wpIn_skip ⟨e,hr,AgreeE.refl _ _,h⟩
 | label l=>exact fun e a K w hr h=>wpIn_label ⟨e,hr,AgreeE.refl _ _,h⟩
 | exit id=>exact fun e a K w hr h=>wpIn_exit ⟨e,hr,AgreeE.refl _ _,h⟩
 | ret=>exact fun e a K w hr h=>wpIn_ret ⟨e,hr,AgreeE.refl _ _,h⟩
 | goto l=>exact fun e a K w hr h=>h.elim
 | rangeFunc f ps xs c=>exact fun e a K w hr h=>h.elim
 | refuse s=>exact fun e a K w hr h=>h.elim
 | region id os d=>
  intro e a K w hr h
  cases d with
  | false=>
   have h:g2v P n (K .normal) os.toList e w:=h
   refine wpIn_mono (wpIn_region_list (e2m os.toList e a w hr (fun o ho=>b5j hok ho) (mods:=os.toList.filterMap (·.dst)) (fun o ho d hd=>by simp only [List.mem_filterMap]; exact ⟨o,ho,hd⟩) h)) ?_
   rintro ex a' w' ⟨rfl,e',h1,h2,h3⟩
   exact ⟨e',h1,h2,h3⟩
  | true=>exact h.elim
 | seq x y ihx ihy=>
  intro e a K w hr h
  simp only [a4p,bA] at hok
  have h:∃ M:Env → WK,b2k P n x e (fun ex e' w'=>match ex with | .normal=>M e' w' | _=>K ex e' w') w ∧
    ∀ (e':Env) (w:World),AgreeE (a9k x) e e' → M e' w → b2k P n y e' K w:=by
   unfold b2k at h
   split at h
   ·exact ⟨_,h,fun _ _ _ h=>h⟩
   ·obtain ⟨M,h1,h2⟩:=h
    refine ⟨fun e' w'=>M ((c6y x y).map e') w',h1,fun e' w' ha hm=>?_⟩
    have:=h2 _ e' w' hm
    dsimp only at this
    rwa [b0u,a8d ha] at this
  obtain ⟨M,h,hM⟩:=h
  refine wpIn_seq (wpIn_mono (ihx hok.1 _ _ _ _ hr h) ?_)
  rintro ex a' w' ⟨e',hr',ha,hk⟩
  have ha':AgreeE (a9k (.seq x y)) e e':=ha.mono (fun i hi=>by simp only [a9k,List.mem_append]; exact .inl hi)
  cases ex with
  | normal=>
   have hk:=hM e' w' ha hk
   refine wpIn_mono (ihy hok.2 _ _ _ _ hr' hk) ?_
   rintro ex a'' w'' ⟨e'',hr'',hb,hk⟩
   exact ⟨e'',hr'',ha'.trans (hb.mono (fun i hi=>by simp only [a9k,List.mem_append]; exact .inr hi)),hk⟩
  | _=>exact ⟨e',hr',ha',hk⟩
 | cond c x y ihx ihy=>
  intro e a K w hr h
  simp only [a4p,bA] at hok
  obtain ⟨t,hc,ht,hf⟩:=h
  have hc:a.eval c = .bool t:=by rw [hr.eval]; exact hc
  refine wpIn_cond_split hc (fun e1=>wpIn_mono (ihx hok.1 _ _ _ _ hr (ht e1)) ?_) (fun e1=>wpIn_mono (ihy hok.2 _ _ _ _ hr (hf e1)) ?_)
  ·rintro ex a' w' ⟨e',hr',ha,hk⟩
   exact ⟨e',hr',ha.mono (fun i hi=>by simp only [a9k,List.mem_append]; exact .inl hi),hk⟩
  ·rintro ex a' w' ⟨e',hr',ha,hk⟩
   exact ⟨e',hr',ha.mono (fun i hi=>by simp only [a9k,List.mem_append]; exact .inr hi),hk⟩
 | block id c ih=>
  intro e a K w hr h
  refine wpIn_block (wpIn_mono (ih hok _ _ _ _ hr h) ?_)
  rintro ex a' w' ⟨e',hr',ha,hk⟩
  have ha:AgreeE (a9k (.block id c)) e e':=ha
  cases ex with
  | exit id'=>
   simp only [Exit.inBlock] at hk ⊢
   split
   ·rename_i he
    subst he
    have hb:Nat.beq id' id' = true:=by simp
    rw [hb] at hk
    exact ⟨e',hr',ha,hk⟩
   ·rename_i he
    have hb:Nat.beq id' id = false:=by
     cases hx:Nat.beq id' id with
     | false=>rfl
     | true=>exact absurd (Nat.eq_of_beq_eq_true hx) he
    rw [hb] at hk
    exact ⟨e',hr',ha,hk⟩
  | _=>exact ⟨e',hr',ha,hk⟩
 | loop c ih=>
  intro e a K w hr h
  obtain ⟨J,μ,h0,hstep⟩:=h
  refine wpIn_loop (fun a' w'=>∃ e',Rel ds n e' a' ∧ AgreeE (a9k c) e e' ∧ J ((vars c).map e') w') (fun a' w'=>μ ((vars c).map (a9z a')) w') ⟨e,hr,AgreeE.refl _ _,h0⟩ ?_
  rintro a' w' ⟨e',hr',ha,hJ⟩
  have hs:=hstep _ e' w' hJ
  dsimp only at hs
  rw [b0u,a8d ha] at hs
  have he:a9z a' = e':=funext hr'.get
  refine wpIn_mono (ih hok _ _ _ _ hr' hs) ?_
  rintro ex a'' w'' ⟨e'',hr'',hb,hk⟩
  cases ex with
  | normal=>
   have he':a9z a'' = e'':=funext hr''.get
   refine ⟨⟨e'',hr'',ha.trans hb,hk.1⟩,?_⟩
   show μ ((vars c).map (a9z a'')) w'' < μ ((vars c).map (a9z a')) w'
   rw [he,he']
   exact hk.2
  | _=>exact ⟨e'',hr'',ha.trans hb,hk⟩
 | scope c ih=>exact fun e a K w hr h=>h.elim
theorem b1j {P:Program} {f:FuncId} {fn:Func} {c:Code} {rs:List ResultVar} {args:List Value} {K:VK} {w:World} {m:Nat}
  (hf:P.funcs[f]? = some fn) (hb:fn.body = some c) (hrs:fn.results = rs.toArray) (hok:a4p b5i false c = true) (hn:args.length ≤ fn.ntmps)
  (h:b2k P fn.ntmps c (a5j args) (g1x P rs K) w):CallsIn Fence.wide (9 + m) P f args.toArray w (fun e w'=>∃ v,e = .returned v ∧ K v w'):=by
 have hr:Rel [] fn.ntmps (a5j args) { tmps:=args.toArray ++ Array.replicate (fn.ntmps - args.toArray.size) undef,defers:=[] }:=by
  refine ⟨by simp; omega,rfl,fun i=>?_⟩
  simp only [a5j,Array.getD_eq_getD_getElem?,List.getD_eq_getElem?_getD]
  by_cases hi:i < args.length
  ·rw [Array.getElem?_append_left (by simpa using hi)]
   simp
  ·rw [Array.getElem?_append_right (by simpa using hi)]
   have:args[i]? = none:=by simp; omega
   rw [this]
   simp only [Array.getElem?_replicate]
   split <;> rfl
 refine callsIn_of_wp hf hb trivial (wpIn_mono (c9e c hok _ _ _ _ hr h) ?_)
 rintro ex a w' ⟨e',hr',ha,hk⟩
 have he:a9z a = e':=funext hr'.get
 subst he
 cases ex <;> first
  | exact hk.elim
  | (obtain ⟨v,hr,hk⟩:=b2f (K:=fun v=>K v w') rs fn hrs hk
     exact ⟨hr'.defers,v,hr,v,rfl,hk⟩)
end Go.Sh
namespace Go.Proofs
open Go Go.Sh Tryz
def okF (P:Program) (q:Nat → Md) (fn:Func) (n:Nat):Bool:=match fn.body with | some c=>a3k P q c && Nat.ble n fn.ntmps | none=>false
def coF (P:Program) (q:Nat → Md) (fn:Func) (args:List Value) (K:VK) (w:World):Prop:=match fn.body with | some c=>b3s P q fn.ntmps c [] (a5j args) (g7m P fn.results.toList K) w | none=>False
theorem cF (q:Nat → Md) {f:FuncId} {fn:Func} (hf:prog.funcs[f]? = some fn) {args:List Value} {K:VK} {w:World} {G:Prop} (h:G) (h1:okF prog q fn args.length = true:=by kernel_rfl) (h2:G = coF prog q fn args K w:=by kernel_rfl):a0a prog f args.toArray K w:=by
 unfold okF at h1
 rw [h2] at h
 unfold coF at h
 cases hb:fn.body with
 | none=>rw [hb] at h1; cases h1
 | some c=>
  rw [hb] at h h1
  simp only [Bool.and_eq_true] at h1
  exact b9u q hf hb (by simp) h1.1 (nB h1.2) h
end Go.Proofs
namespace Go.Proofs
open Go.Sh Tryz
variable {a0 a1 a2:Value} {K:VK} {w:World}
def e9m (a0:Value) (K:VK) (w:World):Prop:=
 kB .geq 3 4 a0 (.int .i64 1) (fun v4 w=>
 gT v4 (a0j a0) (fun v6 w=>
 gT v4 (kB .lss 3 4 v6 (.int .i64 2305843009213693952)) (fun v7=>
 kP v4 v7 (.bool false) fun v8=>
 K v8) w) w) w
theorem d4z (h:e9m a0 K w):a0a prog 123 #[a0] K w:=
 cZ (fun _=>0) func123 h
def e9n (a0 a1:Value) (K:VK) (w:World):Prop:=
 kB .rem 3 3 a1 a0 (fun v8=>
 kB .lss 3 4 v8 (.int .i64 0) fun v10=>
 kO v10 (kB .add 3 3 v8 a0 fun v13=>
 oM prog (.convert 3 150 (.tmp 0)) 150 [v13] fun v14=>
 K v14)
 (oM prog (.convert 3 150 (.tmp 0)) 150 [v8] fun v16=>
 K v16)) w
theorem d5a (h:e9n a0 a1 K w):a0a prog 124 #[a0,a1] K w:=
 cZ (fun _=>0) func124 h
def e9o (a0 a1:Value) (K:VK) (w:World):Prop:=
 kB .and 150 150 a0 (.int .u64 4294967295) (fun v15=>
 oM prog (.binOp .shr 150 (.tmp 0) (.tmp 1) 191) 150 [a0,(.int .u64 32)] fun v17=>
 kB .and 150 150 a1 (.int .u64 4294967295) fun v19=>
 oM prog (.binOp .shr 150 (.tmp 0) (.tmp 1) 191) 150 [a1,(.int .u64 32)] fun v21=>
 kB .mul 150 150 v15 v19 fun v24=>
 kB .mul 150 150 v17 v19 fun v27=>
 oM prog (.binOp .shr 150 (.tmp 0) (.tmp 1) 191) 150 [v24,(.int .u64 32)] fun v29=>
 kB .add 150 150 v27 v29 fun v30=>
 kB .and 150 150 v30 (.int .u64 4294967295) fun v32=>
 oM prog (.binOp .shr 150 (.tmp 0) (.tmp 1) 191) 150 [v30,(.int .u64 32)] fun v34=>
 kB .mul 150 150 v15 v21 fun v38=>
 kB .add 150 150 v32 v38 fun v39=>
 kB .mul 150 150 v17 v21 fun v42=>
 kB .add 150 150 v42 v34 fun v44=>
 oM prog (.binOp .shr 150 (.tmp 0) (.tmp 1) 191) 150 [v39,(.int .u64 32)] fun v46=>
 kB .add 150 150 v44 v46 fun v47=>
 kB .mul 150 150 a0 a1 fun v50=>
 K (.tuple #[v47,v50])) w
theorem d5b (h:e9o a0 a1 K w):a0a prog 182 #[a0,a1] K w:=
 cZ (fun _=>0) func182 h
def e9p (a0:Value) (K:VK) (w:World):Prop:=
 a5z (fun M_1=>(kB .geq 150 4 a0 (.int .u64 4294967296) (fun v4=>
 kO v4 (oM prog (.binOp .shr 150 (.tmp 0) (.tmp 1) 191) 150 [a0,(.int .u64 32)] fun v6=>
 M_1 [v6,(.int .i64 32)])
 (M_1 [a0,(.int .i64 0)])) w))
 fun l_2 u_l_2 w=>(a5z (fun M_5=>(kB .geq 150 4 (l_2.getD 0 undef) (.int .u64 65536) (fun v8=>
 kO v8 (oM prog (.binOp .shr 150 (.tmp 0) (.tmp 1) 191) 150 [(l_2.getD 0 undef),(.int .u64 16)] fun v10=>
 kB .add 3 3 (l_2.getD 1 undef) (.int .i64 16) fun v12=>
 M_5 [v10,v12])
 (M_5 [(l_2.getD 0 undef),(l_2.getD 1 undef)])) w))
 fun l_6 u_l_6 w=>(a5z (fun M_10=>(kB .geq 150 4 (l_6.getD 0 undef) (.int .u64 256) (fun v14=>
 kO v14 (oM prog (.binOp .shr 150 (.tmp 0) (.tmp 1) 191) 150 [(l_6.getD 0 undef),(.int .u64 8)] fun v16=>
 kB .add 3 3 (l_6.getD 1 undef) (.int .i64 8) fun v18=>
 M_10 [v16,v18])
 (M_10 [(l_6.getD 0 undef),(l_6.getD 1 undef)])) w))
 fun l_11 u_l_11 w=>(oM prog (.convert 150 5 (.tmp 0)) 5 [(l_11.getD 0 undef)] (fun v21=>
 oM prog (.index 9 (.tmp 0) (.tmp 1)) 5 [(.string ⟨#[0,1,2,2,3,3,3,3,4,4,4,4,4,4,4,4,5,5,5,5,5,5,5,5,5,5,5,5,5,5,5,5,6,6,6,6,6,6,6,6,6,6,6,6,6,6,6,6,6,6,6,6,6,6,6,6,6,6,6,6,6,6,6,6,7,7,7,7,7,7,7,7,7,7,7,7,7,7,7,7,7,7,7,7,7,7,7,7,7,7,7,7,7,7,7,7,7,7,7,7,7,7,7,7,7,7,7,7,7,7,7,7,7,7,7,7,7,7,7,7,7,7,7,7,7,7,7,7,8,8,8,8,8,8,8,8,8,8,8,8,8,8,8,8,8,8,8,8,8,8,8,8,8,8,8,8,8,8,8,8,8,8,8,8,8,8,8,8,8,8,8,8,8,8,8,8,8,8,8,8,8,8,8,8,8,8,8,8,8,8,8,8,8,8,8,8,8,8,8,8,8,8,8,8,8,8,8,8,8,8,8,8,8,8,8,8,8,8,8,8,8,8,8,8,8,8,8,8,8,8,8,8,8,8,8,8,8,8,8,8,8,8,8,8,8,8,8,8,8,8,8,8,8,8,8,8]⟩),v21] fun v22=>
 oM prog (.convert 5 3 (.tmp 0)) 3 [v22] fun v23=>
 kB .add 3 3 (l_11.getD 1 undef) v23 fun v24=>
 K v24) w)))
theorem d5c (h:e9p a0 K w):a0a prog 236 #[a0] K w:=
 cZ (fun _=>0) func236 h
def e9q (a0:Value) (K:VK) (w:World):Prop:=
 a0a prog 236 #[a0] (fun v4=>
 kB .sub 3 3 (.int .i64 64) v4 fun v5=>
 K v5) w
theorem d5d (h:e9q a0 K w):a0a prog 222 #[a0] K w:=
 cZ (fun _=>0) func222 h
def e9r (a0 a1 a2:Value) (K:VK) (w:World):Prop:=
 a5z (fun M_1=>(oM prog (.binOp .eql 150 (.tmp 0) (.const (.int .u64 0)) 150) 4 [a2] (fun v20=>
 kO v20 (kL 215 (.pointer (some ⟨0,0,none⟩)) fun v21=>
 oM prog (.panic (.tmp 0)) 0 [v21] fun _=>
 M_1 [])
 (M_1 [])) w))
 fun l_2 u_l_2 w=>(a5z (fun M_5=>(kB .leq 150 4 a2 a0 (fun v24=>
 kO v24 (kL 215 (.pointer (some ⟨1,0,none⟩)) fun v25=>
 oM prog (.panic (.tmp 0)) 0 [v25] fun _=>
 M_5 [])
 (M_5 [])) w))
 fun l_6 u_l_6 w=>(oM prog (.binOp .eql 150 (.tmp 0) (.const (.int .u64 0)) 150) 4 [a0] (fun v27 w=>
 a0v v27
 (a4o w fun C_10=>(oQ prog (.binOp .quo 150 (.tmp 0) (.tmp 1) 150) 150 [a1,a2] C_10 fun v30=>
 oQ prog (.binOp .rem 150 (.tmp 0) (.tmp 1) 150) 150 [a1,a2] C_10 fun v33=>
 ∀ w,C_10 w → (K (.tuple #[v30,v33]) w)))
 (a0a prog 222 #[a2] (fun v35=>
 oM prog (.convert 3 191 (.tmp 0)) 191 [v35] fun v36=>
 oM prog (.binOp .shl 150 (.tmp 0) (.tmp 1) 191) 150 [a2,v36] fun v39=>
 oM prog (.binOp .shr 150 (.tmp 0) (.tmp 1) 191) 150 [v39,(.int .u64 32)] fun v41=>
 kB .and 150 150 v39 (.int .u64 4294967295) fun v43=>
 oM prog (.binOp .shl 150 (.tmp 0) (.tmp 1) 191) 150 [a0,v36] fun v46=>
 kB .sub 191 191 (.int .u64 64) v36 fun v49=>
 oM prog (.binOp .shr 150 (.tmp 0) (.tmp 1) 191) 150 [a1,v49] fun v50=>
 kB .or 150 150 v46 v50 fun v51=>
 oM prog (.binOp .shl 150 (.tmp 0) (.tmp 1) 191) 150 [a1,v36] fun v54=>
 oM prog (.binOp .shr 150 (.tmp 0) (.tmp 1) 191) 150 [v54,(.int .u64 32)] fun v56=>
 kB .and 150 150 v54 (.int .u64 4294967295) fun v58=>
 kB .quo 150 150 v51 v41 fun v61=>
 kB .mul 150 150 v61 v41 fun v65=>
 kB .sub 150 150 v51 v65 fun v66 w=>
 a5z (fun M_28=>(kQ [v61,v66] (fun J_30 m_31 l_32 u_l_32 w0_l_32=>(fun w=>(
 kB .geq 150 4 (l_32.getD 0 undef) (.int .u64 4294967296) (fun v68 w=>
 gF v68 (a0j (l_32.getD 0 undef)) (fun v70 w=>
 gF v68 (a0j v43) (fun v71 w=>
 gF v68 (kB .mul 150 150 v70 v71) (fun v72 w=>
 gF v68 (a0j (l_32.getD 1 undef)) (fun v73 w=>
 gF v68 (kB .mul 150 150 (.int .u64 4294967296) v73) (fun v74 w=>
 gF v68 (a0j v56) (fun v75 w=>
 gF v68 (kB .add 150 150 v74 v75) (fun v76 w=>
 gF v68 (kB .gtr 150 4 v72 v76) (fun v77=>
 kP v68 (.bool true) v77 fun v78=>
 kO v78 (kB .sub 150 150 (l_32.getD 0 undef) (.int .u64 1) fun v80=>
 kB .add 150 150 (l_32.getD 1 undef) v41 fun v83=>
 kB .geq 150 4 v83 (.int .u64 4294967296) fun v85=>
 kO v85 (M_28 [v80,v83])
 (kJ J_30 m_31 l_32 w0_l_32 [v80,v83]))
 (M_28 [(l_32.getD 0 undef),(l_32.getD 1 undef)])) w) w) w) w) w) w) w) w) w)) w0_l_32) w))
 fun l_29 u_l_29 w=>(kB .mul 150 150 v51 (.int .u64 4294967296) (fun v87=>
 kB .add 150 150 v87 v56 fun v89=>
 kB .mul 150 150 (l_29.getD 0 undef) v39 fun v92=>
 kB .sub 150 150 v89 v92 fun v93=>
 kB .quo 150 150 v93 v41 fun v96=>
 kB .mul 150 150 v96 v41 fun v100=>
 kB .sub 150 150 v93 v100 fun v101 w=>
 a5z (fun M_53=>(kQ [v96,v101] (fun J_55 m_56 l_57 u_l_57 w0_l_57=>(fun w=>(
 kB .geq 150 4 (l_57.getD 0 undef) (.int .u64 4294967296) (fun v103 w=>
 gF v103 (a0j (l_57.getD 0 undef)) (fun v105 w=>
 gF v103 (a0j v43) (fun v106 w=>
 gF v103 (kB .mul 150 150 v105 v106) (fun v107 w=>
 gF v103 (a0j (l_57.getD 1 undef)) (fun v108 w=>
 gF v103 (kB .mul 150 150 (.int .u64 4294967296) v108) (fun v109 w=>
 gF v103 (a0j v58) (fun v110 w=>
 gF v103 (kB .add 150 150 v109 v110) (fun v111 w=>
 gF v103 (kB .gtr 150 4 v107 v111) (fun v112=>
 kP v103 (.bool true) v112 fun v113=>
 kO v113 (kB .sub 150 150 (l_57.getD 0 undef) (.int .u64 1) fun v115=>
 kB .add 150 150 (l_57.getD 1 undef) v41 fun v118=>
 kB .geq 150 4 v118 (.int .u64 4294967296) fun v120=>
 kO v120 (M_53 [v115,v118])
 (kJ J_55 m_56 l_57 w0_l_57 [v115,v118]))
 (M_53 [(l_57.getD 0 undef),(l_57.getD 1 undef)])) w) w) w) w) w) w) w) w) w)) w0_l_57) w))
 fun l_54 u_l_54 w=>(kB .mul 150 150 (l_29.getD 0 undef) (.int .u64 4294967296) (fun v122=>
 kB .add 150 150 v122 (l_54.getD 0 undef) fun v124=>
 kB .mul 150 150 v93 (.int .u64 4294967296) fun v126=>
 kB .add 150 150 v126 v58 fun v128=>
 kB .mul 150 150 (l_54.getD 0 undef) v39 fun v131=>
 kB .sub 150 150 v128 v131 fun v132=>
 oM prog (.binOp .shr 150 (.tmp 0) (.tmp 1) 191) 150 [v132,v36] fun v134=>
 K (.tuple #[v124,v134])) w)) w)) w)) w))
theorem d5e (h:e9r a0 a1 a2 K w):a0a prog 208 #[a0,a1,a2] K w:=
 cZ (fun _=>0) func208 h
def e9s (a0 a1 a2:Value) (K:VK) (w:World):Prop:=
 kB .rem 150 150 a0 a2 (fun v12=>
 a0a prog 208 #[v12,a1,a2] fun v15=>
 kE 0 150 v15 fun v16=>
 kE 1 150 v15 fun v17=>
 K v17) w
theorem d5f (h:e9s a0 a1 a2 K w):a0a prog 183 #[a0,a1,a2] K w:=
 cZ (fun _=>0) func183 h
def e9t (a0 a1 a2:Value) (K:VK) (w:World):Prop:=
 a0a prog 182 #[a1,a2] (fun v12=>
 kE 0 150 v12 fun v13=>
 kE 1 150 v12 fun v14=>
 oM prog (.convert 3 150 (.tmp 0)) 150 [a0] fun v18=>
 a0a prog 183 #[v13,v14,v18] fun v19=>
 K v19) w
theorem d5g (h:e9t a0 a1 a2 K w):a0a prog 125 #[a0,a1,a2] K w:=
 cZ (fun _=>0) func125 h
def e9u (a0 a1 a2:Value) (K:VK) (w:World):Prop:=
 oM prog (.convert 3 150 (.tmp 0)) 150 [a0] (fun v9=>
 kB .rem 150 150 (.int .u64 1) v9 fun v10=>
 kQ [v10,a1,a2] fun J_3 m_4 l_5 u_l_5 w0_l_5=>(fun w=>(
 kB .gtr 150 4 (l_5.getD 2 undef) (.int .u64 0) (fun v12 w=>
 a0v v12
 (a5z (fun M_7=>(kB .and 150 150 (l_5.getD 2 undef) (.int .u64 1) (fun v16=>
 oM prog (.binOp .eql 150 (.tmp 0) (.const (.int .u64 1)) 150) 4 [v16] fun v17=>
 kO v17 (a0a prog 125 #[a0,(l_5.getD 0 undef),(l_5.getD 1 undef)] fun v21=>
 M_7 [v21])
 (M_7 [(l_5.getD 0 undef)])) w))
 fun l_8 u_l_8 w=>(a0a prog 125 #[a0,(l_5.getD 1 undef),(l_5.getD 1 undef)] (fun v25=>
 oM prog (.binOp .shr 150 (.tmp 0) (.tmp 1) 191) 150 [(l_5.getD 2 undef),(.int .u64 1)] fun v14=>
 kJ J_3 m_4 l_5 w0_l_5 [(l_8.getD 0 undef),v25,v14]) w))
 (K (l_5.getD 0 undef) w)) w)) w0_l_5) w
theorem d5h (h:e9u a0 a1 a2 K w):a0a prog 129 #[a0,a1,a2] K w:=
 cZ (fun _=>0) func129 h
def f8y (a0 a1 a2:Value) (K:VK) (w:World):Prop:=
 a0a prog 123 #[a0] (fun v8=>
 kU v8 fun v9=>
 kO v9 (K (.int .i64 0))
 (a0a prog 124 #[a0,a1] fun v12=>
 a0a prog 124 #[a0,a2] fun v15=>
 kB .add 150 150 v12 v15 fun v16=>
 oM prog (.convert 3 150 (.tmp 0)) 150 [a0] fun v18=>
 kB .rem 150 150 v16 v18 fun v19=>
 oM prog (.convert 150 3 (.tmp 0)) 3 [v19] fun v20=>
 K v20)) w
theorem e4c (h:f8y a0 a1 a2 K w):a0a prog 42 #[a0,a1,a2] K w:=
 cZ (fun _=>0) func42 h
def f8z (a0 a1 a2:Value) (K:VK) (w:World):Prop:=
 a0a prog 123 #[a0] (fun v8=>
 kU v8 fun v9=>
 kO v9 (K (.int .i64 0))
 (a0a prog 124 #[a0,a1] fun v12=>
 oM prog (.convert 3 150 (.tmp 0)) 150 [a0] fun v14=>
 kB .add 150 150 v12 v14 fun v15=>
 a0a prog 124 #[a0,a2] fun v18=>
 kB .sub 150 150 v15 v18 fun v19=>
 oM prog (.convert 3 150 (.tmp 0)) 150 [a0] fun v21=>
 kB .rem 150 150 v19 v21 fun v22=>
 oM prog (.convert 150 3 (.tmp 0)) 3 [v22] fun v23=>
 K v23)) w
theorem e4d (h:f8z a0 a1 a2 K w):a0a prog 48 #[a0,a1,a2] K w:=
 cZ (fun _=>0) func48 h
def f9a (a0 a1 a2:Value) (K:VK) (w:World):Prop:=
 a0a prog 123 #[a0] (fun v8=>
 kU v8 fun v9=>
 kO v9 (K (.int .i64 0))
 (a0a prog 124 #[a0,a1] fun v13=>
 a0a prog 124 #[a0,a2] fun v16=>
 a0a prog 125 #[a0,v13,v16] fun v17=>
 oM prog (.convert 150 3 (.tmp 0)) 3 [v17] fun v18=>
 K v18)) w
theorem e4e (h:f9a a0 a1 a2 K w):a0a prog 43 #[a0,a1,a2] K w:=
 cZ (fun _=>0) func43 h
def e9v (a0 a1:Value) (K:VK) (w:World):Prop:=
 a0a prog 123 #[a0] (fun v12=>
 kU v12 fun v13=>
 kO v13 (K (.tuple #[(.int .i64 0),(.bool false)]))
 (a0a prog 124 #[a0,a1] fun v17=>
 oM prog (.convert 150 3 (.tmp 0)) 3 [v17] fun v18=>
 kQ [undef,a0,v18,(.int .i64 0),(.int .i64 1)] fun J_5 m_6 l_7 u_l_7 w0_l_7=>(fun w=>(
 kC .neq 3 0 4 (l_7.getD 2 undef) (fun v20=>
 kO v20 (kB .quo 3 3 (l_7.getD 1 undef) (l_7.getD 2 undef) fun v23=>
 kB .mul 3 3 v23 (l_7.getD 2 undef) fun v28=>
 kB .sub 3 3 (l_7.getD 1 undef) v28 fun v29=>
 a0a prog 43 #[a0,v23,(l_7.getD 4 undef)] fun v36=>
 a0a prog 48 #[a0,(l_7.getD 3 undef),v36] fun v37=>
 kJ J_5 m_6 l_7 w0_l_7 [v23,(l_7.getD 2 undef),v29,(l_7.getD 4 undef),v37])
 (kC .neq 3 1 4 (l_7.getD 1 undef) fun v39=>
 kO v39 (K (.tuple #[(.int .i64 0),(.bool false)]))
 (kB .rem 3 3 (l_7.getD 3 undef) a0 fun v42=>
 K (.tuple #[v42,(.bool true)])))) w)) w0_l_7)) w
theorem d5i (h:e9v a0 a1 K w):a0a prog 143 #[a0,a1] K w:=
 cZ (fun _=>0) func143 h
def e9w (a0 a1 a2:Value) (K:VK) (w:World):Prop:=
 a0a prog 123 #[a0] (fun v11=>
 kU v11 fun v12=>
 kO v12 (K (.int .i64 0))
 (kB .geq 3 4 a2 (.int .i64 0) fun v15=>
 kO v15 (a0a prog 124 #[a0,a1] fun v19=>
 oM prog (.convert 3 150 (.tmp 0)) 150 [a2] fun v21=>
 a0a prog 129 #[a0,v19,v21] fun v22=>
 oM prog (.convert 150 3 (.tmp 0)) 3 [v22] fun v23=>
 K v23)
 (a0a prog 143 #[a0,a1] fun v27=>
 kE 0 3 v27 fun v28=>
 kE 1 4 v27 fun v29=>
 kU v29 fun v31=>
 kO v31 (K (.int .i64 0))
 (oM prog (.convert 3 150 (.tmp 0)) 150 [v28] fun v34=>
 oM prog (.convert 3 150 (.tmp 0)) 150 [a2] fun v36=>
 oM prog (.unOp .neg 150 (.tmp 0)) 150 [v36] fun v37=>
 a0a prog 129 #[a0,v34,v37] fun v38=>
 oM prog (.convert 150 3 (.tmp 0)) 3 [v38] fun v39=>
 K v39)))) w
theorem d5j (h:e9w a0 a1 a2 K w):a0a prog 170 #[a0,a1,a2] K w:=
 cZ (fun _=>0) func170 h
def e9x (a0:Value) (K:VK) (w:World):Prop:=
 oM prog (.binOp .eql 150 (.tmp 0) (.const (.int .u64 0)) 150) 4 [a0] (fun v4=>
 kO v4 (K (.int .i64 64))
 (oM prog (.unOp .neg 150 (.tmp 0)) 150 [a0] fun v7=>
 kB .and 150 150 a0 v7 fun v8=>
 kB .mul 150 150 v8 (.int .u64 285870213051353865) fun v9=>
 oM prog (.binOp .shr 150 (.tmp 0) (.tmp 1) 191) 150 [v9,(.int .u64 58)] fun v10=>
 kI 244 (.pointer (some ⟨2,0,none⟩)) v10 fun v11=>
 kL 5 v11 fun v12=>
 oM prog (.convert 5 3 (.tmp 0)) 3 [v12] fun v13=>
 K v13)) w
theorem d5k (h:e9x a0 K w):a0a prog 220 #[a0] K w:=
 cZ (fun _=>0) func220 h
def e9y (a0 a1:Value) (K:VK) (w:World):Prop:=
 kB .sub 3 3 a0 (.int .i64 1) (fun v8=>
 oM prog (.convert 3 150 (.tmp 0)) 150 [v8] fun v9=>
 a0a prog 220 #[v9] fun v10=>
 kB .sub 3 3 a0 (.int .i64 1) fun v14=>
 oM prog (.convert 3 150 (.tmp 0)) 150 [v14] fun v15=>
 oM prog (.binOp .shr 150 (.tmp 0) (.tmp 1) 3) 150 [v15,v10] fun v17=>
 a0a prog 129 #[a0,a1,v17] fun v18=>
 oM prog (.binOp .eql 150 (.tmp 0) (.const (.int .u64 1)) 150) 4 [v18] fun v20=>
 kO v20 (K (.bool false))
 (kQ [(.bool false),v18,(.int .i64 0)] fun J_9 m_10 l_11 u_l_11 w0_l_11=>(fun w=>(
 kB .lss 3 4 (l_11.getD 2 undef) v10 (fun v23=>
 kO v23 (kB .sub 3 3 a0 (.int .i64 1) fun v26=>
 oM prog (.convert 3 150 (.tmp 0)) 150 [v26] fun v27=>
 kB .eql 150 4 (l_11.getD 1 undef) v27 fun v28=>
 kO v28 (K (.bool false))
 (a0a prog 125 #[a0,(l_11.getD 1 undef),(l_11.getD 1 undef)] fun v32=>
 kB .add 3 3 (l_11.getD 2 undef) (.int .i64 1) fun v33=>
 kJ J_9 m_10 l_11 w0_l_11 [(l_11.getD 0 undef),v32,v33]))
 (K (.bool true))) w)) w0_l_11)) w
theorem d5l (h:e9y a0 a1 K w):a0a prog 202 #[a0,a1] K w:=
 cZ (fun _=>0) func202 h
def e9z (a0:Value) (K:VK) (w:World):Prop:=
 kB .lss 3 4 a0 (.int .i64 2) (fun v9 w=>
 gF v9 (a0j a0) (fun v11 w=>
 gF v9 (kB .geq 3 4 v11 (.int .i64 2305843009213693952)) (fun v12=>
 kP v9 (.bool true) v12 fun v13=>
 kO v13 (K (.bool false))
 (oM prog (.build 208 #[(0,(.tmp 0)),(1,(.tmp 1)),(2,(.tmp 2)),(3,(.tmp 3)),(4,(.tmp 4)),(5,(.tmp 5)),(6,(.tmp 6)),(7,(.tmp 7)),(8,(.tmp 8)),(9,(.tmp 9)),(10,(.tmp 10)),(11,(.tmp 11))]) 208 [(.int .i64 2),(.int .i64 3),(.int .i64 5),(.int .i64 7),(.int .i64 11),(.int .i64 13),(.int .i64 17),(.int .i64 19),(.int .i64 23),(.int .i64 29),(.int .i64 31),(.int .i64 37)] fun v14=>
 kA 208 fun v3=>
 kS 208 v3 v14 fun _=>
 kL 208 v3 fun v15=>
 kQ [undef,(.bool false),(.int .i64 0)] fun J_8 m_9 l_10 u_l_10 w0_l_10=>(fun w=>(
 kB .lss 3 0 (l_10.getD 2 undef) (.int .i64 12) (fun v17=>
 kO v17 (oM prog (.index 208 (.tmp 0) (.tmp 1)) 3 [v15,(l_10.getD 2 undef)] fun v18=>
 kB .rem 3 3 a0 v18 fun v21=>
 kC .eql 3 0 4 v21 fun v22=>
 kO v22 (kB .eql 3 4 a0 v18 fun v25=>
 K v25)
 (kB .add 3 3 (l_10.getD 2 undef) (.int .i64 1) fun v26=>
 kJ J_8 m_9 l_10 w0_l_10 [v18,(l_10.getD 1 undef),v26]))
 (kL 208 v3 fun v27=>
 kQ [undef,(l_10.getD 1 undef),(.int .i64 0)] fun J_18 m_19 l_20 u_l_20 w0_l_20=>(fun w=>(
 kB .lss 3 0 (l_20.getD 2 undef) (.int .i64 12) (fun v29=>
 kO v29 (oM prog (.index 208 (.tmp 0) (.tmp 1)) 3 [v27,(l_20.getD 2 undef)] fun v30=>
 oM prog (.convert 3 150 (.tmp 0)) 150 [v30] fun v33=>
 a0a prog 202 #[a0,v33] fun v34=>
 kO v34 (K (.bool false))
 (kB .add 3 3 (l_20.getD 2 undef) (.int .i64 1) fun v35=>
 kJ J_18 m_19 l_20 w0_l_20 [v30,(l_20.getD 1 undef),v35]))
 (K (.bool true))) w)) w0_l_20)) w)) w0_l_10)) w) w) w
theorem d5m (h:e9z a0 K w):a0a prog 169 #[a0] K w:=
 cZ (fun _=>0) func169 h
def f0a (a0:Value) (K:VK) (w:World):Prop:=
 oM prog (.box 23 (.tmp 0)) 0 [a0] (fun v1=>
 kF 23 1 v1 fun v3=>
 kL 3 v3 fun v4=>
 kB .lss 3 4 v4 (.int .i64 5) fun v5 w=>
 gF v5 (kF 23 1 v1) (fun v7 w=>
 gF v5 (kL 3 v7) (fun v8 w=>
 gF v5 (kB .geq 3 4 v8 (.int .i64 1152921504606846976)) (fun v9=>
 kP v5 (.bool true) v9 fun v10 w=>
 gF v10 (kF 23 0 v1) (fun v12 w=>
 gF v10 (kL 3 v12) (fun v13 w=>
 gF v10 (kF 23 1 v1) (fun v14 w=>
 gF v10 (kL 3 v14) (fun v15 w=>
 gF v10 (kB .mul 3 3 (.int .i64 2) v15) (fun v16 w=>
 gF v10 (kB .add 3 3 v16 (.int .i64 1)) (fun v17 w=>
 gF v10 (kB .neq 3 4 v13 v17) (fun v18=>
 kP v10 (.bool true) v18 fun v19 w=>
 gF v19 (kF 23 2 v1) (fun v21 w=>
 gF v19 (kL 3 v21) (fun v22 w=>
 gF v19 (kB .lss 3 4 v22 (.int .i64 2)) (fun v23=>
 kP v19 (.bool true) v23 fun v24 w=>
 gF v24 (kF 23 2 v1) (fun v26 w=>
 gF v24 (kL 3 v26) (fun v27 w=>
 gF v24 (kF 23 0 v1) (fun v28 w=>
 gF v24 (kL 3 v28) (fun v29 w=>
 gF v24 (kB .geq 3 4 v27 v29) (fun v30=>
 kP v24 (.bool true) v30 fun v31=>
 kO v31 (K (.bool false))
 (kF 23 1 v1 fun v32=>
 kL 3 v32 fun v33=>
 a0a prog 169 #[v33] fun v34 w=>
 gT v34 (kF 23 0 v1) (fun v36 w=>
 gT v34 (kL 3 v36) (fun v37 w=>
 gT v34 (a0a prog 169 #[v37]) (fun v38=>
 kP v34 v38 (.bool false) fun v39 w=>
 gT v39 (kF 23 0 v1) (fun v41 w=>
 gT v39 (kL 3 v41) (fun v42 w=>
 gT v39 (kF 23 2 v1) (fun v43 w=>
 gT v39 (kL 3 v43) (fun v44 w=>
 gT v39 (kF 23 1 v1) (fun v45 w=>
 gT v39 (kL 3 v45) (fun v46 w=>
 gT v39 (a0a prog 170 #[v42,v44,v46]) (fun v47 w=>
 gT v39 (kC .eql 3 1 4 v47) (fun v48=>
 kP v39 v48 (.bool false) fun v49=>
 K v49) w) w) w) w) w) w) w) w) w) w) w)) w) w) w) w) w) w) w) w) w) w) w) w) w) w) w) w) w) w) w
theorem d5n (h:f0a a0 K w):a0a prog 107 #[a0] K w:=
 cZ (fun _=>0) func107 h
def f0b (a0 a1:Value) (K:VK) (w:World):Prop:=
 oM prog (.box 23 (.tmp 0)) 0 [a0] (fun v2=>
 kB .geq 3 4 a1 (.int .i64 1) fun v6 w=>
 gT v6 (a0j a1) (fun v8 w=>
 gT v6 (kF 23 0 v2) (fun v9 w=>
 gT v6 (kL 3 v9) (fun v10 w=>
 gT v6 (kB .lss 3 4 v8 v10) (fun v11=>
 kP v6 v11 (.bool false) fun v12 w=>
 gT v12 (kL 23 v2) (fun v14 w=>
 gT v12 (a0a prog 107 #[v14]) (fun v15=>
 kP v12 v15 (.bool false) fun v16 w=>
 gT v16 (kF 23 0 v2) (fun v18 w=>
 gT v16 (kL 3 v18) (fun v19 w=>
 gT v16 (a0j a1) (fun v20 w=>
 gT v16 (kF 23 1 v2) (fun v21 w=>
 gT v16 (kL 3 v21) (fun v22 w=>
 gT v16 (a0a prog 170 #[v19,v20,v22]) (fun v23 w=>
 gT v16 (kC .eql 3 1 4 v23) (fun v24=>
 kP v16 v24 (.bool false) fun v25=>
 K v25) w) w) w) w) w) w) w) w) w) w) w) w) w) w
theorem d5o (h:f0b a0 a1 K w):a0a prog 109 #[a0,a1] K w:=
 cZ (fun _=>0) func109 h
def f9b (a0 a1 a2:Value) (K:VK) (w:World):Prop:=
 oM prog (.box 23 (.tmp 0)) 0 [a0] (fun v3=>
 kF 23 0 v3 fun v7=>
 kL 3 v7 fun v8=>
 a0a prog 123 #[v8] fun v9=>
 kU v9 fun v10 w=>
 gF v10 (kF 23 1 v3) (fun v12 w=>
 gF v10 (kL 3 v12) (fun v13 w=>
 gF v10 (a0a prog 123 #[v13]) (fun v14 w=>
 gF v10 (kU v14) (fun v15=>
 kP v10 (.bool true) v15 fun v16 w=>
 a0v v16
 (K (.int .i64 0) w)
 (a4o w fun C_11=>(oQ prog (.fieldAddr 23 (.tmp 0) 0) 0 [v3] C_11 fun v17=>
 oQ prog (.load 3 (.tmp 0)) 3 [v17] C_11 fun v18=>
 oQ prog (.fieldAddr 23 (.tmp 0) 0) 0 [v3] C_11 fun v19=>
 oQ prog (.load 3 (.tmp 0)) 3 [v19] C_11 fun v20=>
 a3h prog 124 #[v20,a1] C_11 fun v22=>
 oQ prog (.fieldAddr 23 (.tmp 0) 1) 0 [v3] C_11 fun v23=>
 oQ prog (.load 3 (.tmp 0)) 3 [v23] C_11 fun v24=>
 a3h prog 124 #[v24,a2] C_11 fun v26=>
 a3h prog 129 #[v18,v22,v26] C_11 fun v27=>
 oQ prog (.convert 150 3 (.tmp 0)) 3 [v27] C_11 fun v28=>
 ∀ w,C_11 w → (K v28 w)))) w) w) w) w) w
theorem e4f (h:f9b a0 a1 a2 K w):a0a prog 46 #[a0,a1,a2] K w:=
 cZ (fun _=>0) func46 h
def f0c (a0 a1 a2:Value) (K:VK) (w:World):Prop:=
 oM prog (.box 23 (.tmp 0)) 0 [a0] (fun v3=>
 kF 23 1 v3 fun v7=>
 kL 3 v7 fun v8=>
 a0a prog 123 #[v8] fun v9=>
 kU v9 fun v10=>
 kO v10 (K (.int .i64 0))
 (kF 23 0 v3 fun v11=>
 kL 3 v11 fun v12=>
 a0a prog 43 #[v12,a1,a2] fun v15=>
 K v15)) w
theorem d5p (h:f0c a0 a1 a2 K w):a0a prog 178 #[a0,a1,a2] K w:=
 cZ (fun _=>0) func178 h
def f0d (a0 a1 a2:Value) (K:VK) (w:World):Prop:=
 oM prog (.box 23 (.tmp 0)) 0 [a0] (fun v3=>
 kF 23 0 v3 fun v11=>
 kL 3 v11 fun v12=>
 a0a prog 123 #[v12] fun v13=>
 kU v13 fun v14 w=>
 gF v14 (kF 23 1 v3) (fun v16 w=>
 gF v14 (kL 3 v16) (fun v17 w=>
 gF v14 (a0a prog 123 #[v17]) (fun v18 w=>
 gF v14 (kU v18) (fun v19=>
 kP v14 (.bool true) v19 fun v20 w=>
 gF v20 (a0j a1) (fun v22 w=>
 gF v20 (kN 24 v22) (fun v23 w=>
 gF v20 (a0j a2) (fun v24 w=>
 gF v20 (kN 24 v24) (fun v25 w=>
 gF v20 (kB .neq 3 4 v23 v25) (fun v26=>
 kP v20 (.bool true) v26 fun v27=>
 kO v27 (K (.tuple #[(.int .i64 0),(.bool false)]))
 (kF 23 0 v3 fun v28=>
 kL 3 v28 fun v29=>
 kB .rem 3 3 (.int .i64 1) v29 fun v30=>
 kN 24 a1 fun v32=>
 kQ [undef,undef,v30,(.int .i64 0)] fun J_21 m_22 l_23 u_l_23 w0_l_23=>(fun w=>(
 kB .lss 3 0 (l_23.getD 3 undef) v32 (fun v34=>
 kO v34 (kI 24 a1 (l_23.getD 3 undef) fun v36=>
 kL 3 v36 fun v37 w=>
 a4o w fun C_27=>(oQ prog (.fieldAddr 23 (.tmp 0) 0) 0 [v3] C_27 fun v38=>
 oQ prog (.load 3 (.tmp 0)) 3 [v38] C_27 fun v39=>
 oQ prog (.load 23 (.tmp 0)) 23 [v3] C_27 fun v41=>
 oQ prog (.indexAddr 24 (.tmp 0) (.tmp 1)) 0 [a2,(l_23.getD 3 undef)] C_27 fun v45=>
 oQ prog (.load 3 (.tmp 0)) 3 [v45] C_27 fun v46=>
 a3h prog 46 #[v41,v37,v46] C_27 fun v47=>
 a3h prog 43 #[v39,(l_23.getD 2 undef),v47] C_27 fun v48=>
 ∀ w,C_27 w → (kB .add 3 3 (l_23.getD 3 undef) (.int .i64 1) (fun v49=>
 kJ J_21 m_22 l_23 w0_l_23 [(l_23.getD 3 undef),v37,v48,v49]) w)))
 (K (.tuple #[(l_23.getD 2 undef),(.bool true)]))) w)) w0_l_23)) w) w) w) w) w) w) w) w) w) w
theorem d5q (h:f0d a0 a1 a2 K w):a0a prog 126 #[a0,a1,a2] K w:=
 cZ (fun _=>0) func126 h
def f0e (a0 a1 a2:Value) (K:VK) (w:World):Prop:=
 oM prog (.box 23 (.tmp 0)) 0 [a0] (fun v3 w=>
 a4o w fun C_2=>(oQ prog (.load 23 (.tmp 0)) 23 [v3] C_2 fun v7=>
 oQ prog (.fieldAddr 23 (.tmp 0) 0) 0 [v3] C_2 fun v9=>
 oQ prog (.load 3 (.tmp 0)) 3 [v9] C_2 fun v10=>
 a3h prog 170 #[v10,a2,(.int .i64 (-1))] C_2 fun v12=>
 a3h prog 178 #[v7,a1,v12] C_2 fun v13=>
 ∀ w,C_2 w → (K v13 w))) w
theorem d5r (h:f0e a0 a1 a2 K w):a0a prog 121 #[a0,a1,a2] K w:=
 cZ (fun _=>0) func121 h
variable {a0 a1:Value} {K:VK} {w:World}
def f3b (a0 a1:Value) (K:VK) (w:World):Prop:=
 kN 24 a0 (fun v7=>
 kQ [undef,(.int .i64 0),(.int .i64 0)] fun J_2 m_3 l_4 u_l_4 w0_l_4=>(fun w=>(
 kB .lss 3 0 (l_4.getD 2 undef) v7 (fun v9=>
 kO v9 (kI 24 a0 (l_4.getD 2 undef) fun v14=>
 kL 3 v14 fun v15=>
 oM prog (.call (Go.Call.mk (.value (.tmp 0)) #[(.tmp 1)] #[3])) 4 [a1,v15] fun v16=>
 kO v16 (K (l_4.getD 2 undef))
 (kB .add 3 3 (l_4.getD 2 undef) (.int .i64 1) fun v18=>
 kJ J_2 m_3 l_4 w0_l_4 [(l_4.getD 2 undef),(l_4.getD 1 undef),v18]))
 (K (.int .i64 (-1)))) w)) w0_l_4) w
theorem d8v (h:f3b a0 a1 K w):a0a prog 186 #[a0,a1] K w:=
 cZ (fun _=>0) func186 h
def f3c (a0 a1:Value) (K:VK) (w:World):Prop:=
 a0a prog 186 #[a0,a1] (fun v7=>
 kB .geq 3 4 v7 (.int .i64 0) fun v8=>
 K v8) w
theorem d8w (h:f3c a0 a1 K w):a0a prog 136 #[a0,a1] K w:=
 cZ (fun _=>0) func136 h
def g0r (a0:Value) (K:VK) (w:World):Prop:=
 oM prog (.box 26 (.tmp 0)) 0 [a0] (fun v1=>
 kF 26 0 v1 fun v6=>
 kL 23 v6 fun v7=>
 a0a prog 107 #[v7] fun v8=>
 kU v8 fun v9 w=>
 gF v9 (kF 26 1 v1) (fun v11 w=>
 gF v9 (kL 24 v11) (fun v12 w=>
 gF v9 (kN 24 v12) (fun v13 w=>
 gF v9 (kB .lss 3 4 v13 (.int .i64 2)) (fun v14=>
 kP v9 (.bool true) v14 fun v15 w=>
 gF v15 (kF 26 1 v1) (fun v17 w=>
 gF v15 (kL 24 v17) (fun v18 w=>
 gF v15 (kN 24 v18) (fun v19 w=>
 gF v15 (kB .gtr 3 4 v19 (.int .i64 7)) (fun v20=>
 kP v15 (.bool true) v20 fun v21=>
 kO v21 (K (.bool false))
 (oM prog (.makeFunc (Go.Fn.func 108) #[] #[(.tmp 0)]) 141 [v1] fun v22=>
 kF 26 1 v1 fun v23=>
 kL 24 v23 fun v24=>
 kN 24 v24 fun v25=>
 kQ [undef,(.bool false),(.int .i64 0)] fun J_20 m_21 l_22 u_l_22 w0_l_22=>(fun w=>(
 kB .lss 3 0 (l_22.getD 2 undef) v25 (fun v27=>
 kO v27 (kI 24 v24 (l_22.getD 2 undef) fun v28=>
 kL 3 v28 fun v29=>
 oM prog (.call (Go.Call.mk (.value (.tmp 0)) #[(.tmp 1)] #[3])) 4 [v22,v29] fun v32=>
 kU v32 fun v33=>
 kO v33 (K (.bool false))
 (kB .add 3 3 (l_22.getD 2 undef) (.int .i64 1) fun v34=>
 kJ J_20 m_21 l_22 w0_l_22 [v29,(l_22.getD 1 undef),v34]))
 (kF 26 2 v1 fun v36=>
 kL 3 v36 fun v37=>
 oM prog (.call (Go.Call.mk (.value (.tmp 0)) #[(.tmp 1)] #[3])) 4 [v22,v37] fun v38=>
 K v38)) w)) w0_l_22)) w) w) w) w) w) w) w) w) w
theorem e5v (h:g0r a0 K w):a0a prog 21 #[a0] K w:=
 cZ (fun _=>0) func21 h
def f3d (a0 a1:Value) (K:VK) (w:World):Prop:=
 kC .neq 3 1 4 a0 (fun v5 w=>
 gT v5 (kF 26 0 a1) (fun v7 w=>
 gT v5 (kL 23 v7) (fun v8 w=>
 gT v5 (a0j a0) (fun v9 w=>
 gT v5 (a0a prog 109 #[v8,v9]) (fun v10=>
 kP v5 v10 (.bool false) fun v11=>
 K v11) w) w) w) w) w
theorem d8x (h:f3d a0 a1 K w):a0a prog 108 #[a0,a1] K w:=
 cZ (fun _=>0) func108 h
def g0s (a0:Value) (K:VK) (w:World):Prop:=
 oM prog (.binOp .eql 24 (.tmp 0) (.const (.slice none 0 0)) 24) 4 [a0] (fun v4=>
 kO v4 (K (.slice none 0 0))
 (oM prog (.buildSlice 24 0 #[]) 24 [] fun v5=>
 oM prog (.call (Go.Call.mk (.builtin .append) #[(.tmp 0),(.tmp 1)] #[24,24])) 24 [v5,a0] fun v7=>
 K v7)) w
theorem e5w (h:g0s a0 K w):a0a prog 96 #[a0] K w:=
 cZ (fun _=>0) func96 h
variable {a0 a1 a2:Value} {K:VK} {w:World}
def f2s (a0 a1:Value) (K:VK) (w:World):Prop:=
 oM prog (.box 26 (.tmp 0)) 0 [a0] (fun v2=>
 kB .geq 3 4 a1 (.int .i64 0) fun v6 w=>
 gT v6 (a0j a1) (fun v8 w=>
 gT v6 (kF 26 0 v2) (fun v9 w=>
 gT v6 (kF 23 1 v9) (fun v10 w=>
 gT v6 (kL 3 v10) (fun v11 w=>
 gT v6 (kB .lss 3 4 v8 v11) (fun v12=>
 kP v6 v12 (.bool false) fun v13=>
 K v13) w) w) w) w) w) w
theorem d8m (h:f2s a0 a1 K w):a0a prog 127 #[a0,a1] K w:=
 cZ (fun _=>0) func127 h
def f2t (a0 a1 a2:Value) (K:VK) (w:World):Prop:=
 oM prog (.box 26 (.tmp 0)) 0 [a0] (fun v3=>
 kN 24 a1 fun v8=>
 kB .eql 3 4 v8 a2 fun v10 w=>
 gT v10 (a0j a1) (fun v12 w=>
 gT v10 (oM prog (.makeFunc (Go.Fn.func 187) #[] #[(.tmp 0)]) 141 [v3]) (fun v13 w=>
 gT v10 (a0a prog 136 #[v12,v13]) (fun v14 w=>
 gT v10 (kU v14) (fun v15=>
 kP v10 v15 (.bool false) fun v16=>
 K v16) w) w) w) w) w
theorem d8n (h:f2t a0 a1 a2 K w):a0a prog 140 #[a0,a1,a2] K w:=
 cZ (fun _=>0) func140 h
def f2u (a0 a1:Value) (K:VK) (w:World):Prop:=
 kL 26 a1 (fun v4=>
 a0a prog 127 #[v4,a0] fun v6=>
 kU v6 fun v7=>
 K v7) w
theorem d8o (h:f2u a0 a1 K w):a0a prog 187 #[a0,a1] K w:=
 cZ (fun _=>0) func187 h
def f2v (a0 a1:Value) (K:VK) (w:World):Prop:=
 oM prog (.box 26 (.tmp 0)) 0 [a0] (fun v2=>
 oM prog (.box 69 (.tmp 0)) 0 [a1] fun v3=>
 kF 69 0 v3 fun v9=>
 kL 3 v9 fun v10=>
 kB .lss 3 4 v10 (.int .i64 0) fun v11 w=>
 gF v11 (kF 69 0 v3) (fun v13 w=>
 gF v11 (kL 3 v13) (fun v14 w=>
 gF v11 (kB .gtr 3 4 v14 (.int .i64 120)) (fun v15=>
 kP v11 (.bool true) v15 fun v16 w=>
 gF v16 (kF 69 1 v3) (fun v18 w=>
 gF v16 (kL 67 v18) (fun v19 w=>
 gF v16 (kN 67 v19) (fun v20 w=>
 gF v16 (kB .lss 3 4 v20 (.int .i64 1)) (fun v21=>
 kP v16 (.bool true) v21 fun v22 w=>
 gF v22 (kF 69 1 v3) (fun v24 w=>
 gF v22 (kL 67 v24) (fun v25 w=>
 gF v22 (kN 67 v25) (fun v26 w=>
 gF v22 (kB .gtr 3 4 v26 (.int .i64 60)) (fun v27=>
 kP v22 (.bool true) v27 fun v28=>
 kO v28 (K (.bool false))
 (kF 69 1 v3 fun v29=>
 kL 67 v29 fun v30=>
 kN 67 v30 fun v31=>
 kQ [(.bool false),(.int .i64 0)] fun J_23 m_24 l_25 u_l_25 w0_l_25=>(fun w=>(
 kB .lss 3 0 (l_25.getD 1 undef) v31 (fun v33=>
 kO v33 (kI 67 v30 (l_25.getD 1 undef) fun v34=>
 kL 144 v34 fun v35=>
 kA 144 fun v6=>
 kS 144 v6 v35 fun _=>
 kF 26 0 v2 fun v36=>
 kL 23 v36 fun v37=>
 kF 144 0 v6 fun v38=>
 kL 3 v38 fun v39=>
 a0a prog 109 #[v37,v39] fun v40=>
 kU v40 fun v41 w=>
 gF v41 (kF 144 1 v6) (fun v43 w=>
 gF v41 (kL 142 v43) (fun v44 w=>
 gF v41 (kN 142 v44) (fun v45 w=>
 gF v41 (kB .gtr 3 4 v45 (.int .i64 80)) (fun v46=>
 kP v41 (.bool true) v46 fun v47=>
 kO v47 (K (.bool false))
 (kF 144 1 v6 fun v48=>
 kL 142 v48 fun v49=>
 kN 142 v49 fun v50=>
 kQ [(l_25.getD 0 undef),(.int .i64 0)] fun J_44 m_45 l_46 u_l_46 w0_l_46=>(fun w=>(
 kB .lss 3 0 (l_46.getD 1 undef) v50 (fun v52=>
 kO v52 (kI 142 v49 (l_46.getD 1 undef) fun v53=>
 kL 146 v53 fun v54=>
 kA 146 fun v8=>
 kS 146 v8 v54 fun _=>
 kF 146 0 v8 fun v55=>
 kL 3 v55 fun v56=>
 kB .lss 3 4 v56 (.int .i64 0) fun v57 w=>
 gF v57 (kF 146 0 v8) (fun v59 w=>
 gF v57 (kL 3 v59) (fun v60 w=>
 gF v57 (kF 69 0 v3) (fun v61 w=>
 gF v57 (kL 3 v61) (fun v62 w=>
 gF v57 (kB .geq 3 4 v60 v62) (fun v63=>
 kP v57 (.bool true) v63 fun v64 w=>
 gF v64 (kF 26 0 v2) (fun v66 w=>
 gF v64 (kL 23 v66) (fun v67 w=>
 gF v64 (kF 146 1 v8) (fun v68 w=>
 gF v64 (kL 3 v68) (fun v69 w=>
 gF v64 (a0a prog 109 #[v67,v69]) (fun v70 w=>
 gF v64 (kU v70) (fun v71=>
 kP v64 (.bool true) v71 fun v72=>
 kO v72 (K (.bool false))
 (kB .add 3 3 (l_46.getD 1 undef) (.int .i64 1) fun v73=>
 kJ J_44 m_45 l_46 w0_l_46 [(l_46.getD 0 undef),v73])) w) w) w) w) w) w) w) w) w) w) w)
 (kB .add 3 3 (l_25.getD 1 undef) (.int .i64 1) fun v74=>
 kJ J_23 m_24 l_25 w0_l_25 [(l_46.getD 0 undef),v74])) w)) w0_l_46)) w) w) w) w)
 (K (.bool true))) w)) w0_l_25)) w) w) w) w) w) w) w) w) w) w) w) w
theorem d8p (h:f2v a0 a1 K w):a0a prog 112 #[a0,a1] K w:=
 cZ (fun _=>0) func112 h
def f2w (a0 a1 a2:Value) (K:VK) (w:World):Prop:=
 oM prog (.box 26 (.tmp 0)) 0 [a0] (fun v3=>
 oM prog (.box 144 (.tmp 0)) 0 [a1] fun v4=>
 kF 144 1 v4 fun v13=>
 kL 142 v13 fun v14=>
 kN 142 v14 fun v15=>
 kQ [(.slice none 0 0),(.slice none 0 0),(.int .i64 0)] fun J_6 m_7 l_8 u_l_8 w0_l_8=>(fun w=>(
 kB .lss 3 0 (l_8.getD 2 undef) v15 (fun v17=>
 kO v17 (kI 142 v14 (l_8.getD 2 undef) fun v18=>
 kL 146 v18 fun v19=>
 kA 146 fun v10=>
 kS 146 v10 v19 fun _=>
 kH fun C_13 w=>(a0c (l_8.getD 0 undef) C_13 fun v20=>
 jF 146 1 v10 C_13 fun v21=>
 jL 3 v21 C_13 fun v22=>
 a0c (l_8.getD 1 undef) C_13 fun v25=>
 a0c a2 C_13 fun v26=>
 jF 146 0 v10 C_13 fun v27=>
 jL 3 v27 C_13 fun v28=>
 jI 24 v26 v28 C_13 fun v29=>
 jL 3 v29 C_13 fun v30=>
 (oM prog (.buildSlice 24 1 #[(0,(.tmp 0))]) 24 [v22] (fun v23 w=>C_13 w ∧ (
 (oM prog (.call (Go.Call.mk (.builtin .append) #[(.tmp 0),(.tmp 1)] #[24,24])) 24 [v20,v23] (fun v24 w=>C_13 w ∧ (
 oM prog (.buildSlice 24 1 #[(0,(.tmp 0))]) 24 [v30] (fun v31 w=>C_13 w ∧ (
 oM prog (.call (Go.Call.mk (.builtin .append) #[(.tmp 0),(.tmp 1)] #[24,24])) 24 [v25,v31] (fun v32 w=>C_13 w ∧ (
 C_13 w ∧ (C_13 w ∧ (kB .add 3 3 (l_8.getD 2 undef) (.int .i64 1) (fun v33=>
 kJ J_6 m_7 l_8 w0_l_8 [v24,v32,v33]) w)))) w)) w)) w) ∧
 (oM prog (.buildSlice 24 1 #[(0,(.tmp 0))]) 24 [v30] (fun v31 w=>C_13 w ∧ (
 oM prog (.call (Go.Call.mk (.builtin .append) #[(.tmp 0),(.tmp 1)] #[24,24])) 24 [v20,v23] (fun v24 w=>C_13 w ∧ (
 oM prog (.call (Go.Call.mk (.builtin .append) #[(.tmp 0),(.tmp 1)] #[24,24])) 24 [v25,v31] (fun v32 w=>C_13 w ∧ (
 C_13 w ∧ (C_13 w ∧ (kB .add 3 3 (l_8.getD 2 undef) (.int .i64 1) (fun v33=>
 kJ J_6 m_7 l_8 w0_l_8 [v24,v32,v33]) w)))) w)) w)) w))) w) ∧
 (oM prog (.buildSlice 24 1 #[(0,(.tmp 0))]) 24 [v30] (fun v31 w=>C_13 w ∧ (
 oM prog (.buildSlice 24 1 #[(0,(.tmp 0))]) 24 [v22] (fun v23 w=>C_13 w ∧ (
 oM prog (.call (Go.Call.mk (.builtin .append) #[(.tmp 0),(.tmp 1)] #[24,24])) 24 [v20,v23] (fun v24 w=>C_13 w ∧ (
 oM prog (.call (Go.Call.mk (.builtin .append) #[(.tmp 0),(.tmp 1)] #[24,24])) 24 [v25,v31] (fun v32 w=>C_13 w ∧ (
 C_13 w ∧ (C_13 w ∧ (kB .add 3 3 (l_8.getD 2 undef) (.int .i64 1) (fun v33=>
 kJ J_6 m_7 l_8 w0_l_8 [v24,v32,v33]) w)))) w)) w)) w)) w)))
 (kF 26 0 v3 fun v35=>
 kL 23 v35 fun v36=>
 a0a prog 126 #[v36,(l_8.getD 0 undef),(l_8.getD 1 undef)] fun v39=>
 kE 0 3 v39 fun v40=>
 kE 1 4 v39 fun v41=>
 K v40)) w)) w0_l_8) w
theorem d8q (h:f2w a0 a1 a2 K w):a0a prog 181 #[a0,a1,a2] K w:=
 cZ (fun _=>.tree (.look 0 (.look 1 (.look 2 (.look 5 (.look 6 (.look 7 (.look 8 (.look 9 (.look 10 (.alt 3 (.alt 4 (.only 11 (.only 12 (.only 13 (.only 14 (.done))))) (.only 11 (.only 4 (.only 12 (.only 13 (.only 14 (.done))))))) (.only 11 (.only 3 (.only 4 (.only 12 (.only 13 (.only 14 (.done)))))))))))))))))) func181 h
def f2x (a0 a1:Value) (K:VK) (w:World):Prop:=
 kN 67 a0 (fun v7=>
 kQ [undef,(.int .i64 0),(.int .i64 0)] fun J_2 m_3 l_4 u_l_4 w0_l_4=>(fun w=>(
 kB .lss 3 0 (l_4.getD 2 undef) v7 (fun v9=>
 kO v9 (kI 67 a0 (l_4.getD 2 undef) fun v14=>
 kL 144 v14 fun v15=>
 oM prog (.call (Go.Call.mk (.value (.tmp 0)) #[(.tmp 1)] #[144])) 4 [a1,v15] fun v16=>
 kO v16 (K (l_4.getD 2 undef))
 (kB .add 3 3 (l_4.getD 2 undef) (.int .i64 1) fun v18=>
 kJ J_2 m_3 l_4 w0_l_4 [(l_4.getD 2 undef),(l_4.getD 1 undef),v18]))
 (K (.int .i64 (-1)))) w)) w0_l_4) w
theorem d8r (h:f2x a0 a1 K w):a0a prog 207 #[a0,a1] K w:=
 cZ (fun _=>0) func207 h
def f2y (a0 a1:Value) (K:VK) (w:World):Prop:=
 a0a prog 207 #[a0,a1] (fun v7=>
 kB .geq 3 4 v7 (.int .i64 0) fun v8=>
 K v8) w
theorem d8s (h:f2y a0 a1 K w):a0a prog 179 #[a0,a1] K w:=
 cZ (fun _=>0) func179 h
def f2z (a0 a1 a2:Value) (K:VK) (w:World):Prop:=
 oM prog (.box 26 (.tmp 0)) 0 [a0] (fun v3=>
 oM prog (.box 69 (.tmp 0)) 0 [a1] fun v4=>
 oM prog (.box 24 (.tmp 0)) 0 [a2] fun v5=>
 kL 26 v3 fun v7=>
 kL 24 v5 fun v8=>
 kF 69 0 v4 fun v9=>
 kL 3 v9 fun v10=>
 a0a prog 140 #[v7,v8,v10] fun v11=>
 kU v11 fun v12=>
 kO v12 (K (.bool false))
 (kF 69 1 v4 fun v13=>
 kL 67 v13 fun v14=>
 oM prog (.makeFunc (Go.Fn.func 180) #[] #[(.tmp 0),(.tmp 1)]) 187 [v3,v5] fun v15=>
 a0a prog 179 #[v14,v15] fun v16=>
 kU v16 fun v17=>
 K v17)) w
theorem d8t (h:f2z a0 a1 a2 K w):a0a prog 122 #[a0,a1,a2] K w:=
 cZ (fun _=>0) func122 h
def f3a (a0 a1 a2:Value) (K:VK) (w:World):Prop:=
 oM prog (.box 144 (.tmp 0)) 0 [a0] (fun v3=>
 kH fun C_2 w=>(((true:Bool) = true) ∧ (jL 26 a1 C_2 fun v5=>
 jL 144 v3 C_2 fun v6=>
 jL 24 a2 C_2 fun v7=>
 jF 144 0 v3 C_2 fun v9=>
 jL 3 v9 C_2 fun v10=>
 ∃ S_8:World → WK,xR S_8 fun R_9=>
 (∀ w,C_2 w → (a0a prog 181 #[v5,v6,v7] (xK C_2 S_8 R_9 w) w)) ∧
 (∀ w,C_2 w → ∀ v8,R_9 v8 w → (
 kB .neq 3 4 v8 v10 (fun v11=>
 K v11) w))))) w
theorem d8u (h:f3a a0 a1 a2 K w):a0a prog 180 #[a0,a1,a2] K w:=
 cZ (fun _=>.free [0,1,2,4,5] [3] [6,7]) func180 h
def g0q (a0 a1 a2:Value) (K:VK) (w:World):Prop:=
 oM prog (.box 26 (.tmp 0)) 0 [a0] (fun v3=>
 oM prog (.box 69 (.tmp 0)) 0 [a1] fun v4=>
 kL 26 v3 fun v7=>
 a0a prog 21 #[v7] fun v8 w=>
 gT v8 (kL 26 v3) (fun v10 w=>
 gT v8 (kL 69 v4) (fun v11 w=>
 gT v8 (a0a prog 112 #[v10,v11]) (fun v12=>
 kP v8 v12 (.bool false) fun v13 w=>
 gT v13 (kL 26 v3) (fun v15 w=>
 gT v13 (kL 69 v4) (fun v16 w=>
 gT v13 (a0j a2) (fun v17 w=>
 gT v13 (a0a prog 122 #[v15,v16,v17]) (fun v18=>
 kP v13 v18 (.bool false) fun v19=>
 K v19) w) w) w) w) w) w) w) w
theorem e5u (h:g0q a0 a1 a2 K w):a0a prog 41 #[a0,a1,a2] K w:=
 cZ (fun _=>0) func41 h
end Go.Proofs
