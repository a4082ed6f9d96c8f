/- Parts of the proof of the seat's statements (ShCom, ShHeld, ShStage, Sh, ShOps, ShMem, ShQ, ShStr, ShQ2, ShQ3, ShMap, ShMap2, ShMap3, ShMap4, ShMap5, ShRow, ShRow2, ShBuf, ShBuf2, ShBit, ShBox, ShGo, ShKn, ShKn2, ShArr, ShMn, ShWk, HA0): lemmas about the given translation and plain laws. No condition of their own. -/
import Derived.WalkKit
import Derived.Still
import Derived.Deep.Quiet
import Derived.Laws.Panics
import Derived.Laws.DeepStrings4
import Derived.Below
import Derived.Laws.Small
import Derived.MapKept
import Derived.WideKeyRuns
import Derived.Laws.StructEq
import Derived.Laws.IdiomRangeMap
import Derived.Shelf.SlMaps.Clone
import Derived.Lib.BufferWrite
import Derived.Lib.SliceRun
import Derived.Laws.MakeOwn
import Derived.Laws.OwnMore
import Derived.Great.BuildSlice
import Derived.Laws.IdiomStrings
import Derived.Test.YtbfkhodfjecndaaGreatDoorProg
set_option linter.all false
set_option maxRecDepth 100000
namespace Go.Sh
open Go
abbrev L2:=List (List Int)
abbrev L3:=List L2
theorem lL {a b c:Nat} (h:a < b) (k:b ≤ c):a < c:=Nat.lt_of_lt_of_le h k
theorem bA (a b:Bool):((a && b) = true) = (a = true ∧ b = true):=Bool.and_eq_true a b
theorem dE {p:Prop} [Decidable p]:(decide p = true) = p:=decide_eq_true_eq
theorem bF (b:Bool):(false && b) = false:=Bool.false_and b
theorem bT (b:Bool):(true && b) = b:=Bool.true_and b
theorem oI {α:Type _} {a b:α} (h:some a = some b):a = b:=Option.some.inj h
theorem rL {n:Nat}:n ≤ n:=Nat.le_refl n
abbrev VK:=Value → World → Prop
abbrev WK:=World → Prop
theorem gS {α:Type _} {l:List α} {i:Nat} {a:α} (h:l[i]? = some a):∃ h:i < l.length,l[i] = a:=List.getElem?_eq_some_iff.1 h
theorem gE {α:Type _} {l:List α} {i:Nat} (h:i < l.length):l[i]? = some l[i]:=List.getElem?_eq_getElem h
def b1o (o:Oper):List Nat:=(o.after.toList.filter (Region.binds .any)).map (·.on)
end Go.Sh
namespace Go.Sh
open Go
section
def h2w (o:Oper):Bool:=
 match o.op with
 | .move _ | .pick _ _ _ | .load _ _ | .nilCheck _ | .binOp _ _ _ _ _ | .unOp _ _ _ | .fieldAddr _ _ _ | .field _ _ _ | .indexAddr _ _ _ | .index _ _ _ | .lookup _ _ _ _ | .extract _ _ | .slice _ _ _ _ _=>true
 | .call { callee:=.builtin b,args:=_,argTypes:=_ }=>match b with | .len | .min | .max=>true | _=>false
 | _=>false
def e2c:List Oper → List Bool → List Bool
 | [],acc=>acc
 | o :: rest,acc=>e2c rest (acc ++ [h2w o && (b1o o).all (fun j=>acc.getD j false)])
def f0y (b:Bool):List Bool → Nat → List (Nat × Bool)
 | [],_=>[]
 | x :: xs,i=>bif x == b then (i,b) :: f0y b xs (i + 1) else f0y b xs (i + 1)
def b4e (ops:Array Oper):List (Nat × Bool):=f0y true (e2c ops.toList []) 0 ++ f0y false (e2c ops.toList []) 0
def b5c (ops:Array Oper):List (Nat × Bool) → Array Bool → Bool
 | [],listed=>(Region.ready .any ops listed).isEmpty
 | (i,true) :: r,listed=>(Region.ready .any ops listed).contains i && Region.free .any ops listed i && b5c ops r (listed.setIfInBounds i true)
 | (i,false) :: r,listed=>(Region.ready .any ops listed == [i]) && b5c ops r (listed.setIfInBounds i true)
def e2d (ops:Array Oper):Bool:=Region.noSelect ops && b5c ops (b4e ops) (Array.replicate ops.size false) && Nat.beq (b4e ops).length ops.size
variable {P:Program} {ops:Array Oper} {C:WK}
def a6n (P:Program) (s:Sem Next) (K:VK) (w:World):Prop:=
 match s.run P w with
 | .ok (.value v) w'=>K v w'
 | .ok .skip w'=>K undef w'
 | .ok (.enter f args) w'=>Calls P f args w' (fun e w''=>∃ v,e = .returned v ∧ K v w'')
 | _=>False
theorem a9r {s:Sem Next} {K K':VK} {w:World} (h:a6n P s K w) (hk:∀ v w',K v w' → K' v w'):a6n P s K' w:=by
 unfold a6n at *
 generalize s.run P w = r at *
 cases r with
 | halt=>exact h.elim
 | ok n w'=>
  cases n <;> try exact h.elim
  ·exact hk _ _ h
  ·exact hk _ _ h
  ·exact Calls.mono h (fun e w'' ⟨v,hv,h⟩=>⟨v,hv,hk _ _ h⟩)
def Looks (P:Program) (ops:Array Oper) (C:WK) (o:Oper) (a:Act) (v:Value):Prop:=
 bif Region.wanted o (yielded ops a.tmps) then ∀ w,C w → (execOp a.eval o).run P w = .ok (.value v) w else v = undef
def a3z (P:Program) (ops:Array Oper) (o:Oper) (a:Act) (w:World) (K:Act → WK):Prop:=
 bif Region.wanted o (yielded ops a.tmps) then a6n P (execOp a.eval o) (fun v w'=>K (a.put o.dst v) w') w else K (a.put o.dst undef) w
theorem a3f {o:Oper} {a:Act} {w:World} {K K':Act → WK} (h:a3z P ops o a w K) (hk:∀ v w',K (a.put o.dst v) w' → K' (a.put o.dst v) w'):a3z P ops o a w K':=by
 unfold a3z at *
 cases hw:Region.wanted o (yielded ops a.tmps) with
 | true=>rw [hw] at h; exact a9r h (fun v w'=>hk v w')
 | false=>rw [hw] at h; exact hk _ _ h
def a8g (P:Program) (ops:Array Oper) (C:WK) (Q:Act → WK):List (Nat × Bool) → Act → WK
 | [],a,w=>Q a w
 | (i,true) :: r,a,w=>∃ o,ops[i]? = some o ∧ ∃ v,Looks P ops C o a v ∧ a8g P ops C Q r (a.put o.dst v) w
 | (i,false) :: r,a,w=>∃ o,ops[i]? = some o ∧ a3z P ops o a w (fun a' w'=>C w' ∧ a8g P ops C Q r a' w')
def b8m (P:Program) (ops:Array Oper) (C:WK) (Q:Act → WK):Nat → Array Bool → Act → WK
 | 0,listed,a,w=>C w ∧ Region.ready .any ops listed = [] ∧ Q a w
 | n + 1,listed,a,w=>C w ∧ (Region.ready .any ops listed = [] → Q a w) ∧
  ∀ i ∈ Region.ready .any ops listed,∀ o,ops[i]? = some o → a3z P ops o a w (b8m P ops C Q n (listed.setIfInBounds i true))
theorem g5z {Q:Act → WK} {n:Nat} {listed:Array Bool} {a:Act} {w:World} (h:b8m P ops C Q n listed a w):C w:=by
 cases n <;> exact h.1
theorem a6d {Q:Act → WK} {Q':Exit → Act → WK} (hQ:∀ a w,Q a w → Q' .normal a w):∀ (n:Nat) (listed:Array Bool) (a:Act) (w:World),
  b8m P ops C Q n listed a w → wpAny P .any ops Q' n listed a w
 | 0,_,_,_,h=>⟨h.2.1,hQ _ _ h.2.2⟩
 | n + 1,listed,a,w,h=>by
  refine ⟨fun h0=>hQ _ _ (h.2.1 h0),fun i hi=>?_⟩
  obtain ⟨_,o,ho,_⟩:=mem_ready.1 hi
  have hs:=h.2.2 i hi o ho
  unfold wpOp
  rw [ho]
  show if Region.wanted o (yielded ops a.tmps) = true then _ else _
  unfold a3z at hs
  cases hwant:Region.wanted o (yielded ops a.tmps) with
  | false=>
   rw [hwant] at hs
   rw [if_neg (by simp)]
   exact a6d hQ n _ _ _ hs
  | true=>
   rw [hwant] at hs
   rw [if_pos rfl]
   left
   unfold Oper.wp
   revert hs
   show a6n P (execOp a.eval o) _ w → _
   unfold a6n
   generalize (execOp a.eval o).run P w = r
   intro hs
   cases r with
   | halt x w'=>exact hs.elim
   | ok x w'=>
    cases x with
    | value u=>exact a6d hQ n _ _ _ hs
    | skip=>exact a6d hQ n _ _ _ hs
    | enter f args=>
     refine Calls.mono hs ?_
     rintro e w'' ⟨v,rfl,hc⟩
     exact a6d hQ n _ _ _ hc
    | _=>exact hs.elim
theorem Looks.put {oi oj:Oper} {a:Act} {v u:Value} (hs:∀ cs b,oi.op ≠ .select cs b) (h:∀ d,oj.dst = some d → d ∉ oi.looksAt ops):Looks P ops C oi (a.put oj.dst u) v ↔ Looks P ops C oi a v:=by
 unfold Looks
 rw [wanted_put oi a oj.dst u h,execOp_put oi hs a oj.dst u h]
theorem Looks.step {oi:Oper} {a:Act} {v:Value} {w:World} {K:Act → WK} (h:Looks P ops C oi a v) (hw:C w) (k:K (a.put oi.dst v) w):a3z P ops oi a w K:=by
 unfold Looks at h
 unfold a3z
 cases hwant:Region.wanted oi (yielded ops a.tmps) with
 | false=>rw [hwant] at h; have h:v = undef:=h; subst h; exact k
 | true=>
  rw [hwant] at h
  have h:=h w hw
  show a6n P (execOp a.eval oi) _ w
  unfold a6n
  rw [h]
  exact k
theorem b9w {Q:Act → WK} {i:Nat} {oi:Oper} {v:Value} (hi:ops[i]? = some oi) (hsel:∀ (j:Nat) (o:Oper) cs b,ops[j]? = some o → o.op ≠ .select cs b) :
  ∀ (n:Nat) (listed:Array Bool) (a:Act) (w:World),
   (∀ j oj,ops[j]? = some oj → j ≠ i → listed.getD j true = false → (∀ e ∈ oj.after,Region.binds .any e = true → e.on ≠ i) → oi.apart ops oj = true) →
   i ∈ Region.ready .any ops listed → Looks P ops C oi a v → C w →
   b8m P ops C Q n (listed.setIfInBounds i true) (a.put oi.dst v) w → b8m P ops C Q (n + 1) listed a w:=by
 intro n
 induction n with
 | zero=>
  intro listed a w _ hr hy hw H
  refine ⟨hw,fun h=>absurd hr (by rw [h]; simp),fun j hj oj hoj=>?_⟩
  by_cases hji:j = i
  ·subst hji
   obtain rfl:oi = oj:=by rw [hi] at hoj; exact oI hoj
   exact hy.step hw H
  ·have h1:=ready_mono hj hji
   rw [H.2.1] at h1
   cases h1
 | succ n ih=>
  intro listed a w hfree hr hy hw H
  refine ⟨hw,fun h=>absurd hr (by rw [h]; simp),fun j hj oj hoj=>?_⟩
  by_cases hji:j = i
  ·subst hji
   obtain rfl:oi = oj:=by rw [hi] at hoj; exact oI hoj
   exact hy.step hw H
  ·obtain ⟨hjun,oj',hoj',hall⟩:=mem_ready.1 hj
   obtain rfl:oj = oj':=by rw [hoj] at hoj'; exact oI hoj'
   have hiun:=(mem_ready.1 hr).1
   have hnot:∀ e ∈ oj.after,Region.binds .any e = true → e.on ≠ i:=by
    intro e he hb heq
    have h1:=hall e he hb
    rw [heq] at h1
    unfold Array.getD at h1 hiun
    split at h1
    ·rename_i hlt
     rw [dif_pos hlt] at hiun
     rw [hiun] at h1
     cases h1
    ·cases h1
   have hap:=hfree j oj hoj hji hjun hnot
   obtain ⟨h1,h2,h3⟩:=Oper.apart_spec hap
   have hs:=H.2.2 j (ready_mono hj hji) oj hoj
   have hs':a3z P ops oj a w (fun a' w'=>b8m P ops C Q n ((listed.setIfInBounds i true).setIfInBounds j true) (a'.put oi.dst v) w'):=by
    unfold a3z at hs ⊢
    rw [wanted_put oj a oi.dst v h1,execOp_put oj (fun cs b=>hsel j oj cs b hoj) a oi.dst v h1] at hs
    cases hwant:Region.wanted oj (yielded ops a.tmps) with
    | true=>
     rw [hwant] at hs
     exact a9r hs (fun u w' h=>by
      show b8m P ops C Q n _ ((a.put oj.dst u).put oi.dst v) w'
      rw [← Act.put_comm a v u h2]; exact h)
    | false=>
     rw [hwant] at hs
     show b8m P ops C Q n _ ((a.put oj.dst undef).put oi.dst v) w
     rw [← Act.put_comm a v undef h2]; exact hs
   refine a3f hs' (fun u w' hn=>ih _ _ _ ?_ (ready_mono hr (fun e=>hji e.symm)) ((Looks.put (fun cs b=>hsel i oi cs b hi) h3).2 hy) (g5z hn) ?_)
   ·intro k ok hk hki hun hno
    refine hfree k ok hk hki ?_ hno
    by_cases hjk:j = k
    ·subst hjk; exact hjun
    ·rw [getD_set_ne true hjk] at hun; exact hun
   ·rw [Array.setIfInBounds_comm _ _ hji]
    exact hn
theorem c1j {Q:Act → WK} (hs:Region.noSelect ops = true):∀ (l:List (Nat × Bool)) (listed:Array Bool) (a:Act) (w:World),
  b5c ops l listed = true → C w → a8g P ops C Q l a w → b8m P ops C Q l.length listed a w
 | [],listed,a,w,hB,hw,h=>⟨hw,by simpa [b5c] using hB,h⟩
 | (i,true) :: r,listed,a,w,hB,hw,h=>by
  simp only [b5c,bA] at hB
  obtain ⟨⟨hr,hf⟩,hB'⟩:=hB
  obtain ⟨o,ho,v,hv,hn⟩:=h
  exact b9w ho (Region.noSelect_spec hs) r.length listed a w (Region.free_spec ho hf) (by simpa using hr) hv hw (c1j hs r _ _ w hB' hw hn)
 | (i,false) :: r,listed,a,w,hB,hw,h=>by
  simp only [b5c,bA,beq_iff_eq] at hB
  obtain ⟨hr,hB'⟩:=hB
  obtain ⟨o,ho,hs'⟩:=h
  refine ⟨hw,fun h0=>absurd (hr.symm.trans h0) (by simp),fun j hj oj hoj=>?_⟩
  rw [hr,List.mem_singleton] at hj
  subst hj
  obtain rfl:o = oj:=by rw [ho] at hoj; exact oI hoj
  exact a3f hs' (fun v w' ⟨hc,hn⟩=>c1j hs r _ _ w' hB' hc hn)
theorem f0z {Q:Exit → Act → WK} {a:Act} {w:World} (hB:e2d ops = true) (hC:C { w with drawn:=w.drawn + 1 })
  (h:a8g P ops C (fun a' w'=>Q .normal a' w') (b4e ops) a { w with drawn:=w.drawn + 1 }):wpAny P .any ops Q ops.size (Array.replicate ops.size false) a { w with drawn:=w.drawn + 1 }:=by
 simp only [e2d,bA] at hB
 refine a6d (C:=C) (Q:=fun a' w'=>Q .normal a' w') (fun a w h=>h) _ _ _ _ ?_
 have:=c1j hB.1.1 _ _ _ _ hB.1.2 hC h
 rw [Nat.eq_of_beq_eq_true hB.2] at this
 exact this
inductive Tr where
 | done
 | look (i:Nat) (t:Tr)
 | only (i:Nat) (t:Tr)
 | alt (i:Nat) (t u:Tr)
def Tr.heads:Tr → List Nat
 | .only i _=>[i]
 | .alt i _ u=>i :: u.heads
 | _=>[]
def trB (ops:Array Oper):Tr → Bool → Nat → Array Bool → Bool
 | .done,_,m,listed=>Nat.beq m 0 && (Region.ready .any ops listed).isEmpty
 | .look i t,inside,m,listed=>!inside && (Nat.ble 1 m && ((Region.ready .any ops listed).contains i && (Region.free .any ops listed i && trB ops t false (m - 1) (listed.setIfInBounds i true))))
 | .only i t,inside,m,listed=>(inside || Region.ready .any ops listed == [i]) && (Nat.ble 1 m && trB ops t false (m - 1) (listed.setIfInBounds i true))
 | .alt i t u,inside,m,listed=>(inside || Region.ready .any ops listed == i :: u.heads) && (Nat.ble 1 m && (trB ops t false (m - 1) (listed.setIfInBounds i true) && trB ops u true m listed))
def h1z (ops:Array Oper) (t:Tr):Bool:=Region.noSelect ops && trB ops t false ops.size (Array.replicate ops.size false)
end
end Go.Sh
namespace Go.Sh
open Go
section
variable {P:Program} {ops:Array Oper} {C:Nat → WK} {ws:List Nat}
def a0p (C:Nat → WK) (n:Nat) (w:World):Prop:=∃ s,s ≤ n ∧ C s w
def g7d (l:List (Nat × Bool)):List Nat:=l.filterMap (fun x=>bif x.2 then none else some x.1)
def stage (ws:List Nat) (listed:Array Bool):Nat:=(ws.filter (fun j=>listed.getD j false)).length
def f2b (ops:Array Oper) (i:Nat):Array Bool:=
 (List.range ops.size).foldl (fun cl j=>bif !Nat.beq j i && (match ops[j]? with | some o=>(b1o o).all (fun d=>cl.getD d false) | none=>false) then cl.setIfInBounds j true else cl) (Array.replicate ops.size false)
def g8d (ops:Array Oper) (cl:Array Bool) (i:Nat):Bool:=(Region.ready .any ops cl).all (fun j=>Nat.beq j i)
def g9n (listed cl:Array Bool):Bool:=(List.range listed.size).all (fun j=>!listed.getD j false || cl.getD j false)
def e3f (ops:Array Oper) (ws:List Nat) (i:Nat):Nat:=stage ws (f2b ops i)
def b7i (ops:Array Oper) (ws:List Nat):List (Nat × Bool) → Array Bool → Bool
 | [],listed=>(Region.ready .any ops listed).isEmpty
 | (i,true) :: r,listed=>(Region.ready .any ops listed).contains i && Region.free .any ops listed i && !ws.contains i && Nat.beq (f2b ops i).size ops.size && g8d ops (f2b ops i) i && g9n listed (f2b ops i) && b7i ops ws r (listed.setIfInBounds i true)
 | (i,false) :: r,listed=>(Region.ready .any ops listed == [i]) && Nat.beq (stage ws (listed.setIfInBounds i true)) (stage ws listed + 1) && b7i ops ws r (listed.setIfInBounds i true)
def c8n (ops:Array Oper):Bool:=Region.noSelect ops && b7i ops (g7d (b4e ops)) (b4e ops) (Array.replicate ops.size false) && Nat.beq (b4e ops).length ops.size && Nat.beq (stage (g7d (b4e ops)) (Array.replicate ops.size false)) 0
def Sub (listed cl:Array Bool):Prop:=∀ j,listed.getD j false = true → cl.getD j false = true
theorem g7e {listed cl:Array Bool} (h:g9n listed cl = true):Sub listed cl:=by
 intro j hj
 unfold g9n at h
 rw [List.all_eq_true] at h
 have hlt:j < listed.size:=by
  rcases Nat.lt_or_ge j listed.size with h' | h'
  ·exact h'
  ·simp [Array.getD,Nat.not_lt.2 h'] at hj
 have:=h j (List.mem_range.2 hlt)
 rw [hj] at this
 simpa using this
theorem c0a {listed cl:Array Bool} (h:Sub listed cl):stage ws listed ≤ stage ws cl:=by
 unfold stage
 induction ws with
 | nil=>simp
 | cons j r ih=>
  simp only [List.filter_cons]
  cases hj:listed.getD j false with
  | true=>
   rw [h j hj]
   simpa using ih
  | false=>
   cases cl.getD j false with
   | true=>simp only [Bool.false_eq_true,if_true,if_false,List.length_cons]; omega
   | false=>simpa using ih
theorem b1n {listed:Array Bool} {i:Nat} (h:ws.contains i = false):stage ws (listed.setIfInBounds i true) = stage ws listed:=by
 unfold stage
 congr 1
 apply List.filter_congr
 intro j hj
 exact getD_set_ne false (fun e=>by
  subst e
  have:ws.contains i = true:=by simpa using hj
  rw [h] at this; cases this)
theorem f2c {listed cl:Array Bool} {i j:Nat} (hs:Sub listed cl) (hsz:cl.size = ops.size) (hsat:g8d ops cl i = true) (hj:j ∈ Region.ready .any ops listed) (hji:j ≠ i):Sub (listed.setIfInBounds j true) cl:=by
 intro k hk
 by_cases hkj:j = k
 ·subst hkj
  cases hc:cl.getD j false with
  | true=>rfl
  | false=>
   obtain ⟨h0,o,ho,hall⟩:=mem_ready.1 hj
   have hlt:j < cl.size:=by rw [hsz]; exact (Array.getElem?_eq_some_iff.1 ho).1
   have hm:j ∈ Region.ready .any ops cl:=mem_ready.2 ⟨by
    unfold Array.getD at hc ⊢
    rw [dif_pos hlt] at hc ⊢
    exact hc,o,ho,fun e he hb=>hs _ (hall e he hb)⟩
   unfold g8d at hsat
   rw [List.all_eq_true] at hsat
   exact absurd (Nat.eq_of_beq_eq_true (hsat j hm)) hji
 ·rw [getD_set_ne false hkj] at hk
  exact hs k hk
def a6e (P:Program) (ops:Array Oper) (ws:List Nat) (C:Nat → WK) (Q:Act → WK):List (Nat × Bool) → Nat → Act → WK
 | [],_,a,w=>Q a w
 | (i,true) :: r,s,a,w=>∃ o,ops[i]? = some o ∧ ∃ v,Looks P ops (a0p C (e3f ops ws i)) o a v ∧ a6e P ops ws C Q r s (a.put o.dst v) w
 | (i,false) :: r,s,a,w=>∃ o,ops[i]? = some o ∧ a3z P ops o a w (fun a' w'=>C (s + 1) w' ∧ a6e P ops ws C Q r (s + 1) a' w')
theorem a6o:∀ (l:List (Nat × Bool)) (s:Nat) {Q Q':Act → WK} (a:Act) (w:World),a6e P ops ws C Q l s a w → (∀ a w,Q a w → Q' a w) → a6e P ops ws C Q' l s a w
 | [],_,_,_,_,_,h,hq=>hq _ _ h
 | (i,true) :: r,s,_,_,a,w,⟨o,ho,v,hv,h⟩,hq=>⟨o,ho,v,hv,a6o r s _ _ h hq⟩
 | (i,false) :: r,s,_,_,a,w,⟨o,ho,h⟩,hq=>⟨o,ho,a3f h (fun _ _ ⟨hc,h⟩=>⟨hc,a6o r (s + 1) _ _ h hq⟩)⟩
def f2d (P:Program) (ops:Array Oper) (ws:List Nat) (C:Nat → WK) (Q:Act → WK):Nat → Array Bool → Act → WK
 | 0,listed,a,w=>C (stage ws listed) w ∧ Region.ready .any ops listed = [] ∧ Q a w
 | n + 1,listed,a,w=>C (stage ws listed) w ∧ (Region.ready .any ops listed = [] → Q a w) ∧
  ∀ i ∈ Region.ready .any ops listed,∀ o,ops[i]? = some o → a3z P ops o a w (f2d P ops ws C Q n (listed.setIfInBounds i true))
theorem f8e {Q:Act → WK} {n:Nat} {listed:Array Bool} {a:Act} {w:World} (h:f2d P ops ws C Q n listed a w):C (stage ws listed) w:=by
 cases n <;> exact h.1
theorem a6p {Q:Act → WK} {Q':Exit → Act → WK} (hQ:∀ a w,Q a w → Q' .normal a w):∀ (n:Nat) (listed:Array Bool) (a:Act) (w:World),
  f2d P ops ws C Q n listed a w → wpAny P .any ops Q' n listed a w
 | 0,_,_,_,h=>⟨h.2.1,hQ _ _ h.2.2⟩
 | n + 1,listed,a,w,h=>by
  refine ⟨fun h0=>hQ _ _ (h.2.1 h0),fun i hi=>?_⟩
  obtain ⟨_,o,ho,_⟩:=mem_ready.1 hi
  have hs:=h.2.2 i hi o ho
  unfold wpOp
  rw [ho]
  show if Region.wanted o (yielded ops a.tmps) = true then _ else _
  unfold a3z at hs
  cases hwant:Region.wanted o (yielded ops a.tmps) with
  | false=>
   rw [hwant] at hs
   rw [if_neg (by simp)]
   exact a6p hQ n _ _ _ hs
  | true=>
   rw [hwant] at hs
   rw [if_pos rfl]
   left
   unfold Oper.wp
   revert hs
   show a6n P (execOp a.eval o) _ w → _
   unfold a6n
   generalize (execOp a.eval o).run P w = r
   intro hs
   cases r with
   | halt x w'=>exact hs.elim
   | ok x w'=>
    cases x with
    | value u=>exact a6p hQ n _ _ _ hs
    | skip=>exact a6p hQ n _ _ _ hs
    | enter f args=>
     refine Calls.mono hs ?_
     rintro e w'' ⟨v,rfl,hc⟩
     exact a6p hQ n _ _ _ hc
    | _=>exact hs.elim
theorem c8o {Q:Act → WK} {i:Nat} {oi:Oper} {v:Value} {cl:Array Bool} (hiw:ws.contains i = false) (hsz:cl.size = ops.size) (hsat:g8d ops cl i = true) (hi:ops[i]? = some oi) (hsel:∀ (j:Nat) (o:Oper) cs b,ops[j]? = some o → o.op ≠ .select cs b) :
  ∀ (n:Nat) (listed:Array Bool) (a:Act) (w:World),
   (∀ j oj,ops[j]? = some oj → j ≠ i → listed.getD j true = false → (∀ e ∈ oj.after,Region.binds .any e = true → e.on ≠ i) → oi.apart ops oj = true) →
   i ∈ Region.ready .any ops listed → Looks P ops (a0p C (stage ws cl)) oi a v → Sub listed cl →
   f2d P ops ws C Q n (listed.setIfInBounds i true) (a.put oi.dst v) w → f2d P ops ws C Q (n + 1) listed a w:=by
 intro n
 induction n with
 | zero=>
  intro listed a w _ hr hy hsub H
  have hw:C (stage ws listed) w:=b1n (listed:=listed) hiw ▸ f8e H
  refine ⟨hw,fun h=>absurd hr (by rw [h]; simp),fun j hj oj hoj=>?_⟩
  by_cases hji:j = i
  ·subst hji
   obtain rfl:oi = oj:=by rw [hi] at hoj; exact oI hoj
   exact hy.step ⟨_,c0a hsub,hw⟩ H
  ·have h1:=ready_mono hj hji
   rw [H.2.1] at h1
   cases h1
 | succ n ih=>
  intro listed a w hfree hr hy hsub H
  have hw:C (stage ws listed) w:=b1n (listed:=listed) hiw ▸ f8e H
  refine ⟨hw,fun h=>absurd hr (by rw [h]; simp),fun j hj oj hoj=>?_⟩
  by_cases hji:j = i
  ·subst hji
   obtain rfl:oi = oj:=by rw [hi] at hoj; exact oI hoj
   exact hy.step ⟨_,c0a hsub,hw⟩ H
  ·obtain ⟨hjun,oj',hoj',hall⟩:=mem_ready.1 hj
   obtain rfl:oj = oj':=by rw [hoj] at hoj'; exact oI hoj'
   have hiun:=(mem_ready.1 hr).1
   have hnot:∀ e ∈ oj.after,Region.binds .any e = true → e.on ≠ i:=by
    intro e he hb heq
    have h1:=hall e he hb
    rw [heq] at h1
    unfold Array.getD at h1 hiun
    split at h1
    ·rename_i hlt
     rw [dif_pos hlt] at hiun
     rw [hiun] at h1
     cases h1
    ·cases h1
   have hap:=hfree j oj hoj hji hjun hnot
   obtain ⟨h1,h2,h3⟩:=Oper.apart_spec hap
   have hs:=H.2.2 j (ready_mono hj hji) oj hoj
   have hs':a3z P ops oj a w (fun a' w'=>f2d P ops ws C Q n ((listed.setIfInBounds i true).setIfInBounds j true) (a'.put oi.dst v) w'):=by
    unfold a3z at hs ⊢
    rw [wanted_put oj a oi.dst v h1,execOp_put oj (fun cs b=>hsel j oj cs b hoj) a oi.dst v h1] at hs
    cases hwant:Region.wanted oj (yielded ops a.tmps) with
    | true=>
     rw [hwant] at hs
     exact a9r hs (fun u w' h=>by
      show f2d P ops ws C Q n _ ((a.put oj.dst u).put oi.dst v) w'
      rw [← Act.put_comm a v u h2]; exact h)
    | false=>
     rw [hwant] at hs
     show f2d P ops ws C Q n _ ((a.put oj.dst undef).put oi.dst v) w
     rw [← Act.put_comm a v undef h2]; exact hs
   refine a3f hs' (fun u w' hn=>ih _ _ _ ?_ (ready_mono hr (fun e=>hji e.symm)) ((Looks.put (fun cs b=>hsel i oi cs b hi) h3).2 hy) (f2c hsub hsz hsat hj hji) ?_)
   ·intro k ok hk hki hun hno
    refine hfree k ok hk hki ?_ hno
    by_cases hjk:j = k
    ·subst hjk; exact hjun
    ·rw [getD_set_ne true hjk] at hun; exact hun
   ·rw [Array.setIfInBounds_comm _ _ hji]
    exact hn
theorem b7j {Q:Act → WK} (hs:Region.noSelect ops = true):∀ (l:List (Nat × Bool)) (listed:Array Bool) (a:Act) (w:World),
  b7i ops ws l listed = true → C (stage ws listed) w → a6e P ops ws C Q l (stage ws listed) a w → f2d P ops ws C Q l.length listed a w
 | [],listed,a,w,hB,hw,h=>⟨hw,by simpa [b7i] using hB,h⟩
 | (i,true) :: r,listed,a,w,hB,hw,h=>by
  simp only [b7i,bA,Bool.not_eq_true'] at hB
  obtain ⟨⟨⟨⟨⟨⟨hr,hf⟩,hiw⟩,hsz⟩,hsat⟩,hsub⟩,hB'⟩:=hB
  obtain ⟨o,ho,v,hv,hn⟩:=h
  exact c8o hiw (Nat.eq_of_beq_eq_true hsz) hsat ho (Region.noSelect_spec hs) r.length listed a w (Region.free_spec ho hf) (by simpa using hr) hv (g7e hsub) (b7j hs r _ _ w hB' (by rw [b1n hiw]; exact hw) (by rw [b1n hiw]; exact hn))
 | (i,false) :: r,listed,a,w,hB,hw,h=>by
  simp only [b7i,bA,beq_iff_eq] at hB
  obtain ⟨⟨hr,hst⟩,hB'⟩:=hB
  have hst:=Nat.eq_of_beq_eq_true hst
  obtain ⟨o,ho,hs'⟩:=h
  refine ⟨hw,fun h0=>absurd (hr.symm.trans h0) (by simp),fun j hj oj hoj=>?_⟩
  rw [hr,List.mem_singleton] at hj
  subst hj
  obtain rfl:o = oj:=by rw [ho] at hoj; exact oI hoj
  exact a3f hs' (fun v w' ⟨hc,hn⟩=>b7j hs r _ _ w' hB' (by rw [hst]; exact hc) (by rw [hst]; exact hn))
theorem e3g {Q:Exit → Act → WK} {a:Act} {w:World} (hB:c8n ops = true) (hC:C 0 { w with drawn:=w.drawn + 1 })
  (h:a6e P ops (g7d (b4e ops)) C (fun a' w'=>Q .normal a' w') (b4e ops) 0 a { w with drawn:=w.drawn + 1 }):wpAny P .any ops Q ops.size (Array.replicate ops.size false) a { w with drawn:=w.drawn + 1 }:=by
 simp only [c8n,bA] at hB
 obtain ⟨⟨⟨h1,h2⟩,h3⟩,h4⟩:=hB
 have h4:=Nat.eq_of_beq_eq_true h4
 refine a6p (ws:=g7d (b4e ops)) (C:=C) (Q:=fun a' w'=>Q .normal a' w') (fun a w h=>h) _ _ _ _ ?_
 have:=b7j h1 _ (Array.replicate ops.size false) a { w with drawn:=w.drawn + 1 } h2 (by rw [h4]; exact hC) (by rw [h4]; exact h)
 rw [Nat.eq_of_beq_eq_true h3] at this
 exact this
end
end Go.Sh
namespace Go.Sh
open Go
abbrev Env:=Nat → Value
def evE (e:Env):Operand → Value
 | .tmp t=>e t
 | .const v=>v
 | .global g=>.pointer (some ⟨g,0,none⟩)
 | .func f=>.func (.func f) #[] #[]
def upd (n:Nat) (e:Env):Option Nat → Value → Env
 | none,_=>e
 | some d,v=>fun i=>bif Nat.beq i d && Nat.blt d n then v else e i
structure Rel (ds:List Deferred) (n:Nat) (e:Env) (a:Act):Prop where
 size:a.tmps.size = n
 defers:a.defers = ds
 get:∀ i,a.tmps.getD i undef = e i
variable {ds:List Deferred}
theorem Rel.eval {n:Nat} {e:Env} {a:Act} (h:Rel ds n e a):a.eval = evE e:=by
 funext x
 cases x <;> simp only [Act.eval,evE]
 exact h.get _
theorem Rel.put {n:Nat} {e:Env} {a:Act} (h:Rel ds n e a) (d:Option Nat) (v:Value):Rel ds n (upd n e d v) (a.put d v):=by
 cases d with
 | none=>exact h
 | some d=>
  refine ⟨by simp [Act.put,h.size],by simpa [Act.put] using h.defers,fun i=>?_⟩
  have hg:=h.get i
  simp only [Act.put,upd,Array.getD_eq_getD_getElem?,Array.getElem?_setIfInBounds,h.size] at hg ⊢
  by_cases hi:i = d
  ·subst hi
   by_cases hd:i < n
   ·have hb:Nat.blt i n = true:=by simpa [Nat.blt,Nat.succ_le_iff] using hd
    simp [hd,hb]
   ·have hb:Nat.blt i n = false:=by
     cases hx:Nat.blt i n with
     | false=>rfl
     | true=>exact absurd (by simpa [Nat.blt,Nat.succ_le_iff] using hx) hd
    simp [hd,← hg,h.size,hb]
  ·have hb:Nat.beq i d = false:=by
    cases hx:Nat.beq i d with
    | false=>rfl
    | true=>exact absurd (Nat.eq_of_beq_eq_true hx) hi
   rw [if_neg (fun e=>hi e.symm),hg,hb]
   rfl
def opM (P:Program) (s:Sem Next) (K:VK) (w:World):Prop:=
 match s.run P w with
 | .ok (.value v) w'=>K v w'
 | .ok .skip w'=>K undef w'
 | .ok (.enter f args) w'=>Calls P f args w' (fun e w''=>∃ v,e = .returned v ∧ K v w'')
 | _=>False
def a0a (P:Program) (f:FuncId) (args:Array Value) (K:VK) (w:World):Prop:=
 Calls P f args w (fun e w'=>∃ v,e = .returned v ∧ K v w')
def g7v (P:Program) (f:FuncId) (args:Array Value) (K:VK) (w:World):Prop:=opM P (callFunc f args) K w
def a0f (v:Value) (K:VK) (w:World):Prop:=K v w
theorem e1n {P:Program} {x:Sem Value} {K:VK} {w:World}:opM P (do let v ← x; pure (.value v)) K w ↔ ∃ v w',x.run P w = .ok v w' ∧ K v w':=by
 unfold opM
 rw [Sem.run_bind]
 generalize x.run P w = r
 cases r with
 | halt=>simp
 | ok v w'=>exact ⟨fun h=>⟨v,w',rfl,h⟩,fun ⟨_,_,h,hk⟩=>by cases h; exact hk⟩
theorem b2y {P:Program} {s:Sem Next} {K K':VK} {w:World} (h:opM P s K w) (hk:∀ v w',K v w' → K' v w'):opM P s K' w:=by
 unfold opM at *
 generalize s.run P w = r at *
 cases r with
 | halt=>exact h.elim
 | ok n w'=>
  cases n <;> try exact h.elim
  ·exact hk _ _ h
  ·exact hk _ _ h
  ·exact Calls.mono h (fun e w'' ⟨v,hv,h⟩=>⟨v,hv,hk _ _ h⟩)
theorem g5t {P:Program} {o:Oper} {a:Act} {w:World} {next:Act → WK} {Q:Exit → Act → WK}
  (h:opM P (execOp a.eval o) (fun v w'=>next (a.put o.dst v) w') w):o.wp P a w next Q:=by
 unfold opM at h; unfold Oper.wp
 generalize (execOp a.eval o).run P w = r at h
 cases r with
 | halt=>exact h.elim
 | ok n w'=>
  cases n <;> try exact h.elim
  ·exact h
  ·exact h
  ·rw [Oper.upon_enter]
   refine Calls.mono h ?_
   rintro e w'' ⟨v,rfl,hk⟩
   exact hk
def a8n:Operand → Bool
 | .const _=>true
 | _=>false
def num (keep:Bool):Nat → List Operand → List Operand × List Operand
 | _,[]=>([],[])
 | k,x :: xs=>bif keep && a8n x then (x :: (num keep k xs).1,(num keep k xs).2) else (.tmp k :: (num keep (k + 1) xs).1,x :: (num keep (k + 1) xs).2)
def f0m:Nat → List (Nat × Operand) → List (Nat × Operand) × List Operand
 | _,[]=>([],[])
 | k,(i,x) :: xs=>((i,.tmp k) :: (f0m (k + 1) xs).1,x :: (f0m (k + 1) xs).2)
def e5c (k:Nat):Option Operand → Option Operand × List Operand
 | none=>(none,[])
 | some x=>(some (.tmp k),[x])
def b0g:Op → Option (Op × List Operand)
 | .pick c a b=>some (.pick (.tmp 0) (.tmp 1) (.tmp 2),[c,a,b])
 | .alloc t=>some (.alloc t,[])
 | .box t x=>some (.box t (.tmp 0),[x])
 | .build t ps=>some (.build t (f0m 0 ps.toList).1.toArray,(f0m 0 ps.toList).2)
 | .buildSlice t n ps=>some (.buildSlice t n (f0m 0 ps.toList).1.toArray,(f0m 0 ps.toList).2)
 | .load t a=>some (.load t (.tmp 0),[a])
 | .store t a x=>some (.store t (.tmp 0) (.tmp 1),[a,x])
 | .nilCheck x=>some (.nilCheck (.tmp 0),[x])
 | .binOp .eql t x y t'=>some (.binOp .eql t ((num true 0 [x,y]).1.getD 0 x) ((num true 0 [x,y]).1.getD 1 x) t',(num true 0 [x,y]).2)
 | .binOp .neq t x y t'=>some (.binOp .neq t ((num true 0 [x,y]).1.getD 0 x) ((num true 0 [x,y]).1.getD 1 x) t',(num true 0 [x,y]).2)
 | .binOp o t x y t'=>some (.binOp o t (.tmp 0) (.tmp 1) t',[x,y])
 | .unOp o t x=>some (.unOp o t (.tmp 0),[x])
 | .convert s d x=>some (.convert s d (.tmp 0),[x])
 | .makeInterface t x=>some (.makeInterface t (.tmp 0),[x])
 | .makeFunc fn fs cs=>some (.makeFunc fn (num false 0 fs.toList).1.toArray (num false fs.size cs.toList).1.toArray,(num false 0 fs.toList).2 ++ (num false fs.size cs.toList).2)
 | .makeMap t r=>some (.makeMap t (e5c 0 r).1,(e5c 0 r).2)
 | .makeSlice t l c=>some (.makeSlice t (.tmp 0) (.tmp 1),[l,c])
 | .slice t x lo hi none=>some (.slice t (.tmp 0) (e5c 1 lo).1 (e5c (1 + (e5c 1 lo).2.length) hi).1 none,x :: ((e5c 1 lo).2 ++ (e5c (1 + (e5c 1 lo).2.length) hi).2))
 | .fieldAddr t x f=>some (.fieldAddr t (.tmp 0) f,[x])
 | .field t x f=>some (.field t (.tmp 0) f,[x])
 | .indexAddr t x i=>some (.indexAddr t (.tmp 0) (.tmp 1),[x,i])
 | .index t x i=>some (.index t (.tmp 0) (.tmp 1),[x,i])
 | .lookup t x i ok=>some (.lookup t (.tmp 0) (.tmp 1) ok,[x,i])
 | .mapUpdate t m k x=>some (.mapUpdate t (.tmp 0) (.tmp 1) (.tmp 2),[m,k,x])
 | .insert t m k x=>some (.insert t (.tmp 0) (.tmp 1) (.tmp 2),[m,k,x])
 | .mapEntry t m k=>some (.mapEntry t (.tmp 0) (.tmp 1),[m,k])
 | .entryStore t m s x=>some (.entryStore t (.tmp 0) (.tmp 1) (.tmp 2),[m,s,x])
 | .range t x=>some (.range t (.tmp 0),[x])
 | .next it s=>some (.next (.tmp 0) s,[it])
 | .entry it=>some (.entry (.tmp 0),[it])
 | .typeAssert x t t' ok=>some (.typeAssert (.tmp 0) t t' ok,[x])
 | .extract t i=>some (.extract (.tmp 0) i,[t])
 | .panic x=>some (.panic (.tmp 0),[x])
 | .call { callee:=.builtin b,args:=args,argTypes:=ts }=>some (.call { callee:=.builtin b,args:=(num true 0 args.toList).1.toArray,argTypes:=ts },(num true 0 args.toList).2)
 | .call { callee:=.value f,args:=args,argTypes:=ts }=>some (.call { callee:=.value (.tmp 0),args:=(num false 1 args.toList).1.toArray,argTypes:=ts },f :: (num false 1 args.toList).2)
 | _=>none
def a1e (args:List Value):Operand → Value:=evE (fun t=>args.getD t undef)
theorem c1a (keep:Bool) (ρ:Operand → Value) (hc:∀ v,ρ (.const v) = v):∀ (xs:List Operand) (k:Nat) (pre:List Value) (post:List Value),pre.length = k →
  (num keep k xs).1.map (a1e (pre ++ (num keep k xs).2.map ρ ++ post)) = xs.map ρ
 | [],_,_,_,_=>rfl
 | x :: xs,k,pre,post,hk=>by
  unfold num
  cases hb:keep && a8n x with
  | true=>
   simp only [cond_true,List.map_cons]
   rw [c1a keep ρ hc xs k pre post hk]
   congr 1
   cases x <;> simp_all [a8n,a1e,evE]
  | false=>
   simp only [cond_false,List.map_cons]
   have:=c1a keep ρ hc xs (k + 1) (pre ++ [ρ x]) post (by simp [hk])
   simp only [List.append_assoc,List.cons_append,List.nil_append] at this ⊢
   rw [this]
   congr 1
   simp [a1e,evE,← hk]
theorem b6n (keep:Bool):∀ (xs:List Operand) (k:Nat),keep = true → (num keep k xs).1.map a8n = xs.map a8n
 | [],_,_=>rfl
 | x :: xs,k,hk=>by
  unfold num
  subst hk
  cases hb:a8n x with
  | true=>simp [hb,b6n true xs k rfl]
  | false=>
   simp [hb,b6n true xs (k + 1) rfl]
   rfl
theorem b6o (ρ:Operand → Value):∀ (xs:List (Nat × Operand)) (k:Nat) (pre:List Value),pre.length = k →
  (f0m k xs).1.map (fun (i,x)=>(i,a1e (pre ++ (f0m k xs).2.map ρ) x)) = xs.map (fun (i,x)=>(i,ρ x))
 | [],_,_,_=>rfl
 | (i,x) :: xs,k,pre,hk=>by
  unfold f0m
  simp only [List.map_cons]
  have:=b6o ρ xs (k + 1) (pre ++ [ρ x]) (by simp [hk])
  simp only [List.append_assoc,List.cons_append,List.nil_append] at this
  rw [this]
  congr 1
  simp [a1e,evE,← hk]
def xop (o : Op) (type : TypeId) (args : List Value) : Sem Next := execOp (a1e args) { dst := none, op := o, type := type, pos := "", after := #[], guard := none }
theorem c1b (ρ:Operand → Value) (hc:∀ v,ρ (.const v) = v) (keep:Bool) (xs:Array Operand) (k:Nat) (pre post:List Value) (hk:pre.length = k) :
  (num keep k xs.toList).1.toArray.map (a1e (pre ++ (num keep k xs.toList).2.map ρ ++ post)) = xs.map ρ:=by
 rw [List.map_toArray,c1a keep ρ hc _ _ _ _ hk]
 apply Array.ext'
 rw [Array.toList_map]
theorem b0s {ρ:Operand → Value} (hc:∀ v,ρ (.const v) = v) (o:Oper) (op':Op) (xs:List Operand) (h:b0g o.op = some (op',xs)) :
  execOp ρ o = xop op' o.type (xs.map ρ):=by
 obtain ⟨dst,op,type,pos,after,guard⟩:=o
 unfold xop
 cases op with
 | binOp b t x y t'=>
  cases b with
  | eql=>cases x <;> cases y <;> simp only [b0g,Option.some.injEq,Prod.mk.injEq] at h <;> obtain ⟨rfl,rfl⟩:=h <;> simp only [num,a8n,Bool.and_true,Bool.and_false,cond_true,cond_false,List.getD_cons_zero,List.getD_cons_succ,List.map_cons,List.map_nil,execOp,a1e,evE,hc] <;> rfl
  | neq=>cases x <;> cases y <;> simp only [b0g,Option.some.injEq,Prod.mk.injEq] at h <;> obtain ⟨rfl,rfl⟩:=h <;> simp only [num,a8n,Bool.and_true,Bool.and_false,cond_true,cond_false,List.getD_cons_zero,List.getD_cons_succ,List.map_cons,List.map_nil,execOp,a1e,evE,hc] <;> rfl
  | _=>simp only [b0g,Option.some.injEq,Prod.mk.injEq] at h; obtain ⟨rfl,rfl⟩:=h; rfl
 | build t ps=>
  simp only [b0g,Option.some.injEq,Prod.mk.injEq] at h
  obtain ⟨rfl,rfl⟩:=h
  have:=b6o ρ ps.toList 0 [] rfl
  simp only [List.nil_append] at this
  have e:Array.map (fun x=>(x.1,ρ x.2)) ps = (List.map (fun x=>(x.1,ρ x.2)) ps.toList).toArray:=by
   apply Array.ext'
   rw [Array.toList_map]
  simp only [execOp,List.map_toArray,this,e]
 | buildSlice t n ps=>
  simp only [b0g,Option.some.injEq,Prod.mk.injEq] at h
  obtain ⟨rfl,rfl⟩:=h
  have:=b6o ρ ps.toList 0 [] rfl
  simp only [List.nil_append] at this
  have e:Array.map (fun x=>(x.1,ρ x.2)) ps = (List.map (fun x=>(x.1,ρ x.2)) ps.toList).toArray:=by
   apply Array.ext'
   rw [Array.toList_map]
  simp only [execOp,List.map_toArray,this,e]
 | makeFunc fn fs cs=>
  simp only [b0g,Option.some.injEq,Prod.mk.injEq] at h
  obtain ⟨rfl,rfl⟩:=h
  have h1:=c1b ρ hc false fs 0 [] ((num false fs.size cs.toList).2.map ρ) rfl
  have hl:∀ (xs:List Operand) (k:Nat),(num false k xs).2.length = xs.length:=by
   intro xs
   induction xs with
   | nil=>intro k; rfl
   | cons x xs ih=>intro k; simp [num,ih]
  have h2:=c1b ρ hc false cs fs.size ((num false 0 fs.toList).2.map ρ) [] (by simp [hl])
  simp only [List.nil_append,List.append_nil] at h1 h2
  simp only [execOp,List.map_append,h1,h2]
 | makeMap t r=>
  cases r <;> simp only [b0g,e5c,Option.some.injEq,Prod.mk.injEq] at h <;> obtain ⟨rfl,rfl⟩:=h <;> rfl
 | slice t x lo hi mx=>
  cases mx <;> cases lo <;> cases hi <;> simp only [b0g,e5c,Option.some.injEq,Prod.mk.injEq,reduceCtorEq] at h <;> obtain ⟨rfl,rfl⟩:=h <;> rfl
 | call c=>
  obtain ⟨callee,args,ts⟩:=c
  cases callee with
  | invoke r m=>simp [b0g] at h
  | builtin b=>
   simp only [b0g,Option.some.injEq,Prod.mk.injEq] at h
   obtain ⟨rfl,rfl⟩:=h
   have h1:=c1b ρ hc true args 0 [] [] rfl
   simp only [List.nil_append,List.append_nil] at h1
   have h2:=b6n true args.toList 0 rfl
   simp only [execOp,resolve,h1]
   have e:∀ G:Operand → Bool,(∀ x,G x = a8n x) → Array.map G args = Array.map G (num true 0 args.toList).1.toArray:=by
    intro G hG
    have:G = a8n:=funext hG
    subst this
    apply Array.ext'
    rw [Array.toList_map,Array.toList_map]
    exact h2.symm
   exact congrArg (fun cs=>(do let d ← pure ({ target:=Target.builtin b ts type cs,args:=Array.map ρ args }:Deferred); invoke d.target d.args:Sem Next)) (e _ (fun x=>by cases x <;> rfl))
  | value f=>
   simp only [b0g,Option.some.injEq,Prod.mk.injEq] at h
   obtain ⟨rfl,rfl⟩:=h
   have h1:=c1b ρ hc false args 1 [ρ f] [] rfl
   simp only [List.append_nil] at h1
   simp only [execOp,resolve,List.map_cons]
   have:a1e (ρ f :: (num false 1 args.toList).2.map ρ) = a1e ([ρ f] ++ (num false 1 args.toList).2.map ρ):=rfl
   rw [this,h1]
   rfl
 | _=>first | (simp only [b0g,Option.some.injEq,Prod.mk.injEq] at h; obtain ⟨rfl,rfl⟩:=h; rfl) | (simp [b0g] at h)
def oM (P:Program) (o:Op) (type:TypeId) (args:List Value) (K:VK) (w:World):Prop:=opM P (xop o type args) K w
def gd (v:Value) (want:Bool):Bool:=(match (some v:Option Value) with | some (.bool b)=>some b | _=>none) == some want
def gdM (g:Bool) (m:(VK) → WK) (K:VK) (w:World):Prop:=bif g then m K w else K undef w
def a2c (v:Value) (A B:Prop):Prop:=∃ t,v = .bool t ∧ (t = true → A) ∧ (t = false → B)
def a8v (P:Program) (f:FuncId):Bool:=match P.funcs[f]? with
 | some fn => fn.body.isSome && !(fn.name == "runtime.NumGoroutine")
 | none=>false
theorem b4a {P:Program} {f:FuncId} (h:a8v P f = true) (args:Array Value) (w:World):(callFunc f args).run P w = .ok (.enter f args) w:=by
 unfold a8v at h
 unfold callFunc
 rw [Sem.run_bind]
 have hp:(program:Sem Program).run P w = .ok P w:=rfl
 rw [hp,Result.andThen_ok]
 split at h
 ·rename_i fn hfn
  simp only [hfn]
  simp only [bA,Bool.not_eq_true'] at h
  have hn:fn.body.isNone = false:=by
   have:=h.1
   cases hx:fn.body with
   | none=>rw [hx] at this; exact absurd this (by simp)
   | some c=>rfl
  rw [if_neg (by rw [h.2]; simp),if_neg (by rw [hn]; simp)]
  rfl
 ·exact absurd h (by simp)
def b9s:Op → Option (FuncId × List Operand)
 | .call { callee:=.value (.func f),args:=args,argTypes:=_ }=>some (f,args.toList)
 | _=>none
def d2u:Op → Option Operand
 | .move x | .assign x=>some x
 | _=>none
def op1 (P:Program) (e:Env) (o:Oper) (K:VK) (w:World):Prop:=
 match d2u o.op with
 | some x=>K (evE e x) w
 | none=>
  match b9s o.op with
  | some (f,xs)=>match a8v P f with | true=>a0a P f (xs.map (evE e)).toArray K w | false=>g7v P f (xs.map (evE e)).toArray K w
  | none=>
   match b0g o.op with
   | some (op',xs)=>oM P op' o.type (xs.map (evE e)) K w
   | none=>False
theorem b4b {ρ:Operand → Value} {o:Oper} {x:Operand} (hx:d2u o.op = some x):execOp ρ o = pure (.value (ρ x)):=by
 unfold d2u at hx
 split at hx
 ·rename_i hop; simp only [Option.some.injEq] at hx; subst hx; unfold execOp; rw [hop]
 ·rename_i hop; simp only [Option.some.injEq] at hx; subst hx; unfold execOp; rw [hop]
 ·simp at hx
theorem b6p {ρ:Operand → Value} {o:Oper} {f:FuncId} {xs:List Operand} (hf:ρ (.func f) = .func (.func f) #[] #[]) (hs:b9s o.op = some (f,xs)) :
  execOp ρ o = callFunc f (xs.map ρ).toArray:=by
 unfold b9s at hs
 split at hs
 ·rename_i g args ts hop
  simp only [Option.some.injEq,Prod.mk.injEq] at hs
  obtain ⟨rfl,rfl⟩:=hs
  have e1:(args.toList.map ρ).toArray = args.map ρ:=by
   apply Array.ext'
   rw [Array.toList_map]
  rw [e1]
  unfold execOp
  rw [hop]
  show (do let d ← resolve ρ { callee:=.value (.func g),args:=args,argTypes:=ts } o.type; invoke d.target d.args:Sem Next) = _
  have e2:(do let d ← resolve ρ { callee:=.value (.func g),args:=args,argTypes:=ts } o.type; invoke d.target d.args:Sem Next) = callFunc g (#[] ++ args.map ρ ++ #[]):=by
   unfold resolve
   simp only [hf]
   rfl
  rw [e2,Array.append_empty,Array.empty_append]
 ·simp at hs
theorem b6q {P:Program} {e:Env} {o:Oper} {K:VK} {w:World} (h:op1 P e o K w):opM P (execOp (evE e) o) K w:=by
 unfold op1 at h
 split at h
 ·rename_i x hx
  rw [b4b hx]
  exact h
 ·split at h
  ·rename_i f xs hs
   rw [b6p rfl hs]
   cases hb:a8v P f with
   | false=>rw [hb] at h; exact h
   | true=>
    rw [hb] at h
    unfold opM
    rw [b4a hb]
    exact h
  ·split at h
   ·rename_i op' xs hr
    rw [b0s (fun _=>rfl) o op' xs hr]
    exact h
   ·exact h.elim
def a5o (all:Array Oper) (j:Nat):Option Nat:=(all[j]?).bind (·.dst)
def gdE (all:Array Oper) (e:Env) (j:Nat) (want:Bool):Bool:=
 match a5o all j with
 | some d=>gd (e d) want
 | none=>false
theorem a4m {n:Nat} {e:Env} {a:Act} (h:Rel ds n e a) (all:Array Oper) (o:Oper) (j:Nat) (want:Bool) (ho:o.guard = some (j,want)) :
  Region.wanted o (yielded all a.tmps) = gdE all e j want:=by
 unfold Region.wanted
 rw [ho]
 show (yielded all a.tmps j == some want) = _
 unfold gdE a5o yielded
 cases hd:(all[j]?).bind (·.dst) with
 | none=>rw [Option.bind_none]; cases want <;> rfl
 | some d=>
  have hg:=h.get d
  rw [Option.bind_some]
  show _ = gd (e d) want
  unfold gd
  rw [← hg,Array.getD_eq_getD_getElem?]
  cases hx:a.tmps[d]? with
  | none=>cases want <;> rfl
  | some v=>rfl
def ops (P:Program) (n:Nat) (all:Array Oper) (K:Env → WK):List Oper → Env → WK
 | [],e,w=>K e w
 | o :: rest,e,w=>
  match o.guard with
  | none=>op1 P e o (fun v w'=>ops P n all K rest (upd n e o.dst v) w') w
  | some (j,want)=>gdM (gdE all e j want) (op1 P e o) (fun v w'=>ops P n all K rest (upd n e o.dst v) w') w
def AgreeE (mods:List Nat) (e e':Env):Prop:=∀ i,mods.contains i = false → e' i = e i
theorem AgreeE.refl (mods:List Nat) (e:Env):AgreeE mods e e:=fun _ _=>rfl
theorem AgreeE.trans {mods:List Nat} {a b c:Env} (h:AgreeE mods a b) (k:AgreeE mods b c):AgreeE mods a c:=fun i hi=>(k i hi).trans (h i hi)
theorem AgreeE.mono {m m':List Nat} {a b:Env} (h:AgreeE m a b) (hm:∀ i ∈ m,i ∈ m'):AgreeE m' a b:=fun i hi=>h i (by
 cases hx:m.contains i with
 | false=>rfl
 | true=>
  have:=hm i (by simpa using hx)
  simp [this] at hi)
theorem AgreeE.upd {mods:List Nat} {n:Nat} {e:Env} {o:Option Nat} (v:Value) (h:∀ d,o = some d → d ∈ mods):AgreeE mods e (upd n e o v):=by
 cases o with
 | none=>exact AgreeE.refl _ _
 | some d=>
  intro i hi
  unfold Sh.upd
  have hne:i ≠ d:=by
   rintro rfl
   have:=h i rfl
   simp [this] at hi
  have hb:Nat.beq i d = false:=by
   cases hx:Nat.beq i d with
   | false=>rfl
   | true=>exact absurd (Nat.eq_of_beq_eq_true hx) hne
  simp only [hb,bF,cond_false]
theorem f7s {P:Program} {n:Nat} {all:Array Oper} {mods:List Nat} {K:Env → WK}:∀ (l:List Oper) (e:Env) (a:Act) (w:World),Rel ds n e a →
  (∀ o ∈ l,∀ d,o.dst = some d → d ∈ mods) → ops P n all K l e w →
  wpList P all (fun ex a' w'=>ex = .normal ∧ ∃ e',Rel ds n e' a' ∧ AgreeE mods e e' ∧ K e' w') l a w
 | [],e,a,w,hr,_,h=>⟨rfl,e,hr,AgreeE.refl _ _,h⟩
 | o :: rest,e,a,w,hr,hm,h=>by
  have hp:=fun v=>AgreeE.upd (n:=n) (e:=e) (o:=o.dst) v (hm o List.mem_cons_self)
  have lift:∀ v w',ops P n all K rest (Sh.upd n e o.dst v) w' → wpList P all (fun ex a' w'=>ex = .normal ∧ ∃ e',Rel ds n e' a' ∧ AgreeE mods e e' ∧ K e' w') rest (a.put o.dst v) w':=by
   intro v w' h
   have:=f7s rest _ _ w' (hr.put o.dst v) (fun o ho=>hm o (List.mem_cons_of_mem _ ho)) h
   have e0:(fun (ex:Exit) (a':Act) (w':World)=>ex = .normal ∧ ∃ e',Rel ds n e' a' ∧ AgreeE mods e e' ∧ K e' w') = (fun ex a' w'=>ex = .normal ∧ ∃ e',Rel ds n e' a' ∧ AgreeE mods e e' ∧ K e' w'):=rfl
   exact wpList_mono rest _ _ this (fun ex a' w' ⟨h0,e',h1,h2,h3⟩=>⟨h0,e',h1,(hp v).trans h2,h3⟩)
  have one:op1 P e o (fun v w'=>ops P n all K rest (Sh.upd n e o.dst v) w') w → o.wp P a w (wpList P all (fun ex a' w'=>ex = .normal ∧ ∃ e',Rel ds n e' a' ∧ AgreeE mods e e' ∧ K e' w') rest) (fun ex a' w'=>ex = .normal ∧ ∃ e',Rel ds n e' a' ∧ AgreeE mods e e' ∧ K e' w'):=by
   intro h
   refine g5t ?_
   rw [hr.eval]
   exact b2y (b6q h) lift
  unfold ops at h; unfold wpList
  cases hg:o.guard with
  | none=>
   rw [hg] at h
   rw [if_pos (by simp [Region.wanted,hg])]
   exact .inl (one h)
  | some g=>
   obtain ⟨j,want⟩:=g
   rw [hg] at h
   have h:gdM (gdE all e j want) (op1 P e o) (fun v w'=>ops P n all K rest (Sh.upd n e o.dst v) w') w:=h
   rw [a4m hr all o j want hg]
   cases hgd:gdE all e j want with
   | true=>
    rw [hgd] at h
    rw [if_pos rfl]
    exact .inl (one h)
   | false=>
    rw [hgd] at h
    rw [if_neg (by simp)]
    exact lift undef w h
where
 wpList_mono {P:Program} {all:Array Oper} {Q Q':Exit → Act → WK}:∀ (l:List Oper) (a:Act) (w:World),wpList P all Q l a w →
   (∀ e a w,Q e a w → Q' e a w) → wpList P all Q' l a w
  | [],_,_,h,hq=>hq _ _ _ h
  | o :: rest,a,w,h,hq=>by
   unfold wpList at h ⊢
   split
   ·rename_i hw
    rw [if_pos hw] at h
    rcases h with h | ⟨h,a',w',h'⟩
    ·refine .inl ?_
     unfold Oper.wp at h ⊢
     revert h
     generalize (execOp a.eval o).run P w = r
     intro h
     unfold Oper.upon at h ⊢
     split at h
     ·exact wpList_mono rest _ _ h hq
     ·exact wpList_mono rest _ _ h hq
     ·exact wpList_mono rest _ _ h hq
     ·refine Calls.mono h ?_
      intro e w''
      cases e with
      | returned v=>exact fun h=>wpList_mono rest _ _ h hq
      | panicked ch=>exact fun h=>hq _ _ _ h
      | outgrown=>exact fun ⟨a,w,h⟩=>⟨a,w,hq _ _ _ h⟩
     ·exact Rows.mono h (fun v w'' h=>wpList_mono rest _ _ h hq)
     ·exact hq _ _ _ h
     ·exact h.elim
    ·exact .inr ⟨h,a',w',hq _ _ _ h'⟩
   ·rename_i hw
    rw [if_neg hw] at h
    exact wpList_mono rest _ _ h hq
def g5u (P:Program) (C:WK) (s:Sem Next) (K:Value → Prop):Prop:=∃ v,(∀ w,C w → Oper.quietUpon P C w v (s.run P w)) ∧ K v
def oQ (P:Program) (o:Op) (type:TypeId) (args:List Value) (C:WK) (K:Value → Prop):Prop:=g5u P C (xop o type args) K
def d2v (v:Value) (_C:WK) (K:Value → Prop):Prop:=K v
def b8k (P:Program) (f:FuncId) (args:Array Value) (C:WK) (K:Value → Prop):Prop:=
 ∃ v,(∀ w,C w → Calls P f args w (fun e w''=>e = .returned v ∧ C w'')) ∧ K v
def gdQ (g:Bool) (m:(WK) → (Value → Prop) → Prop) (C:WK) (K:Value → Prop):Prop:=bif g then m C K else K undef
def g1t (P:Program) (e:Env) (o:Oper) (C:WK) (K:Value → Prop):Prop:=
 match d2u o.op with
 | some x=>K (evE e x)
 | none=>
  match b9s o.op with
  | some (f,xs)=>match a8v P f with | true=>b8k P f (xs.map (evE e)).toArray C K | false=>False
  | none=>
   match b0g o.op with
   | some (op',xs)=>oQ P op' o.type (xs.map (evE e)) C K
   | none=>False
theorem d2w {P:Program} {e:Env} {o:Oper} {C:WK} {K:Value → Prop} (h:g1t P e o C K) :
  ∃ v,(∀ w,C w → Oper.quietUpon P C w v ((execOp (evE e) o).run P w)) ∧ K v:=by
 unfold g1t at h
 split at h
 ·rename_i x hx
  rw [b4b hx]
  exact ⟨evE e x,fun w _=>⟨rfl,rfl⟩,h⟩
 ·split at h
  ·rename_i f xs hs
   cases hb:a8v P f with
   | false=>rw [hb] at h; exact h.elim
   | true=>
    rw [hb] at h
    obtain ⟨v,hv,hk⟩:=h
    refine ⟨v,fun w hw=>?_,hk⟩
    rw [b6p rfl hs,b4a hb]
    exact ⟨rfl,hv w hw⟩
  ·split at h
   ·rename_i op' xs hr
    rw [b0s (fun _=>rfl) o op' xs hr]
    exact h
   ·exact h.elim
def a8e (P:Program) (n:Nat) (all:Array Oper) (C:WK) (K:Env → Prop):List Oper → Env → Prop
 | [],e=>K e
 | o :: rest,e=>
  match o.guard with
  | none=>g1t P e o C (fun v=>a8e P n all C K rest (upd n e o.dst v))
  | some (j,want)=>gdQ (gdE all e j want) (g1t P e o) C (fun v=>a8e P n all C K rest (upd n e o.dst v))
theorem quietOps_wp {P:Program} {n:Nat} {all:Array Oper} {C:WK} {mods:List Nat} {K:Env → Prop}:∀ (l:List Oper) (e:Env) (a:Act),Rel ds n e a →
  (∀ o ∈ l,∀ d,o.dst = some d → d ∈ mods) → a8e P n all C K l e → wpQuiet P all C (fun a'=>∃ e',Rel ds n e' a' ∧ AgreeE mods e e' ∧ K e') l a
 | [],e,a,hr,_,h=>⟨e,hr,AgreeE.refl _ _,h⟩
 | o :: rest,e,a,hr,hm,h=>by
  have hp:=fun v=>AgreeE.upd (n:=n) (e:=e) (o:=o.dst) v (hm o List.mem_cons_self)
  have lift:∀ v,a8e P n all C K rest (Sh.upd n e o.dst v) → wpQuiet P all C (fun a'=>∃ e',Rel ds n e' a' ∧ AgreeE mods e e' ∧ K e') rest (a.put o.dst v):=by
   intro v h
   exact wpQuiet_mono rest _ (quietOps_wp rest _ _ (hr.put o.dst v) (fun o ho=>hm o (List.mem_cons_of_mem _ ho)) h) (fun a' ⟨e',h1,h2,h3⟩=>⟨e',h1,(hp v).trans h2,h3⟩)
  have one:g1t P e o C (fun v=>a8e P n all C K rest (Sh.upd n e o.dst v)) → Oper.quiet P o a C (wpQuiet P all C (fun a'=>∃ e',Rel ds n e' a' ∧ AgreeE mods e e' ∧ K e') rest):=by
   intro h
   obtain ⟨v,hv,hk⟩:=d2w h
   refine ⟨v,fun w hw=>?_,lift v hk⟩
   unfold Oper.quietAt
   rw [hr.eval]
   exact hv w hw
  unfold a8e at h; unfold wpQuiet
  cases hg:o.guard with
  | none=>
   rw [hg] at h
   rw [if_pos (by simp [Region.wanted,hg])]
   exact one h
  | some g=>
   obtain ⟨j,want⟩:=g
   rw [hg] at h
   have h:gdQ (gdE all e j want) (g1t P e o) C (fun v=>a8e P n all C K rest (Sh.upd n e o.dst v)):=h
   rw [a4m hr all o j want hg]
   cases hgd:gdE all e j want with
   | true=>
    rw [hgd] at h
    rw [if_pos rfl]
    exact one h
   | false=>
    rw [hgd] at h
    rw [if_neg (by simp)]
    exact lift undef h
where
 wpQuiet_mono {P:Program} {all:Array Oper} {C:WK} {Q Q':Act → Prop}:∀ (l:List Oper) (a:Act),wpQuiet P all C Q l a → (∀ a,Q a → Q' a) → wpQuiet P all C Q' l a
  | [],_,h,hq=>hq _ h
  | o :: rest,a,h,hq=>by
   unfold wpQuiet at h ⊢
   split
   ·rename_i hw
    rw [if_pos hw] at h
    obtain ⟨v,hv,hk⟩:=h
    exact ⟨v,hv,wpQuiet_mono rest _ hk hq⟩
   ·rename_i hw
    rw [if_neg hw] at h
    exact wpQuiet_mono rest _ h hq
def oH (P:Program) (o:Op) (type:TypeId) (args:List Value) (C:WK) (K:Value → Prop):Prop:=∃ v,(∀ w,C w → (xop o type args).run P w = .ok (.value v) w) ∧ K v
def a0g (v:Value) (_C:WK) (K:Value → Prop):Prop:=K v
def gdH (g:Bool) (m:(WK) → (Value → Prop) → Prop) (C:WK) (K:Value → Prop):Prop:=bif g then m C K else K undef
def e1o (P:Program) (e:Env) (o:Oper) (C:WK) (K:Value → Prop):Prop:=
 match d2u o.op with
 | some x=>a0g (evE e x) C K
 | none=>
  match b9s o.op with
  | some _=>False
  | none=>
   match b0g o.op with
   | some (op',xs)=>oH P op' o.type (xs.map (evE e)) C K
   | none=>False
theorem b4c {P:Program} {e:Env} {o:Oper} {C:WK} {K:Value → Prop} (h:e1o P e o C K) :
  ∃ v,(∀ w,C w → (execOp (evE e) o).run P w = .ok (.value v) w) ∧ K v:=by
 unfold e1o at h
 split at h
 ·rename_i x hx
  rw [b4b hx]
  exact ⟨evE e x,fun w _=>rfl,h⟩
 ·split at h
  ·exact h.elim
  ·split at h
   ·rename_i op' xs hr
    rw [b0s (fun _=>rfl) o op' xs hr]
    exact h
   ·exact h.elim
def a6b (P:Program) (n:Nat) (all:Array Oper) (C:WK) (K:Env → WK):List (Nat × Bool) → Env → WK
 | [],e,w=>K e w
 | (i,true) :: r,e,w=>
  match all[i]? with
  | none=>False
  | some o=>
   match o.guard with
   | none=>e1o P e o C (fun v=>a6b P n all C K r (upd n e o.dst v) w)
   | some (j,want)=>gdH (gdE all e j want) (e1o P e o) C (fun v=>a6b P n all C K r (upd n e o.dst v) w)
 | (i,false) :: r,e,w=>
  match all[i]? with
  | none=>False
  | some o=>
   match o.guard with
   | none=>op1 P e o (fun v w'=>C w' ∧ a6b P n all C K r (upd n e o.dst v) w') w
   | some (j,want)=>gdM (gdE all e j want) (op1 P e o) (fun v w'=>C w' ∧ a6b P n all C K r (upd n e o.dst v) w') w
theorem b1m {P:Program} {s:Sem Next} {K:VK} {w:World}:a6n P s K w = opM P s K w:=rfl
theorem heldOps_wp {P:Program} {n:Nat} {all:Array Oper} {C:WK} {mods:List Nat} {K:Env → WK} (hm:∀ o ∈ all.toList,∀ d,o.dst = some d → d ∈ mods):∀ (l:List (Nat × Bool)) (e:Env) (a:Act) (w:World),Rel ds n e a →
  a6b P n all C K l e w → a8g P all C (fun a' w'=>∃ e',Rel ds n e' a' ∧ AgreeE mods e e' ∧ K e' w') l a w
 | [],e,a,w,hr,h=>⟨e,hr,AgreeE.refl _ _,h⟩
 | (i,true) :: r,e,a,w,hr,h=>by
  unfold a6b at h
  split at h
  ·exact h.elim
  rename_i o ho
  have hmem:o ∈ all.toList:=by simpa using Array.mem_of_getElem? ho
  have hp:=fun v=>AgreeE.upd (n:=n) (e:=e) (o:=o.dst) v (hm o hmem)
  have lift:∀ v,a6b P n all C K r (Sh.upd n e o.dst v) w → a8g P all C (fun a' w'=>∃ e',Rel ds n e' a' ∧ AgreeE mods e e' ∧ K e' w') r (a.put o.dst v) w:=by
   intro v h
   exact wpHeld_mono r _ _ (heldOps_wp hm r _ _ w (hr.put o.dst v) h) (fun a' w' ⟨e',h1,h2,h3⟩=>⟨e',h1,(hp v).trans h2,h3⟩)
  have one:e1o P e o C (fun v=>a6b P n all C K r (Sh.upd n e o.dst v) w) → Region.wanted o (yielded all a.tmps) = true → ∃ o',all[i]? = some o' ∧ ∃ v,Looks P all C o' a v ∧ a8g P all C (fun a' w'=>∃ e',Rel ds n e' a' ∧ AgreeE mods e e' ∧ K e' w') r (a.put o'.dst v) w:=by
   intro h hw
   obtain ⟨v,hv,hk⟩:=b4c h
   refine ⟨o,ho,v,?_,lift v hk⟩
   unfold Looks
   rw [hw,hr.eval]
   exact hv
  unfold a8g
  split at h
  ·rename_i hg
   exact one h (by simp [Region.wanted,hg])
  ·rename_i j want hg
   have hw:=a4m hr all o j want hg
   cases hgd:gdE all e j want with
   | true=>
    rw [hgd] at h hw
    exact one h hw
   | false=>
    rw [hgd] at h hw
    refine ⟨o,ho,undef,?_,lift undef h⟩
    unfold Looks
    rw [hw]
    rfl
 | (i,false) :: r,e,a,w,hr,h=>by
  unfold a6b at h
  split at h
  ·exact h.elim
  rename_i o ho
  have hmem:o ∈ all.toList:=by simpa using Array.mem_of_getElem? ho
  have hp:=fun v=>AgreeE.upd (n:=n) (e:=e) (o:=o.dst) v (hm o hmem)
  have lift:∀ v w',C w' ∧ a6b P n all C K r (Sh.upd n e o.dst v) w' → C w' ∧ a8g P all C (fun a' w'=>∃ e',Rel ds n e' a' ∧ AgreeE mods e e' ∧ K e' w') r (a.put o.dst v) w':=by
   intro v w' ⟨hc,h⟩
   exact ⟨hc,wpHeld_mono r _ _ (heldOps_wp hm r _ _ w' (hr.put o.dst v) h) (fun a' w' ⟨e',h1,h2,h3⟩=>⟨e',h1,(hp v).trans h2,h3⟩)⟩
  have one:op1 P e o (fun v w'=>C w' ∧ a6b P n all C K r (Sh.upd n e o.dst v) w') w → Region.wanted o (yielded all a.tmps) = true → a3z P all o a w (fun a' w'=>C w' ∧ a8g P all C (fun a' w'=>∃ e',Rel ds n e' a' ∧ AgreeE mods e e' ∧ K e' w') r a' w'):=by
   intro h hw
   unfold a3z
   rw [hw,hr.eval]
   show a6n P _ _ w
   rw [b1m]
   exact b2y (b6q h) (fun v w' h=>lift v w' h)
  unfold a8g
  refine ⟨o,ho,?_⟩
  split at h
  ·rename_i hg
   exact one h (by simp [Region.wanted,hg])
  ·rename_i j want hg
   have hw:=a4m hr all o j want hg
   cases hgd:gdE all e j want with
   | true=>
    rw [hgd] at h hw
    exact one h hw
   | false=>
    rw [hgd] at h hw
    unfold a3z
    rw [hw]
    exact lift undef w h
where
 wpHeld_mono {P:Program} {all:Array Oper} {C:WK} {Q Q':Act → WK}:∀ (l:List (Nat × Bool)) (a:Act) (w:World),a8g P all C Q l a w → (∀ a w,Q a w → Q' a w) → a8g P all C Q' l a w
  | [],_,_,h,hq=>hq _ _ h
  | (_,true) :: r,_,_,⟨o,ho,v,hv,h⟩,hq=>⟨o,ho,v,hv,wpHeld_mono r _ _ h hq⟩
  | (_,false) :: r,_,_,⟨o,ho,h⟩,hq=>⟨o,ho,a3f h (fun _ _ ⟨hc,h⟩=>⟨hc,wpHeld_mono r _ _ h hq⟩)⟩
def a9n (P:Program) (n:Nat) (all:Array Oper) (C:WK) (K:Env → WK):Tr → Env → WK
 | .done,e,w=>K e w
 | .look i t,e,w=>
  match all[i]? with
  | none=>False
  | some o=>
   match o.guard with
   | none=>e1o P e o C (fun v=>a9n P n all C K t (upd n e o.dst v) w)
   | some (j,want)=>gdH (gdE all e j want) (e1o P e o) C (fun v=>a9n P n all C K t (upd n e o.dst v) w)
 | .only i t,e,w=>
  match all[i]? with
  | none=>False
  | some o=>
   match o.guard with
   | none=>op1 P e o (fun v w'=>C w' ∧ a9n P n all C K t (upd n e o.dst v) w') w
   | some (j,want)=>gdM (gdE all e j want) (op1 P e o) (fun v w'=>C w' ∧ a9n P n all C K t (upd n e o.dst v) w') w
 | .alt i t u,e,w=>
  (match all[i]? with
  | none=>False
  | some o=>
   match o.guard with
   | none=>op1 P e o (fun v w'=>C w' ∧ a9n P n all C K t (upd n e o.dst v) w') w
   | some (j,want)=>gdM (gdE all e j want) (op1 P e o) (fun v w'=>C w' ∧ a9n P n all C K t (upd n e o.dst v) w') w) ∧
  a9n P n all C K u e w
theorem b2z {P:Program} {all:Array Oper} {C:WK} {Q Q':Act → WK} (hq:∀ a w,Q a w → Q' a w):∀ (n:Nat) (listed:Array Bool) (a:Act) (w:World),b8m P all C Q n listed a w → b8m P all C Q' n listed a w
 | 0,_,_,_,h=>⟨h.1,h.2.1,hq _ _ h.2.2⟩
 | n + 1,listed,a,w,h=>⟨h.1,fun h0=>hq _ _ (h.2.1 h0),fun i hi o ho=>a3f (h.2.2 i hi o ho) (fun _ _ h=>b2z hq n _ _ _ h)⟩
theorem f0n {P:Program} {n:Nat} {all:Array Oper} {C:WK} {mods:List Nat} {K:Env → WK} (hsel:Region.noSelect all = true) (hm:∀ o ∈ all.toList,∀ d,o.dst = some d → d ∈ mods) (t:Tr):∀ (m:Nat) (listed:Array Bool) (e:Env) (a:Act) (w:World),Rel ds n e a → C w → a9n P n all C K t e w →
  (trB all t false m listed = true → b8m P all C (fun a' w'=>∃ e',Rel ds n e' a' ∧ AgreeE mods e e' ∧ K e' w') m listed a w) ∧
  (trB all t true m listed = true → ∀ i ∈ t.heads,∀ o,all[i]? = some o → a3z P all o a w (b8m P all C (fun a' w'=>∃ e',Rel ds n e' a' ∧ AgreeE mods e e' ∧ K e' w') (m - 1) (listed.setIfInBounds i true))):=by
 have one:∀ (t:Tr),(∀ (m:Nat) (listed:Array Bool) (e:Env) (a:Act) (w:World),Rel ds n e a → C w → a9n P n all C K t e w → trB all t false m listed = true → b8m P all C (fun a' w'=>∃ e',Rel ds n e' a' ∧ AgreeE mods e e' ∧ K e' w') m listed a w) →
   ∀ (i m:Nat) (listed:Array Bool) (e:Env) (a:Act) (w:World),Rel ds n e a → trB all t false m listed = true →
   (match all[i]? with
    | none=>False
    | some o=>
     match o.guard with
     | none=>op1 P e o (fun v w'=>C w' ∧ a9n P n all C K t (upd n e o.dst v) w') w
     | some (j,want)=>gdM (gdE all e j want) (op1 P e o) (fun v w'=>C w' ∧ a9n P n all C K t (upd n e o.dst v) w') w) →
   ∀ o,all[i]? = some o → a3z P all o a w (b8m P all C (fun a' w'=>∃ e',Rel ds n e' a' ∧ AgreeE mods e e' ∧ K e' w') m listed):=by
  intro t ih i m listed e a w hr hB h o ho
  rw [ho] at h
  simp only at h
  have hmem:o ∈ all.toList:=by simpa using Array.mem_of_getElem? ho
  have hp:=fun v=>AgreeE.upd (n:=n) (e:=e) (o:=o.dst) v (hm o hmem)
  have lift:∀ v w',C w' ∧ a9n P n all C K t (Sh.upd n e o.dst v) w' → b8m P all C (fun a' w'=>∃ e',Rel ds n e' a' ∧ AgreeE mods e e' ∧ K e' w') m listed (a.put o.dst v) w':=by
   intro v w' ⟨hc,h⟩
   exact b2z (fun a' w' ⟨e',h1,h2,h3⟩=>⟨e',h1,(hp v).trans h2,h3⟩) _ _ _ _ (ih m _ _ _ w' (hr.put o.dst v) hc h hB)
  have one:op1 P e o (fun v w'=>C w' ∧ a9n P n all C K t (Sh.upd n e o.dst v) w') w → Region.wanted o (yielded all a.tmps) = true → a3z P all o a w (b8m P all C (fun a' w'=>∃ e',Rel ds n e' a' ∧ AgreeE mods e e' ∧ K e' w') m listed):=by
   intro h hw
   unfold a3z
   rw [hw,hr.eval]
   show a6n P _ _ w
   rw [b1m]
   exact b2y (b6q h) (fun v w' h=>lift v w' h)
  split at h
  ·rename_i hg
   exact one h (by simp [Region.wanted,hg])
  ·rename_i j want hg
   have hw:=a4m hr all o j want hg
   cases hgd:gdE all e j want with
   | true=>
    rw [hgd] at h hw
    exact one h hw
   | false=>
    rw [hgd] at h hw
    unfold a3z
    rw [hw]
    exact lift undef w h
 induction t with
 | done=>
  intro m listed e a w hr hc h
  refine ⟨fun hB=>?_,fun _ i hi=>by simp [Tr.heads] at hi⟩
  simp only [trB,bA] at hB
  obtain ⟨h0,h1⟩:=hB
  have h0:=Nat.eq_of_beq_eq_true h0
  subst h0
  exact ⟨hc,by simpa using h1,e,hr,AgreeE.refl _ _,h⟩
 | look i t ih=>
  intro m listed e a w hr hc h
  refine ⟨fun hB=>?_,fun _ i hi=>by simp [Tr.heads] at hi⟩
  simp only [trB,bA] at hB
  obtain ⟨_,hm1,hrd,hfree,hB⟩:=hB
  obtain ⟨m,rfl⟩:∃ k,m = k + 1:=⟨m - 1,by have:=Nat.le_of_ble_eq_true hm1; omega⟩
  rw [Nat.add_sub_cancel] at hB
  unfold a9n at h
  split at h
  ·exact h.elim
  rename_i o ho
  have hmem:o ∈ all.toList:=by simpa using Array.mem_of_getElem? ho
  have hp:=fun v=>AgreeE.upd (n:=n) (e:=e) (o:=o.dst) v (hm o hmem)
  have fin:∀ v,Looks P all C o a v → a9n P n all C K t (Sh.upd n e o.dst v) w → b8m P all C (fun a' w'=>∃ e',Rel ds n e' a' ∧ AgreeE mods e e' ∧ K e' w') (m + 1) listed a w:=by
   intro v hl h
   exact b9w ho (Region.noSelect_spec hsel) m listed a w (Region.free_spec ho hfree) (by simpa using hrd) hl hc (b2z (fun a' w' ⟨e',h1,h2,h3⟩=>⟨e',h1,(hp v).trans h2,h3⟩) _ _ _ _ ((ih m _ _ _ w (hr.put o.dst v) hc h).1 hB))
  have one:e1o P e o C (fun v=>a9n P n all C K t (Sh.upd n e o.dst v) w) → Region.wanted o (yielded all a.tmps) = true → b8m P all C (fun a' w'=>∃ e',Rel ds n e' a' ∧ AgreeE mods e e' ∧ K e' w') (m + 1) listed a w:=by
   intro h hw
   obtain ⟨v,hv,hk⟩:=b4c h
   refine fin v ?_ hk
   unfold Looks
   rw [hw,hr.eval]
   exact hv
  split at h
  ·rename_i hg
   exact one h (by simp [Region.wanted,hg])
  ·rename_i j want hg
   have hw:=a4m hr all o j want hg
   cases hgd:gdE all e j want with
   | true=>
    rw [hgd] at h hw
    exact one h hw
   | false=>
    rw [hgd] at h hw
    refine fin undef ?_ h
    unfold Looks
    rw [hw]
    rfl
 | only i t ih=>
  intro m listed e a w hr hc h
  have key:trB all t false (m - 1) (listed.setIfInBounds i true) = true → ∀ o,all[i]? = some o → a3z P all o a w (b8m P all C (fun a' w'=>∃ e',Rel ds n e' a' ∧ AgreeE mods e e' ∧ K e' w') (m - 1) (listed.setIfInBounds i true)):=
   fun hB=>one t (fun m l e a w h1 h2 h3 h4=>(ih m l e a w h1 h2 h3).1 h4) i _ _ e a w hr hB (by unfold a9n at h; exact h)
  refine ⟨fun hB=>?_,fun hB j hj=>?_⟩
  ·simp only [trB,bA,Bool.false_or,beq_iff_eq] at hB
   obtain ⟨hrd,hm1,hB⟩:=hB
   have key:=key hB
   obtain ⟨m,rfl⟩:∃ k,m = k + 1:=⟨m - 1,by have:=Nat.le_of_ble_eq_true hm1; omega⟩
   rw [Nat.add_sub_cancel] at key
   refine ⟨hc,fun h0=>(by rw [hrd] at h0; cases h0),fun j hj=>?_⟩
   rw [hrd,List.mem_singleton] at hj
   subst hj
   exact key
  ·simp only [trB,bA,Bool.true_or] at hB
   simp only [Tr.heads,List.mem_singleton] at hj
   subst hj
   exact key hB.2.2
 | alt i t u ih ihu=>
  intro m listed e a w hr hc h
  unfold a9n at h
  obtain ⟨h,hu⟩:=h
  have key:trB all t false (m - 1) (listed.setIfInBounds i true) = true → ∀ o,all[i]? = some o → a3z P all o a w (b8m P all C (fun a' w'=>∃ e',Rel ds n e' a' ∧ AgreeE mods e e' ∧ K e' w') (m - 1) (listed.setIfInBounds i true)):=
   fun hB=>one t (fun m l e a w h1 h2 h3 h4=>(ih m l e a w h1 h2 h3).1 h4) i _ _ e a w hr hB h
  have keyu:=(ihu m listed e a w hr hc hu).2
  refine ⟨fun hB=>?_,fun hB j hj=>?_⟩
  ·simp only [trB,bA,Bool.false_or,beq_iff_eq] at hB
   obtain ⟨hrd,hm1,hB,hBu⟩:=hB
   have key:=key hB
   have keyu:=keyu hBu
   obtain ⟨m,rfl⟩:∃ k,m = k + 1:=⟨m - 1,by have:=Nat.le_of_ble_eq_true hm1; omega⟩
   rw [Nat.add_sub_cancel] at key keyu
   refine ⟨hc,fun h0=>(by rw [hrd] at h0; cases h0),fun j hj=>?_⟩
   rw [hrd] at hj
   rcases List.mem_cons.1 hj with rfl | hj
   ·exact key
   ·exact keyu j hj
  ·simp only [trB,bA,Bool.true_or] at hB
   rcases List.mem_cons.1 hj with rfl | hj
   ·exact key hB.2.2.1
   ·exact keyu hB.2.2.2 j hj
def a4v (P:Program) (n:Nat) (all:Array Oper) (ws:List Nat) (C:Nat → WK) (K:Env → WK):List (Nat × Bool) → Nat → Env → WK
 | [],_,e,w=>K e w
 | (i,true) :: r,s,e,w=>
  match all[i]? with
  | none=>False
  | some o=>
   match o.guard with
   | none=>e1o P e o (a0p C (e3f all ws i)) (fun v=>a4v P n all ws C K r s (upd n e o.dst v) w)
   | some (j,want)=>gdH (gdE all e j want) (e1o P e o) (a0p C (e3f all ws i)) (fun v=>a4v P n all ws C K r s (upd n e o.dst v) w)
 | (i,false) :: r,s,e,w=>
  match all[i]? with
  | none=>False
  | some o=>
   match o.guard with
   | none=>op1 P e o (fun v w'=>C (s + 1) w' ∧ a4v P n all ws C K r (s + 1) (upd n e o.dst v) w') w
   | some (j,want)=>gdM (gdE all e j want) (op1 P e o) (fun v w'=>C (s + 1) w' ∧ a4v P n all ws C K r (s + 1) (upd n e o.dst v) w') w
theorem b1z {P:Program} {n:Nat} {all:Array Oper} {ws:List Nat} {C:Nat → WK} {mods:List Nat} {K:Env → WK} (hm:∀ o ∈ all.toList,∀ d,o.dst = some d → d ∈ mods):∀ (l:List (Nat × Bool)) (s:Nat) (e:Env) (a:Act) (w:World),Rel ds n e a →
  a4v P n all ws C K l s e w → a6e P all ws C (fun a' w'=>∃ e',Rel ds n e' a' ∧ AgreeE mods e e' ∧ K e' w') l s a w
 | [],s,e,a,w,hr,h=>⟨e,hr,AgreeE.refl _ _,h⟩
 | (i,true) :: r,s,e,a,w,hr,h=>by
  unfold a4v at h
  split at h
  ·exact h.elim
  rename_i o ho
  have hmem:o ∈ all.toList:=by simpa using Array.mem_of_getElem? ho
  have hp:=fun v=>AgreeE.upd (n:=n) (e:=e) (o:=o.dst) v (hm o hmem)
  have lift:∀ v,a4v P n all ws C K r s (Sh.upd n e o.dst v) w → a6e P all ws C (fun a' w'=>∃ e',Rel ds n e' a' ∧ AgreeE mods e e' ∧ K e' w') r s (a.put o.dst v) w:=by
   intro v h
   exact a6o r s _ _ (b1z hm r s _ _ w (hr.put o.dst v) h) (fun a' w' ⟨e',h1,h2,h3⟩=>⟨e',h1,(hp v).trans h2,h3⟩)
  have one:e1o P e o (a0p C (e3f all ws i)) (fun v=>a4v P n all ws C K r s (Sh.upd n e o.dst v) w) → Region.wanted o (yielded all a.tmps) = true → ∃ o',all[i]? = some o' ∧ ∃ v,Looks P all (a0p C (e3f all ws i)) o' a v ∧ a6e P all ws C (fun a' w'=>∃ e',Rel ds n e' a' ∧ AgreeE mods e e' ∧ K e' w') r s (a.put o'.dst v) w:=by
   intro h hw
   obtain ⟨v,hv,hk⟩:=b4c h
   refine ⟨o,ho,v,?_,lift v hk⟩
   unfold Looks
   rw [hw,hr.eval]
   exact hv
  unfold a6e
  split at h
  ·rename_i hg
   exact one h (by simp [Region.wanted,hg])
  ·rename_i j want hg
   have hw:=a4m hr all o j want hg
   cases hgd:gdE all e j want with
   | true=>
    rw [hgd] at h hw
    exact one h hw
   | false=>
    rw [hgd] at h hw
    refine ⟨o,ho,undef,?_,lift undef h⟩
    unfold Looks
    rw [hw]
    rfl
 | (i,false) :: r,s,e,a,w,hr,h=>by
  unfold a4v at h
  split at h
  ·exact h.elim
  rename_i o ho
  have hmem:o ∈ all.toList:=by simpa using Array.mem_of_getElem? ho
  have hp:=fun v=>AgreeE.upd (n:=n) (e:=e) (o:=o.dst) v (hm o hmem)
  have lift:∀ v w',C (s + 1) w' ∧ a4v P n all ws C K r (s + 1) (Sh.upd n e o.dst v) w' → C (s + 1) w' ∧ a6e P all ws C (fun a' w'=>∃ e',Rel ds n e' a' ∧ AgreeE mods e e' ∧ K e' w') r (s + 1) (a.put o.dst v) w':=by
   intro v w' ⟨hc,h⟩
   exact ⟨hc,a6o r (s + 1) _ _ (b1z hm r (s + 1) _ _ w' (hr.put o.dst v) h) (fun a' w' ⟨e',h1,h2,h3⟩=>⟨e',h1,(hp v).trans h2,h3⟩)⟩
  have one:op1 P e o (fun v w'=>C (s + 1) w' ∧ a4v P n all ws C K r (s + 1) (Sh.upd n e o.dst v) w') w → Region.wanted o (yielded all a.tmps) = true → a3z P all o a w (fun a' w'=>C (s + 1) w' ∧ a6e P all ws C (fun a' w'=>∃ e',Rel ds n e' a' ∧ AgreeE mods e e' ∧ K e' w') r (s + 1) a' w'):=by
   intro h hw
   unfold a3z
   rw [hw,hr.eval]
   show a6n P _ _ w
   rw [b1m]
   exact b2y (b6q h) (fun v w' h=>lift v w' h)
  unfold a6e
  refine ⟨o,ho,?_⟩
  split at h
  ·rename_i hg
   exact one h (by simp [Region.wanted,hg])
  ·rename_i j want hg
   have hw:=a4m hr all o j want hg
   cases hgd:gdE all e j want with
   | true=>
    rw [hgd] at h hw
    exact one h hw
   | false=>
    rw [hgd] at h hw
    unfold a3z
    rw [hw]
    exact lift undef w h
abbrev e1r:=VK
def opG (P:Program) (all:Array Oper) (e:Env) (o:Oper) (K:VK) (w:World):Prop:=
 match o.guard with
 | none=>op1 P e o K w
 | some (j,want)=>gdM (gdE all e j want) (op1 P e o) K w
theorem d0p {P:Program} {n:Nat} {all:Array Oper} {ec e':Env} {a:Act} {o:Oper} {K:VK} {w:World} (hr:Rel ds n ec a) (hs:∀ cs b,o.op ≠ .select cs b) (hl:∀ t ∈ o.looksAt all,e' t = ec t) (h:opG P all e' o K w) :
  a3z P all o a w (fun a' w'=>∃ v,a' = a.put o.dst v ∧ K v w'):=by
 have hx:execOp (evE e') o = execOp a.eval o:=by
  rw [hr.eval]
  refine execOp_congr o hs (fun x hx=>?_)
  cases x with
  | tmp t=>exact hl t (List.mem_append_left _ (List.mem_filterMap.2 ⟨.tmp t,by simpa using hx,rfl⟩))
  | _=>rfl
 have one:op1 P e' o K w → Region.wanted o (yielded all a.tmps) = true → a3z P all o a w (fun a' w'=>∃ v,a' = a.put o.dst v ∧ K v w'):=by
  intro h hw
  unfold a3z
  rw [hw,← hx]
  show a6n P _ _ w
  rw [b1m]
  exact b2y (b6q h) (fun v w' h=>⟨v,rfl,h⟩)
 unfold opG at h
 split at h
 ·rename_i hg
  exact one h (by simp [Region.wanted,hg])
 ·rename_i j want hg
  have hw:=a4m hr all o j want hg
  have he:gdE all e' j want = gdE all ec j want:=by
   unfold gdE
   cases hd:a5o all j with
   | none=>rfl
   | some d=>
    simp only
    rw [hl d]
    refine List.mem_append_right _ ?_
    unfold a5o at hd
    simp only [hg,hd]
    simp
  rw [he] at h
  cases hgd:gdE all ec j want with
  | true=>
   rw [hgd] at h hw
   exact one h hw
  | false=>
   rw [hgd] at h hw
   unfold a3z
   rw [hw]
   exact ⟨undef,rfl,h⟩
def f0o (all:Array Oper) (o:Oper) (j:Nat):Bool:=match a5o all j with | some d=>(o.looksAt all).contains d | none=>false
def e5d (n:Nat) (all:Array Oper) (p:Nat → Bool):List (Nat × e1r) → Env → World → (Env → Prop) → Prop
 | [],e,_,K=>K e
 | (j,R) :: rs,e,w,K=>bif p j then ∀ v,R v w → e5d n all p rs (upd n e (a5o all j) v) w K else e5d n all p rs e w K
def b6r (P:Program) (n:Nat) (all:Array Oper) (C:WK) (S:World → WK) (K:Env → WK):List Nat → List (Nat × e1r) → Env → Prop
 | [],rs,e=>∀ w,C w → e5d n all (fun _=>true) rs e w (fun e=>K e w)
 | k :: r,rs,e=>
  match all[k]? with
  | none=>False
  | some o=>∃ R:e1r,(∀ v w w',S w w' → R v w → R v w') ∧ (∀ w,C w → e5d n all (f0o all o) rs e w (fun e=>opG P all e o (fun v w'=>C w' ∧ S w w' ∧ R v w') w)) ∧
    b6r P n all C S K r (rs ++ [(k,R)]) e
theorem c1c {n:Nat} {all:Array Oper} {p:Nat → Bool} {w:World} {K:Env → Prop} {ec:Env}:∀ (rs:List (Nat × e1r)) (e:Env),(∀ q ∈ rs,∃ d,a5o all q.1 = some d ∧ d < n) →
  (∀ q ∈ rs,p q.1 = true → ∀ d,a5o all q.1 = some d → q.2 (ec d) w) → e5d n all p rs e w K →
  ∃ e',K e' ∧ ∀ t,(e' t = ec t ∧ ∃ q ∈ rs,p q.1 = true ∧ a5o all q.1 = some t) ∨ (e' t = e t ∧ ∀ q ∈ rs,p q.1 = true → a5o all q.1 ≠ some t)
 | [],e,_,_,h=>⟨e,h,fun t=>.inr ⟨rfl,by simp⟩⟩
 | (j,R) :: rs,e,hd,hR,h=>by
  unfold e5d at h
  cases hp:p j with
  | false=>
   rw [hp] at h
   obtain ⟨e',hk,ht⟩:=c1c rs e (fun q hq=>hd q (List.mem_cons_of_mem _ hq)) (fun q hq=>hR q (List.mem_cons_of_mem _ hq)) h
   refine ⟨e',hk,fun t=>?_⟩
   rcases ht t with ⟨h1,q,hq,h2⟩ | ⟨h1,h2⟩
   ·exact .inl ⟨h1,q,List.mem_cons_of_mem _ hq,h2⟩
   ·refine .inr ⟨h1,fun q hq hpq=>?_⟩
    rcases List.mem_cons.1 hq with rfl | hq
    ·rw [hp] at hpq; cases hpq
    ·exact h2 q hq hpq
  | true=>
   rw [hp] at h
   obtain ⟨d,hdj,hdn⟩:=hd (j,R) (List.mem_cons_self ..)
   have h:=h (ec d) (hR (j,R) (List.mem_cons_self ..) hp d hdj)
   obtain ⟨e',hk,ht⟩:=c1c rs _ (fun q hq=>hd q (List.mem_cons_of_mem _ hq)) (fun q hq=>hR q (List.mem_cons_of_mem _ hq)) h
   refine ⟨e',hk,fun t=>?_⟩
   rcases ht t with ⟨h1,q,hq,h2⟩ | ⟨h1,h2⟩
   ·exact .inl ⟨h1,q,List.mem_cons_of_mem _ hq,h2⟩
   ·by_cases htd:t = d
    ·subst htd
     refine .inl ⟨?_,(j,R),List.mem_cons_self ..,hp,hdj⟩
     rw [h1]
     show upd n e (a5o all j) (ec t) t = ec t
     rw [hdj]
     have hb:Nat.blt t n = true:=by simpa [Nat.blt,Nat.succ_le_iff] using hdn
     simp [upd,hb]
    ·refine .inr ⟨?_,fun q hq hpq=>?_⟩
     ·rw [h1]
      show upd n e (a5o all j) (ec d) t = e t
      rw [hdj]
      have hb:Nat.beq t d = false:=by
       cases hx:Nat.beq t d with
       | false=>rfl
       | true=>exact absurd (Nat.eq_of_beq_eq_true hx) htd
      simp [upd,hb]
     ·rcases List.mem_cons.1 hq with rfl | hq
      ·rw [hdj]; intro he; exact htd (oI he).symm
      ·exact h2 q hq hpq
def a8w:List Nat → Array Bool → Array Bool
 | [],l=>l
 | i :: r,l=>a8w r (l.setIfInBounds i true)
theorem a9o:∀ (L:List Nat) (l:Array Bool),(a8w L l).size = l.size
 | [],_=>rfl
 | i :: r,l=>by rw [a8w,a9o r]; simp
theorem a7t:∀ (L:List Nat) (l:Array Bool) (j:Nat),(a8w L l).getD j true = true ↔ (j ∈ L ∨ l.getD j true = true)
 | [],l,j=>by simp [a8w]
 | i :: r,l,j=>by
  rw [a8w,a7t r]
  by_cases h:j = i
  ·subst h
   simp only [List.mem_cons,true_or,iff_true]
   right
   by_cases hlt:j < l.size <;> simp [Array.getD_eq_getD_getElem?,Array.getElem?_setIfInBounds,hlt]
  ·rw [getD_set_ne true (fun e=>h e.symm)]
   simp [h]
def f0p (all:Array Oper):List Nat → Array Bool → Bool
 | [],_=>true
 | i :: r,listed=>(Region.ready .any all listed).contains i && (Region.free .any all listed i && f0p all r (listed.setIfInBounds i true))
def b6s (n:Nat) (all:Array Oper) (L M:List Nat):List Nat → List Nat → Bool
 | [],_=>true
 | k :: r,done=>
  (match all[k]? with
  | none=>false
  | some o=>
   (match o.dst with
   | none=>false
   | some d=>Nat.blt d n && r.all (fun j=>match a5o all j with | some d'=>!Nat.beq d d' | none=>true)) &&
   ((b1o o).all (fun j=>L.contains j || done.contains j) && M.all (fun j=>!f0o all o j || ((b1o o).contains j && done.contains j)))) &&
  (!L.contains k && (!r.contains k && b6s n all L M r (done ++ [k])))
theorem a9p {n:Nat} {all:Array Oper} {L M:List Nat}:∀ (r done:List Nat),b6s n all L M r done = true →
  r.Nodup ∧ (∀ k ∈ r,k ∉ L) ∧ r.Pairwise (fun k j=>∀ d,a5o all k = some d → a5o all j ≠ some d) ∧
  ∀ pre k post,r = pre ++ k :: post → ∃ o d,all[k]? = some o ∧ o.dst = some d ∧ d < n ∧ (∀ j ∈ b1o o,j ∈ L ∨ j ∈ done ++ pre) ∧ (∀ j ∈ M,f0o all o j = true → j ∈ b1o o ∧ j ∈ done ++ pre)
 | [],_,_=>⟨.nil,by simp,.nil,fun pre k post h=>by simp at h⟩
 | k :: r,done,h=>by
  simp only [b6s,bA] at h
  obtain ⟨h1,h2,h3,h4⟩:=h
  obtain ⟨i1,i2,i3,i4⟩:=a9p r (done ++ [k]) h4
  split at h1
  ·cases h1
  rename_i o ho
  simp only [bA] at h1
  obtain ⟨h5,h6,h7⟩:=h1
  split at h5
  ·cases h5
  rename_i d hd
  simp only [bA] at h5
  obtain ⟨h8,h9⟩:=h5
  have hdk:a5o all k = some d:=by unfold a5o; rw [ho]; exact hd
  refine ⟨List.nodup_cons.2 ⟨by simpa using h3,i1⟩,fun x hx=>?_,List.pairwise_cons.2 ⟨fun j hj d' hd' he=>?_,i3⟩,fun pre x post e=>?_⟩
  ·rcases List.mem_cons.1 hx with rfl | hx
   ·simpa using h2
   ·exact i2 x hx
  ·rw [hdk] at hd'
   obtain rfl:=oI hd'
   have:=List.all_eq_true.1 h9 j hj
   simp only [he] at this
   simp at this
  ·cases pre with
   | nil=>
    simp only [List.nil_append,List.cons.injEq] at e
    obtain ⟨rfl,rfl⟩:=e
    refine ⟨o,d,ho,hd,?_,fun j hj=>?_,fun j hj hr=>?_⟩
    ·simpa [Nat.blt,Nat.succ_le_iff] using h8
    ·have:=List.all_eq_true.1 h6 j hj
     simpa using this
    ·have:=List.all_eq_true.1 h7 j hj
     simpa [hr] using this
   | cons p pre=>
    simp only [List.cons_append,List.cons.injEq] at e
    obtain ⟨rfl,e⟩:=e
    obtain ⟨o,d,a1,a2,a3,a4,a5⟩:=i4 pre x post e
    refine ⟨o,d,a1,a2,a3,fun j hj=>?_,fun j hj hr=>?_⟩
    ·have:=a4 j hj
     simpa [List.append_assoc] using this
    ·have:=a5 j hj hr
     simpa [List.append_assoc] using this
theorem b4q {P:Program} {n:Nat} {all:Array Oper} {C:WK} {S:World → WK} {K:Env → WK} {e:Env} {L M:List Nat}:∀ (r done:List Nat) (rs:List (Nat × e1r)),rs.map (·.1) = done →
  b6s n all L M r done = true → b6r P n all C S K r rs e →
  ∃ rs':List (Nat × e1r),rs'.map (·.1) = r ∧ (∀ q ∈ rs',∀ v w w',S w w' → q.2 v w → q.2 v w') ∧
   (∀ q ∈ rs',∀ o,all[q.1]? = some o → ∃ pre:List (Nat × e1r),(∀ x ∈ pre,x ∈ rs ++ rs') ∧ (∀ j ∈ M,f0o all o j = true → j ∈ pre.map (·.1)) ∧ ∀ w,C w → e5d n all (f0o all o) pre e w (fun e=>opG P all e o (fun v w'=>C w' ∧ S w w' ∧ q.2 v w') w)) ∧
   ∀ w,C w → e5d n all (fun _=>true) (rs ++ rs') e w (fun e=>K e w)
 | [],_,rs,_,_,h=>⟨[],rfl,by simp,by simp,by simpa [b6r] using h⟩
 | k :: r,done,rs,hrs,hB,h=>by
  obtain ⟨o,d,a1,a2,a3,a4,a5⟩:=(a9p (k :: r) done hB).2.2.2 [] k r rfl
  simp only [b6s,bA] at hB
  unfold b6r at h
  rw [a1] at h
  obtain ⟨R,hst,hop,hn⟩:=h
  obtain ⟨rs',b1,b2,b3,b4⟩:=b4q r (done ++ [k]) (rs ++ [(k,R)]) (by simp [hrs]) hB.2.2.2 hn
  refine ⟨(k,R) :: rs',by simp [b1],fun q hq=>?_,fun q hq oq hoq=>?_,fun w hw=>?_⟩
  ·rcases List.mem_cons.1 hq with rfl | hq
   ·exact hst
   ·exact b2 q hq
  ·rcases List.mem_cons.1 hq with rfl | hq
   ·obtain rfl:o = oq:=oI (a1.symm.trans hoq)
    exact ⟨rs,fun x hx=>List.mem_append_left _ hx,fun j hj hr=>by have:=(a5 j hj hr).2; simpa [hrs] using this,hop⟩
   ·obtain ⟨pre,c1,c2,c3⟩:=b3 q hq oq hoq
    exact ⟨pre,fun x hx=>by have:=c1 x hx; simpa [List.append_assoc] using this,c2,c3⟩
  ·have:=b4 w hw
   simpa [List.append_assoc] using this
theorem b6t {U:List Nat}:∀ (M:List Nat),(∃ k ∈ M,k ∈ U) → ∃ pre k post,M = pre ++ k :: post ∧ k ∈ U ∧ ∀ j ∈ pre,j ∉ U
 | [],h=>by simp at h
 | x :: M,h=>by
  by_cases hx:x ∈ U
  ·exact ⟨[],x,M,rfl,hx,by simp⟩
  ·obtain ⟨k,hk,hu⟩:=h
   rcases List.mem_cons.1 hk with rfl | hk
   ·exact absurd hu hx
   ·obtain ⟨pre,y,post,e,h1,h2⟩:=b6t M ⟨k,hk,hu⟩
    refine ⟨x :: pre,y,post,by rw [e]; rfl,h1,fun j hj=>?_⟩
    rcases List.mem_cons.1 hj with rfl | hj
    ·exact hx
    ·exact h2 j hj
theorem d0q:∀ {l:List (Nat × e1r)},(l.map (·.1)).Nodup → ∀ {p q:Nat × e1r},p ∈ l → q ∈ l → p.1 = q.1 → p = q
 | [],_,_,_,h,_,_=>by simp at h
 | x :: l,hn,p,q,hp,hq,e=>by
  simp only [List.map_cons,List.nodup_cons] at hn
  rcases List.mem_cons.1 hp with hp' | hp' <;> rcases List.mem_cons.1 hq with hq' | hq'
  ·rw [hp',hq']
  ·exact absurd (by rw [← hp',e]; exact List.mem_map_of_mem (f:=(·.1)) hq') hn.1
  ·exact absurd (by rw [← hq',← e]; exact List.mem_map_of_mem (f:=(·.1)) hp') hn.1
  ·exact d0q hn.2 hp' hq' e
theorem e1s {o:Oper} {e:Edge} (he:e ∈ o.after) (hb:Region.binds .any e = true):e.on ∈ b1o o:=by
 simp only [b1o,List.mem_map,List.mem_filter]
 exact ⟨e,⟨by simpa using he,hb⟩,rfl⟩
theorem b3a {o:Oper} {j:Nat} (h:j ∈ b1o o):∃ e ∈ o.after,Region.binds .any e = true ∧ e.on = j:=by
 simp only [b1o,List.mem_map,List.mem_filter] at h
 obtain ⟨e,⟨he,hb⟩,rfl⟩:=h
 exact ⟨e,by simpa using he,hb,rfl⟩
theorem b6u {l:Array Bool} {j:Nat} (h:l.getD j false = true):l.getD j true = true:=by
 rw [Array.getD_eq_getD_getElem?] at h ⊢
 cases hx:l[j]? with
 | none=>rfl
 | some b=>rw [hx] at h; exact h
theorem e1t {l:Array Bool} {j:Nat} (hj:j < l.size) (h:l.getD j true = true):l.getD j false = true:=by
 rw [Array.getD_eq_getD_getElem?,Array.getElem?_eq_getElem hj] at h ⊢
 exact h
theorem g0g {l:Array Bool} {j:Nat} (h:l.getD j false = true):j < l.size:=by
 by_cases hj:j < l.size
 ·exact hj
 ·rw [Array.getD_eq_getD_getElem?,Array.getElem?_eq_none (by omega)] at h
  cases h
section
variable {P:Program} {all:Array Oper} {C:WK} {D:Nat → Bool}
def b3b (P:Program) (ops:Array Oper) (C:WK) (D:Nat → Bool) (Q:Act → WK):Nat → Array Bool → Act → WK
 | 0,listed,a,w=>Region.ready .any ops listed = [] ∧ Q a w
 | n + 1,listed,a,w=>(Region.ready .any ops listed = [] → Q a w) ∧
  ∀ i ∈ Region.ready .any ops listed,∀ o,ops[i]? = some o → a3z P ops o a w (fun a' w'=>(D i = true → C w') ∧ b3b P ops C D Q n (listed.setIfInBounds i true) a' w')
theorem a6m {Q:Act → WK} {Q':Exit → Act → WK} (hQ:∀ a w,Q a w → Q' .normal a w):∀ (n:Nat) (listed:Array Bool) (a:Act) (w:World),
  b3b P all C D Q n listed a w → wpAny P .any all Q' n listed a w
 | 0,_,_,_,h=>⟨h.1,hQ _ _ h.2⟩
 | n + 1,listed,a,w,h=>by
  refine ⟨fun h0=>hQ _ _ (h.1 h0),fun i hi=>?_⟩
  obtain ⟨_,o,ho,_⟩:=mem_ready.1 hi
  have hs:=h.2 i hi o ho
  unfold wpOp
  rw [ho]
  show if Region.wanted o (yielded all a.tmps) = true then _ else _
  unfold a3z at hs
  cases hwant:Region.wanted o (yielded all a.tmps) with
  | false=>
   rw [hwant] at hs
   rw [if_neg (by simp)]
   exact a6m hQ n _ _ _ hs.2
  | true=>
   rw [hwant] at hs
   rw [if_pos rfl]
   left
   unfold Oper.wp
   revert hs
   show a6n P (execOp a.eval o) _ w → _
   unfold a6n
   generalize (execOp a.eval o).run P w = r
   intro hs
   cases r with
   | halt x w'=>exact hs.elim
   | ok x w'=>
    cases x with
    | value u=>exact a6m hQ n _ _ _ hs.2
    | skip=>exact a6m hQ n _ _ _ hs.2
    | enter f args=>
     refine Calls.mono hs ?_
     rintro e w'' ⟨v,rfl,hc⟩
     exact a6m hQ n _ _ _ hc.2
    | _=>exact hs.elim
def DownC (all:Array Oper) (listed:Array Bool):Prop:=∀ x o,all[x]? = some o → listed.getD x true = true → ∀ y ∈ b1o o,listed.getD y false = true
theorem DownC.step {listed:Array Bool} (h:DownC all listed) {j:Nat} (hj:j ∈ Region.ready .any all listed):DownC all (listed.setIfInBounds j true):=by
 obtain ⟨_,oj,hoj,hall⟩:=mem_ready.1 hj
 intro x o ho hx y hy
 by_cases hxj:x = j
 ·subst hxj
  obtain rfl:oj = o:=oI (hoj.symm.trans ho)
  obtain ⟨ed,hed,hb,rfl⟩:=b3a hy
  exact getD_set_true (hall ed hed hb)
 ·rw [getD_set_ne true (fun e=>hxj e.symm)] at hx
  exact getD_set_true (h x o ho hx y hy)
theorem c8d {Q:Act → WK} {i:Nat} {oi:Oper} {v:Value} (hi:all[i]? = some oi) (hsel:∀ (j:Nat) (o:Oper) cs b,all[j]? = some o → o.op ≠ .select cs b)
  (hcov:∀ listed,DownC all listed → listed.getD i true = false → ∀ j ∈ Region.ready .any all listed,D j = true) :
  ∀ (n:Nat) (listed:Array Bool) (a:Act) (w:World),DownC all listed →
   (∀ j oj,all[j]? = some oj → j ≠ i → listed.getD j true = false → (∀ e ∈ oj.after,Region.binds .any e = true → e.on ≠ i) → oi.apart all oj = true) →
   i ∈ Region.ready .any all listed → Looks P all C oi a v → C w →
   b3b P all C D Q n (listed.setIfInBounds i true) (a.put oi.dst v) w → b3b P all C D Q (n + 1) listed a w:=by
 intro n
 induction n with
 | zero=>
  intro listed a w _ _ hr hy hw H
  refine ⟨fun h=>absurd hr (by rw [h]; simp),fun j hj oj hoj=>?_⟩
  by_cases hji:j = i
  ·subst hji
   obtain rfl:oi = oj:=by rw [hi] at hoj; exact oI hoj
   exact hy.step hw ⟨fun _=>hw,H⟩
  ·have h1:=ready_mono hj hji
   rw [H.1] at h1
   cases h1
 | succ n ih=>
  intro listed a w hdc hfree hr hy hw H
  refine ⟨fun h=>absurd hr (by rw [h]; simp),fun j hj oj hoj=>?_⟩
  by_cases hji:j = i
  ·subst hji
   obtain rfl:oi = oj:=by rw [hi] at hoj; exact oI hoj
   exact hy.step hw ⟨fun _=>hw,H⟩
  ·obtain ⟨hjun,oj',hoj',hall⟩:=mem_ready.1 hj
   obtain rfl:oj = oj':=by rw [hoj] at hoj'; exact oI hoj'
   have hiun:=(mem_ready.1 hr).1
   have hDj:=hcov listed hdc hiun j hj
   have hnot:∀ e ∈ oj.after,Region.binds .any e = true → e.on ≠ i:=by
    intro e he hb heq
    have h1:=hall e he hb
    rw [heq] at h1
    rw [b6u h1] at hiun
    cases hiun
   have hap:=hfree j oj hoj hji hjun hnot
   obtain ⟨h1,h2,h3⟩:=Oper.apart_spec hap
   have hs:=H.2 j (ready_mono hj hji) oj hoj
   have hs':a3z P all oj a w (fun a' w'=>(D j = true → C w') ∧ b3b P all C D Q n ((listed.setIfInBounds i true).setIfInBounds j true) (a'.put oi.dst v) w'):=by
    unfold a3z at hs ⊢
    rw [wanted_put oj a oi.dst v h1,execOp_put oj (fun cs b=>hsel j oj cs b hoj) a oi.dst v h1] at hs
    cases hwant:Region.wanted oj (yielded all a.tmps) with
    | true=>
     rw [hwant] at hs
     exact a9r hs (fun u w' h=>by
      show (D j = true → C w') ∧ b3b P all C D Q n _ ((a.put oj.dst u).put oi.dst v) w'
      rw [← Act.put_comm a v u h2]; exact h)
    | false=>
     rw [hwant] at hs
     show (D j = true → C w) ∧ b3b P all C D Q n _ ((a.put oj.dst undef).put oi.dst v) w
     rw [← Act.put_comm a v undef h2]; exact hs
   refine a3f hs' (fun u w' hn=>⟨hn.1,ih _ _ _ (hdc.step hj) ?_ (ready_mono hr (fun e=>hji e.symm)) ((Looks.put (fun cs b=>hsel i oi cs b hi) h3).2 hy) (hn.1 hDj) ?_⟩)
   ·intro k ok hk hki hun hno
    refine hfree k ok hk hki ?_ hno
    by_cases hjk:j = k
    ·subst hjk; exact hjun
    ·rw [getD_set_ne true hjk] at hun; exact hun
   ·rw [Array.setIfInBounds_comm _ _ hji]
    exact hn.2
def d0r (all:Array Oper) (X:List Nat) (t:Nat):Bool:=
 X.all fun k=>Nat.blt k all.size && (t :: X).any fun x=>Nat.blt k x && (match all[x]? with | some o=>(b1o o).contains k | none=>false)
def d0s (all:Array Oper):List Nat → List Nat → Bool
 | _,[]=>true
 | X,t :: ts=>d0r all X t && d0s all (X ++ [t]) ts
theorem b6v {X:List Nat} {t:Nat} {ot:Oper} (h:d0r all X t = true) (hot:all[t]? = some ot) {listed:Array Bool} (hdc:DownC all listed) (hw:∀ y ∈ b1o ot,listed.getD y false = true):∀ k ∈ X,listed.getD k true = true:=by
 have:∀ m k,all.size - k ≤ m → k ∈ X → listed.getD k true = true:=by
  intro m
  induction m with
  | zero=>
   intro k hk hkX
   have:=List.all_eq_true.1 h k hkX
   simp only [bA] at this
   have hlt:k < all.size:=by simpa [Nat.blt,Nat.succ_le_iff] using this.1
   omega
  | succ m ihm=>
   intro k hk hkX
   have:=List.all_eq_true.1 h k hkX
   simp only [bA] at this
   obtain ⟨hlt,h1⟩:=this
   obtain ⟨x,hx,h2⟩:=List.any_eq_true.1 h1
   simp only [bA] at h2
   obtain ⟨hkx,h2⟩:=h2
   have hkx:k < x:=by simpa [Nat.blt,Nat.succ_le_iff] using hkx
   split at h2
   ·rename_i ox hox
    have h2:k ∈ b1o ox:=by simpa using h2
    rcases List.mem_cons.1 hx with rfl | hx
    ·obtain rfl:ot = ox:=oI (hot.symm.trans hox)
     exact b6u (hw k h2)
    ·have hlt:k < all.size:=by simpa [Nat.blt,Nat.succ_le_iff] using hlt
     exact b6u (hdc x ox hox (ihm x (by omega) hx) k h2)
   ·cases h2
 exact fun k hk=>this _ k (rL) hk
theorem b6w:∀ (T X:List Nat),d0s all X T = true → ∀ t ∈ T,∃ Y,d0r all Y t = true ∧ ∀ k ∈ X,k ∈ Y
 | [],_,_,t,ht=>by simp at ht
 | u :: us,X,h,t,ht=>by
  simp only [d0s,bA] at h
  rcases List.mem_cons.1 ht with rfl | ht
  ·exact ⟨X,h.1,fun k hk=>hk⟩
  ·obtain ⟨Y,h1,h2⟩:=b6w us (X ++ [u]) h.2 t ht
   exact ⟨Y,h1,fun k hk=>h2 k (List.mem_append_left _ hk)⟩
theorem c4l {Q0 Q:Act → WK} (hs:Region.noSelect all = true) {X:List Nat} (hcov:∀ i ∈ X,∀ listed,DownC all listed → listed.getD i true = false → ∀ j ∈ Region.ready .any all listed,D j = true) {m:Nat}:∀ (L:List Nat) (listed:Array Bool) (a:Act) (w:World),(∀ i ∈ L,i ∈ X) → DownC all listed → f0p all L listed = true → C w →
  a8g P all C Q0 (L.map (·,true)) a w → (∀ a',DownC all (a8w L listed) → Q0 a' w → b3b P all C D Q m (a8w L listed) a' w) → b3b P all C D Q (L.length + m) listed a w
 | [],listed,a,w,_,hdc,_,_,h,k=>by rw [List.length_nil,Nat.zero_add]; exact k a hdc h
 | i :: r,listed,a,w,hX,hdc,hB,hw,h,k=>by
  simp only [f0p,bA] at hB
  obtain ⟨hr,hf,hB'⟩:=hB
  obtain ⟨o,ho,v,hv,hn⟩:=h
  have hr:i ∈ Region.ready .any all listed:=by simpa using hr
  have:=c8d ho (Region.noSelect_spec hs) (hcov i (hX i (List.mem_cons_self ..))) (r.length + m) listed a w hdc (Region.free_spec ho hf) hr hv hw (c4l hs hcov r _ _ w (fun x hx=>hX x (List.mem_cons_of_mem _ hx)) (hdc.step hr) hB' hw hn k)
  rwa [show (i :: r).length + m = r.length + m + 1 by simp; omega]
end
def c4m (P:Program) (n:Nat) (all:Array Oper) (K:Env → WK):List Nat → Env → WK
 | [],e,w=>K e w
 | i :: r,e,w=>
  match all[i]? with
  | none=>False
  | some o=>opG P all e o (fun v w'=>c4m P n all K r (upd n e o.dst v) w') w
theorem seq_any {P:Program} {n:Nat} {all:Array Oper} {C:WK} {D:Nat → Bool} {K:Env → WK} {mods:List Nat} (hs:Region.noSelect all = true) (hm:∀ o ∈ all.toList,∀ d,o.dst = some d → d ∈ mods) :
  ∀ (T:List Nat) (listed:Array Bool) (e:Env) (a:Act) (w:World),(∀ t ∈ T,D t = false) → Rel ds n e a → b5c all (T.map (·,false)) listed = true → c4m P n all K T e w →
  b3b P all C D (fun a' w'=>∃ e',Rel ds n e' a' ∧ AgreeE mods e e' ∧ K e' w') T.length listed a w
 | [],listed,e,a,w,_,hr,hB,h=>⟨by simpa [b5c] using hB,e,hr,AgreeE.refl _ _,h⟩
 | t :: ts,listed,e,a,w,hD,hr,hB,h=>by
  simp only [List.map_cons,b5c,bA,beq_iff_eq] at hB
  obtain ⟨hrd,hB'⟩:=hB
  refine ⟨fun h0=>absurd (hrd.symm.trans h0) (by simp),fun j hj o ho=>?_⟩
  rw [hrd,List.mem_singleton] at hj
  subst hj
  unfold c4m at h
  rw [ho] at h
  refine a3f (d0p hr (fun cs b=>Region.noSelect_spec hs j o cs b ho) (fun _ _=>rfl) h) ?_
  rintro v0 w' ⟨v,hv,hk⟩
  rw [hv]
  refine ⟨fun hd=>absurd (hD j (List.mem_cons_self ..)) (by rw [hd]; simp),?_⟩
  have:=seq_any (C:=C) hs hm ts _ _ _ w' (fun x hx=>hD x (List.mem_cons_of_mem _ hx)) (hr.put o.dst v) hB' hk
  have hmem:o ∈ all.toList:=by simpa using Array.mem_of_getElem? ho
  have hp:=AgreeE.upd (n:=n) (e:=e) (o:=o.dst) v (hm o hmem)
  exact anyH2_mono (fun a' w' ⟨e',h1,h2,h3⟩=>⟨e',h1,hp.trans h2,h3⟩) _ _ _ _ this
where
 anyH2_mono {P:Program} {all:Array Oper} {C:WK} {D:Nat → Bool} {Q Q':Act → WK} (hq:∀ a w,Q a w → Q' a w):∀ (n:Nat) (listed:Array Bool) (a:Act) (w:World),b3b P all C D Q n listed a w → b3b P all C D Q' n listed a w
  | 0,_,_,_,h=>⟨h.1,hq _ _ h.2⟩
  | n + 1,listed,a,w,h=>⟨fun h0=>hq _ _ (h.1 h0),fun i hi o ho=>a3f (h.2 i hi o ho) (fun _ _ h=>⟨h.1,anyH2_mono hq n _ _ _ h.2⟩)⟩
section
variable {P:Program} {n:Nat} {all:Array Oper} {C:WK} {S:World → WK} {Kf:Env → WK} {e:Env} {L M T:List Nat} {mods:List Nat} {l2:Array Bool} {rsA:List (Nat × e1r)}
theorem g5v {D:Nat → Bool} (hsel:Region.noSelect all = true) (hm:∀ o ∈ all.toList,∀ d,o.dst = some d → d ∈ mods) (hB1:b6s n all L M M [] = true) (hL:L.all (fun i=>Nat.blt i all.size) = true)
  (hT:b5c all (T.map (·,false)) l2 = true) (hl2:l2.size = all.size) (hl2L:∀ j,j ∈ L ∨ j ∈ M → l2.getD j true = true) (hDl:∀ i,D i = true → l2.getD i true = true) (hDT:∀ t ∈ T,D t = false) (hDn:∀ i,i < all.size → D i = false → i ∈ T) (hcov:∀ t ∈ T,∃ Y,d0r all Y t = true ∧ ∀ k ∈ M,k ∈ Y)
  (hkeys:rsA.map (·.1) = M) (F1:∀ q ∈ rsA,∀ v w w',S w w' → q.2 v w → q.2 v w')
  (F2:∀ q ∈ rsA,∀ o,all[q.1]? = some o → ∃ pre:List (Nat × e1r),(∀ x ∈ pre,x ∈ rsA) ∧ (∀ j ∈ M,f0o all o j = true → j ∈ pre.map (·.1)) ∧ ∀ w,C w → e5d n all (f0o all o) pre e w (fun e=>opG P all e o (fun v w'=>C w' ∧ S w w' ∧ q.2 v w') w))
  (F3:∀ w,C w → e5d n all (fun _=>true) rsA e w (fun e=>c4m P n all Kf T e w)) :
  ∀ (u:Nat) (U:List Nat) (listed:Array Bool) (ec:Env) (a:Act) (w:World),U.length = u → Rel ds n ec a → C w → U.Nodup → (∀ k ∈ U,k ∈ M) → listed.size = all.size → DownC all listed →
   (∀ j,listed.getD j true = true ↔ (j ∉ U ∧ l2.getD j true = true)) → (∀ x ∈ M,x ∉ U → ∀ o,all[x]? = some o → ∀ y ∈ b1o o,y ∉ U) → (∀ t,(∀ j ∈ M,a5o all j ≠ some t) → ec t = e t) →
   (∀ q ∈ rsA,q.1 ∉ U → ∀ d,a5o all q.1 = some d → q.2 (ec d) w) → b3b P all C D (fun a' w'=>∃ e',Rel ds n e' a' ∧ AgreeE mods e e' ∧ Kf e' w') (u + T.length) listed a w:=by
 obtain ⟨hnd,hML,hpw,hspec⟩:=a9p M [] hB1
 have hMd:∀ j ∈ M,∃ o d,all[j]? = some o ∧ o.dst = some d ∧ d < n ∧ a5o all j = some d:=by
  intro j hj
  obtain ⟨pre,post,e⟩:=List.append_of_mem hj
  obtain ⟨o,d,a1,a2,a3,_⟩:=hspec pre j post e
  exact ⟨o,d,a1,a2,a3,by unfold a5o; rw [a1]; exact a2⟩
 have hMlt:∀ j ∈ M,j < all.size:=by
  intro j hj
  obtain ⟨o,d,a1,_⟩:=hMd j hj
  exact (Array.getElem?_eq_some_iff.1 a1).1
 have hLlt:∀ j ∈ L,j < all.size:=by
  intro j hj
  have:=List.all_eq_true.1 hL j hj
  simpa [Nat.blt,Nat.succ_le_iff] using this
 have hmods:∀ t,t ∉ mods → ∀ j ∈ M,a5o all j ≠ some t:=by
  intro t ht j hj he
  obtain ⟨o,d,a1,a2,a3,a4⟩:=hMd j hj
  rw [a4] at he
  obtain rfl:=oI he
  exact ht (hm o (by simpa using Array.mem_of_getElem? a1) d a2)
 have hinj:∀ i ∈ M,∀ j ∈ M,i ≠ j → ∀ d,a5o all i = some d → a5o all j ≠ some d:=by
  have:∀ (l:List Nat),l.Pairwise (fun k j=>∀ d,a5o all k = some d → a5o all j ≠ some d) → ∀ i ∈ l,∀ j ∈ l,i ≠ j → ∀ d,a5o all i = some d → a5o all j ≠ some d:=by
   intro l
   induction l with
   | nil=>intro _ i hi; simp at hi
   | cons x l ih=>
    intro hp i hi j hj hne d hd
    obtain ⟨h1,h2⟩:=List.pairwise_cons.1 hp
    rcases List.mem_cons.1 hi with rfl | hi' <;> rcases List.mem_cons.1 hj with rfl | hj'
    ·exact absurd rfl hne
    ·exact h1 j hj' d hd
    ·intro he; exact h1 i hi' d he hd
    ·exact ih h2 i hi' j hj' hne d hd
  exact this M hpw
 have hkn:(rsA.map (·.1)).Nodup:=by rw [hkeys]; exact hnd
 intro u
 induction u with
 | zero=>
  intro U listed ec a w hU hr hC _ _ hsz _ hli _ hM1 hM2
  obtain rfl:=List.length_eq_zero_iff.1 hU
  have hel:listed = l2:=by
   refine Array.ext (by omega) (fun j hj hj'=>?_)
   have:=hli j
   rw [Array.getD_eq_getD_getElem?,Array.getD_eq_getD_getElem?,Array.getElem?_eq_getElem hj,Array.getElem?_eq_getElem hj'] at this
   simp only [List.not_mem_nil,not_false_eq_true,true_and,Option.getD_some] at this
   cases h1:listed[j] <;> cases h2:l2[j] <;> simp_all
  subst hel
  obtain ⟨e',hk,ht⟩:=c1c (ec:=ec) rsA e (fun q hq=>by
   obtain ⟨o,d,_,_,a3,a4⟩:=hMd q.1 (hkeys ▸ List.mem_map_of_mem (f:=(·.1)) hq)
   exact ⟨d,a4,a3⟩) (fun q hq _ d hd=>hM2 q hq (by simp) d hd) (F3 w hC)
  have he:e' = ec:=by
   funext t
   rcases ht t with ⟨h1,_⟩ | ⟨h1,h2⟩
   ·exact h1
   ·rw [h1,hM1 t (fun j hj=>?_)]
    rw [← hkeys] at hj
    obtain ⟨q,hq,rfl⟩:=List.mem_map.1 hj
    exact h2 q hq rfl
  subst he
  rw [Nat.zero_add]
  have h:=seq_any (C:=C) (D:=D) hsel hm T _ _ a w hDT hr hT hk
  refine seq_any.anyH2_mono (fun a' w' ⟨e2,h1,h2,h3⟩=>⟨e2,h1,AgreeE.trans (fun i hi=>?_) h2,h3⟩) _ _ _ _ h
  exact hM1 i (hmods i (by simpa using hi))
 | succ u ih=>
  intro U listed ec a w hU hr hC hnU hUM hsz hdn hli hDC hM1 hM2
  have hup:∀ j,listed.getD j false = true → l2.getD j false = true:=fun j hj=>e1t (by have:=g0g hj; omega) ((hli j).1 (b6u hj)).2
  rw [Nat.succ_add]
  refine ⟨fun h0=>?_,fun i hi o ho=>?_⟩
  ·exfalso
   obtain ⟨x,hx⟩:∃ x,x ∈ U:=List.exists_mem_of_length_pos (by omega)
   obtain ⟨pre,k,post,e1,hkU,hpre⟩:=b6t M ⟨x,hUM x hx,hx⟩
   obtain ⟨o,d,a1,a2,a3,a4,a5⟩:=hspec pre k post e1
   have:k ∈ Region.ready .any all listed:=by
    refine mem_ready.2 ⟨?_,o,a1,fun ed hed hb=>?_⟩
    ·cases hg:listed.getD k true with
     | false=>rfl
     | true=>exact absurd hkU ((hli k).1 hg).1
    ·have hw:=a4 _ (e1s hed hb)
     simp only [List.nil_append] at hw
     have hnU':ed.on ∉ U:=by
      rcases hw with hw | hw
      ·exact fun hu=>hML _ (hUM _ hu) hw
      ·exact hpre _ hw
     have hin:ed.on ∈ L ∨ ed.on ∈ M:=hw.imp id (fun h=>by rw [e1]; exact List.mem_append_left _ h)
     exact e1t (by rcases hin with h | h; have:=hLlt _ h; omega; have:=hMlt _ h; omega) ((hli _).2 ⟨hnU',hl2L _ hin⟩)
   rw [h0] at this
   simp at this
  ·obtain ⟨hun,o',ho',hall⟩:=mem_ready.1 hi
   obtain rfl:o = o':=oI (ho.symm.trans ho')
   have hwU:∀ y ∈ b1o o,y ∉ U:=by
    intro y hy
    obtain ⟨ed,hed,hb,rfl⟩:=b3a hy
    exact ((hli _).1 (b6u (hall ed hed hb))).1
   by_cases hiU:i ∈ U
   ·have hiM:=hUM i hiU
    obtain ⟨q,hq,rfl⟩:=List.mem_map.1 (hkeys.symm ▸ hiM)
    obtain ⟨o2,d,a1,a2,a3,a4⟩:=hMd q.1 hiM
    obtain rfl:o = o2:=oI (ho.symm.trans a1)
    obtain ⟨pre,b1,b2,b3⟩:=F2 q hq o ho
    obtain ⟨pr,po,e1⟩:=List.append_of_mem hiM
    obtain ⟨o3,d3,c1,c2,c3,c4,c5⟩:=hspec pr q.1 po e1
    obtain rfl:o = o3:=oI (ho.symm.trans c1)
    obtain ⟨e',hk,ht⟩:=c1c (ec:=ec) pre e (fun x hx=>by
     obtain ⟨o,d,_,_,a3,a4⟩:=hMd x.1 (hkeys ▸ List.mem_map_of_mem (f:=(·.1)) (b1 x hx))
     exact ⟨d,a4,a3⟩) (fun x hx hrd dx hdx=>hM2 x (b1 x hx) (hwU _ (c5 x.1 (hkeys ▸ List.mem_map_of_mem (f:=(·.1)) (b1 x hx)) hrd).1) dx hdx) (b3 w hC)
    have hl:∀ t ∈ o.looksAt all,e' t = ec t:=by
     intro t htl
     rcases ht t with ⟨h1,_⟩ | ⟨h1,h2⟩
     ·exact h1
     ·rw [h1,hM1 t (fun j hj hjd=>?_)]
      have hrd:f0o all o j = true:=by
       unfold f0o; rw [hjd]; simpa using htl
      obtain ⟨x,hx,rfl⟩:=List.mem_map.1 (b2 j hj hrd)
      exact h2 x hx hrd hjd
    refine a3f (K:=fun a' w'=>∃ v,a' = a.put o.dst v ∧ C w' ∧ S w w' ∧ q.2 v w') (d0p hr (fun cs b=>Region.noSelect_spec hsel q.1 o cs b ho) hl hk) ?_
    rintro v0 w' ⟨v,hv,hC',hS,hR⟩
    rw [hv]
    have hr':=hr.put o.dst v
    rw [a2] at hr'
    have hmemE:∀ j,j ∈ U.erase q.1 ↔ (j ≠ q.1 ∧ j ∈ U):=fun j=>hnU.mem_erase_iff
    have hud:upd n ec (some d) v d = v:=by
     have hb:Nat.blt d n = true:=by simpa [Nat.blt,Nat.succ_le_iff] using a3
     simp [upd,hb]
    have hun':∀ t,t ≠ d → upd n ec (some d) v t = ec t:=by
     intro t htd
     have hb:Nat.beq t d = false:=by
      cases hx:Nat.beq t d with
      | false=>rfl
      | true=>exact absurd (Nat.eq_of_beq_eq_true hx) htd
     simp [upd,hb]
    have:=ih (U.erase q.1) (listed.setIfInBounds q.1 true) (upd n ec (some d) v) (a.put o.dst v) w' (by rw [List.length_erase_of_mem hiU]; omega) (by rw [a2]; exact hr') hC' (hnU.erase _) (fun k hk=>hUM k ((hmemE k).1 hk).2) (by simpa using hsz) (hdn.step hi) (fun j=>?_) (fun x hx hxU ox hox y hy=>?_) (fun t ht=>?_) (fun q' hq' hqU d' hd'=>?_)
    ·exact ⟨fun _=>hC',this⟩
    ·by_cases hj:j = q.1
     ·subst hj
      have h1:(listed.setIfInBounds q.1 true).getD q.1 true = true:=by
       have hlt:=hMlt _ hiM
       simp [Array.getD_eq_getD_getElem?,Array.getElem?_setIfInBounds,hsz,hlt]
      simp only [h1,true_iff]
      exact ⟨fun h=>((hmemE _).1 h).1 rfl,hl2L _ (.inr hiM)⟩
     ·rw [getD_set_ne true (fun e=>hj e.symm),hli j,hmemE]
      simp [hj]
    ·have hyU:y ∉ U:=by
      by_cases hxi:x = q.1
      ·subst hxi
       obtain rfl:o = ox:=oI (ho.symm.trans hox)
       exact hwU y hy
      ·exact hDC x hx (fun h=>hxU ((hmemE x).2 ⟨hxi,h⟩)) ox hox y hy
     exact fun h=>hyU ((hmemE y).1 h).2
    ·rw [hun' t (fun e=>ht q.1 hiM (by rw [a4,e]))]
     exact hM1 t ht
    ·by_cases hqi:q'.1 = q.1
     ·obtain rfl:=d0q hkn hq' hq hqi
      rw [a4] at hd'
      obtain rfl:=oI hd'
      rw [hud]; exact hR
     ·have hne:d' ≠ d:=fun he=>hinj _ (hkeys ▸ List.mem_map_of_mem (f:=(·.1)) hq') _ hiM hqi d' hd' (by rw [a4,he])
      rw [hun' d' hne]
      exact F1 q' hq' _ _ _ hS (hM2 q' hq' (fun h=>hqU ((hmemE _).2 ⟨hqi,h⟩)) d' hd')
   ·exfalso
    have hiT:i ∈ T:=by
     refine hDn i (Array.getElem?_eq_some_iff.1 ho).1 ?_
     cases hd:D i with
     | false=>rfl
     | true=>exact absurd ((hli i).2 ⟨hiU,hDl i hd⟩) (by rw [hun]; simp)
    obtain ⟨Y,hY,hMY⟩:=hcov i hiT
    obtain ⟨x,hx⟩:∃ x,x ∈ U:=List.exists_mem_of_length_pos (by omega)
    have:=b6v hY ho hdn (fun y hy=>by
     obtain ⟨ed,hed,hb,rfl⟩:=b3a hy
     exact hall ed hed hb) x (hMY x (hUM x hx))
    exact ((hli x).1 this).1 hx
end
def f7t (n:Nat) (all:Array Oper) (L M T:List Nat):Bool:=
 Region.noSelect all && (f0p all L (Array.replicate all.size false) && (L.all (fun i=>Nat.blt i all.size) && (b6s n all L M M [] &&
  (b5c all (T.map (·,false)) (a8w M (a8w L (Array.replicate all.size false))) &&
  (Nat.beq (L.length + (M.length + T.length)) all.size && (d0s all (L ++ M) T && (T.all (fun t=>!(L ++ M).contains t) && (List.range all.size).all (fun j=>(L ++ M).contains j || T.contains j))))))))
def g5w (P:Program) (n:Nat) (all:Array Oper) (L M T:List Nat) (K:Env → WK) (C:WK) (e:Env) (w:World):Prop:=
 f7t n all L M T = true ∧ a6b P n all C (fun e _=>∃ S:World → WK,b6r P n all C S (fun e w=>c4m P n all K T e w) M [] e) (L.map (·,true)) e w
theorem e1v {P:Program} {n:Nat} {all:Array Oper} {L M T:List Nat} {K:Env → WK} {C:WK} {mods:List Nat} (hm:∀ o ∈ all.toList,∀ d,o.dst = some d → d ∈ mods) {e:Env} {a:Act} {w:World} (hr:Rel ds n e a) (hC:C w)
  (h:g5w P n all L M T K C e w):b3b P all C (fun j=>(L ++ M).contains j) (fun a' w'=>∃ e',Rel ds n e' a' ∧ AgreeE mods e e' ∧ K e' w') all.size (Array.replicate all.size false) a w:=by
 obtain ⟨hB,h⟩:=h
 simp only [f7t,bA] at hB
 obtain ⟨hsel,hlook,hL,hB1,hT,hlen,hcov,hTX,hcn⟩:=hB
 have hlen:=Nat.eq_of_beq_eq_true hlen
 have hcovT:=b6w T (L ++ M) hcov
 have hDT:∀ t ∈ T,(L ++ M).contains t = false:=fun t ht=>by simpa using List.all_eq_true.1 hTX t ht
 have hDn:∀ i,i < all.size → (L ++ M).contains i = false → i ∈ T:=fun i hi hd=>by
  have:=List.all_eq_true.1 hcn i (List.mem_range.2 hi)
  rw [hd,Bool.false_or] at this
  simpa using this
 have h:=heldOps_wp hm _ e a w hr h
 have hcv:∀ i ∈ L ++ M,∀ listed,DownC all listed → listed.getD i true = false → ∀ j ∈ Region.ready .any all listed,(L ++ M).contains j = true:=by
  intro i hi listed hdc hun j hj
  cases hd:(L ++ M).contains j with
  | true=>rfl
  | false=>
   obtain ⟨_,oj,hoj,hall⟩:=mem_ready.1 hj
   obtain ⟨Y,hY,hXY⟩:=hcovT j (hDn j (Array.getElem?_eq_some_iff.1 hoj).1 hd)
   have:=b6v hY hoj hdc (fun y hy=>by
    obtain ⟨ed,hed,hb,rfl⟩:=b3a hy
    exact hall ed hed hb) i (hXY i hi)
   rw [this] at hun; cases hun
 have key:=c4l (D:=fun j=>(L ++ M).contains j) (Q:=fun a' w'=>∃ e',Rel ds n e' a' ∧ AgreeE mods e e' ∧ K e' w') hsel hcv (m:=M.length + T.length) L (Array.replicate all.size false) a w (fun i hi=>List.mem_append_left _ hi) (fun x o ho hx=>by
  have hlt:=(Array.getElem?_eq_some_iff.1 ho).1
  simp [Array.getD_eq_getD_getElem?,Array.getElem?_replicate,hlt] at hx) hlook hC h ?_
 ·rw [hlen] at key; exact key
 rintro a' hdc ⟨e1,hr1,ha1,S,hmo⟩
 obtain ⟨rsA,k1,k2,k3,k4⟩:=b4q M [] [] rfl hB1 hmo
 simp only [List.nil_append] at k3 k4
 have hnd:=(a9p M [] hB1)
 have hl2:∀ j,j ∈ L ∨ j ∈ M → (a8w M (a8w L (Array.replicate all.size false))).getD j true = true:=fun j hj=>(a7t _ _ _).2 (hj.symm.imp id (fun h=>(a7t _ _ _).2 (.inl h)))
 refine seq_any.anyH2_mono (fun a' w' ⟨e2,h1,h2,h3⟩=>⟨e2,h1,ha1.trans h2,h3⟩) _ _ _ _
  (g5v (S:=S) (rsA:=rsA) (D:=fun j=>(L ++ M).contains j) hsel hm hB1 hL hT (by rw [a9o,a9o]; simp) hl2 (fun i hi=>hl2 i (by simpa using hi)) hDT hDn (fun t ht=>(hcovT t ht).imp fun Y h=>⟨h.1,fun k hk=>h.2 k (List.mem_append_right _ hk)⟩) k1 k2 k3 k4 M.length M _ e1 a' w rfl hr1 hC hnd.1 (fun k hk=>hk) (by rw [a9o]; simp) hdc (fun j=>?_) (fun x hx hxM=>absurd hx hxM) (fun t _=>rfl) (fun q hq hqM=>absurd (k1 ▸ List.mem_map_of_mem (f:=(·.1)) hq) hqM))
 have e1:=a7t M (a8w L (Array.replicate all.size false)) j
 constructor
 ·intro hj
  refine ⟨fun hjM=>?_,e1.2 (.inr hj)⟩
  have hjl:j < all.size:=by
   obtain ⟨pre,post,e⟩:=List.append_of_mem hjM
   obtain ⟨o,d,a1,_⟩:=hnd.2.2.2 pre j post e
   exact (Array.getElem?_eq_some_iff.1 a1).1
  rcases (a7t _ _ _).1 hj with hj | hj
  ·exact hnd.2.1 j hjM hj
  ·simp [Array.getD_eq_getD_getElem?,Array.getElem?_replicate,hjl] at hj
 ·rintro ⟨hjM,hj⟩
  exact (e1.1 hj).resolve_left hjM
def c1d:Code → List Nat
 | .region _ os _=>os.toList.filterMap (·.dst)
 | .seq x y=>c1d x ++ c1d y
 | .cond _ x y=>c1d x ++ c1d y
 | .block _ c | .loop c | .scope c=>c1d c
 | _=>[]
def a9q:Code → List Nat
 | .region _ os _=>os.toList.filterMap (fun o=>match o.op with | .assign _=>o.dst | _=>none)
 | .seq x y=>a9q x ++ a9q y
 | .cond _ x y=>a9q x ++ a9q y
 | .block _ c | .loop c | .scope c=>a9q c
 | _=>[]
def f0q:List Nat → List Nat → List Nat
 | [],acc=>acc.reverse
 | i :: l,acc=>bif acc.contains i then f0q l acc else f0q l (i :: acc)
def d2x:List Operand → List Nat
 | []=>[]
 | .tmp t :: xs=>t :: d2x xs
 | _ :: xs=>d2x xs
def g0h (o:Oper):List Nat:=
 match d2u o.op with
 | some x=>d2x [x]
 | none=>
  match b9s o.op with
  | some (_,xs)=>d2x xs
  | none=>
   match b0g o.op with
   | some (_,xs)=>d2x xs
   | none=>[]
def fresh (wr:List Nat):List Nat → List Nat → List Nat
 | [],acc=>acc
 | i :: l,acc=>bif wr.contains i then fresh wr l acc else fresh wr l (i :: acc)
def b9t (all:Array Oper):List Oper → List Nat → List Nat → List Nat × List Nat
 | [],acc,wr=>(acc,wr)
 | o :: rest,acc,wr=>b9t all rest (fresh wr (match o.guard with | some (j,_)=>(match a5o all j with | some d=>d :: g0h o | none=>g0h o) | none=>g0h o) acc)
   (match o.dst with | some d=>d :: wr | none=>wr)
def b0t:Code → List Nat → List Nat → List Nat × List Nat
 | .region _ os _,acc,wr=>b9t os os.toList acc wr
 | .seq x y,acc,wr=>b0t y (b0t x acc wr).1 (b0t x acc wr).2
 | .cond c x y,acc,wr=>((b0t y (b0t x (fresh wr (d2x [c]) acc) wr).1 wr).1,wr)
 | .block _ c,acc,wr | .loop c,acc,wr | .scope c,acc,wr=>((b0t c acc wr).1,wr)
 | _,acc,wr=>(acc,wr)
def vars (c:Code):List Nat:=(f0q (c1d c) []).filter (fun d=>(a9q c).contains d || (b0t c [] []).1.contains d)
def idx:List Nat → Nat → Nat → Option Nat
 | [],_,_=>none
 | v :: vs,i,n=>bif Nat.beq v i then some n else idx vs i (n + 1)
def mix (vs:List Nat) (l:List Value) (u:Env) (i:Nat):Value:=
 match idx vs i 0 with
 | some n=>l.getD n undef
 | none=>u i
theorem d0t (vs:List Nat) (e:Env):mix vs (vs.map e) e = e:=by
 have key:∀ (vs pre:List Nat) (i n:Nat),idx vs i pre.length = some n → ((pre ++ vs).map e).getD n undef = e i:=by
  intro vs
  induction vs with
  | nil=>intro pre i n h; simp [idx] at h
  | cons v vs ih=>
   intro pre i n h
   unfold idx at h
   cases hb:Nat.beq v i with
   | true=>
    rw [hb] at h
    simp only [cond_true,Option.some.injEq] at h
    subst h
    have:v = i:=Nat.eq_of_beq_eq_true hb
    subst this
    simp
   | false=>
    rw [hb] at h
    have:=ih (pre ++ [v]) i n (by simpa using h)
    simpa using this
 funext i
 unfold mix
 split
 ·rename_i n h
  have:=key vs [] i n (by simpa using h)
  simpa using this
 ·rfl
def g7w (e:Env) (mods:List Nat) (u:Env):Env:=fun i=>bif mods.contains i then u i else e i
theorem c4n {mods:List Nat} {e e':Env} (h:AgreeE mods e e'):g7w e mods e' = e':=by
 funext i
 unfold g7w
 cases hb:mods.contains i with
 | true=>rfl
 | false=>exact (h i hb).symm
def c1e (a:Act):Env:=fun i=>a.tmps.getD i undef
def b2a:Code → Nat × List Nat
 | .skip | .region _ _ _ | .label _=>(1,[])
 | .exit i=>(0,[i])
 | .seq x y=>match (b2a x).1 with
  | 0=>b2a x
  | _=>((b2a y).1,(b2a x).2 ++ (b2a y).2)
 | .cond _ x y=>((b2a x).1 + (b2a y).1,(b2a x).2 ++ (b2a y).2)
 | .block i c=>((b2a c).1 + ((b2a c).2.filter (fun j=>Nat.beq j i)).length,(b2a c).2.filter (fun j=>!Nat.beq j i))
 | .loop c=>(0,(b2a c).2)
 | .scope c=>b2a c
 | _=>(0,[])
def g0i (x y:Code):List Nat:=(f0q (c1d x) []).filter (fun d=>(a9q x).contains d || (b0t y [] []).1.contains d)
def e1w (x:List Value) (w:World) (body:(List Value → World → Prop) → (List Value → World → Nat) → List Value → Env → WK):Prop:=
 ∃ (J:List Value → World → Prop) (μ:List Value → World → Nat),J x w ∧ ∀ (l:List Value) (u:Env) (w:World),J l w → body J μ l u w
def a5u (pre:(List Value → World → Prop) → Prop) (post:List Value → Env → WK):Prop:=
 ∃ M:List Value → World → Prop,pre M ∧ ∀ (l:List Value) (u:Env) (w:World),M l w → post l u w
def b4r (w:World) (body:(WK) → Prop):Prop:=∃ C:WK,C { w with drawn:=w.drawn + 1 } ∧ body C
def a4t (w:World) (body:(Nat → WK) → WK):Prop:=∃ C:Nat → WK,C 0 { w with drawn:=w.drawn + 1 } ∧ body C { w with drawn:=w.drawn + 1 }
def f0r (w:World) (body:(WK) → WK):Prop:=∃ C:WK,C { w with drawn:=w.drawn + 1 } ∧ body C { w with drawn:=w.drawn + 1 }
inductive Md where
 | quiet
 | held
 | stage
 | tree (t:Tr)
 | free (L M T:List Nat)
instance:OfNat Md 0:=⟨.quiet⟩
instance:OfNat Md 2:=⟨.held⟩
instance:OfNat Md 3:=⟨.stage⟩
def c2q (P:Program) (q:Nat → Md) (n:Nat):Code → Env → (Exit → Env → WK) → WK
 | .skip,e,K,w=>K .normal e w
 | .region id os draw,e,K,w=>
  match draw with
  | false=>ops P n os (K .normal) os.toList e w
  | true=>
   match q id with
   | .quiet=>b4r w (fun C=>a8e P n os C (fun e'=>∀ w',C w' → K .normal e' w') os.toList e)
   | .held=>f0r w (fun C w=>a6b P n os C (fun e' w'=>K .normal e' w') (b4e os) e w)
   | .tree t=>f0r w (fun C w=>a9n P n os C (fun e' w'=>K .normal e' w') t e w)
   | .free L M T=>f0r w (fun C w=>g5w P n os L M T (fun e' w'=>K .normal e' w') C e w)
   | .stage=>a4t w (fun C w=>a4v P n os (g7d (b4e os)) C (fun e' w'=>K .normal e' w') (b4e os) 0 e w)
 | .seq x y,e,K,w=>
  match Nat.ble 2 (b2a x).1 with
  | false=>c2q P q n x e (fun ex e' w'=>match ex with | .normal=>c2q P q n y e' K w' | _=>K ex e' w') w
  | true=>a5u (fun M=>c2q P q n x e (fun ex e' w'=>match ex with | .normal=>M ((g0i x y).map e') w' | _=>K ex e' w') w)
    (fun l u w=>c2q P q n y (g7w e (c1d x) (mix (g0i x y) l u)) K w)
 | .cond c x y,e,K,w=>a2c (evE e c) (c2q P q n x e K w) (c2q P q n y e K w)
 | .block id c,e,K,w=>c2q P q n c e (fun ex e' w'=>match ex with | .exit i=>bif Nat.beq i id then K .normal e' w' else K ex e' w' | _=>K ex e' w') w
 | .loop c,e,K,w=>e1w ((vars c).map e) w (fun J μ l u w=>c2q P q n c (g7w e (c1d c) (mix (vars c) l u)) (fun ex e' w'=>match ex with | .normal=>J ((vars c).map e') w' ∧ μ ((vars c).map e') w' < μ l w | _=>K ex e' w') w)
 | .exit id,e,K,w=>K (.exit id) e w
 | .ret,e,K,w=>K .ret e w
 | .label _,e,K,w=>K .normal e w
 | .scope c,e,K,w=>c2q P q n c e (fun ex e' w'=>match ex with | .goto _=>False | _=>K ex e' w') w
 | _,_,_,_=>False
def a4d (P:Program) (q:Nat → Md):Code → Bool
 | .region id os draw=>!draw || (P.follows .mixedOrders && (match q id with | .quiet=>Region.lexB .any os | .held=>e2d os | .tree t=>h1z os t | .free _ _ _=>true | .stage=>c8n os))
 | .seq x y=>a4d P q x && a4d P q y
 | .cond _ x y=>a4d P q x && a4d P q y
 | .block _ c | .loop c | .scope c=>a4d P q c
 | _=>true
theorem e1x {P:Program} {ops:Array Oper} {C:WK} {Q:Exit → Act → WK} {a:Act} {w:World} (hB:Region.lexB .any ops = true) (hC:C { w with drawn:=w.drawn + 1 })
  (h:wpQuiet P ops C (fun a'=>∀ w',C w' → Q .normal a' w') ops.toList a):wpAny P .any ops Q ops.size (Array.replicate ops.size false) a { w with drawn:=w.drawn + 1 }:=by
 simp only [Region.lexB,bA] at hB
 refine wpAny_of_quiet (Q:=fun a'=>∀ w',C w' → Q .normal a' w') (fun _ w' hw' h=>h w' hw') _ _ _ _ hC ?_
 have:=wpAnyQ_lex (C:=C) (md:=.any) hB.1 ops.toList 0 (Array.replicate ops.size false) a (by simp) (by simpa using hB.2) h
 simpa using this
theorem c8e {P:Program} {q:Nat → Md} {n:Nat} {id:Nat} {os:Array Oper} (hq:a4d P q (.region id os true) = true) {e:Env} {a:Act} {K:Exit → Env → WK} {w:World} (hr:Rel ds n e a) (h:c2q P q n (.region id os true) e K w) :
  P.follows .mixedOrders = true ∧ wpAny P .any os (fun ex a' w'=>ex = .normal ∧ ∃ e',Rel ds n e' a' ∧ AgreeE (os.toList.filterMap (·.dst)) e e' ∧ K .normal e' w') os.size (Array.replicate os.size false) a { w with drawn:=w.drawn + 1 }:=by
 unfold c2q at h
 match hqi:q id with
 | .quiet=>
  rw [hqi] at h
  simp only [a4d,hqi,Bool.not_true,Bool.false_or,bA] at hq
  obtain ⟨C,hC,h⟩:=h
  refine ⟨hq.1,e1x (C:=C) hq.2 hC (quietOps_wp.wpQuiet_mono _ _ (quietOps_wp os.toList e a hr (mods:=os.toList.filterMap (·.dst)) (fun o ho d hd=>by simp only [List.mem_filterMap]; exact ⟨o,ho,hd⟩) h) ?_)⟩
  rintro a' ⟨e',h1,h2,h3⟩ w' hw'
  exact ⟨rfl,e',h1,h2,h3 w' hw'⟩
 | .held=>
  rw [hqi] at h
  simp only [a4d,hqi,Bool.not_true,Bool.false_or,bA] at hq
  obtain ⟨C,hC,h⟩:=h
  refine ⟨hq.1,f0z (C:=C) hq.2 hC (heldOps_wp.wpHeld_mono _ _ _ (heldOps_wp (mods:=os.toList.filterMap (·.dst)) (fun o ho d hd=>by simp only [List.mem_filterMap]; exact ⟨o,ho,hd⟩) _ e a _ hr h) ?_)⟩
  rintro a' w' ⟨e',h1,h2,h3⟩
  exact ⟨rfl,e',h1,h2,h3⟩
 | .stage=>
  rw [hqi] at h
  simp only [a4d,hqi,Bool.not_true,Bool.false_or,bA] at hq
  obtain ⟨C,hC,h⟩:=h
  refine ⟨hq.1,e3g (C:=C) hq.2 hC (a6o _ _ _ _ (b1z (mods:=os.toList.filterMap (·.dst)) (fun o ho d hd=>by simp only [List.mem_filterMap]; exact ⟨o,ho,hd⟩) _ 0 e a _ hr h) ?_)⟩
  rintro a' w' ⟨e',h1,h2,h3⟩
  exact ⟨rfl,e',h1,h2,h3⟩
 | .tree t=>
  rw [hqi] at h
  simp only [a4d,hqi,Bool.not_true,Bool.false_or,bA,h1z] at hq
  obtain ⟨C,hC,h⟩:=h
  refine ⟨hq.1,a6d (C:=C) (Q:=fun a' w'=>Exit.normal = .normal ∧ ∃ e',Rel ds n e' a' ∧ AgreeE (os.toList.filterMap (·.dst)) e e' ∧ K .normal e' w') (fun _ _ h=>h) _ _ _ _ (b2z ?_ _ _ _ _ ((f0n (mods:=os.toList.filterMap (·.dst)) hq.2.1 (fun o ho d hd=>by simp only [List.mem_filterMap]; exact ⟨o,ho,hd⟩) t _ _ e a _ hr hC h).1 hq.2.2))⟩
  rintro a' w' ⟨e',h1,h2,h3⟩
  exact ⟨rfl,e',h1,h2,h3⟩
 | .free L M T=>
  rw [hqi] at h
  simp only [a4d,hqi,Bool.not_true,Bool.false_or,bA] at hq
  obtain ⟨C,hC,h⟩:=h
  refine ⟨hq.1,a6m (Q:=fun a' w'=>∃ e',Rel ds n e' a' ∧ AgreeE (os.toList.filterMap (·.dst)) e e' ∧ K .normal e' w') ?_ _ _ _ _ (e1v (mods:=os.toList.filterMap (·.dst)) (fun o ho d hd=>by simp only [List.mem_filterMap]; exact ⟨o,ho,hd⟩) hr hC h)⟩
  rintro a' w' ⟨e',h1,h2,h3⟩
  exact ⟨rfl,e',h1,h2,h3⟩
structure WpLike (P:Program) (ok:Array Oper → Bool) (sc:Bool) (W:Code → (Exit → Act → WK) → Act → WK):Prop where
 mono:∀ {c Q Q' a w},W c Q a w → (∀ e a w,Q e a w → Q' e a w) → W c Q' a w
 skip:∀ {Q a w},Q .normal a w → W .skip Q a w
 label:∀ {l Q a w},Q .normal a w → W (.label l) Q a w
 exit:∀ {id Q a w},Q (.exit id) a w → W (.exit id) Q a w
 ret:∀ {Q a w},Q .ret a w → W .ret Q a w
 seq:∀ {x y Q a w},W x (Exit.then (W y Q) Q) a w → W (.seq x y) Q a w
 cond:∀ {c x y t Q a w},Act.eval a c = .bool t → (t = true → W x Q a w) → (t = false → W y Q a w) → W (.cond c x y) Q a w
 block:∀ {id c Q a w},W c (Exit.inBlock id Q) a w → W (.block id c) Q a w
 loop:∀ {c Q a w} (I:Act → WK) (μ:Act → World → Nat),I a w → (∀ a w,I a w → W c (Exit.then (fun a' w'=>I a' w' ∧ μ a' w' < μ a w) Q) a w) → W (.loop c) Q a w
 scope:∀ {c Q a w},sc = true → W c (Exit.noGoto Q) a w → W (.scope c) Q a w
 list:∀ {id:Nat} {os:Array Oper} {Q:Act → WK} {a:Act} {w:World},ok os = true → wpList P os (fun ex a w=>ex = .normal ∧ Q a w) os.toList a w → W (.region id os false) (fun ex a w=>ex = .normal ∧ Q a w) a w
 any:∀ {id:Nat} {os:Array Oper} {Q:Act → WK} {a:Act} {w:World},ok os = true → P.follows .mixedOrders = true → wpAny P .any os (fun ex a w=>ex = .normal ∧ Q a w) os.size (Array.replicate os.size false) a { w with drawn:=w.drawn + 1 } → W (.region id os true) (fun ex a w=>ex = .normal ∧ Q a w) a w
theorem e1y (P:Program):WpLike P (fun _=>true) true (Code.wp P) where
 mono h hq:=wp_mono h hq
 skip:=wp_skip
 label:=wp_label
 exit:=wp_exit
 ret:=wp_ret
 seq:=wp_seq
 cond hc h1 h2:=wp_cond_split hc h1 h2
 block:=wp_block
 loop I μ h0 h:=wp_loop I μ h0 h
 scope _:=wp_scope_straight
 list _ h:=wp_region_list h
 any _ hm h:=wp_region_any hm h
def a8f (ok:Array Oper → Bool) (sc:Bool):Code → Bool
 | .region _ os _=>ok os
 | .seq x y | .cond _ x y=>a8f ok sc x && a8f ok sc y
 | .block _ c | .loop c=>a8f ok sc c
 | .scope c=>sc && a8f ok sc c
 | _=>true
theorem a4e:∀ c:Code,a8f (fun _=>true) true c = true
 | .region _ _ _=>rfl
 | .seq x y=>by simp [a8f,a4e x,a4e y]
 | .cond _ x y=>by simp [a8f,a4e x,a4e y]
 | .block _ c=>by simp [a8f,a4e c]
 | .loop c=>by simp [a8f,a4e c]
 | .scope c=>by simp [a8f,a4e c]
 | .skip | .label _ | .exit _ | .ret | .goto _ | .rangeFunc _ _ _ _ | .refuse _=>rfl
theorem b6x {P:Program} {ok:Array Oper → Bool} {sc:Bool} {W:Code → (Exit → Act → WK) → Act → WK} (hW:WpLike P ok sc W) {q:Nat → Md} {n:Nat} (c:Code) (hq:a4d P q c = true) (hok:a8f ok sc c = true):∀ (e:Env) (a:Act) (K:Exit → Env → WK) (w:World),Rel ds n e a → c2q P q n c e K w →
  W c (fun ex a' w'=>∃ e',Rel ds n e' a' ∧ AgreeE (c1d c) e e' ∧ K ex e' w') a w:=by
 induction c with
 | skip=>exact fun e a K w hr h=>hW.skip ⟨e,hr,AgreeE.refl _ _,h⟩
 | label l=>exact fun e a K w hr h=>hW.label ⟨e,hr,AgreeE.refl _ _,h⟩
 | exit id=>exact fun e a K w hr h=>hW.exit ⟨e,hr,AgreeE.refl _ _,h⟩
 | ret=>exact fun e a K w hr h=>hW.ret ⟨e,hr,AgreeE.refl _ _,h⟩
 | goto l=>exact fun e a K w hr h=>h.elim
 | rangeFunc f ps xs c=>exact fun e a K w hr h=>h.elim
 | refuse s=>exact fun e a K w hr h=>h.elim
 | region id os d=>
  intro e a K w hr h
  cases d with
  | false=>
   have h:ops P n os (K .normal) os.toList e w:=h
   refine hW.mono (hW.list (Q:=fun a' w'=>∃ e',Rel ds n e' a' ∧ AgreeE (os.toList.filterMap (·.dst)) e e' ∧ K .normal e' w') hok (f7s os.toList e a w hr (mods:=os.toList.filterMap (·.dst)) (fun o ho d hd=>by simp only [List.mem_filterMap]; exact ⟨o,ho,hd⟩) h)) ?_
   rintro ex a' w' ⟨rfl,e',h1,h2,h3⟩
   exact ⟨e',h1,h2,h3⟩
  | true=>
   have hd:=c8e hq hr h
   refine hW.mono (hW.any (Q:=fun a' w'=>∃ e',Rel ds n e' a' ∧ AgreeE (os.toList.filterMap (·.dst)) e e' ∧ K .normal e' w') hok hd.1 hd.2) ?_
   rintro ex a' w' ⟨rfl,e',h1,h2,h3⟩
   exact ⟨e',h1,h2,h3⟩
 | seq x y ihx ihy=>
  intro e a K w hr h
  simp only [a4d,bA] at hq
  simp only [a8f,bA] at hok
  have h:∃ M:Env → WK,c2q P q n x e (fun ex e' w'=>match ex with | .normal=>M e' w' | _=>K ex e' w') w ∧
    ∀ (e':Env) (w:World),AgreeE (c1d x) e e' → M e' w → c2q P q n y e' K w:=by
   unfold c2q at h
   split at h
   ·exact ⟨_,h,fun _ _ _ h=>h⟩
   ·obtain ⟨M,h1,h2⟩:=h
    refine ⟨fun e' w'=>M ((g0i x y).map e') w',h1,fun e' w' ha hm=>?_⟩
    have:=h2 _ e' w' hm
    dsimp only at this
    rwa [d0t,c4n ha] at this
  obtain ⟨M,h,hM⟩:=h
  refine hW.seq (hW.mono (ihx hq.1 hok.1 _ _ _ _ hr h) ?_)
  rintro ex a' w' ⟨e',hr',ha,hk⟩
  have ha':AgreeE (c1d (.seq x y)) e e':=ha.mono (fun i hi=>by simp only [c1d,List.mem_append]; exact .inl hi)
  cases ex with
  | normal=>
   have hk:=hM e' w' ha hk
   refine hW.mono (ihy hq.2 hok.2 _ _ _ _ hr' hk) ?_
   rintro ex a'' w'' ⟨e'',hr'',hb,hk⟩
   exact ⟨e'',hr'',ha'.trans (hb.mono (fun i hi=>by simp only [c1d,List.mem_append]; exact .inr hi)),hk⟩
  | _=>exact ⟨e',hr',ha',hk⟩
 | cond c x y ihx ihy=>
  intro e a K w hr h
  simp only [a4d,bA] at hq
  simp only [a8f,bA] at hok
  obtain ⟨t,hc,ht,hf⟩:=h
  have hc:a.eval c = .bool t:=by rw [hr.eval]; exact hc
  refine hW.cond hc (fun e1=>hW.mono (ihx hq.1 hok.1 _ _ _ _ hr (ht e1)) ?_) (fun e1=>hW.mono (ihy hq.2 hok.2 _ _ _ _ hr (hf e1)) ?_)
  ·rintro ex a' w' ⟨e',hr',ha,hk⟩
   exact ⟨e',hr',ha.mono (fun i hi=>by simp only [c1d,List.mem_append]; exact .inl hi),hk⟩
  ·rintro ex a' w' ⟨e',hr',ha,hk⟩
   exact ⟨e',hr',ha.mono (fun i hi=>by simp only [c1d,List.mem_append]; exact .inr hi),hk⟩
 | block id c ih=>
  intro e a K w hr h
  refine hW.block (hW.mono (ih hq hok _ _ _ _ hr h) ?_)
  rintro ex a' w' ⟨e',hr',ha,hk⟩
  have ha:AgreeE (c1d (.block id c)) e e':=ha
  cases ex with
  | exit id'=>
   simp only [Exit.inBlock] at hk ⊢
   split
   ·rename_i he
    subst he
    have hb:Nat.beq id' id' = true:=by simp
    rw [hb] at hk
    exact ⟨e',hr',ha,hk⟩
   ·rename_i he
    have hb:Nat.beq id' id = false:=by
     cases hx:Nat.beq id' id with
     | false=>rfl
     | true=>exact absurd (Nat.eq_of_beq_eq_true hx) he
    rw [hb] at hk
    exact ⟨e',hr',ha,hk⟩
  | _=>exact ⟨e',hr',ha,hk⟩
 | loop c ih=>
  intro e a K w hr h
  obtain ⟨J,μ,h0,hstep⟩:=h
  refine hW.loop (fun a' w'=>∃ e',Rel ds n e' a' ∧ AgreeE (c1d c) e e' ∧ J ((vars c).map e') w') (fun a' w'=>μ ((vars c).map (c1e a')) w') ⟨e,hr,AgreeE.refl _ _,h0⟩ ?_
  rintro a' w' ⟨e',hr',ha,hJ⟩
  have hs:=hstep _ e' w' hJ
  dsimp only at hs
  rw [d0t,c4n ha] at hs
  have he:c1e a' = e':=funext hr'.get
  refine hW.mono (ih hq hok _ _ _ _ hr' hs) ?_
  rintro ex a'' w'' ⟨e'',hr'',hb,hk⟩
  cases ex with
  | normal=>
   have he':c1e a'' = e'':=funext hr''.get
   refine ⟨⟨e'',hr'',ha.trans hb,hk.1⟩,?_⟩
   show μ ((vars c).map (c1e a'')) w'' < μ ((vars c).map (c1e a')) w'
   rw [he,he']
   exact hk.2
  | _=>exact ⟨e'',hr'',ha.trans hb,hk⟩
 | scope c ih=>
  intro e a K w hr h
  simp only [a8f,bA] at hok
  refine hW.scope hok.1 (hW.mono (ih hq hok.2 _ _ _ _ hr h) ?_)
  rintro ex a' w' ⟨e',hr',ha,hk⟩
  cases ex with
  | goto l=>exact hk.elim
  | _=>exact ⟨e',hr',ha,hk⟩
theorem d2y {P:Program} {q:Nat → Md} {n:Nat} (c:Code) (hq:a4d P q c = true) (e:Env) (a:Act) (K:Exit → Env → WK) (w:World) (hr:Rel ds n e a) (h:c2q P q n c e K w) :
  Code.wp P c (fun ex a' w'=>∃ e',Rel ds n e' a' ∧ AgreeE (c1d c) e e' ∧ K ex e' w') a w:=b6x (e1y P) c hq (a4e c) e a K w hr h
def g5x (P:Program) (e:Env) (w:World):List ResultVar → (List Value → Prop) → Prop
 | [],K=>K []
 | .tmp t :: r,K=>g5x P e w r (fun vs=>K (e t :: vs))
 | .cell s t :: r,K=>∃ v,(do loadVar t (← asAddr (e s)):Sem Value).run P w = .ok v w ∧ g5x P e w r (fun vs=>K (v :: vs))
def f0s:List Value → Value
 | [v]=>v
 | vs=>.tuple vs.toArray
def h1y (P:Program) (rs:List ResultVar) (K:VK) (ex:Exit) (e:Env) (w:World):Prop:=
 match ex with
 | .normal | .ret=>g5x P e w rs (fun vs=>K (f0s vs) w)
 | _=>False
theorem c8f {P:Program} {a:Act} {w:World} {K:Value → Prop} (rs:List ResultVar) (fn:Func) (hfn:fn.results = rs.toArray)
  (h:g5x P (c1e a) w rs (fun vs=>K (f0s vs))):∃ v,(results fn a.tmps).run P w = .ok v w ∧ K v:=by
 have key:∀ (rs:List ResultVar) (K:List Value → Prop),g5x P (c1e a) w rs K →
   ∃ vs,((rs.mapM (fun r:ResultVar=>(match r with | .tmp t=>pure (a.tmps.getD t undef) | .cell s t=>do loadVar t (← asAddr (a.tmps.getD s undef)):Sem Value))).run P w) = .ok vs w ∧ K vs:=by
  intro rs
  induction rs with
  | nil=>intro K h; exact ⟨[],by simp [List.mapM_nil],h⟩
  | cons r rs ih=>
   intro K h
   cases r with
   | tmp t=>
    obtain ⟨vs,hr,hk⟩:=ih _ h
    exact ⟨_,by simp only [List.mapM_cons,pure_bind,Sem.run_bind,hr]; rfl,hk⟩
   | cell s t=>
    obtain ⟨v,hv,h⟩:=h
    obtain ⟨vs,hr,hk⟩:=ih _ h
    refine ⟨v :: vs,?_,hk⟩
    simp only [List.mapM_cons]
    unfold c1e at hv
    rw [Sem.run_bind,hv,Result.andThen_ok,Sem.run_bind,hr]
    rfl
 obtain ⟨vs,hr,hk⟩:=key _ _ h
 refine ⟨f0s vs,?_,hk⟩
 have e:(results fn a.tmps) = (do
   let vs ← rs.mapM (fun r:ResultVar=>(match r with | .tmp t=>pure (a.tmps.getD t undef) | .cell s t=>do loadVar t (← asAddr (a.tmps.getD s undef)):Sem Value))
   pure (if h:vs.toArray.size = 1 then vs.toArray[0] else .tuple vs.toArray)):=by
  unfold results
  rw [hfn,List.mapM_toArray]
  simp only [map_eq_pure_bind,bind_assoc,pure_bind]
  rfl
 rw [e,Sem.run_bind,hr,Result.andThen_ok,Sem.run_pure]
 congr 1
 match vs with
 | []=>rfl
 | [v]=>rfl
 | v :: u :: l=>simp [f0s]
def c1f (args:List Value):Env:=fun i=>args.getD i undef
theorem c1g {P:Program} (q:Nat → Md) {f:FuncId} {fn:Func} {c:Code} {rs:List ResultVar} {args:List Value} {K:VK} {w:World}
  (hf:P.funcs[f]? = some fn) (hb:fn.body = some c) (hrs:fn.results = rs.toArray) (hq:a4d P q c = true) (hn:args.length ≤ fn.ntmps)
  (h:c2q P q fn.ntmps c (c1f args) (h1y P rs K) w):a0a P f args.toArray K w:=by
 have hr:Rel [] fn.ntmps (c1f args) { tmps:=args.toArray ++ Array.replicate (fn.ntmps - args.toArray.size) undef,defers:=[] }:=by
  refine ⟨by simp; omega,rfl,fun i=>?_⟩
  simp only [c1f,Array.getD_eq_getD_getElem?,List.getD_eq_getElem?_getD]
  by_cases hi:i < args.length
  ·rw [Array.getElem?_append_left (by simpa using hi)]
   simp
  ·rw [Array.getElem?_append_right (by simpa using hi)]
   have:args[i]? = none:=by simp; omega
   rw [this]
   simp only [Array.getElem?_replicate]
   split <;> rfl
 refine calls_of_wp hf hb (wp_mono (d2y c hq _ _ _ _ hr h) ?_)
 rintro ex a w' ⟨e',hr',ha,hk⟩
 have he:c1e a = e':=funext hr'.get
 subst he
 cases ex <;> first
  | exact hk.elim
  | (obtain ⟨v,hr,hk⟩:=c8f (K:=fun v=>K v w') rs fn hrs hk
     exact ⟨hr'.defers,v,hr,v,rfl,hk⟩)
end Go.Sh
namespace Go.Sh
open Go
theorem a3g {P:Program} {o:Op} {T:TypeId} {args:List Value} {K:VK} {w w':World} {v:Value}
  (h:(xop o T args).run P w = .ok (.value v) w'):oM P o T args K w = K v w':=by
 unfold oM opM
 rw [h]
section
variable {P:Program} {K:VK} {w:World}
@[go_sem] theorem g8a (m:(VK) → WK):gdM true m K w = m K w:=rfl
@[go_sem] theorem g6g (m:(VK) → WK):gdM false m K w = K undef w:=rfl
@[go_sem] theorem b0v (b:Bool):gd (.bool b) true = b:=by cases b <;> rfl
@[go_sem] theorem a7d (b:Bool):gd (.bool b) false = !b:=by cases b <;> rfl
@[go_sem] theorem g8b (v:Value):a0f v K w = K v w:=rfl
theorem b0w (T:TypeId) (b:Bool) (x y:Value):oM P (.pick (.tmp 0) (.tmp 1) (.tmp 2)) T [.bool b,x,y] K w = K (bif b then x else y) w:=by
 simp [oM,opM,xop,execOp,a1e,evE,asBool]
 cases b <;> rfl
theorem c1k (t T:TypeId) (s:ByteArray) (h:P.underlying t = some .string):oM P (.call { callee:=.builtin .len,args:=#[.tmp 0],argTypes:=#[t] }) T [.string s] K w = K (.int .i64 s.size) w:=
 by
 have hr:=run_len_string (P:=P) (w:=w) t T s h
 refine a3g (w':=w) ?_
 simp [xop,a1e,evE,go_sem]
 rw [hr]
 rfl
theorem g6h (t t' T:TypeId) (k:IntKind) (a b:Int):oM P (.binOp .lss t (.tmp 0) (.tmp 1) t') T [.int k a,.int k b] K w = K (.bool (decide (a < b))) w:=by
 simp [oM,opM,xop,a1e,evE,go_sem]
theorem g6i (t t' T:TypeId) (k:IntKind) (a b:Int):oM P (.binOp .leq t (.tmp 0) (.tmp 1) t') T [.int k a,.int k b] K w = K (.bool (decide (a ≤ b))) w:=by
 simp [oM,opM,xop,a1e,evE,go_sem]
theorem g6j (t t' T:TypeId) (k:IntKind) (a b:Int):oM P (.binOp .gtr t (.tmp 0) (.tmp 1) t') T [.int k a,.int k b] K w = K (.bool (decide (b < a))) w:=by
 simp [oM,opM,xop,a1e,evE,go_sem]
theorem g6k (t t' T:TypeId) (k:IntKind) (a b:Int):oM P (.binOp .geq t (.tmp 0) (.tmp 1) t') T [.int k a,.int k b] K w = K (.bool (decide (b ≤ a))) w:=by
 simp [oM,opM,xop,a1e,evE,go_sem]
theorem g6l (t t' T:TypeId) (k:IntKind) (a b:Int):oM P (.binOp .add t (.tmp 0) (.tmp 1) t') T [.int k a,.int k b] K w = K (.int k (k.wrap (a + b))) w:=by
 simp [oM,opM,xop,a1e,evE,go_sem]
theorem g6m (t t' T:TypeId) (k:IntKind) (a b:Int):oM P (.binOp .sub t (.tmp 0) (.tmp 1) t') T [.int k a,.int k b] K w = K (.int k (k.wrap (a - b))) w:=by
 simp [oM,opM,xop,a1e,evE,go_sem]
theorem g6n (t t' T:TypeId) (k:IntKind) (a b:Int):oM P (.binOp .mul t (.tmp 0) (.tmp 1) t') T [.int k a,.int k b] K w = K (.int k (k.wrap (a * b))) w:=by
 simp [oM,opM,xop,a1e,evE,go_sem]
theorem f1h (t t' T:TypeId) (k:IntKind) (a b:Int):oM P (.binOp .eql t (.tmp 0) (.const (.int k b)) t') T [.int k a] K w = K (.bool (decide (a = b))) w:=by
 simp [oM,opM,xop,a1e,evE,go_sem]
 rfl
theorem f1i (t t' T:TypeId) (k:IntKind) (a b:Int):oM P (.binOp .neq t (.tmp 0) (.const (.int k b)) t') T [.int k a] K w = K (.bool (!decide (a = b))) w:=by
 simp [oM,opM,xop,a1e,evE,go_sem]
 rfl
theorem f1j (t t' T:TypeId) (k:IntKind) (a b:Int):oM P (.binOp .eql t (.tmp 0) (.tmp 1) t') T [.int k a,.int k b] K w = K (.bool (decide (a = b))) w:=by
 simp [oM,opM,xop,a1e,evE,go_sem]
 rfl
theorem f1k (t t' T:TypeId) (k:IntKind) (a b:Int):oM P (.binOp .neq t (.tmp 0) (.tmp 1) t') T [.int k a,.int k b] K w = K (.bool (!decide (a = b))) w:=by
 simp [oM,opM,xop,a1e,evE,go_sem]
 rfl
theorem b7c (a b:ByteArray):(a.toList == b.toList) = decide (a = b):=by
 rw [ByteArray.toList_eq,ByteArray.toList_eq,Bool.eq_iff_iff]
 simp only [beq_iff_eq,dE]
 refine ⟨fun h=>?_,fun h=>by rw [h]⟩
 obtain ⟨a⟩:=a
 obtain ⟨b⟩:=b
 congr 1
 exact Array.ext' h
theorem c5a (α:Type) (P:Program) (k:IntKind) (i:Int) (n:Nat) (c:BoundsCode) (w:World):∃ h w',(boundsPanic k i n c:Sem α).run P w = .halt h w':=by
 obtain ⟨s,w',h⟩:=run_boundsPanic (α:=α) (P:=P) (w:=w) k i n c
 exact ⟨_,_,h⟩
theorem a1h {S:Sem Value} {o:Op} {T:TypeId} {args:List Value} (hx:xop o T args = (do let v ← S; pure (.value v))):oM P o T args K w = ∃ v w',S.run P w = .ok v w' ∧ K v w':=by
 unfold oM
 rw [hx]
 exact propext e1n
theorem a3p {v:Value} {w':World}:(∃ v' w'',(Result.ok v w':Result Value) = .ok v' w'' ∧ K v' w'') = K v w':=
 propext ⟨fun ⟨_,_,h,hk⟩=>by cases h; exact hk,fun h=>⟨_,_,rfl,h⟩⟩
theorem a2f {h:Halt} {w':World}:(∃ v' w'',(Result.halt h w':Result Value) = .ok v' w'' ∧ K v' w'') = False:=
 propext ⟨fun ⟨_,_,h,_⟩=>(by cases h),fun h=>h.elim⟩
theorem e2o (t t' T:TypeId) (a b:ByteArray):oM P (.binOp .eql t (.tmp 0) (.const (.string b)) t') T [.string a] K w = K (.bool (decide (a = b))) w:=by
 simp [oM,opM,xop,a1e,evE,go_sem,b7c]
theorem e2p (t t' T:TypeId) (a b:ByteArray):oM P (.binOp .eql t (.tmp 0) (.tmp 1) t') T [.string a,.string b] K w = K (.bool (decide (a = b))) w:=by
 simp [oM,opM,xop,a1e,evE,go_sem,b7c]
theorem e2q (t t' T:TypeId) (a b:ByteArray):oM P (.binOp .neq t (.tmp 0) (.tmp 1) t') T [.string a,.string b] K w = K (.bool (!decide (a = b))) w:=by
 simp [oM,opM,xop,a1e,evE,go_sem,b7c]
theorem g6o (t T:TypeId) (b:Bool):oM P (.unOp .not t (.tmp 0)) T [.bool b] K w = K (.bool (!b)) w:=by
 simp [oM,opM,xop,a1e,evE,go_sem]
theorem b7d (t T:TypeId) (s:ByteArray) (i:Int) (h:P.underlying t = some .string):oM P (.index t (.tmp 0) (.tmp 1)) T [.string s,.int .i64 i] K w = ∃ h:0 ≤ i ∧ i.toNat < s.size,K (.int .u8 (s[i.toNat]'h.2).toNat) w:=by
 rw [a1h (S:=Instr.index t (.string s) (.int .i64 i)) rfl,run_index_string (P:=P) (w:=w) t s .i64 i h]
 by_cases hi:0 ≤ i ∧ i < s.size
 ·rw [dif_pos hi,a3p]
  exact propext ⟨fun hk=>⟨⟨hi.1,by omega⟩,hk⟩,fun ⟨_,hk⟩=>hk⟩
 ·rw [dif_neg hi]
  obtain ⟨e,w',he⟩:=c5a Value P .i64 i s.size .index w
  rw [he,a2f]
  exact propext ⟨fun h=>h.elim,fun ⟨h,_⟩=>hi ⟨h.1,by omega⟩⟩
theorem c1l (t T:TypeId) (s:ByteArray) (i:Int) (h:P.underlying t = some .string):oM P (.slice t (.tmp 0) (some (.tmp 1)) none none) T [.string s,.int .i64 i] K w = ((0 ≤ i ∧ i ≤ s.size) ∧ K (.string (s.extract i.toNat s.size)) w):=by
 have e:xop (.slice t (.tmp 0) (some (.tmp 1)) none none) T [.string s,.int .i64 i] = (do let v ← Instr.sliceAt t (.string s) (some (.int .i64 i)) none none; pure (.value v)):=rfl
 have e2:(Instr.sliceAt t (.string s) (some (.int .i64 i)) none none).run P w = (Instr.slice t (.string s) (some (.int .i64 i)) none none).run P w:=by
  unfold Instr.sliceAt
  rw [Sem.run_bind,run_underlying h]
  rfl
 rw [a1h e,e2,run_slice_string_from_if (P:=P) (w:=w) t s .i64 i h]
 by_cases hi:0 ≤ i ∧ i ≤ (s.size:Int)
 ·rw [if_pos hi,a3p]
  exact propext ⟨fun hk=>⟨hi,hk⟩,fun ⟨_,hk⟩=>hk⟩
 ·rw [if_neg hi]
  obtain ⟨e,w',he⟩:=c5a Nat P .i64 i s.size .sliceB w
  rw [he,Result.andThen_halt,a2f]
  exact propext ⟨fun h=>h.elim,fun ⟨h,_⟩=>hi h⟩
theorem c8k (t T:TypeId) (s:ByteArray) (i:Int) (h:P.underlying t = some .string):oM P (.slice t (.tmp 0) none (some (.tmp 1)) none) T [.string s,.int .i64 i] K w = ((0 ≤ i ∧ i ≤ s.size) ∧ K (.string (s.extract 0 i.toNat)) w):=by
 have e:xop (.slice t (.tmp 0) none (some (.tmp 1)) none) T [.string s,.int .i64 i] = (do let v ← Instr.sliceAt t (.string s) none (some (.int .i64 i)) none; pure (.value v)):=rfl
 have e2:(Instr.sliceAt t (.string s) none (some (.int .i64 i)) none).run P w = (Instr.slice t (.string s) none (some (.int .i64 i)) none).run P w:=by
  unfold Instr.sliceAt
  rw [Sem.run_bind,run_underlying h]
  rfl
 rw [a1h e,e2,run_slice_string_to_if (P:=P) (w:=w) t s .i64 i h]
 by_cases hi:0 ≤ i ∧ i ≤ (s.size:Int)
 ·rw [if_pos hi,a3p]
  exact propext ⟨fun hk=>⟨hi,hk⟩,fun ⟨_,hk⟩=>hk⟩
 ·rw [if_neg hi]
  obtain ⟨e,w',he⟩:=c5a Nat P .i64 i s.size .sliceAlen w
  rw [he,Result.andThen_halt,a2f]
  exact propext ⟨fun h=>h.elim,fun ⟨h,_⟩=>hi h⟩
theorem c1m (t T:TypeId) (s:ByteArray) (i j:Int) (h:P.underlying t = some .string):oM P (.slice t (.tmp 0) (some (.tmp 1)) (some (.tmp 2)) none) T [.string s,.int .i64 i,.int .i64 j] K w = ((0 ≤ i ∧ i ≤ j ∧ j ≤ s.size) ∧ K (.string (s.extract i.toNat j.toNat)) w):=by
 have e:xop (.slice t (.tmp 0) (some (.tmp 1)) (some (.tmp 2)) none) T [.string s,.int .i64 i,.int .i64 j] = (do let v ← Instr.sliceAt t (.string s) (some (.int .i64 i)) (some (.int .i64 j)) none; pure (.value v)):=rfl
 have e2:(Instr.sliceAt t (.string s) (some (.int .i64 i)) (some (.int .i64 j)) none).run P w = (Instr.slice t (.string s) (some (.int .i64 i)) (some (.int .i64 j)) none).run P w:=by
  unfold Instr.sliceAt
  rw [Sem.run_bind,run_underlying h]
  rfl
 rw [a1h e,e2,run_slice_string_if (P:=P) (w:=w) t s .i64 .i64 i j h]
 by_cases hj:0 ≤ j ∧ j ≤ (s.size:Int)
 ·rw [if_pos hj]
  by_cases hi:0 ≤ i ∧ i ≤ j
  ·rw [if_pos hi,a3p]
   exact propext ⟨fun hk=>⟨⟨hi.1,hi.2,hj.2⟩,hk⟩,fun ⟨_,hk⟩=>hk⟩
  ·rw [if_neg hi]
   obtain ⟨e,w',he⟩:=c5a Nat P .i64 i j.toNat .sliceB w
   rw [he,Result.andThen_halt,a2f]
   exact propext ⟨fun h=>h.elim,fun ⟨h,_⟩=>hi ⟨h.1,h.2.1⟩⟩
 ·rw [if_neg hj]
  obtain ⟨e,w',he⟩:=c5a Nat P .i64 j s.size .sliceAlen w
  rw [he,Result.andThen_halt,a2f]
  exact propext ⟨fun h=>h.elim,fun ⟨h,_⟩=>hj ⟨by omega,h.2.2⟩⟩
theorem c1n (T:TypeId) (a b:Value):oM P (.extract (.tmp 0) 0) T [.tuple #[a,b]] K w = K a w:=a3g rfl
theorem c1o (T:TypeId) (a b:Value):oM P (.extract (.tmp 0) 1) T [.tuple #[a,b]] K w = K b w:=a3g rfl
theorem c1p (T:TypeId) (a b c:Value):oM P (.extract (.tmp 0) 0) T [.tuple #[a,b,c]] K w = K a w:=a3g rfl
theorem c1q (T:TypeId) (a b c:Value):oM P (.extract (.tmp 0) 1) T [.tuple #[a,b,c]] K w = K b w:=a3g rfl
theorem c1r (T:TypeId) (a b c:Value):oM P (.extract (.tmp 0) 2) T [.tuple #[a,b,c]] K w = K c w:=a3g rfl
@[go_sem] theorem g8z (t t' T:TypeId) (k:IntKind) (a b:Int):oM P (.binOp .lss t (.tmp 0) (.tmp 1) t') T [.int k a,.int k b] = a0f (.bool (decide (a < b))):=by
 funext K w
 exact g6h t t' T k a b
@[go_sem] theorem g9a (t t' T:TypeId) (k:IntKind) (a b:Int):oM P (.binOp .leq t (.tmp 0) (.tmp 1) t') T [.int k a,.int k b] = a0f (.bool (decide (a ≤ b))):=by
 funext K w
 exact g6i t t' T k a b
@[go_sem] theorem g9b (t t' T:TypeId) (k:IntKind) (a b:Int):oM P (.binOp .gtr t (.tmp 0) (.tmp 1) t') T [.int k a,.int k b] = a0f (.bool (decide (b < a))):=by
 funext K w
 exact g6j t t' T k a b
@[go_sem] theorem g9c (t t' T:TypeId) (k:IntKind) (a b:Int):oM P (.binOp .geq t (.tmp 0) (.tmp 1) t') T [.int k a,.int k b] = a0f (.bool (decide (b ≤ a))):=by
 funext K w
 exact g6k t t' T k a b
@[go_sem] theorem g9d (t t' T:TypeId) (k:IntKind) (a b:Int):oM P (.binOp .add t (.tmp 0) (.tmp 1) t') T [.int k a,.int k b] = a0f (.int k (k.wrap (a + b))):=by
 funext K w
 exact g6l t t' T k a b
@[go_sem] theorem g9e (t t' T:TypeId) (k:IntKind) (a b:Int):oM P (.binOp .sub t (.tmp 0) (.tmp 1) t') T [.int k a,.int k b] = a0f (.int k (k.wrap (a - b))):=by
 funext K w
 exact g6m t t' T k a b
@[go_sem] theorem g9f (t t' T:TypeId) (k:IntKind) (a b:Int):oM P (.binOp .mul t (.tmp 0) (.tmp 1) t') T [.int k a,.int k b] = a0f (.int k (k.wrap (a * b))):=by
 funext K w
 exact g6n t t' T k a b
@[go_sem] theorem g6p (t t' T:TypeId) (k:IntKind) (a b:Int):oM P (.binOp .eql t (.tmp 0) (.const (.int k b)) t') T [.int k a] = a0f (.bool (decide (a = b))):=by
 funext K w
 exact f1h t t' T k a b
@[go_sem] theorem g6q (t t' T:TypeId) (k:IntKind) (a b:Int):oM P (.binOp .neq t (.tmp 0) (.const (.int k b)) t') T [.int k a] = a0f (.bool (!decide (a = b))):=by
 funext K w
 exact f1i t t' T k a b
@[go_sem] theorem g6r (t t' T:TypeId) (k:IntKind) (a b:Int):oM P (.binOp .eql t (.tmp 0) (.tmp 1) t') T [.int k a,.int k b] = a0f (.bool (decide (a = b))):=by
 funext K w
 exact f1j t t' T k a b
@[go_sem] theorem g6s (t t' T:TypeId) (k:IntKind) (a b:Int):oM P (.binOp .neq t (.tmp 0) (.tmp 1) t') T [.int k a,.int k b] = a0f (.bool (!decide (a = b))):=by
 funext K w
 exact f1k t t' T k a b
@[go_sem] theorem g1w (t t' T:TypeId) (a b:ByteArray):oM P (.binOp .eql t (.tmp 0) (.const (.string b)) t') T [.string a] = a0f (.bool (decide (a = b))):=by
 funext K w
 exact e2o t t' T a b
@[go_sem] theorem g1x (t t' T:TypeId) (a b:ByteArray):oM P (.binOp .eql t (.tmp 0) (.tmp 1) t') T [.string a,.string b] = a0f (.bool (decide (a = b))):=by
 funext K w
 exact e2p t t' T a b
@[go_sem] theorem g1y (t t' T:TypeId) (a b:ByteArray):oM P (.binOp .neq t (.tmp 0) (.tmp 1) t') T [.string a,.string b] = a0f (.bool (!decide (a = b))):=by
 funext K w
 exact e2q t t' T a b
@[go_sem] theorem g9g (t T:TypeId) (b:Bool):oM P (.unOp .not t (.tmp 0)) T [.bool b] = a0f (.bool (!b)):=by
 funext K w
 exact g6o t T b
@[go_sem] theorem e5f (T:TypeId) (a b:Value):oM P (.extract (.tmp 0) 0) T [.tuple #[a,b]] = a0f a:=by
 funext K w
 exact c1n T a b
@[go_sem] theorem e5g (T:TypeId) (a b:Value):oM P (.extract (.tmp 0) 1) T [.tuple #[a,b]] = a0f b:=by
 funext K w
 exact c1o T a b
@[go_sem] theorem e5h (T:TypeId) (a b c:Value):oM P (.extract (.tmp 0) 0) T [.tuple #[a,b,c]] = a0f a:=by
 funext K w
 exact c1p T a b c
@[go_sem] theorem e5i (T:TypeId) (a b c:Value):oM P (.extract (.tmp 0) 1) T [.tuple #[a,b,c]] = a0f b:=by
 funext K w
 exact c1q T a b c
@[go_sem] theorem e5j (T:TypeId) (a b c:Value):oM P (.extract (.tmp 0) 2) T [.tuple #[a,b,c]] = a0f c:=by
 funext K w
 exact c1r T a b c
@[go_sem] theorem e5k (t T:TypeId) (s:ByteArray) (h:P.underlying t = some .string):oM P (.call { callee:=.builtin .len,args:=#[.tmp 0],argTypes:=#[t] }) T [.string s] = a0f (.int .i64 s.size):=by
 funext K w
 exact c1k t T s h
def a5v (s:ByteArray) (n:Nat):UInt8:=s.data.toList.getD n 0
theorem b4g (s:ByteArray) (n:Nat) (h:n < s.size):a5v s n = s[n]:=by
 unfold a5v
 have h':n < s.data.toList.length:=by simpa using h
 rw [List.getD_eq_getElem?_getD,gE h']
 rfl
def onM (p:Prop) (v:Value) (K:VK) (w:World):Prop:=p ∧ K v w
@[go_sem] theorem h2a (p:Prop) (v:Value):onM p v K w = (p ∧ K v w):=rfl
@[go_sem] theorem d4e (t T:TypeId) (s:ByteArray) (i:Int) (h:P.underlying t = some .string):oM P (.index t (.tmp 0) (.tmp 1)) T [.string s,.int .i64 i] = onM (0 ≤ i ∧ i.toNat < s.size) (.int .u8 (a5v s i.toNat).toNat):=by
 funext K w
 rw [b7d t T s i h]
 exact propext ⟨fun ⟨h,hk⟩=>⟨h,by rw [b4g _ _ h.2]; exact hk⟩,fun ⟨h,hk⟩=>⟨h,by rw [b4g _ _ h.2] at hk; exact hk⟩⟩
@[go_sem] theorem e5l (t T:TypeId) (s:ByteArray) (i:Int) (h:P.underlying t = some .string):oM P (.slice t (.tmp 0) (some (.tmp 1)) none none) T [.string s,.int .i64 i] = onM (0 ≤ i ∧ i ≤ s.size) (.string (s.extract i.toNat s.size)):=by
 funext K w
 exact c1l t T s i h
@[go_sem] theorem f7x (t T:TypeId) (s:ByteArray) (i:Int) (h:P.underlying t = some .string):oM P (.slice t (.tmp 0) none (some (.tmp 1)) none) T [.string s,.int .i64 i] = onM (0 ≤ i ∧ i ≤ s.size) (.string (s.extract 0 i.toNat)):=by
 funext K w
 exact c8k t T s i h
@[go_sem] theorem e5m (t T:TypeId) (s:ByteArray) (i j:Int) (h:P.underlying t = some .string):oM P (.slice t (.tmp 0) (some (.tmp 1)) (some (.tmp 2)) none) T [.string s,.int .i64 i,.int .i64 j] = onM (0 ≤ i ∧ i ≤ j ∧ j ≤ s.size) (.string (s.extract i.toNat j.toNat)):=by
 funext K w
 exact c1m t T s i j h
theorem e2r {p:Prop} [Decidable p] {m:(VK) → WK} (h1:p → m K w) (h2:¬p → K undef w):gdM (decide p) m K w:=by
 by_cases h:p
 ·rw [decide_eq_true h]; exact h1 h
 ·rw [decide_eq_false h]; exact h2 h
theorem f1l {p:Prop} [Decidable p] {m:(VK) → WK} (h1:p → K undef w) (h2:¬p → m K w):gdM (!decide p) m K w:=by
 by_cases h:p
 ·rw [decide_eq_true h]; exact h1 h
 ·rw [decide_eq_false h]; exact h2 h
theorem f1m {b:Bool} {m:(VK) → WK} (h1:b = true → m K w) (h2:b = false → K undef w):gdM b m K w:=by
 cases b
 ·exact h2 rfl
 ·exact h1 rfl
theorem e2s {b:Bool} {m:(VK) → WK} (h1:b = true → K undef w) (h2:b = false → m K w):gdM (!b) m K w:=by
 cases b
 ·exact h2 rfl
 ·exact h1 rfl
theorem b7e {p:Prop} [Decidable p] {A B:Prop} (h1:p → A) (h2:¬p → B):a2c (.bool (decide p)) A B:=⟨decide p,rfl,fun h=>h1 (of_decide_eq_true h),fun h=>h2 (of_decide_eq_false h)⟩
theorem b4h {p:Prop} [Decidable p] {A B:Prop} (h1:p → B) (h2:¬p → A):a2c (.bool (!decide p)) A B:=⟨!decide p,rfl,fun h=>h2 (by simpa using h),fun h=>h1 (by simpa using h)⟩
theorem b7f {b:Bool} {A B:Prop} (h1:b = true → A) (h2:b = false → B):a2c (.bool b) A B:=⟨b,rfl,h1,h2⟩
attribute [go_sem] cond_true cond_false decide_true decide_false Bool.not_true Bool.not_false
@[go_sem] theorem f1n (b:Bool):gd undef b = false:=by cases b <;> rfl
theorem a0u (x:Int) (h1:-9223372036854775808 ≤ x) (h2:x ≤ 9223372036854775807):IntKind.i64.wrap x = x:=by
 unfold IntKind.wrap
 simp only [IntKind.bits,IntKind.signed]
 simp
 omega
theorem a2y (x:Int) (h1:0 ≤ x) (h2:x ≤ 255):IntKind.u8.wrap x = x:=by
 unfold IntKind.wrap
 simp only [IntKind.bits,IntKind.signed]
 simp
 omega
theorem a1r (x:Int) (h1:0 ≤ x) (h2:x ≤ 18446744073709551615):IntKind.u64.wrap x = x:=by
 unfold IntKind.wrap
 simp only [IntKind.bits,IntKind.signed]
 simp
 omega
attribute [go_sem] Int.toNat_natCast
def rM (r:Result Value) (K:VK):Prop:=match r with
 | .ok v w'=>K v w'
 | .halt _ _=>False
def uM (r:Result Unit) (K:VK):Prop:=match r with
 | .ok _ w'=>K undef w'
 | .halt _ _=>False
@[go_sem] theorem c8l (v:Value) (w':World):rM (.ok v w') K = K v w':=rfl
@[go_sem] theorem h2x (w':World):uM (.ok () w') K = K undef w':=rfl
theorem c8m {S:Sem Unit} {o:Op} {T:TypeId} {args:List Value} (hx:xop o T args = (do S; pure .skip)):oM P o T args K w = uM (S.run P w) K:=by
 unfold oM opM uM
 rw [hx,Sem.run_bind]
 generalize S.run P w = r
 cases r with
 | ok v w'=>rfl
 | halt h w'=>rfl
@[go_sem] theorem c1s (T:TypeId) (t:TypeId):oM P (.alloc t) T [] K w = rM ((Instr.alloc t true (.tuple #[])).run P w) K:=by
 rw [a1h (S:=Instr.alloc t true (.tuple #[])) rfl]
 unfold rM
 generalize (Instr.alloc t true (.tuple #[])).run P w = r
 cases r with
 | ok v w'=>exact a3p
 | halt h w'=>exact a2f
@[go_sem] theorem f7y (T:TypeId) (t:TypeId) (x:Value):oM P (.box t (.tmp 0)) T [x] K w = rM ((Instr.box t x).run P w) K:=by
 rw [a1h (S:=Instr.box t x) rfl]
 unfold rM
 generalize (Instr.box t x).run P w = r
 cases r with
 | ok v w'=>exact a3p
 | halt h w'=>exact a2f
@[go_sem] theorem e2t (T:TypeId) (t:TypeId) (x:Value):oM P (.load t (.tmp 0)) T [x] K w = rM ((Instr.loadAt t x).run P w) K:=by
 rw [a1h (S:=Instr.loadAt t x) rfl]
 unfold rM
 generalize (Instr.loadAt t x).run P w = r
 cases r with
 | ok v w'=>exact a3p
 | halt h w'=>exact a2f
@[go_sem] theorem a9u (T:TypeId) (t:TypeId) (x y:Value):oM P (.store t (.tmp 0) (.tmp 1)) T [x,y] K w = uM ((Instr.storeAt t x y).run P w) K:=by
 rw [c8m (S:=Instr.storeAt t x y) rfl]
@[go_sem] theorem f7z (T:TypeId) (t:TypeId) (x:Value) (f:Nat):oM P (.fieldAddr t (.tmp 0) f) T [x] K w = rM ((Instr.fieldAt t x f).run P w) K:=by
 rw [a1h (S:=Instr.fieldAt t x f) rfl]
 unfold rM
 generalize (Instr.fieldAt t x f).run P w = r
 cases r with
 | ok v w'=>exact a3p
 | halt h w'=>exact a2f
@[go_sem] theorem g8c (T:TypeId) (t:TypeId) (x:Value) (f:Nat):oM P (.field t (.tmp 0) f) T [x] K w = rM ((Instr.field t x f).run P w) K:=by
 rw [a1h (S:=Instr.field t x f) rfl]
 unfold rM
 generalize (Instr.field t x f).run P w = r
 cases r with
 | ok v w'=>exact a3p
 | halt h w'=>exact a2f
theorem a2b (T:TypeId) (t:TypeId) (x i:Value):oM P (.indexAddr t (.tmp 0) (.tmp 1)) T [x,i] K w = rM ((Instr.indexAt t x i).run P w) K:=by
 rw [a1h (S:=Instr.indexAt t x i) rfl]
 unfold rM
 generalize (Instr.indexAt t x i).run P w = r
 cases r with
 | ok v w'=>exact a3p
 | halt h w'=>exact a2f
@[go_sem] theorem f8a (T:TypeId) (t:TypeId) (cs:Array Value) (i:Value):oM P (.index t (.tmp 0) (.tmp 1)) T [.agg cs,i] K w = rM ((Instr.index t (.agg cs) i).run P w) K:=by
 rw [a1h (S:=Instr.index t (.agg cs) i) rfl]
 unfold rM
 generalize (Instr.index t (.agg cs) i).run P w = r
 cases r with
 | ok v w'=>exact a3p
 | halt h w'=>exact a2f
@[go_sem] theorem g1z (T:TypeId) (s d:TypeId) (x:Value):oM P (.convert s d (.tmp 0)) T [x] K w = rM ((convert s d x).run P w) K:=by
 rw [a1h (S:=convert s d x) rfl]
 unfold rM
 generalize (convert s d x).run P w = r
 cases r with
 | ok v w'=>exact a3p
 | halt h w'=>exact a2f
@[go_sem] theorem g6t (T:TypeId) (t:TypeId):oM P (.build t #[]) T [] K w = rM ((Instr.build t #[]).run P w) K:=by
 rw [a1h (S:=Instr.build t #[]) (by simp [xop,execOp,a1e,evE])]
 unfold rM
 generalize (Instr.build t #[]).run P w = r
 cases r with
 | ok v w'=>exact a3p
 | halt h w'=>exact a2f
@[go_sem] theorem g6u (T:TypeId) (t:TypeId) (i0:Nat) (v0:Value):oM P (.build t #[(i0,.tmp 0)]) T [v0] K w = rM ((Instr.build t #[(i0,v0)]).run P w) K:=by
 rw [a1h (S:=Instr.build t #[(i0,v0)]) (by simp [xop,execOp,a1e,evE])]
 unfold rM
 generalize (Instr.build t #[(i0,v0)]).run P w = r
 cases r with
 | ok v w'=>exact a3p
 | halt h w'=>exact a2f
@[go_sem] theorem g6v (T:TypeId) (t:TypeId) (i0 i1:Nat) (v0 v1:Value):oM P (.build t #[(i0,.tmp 0),(i1,.tmp 1)]) T [v0,v1] K w = rM ((Instr.build t #[(i0,v0),(i1,v1)]).run P w) K:=by
 rw [a1h (S:=Instr.build t #[(i0,v0),(i1,v1)]) (by simp [xop,execOp,a1e,evE])]
 unfold rM
 generalize (Instr.build t #[(i0,v0),(i1,v1)]).run P w = r
 cases r with
 | ok v w'=>exact a3p
 | halt h w'=>exact a2f
@[go_sem] theorem g6w (T:TypeId) (t:TypeId) (i0 i1 i2:Nat) (v0 v1 v2:Value):oM P (.build t #[(i0,.tmp 0),(i1,.tmp 1),(i2,.tmp 2)]) T [v0,v1,v2] K w = rM ((Instr.build t #[(i0,v0),(i1,v1),(i2,v2)]).run P w) K:=by
 rw [a1h (S:=Instr.build t #[(i0,v0),(i1,v1),(i2,v2)]) (by simp [xop,execOp,a1e,evE])]
 unfold rM
 generalize (Instr.build t #[(i0,v0),(i1,v1),(i2,v2)]).run P w = r
 cases r with
 | ok v w'=>exact a3p
 | halt h w'=>exact a2f
@[go_sem] theorem g6x (T:TypeId) (t:TypeId) (i0 i1 i2 i3:Nat) (v0 v1 v2 v3:Value):oM P (.build t #[(i0,.tmp 0),(i1,.tmp 1),(i2,.tmp 2),(i3,.tmp 3)]) T [v0,v1,v2,v3] K w = rM ((Instr.build t #[(i0,v0),(i1,v1),(i2,v2),(i3,v3)]).run P w) K:=by
 rw [a1h (S:=Instr.build t #[(i0,v0),(i1,v1),(i2,v2),(i3,v3)]) (by simp [xop,execOp,a1e,evE])]
 unfold rM
 generalize (Instr.build t #[(i0,v0),(i1,v1),(i2,v2),(i3,v3)]).run P w = r
 cases r with
 | ok v w'=>exact a3p
 | halt h w'=>exact a2f
@[go_sem] theorem g6y (T:TypeId) (t:TypeId) (i0 i1 i2 i3 i4 i5:Nat) (v0 v1 v2 v3 v4 v5:Value):oM P (.build t #[(i0,.tmp 0),(i1,.tmp 1),(i2,.tmp 2),(i3,.tmp 3),(i4,.tmp 4),(i5,.tmp 5)]) T [v0,v1,v2,v3,v4,v5] K w = rM ((Instr.build t #[(i0,v0),(i1,v1),(i2,v2),(i3,v3),(i4,v4),(i5,v5)]).run P w) K:=by
 rw [a1h (S:=Instr.build t #[(i0,v0),(i1,v1),(i2,v2),(i3,v3),(i4,v4),(i5,v5)]) (by simp [xop,execOp,a1e,evE])]
 unfold rM
 generalize (Instr.build t #[(i0,v0),(i1,v1),(i2,v2),(i3,v3),(i4,v4),(i5,v5)]).run P w = r
 cases r with
 | ok v w'=>exact a3p
 | halt h w'=>exact a2f
theorem oG {o:Op} {T:TypeId} {args:List Value} (h:∀ K':VK,(∀ v w,K v w → K' v w) → oM P o T args K' w):oM P o T args K w:=h K (fun _ _ h=>h)
theorem a0v {v:Value} (h:K v w):a0f v K w:=h
section
variable {m:(VK) → WK} {p:Prop} [Decidable p] {b:Bool} {A B:Prop} {x y:Value} {T:TypeId}
theorem g0o (h:p) (k:m K w):gdM (gd (.bool (decide p)) true) m K w:=by rw [b0v,decide_eq_true h]; exact k
theorem g0p (h:¬p) (k:K undef w):gdM (gd (.bool (decide p)) true) m K w:=by rw [b0v,decide_eq_false h]; exact k
theorem e2u (h1:p → m K w) (h2:¬p → K undef w):gdM (gd (.bool (decide p)) true) m K w:=by rw [b0v]; exact e2r h1 h2
theorem g0q (h:¬p) (k:m K w):gdM (gd (.bool (decide p)) false) m K w:=by rw [a7d,decide_eq_false h]; exact k
theorem g0r (h:p) (k:K undef w):gdM (gd (.bool (decide p)) false) m K w:=by rw [a7d,decide_eq_true h]; exact k
theorem e2v (h1:p → K undef w) (h2:¬p → m K w):gdM (gd (.bool (decide p)) false) m K w:=by rw [a7d]; exact f1l h1 h2
theorem f1o (h:¬p) (k:m K w):gdM (gd (.bool (!decide p)) true) m K w:=by rw [b0v,decide_eq_false h]; exact k
theorem f1p (h:p) (k:K undef w):gdM (gd (.bool (!decide p)) true) m K w:=by rw [b0v,decide_eq_true h]; exact k
theorem f1q (h:p) (k:m K w):gdM (gd (.bool (!decide p)) false) m K w:=by rw [a7d,decide_eq_true h]; exact k
theorem f1r (h:¬p) (k:K undef w):gdM (gd (.bool (!decide p)) false) m K w:=by rw [a7d,decide_eq_false h]; exact k
theorem d3c (h1:p → m K w) (h2:¬p → K undef w):gdM (gd (.bool (!decide p)) false) m K w:=by rw [a7d,Bool.not_not]; exact e2r h1 h2
theorem f1s (h:b = true) (k:m K w):gdM (gd (.bool b) true) m K w:=by rw [b0v,h]; exact k
theorem f1t (h:b = false) (k:K undef w):gdM (gd (.bool b) true) m K w:=by rw [b0v,h]; exact k
theorem d3d (h1:b = true → m K w) (h2:b = false → K undef w):gdM (gd (.bool b) true) m K w:=by rw [b0v]; exact f1m h1 h2
theorem f1u (h:b = false) (k:m K w):gdM (gd (.bool b) false) m K w:=by rw [a7d,h]; exact k
theorem f1v (h:b = true) (k:K undef w):gdM (gd (.bool b) false) m K w:=by rw [a7d,h]; exact k
theorem d3e (h1:b = true → K undef w) (h2:b = false → m K w):gdM (gd (.bool b) false) m K w:=by rw [a7d]; exact e2s h1 h2
theorem gdu (k:K undef w) (c:Bool):gdM (gd undef c) m K w:=by rw [f1n]; exact k
theorem h2y (k:m K w):gdM (gd (.bool true) true) m K w:=k
theorem h2z (k:K undef w):gdM (gd (.bool false) true) m K w:=k
theorem h3a (k:m K w):gdM (gd (.bool false) false) m K w:=k
theorem h3b (k:K undef w):gdM (gd (.bool true) false) m K w:=k
theorem f1w (h:p) (k:K x w):oM P (.pick (.tmp 0) (.tmp 1) (.tmp 2)) T [.bool (decide p),x,y] K w:=by rw [b0w,decide_eq_true h]; exact k
theorem f1x (h:¬p) (k:K y w):oM P (.pick (.tmp 0) (.tmp 1) (.tmp 2)) T [.bool (decide p),x,y] K w:=by rw [b0w,decide_eq_false h]; exact k
theorem e2w (h:¬p) (k:K x w):oM P (.pick (.tmp 0) (.tmp 1) (.tmp 2)) T [.bool (!decide p),x,y] K w:=by rw [b0w,decide_eq_false h]; exact k
theorem e2x (h:p) (k:K y w):oM P (.pick (.tmp 0) (.tmp 1) (.tmp 2)) T [.bool (!decide p),x,y] K w:=by rw [b0w,decide_eq_true h]; exact k
theorem e2y (h:b = true) (k:K x w):oM P (.pick (.tmp 0) (.tmp 1) (.tmp 2)) T [.bool b,x,y] K w:=by rw [b0w,h]; exact k
theorem e2z (h:b = false) (k:K y w):oM P (.pick (.tmp 0) (.tmp 1) (.tmp 2)) T [.bool b,x,y] K w:=by rw [b0w,h]; exact k
theorem g9h (k:K x w):oM P (.pick (.tmp 0) (.tmp 1) (.tmp 2)) T [.bool true,x,y] K w:=by rw [b0w]; exact k
theorem g9i (k:K y w):oM P (.pick (.tmp 0) (.tmp 1) (.tmp 2)) T [.bool false,x,y] K w:=by rw [b0w]; exact k
theorem f1y (h:p) (k:A):a2c (.bool (decide p)) A B:=b7e (fun _=>k) (fun h'=>absurd h h')
theorem f1z (h:¬p) (k:B):a2c (.bool (decide p)) A B:=b7e (fun h'=>absurd h' h) (fun _=>k)
theorem e3a (h:¬p) (k:A):a2c (.bool (!decide p)) A B:=b4h (fun h'=>absurd h' h) (fun _=>k)
theorem e3b (h:p) (k:B):a2c (.bool (!decide p)) A B:=b4h (fun _=>k) (fun h'=>absurd h h')
theorem c5b (h:b = true) (k:A):a2c (.bool b) A B:=b7f (fun _=>k) (fun h'=>absurd (h.symm.trans h') (by simp))
theorem c5c (h:b = false) (k:B):a2c (.bool b) A B:=b7f (fun h'=>absurd (h.symm.trans h') (by simp)) (fun _=>k)
theorem c5d (h1:b = true → B) (h2:b = false → A):a2c (.bool (!b)) A B:=by
 cases b
 ·exact c5b rfl (h2 rfl)
 ·exact c5c rfl (h1 rfl)
theorem g9j (k:A):a2c (.bool true) A B:=c5b rfl k
theorem g9k (k:B):a2c (.bool false) A B:=c5c rfl k
end
theorem b5n {f:FuncId} {o:Op} {T:TypeId} {args:List Value} (xs:Array Value) (hb:a8v P f = true) (hx:xop o T args = callFunc f xs) (h:a0a P f xs K w):oM P o T args K w:=by
 unfold oM opM
 rw [hx,b4a hb]
 exact h
theorem a3q {f:FuncId} {fs cs:Array Value} {T:TypeId} {ts:Array TypeId} {x:Value} (hb:a8v P f = true) (h:a0a P f (fs ++ #[x] ++ cs) K w):oM P (.call { callee:=.value (.tmp 0),args:=#[.tmp 1],argTypes:=ts }) T [.func (.func f) fs cs,x] K w:=
 b5n _ hb (by simp [xop,execOp,a1e,evE,resolve,Deferred.ofValue,invoke]) h
@[go_sem] theorem g0s (T:TypeId) (a:Addr):oM P (.nilCheck (.tmp 0)) T [.pointer (some a)] K w = K (.pointer (some a)) w:=a3g rfl
theorem a6u {S:Sem Value} {o:Op} {T:TypeId} {args:List Value} (hx:xop o T args = (do let v ← S; pure (.value v))):oM P o T args K w = rM (S.run P w) K:=by
 rw [a1h hx]
 unfold rM
 generalize S.run P w = r
 cases r with
 | ok v w'=>exact a3p
 | halt h w'=>exact a2f
theorem e3c (t t' T:TypeId) (x c:Value):oM P (.binOp .eql t (.tmp 0) (.const c) t') T [x] K w = rM ((do eqGuard .eql t (.tmp 0) (.const c) x c; binOp .eql t x c:Sem Value).run P w) K:=a6u rfl
theorem f8b (t t' T:TypeId) (x c:Value):oM P (.binOp .neq t (.tmp 0) (.const c) t') T [x] K w = rM ((do eqGuard .neq t (.tmp 0) (.const c) x c; binOp .neq t x c:Sem Value).run P w) K:=a6u rfl
theorem g6z (t t' T:TypeId) (x y:Value):oM P (.binOp .neq t (.tmp 0) (.tmp 1) t') T [x,y] K w = rM ((do eqGuard .neq t (.tmp 0) (.tmp 1) x y; binOp .neq t x y:Sem Value).run P w) K:=a6u rfl
@[go_sem] theorem a3t (T t i0:Nat) (x:Value) (n:Nat):oM P (.buildSlice t n #[(i0,.tmp 0)]) T [x] K w = rM ((Instr.buildSlice t n #[(i0,x)]).run P w) K:=a6u (by simp [xop,execOp,a1e,evE])
end
end Go.Sh
namespace Go.Sh
open Go Go.RowKit
variable {P:Program} {K:VK} {w:World}
theorem a0l {w a b:World} {row:Option Nat} (h:w.grownBy a row) (k:a.grownBy b row):w.grownBy b row:=
 ⟨k.os.trans h.os,k.tape.trans h.tape,k.output.trans h.output,Nat.le_trans h.size k.size,fun i hi hr=>(k.block i (lL hi h.size) hr).trans (h.block i hi hr)⟩
theorem a9t {t ty e base n:Nat} {i:TypeInfo} {z v:Value} {cs:Array Value} {xs:List Value} (hu:P.underlying t = some (.slice e)) (hi:P.info? e = some i) (hz:i.zero = some z)
  (hsz:i.size = cs.size) (hzs:z.cells.size = cs.size) (hpos:0 < cs.size) (h1:∀ u ∈ cs.toList,u.oneCell' = true) (hown:w.ownsRow base e cs.size v n xs) (hbase:base ≤ w.heap.size)
  (hn:n + 1 ≤ maxLen) (hb:(n + 1) * i.bytes ≤ 140737488355328)
  (k:∀ v' w',w'.ownsRow base e cs.size v' (n + 1) (xs ++ cs.toList) → w.grownBy w' v.ownBlock → K v' w') :
  oM P (.call { callee:=.builtin .append,args:=#[.tmp 0,.tmp 1],argTypes:=#[t,t] }) ty [v,.slice (some ⟨w.heap.size,0,none⟩) 1 1] K (w.alloc (.cells cs e)):=by
 obtain ⟨v',w',hrun,ho,hg,_⟩:=run_append_own (P:=P) (w:=w.alloc (.cells cs e)) base t ty e i z cs.size i.bytes hu hi hz hsz rfl hzs hpos v n xs (hown.alloc _)
  ⟨w.heap.size,0,none⟩ 1 1 cs.toList (by simp) (by
   intro j u hj
   have hh:(w.alloc (.cells cs e)).heap[w.heap.size]? = some (.cells cs e):=by
    show (w.heap.push _)[w.heap.size]? = _
    simp
   have ha:(⟨w.heap.size,0,none⟩:Addr).add j = ⟨w.heap.size,j,none⟩:=by
    unfold Addr.add
    split
    ·rename_i h0; rw [h0]
    ·simp
   rw [ha]
   unfold World.cell?
   rw [hh]
   simpa using hj) h1 hn hb (by simp; omega)
 rw [a1h (S:=Builtin.append_ #[t,t] ty #[v,.slice (some ⟨w.heap.size,0,none⟩) 1 1]) (by simp [xop,execOp,a1e,evE,resolve,invoke,builtin]),hrun,a3p]
 exact k v' w' ho (a0l (World.grownBy_alloc w _ _) hg)
@[go_sem] theorem f1g (t T:TypeId) (a:Option Addr) (n c:Nat) (h:P.underlying t = some (.slice (P.elem t))):oM P (.call { callee:=.builtin .len,args:=#[.tmp 0],argTypes:=#[t] }) T [.slice a n c] = a0f (.int .i64 n):=by
 funext K w
 have hr:=run_len_slice (P:=P) (w:=w) t T a n c h
 rw [a1h (S:=Builtin.len_ #[t] T #[.slice a n c]) (by simp [xop,execOp,a1e,evE,resolve,invoke,builtin]),hr,a3p]
 rfl
end Go.Sh
namespace Go.Sh
open Go Go.RowKit
variable {P:Program} {w W0:World}
theorem b4i {body:(WK) → Prop} (h:body (fun w'=>w' = { w with drawn:=w.drawn + 1 })):b4r w body:=
 ⟨fun w'=>w' = { w with drawn:=w.drawn + 1 },rfl,h⟩
theorem f8c {o:Op} {T:TypeId} {args:List Value} {K:Value → Prop} (hx:∃ S:Sem Value,xop o T args = (do let v ← S; pure (.value v))) (h:oM P o T args (fun v w'=>w' = W0 ∧ K v) W0):oQ P o T args (fun w=>w = W0) K:=by
 obtain ⟨S,hx⟩:=hx
 rw [a1h hx] at h
 obtain ⟨v,w',hr,rfl,hk⟩:=h
 refine ⟨v,?_,hk⟩
 rintro w rfl
 rw [hx,Sem.run_bind,hr]
 exact ⟨rfl,rfl⟩
theorem f2a {b:Bool} {x y:Value} {T:TypeId} {C:WK} {K:Value → Prop} (k:K (bif b then x else y)):oQ P (.pick (.tmp 0) (.tmp 1) (.tmp 2)) T [.bool b,x,y] C K:=by
 refine ⟨_,fun w _=>?_,k⟩
 simp [xop,execOp,a1e,evE,asBool]
 cases b <;> exact ⟨rfl,rfl⟩
theorem b5o {g:Bool} {m:(WK) → (Value → Prop) → Prop} {K:Value → Prop} {C:WK} (h:∀ W0,gdM g (fun K' w=>m C (fun v=>K' v w)) (fun v _=>K v) W0):gdQ g m C K:=by
 have h:=h ⟨#[],default,0,default,default⟩
 cases g <;> exact h
theorem b9z {W0:World} {F:WK} (h:F W0):∀ w,(fun w'=>w' = W0) w → F w:=by rintro w rfl; exact h
section
variable {p:Prop} [Decidable p] {b:Bool} {x y:Value} {T:TypeId} {C:WK} {K:Value → Prop}
theorem d3f (h:¬p) (k:K x):oQ P (.pick (.tmp 0) (.tmp 1) (.tmp 2)) T [.bool (!decide p),x,y] C K:=f2a (by rw [decide_eq_false h]; exact k)
theorem d3g (h:p) (k:K y):oQ P (.pick (.tmp 0) (.tmp 1) (.tmp 2)) T [.bool (!decide p),x,y] C K:=f2a (by rw [decide_eq_true h]; exact k)
theorem g7a (k:K x):oQ P (.pick (.tmp 0) (.tmp 1) (.tmp 2)) T [.bool true,x,y] C K:=f2a k
theorem g7b (k:K y):oQ P (.pick (.tmp 0) (.tmp 1) (.tmp 2)) T [.bool false,x,y] C K:=f2a k
end
theorem c1t {v:Value} {C:WK} {K:Value → Prop} (h:K v):d2v v C K:=h
end Go.Sh
namespace Go.Sh
open Go
variable {P:Program} {K:VK} {w:World}
@[go_sem] theorem g9o (t t' T:TypeId) (a b:ByteArray):oM P (.binOp .add t (.tmp 0) (.tmp 1) t') T [.string a,.string b] K w = (a.size + b.size ≤ 9223372036854775807 ∧ K (.string (a ++ b)) w):=by
 simp [oM,opM,xop,a1e,evE,go_sem]
 by_cases h:9223372036854775807 < a.size + b.size
 ·rw [if_pos h]
  simp
  omega
 ·rw [if_neg h]
  simp
  exact fun _=>by omega
@[go_sem] theorem h2h (t t' T:TypeId) (a b:Bool) (h:P.underlying t = some .bool):oM P (.binOp .neq t (.tmp 0) (.tmp 1) t') T [.bool a,.bool b] = a0f (.bool (!decide (a = b))):=by
 funext K w
 simp [oM,opM,xop,a1e,evE,go_sem,run_neq_bool (P:=P) (w:=w) t a b h]
 cases a <;> cases b <;> rfl
@[go_sem] theorem h2i (t t' T:TypeId) (a b:Bool) (h:P.underlying t = some .bool):oM P (.binOp .eql t (.tmp 0) (.tmp 1) t') T [.bool a,.bool b] = a0f (.bool (decide (a = b))):=by
 funext K w
 simp [oM,opM,xop,a1e,evE,go_sem,run_eql_bool (P:=P) (w:=w) t a b h]
 cases a <;> cases b <;> rfl
theorem e3h (x y:List UInt8):(⟨x.toArray⟩:ByteArray) ++ ⟨y.toArray⟩ = ⟨(x ++ y).toArray⟩:=by
 apply ByteArray.ext
 rw [ByteArray.data_append]
 simp
theorem a3o (x:List UInt8):(⟨x.toArray⟩:ByteArray).size = x.length:=rfl
theorem c1u (x:List UInt8):(⟨x.toArray⟩:ByteArray).data.toList = x:=rfl
end Go.Sh
namespace Go.Sh
open Go Go.RowKit
section
variable {P:Program} {w:World}
theorem e3d {o:Op} {T:TypeId} {args:List Value} {C:WK} {K:Value → Prop} {v:Value} (hx:∃ S:Sem Value,xop o T args = (do let v ← S; pure (.value v))) (h:∀ w,C w → oM P o T args (fun v' w'=>v' = v ∧ w' = w) w) (k:K v):oQ P o T args C K:=by
 obtain ⟨S,hx⟩:=hx
 refine ⟨v,fun w hw=>?_,k⟩
 have:=h w hw
 rw [a1h hx] at this
 obtain ⟨v',w',hr,rfl,rfl⟩:=this
 rw [hx,Sem.run_bind,hr]
 exact ⟨rfl,rfl⟩
theorem g7c {a:Addr} {T:TypeId} {C:WK} {K:Value → Prop} (k:K (.pointer (some a))):oQ P (.nilCheck (.tmp 0)) T [.pointer (some a)] C K:=
 ⟨_,fun w _=>by
  have:(xop (.nilCheck (.tmp 0)) T [.pointer (some a)]).run P w = .ok (.value (.pointer (some a))) w:=rfl
  rw [this]; exact ⟨rfl,rfl⟩,k⟩
theorem a8i {f:FuncId} {args:Array Value} {C:WK} {K:Value → Prop} {v:Value} (h:∀ w,C w → a0a P f args (fun v' w'=>v' = v ∧ C w') w) (k:K v):b8k P f args C K:=by
 refine ⟨v,fun w hw=>?_,k⟩
 exact Calls.mono (h w hw) (fun e w' ⟨v',he,hv,hc⟩=>⟨by rw [he,hv],hc⟩)
variable {K:VK}
@[go_sem] theorem h2b (T:TypeId) (ts:Array TypeId) (k:IntKind) (a b:Int):oM P (.call { callee:=.builtin .min,args:=#[.tmp 0,.tmp 1],argTypes:=ts }) T [.int k a,.int k b] = a0f (.int k (min a b)):=by
 funext K w
 have hr:(Builtin.min_ ts T #[.int k a,.int k b]).run P w = .ok (.int k (min a b)) w:=by
  rw [run_min_int2]
  congr 2
  split <;> omega
 rw [a1h (S:=Builtin.min_ ts T #[.int k a,.int k b]) (by simp [xop,execOp,a1e,evE,resolve,invoke,builtin]),hr,a3p]
 rfl
@[go_sem] theorem h2c (T:TypeId) (ts:Array TypeId) (k:IntKind) (a b:Int):oM P (.call { callee:=.builtin .max,args:=#[.tmp 0,.tmp 1],argTypes:=ts }) T [.int k a,.int k b] = a0f (.int k (max a b)):=by
 funext K w
 have hr:(Builtin.max_ ts T #[.int k a,.int k b]).run P w = .ok (.int k (max a b)) w:=by
  rw [run_max_int2]
  congr 2
  split <;> omega
 rw [a1h (S:=Builtin.max_ ts T #[.int k a,.int k b]) (by simp [xop,execOp,a1e,evE,resolve,invoke,builtin]),hr,a3p]
 rfl
theorem e3e {f:FuncId} {fs cs:Array Value} {T:TypeId} {ts:Array TypeId} (hb:a8v P f = true) (h:a0a P f (fs ++ #[] ++ cs) K w):oM P (.call { callee:=.value (.tmp 0),args:=#[],argTypes:=ts }) T [.func (.func f) fs cs] K w:=
 b5n _ hb (by simp [xop,execOp,a1e,evE,resolve,Deferred.ofValue,invoke]) h
@[go_sem] theorem h2e (t t' T:TypeId) (k:IntKind) (a b:Int):oM P (.binOp .quo t (.tmp 0) (.tmp 1) t') T [.int k a,.int k b] = onM (b ≠ 0) (.int k (k.wrap (a.tdiv b))):=by
 funext K w
 by_cases hb:b = 0
 ·subst hb
  simp [oM,opM,xop,a1e,evE,go_sem,Op.intDiv]
 ·simp [oM,opM,xop,a1e,evE,go_sem,Op.intDiv,hb]
@[go_sem] theorem h2f (t t' T:TypeId) (k:IntKind) (a b:Int):oM P (.binOp .rem t (.tmp 0) (.tmp 1) t') T [.int k a,.int k b] = onM (b ≠ 0) (.int k (a.tmod b)):=by
 funext K w
 by_cases hb:b = 0
 ·subst hb
  simp [oM,opM,xop,a1e,evE,go_sem,Op.intDiv]
 ·simp [oM,opM,xop,a1e,evE,go_sem,Op.intDiv,hb]
@[go_sem] theorem h2g (t T:TypeId) (k:IntKind) (a:Int):oM P (.unOp .neg t (.tmp 0)) T [.int k a] = a0f (.int k (k.wrap (-a))):=by
 funext K w
 simp [oM,opM,xop,a1e,evE,go_sem]
theorem g9l (a b:Int) (h:0 ≤ a):a.tdiv b = a / b:=Int.tdiv_eq_ediv_of_nonneg h
theorem g9m (a b:Int) (h:0 ≤ a):a.tmod b = a % b:=Int.tmod_eq_emod_of_nonneg h
@[go_sem] theorem f8d (fn:Fn) (T:TypeId) (x:Value):oM P (.makeFunc fn #[.tmp 0] #[]) T [x] K w = K (.func fn #[x] #[]) w:=a3g (by simp [xop,execOp,a1e,evE,Instr.makeFunc])
end
end Go.Sh
namespace Go.Sh
open Go Go.RowKit
section
variable {P:Program} {w:World} {K:VK}
@[go_sem] theorem a8p (T t i0 i1:Nat) (x y:Value) (n:Nat):oM P (.buildSlice t n #[(i0,.tmp 0),(i1,.tmp 1)]) T [x,y] K w = rM ((Instr.buildSlice t n #[(i0,x),(i1,y)]).run P w) K:=a6u (by simp [xop,execOp,a1e,evE])
variable {C:(Nat → Bool) → WK} {i:Nat} {ds:List Nat}
section
variable {C:WK} {K:Value → Prop} {o:Op} {T:TypeId} {args:List Value} {v:Value}
theorem a3h (hx:∃ S:Sem Value,xop o T args = (do let v ← S; pure (.value v))) (h:∀ w,C w → oM P o T args (fun v' w'=>v' = v ∧ w' = w) w) (k:K v):oH P o T args C K:=by
 obtain ⟨S,hx⟩:=hx
 refine ⟨v,fun w hw=>?_,k⟩
 have:=h w hw
 rw [a1h hx] at this
 obtain ⟨v',w',hrun,rfl,rfl⟩:=this
 rw [hx,Sem.run_bind,hrun]
 rfl
theorem a4g {a:Addr} (k:K (.pointer (some a))):oH P (.nilCheck (.tmp 0)) T [.pointer (some a)] C K:=⟨_,fun _ _=>rfl,k⟩
theorem pX (k:K v):a0g v C K:=k
theorem a3b {g:Bool} {m:(WK) → (Value → Prop) → Prop} (hg:g = true) (k:m C K):gdH g m C K:=by subst hg; exact k
theorem a2i {g:Bool} {m:(WK) → (Value → Prop) → Prop} (hg:g = false) (k:K undef):gdH g m C K:=by subst hg; exact k
end
end
end Go.Sh
namespace Go.Sh
open Go Go.RowKit
def a4a {κ α:Type} [DecidableEq κ] (l:List (κ × α)) (k:κ):Option α:=(l.find? (fun x=>decide (x.1 = k))).map (·.2)
def c6m {κ α:Type} [DecidableEq κ] (l:List (κ × α)) (k:κ) (v:α):List (κ × α):=if (a4a l k).isSome then l.map (fun x=>if x.1 = k then (k,v) else x) else l ++ [(k,v)]
def f1a {κ α:Type} [DecidableEq κ] (l:List (κ × α)) (k:κ):List (κ × α):=l.filter (fun x=>decide (x.1 ≠ k))
section
variable {κ α:Type} [DecidableEq κ]
theorem a7u (k:κ):a4a ([]:List (κ × α)) k = none:=rfl
theorem a2o (x:κ × α) (l:List (κ × α)) (k:κ):a4a (x :: l) k = if x.1 = k then some x.2 else a4a l k:=by
 unfold a4a
 by_cases h:x.1 = k <;> simp [h]
theorem c4q (l m:List (κ × α)) (k:κ):a4a (l ++ m) k = (a4a l k).or (a4a m k):=by
 induction l with
 | nil=>simp [a7u]
 | cons x l ih=>
  rw [List.cons_append,a2o,a2o,ih]
  split <;> simp
theorem e2g (l:List (κ × α)) (k j:κ) (v:α):a4a (l.map (fun x=>if x.1 = k then (k,v) else x)) j = if j = k ∧ (a4a l k).isSome then some v else a4a l j:=by
 induction l with
 | nil=>simp [a7u]
 | cons x l ih=>
  rw [List.map_cons,a2o,a2o,a2o,ih]
  by_cases hx:x.1 = k
  ·subst hx
   by_cases hj:j = x.1
   ·subst hj; simp
   ·have hj':¬ x.1 = j:=fun e=>hj e.symm
    simp [hj,hj']
  ·by_cases hj:j = k
   ·subst hj; simp [hx]
   ·simp [hx,hj]
theorem c4r (l:List (κ × α)) (k j:κ) (v:α):a4a (c6m l k v) j = if j = k then some v else a4a l j:=by
 unfold c6m
 cases h:a4a l k with
 | none=>
  simp only [Option.isSome_none,Bool.false_eq_true,if_false]
  rw [c4q,a2o,a7u]
  by_cases hj:j = k
  ·subst hj; simp [h]
  ·have:¬ k = j:=fun e=>hj e.symm
   simp [hj,this]
 | some u=>
  simp only [Option.isSome_some,if_true]
  rw [e2g,h]
  simp
theorem c4s (p:κ → Bool) (l:List (κ × α)) (k:κ):a4a (l.filter (fun x=>p x.1)) k = if p k then a4a l k else none:=by
 induction l with
 | nil=>simp [a7u]
 | cons x l ih=>
  rw [a2o]
  by_cases hp:p x.1 = true
  ·rw [List.filter_cons_of_pos (p:=fun x:κ × α=>p x.1) hp,a2o,ih]
   by_cases hx:x.1 = k
   ·subst hx; simp [hp]
   ·simp [hx]
  ·rw [List.filter_cons_of_neg (p:=fun x:κ × α=>p x.1) hp,ih]
   by_cases hx:x.1 = k
   ·subst hx; simp [hp]
   ·simp [hx]
theorem c4t {β:Type} (f:κ → α → β) (l:List (κ × α)) (k:κ):a4a (l.map (fun x=>(x.1,f x.1 x.2))) k = (a4a l k).map (f k):=by
 induction l with
 | nil=>rfl
 | cons x l ih=>
  rw [List.map_cons,a2o,a2o,ih]
  by_cases hx:x.1 = k
  ·subst hx; simp
  ·simp [hx]
theorem d0x (l:List (κ × α)) (k:κ) (v:α):(c6m l k v).map (·.1) = if (a4a l k).isSome then l.map (·.1) else l.map (·.1) ++ [k]:=by
 unfold c6m
 split
 ·rw [List.map_map]
  apply List.map_congr_left
  intro x _
  simp only [Function.comp]
  split
  ·rename_i h; exact h.symm
  ·rfl
 ·simp
theorem a5c (l:List (κ × α)) (k:κ):(a4a l k).isSome = true ↔ k ∈ l.map (·.1):=by
 induction l with
 | nil=>simp [a7u]
 | cons x l ih=>
  rw [a2o]
  by_cases hx:x.1 = k
  ·simp [hx]
  ·have:¬ k = x.1:=fun e=>hx e.symm
   simp [hx,this,ih]
theorem e2h (l:List (κ × α)) (hn:(l.map (·.1)).Nodup) (x:κ × α) (hx:x ∈ l):a4a l x.1 = some x.2:=by
 induction l with
 | nil=>cases hx
 | cons y l ih=>
  rw [List.map_cons,List.nodup_cons] at hn
  rw [a2o]
  rcases List.mem_cons.1 hx with rfl | hx
  ·simp
  ·rw [if_neg,ih hn.2 hx]
   intro e
   exact hn.1 (by rw [e]; exact List.mem_map_of_mem hx)
theorem b7a (l:List (κ × α)) (k:κ) (v:α) (hn:(l.map (·.1)).Nodup):((c6m l k v).map (·.1)).Nodup:=by
 rw [d0x]
 split
 ·exact hn
 ·rename_i h
  rw [List.nodup_append]
  refine ⟨hn,by simp,?_⟩
  intro a ha b hb
  simp only [List.mem_singleton] at hb
  subst hb
  rintro rfl
  exact h ((a5c l a).2 ha)
end
structure KeyOK (P:Program) (kt:TypeId) {κ:Type} [DecidableEq κ] (mk:κ → Value):Prop where
 find:∀ (w:World) (k:κ) (es:List MapEntry) (ks:List κ),es.map (·.key) = ks.map mk → (Instr.findKey kt (mk k) es).run P w = .ok ((ks.findIdx? (fun x=>decide (x = k))).bind fun i=>(es[i]?).map fun e=>(i,e.val)) w
 check:∀ (b:Bool) (w:World) (k:κ),(Instr.checkKey b 10000 kt (mk k)).run P w = .ok () w
 same:∀ k,Instr.sameBits 10000 (mk k) (mk k) = true
section
variable {P:Program} {w:World}
theorem c8h (ik:IntKind) (k:Int) (es:List MapEntry) (ks:List Int) (i:Nat) (h:es.map (·.key) = ks.map (fun n=>Value.int ik n)) :
  Instr.findNow (.int ik) (.int ik k) es i = some ((ks.findIdx? (fun x=>decide (x = k))).bind fun j=>(es[j]?).map fun e=>(i + j,e.val)):=by
 induction es generalizing ks i with
 | nil=>
  cases ks with
  | nil=>rfl
  | cons _ _=>simp at h
 | cons e es ih=>
  cases ks with
  | nil=>simp at h
  | cons n ks=>
   simp only [List.map_cons,List.cons.injEq] at h
   obtain ⟨h1,h2⟩:=h
   unfold Instr.findNow
   rw [h1]
   by_cases hn:n = k
   ·subst hn
    rw [List.findIdx?_cons]
    simp [Instr.sameNow]
   ·have hn':(k == n) = false:=by simp; exact fun e=>hn e.symm
    simp only [Instr.sameNow,if_true,hn']
    rw [ih ks (i + 1) h2]
    rw [List.findIdx?_cons]
    simp only [hn,decide_false,Bool.false_eq_true,if_false]
    cases ks.findIdx? (fun x=>decide (x = k)) with
    | none=>rfl
    | some j=>
     simp only [Option.bind_some,Option.map_some,List.getElem?_cons_succ]
     congr 1
     cases es[j]? with
     | none=>rfl
     | some e=>simp; omega
theorem g6c {kt:TypeId} {ik:IntKind} (h:P.underlying kt = some (.int ik)):KeyOK P kt (fun n:Int=>Value.int ik n) where
 find:=fun w k es ks hk=>by
  have:=c8h ik k es ks 0 hk
  simp only [Nat.zero_add] at this
  exact MapKept.run_findKey h this
 check:=fun b w k=>MapKept.run_checkKey h (by simp [MapKept.IsKey]) b 9999
 same:=fun k=>by simp [Instr.sameBits]
theorem c4u {kt:TypeId} (mk:Int × Int → Value) (heq:∀ (w:World) (a b:Int × Int),(Op.equal kt (mk a) (mk b)).run P w = .ok (decide (a = b)) w) (w:World) (k:Int × Int) (es:List MapEntry) (ks:List (Int × Int)) (i:Nat) (h:es.map (·.key) = ks.map mk) :
  (Instr.findAsking kt (mk k) es i).run P w = .ok ((ks.findIdx? (fun x=>decide (x = k))).bind fun j=>(es[j]?).map fun e=>(i + j,e.val)) w:=by
 induction es generalizing ks i with
 | nil=>
  cases ks with
  | nil=>rfl
  | cons _ _=>simp at h
 | cons e es ih=>
  cases ks with
  | nil=>simp at h
  | cons n ks=>
   simp only [List.map_cons,List.cons.injEq] at h
   obtain ⟨h1,h2⟩:=h
   unfold Instr.findAsking
   rw [Sem.run_bind,h1,heq,Result.andThen_ok]
   by_cases hn:n = k
   ·subst hn
    rw [List.findIdx?_cons]
    simp [Sem.run_pure]
   ·have hn':¬ k = n:=fun e=>hn e.symm
    simp only [hn',decide_false,Bool.false_eq_true,if_false]
    rw [ih ks (i + 1) h2,List.findIdx?_cons]
    simp only [hn,decide_false,Bool.false_eq_true,if_false]
    cases ks.findIdx? (fun x=>decide (x = k)) with
    | none=>rfl
    | some j=>
     simp only [Option.bind_some,Option.map_some,List.getElem?_cons_succ]
     congr 1
     cases es[j]? with
     | none=>rfl
     | some e=>simp; omega
end
end Go.Sh
namespace Go.Sh
open Go Go.RowKit
section
variable {κ α:Type} [DecidableEq κ]
theorem f1b (l:List (κ × α)) (k:κ) (i:Nat) (h:(l.map (·.1)).findIdx? (fun x=>decide (x = k)) = some i):∃ x,l[i]? = some x ∧ x.1 = k ∧ a4a l k = some x.2:=by
 induction l generalizing i with
 | nil=>simp at h
 | cons x l ih=>
  rw [List.map_cons,List.findIdx?_cons] at h
  rw [a2o]
  by_cases hx:x.1 = k
  ·simp [hx] at h
   subst h
   exact ⟨x,rfl,hx,by simp [hx]⟩
  ·simp only [hx,decide_false,Bool.false_eq_true,if_false,Option.map_eq_some_iff] at h
   obtain ⟨j,hj,rfl⟩:=h
   obtain ⟨y,h1,h2,h3⟩:=ih j hj
   exact ⟨y,by simpa using h1,h2,by simp [hx,h3]⟩
theorem f1c (l:List (κ × α)) (k:κ) (h:(l.map (·.1)).findIdx? (fun x=>decide (x = k)) = none):a4a l k = none:=by
 cases hl:a4a l k with
 | none=>rfl
 | some v=>
  have:=(a5c l k).1 (by rw [hl]; rfl)
  rw [List.findIdx?_eq_none_iff] at h
  have:=h k this
  simp at this
theorem map_set (l:List (κ × α)) (k:κ) (v:α) (i:Nat) (hn:(l.map (·.1)).Nodup) {x:κ × α} (hi:l[i]? = some x) (hx:x.1 = k):l.map (fun x=>if x.1 = k then (k,v) else x) = l.set i (k,v):=by
 apply List.ext_getElem?
 intro j
 rw [List.getElem?_map,List.getElem?_set]
 by_cases hij:i = j
 ·subst hij
  have hlt:=(gS hi).1
  rw [hi]
  simp [hx,hlt]
 ·rw [if_neg hij]
  cases hj:l[j]? with
  | none=>rfl
  | some y=>
   have:¬ y.1 = k:=by
    intro hy
    have h1:(l.map (·.1))[i]? = some k:=by rw [List.getElem?_map,hi]; simp [hx]
    have h2:(l.map (·.1))[j]? = some k:=by rw [List.getElem?_map,hj]; simp [hy]
    exact hij ((List.getElem?_inj (by have:=(gS hi).1; simpa using this) hn).1 (h1.trans h2.symm))
   simp [this]
end
section
variable {P:Program} {w:World} {κ:Type} [DecidableEq κ] {mk:κ → Value}
def MapIs (mk:κ → Value) (w:World) (b:Nat) (l:List (κ × Value)):Prop:=
 ∃ es clock,w.heap[b]? = some (.map es clock) ∧ es.toList.map (fun e=>(e.key,e.val)) = l.map (fun x=>(mk x.1,x.2)) ∧ (l.map (·.1)).Nodup ∧ (es.toList.map (·.born)).Nodup ∧ ∀ e ∈ es.toList,e.born < clock
theorem MapIs.lt {b:Nat} {l:List (κ × Value)} (h:MapIs mk w b l):b < w.heap.size:=by
 obtain ⟨es,clock,hb,_⟩:=h
 exact (Array.getElem?_eq_some_iff.1 hb).1
theorem MapIs.of_block {w':World} {b:Nat} {l:List (κ × Value)} (h:MapIs mk w b l) (hb:w'.heap[b]? = w.heap[b]?):MapIs mk w' b l:=by
 obtain ⟨es,clock,h1,h2⟩:=h
 exact ⟨es,clock,by rw [hb]; exact h1,h2⟩
theorem g0k {es:Array MapEntry} {l:List (κ × Value)} (h:es.toList.map (fun e=>(e.key,e.val)) = l.map (fun x=>(mk x.1,x.2))):es.toList.map (·.key) = (l.map (·.1)).map mk:=by
 have:=congrArg (List.map Prod.fst) h
 simpa [List.map_map,Function.comp_def] using this
theorem e2i {es:Array MapEntry} {l:List (κ × Value)} (h:es.toList.map (fun e=>(e.key,e.val)) = l.map (fun x=>(mk x.1,x.2))) {i:Nat} {x:κ × Value} (hi:l[i]? = some x):∃ e,es[i]? = some e ∧ e.key = mk x.1 ∧ e.val = x.2:=by
 have:=congrArg (fun l=>l[i]?) h
 simp only [List.getElem?_map,hi,Option.map_some,Option.map_eq_some_iff] at this
 obtain ⟨e,he,heq⟩:=this
 simp only [Prod.mk.injEq] at heq
 exact ⟨e,by simpa using he,heq.1,heq.2⟩
theorem b3d {kt:TypeId} (K:KeyOK P kt mk) {es:Array MapEntry} {l:List (κ × Value)} (h:es.toList.map (fun e=>(e.key,e.val)) = l.map (fun x=>(mk x.1,x.2))) (k:κ) :
  (∃ i x e,(Instr.findKey kt (mk k) es.toList).run P w = .ok (some (i,x.2)) w ∧ l[i]? = some x ∧ x.1 = k ∧ a4a l k = some x.2 ∧ es[i]? = some e ∧ e.key = mk k ∧ e.val = x.2) ∨ ((Instr.findKey kt (mk k) es.toList).run P w = .ok none w ∧ a4a l k = none):=by
 have hf:=K.find w k es.toList (l.map (·.1)) (g0k h)
 cases hi:(l.map (·.1)).findIdx? (fun x=>decide (x = k)) with
 | none=>
  right
  rw [hi] at hf
  exact ⟨hf,f1c l k hi⟩
 | some i=>
  left
  obtain ⟨x,h1,h2,h3⟩:=f1b l k i hi
  obtain ⟨e,he,hk,hv⟩:=e2i h h1
  rw [hi] at hf
  have he':es.toList[i]? = some e:=by simpa using he
  simp only [Option.bind_some,he',Option.map_some,hv] at hf
  exact ⟨i,x,e,hf,h1,h2,h3,he,by rw [hk,h2],hv⟩
theorem b9x {t kt et:TypeId} {z:Value} {b:Nat} {l:List (κ × Value)} (K:KeyOK P kt mk) (ht:P.underlying t = some (.map kt et)) (hz:∀ w,(zeroValue et).run P w = .ok z w) (h:MapIs mk w b l) (k:κ) :
  (Instr.lookup t (.map (some b)) (mk k) false).run P w = .ok ((a4a l k).getD z) w:=by
 obtain ⟨es,clock,hb,hl,hn,_,_⟩:=h
 unfold Instr.lookup
 simp only [Sem.run_bind,run_underlying ht,Result.andThen_ok,MapKept.run_getObj_map hb,Sem.run_pure,K.check]
 rcases b3d (w:=w) K hl k with ⟨i,x,e,h1,h2,h3,h4,h5,h6,h7⟩ | ⟨h1,h2⟩
 ·rw [h1,h4]
  simp [Sem.run_pure]
 ·rw [h1,h2]
  simp [hz,Sem.run_pure]
theorem a7l (w:World) (b:Nat) (o:Obj):w.grownBy { w with heap:=w.heap.setIfInBounds b o } (some b):=
 ⟨rfl,rfl,rfl,by simp,fun i _ hi=>by
  have:b ≠ i:=fun e=>hi (by rw [e])
  simp [this]⟩
theorem b9y {es:Array MapEntry} {l:List (κ × Value)} (h:es.toList.map (fun e=>(e.key,e.val)) = l.map (fun x=>(mk x.1,x.2))) (hn:(l.map (·.1)).Nodup) {i:Nat} {x:κ × Value} (hi:l[i]? = some x) (v:Value) :
  ((es.modify i fun e=>{ e with key:=mk x.1,val:=v }).toList.map (fun e=>(e.key,e.val)) = (l.map (fun y=>if y.1 = x.1 then (x.1,v) else y)).map (fun x=>(mk x.1,x.2))) ∧
  (es.modify i fun e=>{ e with key:=mk x.1,val:=v }).toList.map (·.born) = es.toList.map (·.born):=by
 have key:∀ j:Nat,(es.toList.map (fun e=>(e.key,e.val)))[j]? = (l.map (fun x=>(mk x.1,x.2)))[j]?:=fun j=>by rw [h]
 constructor
 ·rw [map_set l x.1 v i hn hi rfl]
  apply List.ext_getElem?
  intro j
  have kj:=key j
  simp only [List.getElem?_map,Array.getElem?_toList,Array.getElem?_modify,List.getElem?_set] at kj ⊢
  by_cases hij:i = j
  ·subst hij
   obtain ⟨e,he,_⟩:=e2i h hi
   have hlt:=(gS hi).1
   simp [he,hlt]
  ·simp only [if_neg hij]
   exact kj
 ·apply List.ext_getElem?
  intro j
  simp only [List.getElem?_map,Array.getElem?_toList,Array.getElem?_modify]
  by_cases hij:i = j
  ·subst hij
   simp only [if_true]
   cases es[i]? <;> rfl
  ·simp only [if_neg hij]
theorem d3a {t kt et:TypeId} {b:Nat} {l:List (κ × Value)} (K:KeyOK P kt mk) (ht:P.underlying t = some (.map kt et)) (h:MapIs mk w b l) (k:κ) (v:Value) :
  ∃ w',(Instr.mapUpdate t (.map (some b)) (mk k) v).run P w = .ok () w' ∧ MapIs mk w' b (c6m l k v) ∧ w.grownBy w' (some b) ∧ w'.heap.size = w.heap.size:=by
 obtain ⟨es,clock,hb,hl,hn,hbn,hlt⟩:=h
 have hbs:=(Array.getElem?_eq_some_iff.1 hb).1
 unfold Instr.mapUpdate
 simp only [Sem.run_bind,run_underlying ht,Result.andThen_ok,MapKept.run_getObj_map hb,K.check]
 rcases b3d (w:=w) K hl k with ⟨i,x,e,h1,h2,h3,h4,h5,h6,h7⟩ | ⟨h1,h2⟩
 ·rw [h1]
  subst h3
  have hks:(Instr.keyThatStays (((es[i]?).map (·.key)).getD (mk x.1)) (mk x.1)).run P w = .ok (mk x.1) w:=by
   unfold Instr.keyThatStays
   rw [h5]
   simp only [Option.map_some,Option.getD_some,h6,K.same,if_true,Sem.run_pure]
  simp only [Result.andThen_ok,Sem.run_bind,hks,MapKept.run_setObj_map _ hb]
  obtain ⟨m1,m2⟩:=b9y hl hn h2 v
  refine ⟨_,rfl,⟨_,clock,(MapKept.heap_set hb).1,?_,b7a l _ v hn,?_,?_⟩,a7l _ _ _,by simp⟩
  ·rw [m1]
   unfold c6m
   rw [h4]
   simp
  ·rw [m2]; exact hbn
  ·intro e' he'
   have:e'.born ∈ (es.toList.map (·.born)):=by rw [← m2]; exact List.mem_map_of_mem he'
   obtain ⟨e'',he'',heq⟩:=List.mem_map.1 this
   rw [← heq]; exact hlt e'' he''
 ·rw [h1]
  simp only [Result.andThen_ok,MapKept.run_setObj_map _ hb]
  refine ⟨_,rfl,⟨_,clock + 1,(MapKept.heap_set hb).1,?_,b7a l _ v hn,?_,?_⟩,a7l _ _ _,by simp⟩
  ·unfold c6m
   rw [h2]
   simp [hl]
  ·simp only [Array.toList_push,List.map_append,List.map_cons,List.map_nil]
   rw [List.nodup_append]
   refine ⟨hbn,by simp,?_⟩
   intro a ha c hc
   obtain ⟨e',he',rfl⟩:=List.mem_map.1 ha
   have:=hlt e' he'
   simp at hc
   omega
  ·intro e' he'
   simp only [Array.toList_push,List.mem_append,List.mem_singleton] at he'
   rcases he' with he' | rfl
   ·have:=hlt e' he'; omega
   ·simp
end
end Go.Sh
namespace Go.Sh
open Go Go.RowKit
section
variable {κ α:Type} [DecidableEq κ]
theorem b0u {α β:Type} (f:α → β) (l:List α) (i:Nat):(l.eraseIdx i).map f = (l.map f).eraseIdx i:=by
 induction l generalizing i with
 | nil=>rfl
 | cons x l ih=>cases i <;> simp [ih]
theorem d0y (l:List (κ × α)) (k:κ):(f1a l k).map (·.1) = (l.map (·.1)).filter (fun x=>decide (x ≠ k)):=by
 unfold f1a
 rw [List.filter_map]
 rfl
theorem e2j (l:List (κ × α)) (k:κ) (hn:(l.map (·.1)).Nodup):((f1a l k).map (·.1)).Nodup:=by
 rw [d0y]; exact hn.filter _
theorem e2k (l:List (κ × α)) (k:κ) (i:Nat) (hn:(l.map (·.1)).Nodup) {x:κ × α} (hi:l[i]? = some x) (hx:x.1 = k):f1a l k = l.eraseIdx i:=by
 induction l generalizing i with
 | nil=>simp at hi
 | cons y l ih=>
  rw [List.map_cons,List.nodup_cons] at hn
  cases i with
  | zero=>
   simp only [List.getElem?_cons_zero,Option.some.injEq] at hi
   subst hi
   unfold f1a
   rw [List.filter_cons_of_neg (by simp [hx]),List.eraseIdx_cons_zero]
   rw [List.filter_eq_self]
   intro z hz
   simp only [dE]
   intro e
   exact hn.1 (by rw [hx,← e]; exact List.mem_map_of_mem hz)
  | succ i=>
   simp only [List.getElem?_cons_succ] at hi
   have hy:¬ y.1 = k:=by
    intro e
    apply hn.1
    rw [e,← hx]
    exact List.mem_map_of_mem (List.mem_of_getElem? hi)
   unfold f1a at ih ⊢
   rw [List.filter_cons_of_pos (by simp [hy]),List.eraseIdx_cons_succ,ih i hn.2 hi]
end
section
variable {P:Program} {w:World} {κ:Type} [DecidableEq κ] {mk:κ → Value}
theorem MapIs.alloc {b:Nat} {l:List (κ × Value)} (h:MapIs mk w b l) (o:Obj):MapIs mk (w.alloc o) b l:=h.of_block (heap_alloc_old w o h.lt)
omit [DecidableEq κ] in
theorem b7b (w:World):MapIs mk (w.alloc (.map #[] 0)) w.heap.size ([]:List (κ × Value)):=
 ⟨#[],0,heap_alloc_new w _,rfl,by simp,by simp,by simp⟩
theorem c4v {t kt et:TypeId} {z:Value} {b:Nat} {l:List (κ × Value)} (K:KeyOK P kt mk) (ht:P.underlying t = some (.map kt et)) (hz:∀ w,(zeroValue et).run P w = .ok z w) (h:MapIs mk w b l) (k:κ) (hk:a4a l k = none) :
  ∃ w1 s,(Instr.mapEntry t (.map (some b)) (mk k)).run P w = .ok (.tuple #[z,.int .i64 s]) w1 ∧ w.grownBy w1 (some b) ∧ w1.heap.size = w.heap.size ∧
   ∀ v,∃ w2,(Instr.entryStore t (.map (some b)) (.int .i64 s) v).run P w1 = .ok () w2 ∧ MapIs mk w2 b (c6m l k v) ∧ w1.grownBy w2 (some b) ∧ w2.heap.size = w1.heap.size:=by
 obtain ⟨es,clock,hb,hl,hn,hbn,hlt⟩:=h
 unfold Instr.mapEntry
 simp only [Sem.run_bind,run_underlying ht,Result.andThen_ok,MapKept.run_getObj_map hb,K.check]
 rcases b3d (w:=w) K hl k with ⟨i,x,e,h1,h2,h3,h4,h5,h6,h7⟩ | ⟨h1,h2⟩
 ·rw [h4] at hk; cases hk
 ·rw [h1]
  simp only [Result.andThen_ok,Sem.run_bind,hz,MapKept.run_setObj_map _ hb,Sem.run_pure]
  refine ⟨_,(clock:Int),rfl,a7l _ _ _,by simp,fun v=>?_⟩
  have hb1:(World.heap { w with heap:=w.heap.setIfInBounds b (.map (es.push { key:=mk k,val:=z,born:=clock }) (clock + 1)) })[b]? = _:=(MapKept.heap_set (o':=.map (es.push { key:=mk k,val:=z,born:=clock }) (clock + 1)) hb).1
  have hix:(es.push { key:=mk k,val:=z,born:=clock }).findIdx? (fun e=>(e.born:Int) == (clock:Int)) = some es.size:=by
   rw [Array.findIdx?_eq_some_iff_getElem]
   refine ⟨by simp,by simp,fun j hj=>?_⟩
   rw [Array.getElem_push_lt hj]
   have:=hlt es[j] (by simp)
   simp only [beq_iff_eq,Int.natCast_inj]
   omega
  unfold Instr.entryStore
  simp only [Sem.run_bind,MapKept.run_getObj_map hb1,Result.andThen_ok,asInt,asIntOf,pure_bind,hix,MapKept.run_setObj_map _ hb1]
  have hm:((es.push { key:=mk k,val:=z,born:=clock }).modify es.size fun e=>{ e with val:=v }) = es.push { key:=mk k,val:=v,born:=clock }:=by
   apply Array.ext_getElem?
   intro j
   rw [Array.getElem?_modify]
   rcases Nat.lt_trichotomy j es.size with hj | hj | hj
   ·rw [if_neg (by omega),Array.getElem?_push_lt hj,Array.getElem?_push_lt hj]
   ·subst hj; simp
   ·rw [if_neg (by omega),Array.getElem?_eq_none (by simp; omega),Array.getElem?_eq_none (by simp; omega)]
  refine ⟨_,rfl,⟨_,clock + 1,(MapKept.heap_set hb1).1,?_,b7a l _ v hn,?_,?_⟩,a7l _ _ _,by simp⟩
  ·rw [hm]
   unfold c6m
   rw [h2]
   simp [hl]
  ·rw [hm]
   simp only [Array.toList_push,List.map_append,List.map_cons,List.map_nil]
   rw [List.nodup_append]
   refine ⟨hbn,by simp,?_⟩
   intro a ha c hc
   obtain ⟨e',he',rfl⟩:=List.mem_map.1 ha
   have:=hlt e' he'
   simp at hc
   omega
  ·rw [hm]
   intro e' he'
   simp only [Array.toList_push,List.mem_append,List.mem_singleton] at he'
   rcases he' with he' | rfl
   ·have:=hlt e' he'; omega
   ·simp
end
end Go.Sh
namespace Go.Sh
open Go Go.RowKit
section
variable {P:Program} {w:World} {κ:Type} [DecidableEq κ] {mk:κ → Value}
theorem e2l (ks:List κ) (bs:List Nat) (hn:ks.Nodup) (hl:ks.length = bs.length):∃ f:κ → Nat,bs = ks.map f:=by
 induction ks generalizing bs with
 | nil=>exact ⟨fun _=>0,by cases bs <;> simp_all⟩
 | cons k ks ih=>
  cases bs with
  | nil=>simp at hl
  | cons b bs=>
   rw [List.nodup_cons] at hn
   obtain ⟨f,hf⟩:=ih bs hn.2 (by simpa using hl)
   refine ⟨fun x=>if x = k then b else f x,?_⟩
   rw [List.map_cons,if_pos rfl,hf]
   congr 1
   apply List.map_congr_left
   intro x hx
   have:¬ x = k:=fun e=>hn.1 (e ▸ hx)
   simp [this]
def Ranged (mk:κ → Value) (w:World) (it b:Nat) (l:List (κ × Value)) (ks done:List κ):Prop:=
 ∃ es clock seen f,w.heap[b]? = some (.map es clock) ∧ w.heap[it]? = some (.mapIter (some b) clock seen clock) ∧ es.toList.map (fun e=>(e.key,e.val)) = l.map (fun x=>(mk x.1,x.2)) ∧ es.toList.map (·.born) = (l.map (·.1)).map f ∧
  (l.map (·.1)).Nodup ∧ (∀ a ∈ ks,∀ c ∈ ks,f a = f c → a = c) ∧ (∀ a ∈ ks,f a < clock) ∧ seen.toList = done.reverse.map f ∧ (∀ a ∈ l.map (·.1),a ∈ ks) ∧ (∀ a ∈ done,a ∈ ks)
theorem c4w {α β:Type} (f:α → β) (l:List α) (hi:∀ a ∈ l,∀ c ∈ l,f a = f c → a = c) (hn:l.Nodup):(l.map f).Nodup:=by
 induction l with
 | nil=>simp
 | cons a l ih=>
  rw [List.nodup_cons] at hn
  rw [List.map_cons,List.nodup_cons]
  refine ⟨?_,ih (fun x hx y hy=>hi x (List.mem_cons_of_mem _ hx) y (List.mem_cons_of_mem _ hy)) hn.2⟩
  intro hm
  obtain ⟨c,hc,e⟩:=List.mem_map.1 hm
  have:=hi c (List.mem_cons_of_mem _ hc) a (List.mem_cons_self ..) e
  exact hn.1 (this ▸ hc)
omit [DecidableEq κ] in
theorem Ranged.map {it b:Nat} {l:List (κ × Value)} {ks done:List κ} (h:Ranged mk w it b l ks done):MapIs mk w b l:=by
 obtain ⟨es,clock,seen,f,h1,h2,h3,h4,h5,h6,h7,h8,h9,h10⟩:=h
 refine ⟨es,clock,h1,h3,h5,?_,?_⟩
 ·rw [h4]
  exact c4w f _ (fun a ha c hc=>h6 a (h9 a ha) c (h9 c hc)) h5
 ·intro e he
  have:e.born ∈ es.toList.map (·.born):=List.mem_map_of_mem he
  rw [h4] at this
  obtain ⟨a,ha,hb⟩:=List.mem_map.1 this
  rw [← hb]
  exact h7 a (h9 a ha)
omit [DecidableEq κ] in
theorem Ranged.of_blocks {w':World} {it b:Nat} {l:List (κ × Value)} {ks done:List κ} (h:Ranged mk w it b l ks done) (hb:w'.heap[b]? = w.heap[b]?) (hi:w'.heap[it]? = w.heap[it]?):Ranged mk w' it b l ks done:=by
 obtain ⟨es,clock,seen,f,h1,h2,h3⟩:=h
 exact ⟨es,clock,seen,f,by rw [hb]; exact h1,by rw [hi]; exact h2,h3⟩
omit [DecidableEq κ] in
theorem Ranged.lt {it b:Nat} {l:List (κ × Value)} {ks done:List κ} (h:Ranged mk w it b l ks done):b < w.heap.size ∧ it < w.heap.size ∧ b ≠ it:=by
 obtain ⟨es,clock,seen,f,h1,h2,h3⟩:=h
 refine ⟨(Array.getElem?_eq_some_iff.1 h1).1,(Array.getElem?_eq_some_iff.1 h2).1,?_⟩
 rintro rfl
 rw [h1] at h2; cases h2
theorem c4x {t kt et:TypeId} {b:Nat} {l:List (κ × Value)} (ht:P.underlying t = some (.map kt et)) (h:MapIs mk w b l) :
  ∃ o,(Instr.range t (.map (some b))).run P w = .ok (.pointer (some ⟨w.heap.size,0,none⟩)) (w.alloc o) ∧ Ranged mk (w.alloc o) w.heap.size b l (l.map (·.1)) []:=by
 have hlt:=h.lt
 obtain ⟨es,clock,hb,hl,hn,hbn,hcl⟩:=h
 refine ⟨_,run_range_map w t kt et b es clock ht hb,?_⟩
 obtain ⟨f,hf⟩:=e2l (l.map (·.1)) (es.toList.map (·.born)) hn (by have:=congrArg List.length hl; simpa using this.symm)
 have hmem:∀ a ∈ l.map (·.1),∃ e ∈ es.toList,e.born = f a:=by
  intro a ha
  have:f a ∈ es.toList.map (·.born):=by rw [hf]; exact List.mem_map_of_mem ha
  obtain ⟨e,he,h⟩:=List.mem_map.1 this
  exact ⟨e,he,h⟩
 refine ⟨es,clock,#[],f,by rw [heap_alloc_old w _ hlt]; exact hb,heap_alloc_new w _,hl,hf,hn,?_,?_,rfl,fun a ha=>ha,by simp⟩
 ·intro a ha c hc hac
  rw [hf] at hbn
  obtain ⟨i,hi⟩:=List.getElem?_of_mem ha
  obtain ⟨j,hj⟩:=List.getElem?_of_mem hc
  have h1:((l.map (·.1)).map f)[i]? = some (f a):=by rw [List.getElem?_map,hi]; rfl
  have h2:((l.map (·.1)).map f)[j]? = some (f a):=by rw [List.getElem?_map,hj,hac]; rfl
  have hij:=(List.getElem?_inj (gS h1).1 hbn).1 (h1.trans h2.symm)
  subst hij
  rw [hi] at hj
  exact oI hj
 ·intro a ha
  obtain ⟨e,he,hef⟩:=hmem a ha
  rw [← hef]
  exact hcl e he
theorem e2m (n:Nat) (hn:0 < n):∃ j w1,(choose (.mapNext n)).run P w = .ok j w1 ∧ j < n ∧ w1.heap = w.heap ∧ w.grownBy w1 none:=by
 by_cases hf:n ≤ 1
 ·exact ⟨0,w,by simp [choose,Sem.run,Question.forced,hf],by omega,rfl,⟨rfl,rfl,rfl,rL,fun _ _ _=>rfl⟩⟩
 ·have h:∃ m,(choose (.mapNext n)).run P w = .ok (m % n) w.drew:=by
   simp only [choose,Sem.run,Question.forced,dE,hf,if_false,Question.cut]
   exact ⟨_,rfl⟩
  obtain ⟨m,h⟩:=h
  exact ⟨_,w.drew,h,Nat.mod_lt _ hn,rfl,⟨rfl,rfl,rfl,rL,fun _ _ _=>rfl⟩⟩
omit [DecidableEq κ] in
theorem d0z {ty:TypeId} {it b:Nat} {l:List (κ × Value)} {ks done:List κ} (h:Ranged mk w it b l ks done) :
  ((∀ x ∈ l,x.1 ∈ done) ∧ (Instr.next (.pointer (some ⟨it,0,none⟩)) false ty).run P w = .ok (.tuple #[.bool false]) w) ∨
  ∃ x ∈ l,x.1 ∉ done ∧ ∃ w',(Instr.next (.pointer (some ⟨it,0,none⟩)) false ty).run P w = .ok (.tuple #[.bool true,mk x.1,x.2]) w' ∧ Ranged mk w' it b l ks (x.1 :: done) ∧ w.grownBy w' (some it) ∧ w'.heap.size = w.heap.size:=by
 have hbi:=h.lt.2.2
 obtain ⟨es,clock,seen,f,h1,h2,h3,h4,h5,h6,h7,h8,h9,h10⟩:=h
 have hborn:∀ e ∈ es.toList,e.born < clock:=by
  intro e he
  have:e.born ∈ es.toList.map (·.born):=List.mem_map_of_mem he
  rw [h4] at this
  obtain ⟨a,ha,hb⟩:=List.mem_map.1 this
  rw [← hb]
  exact h7 a (h9 a ha)
 have hat:∀ (i:Nat) (x:κ × Value),l[i]? = some x → ∃ e:MapEntry,es.toList[i]? = some e ∧ e.key = mk x.1 ∧ e.val = x.2 ∧ e.born = f x.1:=by
  intro i x hi
  have q1:=congrArg (fun l=>l[i]?) h3
  have q2:=congrArg (fun l=>l[i]?) h4
  simp only [List.getElem?_map,hi,Option.map_some,Option.map_eq_some_iff] at q1 q2
  obtain ⟨e,he,heq⟩:=q1
  obtain ⟨e',he',heq'⟩:=q2
  rw [he] at he'; cases he'
  simp only [Prod.mk.injEq] at heq
  exact ⟨e,he,heq.1,heq.2,heq'⟩
 have hseen:∀ a ∈ ks,(seen.contains (f a) = true ↔ a ∈ done):=by
  intro a ha
  rw [Array.contains_iff_mem,← Array.mem_toList_iff,h8,List.mem_map]
  constructor
  ·rintro ⟨c,hc,e⟩
   rw [List.mem_reverse] at hc
   exact (h6 c (h10 c hc) a ha e) ▸ hc
  ·intro hd
   exact ⟨a,List.mem_reverse.2 hd,rfl⟩
 have key:=next_test_false seen es clock clock hborn (rL)
 simp only [Instr.next,getObj,Sem.run_bind,Sem.run,h1,h2,Result.andThen,key,Bool.false_eq_true,if_false]
 have e1:(es.filter (fun e=>!seen.contains e.born)).filter (fun x=>decide (x.born < clock)) = es.filter (fun e=>!seen.contains e.born):=Array.filter_eq_self.2 (fun x hx=>by
  have:=hborn x (by have:=(Array.mem_filter.1 hx).1; simpa using this)
  simpa using this)
 have e2:(es.filter (fun e=>!seen.contains e.born)).filter (fun x=>decide (x.born ≥ clock)) = #[]:=by
  rw [Array.filter_eq_empty_iff]
  intro x hx
  have:=hborn x (by have:=(Array.mem_filter.1 hx).1; simpa using this)
  simp
  omega
 simp only [e1,e2,Array.append_empty]
 by_cases h0:(es.filter (fun e=>!seen.contains e.born)).size = 0
 ·left
  have hL:es.filter (fun e=>!seen.contains e.born) = #[]:=Array.eq_empty_of_size_eq_zero h0
  constructor
  ·intro x hx
   obtain ⟨i,hi⟩:=List.getElem?_of_mem hx
   obtain ⟨e,he,q1,q2,q3⟩:=hat i x hi
   rw [Array.filter_eq_empty_iff] at hL
   have:=hL e (by have:=List.mem_of_getElem? he; simpa using this)
   rw [q3] at this
   rw [← hseen x.1 (h9 _ (List.mem_map_of_mem hx))]
   simpa using this
  ·rw [hL]
   simp [choose,Sem.run,Question.forced]
 ·right
  obtain ⟨L,hL⟩:∃ L,L = es.filter (fun e=>!seen.contains e.born):=⟨_,rfl⟩
  rw [← hL] at h0 ⊢
  have hne:L.isEmpty = false:=by simp [Array.isEmpty,h0]
  simp only [hne,Bool.false_eq_true,if_false,Array.empty_append,Array.size_map]
  obtain ⟨j,w1,hr,hj,hh,hg⟩:=e2m (P:=P) (w:=w) L.size (by omega)
  have hmem:L[j] ∈ L:=Array.getElem_mem hj
  obtain ⟨hme,hms⟩:L[j] ∈ es ∧ (!seen.contains L[j].born) = true:=by
   have hmem:L[j] ∈ es.filter (fun e=>!seen.contains e.born):=hL ▸ hmem
   exact Array.mem_filter.1 hmem
  rw [← Array.mem_toList_iff] at hme
  obtain ⟨i,hi⟩:=List.getElem?_of_mem hme
  have hil:i < l.length:=by
   have q:=congrArg List.length h3
   have:=(gS hi).1
   simp at q this
   omega
  obtain ⟨e,he,q1,q2,q3⟩:=hat i l[i] (gE hil)
  rw [hi] at he
  have he:=oI he
  generalize hLj:L[j] = ej at *
  subst he
  have hxl:l[i] ∈ l:=List.getElem_mem hil
  have hnd:l[i].1 ∉ done:=by
   rw [← hseen l[i].1 (h9 _ (List.mem_map_of_mem hxl)),← q3]
   simpa using hms
  have h2':w1.heap[it]? = some (.mapIter (some b) clock seen clock):=by rw [hh]; exact h2
  have hit:it < w1.heap.size:=(Array.getElem?_eq_some_iff.1 h2').1
  refine ⟨l[i],hxl,hnd,{ w1 with heap:=w1.heap.setIfInBounds it (.mapIter (some b) clock (seen.push ej.born) clock) },?_,?_,?_,?_⟩
  ·simp only [hr,Array.getElem?_map,Array.getElem?_eq_getElem hj,Option.map_some,Sem.run_bind,Result.andThen,hLj]
   simp only [setObj,Sem.run,h2',Result.andThen]
   rw [q1,q2]
   rfl
  ·refine ⟨es,clock,seen.push ej.born,f,?_,?_,h3,h4,h5,h6,h7,?_,h9,?_⟩
   ·show (w1.heap.setIfInBounds it _)[b]? = _
    rw [Array.getElem?_setIfInBounds_ne (Ne.symm hbi),hh]
    exact h1
   ·show (w1.heap.setIfInBounds it _)[it]? = _
    simp [hit]
   ·simp [h8,q3]
   ·intro a ha
    rcases List.mem_cons.1 ha with rfl | ha
    ·exact h9 _ (List.mem_map_of_mem hxl)
    ·exact h10 a ha
  ·refine ⟨hg.os,hg.tape,hg.output,by simp [hh],fun k hk hr=>?_⟩
   show (w1.heap.setIfInBounds it _)[k]? = _
   rw [Array.getElem?_setIfInBounds_ne (fun e=>hr (by rw [e])),hh]
  ·simp [hh]
omit [DecidableEq κ] in
theorem c4y {it b:Nat} {l:List (κ × Value)} {ks done:List κ} {x:κ × Value} (h:Ranged mk w it b l ks (x.1 :: done)) (hx:x ∈ l) :
  (Instr.entry (.pointer (some ⟨it,0,none⟩))).run P w = .ok (.tuple #[mk x.1,x.2]) w:=by
 obtain ⟨es,clock,seen,f,h1,h2,h3,h4,h5,h6,h7,h8,h9,h10⟩:=h
 obtain ⟨i,hi⟩:=List.getElem?_of_mem hx
 have q1:=congrArg (fun l=>l[i]?) h3
 have q2:=congrArg (fun l=>l[i]?) h4
 simp only [List.getElem?_map,hi,Option.map_some,Option.map_eq_some_iff] at q1 q2
 obtain ⟨e,he,heq⟩:=q1
 obtain ⟨e',he',heq'⟩:=q2
 rw [he] at he'; cases he'
 simp only [Prod.mk.injEq] at heq
 have hbk:seen.back? = some (f x.1):=by
  rw [← Array.getLast?_toList,h8]
  simp
 have hnd:(es.toList.map (·.born)).Nodup:=by
  rw [h4]
  exact c4w f _ (fun a ha c hc=>h6 a (h9 a ha) c (h9 c hc)) h5
 have hf:es.find? (·.born == f x.1) = some e:=by
  rw [← Array.find?_toList,← heq']
  exact find_born e es.toList hnd (List.mem_of_getElem? he)
 simp only [Instr.entry,getObj,Sem.run_bind,Sem.run,h1,h2,hbk,hf,Result.andThen,bne_self_eq_false,Bool.false_eq_true,if_false]
 rw [heq.1,heq.2]
 rfl
theorem c8i {t kt et:TypeId} {it b:Nat} {l:List (κ × Value)} {ks done:List κ} (K:KeyOK P kt mk) (ht:P.underlying t = some (.map kt et)) (h:Ranged mk w it b l ks done) (k:κ) (v:Value) (hk:k ∈ l.map (·.1)) :
  ∃ w',(Instr.mapUpdate t (.map (some b)) (mk k) v).run P w = .ok () w' ∧ Ranged mk w' it b (c6m l k v) ks done ∧ w.grownBy w' (some b) ∧ w'.heap.size = w.heap.size:=by
 have hbi:=h.lt.2.2
 obtain ⟨es,clock,seen,f,hb,h2,hl,h4,hn,h6,h7,h8,h9,h10⟩:=h
 unfold Instr.mapUpdate
 simp only [Sem.run_bind,run_underlying ht,Result.andThen_ok,MapKept.run_getObj_map hb,K.check]
 rcases b3d (w:=w) K hl k with ⟨i,x,e,g1,g2,g3,g4,g5,g6,g7⟩ | ⟨g1,g2⟩
 ·rw [g1]
  subst g3
  have hks:(Instr.keyThatStays (((es[i]?).map (·.key)).getD (mk x.1)) (mk x.1)).run P w = .ok (mk x.1) w:=by
   unfold Instr.keyThatStays
   rw [g5]
   simp only [Option.map_some,Option.getD_some,g6,K.same,if_true,Sem.run_pure]
  simp only [Result.andThen_ok,Sem.run_bind,hks,MapKept.run_setObj_map _ hb]
  obtain ⟨m1,m2⟩:=b9y hl hn g2 v
  have hkp:(c6m l x.1 v).map (·.1) = l.map (·.1):=by rw [d0x,g4]; simp
  refine ⟨_,rfl,⟨_,clock,seen,f,(MapKept.heap_set hb).1,?_,?_,?_,?_,h6,h7,h8,?_,h10⟩,a7l _ _ _,by simp⟩
  ·show (w.heap.setIfInBounds b _)[it]? = _
   rw [Array.getElem?_setIfInBounds_ne hbi]
   exact h2
  ·rw [m1]
   unfold c6m
   rw [g4]
   simp
  ·rw [m2,hkp]; exact h4
  ·rw [hkp]; exact hn
  ·rw [hkp]; exact h9
 ·have:=(a5c l k).2 hk
  rw [g2] at this; cases this
theorem c8j {t kt et ty:TypeId} {it b:Nat} {l:List (κ × Value)} {ks done:List κ} (K:KeyOK P kt mk) (ht:P.underlying t = some (.map kt et)) (h:Ranged mk w it b l ks done) (k:κ) (hk:k ∈ l.map (·.1)) :
  ∃ w',(Builtin.delete_ #[t,kt] ty #[.map (some b),mk k]).run P w = .ok (.tuple #[]) w' ∧ Ranged mk w' it b (f1a l k) ks done ∧ w.grownBy w' (some b) ∧ w'.heap.size = w.heap.size:=by
 have hbi:=h.lt.2.2
 obtain ⟨es,clock,seen,f,hb,h2,hl,h4,hn,h6,h7,h8,h9,h10⟩:=h
 unfold Builtin.delete_
 simp only [List.getElem?_toArray,List.getElem?_cons_zero,List.getElem?_cons_succ,Sem.run_bind,run_underlying ht,Result.andThen_ok,MapKept.run_getObj_map hb,K.check]
 rcases b3d (w:=w) K hl k with ⟨i,x,e,g1,g2,g3,g4,g5,g6,g7⟩ | ⟨g1,g2⟩
 ·rw [g1]
  simp only [Result.andThen_ok,Sem.run_bind,MapKept.run_setObj_map _ hb,Sem.run_pure]
  have hi:i < es.size:=(Array.getElem?_eq_some_iff.1 g5).1
  have hes:(es.eraseIdxIfInBounds i).toList = es.toList.eraseIdx i:=by simp [Array.eraseIdxIfInBounds,hi,Array.toList_eraseIdx]
  have hdl:=e2k l k i hn g2 g3
  refine ⟨_,rfl,⟨_,clock,seen,f,(MapKept.heap_set hb).1,?_,?_,?_,e2j l k hn,h6,h7,h8,?_,h10⟩,a7l _ _ _,by simp⟩
  ·show (w.heap.setIfInBounds b _)[it]? = _
   rw [Array.getElem?_setIfInBounds_ne hbi]
   exact h2
  ·rw [hdl,hes,b0u,hl,← b0u]
  ·rw [hes,b0u,h4,hdl,b0u,b0u]
  ·intro a ha
   rw [d0y] at ha
   exact h9 a (List.mem_filter.1 ha).1
 ·have:=(a5c l k).2 hk
  rw [g2] at this; cases this
end
end Go.Sh
namespace Go.Sh
open Go Go.RowKit
section
variable {P:Program} {K:VK} {w:World}
@[go_sem] theorem g6d (t T:TypeId) (x i:Value):oM P (.lookup t (.tmp 0) (.tmp 1) false) T [x,i] K w = rM ((Instr.lookup t x i false).run P w) K:=a6u rfl
@[go_sem] theorem f7w (t T:TypeId) (m k x:Value):oM P (.mapUpdate t (.tmp 0) (.tmp 1) (.tmp 2)) T [m,k,x] K w = uM ((Instr.mapUpdate t m k x).run P w) K:=by
 rw [c8m (S:=Instr.mapUpdate t m k x) rfl]
@[go_sem] theorem g0l (t T:TypeId) (m k:Value):oM P (.mapEntry t (.tmp 0) (.tmp 1)) T [m,k] K w = rM ((Instr.mapEntry t m k).run P w) K:=a6u rfl
@[go_sem] theorem f1d (t T:TypeId) (m s x:Value):oM P (.entryStore t (.tmp 0) (.tmp 1) (.tmp 2)) T [m,s,x] K w = uM ((Instr.entryStore t m s x).run P w) K:=by
 rw [c8m (S:=Instr.entryStore t m s x) rfl]
@[go_sem] theorem g1v (t T:TypeId):oM P (.makeMap t none) T [] K w = K (.map (some w.heap.size)) (w.alloc (.map #[] 0)):=by
 rw [a6u (S:=Instr.makeMap t none) rfl,run_makeMap]
 rfl
@[go_sem] theorem g7y (t T:TypeId) (x:Value):oM P (.range t (.tmp 0)) T [x] K w = rM ((Instr.range t x).run P w) K:=a6u rfl
@[go_sem] theorem g8x (T:TypeId) (s:Bool) (x:Value):oM P (.next (.tmp 0) s) T [x] K w = rM ((Instr.next x s T).run P w) K:=a6u rfl
@[go_sem] theorem g7z (T:TypeId) (x:Value):oM P (.entry (.tmp 0)) T [x] K w = rM ((Instr.entry x).run P w) K:=a6u rfl
@[go_sem] theorem g6e (T:TypeId) (ts:Array TypeId) (x y:Value):oM P (.call { callee:=.builtin .delete,args:=#[.tmp 0,.tmp 1],argTypes:=ts }) T [x,y] K w = rM ((Builtin.delete_ ts T #[x,y]).run P w) K:=
 a6u (by simp [xop,execOp,a1e,evE,resolve,invoke,builtin])
@[go_sem] theorem f1e (T:TypeId) (ts:Array TypeId) (x:Value):oM P (.call { callee:=.builtin .clear,args:=#[.tmp 0],argTypes:=ts }) T [x] K w = rM ((Builtin.clear_ ts T #[x]).run P w) K:=
 a6u (by simp [xop,execOp,a1e,evE,resolve,invoke,builtin])
@[go_sem] theorem g0m (T:TypeId) (ts:Array TypeId) (x y:Value):oM P (.call { callee:=.builtin .copy,args:=#[.tmp 0,.tmp 1],argTypes:=ts }) T [x,y] K w = rM ((Builtin.copy_ ts T #[x,y]).run P w) K:=
 a6u (by simp [xop,execOp,a1e,evE,resolve,invoke,builtin])
theorem e2n (T:TypeId) (ts:Array TypeId) (x y:Value):oM P (.call { callee:=.builtin .append,args:=#[.tmp 0,.tmp 1],argTypes:=ts }) T [x,y] K w = rM ((Builtin.append_ ts T #[x,y]).run P w) K:=
 a6u (by simp [xop,execOp,a1e,evE,resolve,invoke,builtin])
@[go_sem] theorem b4v (t T:TypeId) (x y:Value):oM P (.makeSlice t (.tmp 0) (.tmp 1)) T [x,y] K w = rM ((Instr.makeSlice t x y).run P w) K:=a6u rfl
@[go_sem] theorem e5e (T t:Nat) (n:Nat):oM P (.buildSlice t n #[]) T [] K w = rM ((Instr.buildSlice t n #[]).run P w) K:=a6u (by simp [xop,execOp,a1e,evE])
theorem c4z (t T:TypeId) (x i:Value):oM P (.slice t (.tmp 0) (some (.tmp 1)) none none) T [x,i] K w = rM ((Instr.sliceAt t x (some i) none none).run P w) K:=a6u rfl
theorem d3b (t T:TypeId) (x i:Value):oM P (.slice t (.tmp 0) none (some (.tmp 1)) none) T [x,i] K w = rM ((Instr.sliceAt t x none (some i) none).run P w) K:=a6u rfl
theorem f1f (n:Nat) (hn:n < 60) (x:Int):IntKind.i64.wrap ((BitVec.ofInt 64 x &&& BitVec.ofInt 64 (2 ^ n - 1)).toNat:Int) = x % 2 ^ n:=by
 have hp:(0:Int) < 2 ^ n:=Int.pow_pos (by omega)
 have hp':(2:Nat) ^ n ≤ 2 ^ 59:=Nat.pow_le_pow_right (by omega) (by omega)
 have hpc:((2:Int) ^ n) = ((2 ^ n:Nat):Int):=by simp
 have hb:(BitVec.ofInt 64 (2 ^ n - 1)).toNat = 2 ^ n - 1:=by
  rw [BitVec.toNat_ofInt,hpc]
  omega
 have ha:(BitVec.ofInt 64 x).toNat = (x % 2 ^ 64).toNat:=by rw [BitVec.toNat_ofInt]; rfl
 rw [BitVec.toNat_and,hb,ha,Nat.and_two_pow_sub_one_eq_mod]
 have hdv:((2:Int) ^ n) ∣ 2 ^ 64:=⟨2 ^ (64 - n),by rw [← Int.pow_add]; congr 1; omega⟩
 have h1:(((x % 2 ^ 64).toNat % 2 ^ n:Nat):Int) = x % 2 ^ n:=by
  rw [Int.natCast_emod,Int.toNat_of_nonneg (Int.emod_nonneg _ (by omega)),← hpc,Int.emod_emod_of_dvd _ hdv]
 rw [h1]
 have h2:=Int.emod_nonneg x (b:=2 ^ n) (by omega)
 have h3:=Int.emod_lt_of_pos x hp
 exact a0u _ (by omega) (by omega)
theorem g6f (n:Nat) (hn:n < 60) (t t' T:TypeId) (x m:Int) (hm:m = 2 ^ n - 1):oM P (.binOp .and t (.tmp 0) (.tmp 1) t') T [.int .i64 x,.int .i64 m] K w = K (.int .i64 (x % 2 ^ n)) w:=by
 subst hm
 rw [← f1f n hn x]
 exact a3g rfl
@[go_sem] theorem g8y (t t' T:TypeId) (x:Int):oM P (.binOp .and t (.tmp 0) (.tmp 1) t') T [.int .i64 x,.int .i64 1] K w = K (.int .i64 (x % 2)) w:=g6f 1 (by omega) t t' T x 1 rfl
end
end Go.Sh
namespace Go.Sh
open Go Go.RowKit
section
variable {w:World} {B:Nat} {e:TypeId} {sz:Nat} {v:Value} {n:Nat} {xs:List Value}
theorem a3u (h:w.ownsRow B e sz v n xs) (hn:0 < n):∃ g cap cur,v = .slice (some ⟨g,0,none⟩) n cap ∧ g < w.heap.size ∧ B ≤ g ∧ w.heap[g]? = some (.cells cur e (0,0)) ∧ cur.size = cap * sz ∧ n ≤ cap ∧ ∀ (k:Nat) (x:Value),xs[k]? = some x → w.cell? ⟨g,k,none⟩ = some x:=by
 rcases h.2 with ⟨_,h0⟩ | ⟨g,cap,cur,hv,hb,hg,hc,hm,hs,ht⟩
 ·omega
 ·refine ⟨g,cap,cur,hv,(Array.getElem?_eq_some_iff.1 hg).1,hb,hg,hs,hc,fun k x hk=>?_⟩
  have hlt:k < n * sz:=by have:=(gS hk).1; rw [h.1] at this; exact this
  rw [← ht,List.getElem?_take_of_lt hlt] at hk
  unfold World.cell?
  rw [hg]
  simpa using hk
theorem a0x (h:w.ownsRow B e sz v n xs) {i:Nat} (hi:v.ownBlock = some i):i < w.heap.size ∧ B ≤ i ∧ ∃ cur,w.heap[i]? = some (.cells cur e (0,0)):=by
 rcases h.2 with ⟨rfl,h0⟩ | ⟨g,cap,cur,rfl,hb,hg,hc,hm,hs,ht⟩
 ·cases hi
 ·cases hi
  exact ⟨(Array.getElem?_eq_some_iff.1 hg).1,hb,cur,hg⟩
theorem a1j {w':World} (h:w.ownsRow B e sz v n xs) (hk:∀ i,v.ownBlock = some i → w'.heap[i]? = w.heap[i]?):w'.ownsRow B e sz v n xs:=by
 refine ⟨h.1,?_⟩
 rcases h.2 with h0 | ⟨g,cap,cur,rfl,hb,hg,hr⟩
 ·exact .inl h0
 ·exact .inr ⟨g,cap,cur,rfl,hb,by rw [hk g rfl]; exact hg,hr⟩
theorem a2a (h:w.ownsRow B e sz v n xs):∃ a c,v = .slice a n c:=by
 rcases h.2 with ⟨rfl,rfl⟩ | ⟨g,cap,cur,rfl,_⟩
 ·exact ⟨none,0,rfl⟩
 ·exact ⟨_,cap,rfl⟩
end
def a3a {α:Type} (mk:α → List Value) (l:List α):List Value:=l.flatMap mk
section
variable {α:Type} {mk:α → List Value} {sz:Nat}
theorem b0x (x:α) (l:List α):a3a mk (x :: l) = mk x ++ a3a mk l:=rfl
theorem b7g (l m:List α):a3a mk (l ++ m) = a3a mk l ++ a3a mk m:=by simp [a3a]
theorem flat_snoc (l:List α) (x:α):a3a mk (l ++ [x]) = a3a mk l ++ mk x:=by simp [a3a]
theorem a9v (hm:∀ x,(mk x).length = sz) (l:List α):(a3a mk l).length = l.length * sz:=by
 induction l with
 | nil=>simp [a3a]
 | cons x l ih=>rw [b0x,List.length_append,hm,ih,List.length_cons,Nat.succ_mul,Nat.add_comm]
theorem b2b (hm:∀ x,(mk x).length = sz) (l:List α) (i j:Nat) {x:α} (hi:l[i]? = some x) (hj:j < sz):(a3a mk l)[i * sz + j]? = (mk x)[j]?:=by
 induction l generalizing i with
 | nil=>simp at hi
 | cons y l ih=>
  rw [b0x]
  cases i with
  | zero=>
   simp only [List.getElem?_cons_zero,Option.some.injEq] at hi
   subst hi
   rw [Nat.zero_mul,Nat.zero_add,List.getElem?_append_left (by rw [hm]; exact hj)]
  | succ i=>
   simp only [List.getElem?_cons_succ] at hi
   rw [Nat.succ_mul,List.getElem?_append_right (by rw [hm]; omega),hm,← ih i hi]
   congr 1
   omega
end
structure Fr (S:Nat → Prop) (w w':World):Prop where
 os:w'.os = w.os
 tape:w'.tape = w.tape
 output:w'.output = w.output
 size:w.heap.size ≤ w'.heap.size
 block:∀ i,i < w.heap.size → ¬ S i → w'.heap[i]? = w.heap[i]?
section
variable {S S':Nat → Prop} {w w1 w2:World}
theorem Fr.refl (S:Nat → Prop) (w:World):Fr S w w:=⟨rfl,rfl,rfl,rL,fun _ _ _=>rfl⟩
theorem Fr.trans (h:Fr S w w1) (k:Fr S' w1 w2) (hs:∀ i,S' i → S i ∨ w.heap.size ≤ i):Fr S w w2:=
 ⟨k.os.trans h.os,k.tape.trans h.tape,k.output.trans h.output,Nat.le_trans h.size k.size,fun i hi hn=>(k.block i (lL hi h.size) (fun hx=>(hs i hx).elim hn (by omega))).trans (h.block i hi hn)⟩
theorem Fr.by (h:Fr S w w1) {b:Option Nat} (k:w1.grownBy w2 b) (hs:∀ i,b = some i → S i ∨ w.heap.size ≤ i):Fr S w w2:=
 ⟨k.os.trans h.os,k.tape.trans h.tape,k.output.trans h.output,Nat.le_trans h.size k.size,fun i hi hn=>(k.block i (lL hi h.size) (fun hx=>(hs i hx.symm).elim hn (by omega))).trans (h.block i hi hn)⟩
theorem Fr.none_by (h:Fr S w w1) (k:w1.grownBy w2 none):Fr S w w2:=h.by k (fun _ h=>by cases h)
theorem Fr.alloc (h:Fr S w w1) (o:Obj):Fr S w (w1.alloc o):=h.none_by (World.grownBy_alloc w1 o none)
theorem Fr.drew (h:Fr S w w1):Fr S w { w1 with drawn:=w1.drawn + 1 }:=⟨h.os,h.tape,h.output,h.size,h.block⟩
theorem Fr.mono (h:Fr S w w1) (hs:∀ i,i < w.heap.size → S i → S' i):Fr S' w w1:=⟨h.os,h.tape,h.output,h.size,fun i hi hn=>h.block i hi (fun hx=>hn (hs i hi hx))⟩
theorem a0q (w:World) (a:Addr) (u:Value) (i:Nat) (h:i ≠ a.block):(w.setCell a u).heap[i]? = w.heap[i]?:=by
 simp only [World.setCell,Array.getElem?_modify]
 rw [if_neg (Ne.symm h)]
theorem b3e (w:World) (a:Addr) (u:Value):w.grownBy (w.setCell a u) (some a.block):=
 ⟨rfl,rfl,rfl,by simp [World.setCell],fun i _ hi=>a0q w a u i (fun e=>hi (by rw [e]))⟩
theorem Fr.set (h:Fr S w w1) (a:Addr) (u:Value) (hs:S a.block ∨ w.heap.size ≤ a.block):Fr S w (w1.setCell a u):=h.by (b3e w1 a u) (fun i e=>by cases e; exact hs)
end
theorem a0b {w:World} {b:Nat} {cs:Array Value} {T:TypeId} {f:Nat × Nat} (h:w.heap[b]? = some (.cells cs T f)) (i:Nat):w.cell? ⟨b,i,none⟩ = cs[i]?:=by
 simp [World.cell?,h]
theorem a1d {w:World} {b:Nat} {cs:Array Value} {T:TypeId} (h:w.heap[b]? = some (.cells cs T (0,0))) (i:Nat):w.frozen? ⟨b,i,none⟩ = false:=by
 simp [World.frozen?,h]
theorem a3r {w:World} {b i:Nat} {cs:Array Value} {T:TypeId} {f:Nat × Nat} (h:w.heap[b]? = some (.cells cs T f)) (u:Value):(w.setCell ⟨b,i,none⟩ u).heap[b]? = some (.cells (cs.setIfInBounds i u) T f):=by
 simp [World.setCell,Array.getElem?_modify,h]
end Go.Sh
namespace Go.Sh
open Go Go.RowKit
section
variable {P:Program} {w:World} {K:VK}
theorem a8x {B C:Nat} {e:TypeId} {sz:Nat} {v:Value} {n:Nat} {xs:List Value} (h:w.ownsRow B e sz v n xs) (hc:C ≤ B):w.ownsRow C e sz v n xs:=
 ⟨h.1,h.2.imp id (fun ⟨g,cap,cur,a,b,r⟩=>⟨g,cap,cur,a,Nat.le_trans hc b,r⟩)⟩
theorem b7h (t ty e:TypeId) (i:TypeInfo) (z:Value) (size bytes:Nat) (ht:P.underlying t = some (.slice e)) (hi:P.info? e = some i) (hz:i.zero = some z)
  (hsize:i.size = size) (hby:i.bytes = bytes) (hzs:z.cells.size = size) (hsz:0 < size)
  (v:Value) (n:Nat) (xs:List Value) (hown:w.ownsRow 0 e size v n xs)
  (a:Addr) (m c:Nat) (news:List Value) (hl:news.length = m * size) (hnews:∀ j u,news[j]? = some u → w.cell? (a.add j) = some u) (h1:∀ u ∈ news,u.oneCell' = true)
  (h63:n + m ≤ maxLen) (hbytes:(n + m) * bytes ≤ 140737488355328) :
  ∃ v' w',(Builtin.append_ #[t,t] ty #[v,.slice (some a) m c]).run P w = .ok v' w' ∧ w'.ownsRow 0 e size v' (n + m) (xs ++ news) ∧ w.grownBy w' v.ownBlock ∧
   (∀ i,v'.ownBlock = some i → v.ownBlock = some i ∨ w.heap.size ≤ i):=by
 rcases hown.2 with ⟨hv,hn⟩ | ⟨g,cap,cur,hv,hb,hg,hnc,hm,hcs,htk⟩
 ·have h':w.ownsRow w.heap.size e size v n xs:=⟨hown.1,.inl ⟨hv,hn⟩⟩
  obtain ⟨v',w',hr,ho,hgr,_⟩:=run_append_own (P:=P) (w:=w) w.heap.size t ty e i z size bytes ht hi hz hsize hby hzs hsz v n xs h' a m c news hl hnews h1 h63 hbytes (rL)
  exact ⟨v',w',hr,a8x ho (Nat.zero_le _),hgr,fun j hj=>.inr (a0x ho hj).2.1⟩
 ·by_cases hroom:n + m ≤ cap
  ·subst hv
   obtain ⟨w',hr,ho,hgr⟩:=run_append_fits (P:=P) (w:=w) 0 t ty e i size ht hi hsize g n cap xs hown a m c news hl hnews h1 hroom
   exact ⟨_,w',hr,ho,hgr,fun j hj=>.inl hj⟩
  ·obtain ⟨v',w',hr,ho,hgr,_⟩:=run_append_own (P:=P) (w:=w) 0 t ty e i z size bytes ht hi hz hsize hby hzs hsz v n xs hown a m c news hl hnews h1 h63 hbytes (Nat.zero_le _)
   subst hsize
   subst hv
   have holds:∀ j u,xs[j]? = some u → w.cell? ((⟨g,0,none⟩:Addr).add j) = some u:=hown.cells (g:=g) rfl
   have hr2:=run_append_grow (P:=P) (w:=w) t ty e i z ht hi hz ⟨g,0,none⟩ n cap xs hown.1 holds a m c news hl hnews (by omega) (by simp only [maxLen] at h63; omega) (growslice_fits (by omega) (by rw [hby]; exact hbytes))
   rw [hr] at hr2
   cases hr2
   exact ⟨_,_,hr,ho,hgr,fun j hj=>by cases hj; exact .inr (rL)⟩
theorem a8y (t T e:TypeId) (i:TypeInfo) (z:Value) (size bytes:Nat) (ht:P.underlying t = some (.slice e)) (hi:P.info? e = some i) (hz:i.zero = some z)
  (hsize:i.size = size) (hby:i.bytes = bytes) (hzs:z.cells.size = size) (hsz:0 < size)
  {v:Value} {n:Nat} {xs:List Value} (hown:w.ownsRow 0 e size v n xs)
  {ad:Option Addr} {m c:Nat} (news:List Value) (hl:news.length = m * size) (had:ad = none → m = 0 ∧ c = 0) (hnews:∀ a,ad = some a → ∀ j u,news[j]? = some u → w.cell? (a.add j) = some u) (h1:∀ u ∈ news,u.oneCell' = true)
  (h63:n + m ≤ maxLen) (hbytes:(n + m) * bytes ≤ 140737488355328)
  (k:∀ v' w',w'.ownsRow 0 e size v' (n + m) (xs ++ news) → w.grownBy w' v.ownBlock → (∀ i,v'.ownBlock = some i → v.ownBlock = some i ∨ w.heap.size ≤ i) → K v' w') :
  oM P (.call { callee:=.builtin .append,args:=#[.tmp 0,.tmp 1],argTypes:=#[t,t] }) T [v,.slice ad m c] K w:=by
 rw [e2n]
 cases ad with
 | some a=>
  obtain ⟨v',w',hr,h2,h3,h4⟩:=b7h (P:=P) (w:=w) t T e i z size bytes ht hi hz hsize hby hzs hsz v n xs hown a m c news hl (hnews a rfl) h1 h63 hbytes
  rw [hr]
  exact k v' w' h2 h3 h4
 | none=>
  obtain ⟨rfl,rfl⟩:=had rfl
  have hn:news = []:=List.eq_nil_of_length_eq_zero (by simpa using hl)
  subst hn
  rw [run_append_owned_none (P:=P) (w:=w) 0 t T e i size ht hi v n xs hown]
  refine k v w ?_ ⟨rfl,rfl,rfl,rL,fun _ _ _=>rfl⟩ (fun i h=>.inl h)
  simpa using hown
end
def RowR {α:Type} (mk:α → List Value) (sz:Nat) (w:World) (v:Value) (l:List α):Prop:=
 ∃ ad c,v = .slice ad l.length c ∧ (ad = none → l.length = 0 ∧ c = 0) ∧ (l = [] ∨ ∃ b o,ad = some ⟨b,o,none⟩ ∧ b < w.heap.size ∧ ∀ (k:Nat) (x:Value),(a3a mk l)[k]? = some x → w.cell? ⟨b,o + k,none⟩ = some x)
section
variable {α:Type} {mk:α → List Value} {sz:Nat} {w w':World} {v:Value} {l:List α}
theorem RowR.of_owns {B:Nat} {e:TypeId} (h:w.ownsRow B e sz v l.length (a3a mk l)):RowR mk sz w v l:=by
 rcases h.2 with ⟨rfl,h0⟩ | ⟨g,cap,cur,rfl,hb,hg,hn,hm,hcs,ht⟩
 ·exact ⟨none,0,by rw [h0],fun _=>⟨h0,rfl⟩,.inl (List.eq_nil_of_length_eq_zero h0)⟩
 ·refine ⟨_,cap,rfl,by simp,?_⟩
  by_cases h0:l = []
  ·exact .inl h0
  ·obtain ⟨g',cap',cur',hv,hlt,_,_,_,_,hc⟩:=a3u h (List.length_pos_iff.2 h0)
   cases hv
   exact .inr ⟨g,0,rfl,hlt,fun k x hk=>by rw [Nat.zero_add]; exact hc k x hk⟩
def Value.inBlock:Value → Option Nat
 | .slice (some a) _ _=>some a.block
 | _=>none
theorem RowR.keep (h:RowR mk sz w v l) (hs:w.heap.size ≤ w'.heap.size) (hk:∀ i,Value.inBlock v = some i → i < w.heap.size → w'.heap[i]? = w.heap[i]?):RowR mk sz w' v l:=by
 obtain ⟨ad,c,rfl,h0,h⟩:=h
 refine ⟨ad,c,rfl,h0,h.imp id ?_⟩
 rintro ⟨b,o,rfl,hlt,hc⟩
 refine ⟨b,o,rfl,lL hlt hs,fun k x hx=>?_⟩
 have:=hc k x hx
 unfold World.cell? at this ⊢
 rw [hk b rfl hlt]
 exact this
end
theorem a4n (b o k:Nat):(⟨b,o,none⟩:Addr).add k = ⟨b,o + k,none⟩:=by
 unfold Addr.add
 split
 ·rename_i h0; rw [h0]; simp
 ·rfl
theorem b5p {P:Program} {α:Type} {mk:α → List Value} {w:World} {K:VK} (t T e:TypeId) (i:TypeInfo) (z:Value) (size bytes:Nat) (ht:P.underlying t = some (.slice e)) (hi:P.info? e = some i) (hz:i.zero = some z)
  (hsize:i.size = size) (hby:i.bytes = bytes) (hzs:z.cells.size = size) (hsz:0 < size) (hm:∀ x,(mk x).length = size) (h1:∀ x,∀ u ∈ mk x,u.oneCell' = true)
  {v u:Value} {l:List α} (hr:RowR mk size w v l) (hu:w.ownsRow 0 e size u 0 []) {B:Nat} (hB:B ≤ w.heap.size) (hf:∀ i,u.ownBlock = some i → B ≤ i) (hll:l.length ≤ 4611686018427387904) (hb:l.length * bytes ≤ 140737488355328)
  (k:∀ v' w',w'.ownsRow 0 e size v' l.length (a3a mk l) → w.grownBy w' u.ownBlock → (∀ i,v'.ownBlock = some i → B ≤ i) → K v' w') :
  oM P (.call { callee:=.builtin .append,args:=#[.tmp 0,.tmp 1],argTypes:=#[t,t] }) T [u,v] K w:=by
 obtain ⟨ad,c,rfl,h0,hc⟩:=hr
 refine a8y t T e i z size bytes ht hi hz hsize hby hzs hsz hu (a3a mk l) (a9v hm l) h0 ?_ ?_ (by simp only [maxLen]; omega) (by rw [Nat.zero_add]; exact hb) ?_
 ·rintro a rfl j x hj
  rcases hc with rfl | ⟨b,o,hbo,hlt,hc⟩
  ·simp [a3a] at hj
  ·cases hbo
   rw [a4n]; exact hc j x hj
 ·intro x hx
  unfold a3a at hx
  obtain ⟨y,_,hy⟩:=List.mem_flatMap.1 hx
  exact h1 y x hy
 ·intro v' w' ho hg hv
  rw [Nat.zero_add] at ho
  exact k v' w' ho hg (fun i hi=>(hv i hi).elim (hf i) (Nat.le_trans hB))
end Go.Sh
namespace Go.Sh
open Go Go.RowKit
def e2a (w:World) (g:Nat) (e:TypeId) (l:List UInt8):Prop:=w.heap[g]? = some (.cells (Lib.byteCells l).toArray e (0,0))
theorem a0z (w:World) (o:Obj):(w.alloc o).heap.size = w.heap.size + 1:=by
 show (w.heap.push o).size = _
 simp
theorem a3k (w:World) (g:Nat) (cs:Array Value):w.grownBy (w.setRow g cs) (some g):=
 ⟨rfl,rfl,rfl,by simp [World.setRow],fun i _ hi=>setRow_other w g i cs (fun e=>hi (by rw [e]))⟩
section
variable {P:Program} {w:World} {K:VK}
theorem c4o {t T e:TypeId} {i:TypeInfo} (ht:P.underlying t = some (.slice e)) (hi:P.info? e = some i) (hz:i.zero = some (.int .u8 0)) (hs:i.size = 1) (hb:i.bytes = 1) (n:Nat) (hn:n ≤ 1099511627776)
  (k:e2a (w.alloc (.cells (Lib.byteCells (List.replicate n 0)).toArray e)) w.heap.size e (List.replicate n 0) → K (.slice (some ⟨w.heap.size,0,none⟩) n n) (w.alloc (.cells (Lib.byteCells (List.replicate n 0)).toArray e))) :
  oM P (.makeSlice t (.tmp 0) (.tmp 1)) T [.int .i64 n,.int .i64 n] K w:=by
 rw [b4v,run_make w t e i (.int .u8 0) ht hi hz .i64 .i64 n n (by omega) (Int.le_refl _) (by rw [hb]; omega) (by omega),hs]
 have e1:madeCells (Value.int .u8 0).cells ((n:Int).toNat * 1) = (Lib.byteCells (List.replicate n 0)).toArray:=by
  unfold madeCells Lib.byteCells
  apply Array.ext'
  simp only [Int.toNat_natCast,Nat.mul_one,Array.toList_map,Array.toList_range,List.map_replicate]
  apply List.ext_getElem
  ·simp
  ·intro j h1 h2
   simp [Value.cells,Nat.mod_one]
 rw [e1,Int.toNat_natCast]
 exact k (heap_alloc_new w _)
theorem b9v {t t' T e:TypeId} {g o n c:Nat} {l:List UInt8} (ht:P.underlying t = some (.slice e)) (hs:(P.info? e).map (·.size) = some 1) (hg:e2a w g e l) (s:List UInt8) (hn:s.length ≤ n) (hfit:o + s.length ≤ l.length)
  (k:∀ w',e2a w' g e (l.take o ++ s ++ l.drop (o + s.length)) → w.grownBy w' (some g) → K (.int .i64 s.length) w') :
  oM P (.call { callee:=.builtin .copy,args:=#[.tmp 0,.tmp 1],argTypes:=#[t,t'] }) T [.slice (some ⟨g,o,none⟩) n c,.string ⟨s.toArray⟩] K w:=by
 rw [g0m,Lib.run_copy_row_string w t t' T e g o n c ⟨s.toArray⟩ _ e ht hs hg hn (by simp [Lib.byteCells]; exact hfit)]
 refine k _ ?_ (a3k _ _ _)
 have:=setRow_heap w g _ ((Lib.byteCells l).toArray.toList.take o ++ Lib.byteCells (⟨s.toArray⟩:ByteArray).data.toList ++ (Lib.byteCells l).toArray.toList.drop (o + (⟨s.toArray⟩:ByteArray).size)).toArray e (0,0) hg
 unfold e2a
 rw [this]
 have e2:(⟨s.toArray⟩:ByteArray).size = s.length:=rfl
 simp [Lib.byteCells,List.map_take,List.map_drop,e2]
theorem f0w {t d T e:TypeId} {g n c:Nat} {l:List UInt8} (hs:P.underlying t = some (.slice e)) (he:P.underlying e = some (.int .u8)) (hd:P.underlying d = some .string) (hg:e2a w g e l) (hn:n = l.length) (k:K (.string ⟨l.toArray⟩) w) :
  oM P (.convert t d (.tmp 0)) T [.slice (some ⟨g,0,none⟩) n c] K w:=by
 subst hn
 have:=run_convert_bytes_back (P:=P) w t d e ⟨g,0,none⟩ c l hs he hd (fun j hj=>by
  rw [a4n,Nat.zero_add,a0b hg]
  simp [Lib.byteCells,hj])
 rw [a6u (S:=convert t d (.slice (some ⟨g,0,none⟩) l.length c)) rfl,this]
 exact k
theorem b4s {t T:TypeId} {g o n c:Nat} {sz:Nat} (ht:P.underlying t = some (.slice (P.elem t))) (hs:∀ w,(sizeOf (P.elem t)).run P w = .ok sz w) (i:Nat) (hi:i ≤ n) (hc:i < c) (k:K (.slice (some ⟨g,o + i * sz,none⟩) (n - i) (c - i)) w) :
  oM P (.slice t (.tmp 0) (some (.tmp 1)) none none) T [.slice (some ⟨g,o,none⟩) n c,.int .i64 i] K w:=by
 rw [c4z,run_sliceAt_slice w t _ _ _ _ ht,run_slice_l w t _ n c ht .i64 i (by omega) (by omega),hs]
 have:¬ c = i:=by omega
 simp only [Result.andThen_ok,sliced,Int.toNat_natCast,if_neg this,Option.map_some,a4n]
 exact k
theorem d2z {t T:TypeId} {a:Option Addr} {n c:Nat} {sz:Nat} (ht:P.underlying t = some (.slice (P.elem t))) (hs:∀ w,(sizeOf (P.elem t)).run P w = .ok sz w) (i:Nat) (hi:i ≤ c) (k:K (.slice a i c) w) :
  oM P (.slice t (.tmp 0) none (some (.tmp 1)) none) T [.slice a n c,.int .i64 i] K w:=by
 rw [d3b,run_sliceAt_slice w t _ _ _ _ ht,run_slice_h w t _ n c ht .i64 i (by omega) (by omega),hs]
 have e:a.map (fun x=>x.add (0 * sz)) = a:=by
  cases a with
  | none=>rfl
  | some a=>simp [Addr.add]
 simp only [Result.andThen_ok,sliced,Int.toNat_natCast,Nat.sub_zero,e,ite_self]
 exact k
end
end Go.Sh
namespace Go.Sh
open Go Go.RowKit
end Go.Sh
namespace Go.Sh
open Go Go.RowKit
section
variable {P:Program} {K:VK} {w:World}
@[go_sem] theorem c1h (t t' T:TypeId) (yk:IntKind) (x y:Int) (h0:0 ≤ y) (h1:y ≤ 64):oM P (.binOp .shr t (.tmp 0) (.tmp 1) t') T [.int .u64 x,.int yk y] = a0f (.int .u64 (x / 2 ^ y.toNat)):=by
 funext K w
 simp [oM,opM,xop,execOp,a1e,evE,binOp]
 rfl
@[go_sem] theorem f0t (t t' T:TypeId) (yk:IntKind) (x y:Int) (h0:0 ≤ y) (h1:y ≤ 64):oM P (.binOp .shl t (.tmp 0) (.tmp 1) t') T [.int .u64 x,.int yk y] = a0f (.int .u64 (x * 2 ^ y.toNat % 18446744073709551616)):=by
 funext K w
 simp [oM,opM,xop,execOp,a1e,evE,binOp]
 rfl
@[go_sem] theorem g7x (t t' T:TypeId) (x y:Int):oM P (.binOp .and t (.tmp 0) (.tmp 1) t') T [.int .u64 x,.int .u64 y] = a0f (.int .u64 (bits .and .u64 x y)):=by
 funext K w
 simp [oM,opM,xop,execOp,a1e,evE,binOp,go_sem]
@[go_sem] theorem g8v (t t' T:TypeId) (x y:Int):oM P (.binOp .or t (.tmp 0) (.tmp 1) t') T [.int .u64 x,.int .u64 y] = a0f (.int .u64 (bits .or .u64 x y)):=by
 funext K w
 simp [oM,opM,xop,execOp,a1e,evE,binOp,go_sem]
end
theorem b9u (x y:Int) (hx:0 ≤ x ∧ x < 18446744073709551616) (hy:0 ≤ y ∧ y < 18446744073709551616):bits .and .u64 x y = ((x.toNat &&& y.toNat:Nat):Int):=by
 obtain ⟨a,rfl⟩:=Int.eq_ofNat_of_zero_le hx.1
 obtain ⟨b,rfl⟩:=Int.eq_ofNat_of_zero_le hy.1
 have ha:a < 2 ^ 64:=by omega
 have hb:b < 2 ^ 64:=by omega
 simp only [bits,Int.toNat_natCast]
 rw [BitVec.ofInt_natCast,BitVec.ofInt_natCast,BitVec.toNat_and]
 simp only [BitVec.toNat_ofNat]
 rw [show IntKind.u64.bits = 64 from rfl,Nat.mod_eq_of_lt ha,Nat.mod_eq_of_lt hb]
 have:a &&& b ≤ a:=Nat.and_le_left
 exact a1r _ (by omega) (by omega)
theorem e1z (x y:Int) (hx:0 ≤ x ∧ x < 18446744073709551616) (hy:0 ≤ y ∧ y < 18446744073709551616):bits .or .u64 x y = ((x.toNat ||| y.toNat:Nat):Int):=by
 obtain ⟨a,rfl⟩:=Int.eq_ofNat_of_zero_le hx.1
 obtain ⟨b,rfl⟩:=Int.eq_ofNat_of_zero_le hy.1
 have ha:a < 2 ^ 64:=by omega
 have hb:b < 2 ^ 64:=by omega
 simp only [bits,Int.toNat_natCast]
 rw [BitVec.ofInt_natCast,BitVec.ofInt_natCast,BitVec.toNat_or]
 simp only [BitVec.toNat_ofNat]
 rw [show IntKind.u64.bits = 64 from rfl,Nat.mod_eq_of_lt ha,Nat.mod_eq_of_lt hb]
 have:=Nat.or_lt_two_pow ha hb
 exact a1r _ (by omega) (by omega)
theorem d0u (n:Nat) (x m:Int) (hn:n ≤ 64) (hm:m = 2 ^ n - 1) (hx:0 ≤ x ∧ x < 18446744073709551616):bits .and .u64 x m = x % 2 ^ n:=by
 have hp:(0:Int) < 2 ^ n:=Int.pow_pos (by omega)
 have hp':(2:Nat) ^ n ≤ 2 ^ 64:=Nat.pow_le_pow_right (by omega) hn
 have hpc:((2:Int) ^ n) = ((2 ^ n:Nat):Int):=by simp
 rw [b9u x m hx (by rw [hm,hpc]; omega)]
 have:m.toNat = 2 ^ n - 1:=by rw [hm,hpc]; omega
 rw [this,Nat.and_two_pow_sub_one_eq_mod,Int.natCast_emod,Int.toNat_of_nonneg hx.1,hpc]
theorem f0u (s:Nat) (x y:Int) (hs:s ≤ 64) (hx:0 ≤ x) (hy:0 ≤ y ∧ y < 2 ^ s) (h:x * 2 ^ s < 18446744073709551616):bits .or .u64 (x * 2 ^ s) y = x * 2 ^ s + y:=by
 obtain ⟨a,rfl⟩:=Int.eq_ofNat_of_zero_le hx
 obtain ⟨b,rfl⟩:=Int.eq_ofNat_of_zero_le hy.1
 have hpc:((2:Int) ^ s) = ((2 ^ s:Nat):Int):=by simp
 rw [hpc] at hy h ⊢
 have hp':(2:Nat) ^ s ≤ 2 ^ 64:=Nat.pow_le_pow_right (by omega) hs
 have hb:b < 2 ^ s:=by omega
 have e:((a:Int) * ((2 ^ s:Nat):Int)) = ((2 ^ s * a:Nat):Int):=by rw [Int.natCast_mul]; exact Int.mul_comm _ _
 rw [e] at h ⊢
 rw [e1z _ _ (by omega) (by omega),Int.toNat_natCast,Int.toNat_natCast,← Nat.two_pow_add_eq_or_of_lt hb]
 simp
end Go.Sh
namespace Go.Sh
open Go Go.RowKit
theorem _root_.Go.RowKit.Below.on {a b c:World} (h:Below a.heap.size a b) (k:Below b.heap.size b c):Below a.heap.size a c:=h.trans (k.mono h.size)
theorem _root_.Go.RowKit.Below.drawn {B:Nat} {w:World}:Below B w { w with drawn:=w.drawn + 1 }:=⟨rfl,rfl,rfl,rL,fun _ _=>rfl⟩
def g8w (w:World) (g:Nat) (cs:List Value):Prop:=∀ w',Below w.heap.size w w' → ∀ (i:Nat) (v:Value),cs[i]? = some v → w'.cell? ⟨g,i,none⟩ = some v
theorem f7u {P:Program} {w:World} {K:VK} {T T':TypeId} {x:Value} {cs:List Value} (hx:x.cells = cs.toArray)
  (k:∀ g W,Below w.heap.size w W → w.heap.size ≤ g → g8w W g cs → K (.pointer (some ⟨g,0,none⟩)) W):oM P (.box T (.tmp 0)) T' [x] K w:=by
 rw [f7y]
 have e:(Instr.box T x).run P w = .ok (.pointer (some ⟨w.heap.size,0,none⟩)) (w.alloc (.cells cs.toArray T)):=by
  rw [← hx]; rfl
 rw [e]
 refine k _ _ ((Below.refl _ w).alloc (rL) _) (rL) (fun w' hb i v hi=>?_)
 have hlt:w.heap.size < (w.alloc (.cells cs.toArray T)).heap.size:=by simp
 rw [hb.cell hlt]
 have:=World.cell?_alloc_at (w:=w) cs.toArray T w.heap.size i rfl
 rw [this]
 simpa using hi
def I64 (n:Int):Prop:=-9223372036854775808 ≤ n ∧ n < 9223372036854775808
def intC (n:Int):List Value:=[.int .i64 n]
structure Ints (w:World) (v:Value) (l:List Int):Prop where
 row:RowR intC 1 w v l
 rng:∀ n ∈ l,I64 n
 len:l.length ≤ 9223372036854775807
theorem Ints.next {w w':World} {v:Value} {l:List Int} (h:Ints w v l) (hb:Below w.heap.size w w'):Ints w' v l:=
 ⟨h.row.keep hb.size (fun i _ hi=>hb.block i hi),h.rng,h.len⟩
theorem Ints.nil (w:World):Ints w (.slice none 0 0) []:=⟨⟨none,0,rfl,fun _=>⟨rfl,rfl⟩,.inl rfl⟩,by simp,by simp⟩
theorem Ints.isSlice {w:World} {v:Value} {l:List Int} (h:Ints w v l):∃ ad c,v = .slice ad l.length c:=by
 obtain ⟨⟨ad,c,hv,_⟩,_⟩:=h; exact ⟨ad,c,hv⟩
theorem flat_int (l:List Int):a3a intC l = l.map (fun n=>Value.int .i64 n):=by
 induction l with
 | nil=>rfl
 | cons a l ih=>rw [b0x,ih]; rfl
theorem Ints.at {w:World} {ad:Option Addr} {n c:Nat} {l:List Int} (h:Ints w (.slice ad n c) l) {i:Nat} (hi:i < l.length) :
  ∃ b o,ad = some ⟨b,o,none⟩ ∧ b < w.heap.size ∧ (∀ w',Below w.heap.size w w' → w'.cell? ⟨b,o + i,none⟩ = some (.int .i64 l[i])) ∧ I64 l[i] ∧ n = l.length:=by
 obtain ⟨⟨ad',c',hv,h0,hc⟩,hr,_⟩:=h
 cases hv
 rcases hc with rfl | ⟨b,o,rfl,hlt,hc⟩
 ·simp at hi
 ·refine ⟨b,o,rfl,hlt,fun w' hb=>?_,hr _ (List.getElem_mem hi),rfl⟩
  rw [hb.cell hlt]
  exact hc i _ (by rw [flat_int]; simp [hi])
theorem Ints.of_owns {w:World} {B:Nat} {e:TypeId} {v:Value} {l:List Int} (h:w.ownsRow B e 1 v l.length (a3a intC l)) (hr:∀ n ∈ l,I64 n) (hl:l.length ≤ 9223372036854775807):Ints w v l:=
 ⟨RowR.of_owns h,hr,hl⟩
@[go_sem] theorem f7v {P:Program} {K:VK} {w:World} (fn:Fn) (T:TypeId) (x y:Value):oM P (.makeFunc fn #[] #[.tmp 0,.tmp 1]) T [x,y] K w = K (.func fn #[] #[x,y]) w:=a3g (by simp [xop,execOp,a1e,evE,Instr.makeFunc])
@[go_sem] theorem f0v {P:Program} {K:VK} {w:World} (fn:Fn) (T:TypeId) (x:Value):oM P (.makeFunc fn #[] #[.tmp 0]) T [x] K w = K (.func fn #[] #[x]) w:=a3g (by simp [xop,execOp,a1e,evE,Instr.makeFunc])
end Go.Sh
namespace Go.Sh
open Go
section
variable {P:Program} {K:VK} {w:World} {A B:Prop} {p:Prop} [Decidable p] {b c:Bool} {m:(VK) → WK} {T:TypeId} {x y v:Value} {C:WK} {KQ:Value → Prop}
theorem a9c {g:Bool} (h:gdM g m K w):gdM g m K w:=h
theorem a6c {q:Prop} {d:Decidable q} (h:gdM (gd (.bool (@decide q d)) c) m K w):gdM (gd (.bool (@decide q d)) c) m K w:=h
theorem c4p {q:Prop} {d:Decidable q} (h:gdM (gd (.bool (!@decide q d)) c) m K w):gdM (gd (.bool (!@decide q d)) c) m K w:=h
theorem a2x (h:oM P (.pick (.tmp 0) (.tmp 1) (.tmp 2)) T [v,x,y] K w):oM P (.pick (.tmp 0) (.tmp 1) (.tmp 2)) T [v,x,y] K w:=h
theorem a1n (h:a2c v A B):a2c v A B:=h
theorem idO {o:Op} {l:List Value} (h:oM P o T l K w):oM P o T l K w:=h
theorem g1u {o:Op} {l:List Value} (h:oQ P o T l C KQ):oQ P o T l C KQ:=h
theorem f0x {g:Bool} {n:(WK) → (Value → Prop) → Prop} (h:gdQ g n C KQ):gdQ g n C KQ:=h
theorem zF (k:m K w) (h:p:=by first|assumption|omega):gdM (gd (.bool (decide p)) true) m K w:=g0o h k
theorem zG (k:K undef w) (h:¬p:=by first|assumption|omega):gdM (gd (.bool (decide p)) true) m K w:=g0p h k
theorem zI (k:m K w) (h:¬p:=by first|assumption|omega):gdM (gd (.bool (decide p)) false) m K w:=g0q h k
theorem zJ (k:K undef w) (h:p:=by first|assumption|omega):gdM (gd (.bool (decide p)) false) m K w:=g0r h k
theorem zL (k:m K w) (h:¬p:=by first|assumption|omega):gdM (gd (.bool (!decide p)) true) m K w:=f1o h k
theorem zM (k:K undef w) (h:p:=by first|assumption|omega):gdM (gd (.bool (!decide p)) true) m K w:=f1p h k
theorem zO (k:m K w) (h:p:=by first|assumption|omega):gdM (gd (.bool (!decide p)) false) m K w:=f1q h k
theorem zP (k:K undef w) (h:¬p:=by first|assumption|omega):gdM (gd (.bool (!decide p)) false) m K w:=f1r h k
theorem zV (k:m K w) (h:b = true:=by assumption):gdM (gd (.bool b) true) m K w:=f1s h k
theorem zW (k:K undef w) (h:b = false:=by assumption):gdM (gd (.bool b) true) m K w:=f1t h k
theorem zY (k:m K w) (h:b = false:=by assumption):gdM (gd (.bool b) false) m K w:=f1u h k
theorem zZ (k:K undef w) (h:b = true:=by assumption):gdM (gd (.bool b) false) m K w:=f1v h k
theorem zA (k:m K w):gdM (gd (.bool true) true) m K w:=h2y k
theorem zB (k:K undef w):gdM (gd (.bool false) true) m K w:=h2z k
theorem zC (k:m K w):gdM (gd (.bool false) false) m K w:=h3a k
theorem zD (k:K undef w):gdM (gd (.bool true) false) m K w:=h3b k
theorem zE (k:K undef w):gdM (gd undef c) m K w:=gdu k c
theorem zH (h1:p → m K w) (h2:¬p → K undef w):gdM (gd (.bool (decide p)) true) m K w:=e2u h1 h2
theorem zK (h1:p → K undef w) (h2:¬p → m K w):gdM (gd (.bool (decide p)) false) m K w:=e2v h1 h2
theorem zQ (h1:p → m K w) (h2:¬p → K undef w):gdM (gd (.bool (!decide p)) false) m K w:=d3c h1 h2
theorem zX (h1:b = true → m K w) (h2:b = false → K undef w):gdM (gd (.bool b) true) m K w:=d3d h1 h2
theorem yA (h1:b = true → K undef w) (h2:b = false → m K w):gdM (gd (.bool b) false) m K w:=d3e h1 h2
theorem yB (k:K x w):oM P (.pick (.tmp 0) (.tmp 1) (.tmp 2)) T [.bool true,x,y] K w:=g9h k
theorem yC (k:K y w):oM P (.pick (.tmp 0) (.tmp 1) (.tmp 2)) T [.bool false,x,y] K w:=g9i k
theorem yD (k:K x w) (h:p:=by first|assumption|omega):oM P (.pick (.tmp 0) (.tmp 1) (.tmp 2)) T [.bool (decide p),x,y] K w:=f1w h k
theorem yE (k:K y w) (h:¬p:=by first|assumption|omega):oM P (.pick (.tmp 0) (.tmp 1) (.tmp 2)) T [.bool (decide p),x,y] K w:=f1x h k
theorem yF (k:K x w) (h:¬p:=by first|assumption|omega):oM P (.pick (.tmp 0) (.tmp 1) (.tmp 2)) T [.bool (!decide p),x,y] K w:=e2w h k
theorem yG (k:K y w) (h:p:=by first|assumption|omega):oM P (.pick (.tmp 0) (.tmp 1) (.tmp 2)) T [.bool (!decide p),x,y] K w:=e2x h k
theorem yJ (k:K x w) (h:b = true:=by assumption):oM P (.pick (.tmp 0) (.tmp 1) (.tmp 2)) T [.bool b,x,y] K w:=e2y h k
theorem yK (k:K y w) (h:b = false:=by assumption):oM P (.pick (.tmp 0) (.tmp 1) (.tmp 2)) T [.bool b,x,y] K w:=e2z h k
theorem yL (k:A):a2c (.bool true) A B:=g9j k
theorem yM (k:B):a2c (.bool false) A B:=g9k k
theorem yN (k:A) (h:p:=by first|assumption|omega):a2c (.bool (decide p)) A B:=f1y h k
theorem yO (k:B) (h:¬p:=by first|assumption|omega):a2c (.bool (decide p)) A B:=f1z h k
theorem yQ (k:A) (h:¬p:=by first|assumption|omega):a2c (.bool (!decide p)) A B:=e3a h k
theorem yR (k:B) (h:p:=by first|assumption|omega):a2c (.bool (!decide p)) A B:=e3b h k
theorem yP (h1:p → A) (h2:¬p → B):a2c (.bool (decide p)) A B:=b7e h1 h2
theorem yS (h1:p → B) (h2:¬p → A):a2c (.bool (!decide p)) A B:=b4h h1 h2
theorem yV (h1:b = true → B) (h2:b = false → A):a2c (.bool (!b)) A B:=c5d h1 h2
theorem yY (h1:b = true → A) (h2:b = false → B):a2c (.bool b) A B:=b7f h1 h2
theorem wA (k:KQ x):oQ P (.pick (.tmp 0) (.tmp 1) (.tmp 2)) T [.bool true,x,y] C KQ:=g7a k
theorem wB (k:KQ y):oQ P (.pick (.tmp 0) (.tmp 1) (.tmp 2)) T [.bool false,x,y] C KQ:=g7b k
theorem wE (k:KQ x) (h:¬p:=by first|assumption|omega):oQ P (.pick (.tmp 0) (.tmp 1) (.tmp 2)) T [.bool (!decide p),x,y] C KQ:=d3f h k
theorem wF (k:KQ y) (h:p:=by first|assumption|omega):oQ P (.pick (.tmp 0) (.tmp 1) (.tmp 2)) T [.bool (!decide p),x,y] C KQ:=d3g h k
end
end Go.Sh
namespace Go.Sh
open Go Go.RowKit
@[reducible] def a2h (w:World):List (Addr × Value) → Prop
 | []=>True
 | p :: l=>w.cell? p.1 = some p.2 ∧ a2h w l
theorem b3c {w w':World}:∀ {L:List (Addr × Value)},a2h w L → (∀ (a:Addr),a.block < w.heap.size → w'.cell? a = w.cell? a) → a2h w' L
 | [],_,_=>trivial
 | p :: l,h,k=>by
  refine ⟨?_,b3c h.2 k⟩
  have hlt:p.1.block < w.heap.size:=by
   have h1:=h.1
   by_cases hc:p.1.block < w.heap.size
   ·exact hc
   ·unfold World.cell? at h1
    rw [Array.getElem?_eq_none (by omega)] at h1
    simp at h1
  rw [k _ hlt]; exact h.1
theorem a6t {w w':World} {g:Nat}:∀ {L:List (Addr × Value)},a2h w L → (∀ p ∈ L,p.1.block ≠ g) → (∀ (a:Addr),a.block < w.heap.size → a.block ≠ g → w'.cell? a = w.cell? a) → a2h w' L
 | [],_,_,_=>trivial
 | p :: l,h,hn,k=>by
  refine ⟨?_,a6t h.2 (fun q hq=>hn q (List.mem_cons_of_mem _ hq)) k⟩
  have hlt:p.1.block < w.heap.size:=by
   have h1:=h.1
   by_cases hc:p.1.block < w.heap.size
   ·exact hc
   ·unfold World.cell? at h1
    rw [Array.getElem?_eq_none (by omega)] at h1
    simp at h1
  rw [k _ hlt (hn p (List.mem_cons_self ..))]; exact h.1
structure Kn (w0:World) (L:List (Addr × Value)) (w':World):Prop where
 below:Below w0.heap.size w0 w'
 cells:a2h w' L
namespace Kn
variable {w0 w w':World} {L:List (Addr × Value)}
theorem start (w:World):Kn w [] w:=⟨Below.refl _ _,trivial⟩
theorem next (h:Kn w0 L w) (hb:Below w.heap.size w w'):Kn w0 L w':=⟨h.below.on hb,b3c h.cells fun a ha=>hb.cell ha⟩
theorem drew (h:Kn w0 L w):Kn w0 L { w with drawn:=w.drawn + 1 }:=h.next .drawn
theorem wrote (h:Kn w0 L w) {g:Nat} (hg:w.grownBy w' (some g)) (h0:w0.heap.size ≤ g) (hn:∀ p ∈ L,p.1.block ≠ g):Kn w0 L w':=
 ⟨h.below.grown hg h.below.size (fun k hk=>by cases hk; exact h0),
  a6t h.cells hn fun a ha hna=>World.cell?_of_block (w:=w) (hg.block _ ha (fun e=>hna (oI e)))⟩
end Kn
@[reducible] def cellsOf (L:List (Addr × Value)) (b:Nat):Nat → List Value → List (Addr × Value)
 | _,[]=>L
 | i,v :: l=>(⟨b,i,none⟩,v) :: cellsOf L b (i + 1) l
theorem a9s {w:World} {b:Nat} {xs:List Value} {L:List (Addr × Value)} (hL:a2h w L) (h:∀ (i:Nat) (v:Value),xs[i]? = some v → w.cell? ⟨b,i,none⟩ = some v):∀ (l:List Value) (i:Nat),xs.drop i = l → a2h w (cellsOf L b i l)
 | [],_,_=>hL
 | v :: l,i,e=>by
  have hv:xs[i]? = some v:=by
   have:=congrArg (·[0]?) e
   simpa using this
  refine ⟨h i v hv,a9s hL h l (i + 1) ?_⟩
  have:=congrArg List.tail e
  simpa using this
def Mine (w:World) (g:Nat) (n:Nat):Prop:=∃ cur T,w.heap[g]? = some (.cells cur T (0,0)) ∧ cur.size = n
theorem Mine.next {w w':World} {g n:Nat} (h:Mine w g n) (hb:Below w.heap.size w w'):Mine w' g n:=by
 obtain ⟨cur,T,h1,h2⟩:=h
 refine ⟨cur,T,?_,h2⟩
 rw [hb.block g (Array.getElem?_eq_some_iff.1 h1).1]; exact h1
section
variable {P:Program} {w0 w:World} {K:VK} {T T':TypeId} {L:List (Addr × Value)}
theorem a1b {x:Value} {cs:List Value} (hx:x.cells = cs.toArray) (hk:Kn w0 L w) (k:∀ b W,Kn w0 (cellsOf L b 0 cs) W → Below w.heap.size w W → w.heap.size ≤ b → K (.pointer (some ⟨b,0,none⟩)) W):oM P (.box T (.tmp 0)) T' [x] K w:=
 f7u hx fun g W h1 h2 h3=>k g W ⟨(hk.next h1).below,a9s (xs:=cs) (hk.next h1).cells (fun i v hi=>h3 W (Below.refl _ _) i v hi) cs 0 rfl⟩ h1 h2
end
end Go.Sh
namespace Go.Sh
open Go Go.RowKit
theorem a8h {w:World}:∀ {L:List (Addr × Value)},a2h w L → ∀ p ∈ L,p.1.block < w.heap.size
 | p :: l,h,q,hq=>by
  rcases List.mem_cons.1 hq with rfl | hq
  ·have h1:=h.1
   by_cases hc:q.1.block < w.heap.size
   ·exact hc
   ·unfold World.cell? at h1
    rw [Array.getElem?_eq_none (by omega)] at h1
    simp at h1
  ·exact a8h h.2 q hq
structure KnM (w0:World) (L:List (Addr × Value)) (g n:Nat) (w':World):Prop where
 kn:Kn w0 L w'
 mine:Mine w' g n
 base:w0.heap.size ≤ g
 off:∀ p ∈ L,p.1.block ≠ g
theorem c8g {w:World} {g n:Nat} (h:Mine w g n):g < w.heap.size:=by
 obtain ⟨cur,T,h1,_⟩:=h
 exact (Array.getElem?_eq_some_iff.1 h1).1
theorem b6y {L:List (Addr × Value)} {b:Nat}:∀ (cs:List Value) (i:Nat) (p:Addr × Value),p ∈ cellsOf L b i cs → p.1.block = b ∨ p ∈ L
 | [],_,_,h=>.inr h
 | _ :: l,i,p,h=>by
  rcases List.mem_cons.1 h with rfl | h
  ·exact .inl rfl
  ·exact b6y l (i + 1) p h
namespace KnM
variable {w0 w w':World} {L:List (Addr × Value)} {g n:Nat}
theorem next (h:KnM w0 L g n w) (hb:Below w.heap.size w w'):KnM w0 L g n w':=⟨h.kn.next hb,h.mine.next hb,h.base,h.off⟩
theorem drew (h:KnM w0 L g n w):KnM w0 L g n { w with drawn:=w.drawn + 1 }:=h.next .drawn
theorem cells (h:KnM w0 L g n w):a2h w L:=h.kn.cells
theorem below (h:KnM w0 L g n w):Below w0.heap.size w0 w:=h.kn.below
end KnM
section
variable {P:Program} {w0 w:World} {K:VK} {T T':TypeId} {L:List (Addr × Value)} {g n:Nat}
theorem a7k {zs:List Value} (hA:∀ w,(Instr.alloc T true (.tuple #[])).run P w = .ok (.pointer (some ⟨w.heap.size,0,none⟩)) (w.alloc (.cells zs.toArray T))) (hn:zs.length = n) (hk:Kn w0 L w)
  (k:∀ g W,KnM w0 L g n W → Below w.heap.size w W → w.heap.size ≤ g → K (.pointer (some ⟨g,0,none⟩)) W):oM P (.alloc T) T' [] K w:=by
 rw [c1s,hA]
 have hb:=(Below.refl w.heap.size w).alloc (rL) (.cells zs.toArray T)
 refine k _ _ ⟨hk.next hb,⟨zs.toArray,T,?_,by simpa using hn⟩,hk.below.size,fun p hp=>?_⟩ hb (rL)
 ·show (w.heap.push _)[w.heap.size]? = _
  simp
 ·have:=a8h hk.cells p hp
  omega
theorem b6z {x:Value} {xs:List Value} {W:World} (hT:∀ w,(sizeOf T).run P w = .ok n w) (hx:x.cells = xs.toArray) (hl:xs.length = n) (h1:∀ u ∈ xs,u.oneCell' = true) (hm:Mine w g n) :
  ∃ W,(Instr.storeAt T (.pointer (some ⟨g,0,none⟩)) x).run P w = .ok () W ∧ w.grownBy W (some g) ∧ Mine W g n ∧ a2h W (cellsOf [] g 0 xs):=by
 obtain ⟨cur,T0,hg,hc⟩:=hm
 have hst:=run_storeCells_at P g 0 T0 xs 0 cur w hg (by omega) h1
 have e1:(cur.toList.take (0 + 0) ++ xs ++ cur.toList.drop (0 + 0 + xs.length)).toArray = xs.toArray:=by
  rw [List.drop_of_length_le (by simp; omega)]
  simp
 rw [e1] at hst
 have hh:=setRow_heap w g cur xs.toArray T0 (0,0) hg
 refine ⟨w.setRow g xs.toArray,?_,a3k _ _ _,⟨_,_,hh,by simpa using hl⟩,a9s (xs:=xs) (L:=[]) trivial (fun i v hi=>?_) xs 0 rfl⟩
 ·have e2:x.cells.toList = xs:=by rw [hx]
  have e3:x.cells.size = n:=by rw [hx]; simpa using hl
  unfold Instr.storeAt storeVar
  rw [e2,e3]
  simp [hT,go_sem]
  exact hst
 ·unfold World.cell?
  rw [hh]
  simpa using hi
theorem b4f {x:Value} {xs:List Value} (hT:∀ w,(sizeOf T).run P w = .ok n w) (hx:x.cells = xs.toArray) (hl:xs.length = n) (h1:∀ u ∈ xs,u.oneCell' = true) (hk:KnM w0 L g n w)
  (k:∀ W,KnM w0 L g n W → a2h W (cellsOf [] g 0 xs) → K undef W):oM P (.store T (.tmp 0) (.tmp 1)) T' [.pointer (some ⟨g,0,none⟩),x] K w:=by
 obtain ⟨W,e,hg,hm,hc⟩:=b6z (W:=w) hT hx hl h1 hk.mine
 rw [a9u,e]
 exact k W ⟨hk.kn.wrote hg hk.base hk.off,hm,hk.base,hk.off⟩ hc
theorem d0w {zs:List Value} {x:Value} {xs:List Value} {T2:TypeId} {K:VK} (hA:∀ w,(Instr.alloc T true (.tuple #[])).run P w = .ok (.pointer (some ⟨w.heap.size,0,none⟩)) (w.alloc (.cells zs.toArray T))) (hn:zs.length = n)
  (hT:∀ w,(sizeOf T).run P w = .ok n w) (hx:x.cells = xs.toArray) (hl:xs.length = n) (h1:∀ u ∈ xs,u.oneCell' = true) (hk:Kn w0 L w)
  (k:∀ b W,Kn w0 (cellsOf L b 0 xs) W → Below w.heap.size w W → w.heap.size ≤ b → K (.pointer (some ⟨b,0,none⟩)) W) :
  oM P (.alloc T) T' [] (fun v w=>oM P (.store T (.tmp 0) (.tmp 1)) T2 [v,x] (fun _ w=>K v w) w) w:=by
 refine a7k hA hn hk fun g W hk2 hb hg=>?_
 obtain ⟨W2,e,hgr,hm,hc⟩:=b6z (W:=w) hT hx hl h1 hk2.mine
 rw [a9u,e]
 have hb2:Below w.heap.size w W2:=hb.grown hgr hb.size (fun k hk=>by cases hk; exact hg)
 refine k g W2 ⟨(hk2.kn.wrote hgr hk2.base hk2.off).below,?_⟩ hb2 hg
 have hL:=(hk2.kn.wrote hgr hk2.base hk2.off).cells
 clear e k
 have:∀ (l:List Value) (i:Nat),a2h W2 (cellsOf [] g i l) → a2h W2 (cellsOf L g i l):=by
  intro l
  induction l with
  | nil=>intro i _; exact hL
  | cons a l ih=>intro i h; exact ⟨h.1,ih (i + 1) h.2⟩
 exact this xs 0 hc
theorem e2e {zs:List Value} {x:Value} {xs:List Value} {T2:TypeId} {K:VK} {m:Nat} (hA:∀ w,(Instr.alloc T true (.tuple #[])).run P w = .ok (.pointer (some ⟨w.heap.size,0,none⟩)) (w.alloc (.cells zs.toArray T))) (hn:zs.length = m)
  (hT:∀ w,(sizeOf T).run P w = .ok m w) (hx:x.cells = xs.toArray) (hl:xs.length = m) (h1:∀ u ∈ xs,u.oneCell' = true) (hk:KnM w0 L g n w)
  (k:∀ b W,KnM w0 (cellsOf L b 0 xs) g n W → Below w.heap.size w W → w.heap.size ≤ b → K (.pointer (some ⟨b,0,none⟩)) W) :
  oM P (.alloc T) T' [] (fun v w=>oM P (.store T (.tmp 0) (.tmp 1)) T2 [v,x] (fun _ w=>K v w) w) w:=
 d0w hA hn hT hx hl h1 hk.kn fun b W hk' h1 h2=>k b W ⟨hk',hk.mine.next h1,hk.base,fun p hp=>(b6y xs 0 p hp).elim (fun e=>by have:=c8g hk.mine; omega) (hk.off p)⟩ h1 h2
variable {C:WK} {KQ:Value → Prop} {x y v:Value} {p:Prop} [Decidable p]
theorem b4u {o:Op} {l:List Value} (h:oH P o T l C KQ):oH P o T l C KQ:=h
theorem b5d {c:Bool} {m:(WK) → (Value → Prop) → Prop} (h:gdH c m C KQ):gdH c m C KQ:=h
theorem a4w {c:Bool} {m:(WK) → (Value → Prop) → Prop} (h:∀ W0,gdM c (fun K' w=>m C (fun v=>K' v w)) (fun v _=>KQ v) W0):gdH c m C KQ:=by
 have h:=h ⟨#[],default,0,default,default⟩
 cases c <;> exact h
theorem g0j {b:Bool} (k:KQ (bif b then x else y)):oH P (.pick (.tmp 0) (.tmp 1) (.tmp 2)) T [.bool b,x,y] C KQ:=by
 refine ⟨_,fun w _=>?_,k⟩
 simp [xop,execOp,a1e,evE,asBool]
theorem g6a (k:KQ x):oH P (.pick (.tmp 0) (.tmp 1) (.tmp 2)) T [.bool true,x,y] C KQ:=g0j k
theorem g6b (k:KQ y):oH P (.pick (.tmp 0) (.tmp 1) (.tmp 2)) T [.bool false,x,y] C KQ:=g0j k
theorem e2f (h:¬p) (k:KQ y):oH P (.pick (.tmp 0) (.tmp 1) (.tmp 2)) T [.bool (decide p),x,y] C KQ:=g0j (by rw [decide_eq_false h]; exact k)
theorem vA (k:KQ x):oH P (.pick (.tmp 0) (.tmp 1) (.tmp 2)) T [.bool true,x,y] C KQ:=g6a k
theorem vB (k:KQ y):oH P (.pick (.tmp 0) (.tmp 1) (.tmp 2)) T [.bool false,x,y] C KQ:=g6b k
theorem vD (k:KQ y) (h:¬p:=by first|assumption|omega):oH P (.pick (.tmp 0) (.tmp 1) (.tmp 2)) T [.bool (decide p),x,y] C KQ:=e2f h k
end
end Go.Sh
namespace Go.Sh
open Go Go.RowKit
@[reducible] def ptr (g i:Nat):Value:=.pointer (some ⟨g,i,none⟩)
def Holds (w:World) (g:Nat) (T:TypeId) (vs:List Value):Prop:=w.heap[g]? = some (.cells vs.toArray T (0,0))
theorem Holds.lt {w:World} {g:Nat} {T:TypeId} {vs:List Value} (h:Holds w g T vs):g < w.heap.size:=(Array.getElem?_eq_some_iff.1 h).1
theorem Holds.next {w w':World} {g:Nat} {T:TypeId} {vs:List Value} (h:Holds w g T vs) (hb:Below w.heap.size w w'):Holds w' g T vs:=by
 unfold Holds
 rw [hb.block g h.lt]; exact h
theorem Holds.other {w w':World} {g g':Nat} {T:TypeId} {vs:List Value} (h:Holds w g T vs) (hg:w.grownBy w' (some g')) (hne:g ≠ g'):Holds w' g T vs:=by
 unfold Holds
 rw [hg.block g h.lt (fun e=>hne (by cases e; rfl))]; exact h
theorem Holds.cell {w:World} {g:Nat} {T:TypeId} {vs:List Value} (h:Holds w g T vs) (i:Nat) (hi:i < vs.length):w.cell? ⟨g,i,none⟩ = some vs[i]:=by
 unfold World.cell?
 rw [h]
 simp [hi]
theorem Holds.are {w:World} {g:Nat} {T:TypeId} {vs:List Value} (h:Holds w g T vs):a2h w (cellsOf [] g 0 vs):=
 a9s (xs:=vs) (L:=[]) trivial (fun i v hi=>by
  obtain ⟨hl,rfl⟩:=gS hi
  exact h.cell i hl) vs 0 rfl
section
variable {P:Program} {w:World} {K:VK} {T T' T0:TypeId} {g n:Nat}
theorem a0m {zs:List Value} (hA:∀ w,(Instr.alloc T true (.tuple #[])).run P w = .ok (.pointer (some ⟨w.heap.size,0,none⟩)) (w.alloc (.cells zs.toArray T)))
  (k:∀ g W,Below w.heap.size w W → w.heap.size ≤ g → Holds W g T zs → K (ptr g 0) W):oM P (.alloc T) T' [] K w:=by
 rw [c1s,hA]
 refine k _ _ ((Below.refl w.heap.size w).alloc (rL) _) (rL) ?_
 show (w.heap.push _)[w.heap.size]? = _
 simp
theorem a4f {x:Value} {cs:List Value} (hx:x.cells = cs.toArray) (k:∀ g W,Below w.heap.size w W → w.heap.size ≤ g → Holds W g T cs → K (ptr g 0) W):oM P (.box T (.tmp 0)) T' [x] K w:=by
 rw [f7y]
 have e:(Instr.box T x).run P w = .ok (.pointer (some ⟨w.heap.size,0,none⟩)) (w.alloc (.cells cs.toArray T)):=by
  rw [← hx]; rfl
 rw [e]
 refine k _ _ ((Below.refl w.heap.size w).alloc (rL) _) (rL) ?_
 show (w.heap.push _)[w.heap.size]? = _
 simp
theorem a2w {o m:Nat} {cur xs:List Value} {x:Value} (hT:∀ w,(sizeOf T).run P w = .ok m w) (hx:x.cells = xs.toArray) (hl:xs.length = m) (h1:∀ u ∈ xs,u.oneCell' = true) (hg:Holds w g T0 cur) (hfit:o + m ≤ cur.length)
  (k:∀ W,w.grownBy W (some g) → Holds W g T0 (cur.take o ++ xs ++ cur.drop (o + m)) → K undef W):oM P (.store T (.tmp 0) (.tmp 1)) T' [ptr g o,x] K w:=by
 have hst:=run_storeCells_at P g o T0 xs 0 cur.toArray w hg (by simp; omega) h1
 rw [Nat.add_zero] at hst
 have e2:x.cells.toList = xs:=by rw [hx]
 have e3:x.cells.size = m:=by rw [hx]; simpa using hl
 have hrun:(Instr.storeAt T (ptr g o) x).run P w = .ok () (w.setRow g (cur.take o ++ xs ++ cur.drop (o + xs.length)).toArray):=by
  unfold Instr.storeAt storeVar
  rw [e2,e3]
  simp only [List.append_assoc] at hst ⊢
  simp [hT,go_sem]
  exact hst
 rw [a9u,hrun]
 rw [hl] at *
 exact k _ (a3k _ _ _) (setRow_heap w g _ _ T0 (0,0) hg)
theorem a0i {cur xs:List Value} {x:Value} (hT:∀ w,(sizeOf T).run P w = .ok n w) (hx:x.cells = xs.toArray) (hl:xs.length = n) (h1:∀ u ∈ xs,u.oneCell' = true) (hg:Holds w g T0 cur) (hc:cur.length = n)
  (k:∀ W,w.grownBy W (some g) → Holds W g T0 xs → K undef W):oM P (.store T (.tmp 0) (.tmp 1)) T' [ptr g 0,x] K w:=by
 refine a2w hT hx hl h1 hg (by omega) (fun W h2 h3=>k W h2 ?_)
 rw [Nat.zero_add,List.take_zero,List.nil_append,List.drop_of_length_le (by omega),List.append_nil] at h3
 exact h3
theorem a2j {cur:List Value} {x:Value} {i:Nat} (hT:∀ w,(sizeOf T).run P w = .ok 1 w) (hx:x.cells = #[x]) (h1:x.oneCell' = true) (hg:Holds w g T0 cur) (hi:i < cur.length)
  (k:∀ W,w.grownBy W (some g) → Holds W g T0 (cur.set i x) → K undef W):oM P (.store T (.tmp 0) (.tmp 1)) T' [ptr g i,x] K w:=by
 refine a2w (xs:=[x]) hT hx rfl (by intro u hu; rw [List.mem_singleton] at hu; subst hu; exact h1) hg (by omega) (fun W h2 h3=>k W h2 ?_)
 rw [List.set_eq_take_append_cons_drop,if_pos hi]
 simpa [List.append_assoc] using h3
theorem a2k {cs:List Value} {d:TypeDesc} (hg:Holds w g T0 cs) (hu:P.underlying T = some d) (hd:(match d with | .struct _ | .array _ _=>true | _=>false) = true) (hi:(P.info? T).map (·.size) = some cs.length) (k:K (.agg cs.toArray) w) :
  oM P (.load T (.tmp 0)) T' [ptr g 0] K w:=by
 rw [e2t]
 have:=run_loadVar_row (P:=P) w g T0 T cs.toArray (0,0) d hg hu hd (by simpa using hi)
 have e:(Instr.loadAt T (ptr g 0)).run P w = (loadVar T ⟨g,0,none⟩).run P w:=rfl
 rw [e,this]
 exact k
theorem a5p {cs:List Value} {d:TypeDesc} (hg:Holds w g T0 cs) (hu:P.underlying T = some d) (hd:(match d with | .struct _ | .array _ _=>true | _=>false) = true) (hi:(P.info? T).map (·.size) = some cs.length) (k:K (.agg cs.toArray) w) :
  ∃ r,(do loadVar T (← asAddr (ptr g 0)):Sem Value).run P w = .ok r w ∧ K r w:=by
 have:=run_loadVar_row (P:=P) w g T0 T cs.toArray (0,0) d hg hu hd (by simpa using hi)
 exact ⟨_,this,k⟩
theorem a0y {w0 w':World} (h0:Below w0.heap.size w0 w) (hg:w.grownBy w' (some g)) (h:w0.heap.size ≤ g):Below w0.heap.size w0 w':=
 h0.grown hg h0.size (fun k hk=>by cases hk; exact h)
end
end Go.Sh
namespace Go.Sh
open Go Go.RowKit
theorem bR {B:Nat} {w:World}:Below B w w:=Below.refl _ _
abbrev Bw (w w2:World):=Below w.heap.size w w2
abbrev Nx (w w':World):Prop:=Below w.heap.size w w'
variable {S:World → WK} {A N:(VK) → Prop}
theorem a2l {x:Value} (h:A (fun v _=>v = x)) (n:N (fun v _=>v = x)):∃ R:VK,(∀ v w w1,S w w1 → R v w → R v w1) ∧ A R ∧ N R:=⟨_,fun _ _ _ _ h=>h,h,n⟩
theorem b0h (R:VK) (hs:∀ v w w1,S w w1 → R v w → R v w1) (h:A R) (n:N R):∃ R:VK,(∀ v w w1,S w w1 → R v w → R v w1) ∧ A R ∧ N R:=⟨R,hs,h,n⟩
end Go.Sh
namespace Go.Sh
open Go Go.RowKit
structure Yh (B:Prop):Prop where
 o:B
section
theorem An2 {p0 p1:Prop} (h0:p0) (h1:p1):p0 ∧ p1:=⟨h0,h1⟩
theorem An3 {p0 p1 p2:Prop} (h0:p0) (h1:p1) (h2:p2):p0 ∧ p1 ∧ p2:=⟨h0,h1,h2⟩
theorem An4 {p0 p1 p2 p3:Prop} (h0:p0) (h1:p1) (h2:p2) (h3:p3):p0 ∧ p1 ∧ p2 ∧ p3:=⟨h0,h1,h2,h3⟩
theorem An5 {p0 p1 p2 p3 p4:Prop} (h0:p0) (h1:p1) (h2:p2) (h3:p3) (h4:p4):p0 ∧ p1 ∧ p2 ∧ p3 ∧ p4:=⟨h0,h1,h2,h3,h4⟩
theorem An6 {p0 p1 p2 p3 p4 p5:Prop} (h0:p0) (h1:p1) (h2:p2) (h3:p3) (h4:p4) (h5:p5):p0 ∧ p1 ∧ p2 ∧ p3 ∧ p4 ∧ p5:=⟨h0,h1,h2,h3,h4,h5⟩
theorem An7 {p0 p1 p2 p3 p4 p5 p6:Prop} (h0:p0) (h1:p1) (h2:p2) (h3:p3) (h4:p4) (h5:p5) (h6:p6):p0 ∧ p1 ∧ p2 ∧ p3 ∧ p4 ∧ p5 ∧ p6:=⟨h0,h1,h2,h3,h4,h5,h6⟩
theorem An8 {p0 p1 p2 p3 p4 p5 p6 p7:Prop} (h0:p0) (h1:p1) (h2:p2) (h3:p3) (h4:p4) (h5:p5) (h6:p6) (h7:p7):p0 ∧ p1 ∧ p2 ∧ p3 ∧ p4 ∧ p5 ∧ p6 ∧ p7:=⟨h0,h1,h2,h3,h4,h5,h6,h7⟩
theorem An9 {p0 p1 p2 p3 p4 p5 p6 p7 p8:Prop} (h0:p0) (h1:p1) (h2:p2) (h3:p3) (h4:p4) (h5:p5) (h6:p6) (h7:p7) (h8:p8):p0 ∧ p1 ∧ p2 ∧ p3 ∧ p4 ∧ p5 ∧ p6 ∧ p7 ∧ p8:=⟨h0,h1,h2,h3,h4,h5,h6,h7,h8⟩
theorem h3c {p0 p1 p2 p3 p4 p5 p6 p7 p8 p9:Prop} (h0:p0) (h1:p1) (h2:p2) (h3:p3) (h4:p4) (h5:p5) (h6:p6) (h7:p7) (h8:p8) (h9:p9):p0 ∧ p1 ∧ p2 ∧ p3 ∧ p4 ∧ p5 ∧ p6 ∧ p7 ∧ p8 ∧ p9:=⟨h0,h1,h2,h3,h4,h5,h6,h7,h8,h9⟩
theorem h3d {p0 p1 p2 p3 p4 p5 p6 p7 p8 p9 p10:Prop} (h0:p0) (h1:p1) (h2:p2) (h3:p3) (h4:p4) (h5:p5) (h6:p6) (h7:p7) (h8:p8) (h9:p9) (h10:p10):p0 ∧ p1 ∧ p2 ∧ p3 ∧ p4 ∧ p5 ∧ p6 ∧ p7 ∧ p8 ∧ p9 ∧ p10:=⟨h0,h1,h2,h3,h4,h5,h6,h7,h8,h9,h10⟩
theorem h3e {p0 p1 p2 p3 p4 p5 p6 p7 p8 p9 p10 p11 p12 p13 p14 p15 p16 p17 p18 p19:Prop} (h0:p0) (h1:p1) (h2:p2) (h3:p3) (h4:p4) (h5:p5) (h6:p6) (h7:p7) (h8:p8) (h9:p9) (h10:p10) (h11:p11) (h12:p12) (h13:p13) (h14:p14) (h15:p15) (h16:p16) (h17:p17) (h18:p18) (h19:p19):p0 ∧ p1 ∧ p2 ∧ p3 ∧ p4 ∧ p5 ∧ p6 ∧ p7 ∧ p8 ∧ p9 ∧ p10 ∧ p11 ∧ p12 ∧ p13 ∧ p14 ∧ p15 ∧ p16 ∧ p17 ∧ p18 ∧ p19:=⟨h0,h1,h2,h3,h4,h5,h6,h7,h8,h9,h10,h11,h12,h13,h14,h15,h16,h17,h18,h19⟩
theorem h3f {p0 p1 p2 p3 p4 p5 p6 p7 p8 p9 p10 p11 p12 p13 p14 p15 p16 p17 p18 p19 p20 p21 p22 p23:Prop} (h0:p0) (h1:p1) (h2:p2) (h3:p3) (h4:p4) (h5:p5) (h6:p6) (h7:p7) (h8:p8) (h9:p9) (h10:p10) (h11:p11) (h12:p12) (h13:p13) (h14:p14) (h15:p15) (h16:p16) (h17:p17) (h18:p18) (h19:p19) (h20:p20) (h21:p21) (h22:p22) (h23:p23):p0 ∧ p1 ∧ p2 ∧ p3 ∧ p4 ∧ p5 ∧ p6 ∧ p7 ∧ p8 ∧ p9 ∧ p10 ∧ p11 ∧ p12 ∧ p13 ∧ p14 ∧ p15 ∧ p16 ∧ p17 ∧ p18 ∧ p19 ∧ p20 ∧ p21 ∧ p22 ∧ p23:=⟨h0,h1,h2,h3,h4,h5,h6,h7,h8,h9,h10,h11,h12,h13,h14,h15,h16,h17,h18,h19,h20,h21,h22,h23⟩
theorem h3g {p0 p1 p2 p3 p4 p5 p6 p7 p8 p9 p10 p11 p12 p13 p14 p15 p16 p17 p18 p19 p20 p21 p22 p23 p24 p25:Prop} (h0:p0) (h1:p1) (h2:p2) (h3:p3) (h4:p4) (h5:p5) (h6:p6) (h7:p7) (h8:p8) (h9:p9) (h10:p10) (h11:p11) (h12:p12) (h13:p13) (h14:p14) (h15:p15) (h16:p16) (h17:p17) (h18:p18) (h19:p19) (h20:p20) (h21:p21) (h22:p22) (h23:p23) (h24:p24) (h25:p25):p0 ∧ p1 ∧ p2 ∧ p3 ∧ p4 ∧ p5 ∧ p6 ∧ p7 ∧ p8 ∧ p9 ∧ p10 ∧ p11 ∧ p12 ∧ p13 ∧ p14 ∧ p15 ∧ p16 ∧ p17 ∧ p18 ∧ p19 ∧ p20 ∧ p21 ∧ p22 ∧ p23 ∧ p24 ∧ p25:=⟨h0,h1,h2,h3,h4,h5,h6,h7,h8,h9,h10,h11,h12,h13,h14,h15,h16,h17,h18,h19,h20,h21,h22,h23,h24,h25⟩
theorem Xa {A B F:Prop} (f:F) (b:B) (h:F → Yh B → A:=by
 intro f Y0
 repeat (any_goals (first
 | (with_reducible first|refine a0v ?_|((refine a9c ?_); first|refine zA ?_|refine zB ?_|refine zC ?_|refine zD ?_|refine zE ?_|((refine a6c ?_); first|refine zF ?_|refine zG ?_|refine zH (fun hg=>?_) fun hg=>?_|refine zI ?_|refine zJ ?_|refine zK (fun hg=>?_) fun hg=>?_)|((refine c4p ?_); first|refine zL ?_|refine zM ?_|refine zO ?_|refine zP ?_|refine zQ (fun hg=>?_) fun hg=>?_)|refine zV ?_|refine zW ?_|refine zX (fun hg=>?_) fun hg=>?_)|((refine a2x ?_); first|refine yB ?_|refine yC ?_|refine yD ?_|refine yE ?_|refine yF ?_|refine yG ?_|refine yJ ?_|refine yK ?_)|((refine a1n ?_); first|refine yL ?_|refine yM ?_|refine yN ?_|refine yO ?_|refine yP (fun hg=>?_) fun hg=>?_|refine yQ ?_|refine yR ?_|refine yS (fun hg=>?_) fun hg=>?_))
 | ((with_reducible refine oG fun X Y=>?_); simp [go_sem,f]; (try simp (disch:=omega) only [a0u,a2y,a1r]); (first|refine Y _ _ ?_|refine And.intro (by omega) (Y _ _ ?_)); clear Y X)))
 exact Y0.o):A:=h f ⟨b⟩
theorem Xa0 {A B:Prop} (b:B) (h:Yh B → A:=by
 intro Y0
 repeat (any_goals (first
 | (with_reducible first|refine a0v ?_|((refine a9c ?_); first|refine zA ?_|refine zB ?_|refine zC ?_|refine zD ?_|refine zE ?_|((refine a6c ?_); first|refine zG ?_|refine zI ?_|refine zJ ?_))|((refine a2x ?_); first|refine yB ?_|refine yC ?_|refine yD ?_|refine yE ?_|refine yF ?_)|((refine a1n ?_); first|refine yL ?_|refine yM ?_|refine yN ?_|refine yO ?_|refine yP (fun hg=>?_) fun hg=>?_|refine yQ ?_|refine yR ?_))
 | ((with_reducible refine oG fun X Y=>?_); simp [go_sem]; (try simp (disch:=omega) only [a0u,a2y,a1r]); (first|refine Y _ _ ?_|refine And.intro (by omega) (Y _ _ ?_)); clear Y X)))
 exact Y0.o):A:=h ⟨b⟩
theorem Xb1 {A B F:Prop} (f:F) (b:B) (h:F → Yh B → A:=by
 intro f Y0
 iterate 1 (any_goals ((with_reducible refine oG fun X Y=>?_); simp [go_sem,f]; apply Y; clear Y X))
 exact Y0.o):A:=h f ⟨b⟩
theorem h3h {A B F:Prop} (f:F) (b:B) (h:F → Yh B → A:=by
 intro f Y0
 iterate 10 (any_goals (first
 | (with_reducible first|refine zC ?_|refine yC ?_|refine yM ?_)
 | ((with_reducible refine oG fun X Y=>?_); simp [go_sem,f]; (try simp (disch:=omega) only [a0u,a2y,a1r]); apply Y; clear Y X)))
 exact Y0.o):A:=h f ⟨b⟩
theorem h3i {A B F:Prop} (f:F) (b:B) (h:F → Yh B → A:=by
 intro f Y0
 iterate 12 (any_goals (first
 | (with_reducible first|refine a0v ?_|refine zC ?_|refine yC ?_)
 | ((with_reducible refine oG fun X Y=>?_); simp [go_sem,f]; apply Y; clear Y X)))
 exact Y0.o):A:=h f ⟨b⟩
theorem a5q {A B:Prop} (b:B) (h:Yh B → A:=by
 intro Y0
 iterate 1 (any_goals (first
 | (with_reducible first|refine a0v ?_|((refine a9c ?_); first|refine zA ?_|refine zC ?_))
 | ((with_reducible refine oG fun X Y=>?_); simp [go_sem]; apply Y; clear Y X)))
 exact Y0.o):A:=h ⟨b⟩
theorem Xb2 {A B F:Prop} (f:F) (b:B) (h:F → Yh B → A:=by
 intro f Y0
 iterate 2 (any_goals (first
 | (with_reducible refine yL ?_)
 | ((with_reducible refine oG fun X Y=>?_); simp [go_sem,f]; apply Y; clear Y X)))
 exact Y0.o):A:=h f ⟨b⟩
theorem b2c {A B:Prop} (b:B) (h:Yh B → A:=by
 intro Y0
 iterate 2 (any_goals (first
 | (with_reducible first|((refine b5d ?_); refine a4w fun _=>?_)|((refine a9c ?_); first|refine zA ?_|refine zC ?_))
 | ((with_reducible refine oG fun X Y=>?_); simp [go_sem]; apply Y; clear Y X)))
 exact Y0.o):A:=h ⟨b⟩
theorem Xb3 {A B F:Prop} (f:F) (b:B) (h:F → Yh B → A:=by
 intro f Y0
 iterate 3 (any_goals ((with_reducible refine oG fun X Y=>?_); simp [go_sem,f]; apply Y; clear Y X))
 exact Y0.o):A:=h f ⟨b⟩
theorem g9p {A B:Prop} (b:B) (h:Yh B → A:=by
 intro Y0
 iterate 3 (any_goals ((with_reducible refine oG fun X Y=>?_); simp [go_sem]; apply Y; clear Y X))
 exact Y0.o):A:=h ⟨b⟩
theorem Xb4 {A B F:Prop} (f:F) (b:B) (h:F → Yh B → A:=by
 intro f Y0
 iterate 4 (any_goals (first
 | (with_reducible ((refine a1n ?_); first|refine yL ?_|refine yM ?_))
 | ((with_reducible refine oG fun X Y=>?_); simp [go_sem,f]; apply Y; clear Y X)))
 exact Y0.o):A:=h f ⟨b⟩
theorem g7f {A B:Prop} (b:B) (h:Yh B → A:=by
 intro Y0
 iterate 4 (any_goals (first
 | (with_reducible first|refine pX ?_|((refine b5d ?_); refine a4w fun _=>?_)|refine zA ?_)
 | ((with_reducible refine oG fun X Y=>?_); simp [go_sem]; (try simp (disch:=omega) only [a0u,a2y,a1r]); apply Y; clear Y X)))
 exact Y0.o):A:=h ⟨b⟩
theorem g0t {A B:Prop} (b:B) (h:Yh B → A:=by
 intro Y0
 iterate 5 (any_goals (first
 | (with_reducible first|refine pX ?_|((refine b5d ?_); refine a4w fun _=>?_)|((refine a9c ?_); first|refine zA ?_|refine zC ?_))
 | ((with_reducible refine oG fun X Y=>?_); simp [go_sem]; apply Y; clear Y X)))
 exact Y0.o):A:=h ⟨b⟩
theorem Xb6 {A B F:Prop} (f:F) (b:B) (h:F → Yh B → A:=by
 intro f Y0
 iterate 6 (any_goals (first
 | (with_reducible first|refine a0v ?_|refine zC ?_|refine yC ?_|refine yM ?_)
 | ((with_reducible refine oG fun X Y=>?_); simp [go_sem,f]; apply Y; clear Y X)))
 exact Y0.o):A:=h f ⟨b⟩
theorem Xc {A B:Prop} {V:World} {G:WK} (g:(∀ w,Nx V w → G w)) (b:B) (h:(∀ w,Nx V w → G w) → Yh B → A:=by
 intro g Y0
 repeat (any_goals (first
 | (with_reducible first|refine pX ?_|((refine b5d ?_); refine a4w fun _=>?_)|((refine a9c ?_); first|refine zB ?_|refine zD ?_)|refine yL ?_)
 | ((with_reducible refine g1u ?_); (with_reducible refine e3d ⟨_,rfl⟩ (fun W0 hW0=>by (refine oG (fun X Y=>?_)); simp [go_sem,g W0 hW0]; (first | exact Y _ _ ⟨rfl,rfl⟩ | exact ⟨by omega,Y _ _ ⟨rfl,rfl⟩⟩)) ?_))
 | ((with_reducible refine b4u ?_); first|(with_reducible first|refine vA ?_|refine a4g ?_)|(with_reducible refine a3h ⟨_,rfl⟩ (fun W0 hW0=>by (refine oG (fun X Y=>?_)); simp [go_sem,g W0 hW0]; (first | exact Y _ _ ⟨rfl,rfl⟩ | exact ⟨by omega,Y _ _ ⟨rfl,rfl⟩⟩)) ?_))))
 exact Y0.o):A:=h g ⟨b⟩
theorem Xc0 {A B:Prop} (b:B) (h:Yh B → A:=by
 intro Y0
 repeat (any_goals (first
 | (with_reducible first|refine a0v ?_|((refine a9c ?_); first|refine zA ?_|refine zB ?_|refine zC ?_|refine zD ?_)|((refine a2x ?_); first|refine yB ?_|refine yC ?_)|((refine a1n ?_); first|refine yL ?_|refine yM ?_|refine yN ?_|refine yO ?_|refine yP (fun hg=>?_) fun hg=>?_|refine yS (fun hg=>?_) fun hg=>?_))
 | ((with_reducible refine oG fun X Y=>?_); simp [go_sem]; (try simp (disch:=omega) only [a0u,a2y,a1r]); (first|refine Y _ _ ?_|refine And.intro (by omega) (Y _ _ ?_)); clear Y X)))
 exact Y0.o):A:=h ⟨b⟩
theorem Xd {A B:Prop} {V:World} {G:WK} (g:(∀ w,Nx V w → G w)) (b:B) (h:(∀ w,Nx V w → G w) → Yh B → A:=by
 intro g Y0
 repeat (apply a2l; focus (intro w9 h9; (repeat (intro v9 e9; try (obtain rfl:=e9))); (repeat (any_goals (first
  | (with_reducible first|refine a0v ?_|refine zC ?_|refine yC ?_)
  | ((with_reducible refine oG fun X Y=>?_); simp [go_sem,g w9 h9]; apply Y; clear Y X)))); exact ⟨h9,bR,rfl⟩))
 exact Y0.o):A:=h g ⟨b⟩
theorem Xd0 {A B:Prop} (b:B) (h:Yh B → A:=by
 intro Y0
 repeat (apply a2l; focus (intro w9 h9; (repeat (intro v9 e9; try (obtain rfl:=e9))); (repeat (any_goals (first
  | (with_reducible first|refine a0v ?_|((refine a9c ?_); first|refine zA ?_|refine zB ?_|refine zC ?_|refine zD ?_)|((refine a2x ?_); first|refine yB ?_|refine yC ?_))
  | ((with_reducible refine oG fun X Y=>?_); simp [go_sem]; apply Y; clear Y X)))); exact ⟨h9,bR,rfl⟩))
 exact Y0.o):A:=h ⟨b⟩
theorem Xf {A B F:Prop} {V:World} {G:WK} (g:(∀ w,Nx V w → G w)) (f:F) (b:B) (h:(∀ w,Nx V w → G w) → F → Yh B → A:=by
 intro g f Y0
 repeat (any_goals (first
 | (with_reducible first|refine pX ?_|((refine b5d ?_); refine a4w fun _=>?_)|((refine a9c ?_); first|refine zA ?_|refine zB ?_|refine zC ?_|refine zD ?_|((refine a6c ?_); first|refine zG ?_|refine zI ?_))|((refine a1n ?_); first|refine yL ?_|refine yM ?_))
 | ((with_reducible refine b4u ?_); first|(with_reducible first|refine vA ?_|refine vB ?_|refine vD ?_|refine a4g ?_)|(with_reducible refine a3h ⟨_,rfl⟩ (fun W0 hW0=>by (refine oG (fun X Y=>?_)); simp [go_sem,g W0 hW0,f]; (first | exact Y _ _ ⟨rfl,rfl⟩ | exact ⟨by omega,Y _ _ ⟨rfl,rfl⟩⟩)) ?_))))
 exact Y0.o):A:=h g f ⟨b⟩
theorem Xg {A B F:Prop} (f:F) (b:B) (h:F → Yh B → A:=by
 intro f Y0
 repeat (any_goals (first
 | (with_reducible first|refine a0v ?_|refine c1t ?_|((refine f0x ?_); refine b5o fun _=>?_)|refine And.intro (Eq.refl (α:=World) _) ?_|refine b9z ?_|((refine a9c ?_); first|refine zC ?_|refine zD ?_|((refine a6c ?_); first|refine zF ?_|refine zG ?_|refine zI ?_|refine zJ ?_|refine zK (fun hg=>?_) fun hg=>?_)|((refine c4p ?_); first|refine zO ?_|refine zP ?_|refine zQ (fun hg=>?_) fun hg=>?_)|refine zV ?_|refine zW ?_|refine zX (fun hg=>?_) fun hg=>?_|refine zY ?_|refine zZ ?_|refine yA (fun hg=>?_) fun hg=>?_)|((refine a2x ?_); first|refine yB ?_|refine yC ?_|refine yD ?_|refine yE ?_|refine yJ ?_|refine yK ?_)|((refine a1n ?_); first|refine yL ?_|refine yM ?_|refine yN ?_|refine yO ?_|refine yP (fun hg=>?_) fun hg=>?_|refine yQ ?_|refine yR ?_|refine yS (fun hg=>?_) fun hg=>?_|refine yY (fun hg=>?_) fun hg=>?_))
 | ((with_reducible refine g1u ?_); first|(with_reducible first|refine wA ?_|refine wB ?_|refine wE ?_|refine wF ?_|refine g7c ?_)|((with_reducible refine f8c ?_ ?_); exact ⟨_,rfl⟩)|(with_reducible refine e3d ⟨_,rfl⟩ (fun W0 hW0=>by (refine oG (fun X Y=>?_)); simp [go_sem,f]; (first | exact Y _ _ ⟨rfl,rfl⟩ | exact ⟨by omega,Y _ _ ⟨rfl,rfl⟩⟩)) ?_))
 | ((with_reducible refine oG fun X Y=>?_); simp [go_sem,f]; (try simp (disch:=omega) only [a0u,a2y,a1r]); (first|refine Y _ _ ?_|refine And.intro (by omega) (Y _ _ ?_)); clear Y X)))
 exact Y0.o):A:=h f ⟨b⟩
theorem Xh {A B F:Prop} {V:World} {G:WK} (g:(∀ w,Nx V w → G w)) (f:F) (b:B) (h:(∀ w,Nx V w → G w) → F → Yh B → A:=by
 intro g f Y0
 repeat (apply a2l; focus (intro w9 h9; (repeat (intro v9 e9; try (obtain rfl:=e9))); (repeat (any_goals (first
  | (with_reducible first|refine a0v ?_|((refine a9c ?_); first|refine zC ?_|refine zD ?_)|((refine a2x ?_); first|refine yB ?_|refine yC ?_))
  | ((with_reducible refine oG fun X Y=>?_); simp [go_sem,g w9 h9,f]; apply Y; clear Y X)))); exact ⟨h9,bR,rfl⟩))
 exact Y0.o):A:=h g f ⟨b⟩
end
end Go.Sh
namespace Go.Proofs
open Go Go.Sh Tryz
theorem nB {a b:Nat} (h:Nat.ble a b = true):a ≤ b:=Nat.le_of_ble_eq_true h
abbrev kL (t:TypeId) (x:Value):=oM prog (.load t (.tmp 0)) t [x]
abbrev kF (t:TypeId) (i:Nat) (x:Value):=oM prog (.fieldAddr t (.tmp 0) i) 0 [x]
abbrev kI (t:TypeId) (x y:Value):=oM prog (.indexAddr t (.tmp 0) (.tmp 1)) 0 [x,y]
abbrev kB (o:BinOp) (t r:TypeId) (x y:Value):=oM prog (.binOp o t (.tmp 0) (.tmp 1) t) r [x,y]
abbrev kC (o:BinOp) (t:TypeId) (c:Int) (r:TypeId) (x:Value):=oM prog (.binOp o t (.tmp 0) (.const (.int .i64 c)) t) r [x]
abbrev kP (a b c:Value):=oM prog (.pick (.tmp 0) (.tmp 1) (.tmp 2)) 4 [a,b,c]
abbrev kN (t:TypeId) (x:Value):=oM prog (.call (Call.mk (.builtin .len) #[(.tmp 0)] #[t])) 3 [x]
abbrev kE (i:Nat) (t:TypeId) (x:Value):=oM prog (.extract (.tmp 0) i) t [x]
abbrev kU (x:Value):=oM prog (.unOp .not 4 (.tmp 0)) 4 [x]
abbrev jL (t:TypeId) (x:Value):=oH prog (.load t (.tmp 0)) t [x]
abbrev jF (t:TypeId) (i:Nat) (x:Value):=oH prog (.fieldAddr t (.tmp 0) i) 0 [x]
abbrev jI (t:TypeId) (x y:Value):=oH prog (.indexAddr t (.tmp 0) (.tmp 1)) 0 [x,y]
abbrev jB (o:BinOp) (t r:TypeId) (x y:Value):=oH prog (.binOp o t (.tmp 0) (.tmp 1) t) r [x,y]
abbrev jC (o:BinOp) (t:TypeId) (c:Int) (r:TypeId) (x:Value):=oH prog (.binOp o t (.tmp 0) (.const (.int .i64 c)) t) r [x]
abbrev jP (a b c:Value):=oH prog (.pick (.tmp 0) (.tmp 1) (.tmp 2)) 4 [a,b,c]
abbrev jN (t:TypeId) (x:Value):=oH prog (.call (Call.mk (.builtin .len) #[(.tmp 0)] #[t])) 3 [x]
abbrev jE (i:Nat) (t:TypeId) (x:Value):=oH prog (.extract (.tmp 0) i) t [x]
abbrev jU (x:Value):=oH prog (.unOp .not 4 (.tmp 0)) 4 [x]
abbrev kS (t:TypeId) (a v:Value):=oM prog (.store t (.tmp 0) (.tmp 1)) 0 [a,v]
abbrev kA (t:TypeId):=oM prog (.alloc t) 0 []
abbrev gT (v:Value):=gdM (gd v true)
abbrev gF (v:Value):=gdM (gd v false)
abbrev jT (v:Value):=gdH (gd v true)
abbrev jG (v:Value):=gdH (gd v false)
abbrev kO (v:Value) (A B:World → Prop) (w:World):Prop:=a2c v (A w) (B w)
abbrev kQ (I:List Value) (F:(List Value → World → Prop) → (List Value → World → Nat) → List Value → Env → WK) (w:World):Prop:=e1w I w F
abbrev kH (F:WK → WK) (w:World):Prop:=f0r w F
abbrev kR (t:TypeId) (v:Value) (K:VK) (w:World):Prop:=∃ r,(do loadVar t (← asAddr v):Sem Value).run prog w = .ok r w ∧ K r w
abbrev kJ (J:List Value → World → Prop) (m:List Value → World → Nat) (l:List Value) (w0:World) (x:List Value) (w:World):Prop:=J x w ∧ m x w < m l w0
abbrev xK (C:World → Prop) (S:World → World → Prop) (R:VK) (w:World):VK:=fun v w1=>C w1 ∧ S w w1 ∧ R v w1
abbrev xR (S:World → World → Prop) (F:VK → Prop):Prop:=∃ R:VK,(∀ v w w1,S w w1 → R v w → R v w1) ∧ F R
def okZ (P:Program) (q:Nat → Md) (fn:Func) (n:Nat):Bool:=match fn.body with | some c=>a4d P q c && Nat.ble n fn.ntmps | none=>false
def coZ (P:Program) (q:Nat → Md) (fn:Func) (args:List Value) (K:VK) (w:World):Prop:=match fn.body with | some c=>c2q P q fn.ntmps c (c1f args) (h1y P fn.results.toList K) w | none=>False
theorem cZ (q:Nat → Md) {f:FuncId} {fn:Func} (hf:prog.funcs[f]? = some fn) {args:List Value} {K:VK} {w:World} {G:Prop} (h:G) (h1:okZ prog q fn args.length = true:=by kernel_rfl) (h2:G = coZ prog q fn args K w:=by kernel_rfl):a0a prog f args.toArray K w:=by
 unfold okZ at h1
 rw [h2] at h
 unfold coZ at h
 cases hb:fn.body with
 | none=>rw [hb] at h1; cases h1
 | some c=>
  rw [hb] at h h1
  simp only [Bool.and_eq_true] at h1
  exact c1g q hf hb (by simp) h1.1 (nB h1.2) h
def mz:List (Nat × Md) → Nat → Md
 | [],_=>0
 | (n,m) :: r,i=>bif Nat.beq i n then m else mz r i
def fz (a b c:Nat):Md:=.free (List.range a) ((List.range b).map (a + ·)) ((List.range c).map (a + b + ·))
end Go.Proofs
