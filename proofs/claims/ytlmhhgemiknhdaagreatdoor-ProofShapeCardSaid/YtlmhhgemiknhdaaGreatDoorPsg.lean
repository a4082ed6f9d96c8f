/- Parts of the proof of the seat's statements (LwG, LwH, HL7t, LwI, LwK, LwJ, LwL, RK5): lemmas about the given translation and plain laws. No condition of their own. -/
import Derived.Test.YtlmhhgemiknhdaaGreatDoorPsf
import Derived.Test.YtlmhhgemiknhdaaGreatDoorProg
set_option linter.all false
set_option maxRecDepth 100000
namespace Go.Proofs
open Go Go.Sh Go.RowKit FdSpec TkSpec CodeSpec PrSpec FdPoly
section
variable {K:Value → World → Prop} {w w' w0 W W' We W1 W2:World} {L:List (Addr × Value)} {g n B b i:Nat} {row:Option Nat}
def bump (row:List Int) (k:Nat) (by_:Int):List Int:=row.set (k % row.length) (row.getD (k % row.length) 0 + by_)
def withL (l:List (List Int)) (i k:Nat) (by_:Int):List (List Int):=l.set i (bump (l.getD i []) k by_)
def withB (l:List (List Int)) (i:Nat):Bool:=decide (i < l.length) && !decide ((l.getD i []).length = 0)
theorem withL_at {l:List (List Int)} {k:Nat} {by_:Int} {j:Nat} {r:List Int} (h:l[j]? = some r):(withL l i k by_)[j]? = some (if j = i then bump r k by_ else r):=by
 unfold withL
 rw [List.getElem?_set]
 have hj:=(List.getElem?_eq_some_iff.1 h).1
 by_cases hij:i = j
 ·subst hij
  rw [if_pos rfl,if_pos hj,if_pos rfl,List.getD_eq_getElem?_getD,h]; rfl
 ·rw [if_neg hij,if_neg (fun e=>hij e.symm),h]
theorem withB_succ {l:List (List Int)} {j:Nat}:(decide (i < j + 1) && withB l i) = ((decide (i < j) && withB l i) || (decide (j = i) && withB l i)):=by
 by_cases h:i < j
 ·simp [h,show i < j + 1 by omega]
 ·by_cases h2:j = i
  ·simp [h2]
  ·simp [h,h2,show ¬ i < j + 1 by omega]
def WthJ (T:List (List Int)) (i:Nat) (dn:Bool) (w0:World) (vs:List Value) (W:World):Prop:=Below w0.heap.size w0 W ∧ ∃ (u v:Value) (n:Nat) (D:Nat → Prop),vs = [u,.bool (decide (i < n) && dn),v,.int .i64 (n:Int)] ∧ n ≤ T.length ∧ ExI w0.heap.size (.slice none 0 0) v D W [] (T.take n)
def wthMu (m:Nat) (vs:List Value) (_:World):Nat:=match vs with | [_,_,_,.int _ n]=>m - n.toNat | _=>0
theorem _root_.Go.Proofs.ExI.below' {dv nv:Value} {D:Nat → Prop} {dr:List Int} {nl:List (List Int)} {o:Option Nat} (h:ExI B dv nv D W dr nl) (hg:W.grownBy W' o) (ho:∀ j,o = some j → ¬ D j ∧ dv.ownBlock ≠ some j ∧ nv.ownBlock ≠ some j):ExI B dv nv D W' dr nl:=
 ⟨owns_keep h.d (fun i hi=>hg.block i (owns_own h.d hi).1 (fun e=>(ho i (by first | exact e | exact e.symm)).2.1 hi)),h.n.keep (Fr.of_by' hg) (fun j hj=>⟨(h.on j hj).1,fun e=>(ho j e).1 hj⟩) (fun j hj e=>(ho j e).2.2 hj),h.od.next hg.size,h.on.next hg.size,h.ap,h.low⟩
theorem with_ok (l:List (List Int)) (i k:Nat) (by_:Int) {lv:Value} (hl:ListsR w lv l) (hlen:l.length < 1000000) (hrl:∀ r ∈ l,r.length < 1000000) (hk:k < 1000000) (hi:i < 1000000) (hby:∀ r ∈ l,∀ x ∈ r,I64 (x + by_))
  (kk:∀ v w',Below w.heap.size w w' → (∃ ad c,v = .slice ad l.length c) → Fresh w w' (fun w=>ListsR w v (withL l i k by_)) → K (.tuple #[v,.bool (withB l i)]) w'):callM Tryz.prog 37 #[lv,.int .i64 i,.int .i64 k,.int .i64 by_] K w:=by
 apply sh_37f_ok
 unfold sh_37f
 have hl':=hl
 obtain ⟨lad,lc,rfl⟩:=hl.isSlice
 refine mkL0 (fun oad oc W1 h1 hL1=>?_)
 have hTl:(withL l i k by_).length = l.length:=by unfold withL; simp
 refine ⟨WthJ (withL l i k by_) i (withB l i) w,wthMu l.length,⟨h1,_,_,0,fun _=>False,rfl,by omega,⟨own_none,by simpa using hL1,fun j h=>h.elim,fun j h=>h.elim,(fun j h=>by cases h),fun j h=>h.elim⟩⟩,?_⟩
 rintro _ _ W2 ⟨h2,u,v,n,D,rfl,hn,hE⟩
 rw [hTl] at hn
 unfold loop_37_2
 obtain ⟨vad,vc,rfl⟩:=hE.n.isSlice
 by_cases hnn:n = l.length
 ·subst hnn
  have e:(decide (i < l.length) && withB l i) = withB l i:=by unfold withB; simp
  repeat (any_goals (first
  | (with_reducible refine yM ?_)
  | ((with_reducible refine oM_gen fun Kv hK=>?_); simp [go_sem]; refine hK _ _ ?_; clear hK Kv)))
  rw [e]
  rw [List.take_of_length_le (by omega)] at hE ⊢
  have hf:=(hE.n.fp (by decide) (by omega)).mono (E:=fun j=>w.heap.size ≤ j ∧ j < W2.heap.size) (fun j hj=>hj.elim (fun h=>⟨hE.low j h,(hE.on j h).1⟩) (fun h=>⟨(hE.n.own h).2,(hE.n.own h).1⟩))
  exact kk (.slice vad (withL l i k by_).length vc) _ h2 ⟨vad,vc,by rw [hTl]⟩ hf
 have hnl:n < l.length:=by omega
 have hni:(n:Int) < l.length:=by omega
 have er:l[n]? = some l[n]:=List.getElem?_eq_getElem hnl
 have hTn:=withL_at (i:=i) (k:=k) (by_:=by_) er
 have hrow:=hrl _ (List.getElem_mem hnl)
 have hrby:=hby _ (List.getElem_mem hnl)
 have hwb:n = i → withB l i = !decide (l[n].length = 0):=by
  rintro rfl
  unfold withB
  rw [decide_eq_true hnl,List.getD_eq_getElem?_getD,er]; rfl
 have hstep:=withB_succ (i:=i) (l:=l) (j:=n)
 obtain ⟨bl,ol,rfl,hltl,csl,_,hcelll,vl,rfl,hrowl⟩:=hl'.at (i:=n) hnl
 have cl:=hcelll 0 _ rfl
 simp only [Nat.add_zero,Nat.mul_one] at cl
 generalize l[n] = r at *
 obtain ⟨rad,rc,hrv⟩:=id hrowl.isSlice
 iterate 3 (any_goals (first
 | (with_reducible refine yN ?_)
 | ((with_reducible refine oM_gen fun Kv hK=>?_); simp [go_sem]; refine hK _ _ ?_; clear hK Kv)))
 refine mkI0 (fun zad zc W3 h3 ho3=>?_)
 subst hrv
 repeat (any_goals ((with_reducible refine oM_gen fun Kv hK=>?_); simp [go_sem,((h2.on h3).cell hltl).trans cl,hni]; refine hK _ _ ?_; clear hK Kv))
 have hI3:=hrowl.next (h2.on h3)
 refine appendNg ho3 (by have:=h3.size; omega) hI3 (by simp; omega) (fun v4 W4 ho4 h4 hv4=>?_)
 have h24:=(h2.on h3).grown h4 (by have:=h3.size; have:=h2.size; omega) (fun j hj=>by have:=(owns_own ho3 hj).2.1; have:=h2.size; omega)
 have hE4:=(hE.next h3).below' h4 (fun j hj=>by
  have hj1:=(owns_own ho3 hj).2.1
  exact ⟨fun h=>by have:=(hE.on j h).1; omega,(fun h=>by cases h),fun h=>by have:=(hE.n.own h).1; omega⟩)
 have hv4':∀ j,v4.ownBlock = some j → W2.heap.size ≤ j:=fun j hj=>(owns_own ho4 hj).2.1
 rw [List.nil_append] at ho4
 obtain ⟨fad,fc,rfl⟩:=owns_len ho4
 have hTe:(withL l i k by_)[n]? = some (if n = i then bump r k by_ else r):=hTn
 skip
 refine ⟨fun l' W'=>l' = [.bool (decide (i < n + 1) && withB l i)] ∧ Below w.heap.size w W' ∧ W2.heap.size ≤ W'.heap.size ∧ OwnI W' W2.heap.size (.slice fad r.length fc) (if n = i then bump r k by_ else r) ∧ ExI w.heap.size (.slice none 0 0) (.slice vad (List.take n (withL l i k by_)).length vc) D W' [] ((withL l i k by_).take n),?_,?_⟩
 ·by_cases hni2:n = i
  ·subst hni2
   have hwb:=hwb rfl
   by_cases hr0:r = []
   ·subst hr0
    repeat (any_goals (first
    | (with_reducible first|refine pureM_in ?_|refine zA ?_|refine yB ?_|refine yM ?_)
    | ((with_reducible refine oM_gen fun Kv hK=>?_); simp [go_sem]; refine hK _ _ ?_; clear hK Kv)))
    refine ⟨?_,h24,by have:=h3.size; have:=h4.size; omega,?_,hE4⟩
    ·rw [hwb]; simp
    ·simpa [bump] using ho4
   ·have hrl0:0 < r.length:=List.length_pos_iff.2 hr0
    have hrp:(0:Int) < r.length:=by omega
    have hrz:¬ ((r.length:Int) = 0):=by omega
    have hmod:((k:Int)).tmod (r.length:Int) = ((k % r.length:Nat):Int):=rfl
    have hkl:k % r.length < r.length:=Nat.mod_lt _ hrl0
    have hkl':((k % r.length:Nat):Int) < r.length:=by omega
    have hx:r[k % r.length]? = some r[k % r.length]:=List.getElem?_eq_getElem hkl
    have hxI:=hrby _ (List.getElem_mem hkl)
    have hbp:bump r k by_ = r.set (k % r.length) (r[k % r.length] + by_):=by
     unfold bump
     rw [List.getD_eq_getElem?_getD,hx]; rfl
    obtain ⟨gx,rfl,hR⟩:=RowP.of ho4 hr0
    have hwx:IntKind.i64.wrap (r[k % r.length] + by_) = r[k % r.length] + by_:=by unfold I64 at hxI; exact wrapI64 _ (by omega) (by omega)
    have hkn0:(0:Int) ≤ ((k % r.length:Nat):Int):=by omega
    generalize r[k % r.length] = x at *
    generalize hkm:k % r.length = km at *
    repeat (any_goals (first
    | (with_reducible first|refine pureM_in ?_|refine zA ?_|refine yB ?_|refine yN ?_)
    | ((with_reducible refine oM_gen fun Kv hK=>?_); simp [go_sem,hrp]; refine hK _ _ ?_; clear hK Kv)))
    unfold held_37_18
    have hodr:Below W4.heap.size W4 { W4 with drawn:=W4.drawn + 1 }:=.drawn
    have hR9:=hR.next hodr
    have hE9:=hE4.next hodr
    have h249:=h24.on hodr
    have hs4:W2.heap.size ≤ ({ W4 with drawn:=W4.drawn + 1 }:World).heap.size:=by show W2.heap.size ≤ W4.heap.size; have:=h3.size; have:=h4.size; omega
    refine ⟨Nx { W4 with drawn:=W4.drawn + 1 },Below.refl _ _,rfl,?_⟩
    generalize ({ W4 with drawn:=W4.drawn + 1 }:World) = W9 at hR9 hE9 h249 hs4 ⊢
    repeat (any_goals (first
    | (with_reducible refine pureH_in ?_)
    | ((with_reducible refine idOH ?_); (with_reducible refine oH_of ⟨_,rfl⟩ (fun W0 hW0=>by (refine oM_gen (fun Kv hK=>?_)); simp [go_sem,(hR9.next hW0).cell hx,hrz,hmod,hkl',hkn0]; (first | exact hK _ _ ⟨rfl,rfl⟩ | exact ⟨by omega,hK _ _ ⟨rfl,rfl⟩⟩)) ?_))))
    refine ⟨Nx,fun w10 h10=>?_⟩
    rw [hwx]
    refine (hR9.next h10).set (i:=km) hkl (fun W11 hg11 hR11=>?_)
    skip
    have hgx:=hR9.base
    have hgl:=hR9.lt
    have ho11:=hR11.owns
    rw [List.length_set] at ho11
    refine ⟨?_,(h249.on h10).grown hg11 (h249.on h10).size (fun j hj=>by cases hj; have:=h2.size; omega),by have:=h10.size; have:=hg11.size; omega,?_,(hE9.next h10).below' hg11 (fun j hj=>?_)⟩
    ·rw [hwb]; simp [hr0]
    ·rw [if_pos rfl,hbp]; exact ho11
    ·cases hj
     exact ⟨fun h=>by have:=(hE.on _ h).1; omega,(fun h=>by cases h),fun h=>by have:=(hE.n.own h).1; omega⟩
  ·have hni3:¬ (n:Int) = i:=by omega
   repeat (any_goals (first
   | (with_reducible first|refine zB ?_|refine yC ?_|refine yM ?_)
   | ((with_reducible refine oM_gen fun Kv hK=>?_); simp [go_sem,hni3]; refine hK _ _ ?_; clear hK Kv)))
   refine ⟨?_,h24,by have:=h3.size; have:=h4.size; omega,by simpa [hni2] using ho4,hE4⟩
   rw [show decide (i < n + 1) = decide (i < n) from decide_eq_decide.2 (by omega)]
   rfl
 ·rintro _ _ W5 ⟨rfl,hb5,hs5,ho5,hE5⟩
  have hTI:∀ x ∈ (if n = i then bump r k by_ else r),I64 x:=by
   intro x hx
   by_cases hni2:n = i
   ·rw [if_pos hni2] at hx
    by_cases hr0:r = []
    ·subst hr0; simp [bump] at hx
    ·unfold bump at hx
     have hkl:k % r.length < r.length:=Nat.mod_lt _ (List.length_pos_iff.2 hr0)
     rcases List.mem_or_eq_of_mem_set hx with h | h
     ·exact hrowl.rng x h
     ·rw [h,List.getD_eq_getElem?_getD,List.getElem?_eq_getElem hkl]
      exact hrby _ (List.getElem_mem hkl)
   ·rw [if_neg hni2] at hx
    exact hrowl.rng x hx
  have hTn2:(if n = i then bump r k by_ else r).length = r.length:=by split <;> simp [bump]
  generalize (if n = i then bump r k by_ else r) = R at *
  refine lit_ints _ _ _ (fun gl W6 h6 hgl hh6=>?_)
  have hE6:=hE5.next h6
  have ho6:=ho5.keep h6
  have hf5:=(ho5.ints hTI (by omega)).fp
  refine hE6.push (E:=fun j=>W2.heap.size ≤ j ∧ j < W5.heap.size) (by have:=hb5.size; have:=h6.size; omega) hh6 ((hf5.mono (E:=fun j=>W2.heap.size ≤ j ∧ j < W5.heap.size) (fun j hj=>⟨(owns_own ho5 (own_inB ho5 hj.1)).2.1,hj.2⟩)).next h6 (fun j hj=>hj.2)) (fun j hj=>⟨by have:=h2.size; omega,by have:=h6.size; omega,(fun e=>by cases e),fun e=>by have:=(hE.n.own e).1; omega⟩) (by rw [List.length_take]; omega) (fun nv7 W7 hg7 hnb hE7=>?_)
  rw [take_snoc2 hTe] at hE7
  repeat (any_goals ((with_reducible refine oM_gen fun Kv hK=>?_); simp [go_sem]; (try simp (disch:=omega) only [wrapI64,wrapU8,wrapU32,wrapU64]); refine hK _ _ ?_; clear hK Kv))
  exact ⟨⟨(hb5.on h6).grown hg7 (hb5.on h6).size (fun j hj=>hnb j hj),_,_,n + 1,_,rfl,by omega,hE7⟩,by show l.length - (((n + 1:Nat):Int)).toNat < l.length - ((n:Nat):Int).toNat; omega⟩
end
end Go.Proofs
namespace Go.Proofs
open Go Go.Sh Go.RowKit FdSpec TkSpec CodeSpec PrSpec FdPoly
section
variable {K:Value → World → Prop} {w w' w0 W W' We W1 W2:World} {g n B b i:Nat}
variable {α:Type} {e:TypeId} {R:World → Value → α → Prop} {D:Nat → Prop} {v:Value} {l:List α}
def cl1 (u:Value):Cl 1:=⟨[u],rfl⟩
theorem flat_len1 (cs:List (Cl 1)):(flat Cl.cs cs).length = cs.length:=by
 induction cs with
 | nil=>rfl
 | cons c cs ih=>rw [flat_cons,List.length_append,ih,cl_len]; simp; omega
theorem flat_set1:∀ (cs:List (Cl 1)) (i:Nat) (u:Value),flat Cl.cs (cs.set i (cl1 u)) = (flat Cl.cs cs).set i u
 | [],i,u=>rfl
 | c :: cs,0,u=>by
  rw [List.set_cons_zero,flat_cons,flat_cons]
  obtain ⟨l,hl⟩:=c
  match l,hl with
  | [y],_=>rfl
 | c :: cs,i + 1,u=>by
  rw [List.set_cons_succ,flat_cons,flat_cons,flat_set1 cs i u]
  obtain ⟨l,hl⟩:=c
  match l,hl with
  | [y],_=>rfl
theorem flat_map1:∀ (xs:List Value),flat Cl.cs (xs.map cl1) = xs
 | []=>rfl
 | x :: xs=>by rw [List.map_cons,flat_cons,flat_map1 xs]; rfl
theorem _root_.Go.Sh.GRow.set {P:Program} {T':TypeId} {m c:Nat} {u:Value} {x:α} (h:GRow 1 e (VOne R) B D w (.slice (some ⟨g,0,none⟩) m c) l) (hT:∀ w,(sizeOf e).run P w = .ok 1 w) (hi:i < l.length) (hu:u.cells = #[u]) (hu1:u.oneCell' = true)
  (hx:FP D w (fun w=>R w u x)) (hD:∀ j,D j → j < w.heap.size ∧ j ≠ g)
  (k:∀ w',w.grownBy w' (some g) → GRow 1 e (VOne R) B D w' (.slice (some ⟨g,0,none⟩) m c) (l.set i x) → K undef w'):oM P (.store e (.tmp 0) (.tmp 1)) T' [ptr g i,u] K w:=by
 obtain ⟨cs,ho,hf⟩:=h.ex
 rcases ho.2 with ⟨h1,_⟩ | ⟨g',cap,cur,h1,hb,hg,hc,hm,hs,ht⟩
 ·cases h1
 cases h1
 have hH:Holds w g e cur.toList:=by unfold Holds; simpa using hg
 have hcl:cs.length = l.length:=hf.here.1
 refine arr_set hT hu hu1 hH (i:=i) (by simp; omega) (fun w' hg' hh'=>k w' hg' ⟨cs.set i (cl1 u),?_,?_⟩)
 ·refine ⟨by rw [flat_len1]; simp [hcl],.inr ⟨g,c,(cur.toList.set i u).toArray,by rw [List.length_set],hb,hh',by rw [List.length_set]; exact hc,hm,by simpa using hs,?_⟩⟩
  rw [flat_set1,← ht,Nat.mul_one,List.length_set,Nat.mul_one,List.take_set]
 ·have hoff:∀ j,D j → j < w.heap.size ∧ some g ≠ some j:=fun j hj=>⟨(hD j hj).1,fun e=>(hD j hj).2 (Option.some.inj e).symm⟩
  refine ((hf.by hg' hoff).both (hx.by hg' hoff)).imp ?_
  rintro w2 ⟨⟨a1,a2⟩,b⟩
  refine ⟨by simpa using a1,fun j c' y hj hy=>?_⟩
  rw [List.getElem?_set] at hj hy
  by_cases hij:i = j
  ·subst hij
   rw [if_pos rfl,if_pos (by omega)] at hj
   rw [if_pos rfl,if_pos hi] at hy
   cases hj; cases hy
   exact ⟨u,rfl,b⟩
  ·rw [if_neg hij] at hj hy
   exact a2 j c' y hj hy
theorem grow_copy {P:Program} (t T:TypeId) (i:TypeInfo) (z:Value) (bytes:Nat) (ht:P.underlying t = some (.slice e)) (hi:P.info? e = some i) (hz:i.zero = some z) (hsize:i.size = 1) (hby:i.bytes = bytes) (hzs:z.cells.size = 1) (hbb:bytes ≤ 64)
  {E:Nat → Prop} (h:GRow 1 e (VOne R) B E w v []) (hB:B ≤ w.heap.size) (hw:Below w0.heap.size w0 w) (hwB:w0.heap.size ≤ B) {ad:Option Addr} {m c:Nat} (hsrc:SRow 1 (AtOf 1 (VOne R)) w0 (.slice ad m c) l) (hm:m = l.length) (hne:l ≠ []) (hst:VStay (VOne R)) (hone:∀ w u x,R w u x → u.oneCell' = true) (hl:l.length < 1099511627776)
  (k:∀ v' w',GRow 1 e (VOne R) B (fun j=>j < w0.heap.size) w' v' l → w.grownBy w' v.ownBlock → (∀ j,v'.ownBlock = some j → v.ownBlock = some j ∨ w.heap.size ≤ j) → K v' w') :
  oM P (.call { callee:=.builtin .append,args:=#[.tmp 0,.tmp 1],argTypes:=#[t,t] }) T [v,.slice ad m c] K w:=by
 obtain ⟨cs,ho,hf⟩:=h.ex
 obtain ⟨⟨ad',c',hv,hr⟩,hlen⟩:=hsrc
 cases hv
 rcases hr with h0 | ⟨b,o,rfl,hlt,hat⟩
 ·exact absurd h0 hne
 have hex:∀ j,j < l.length → ∃ u,w0.cell? ⟨b,o + j,none⟩ = some u ∧ ∀ x,l[j]? = some x → R w0 u x:=fun j hj=>by
  obtain ⟨cl,hcl,h1,u,rfl,h2⟩:=hat j hj
  refine ⟨u,by have:=h1 0 u rfl; rwa [Nat.mul_one,Nat.add_zero] at this,fun x hx=>?_⟩
  rw [List.getElem?_eq_getElem hj] at hx
  cases hx
  exact h2
 let xs:List Value:=(List.range l.length).map fun j=>(w0.cell? ⟨b,o + j,none⟩).getD undef
 have hxl:xs.length = l.length:=by simp [xs]
 have hxs:∀ j u,xs[j]? = some u → w0.cell? ⟨b,o + j,none⟩ = some u ∧ ∀ x,l[j]? = some x → R w0 u x:=fun j u hj=>by
  have hjl:j < l.length:=by have:=(List.getElem?_eq_some_iff.1 hj).1; omega
  obtain ⟨u',h1,h2⟩:=hex j hjl
  have:xs[j]? = some u':=by
   show ((List.range l.length).map _)[j]? = _
   rw [List.getElem?_map,List.getElem?_range hjl]
   show some ((w0.cell? ⟨b,o + j,none⟩).getD undef) = _
   rw [h1]; rfl
  rw [this] at hj
  cases hj
  exact ⟨h1,h2⟩
 have hcs:cs = []:=List.eq_nil_of_length_eq_zero hf.here.1
 refine append_at t T e i z 1 bytes ht hi hz hsize hby hzs (by decide) (owns_base ho (Nat.zero_le _)) xs (by omega) (by simp) ?_ ?_ (by simp only [maxLen,List.length_nil]; omega) (by have:l.length * bytes ≤ 1099511627776 * 64:=Nat.mul_le_mul (by omega) hbb; simp only [List.length_nil,Nat.zero_add]; omega) ?_
 ·rintro a ha j u hj
  cases ha
  rw [add_none]
  exact (hw.cell hlt).trans (hxs j u hj).1
 ·intro u hu
  obtain ⟨j,hj⟩:=List.getElem?_of_mem hu
  have hjl:j < l.length:=by have:=(List.getElem?_eq_some_iff.1 hj).1; omega
  exact hone w0 u _ ((hxs j u hj).2 _ (List.getElem?_eq_getElem hjl))
 ·intro v' w' ho' hg hv
  refine k v' w' ⟨xs.map cl1,?_,?_⟩ hg hv
  ·rw [flat_map1]
   rw [hcs] at ho'
   simp only [List.length_nil,Nat.zero_add] at ho'
   exact owns_up ho' (fun j hj=>(hv j hj).elim (fun h=>(owns_own ho h).2.1) (fun h=>Nat.le_trans hB h))
  ·have hf0:FP (fun j=>j < w0.heap.size) w0 (fun w=>Cols 1 (VOne R) w (xs.map cl1) l):=by
    refine FP.of_stay ⟨by simp [hxl],fun j c' x hj hx=>?_⟩ (fun w1 hb ⟨a1,a2⟩=>⟨a1,fun j c' x hj hx=>hst _ _ _ _ (a2 j c' x hj hx) hb⟩)
    rw [List.getElem?_map] at hj
    cases hu:xs[j]? with
    | none=>rw [hu] at hj; cases hj
    | some u=>
     rw [hu] at hj
     cases hj
     exact ⟨u,rfl,(hxs j u hu).2 x hx⟩
   exact (hf0.next hw (fun j hj=>hj)).by hg (fun j hj=>⟨Nat.lt_of_lt_of_le hj hw.size,fun e=>by have:=(owns_own ho e).2.1; omega⟩)
end
end Go.Proofs
namespace Go.Proofs
open Go Go.Sh Tryz
def held_7t_110 (K:Value → World → Prop) (a1 a2 v141 v20 v31 v9:Value) (w:World):Prop:=
 heldM w (fun C_110 w=>(pureH v31 C_110 (fun v179=>
 pureH v179 C_110 (fun v180=>
 gdH (gd v180 true) (oH prog (.load 26 (.tmp 0)) 26 [v9]) C_110 (fun v181=>
 gdH (gd v180 true) (pureH a1) C_110 (fun v182=>
 gdH (gd v180 true) (pureH a2) C_110 (fun v183=>
 gdH (gd v180 true) (oH prog (.fieldAddr 34 (.tmp 0) 0) 0 [v20]) C_110 (fun v184=>
 gdH (gd v180 true) (oH prog (.load 30 (.tmp 0)) 30 [v184]) C_110 (fun v185=>
 gdH (gd v180 true) (pureH v141) C_110 (fun v186=>
 gdM (gd v180 true) (oM prog (.build 34 #[(0,(.tmp 0)),(1,(.tmp 1))]) 34 [v185,v186]) (fun v187 w=>C_110 w ∧ (
 gdM (gd v180 true) (callM prog 30 #[v181,v182,v183,v187]) (fun v188 w=>C_110 w ∧ (
 gdH (gd v180 true) (oH prog (.unOp .not 4 (.tmp 0)) 4 [v188]) C_110 (fun v189=>
 oH prog (.pick (.tmp 0) (.tmp 1) (.tmp 2)) 4 [v180,v189,(.bool false)] C_110 (fun v190=>
 pureH v190 C_110 (fun v191=>
 gdH (gd v191 true) (oH prog (.load 26 (.tmp 0)) 26 [v9]) C_110 (fun v192=>
 gdH (gd v191 true) (pureH a1) C_110 (fun v193=>
 gdH (gd v191 true) (pureH a2) C_110 (fun v194=>
 gdH (gd v191 true) (oH prog (.fieldAddr 34 (.tmp 0) 0) 0 [v20]) C_110 (fun v196=>
 gdH (gd v191 true) (oH prog (.load 30 (.tmp 0)) 30 [v196]) C_110 (fun v197=>
 gdH (gd v191 true) (oH prog (.fieldAddr 34 (.tmp 0) 1) 0 [v20]) C_110 (fun v202=>
 gdH (gd v191 true) (oH prog (.load 29 (.tmp 0)) 29 [v202]) C_110 (fun v203=>
 (gdM (gd v191 true) (oM prog (.buildSlice 30 0 #[]) 30 []) (fun v195 w=>C_110 w ∧ (
 (gdM (gd v191 true) (oM prog (.call (Go.Call.mk (.builtin .append) #[(.tmp 0),(.tmp 1)] #[30,30])) 30 [v195,v197]) (fun v198 w=>C_110 w ∧ (
 gdM (gd v191 true) (oM prog (.buildSlice 24 0 #[]) 24 []) (fun v199 w=>C_110 w ∧ (
 gdM (gd v191 true) (oM prog (.buildSlice 30 1 #[(0,(.tmp 0))]) 30 [v199]) (fun v200 w=>C_110 w ∧ (
 gdM (gd v191 true) (oM prog (.call (Go.Call.mk (.builtin .append) #[(.tmp 0),(.tmp 1)] #[30,30])) 30 [v198,v200]) (fun v201 w=>C_110 w ∧ (
 gdM (gd v191 true) (oM prog (.build 34 #[(0,(.tmp 0)),(1,(.tmp 1))]) 34 [v201,v203]) (fun v204 w=>C_110 w ∧ (
 gdM (gd v191 true) (callM prog 30 #[v192,v193,v194,v204]) (fun v205 w=>C_110 w ∧ (
 gdH (gd v191 true) (oH prog (.unOp .not 4 (.tmp 0)) 4 [v205]) C_110 (fun v206=>
 oH prog (.pick (.tmp 0) (.tmp 1) (.tmp 2)) 4 [v191,v206,(.bool false)] C_110 (fun v207=>
 C_110 w ∧ (K v207 w))))) w)) w)) w)) w)) w)) w) ∧
 (gdM (gd v191 true) (oM prog (.buildSlice 24 0 #[]) 24 []) (fun v199 w=>C_110 w ∧ (
 (gdM (gd v191 true) (oM prog (.call (Go.Call.mk (.builtin .append) #[(.tmp 0),(.tmp 1)] #[30,30])) 30 [v195,v197]) (fun v198 w=>C_110 w ∧ (
 gdM (gd v191 true) (oM prog (.buildSlice 30 1 #[(0,(.tmp 0))]) 30 [v199]) (fun v200 w=>C_110 w ∧ (
 gdM (gd v191 true) (oM prog (.call (Go.Call.mk (.builtin .append) #[(.tmp 0),(.tmp 1)] #[30,30])) 30 [v198,v200]) (fun v201 w=>C_110 w ∧ (
 gdM (gd v191 true) (oM prog (.build 34 #[(0,(.tmp 0)),(1,(.tmp 1))]) 34 [v201,v203]) (fun v204 w=>C_110 w ∧ (
 gdM (gd v191 true) (callM prog 30 #[v192,v193,v194,v204]) (fun v205 w=>C_110 w ∧ (
 gdH (gd v191 true) (oH prog (.unOp .not 4 (.tmp 0)) 4 [v205]) C_110 (fun v206=>
 oH prog (.pick (.tmp 0) (.tmp 1) (.tmp 2)) 4 [v191,v206,(.bool false)] C_110 (fun v207=>
 C_110 w ∧ (K v207 w))))) w)) w)) w)) w)) w) ∧
 (gdM (gd v191 true) (oM prog (.buildSlice 30 1 #[(0,(.tmp 0))]) 30 [v199]) (fun v200 w=>C_110 w ∧ (
 gdM (gd v191 true) (oM prog (.call (Go.Call.mk (.builtin .append) #[(.tmp 0),(.tmp 1)] #[30,30])) 30 [v195,v197]) (fun v198 w=>C_110 w ∧ (
 gdM (gd v191 true) (oM prog (.call (Go.Call.mk (.builtin .append) #[(.tmp 0),(.tmp 1)] #[30,30])) 30 [v198,v200]) (fun v201 w=>C_110 w ∧ (
 gdM (gd v191 true) (oM prog (.build 34 #[(0,(.tmp 0)),(1,(.tmp 1))]) 34 [v201,v203]) (fun v204 w=>C_110 w ∧ (
 gdM (gd v191 true) (callM prog 30 #[v192,v193,v194,v204]) (fun v205 w=>C_110 w ∧ (
 gdH (gd v191 true) (oH prog (.unOp .not 4 (.tmp 0)) 4 [v205]) C_110 (fun v206=>
 oH prog (.pick (.tmp 0) (.tmp 1) (.tmp 2)) 4 [v191,v206,(.bool false)] C_110 (fun v207=>
 C_110 w ∧ (K v207 w))))) w)) w)) w)) w)) w))) w))) w) ∧
 (gdM (gd v191 true) (oM prog (.buildSlice 24 0 #[]) 24 []) (fun v199 w=>C_110 w ∧ (
 (gdM (gd v191 true) (oM prog (.buildSlice 30 0 #[]) 30 []) (fun v195 w=>C_110 w ∧ (
 (gdM (gd v191 true) (oM prog (.call (Go.Call.mk (.builtin .append) #[(.tmp 0),(.tmp 1)] #[30,30])) 30 [v195,v197]) (fun v198 w=>C_110 w ∧ (
 gdM (gd v191 true) (oM prog (.buildSlice 30 1 #[(0,(.tmp 0))]) 30 [v199]) (fun v200 w=>C_110 w ∧ (
 gdM (gd v191 true) (oM prog (.call (Go.Call.mk (.builtin .append) #[(.tmp 0),(.tmp 1)] #[30,30])) 30 [v198,v200]) (fun v201 w=>C_110 w ∧ (
 gdM (gd v191 true) (oM prog (.build 34 #[(0,(.tmp 0)),(1,(.tmp 1))]) 34 [v201,v203]) (fun v204 w=>C_110 w ∧ (
 gdM (gd v191 true) (callM prog 30 #[v192,v193,v194,v204]) (fun v205 w=>C_110 w ∧ (
 gdH (gd v191 true) (oH prog (.unOp .not 4 (.tmp 0)) 4 [v205]) C_110 (fun v206=>
 oH prog (.pick (.tmp 0) (.tmp 1) (.tmp 2)) 4 [v191,v206,(.bool false)] C_110 (fun v207=>
 C_110 w ∧ (K v207 w))))) w)) w)) w)) w)) w) ∧
 (gdM (gd v191 true) (oM prog (.buildSlice 30 1 #[(0,(.tmp 0))]) 30 [v199]) (fun v200 w=>C_110 w ∧ (
 gdM (gd v191 true) (oM prog (.call (Go.Call.mk (.builtin .append) #[(.tmp 0),(.tmp 1)] #[30,30])) 30 [v195,v197]) (fun v198 w=>C_110 w ∧ (
 gdM (gd v191 true) (oM prog (.call (Go.Call.mk (.builtin .append) #[(.tmp 0),(.tmp 1)] #[30,30])) 30 [v198,v200]) (fun v201 w=>C_110 w ∧ (
 gdM (gd v191 true) (oM prog (.build 34 #[(0,(.tmp 0)),(1,(.tmp 1))]) 34 [v201,v203]) (fun v204 w=>C_110 w ∧ (
 gdM (gd v191 true) (callM prog 30 #[v192,v193,v194,v204]) (fun v205 w=>C_110 w ∧ (
 gdH (gd v191 true) (oH prog (.unOp .not 4 (.tmp 0)) 4 [v205]) C_110 (fun v206=>
 oH prog (.pick (.tmp 0) (.tmp 1) (.tmp 2)) 4 [v191,v206,(.bool false)] C_110 (fun v207=>
 C_110 w ∧ (K v207 w))))) w)) w)) w)) w)) w))) w) ∧
 (gdM (gd v191 true) (oM prog (.buildSlice 30 1 #[(0,(.tmp 0))]) 30 [v199]) (fun v200 w=>C_110 w ∧ (
 gdM (gd v191 true) (oM prog (.buildSlice 30 0 #[]) 30 []) (fun v195 w=>C_110 w ∧ (
 gdM (gd v191 true) (oM prog (.call (Go.Call.mk (.builtin .append) #[(.tmp 0),(.tmp 1)] #[30,30])) 30 [v195,v197]) (fun v198 w=>C_110 w ∧ (
 gdM (gd v191 true) (oM prog (.call (Go.Call.mk (.builtin .append) #[(.tmp 0),(.tmp 1)] #[30,30])) 30 [v198,v200]) (fun v201 w=>C_110 w ∧ (
 gdM (gd v191 true) (oM prog (.build 34 #[(0,(.tmp 0)),(1,(.tmp 1))]) 34 [v201,v203]) (fun v204 w=>C_110 w ∧ (
 gdM (gd v191 true) (callM prog 30 #[v192,v193,v194,v204]) (fun v205 w=>C_110 w ∧ (
 gdH (gd v191 true) (oH prog (.unOp .not 4 (.tmp 0)) 4 [v205]) C_110 (fun v206=>
 oH prog (.pick (.tmp 0) (.tmp 1) (.tmp 2)) 4 [v191,v206,(.bool false)] C_110 (fun v207=>
 C_110 w ∧ (K v207 w))))) w)) w)) w)) w)) w)) w))) w))))))))))))) w)) w))))))))))
def last_7t (K:Value → World → Prop) (a1 a2 v9 v20 v31 v87 v124 v141:Value) (w:World):Prop:=
 oM prog (.buildSlice 30 0 #[]) 30 [] (fun v157 w=>
 oM prog (.fieldAddr 34 (.tmp 0) 1) 0 [v20] (fun v158 w=>
 oM prog (.load 29 (.tmp 0)) 29 [v158] (fun v159 w=>
 oM prog (.indexAddr 29 (.tmp 0) (.tmp 1)) 0 [v159,v87] (fun v161 w=>
 oM prog (.load 30 (.tmp 0)) 30 [v161] (fun v162 w=>
 oM prog (.call (Go.Call.mk (.builtin .append) #[(.tmp 0),(.tmp 1)] #[30,30])) 30 [v157,v162] (fun v163 w=>
 oM prog (.buildSlice 24 0 #[]) 24 [] (fun v166 w=>
 oM prog (.indexAddr 30 (.tmp 0) (.tmp 1)) 0 [v163,v124] (fun v169 w=>
 oM prog (.load 24 (.tmp 0)) 24 [v169] (fun v170 w=>
 oM prog (.call (Go.Call.mk (.builtin .append) #[(.tmp 0),(.tmp 1)] #[24,24])) 24 [v166,v170] (fun v171 w=>
 oM prog (.buildSlice 24 1 #[(0,(.tmp 0))]) 24 [(.int .i64 0)] (fun v172 w=>
 oM prog (.call (Go.Call.mk (.builtin .append) #[(.tmp 0),(.tmp 1)] #[24,24])) 24 [v171,v172] (fun v173 w=>
 oM prog (.indexAddr 30 (.tmp 0) (.tmp 1)) 0 [v163,v124] (fun v174 w=>
 oM prog (.store 24 (.tmp 0) (.tmp 1)) 0 [v174,v173] (fun _ w=>
 oM prog (.indexAddr 29 (.tmp 0) (.tmp 1)) 0 [v141,v87] (fun v178 w=>
 oM prog (.store 30 (.tmp 0) (.tmp 1)) 0 [v178,v163] (fun _ w=>
 held_7t_110 K a1 a2 v141 v20 v31 v9 w) w) w) w) w) w) w) w) w) w) w) w) w) w) w) w) w
def post_7t_37 (K:Value → World → Prop) (a1 a2 a5 a6 a7 v20 v31 v9:Value) (l_38:List Value) (w:World):Prop:=
 oM prog (.convert 5 3 (.tmp 0)) 3 [a5] (fun v83 w=>
 oM prog (.fieldAddr 34 (.tmp 0) 0) 0 [v20] (fun v84 w=>
 oM prog (.load 30 (.tmp 0)) 30 [v84] (fun v85 w=>
 oM prog (.call (Go.Call.mk (.builtin .len) #[(.tmp 0)] #[30])) 3 [v85] (fun v86 w=>
 oM prog (.binOp .rem 3 (.tmp 0) (.tmp 1) 3) 3 [v83,v86] (fun v87 w=>
 oM prog (.fieldAddr 34 (.tmp 0) 0) 0 [v20] (fun v89 w=>
 oM prog (.load 30 (.tmp 0)) 30 [v89] (fun v90 w=>
 oM prog (.convert 5 3 (.tmp 0)) 3 [a6] (fun v93 w=>
 callM prog 37 #[v90,v87,v93,(l_38.getD 0 undef)] (fun v95 w=>
 oM prog (.extract (.tmp 0) 0) 30 [v95] (fun v96 w=>
 oM prog (.extract (.tmp 0) 1) 4 [v95] (fun v97 w=>
 gdM (gd v97 true) (oM prog (.load 26 (.tmp 0)) 26 [v9]) (fun v100 w=>
 gdM (gd v97 true) (pureM a1) (fun v101 w=>
 gdM (gd v97 true) (pureM a2) (fun v102 w=>
 gdM (gd v97 true) (pureM v96) (fun v103 w=>
 gdM (gd v97 true) (oM prog (.fieldAddr 34 (.tmp 0) 1) 0 [v20]) (fun v104 w=>
 gdM (gd v97 true) (oM prog (.load 29 (.tmp 0)) 29 [v104]) (fun v105 w=>
 gdM (gd v97 true) (oM prog (.build 34 #[(0,(.tmp 0)),(1,(.tmp 1))]) 34 [v103,v105]) (fun v106 w=>
 gdM (gd v97 true) (callM prog 30 #[v100,v101,v102,v106]) (fun v107 w=>
 oM prog (.pick (.tmp 0) (.tmp 1) (.tmp 2)) 4 [v97,v107,(.bool false)] (fun v108 w=>
 condM v108
 (K (.bool false) w)
 (oM prog (.fieldAddr 34 (.tmp 0) 1) 0 [v20] (fun v109 w=>
 oM prog (.load 29 (.tmp 0)) 29 [v109] (fun v110 w=>
 oM prog (.indexAddr 29 (.tmp 0) (.tmp 1)) 0 [v110,v87] (fun v112 w=>
 oM prog (.load 30 (.tmp 0)) 30 [v112] (fun v113 w=>
 oM prog (.call (Go.Call.mk (.builtin .len) #[(.tmp 0)] #[30])) 3 [v113] (fun v114 w=>
 oM prog (.binOp .eql 3 (.tmp 0) (.const (.int .i64 0)) 3) 4 [v114] (fun v115 w=>
 condM v115
 (K (.bool false) w)
 (oM prog (.convert 5 3 (.tmp 0)) 3 [a6] (fun v117 w=>
 oM prog (.fieldAddr 34 (.tmp 0) 1) 0 [v20] (fun v118 w=>
 oM prog (.load 29 (.tmp 0)) 29 [v118] (fun v119 w=>
 oM prog (.indexAddr 29 (.tmp 0) (.tmp 1)) 0 [v119,v87] (fun v121 w=>
 oM prog (.load 30 (.tmp 0)) 30 [v121] (fun v122 w=>
 oM prog (.call (Go.Call.mk (.builtin .len) #[(.tmp 0)] #[30])) 3 [v122] (fun v123 w=>
 oM prog (.binOp .rem 3 (.tmp 0) (.tmp 1) 3) 3 [v117,v123] (fun v124 w=>
 oM prog (.fieldAddr 34 (.tmp 0) 1) 0 [v20] (fun v126 w=>
 oM prog (.load 29 (.tmp 0)) 29 [v126] (fun v127 w=>
 oM prog (.indexAddr 29 (.tmp 0) (.tmp 1)) 0 [v127,v87] (fun v129 w=>
 oM prog (.load 30 (.tmp 0)) 30 [v129] (fun v130 w=>
 oM prog (.convert 5 3 (.tmp 0)) 3 [a7] (fun v133 w=>
 callM prog 37 #[v130,v124,v133,(l_38.getD 0 undef)] (fun v135 w=>
 oM prog (.extract (.tmp 0) 0) 30 [v135] (fun v136 w=>
 oM prog (.extract (.tmp 0) 1) 4 [v135] (fun v137 w=>
 oM prog (.buildSlice 29 0 #[]) 29 [] (fun v138 w=>
 oM prog (.fieldAddr 34 (.tmp 0) 1) 0 [v20] (fun v139 w=>
 oM prog (.load 29 (.tmp 0)) 29 [v139] (fun v140 w=>
 oM prog (.call (Go.Call.mk (.builtin .append) #[(.tmp 0),(.tmp 1)] #[29,29])) 29 [v138,v140] (fun v141 w=>
 oM prog (.indexAddr 29 (.tmp 0) (.tmp 1)) 0 [v141,v87] (fun v145 w=>
 oM prog (.store 30 (.tmp 0) (.tmp 1)) 0 [v145,v136] (fun _ w=>
 gdM (gd v137 true) (oM prog (.load 26 (.tmp 0)) 26 [v9]) (fun v148 w=>
 gdM (gd v137 true) (pureM a1) (fun v149 w=>
 gdM (gd v137 true) (pureM a2) (fun v150 w=>
 gdM (gd v137 true) (oM prog (.fieldAddr 34 (.tmp 0) 0) 0 [v20]) (fun v151 w=>
 gdM (gd v137 true) (oM prog (.load 30 (.tmp 0)) 30 [v151]) (fun v152 w=>
 gdM (gd v137 true) (pureM v141) (fun v153 w=>
 gdM (gd v137 true) (oM prog (.build 34 #[(0,(.tmp 0)),(1,(.tmp 1))]) 34 [v152,v153]) (fun v154 w=>
 gdM (gd v137 true) (callM prog 30 #[v148,v149,v150,v154]) (fun v155 w=>
 oM prog (.pick (.tmp 0) (.tmp 1) (.tmp 2)) 4 [v137,v155,(.bool false)] (fun v156 w=>
 condM v156
 (K (.bool false) w)
 (last_7t K a1 a2 v9 v20 v31 v87 v124 v141 w)) w) w) w) w) w) w) w) w) w) w) w) w) w) w) w) w) w) w) w) w) w) w) w) w) w) w) w) w) w) w)) w) w) w) w) w) w)) w) w) w) w) w) w) w) w) w) w) w) w) w) w) w) w) w) w) w) w
def sh_7t (a0 a1 a2 a3 a4 a5 a6 a7 a8:Value) (K:Value → World → Prop) (w:World):Prop:=
 oM prog (.box 26 (.tmp 0)) 0 [a0] (fun v9 w=>
 oM prog (.box 32 (.tmp 0)) 0 [a4] (fun v13 w=>
 callM prog 14 #[] (fun v31 w=>
 oM prog (.load 26 (.tmp 0)) 26 [v9] (fun v32 w=>
 callM prog 15 #[v32,a1,a2,a3] (fun v36 w=>
 oM prog (.unOp .not 4 (.tmp 0)) 4 [v36] (fun v37 w=>
 gdM (gd v37 false) (oM prog (.load 32 (.tmp 0)) 32 [v13]) (fun v39 w=>
 gdM (gd v37 false) (callM prog 16 #[v39]) (fun v40 w=>
 gdM (gd v37 false) (oM prog (.unOp .not 4 (.tmp 0)) 4 [v40]) (fun v41 w=>
 oM prog (.pick (.tmp 0) (.tmp 1) (.tmp 2)) 4 [v37,(.bool true),v41] (fun v42 w=>
 condM v42
 (K v31 w)
 (oM prog (.load 26 (.tmp 0)) 26 [v9] (fun v45 w=>
 oM prog (.load 32 (.tmp 0)) 32 [v13] (fun v49 w=>
 callM prog 18 #[v45,a1,a2,a3,v49] (fun v50 w=>
 oM prog (.extract (.tmp 0) 0) 34 [v50] (fun v51 w=>
 oM prog (.extract (.tmp 0) 1) 39 [v50] (fun v52 w=>
 oM prog (.alloc 34) 0 [] (fun v20 w=>
 oM prog (.store 34 (.tmp 0) (.tmp 1)) 0 [v20,v51] (fun _ w=>
 oM prog (.binOp .neq 39 (.tmp 0) (.const (.int .i64 0)) 39) 4 [v52] (fun v54 w=>
 gdM (gd v54 false) (oM prog (.fieldAddr 34 (.tmp 0) 0) 0 [v20]) (fun v56 w=>
 gdM (gd v54 false) (oM prog (.load 30 (.tmp 0)) 30 [v56]) (fun v57 w=>
 gdM (gd v54 false) (oM prog (.call (Go.Call.mk (.builtin .len) #[(.tmp 0)] #[30])) 3 [v57]) (fun v58 w=>
 gdM (gd v54 false) (oM prog (.binOp .eql 3 (.tmp 0) (.const (.int .i64 0)) 3) 4 [v58]) (fun v59 w=>
 oM prog (.pick (.tmp 0) (.tmp 1) (.tmp 2)) 4 [v54,(.bool true),v59] (fun v60 w=>
 gdM (gd v60 false) (oM prog (.fieldAddr 34 (.tmp 0) 1) 0 [v20]) (fun v62 w=>
 gdM (gd v60 false) (oM prog (.load 29 (.tmp 0)) 29 [v62]) (fun v63 w=>
 gdM (gd v60 false) (oM prog (.call (Go.Call.mk (.builtin .len) #[(.tmp 0)] #[29])) 3 [v63]) (fun v64 w=>
 gdM (gd v60 false) (oM prog (.fieldAddr 34 (.tmp 0) 0) 0 [v20]) (fun v65 w=>
 gdM (gd v60 false) (oM prog (.load 30 (.tmp 0)) 30 [v65]) (fun v66 w=>
 gdM (gd v60 false) (oM prog (.call (Go.Call.mk (.builtin .len) #[(.tmp 0)] #[30])) 3 [v66]) (fun v67 w=>
 gdM (gd v60 false) (oM prog (.binOp .neq 3 (.tmp 0) (.tmp 1) 3) 4 [v64,v67]) (fun v68 w=>
 oM prog (.pick (.tmp 0) (.tmp 1) (.tmp 2)) 4 [v60,(.bool true),v68] (fun v69 w=>
 condM v69
 (gdM (gd v31 true) (pureM v52) (fun v72 w=>
 gdM (gd v31 true) (oM prog (.binOp .neq 39 (.tmp 0) (.const (.int .i64 0)) 39) 4 [v72]) (fun v73 w=>
 oM prog (.pick (.tmp 0) (.tmp 1) (.tmp 2)) 4 [v31,v73,(.bool false)] (fun v74 w=>
 K v74 w) w) w) w)
 (oM prog (.fieldAddr 26 (.tmp 0) 0) 0 [v9] (fun v75 w=>
 oM prog (.fieldAddr 23 (.tmp 0) 1) 0 [v75] (fun v76 w=>
 oM prog (.load 3 (.tmp 0)) 3 [v76] (fun v77 w=>
 joinM (fun M_37=>(oM prog (.unOp .not 4 (.tmp 0)) 4 [a8] (fun v79 w=>
 condM v79
 (oM prog (.unOp .neg 3 (.tmp 0)) 3 [v77] (fun v81 w=>
 M_37 [v81] w) w)
 (M_37 [v77] w)) w))
 (fun l_38 u_l_38 w=>(post_7t_37 K a1 a2 a5 a6 a7 v20 v31 v9 l_38 w))) w) w) w)) w) w) w) w) w) w) w) w) w) w) w) w) w) w) w) w) w) w) w) w) w)) w) w) w) w) w) w) w) w) w) w
theorem sh_7t_ok {a0 a1 a2 a3 a4 a5 a6 a7 a8:Value} {K:Value → World → Prop} {w:World} (h:sh_7t a0 a1 a2 a3 a4 a5 a6 a7 a8 K w):callM prog 7 #[a0,a1,a2,a3,a4,a5,a6,a7,a8] K w:=
 calls_of_code (fun i=>bif Nat.beq i 25 then .tree (.look 0 (.look 1 (.look 2 (.look 3 (.look 4 (.look 5 (.look 6 (.look 7 (.only 8 (.only 9 (.look 10 (.look 11 (.look 12 (.look 13 (.look 14 (.look 15 (.look 17 (.look 18 (.look 23 (.look 24 (.alt 16 (.alt 19 (.only 20 (.only 21 (.only 22 (.only 25 (.only 26 (.look 27 (.look 28 (.only 29 (.done))))))))) (.only 20 (.alt 19 (.only 21 (.only 22 (.only 25 (.only 26 (.look 27 (.look 28 (.only 29 (.done)))))))) (.only 21 (.only 19 (.only 22 (.only 25 (.only 26 (.look 27 (.look 28 (.only 29 (.done)))))))))))) (.only 20 (.alt 16 (.alt 19 (.only 21 (.only 22 (.only 25 (.only 26 (.look 27 (.look 28 (.only 29 (.done)))))))) (.only 21 (.only 19 (.only 22 (.only 25 (.only 26 (.look 27 (.look 28 (.only 29 (.done)))))))))) (.only 21 (.only 16 (.only 19 (.only 22 (.only 25 (.only 26 (.look 27 (.look 28 (.only 29 (.done))))))))))))))))))))))))))))))))) else 0) (fn:=Tryz.f7) (rs:=[.tmp 18]) Tryz.func7 rfl rfl (by kernel_rfl) (Nat.le_of_ble_eq_true rfl) (Eq.mp (by kernel_rfl) h)
end Go.Proofs
namespace Go.Proofs
open Go Go.Sh Go.RowKit FdSpec TkSpec CodeSpec PrSpec FdPoly
section
variable {K:Value → World → Prop} {w w' w0 W W' We W1 W2:World} {L:List (Addr × Value)} {g n B b i:Nat} {row:Option Nat}
structure ShpF (s:Stp) (ds:List (List Int)) (ns:List (List (List Int))):Prop where
 len:ns.length = ds.length
 pos:0 < ds.length
 max:ds.length ≤ 300
 Q:0 < s.g.Q ∧ s.g.Q ≤ 2305843009213693951
 row:∀ i,i < ds.length → 0 < (ds.getD i []).length ∧ (ds.getD i []).length ≤ 16 ∧ (ns.getD i []).length = (ds.getD i []).length
 dr:∀ i,i < ds.length → ∀ x ∈ ds.getD i [],0 ≤ x ∧ x < s.g.Q
 nl:∀ i,i < ds.length → ∀ l ∈ ns.getD i [],l.length ≤ 120 ∧ ∀ x ∈ l,0 ≤ x ∧ x < s.g.Q
theorem getD_is {α:Type} {l:List α} {i:Nat} {d x:α} (h:l[i]? = some x):l.getD i d = x:=by rw [List.getD_eq_getElem?_getD,h]; rfl
theorem exps_all {s:Stp} {l:List Int} {n:Int} (h:exponentsM s l n = true):(l.length:Int) = n ∧ ∀ x ∈ l,0 ≤ x ∧ x < s.g.Q:=by
 simp only [exponentsM,exponentM,Bool.and_eq_true,decide_eq_true_eq,Bool.not_eq_true',List.any_eq_false,Bool.not_eq_true] at h
 refine ⟨h.1,fun x hx=>?_⟩
 have:=h.2 x hx
 simp at this
 exact this
theorem shpF_of {s:Stp} {goal:List Cls} {ctx:Bytes} {ds:List (List Int)} {ns:List (List (List Int))} (h:verifyM s goal ctx ds ns = true):ShpF s ds ns:=by
 unfold verifyM at h
 simp only [Bool.and_eq_true] at h
 have hgm:=h.1.1
 have hsm:=h.1.2
 unfold goalM at hgm
 simp only [Bool.and_eq_true,decide_eq_true_eq] at hgm
 unfold shapedM at hsm
 simp only [Bool.and_eq_true,decide_eq_true_eq] at hsm
 have hq:=(gv_setup hgm.1.1.1.1).okQ
 unfold okN at hq
 have key:∀ i,i < ds.length → ∃ c d n,goal[i]? = some c ∧ ds[i]? = some d ∧ ns[i]? = some n ∧ exponentsM s d c.claims.length = true ∧ n.length = c.claims.length ∧ shapedC s c.claims n = true ∧ clsFine s c = true ∧ (∀ x ∈ c.claims,claimM s x = true):=fun i hi=>by
  have e1:goal[i]? = some goal[i]:=List.getElem?_eq_getElem (by omega)
  have e2:ds[i]? = some ds[i]:=List.getElem?_eq_getElem (by omega)
  have e3:ns[i]? = some ns[i]:=List.getElem?_eq_getElem (by omega)
  have h4:=shapedL_at hsm.2 e1 e2 e3
  have h5:=h4.1
  simp only [shapeOf,Bool.and_eq_true,decide_eq_true_eq] at h5
  exact ⟨_,_,_,e1,e2,e3,h5.1,h5.2,h4.2,List.all_eq_true.1 hgm.1.2 _ (List.getElem_mem _),fun x hx=>List.all_eq_true.1 (List.all_eq_true.1 hgm.2 _ (List.getElem_mem _)) x hx⟩
 refine ⟨by omega,by omega,by omega,by omega,fun i hi=>?_,fun i hi=>?_,fun i hi l hl=>?_⟩
 ·obtain ⟨c,d,n,e1,e2,e3,h5,h6,_,h8,_⟩:=key i hi
  rw [getD_is e2,getD_is e3]
  simp only [clsFine,Bool.and_eq_true,decide_eq_true_eq] at h8
  have:=(exps_all h5).1
  omega
 ·obtain ⟨c,d,n,e1,e2,e3,h5,_⟩:=key i hi
  rw [getD_is e2]
  exact (exps_all h5).2
 ·obtain ⟨c,d,n,e1,e2,e3,h5,h6,h7,h8,h9⟩:=key i hi
  rw [getD_is e3] at hl
  obtain ⟨j,hj⟩:=List.getElem?_of_mem hl
  have hjl:=(List.getElem?_eq_some_iff.1 hj).1
  have ex:c.claims[j]? = some c.claims[j]:=List.getElem?_eq_getElem (by omega)
  have hx:=exps_all (shapedC_at h7 ex hj)
  have hc:=h9 _ (List.getElem_mem (by omega:j < c.claims.length))
  simp only [claimM,Bool.and_eq_true,decide_eq_true_eq] at hc
  exact ⟨by omega,hx.2⟩
theorem mkN0 {T:TypeId} (k:∀ ad c W,Below w.heap.size w W → NumG w.heap.size (fun _=>False) W (.slice ad 0 c) [] → K (.slice ad 0 c) W):oM Tryz.prog (.buildSlice 29 0 #[]) T [] K w:=by
 rw [oM_buildSlice0]
 have e:(Instr.buildSlice 29 0 #[]).run Tryz.prog w = .ok (.slice (some ⟨w.heap.size,0,none⟩) 0 0) (w.alloc (.cells #[] 30)):=by kernel_rfl
 rw [e]
 refine k _ _ _ ((Below.refl _ w).alloc (Nat.le_refl _) _) ⟨[],⟨rfl,.inr ⟨_,0,#[],rfl,Nat.le_refl _,heap_alloc_new w _,Nat.le_refl _,by decide,rfl,rfl⟩⟩,fun _ _ _ _ _ _=>⟨rfl,fun _ _ _ h=>by simp at h⟩⟩
theorem slc_one {α:Type} {R:World → Value → α → Prop} (h:∀ w u x,R w u x → ∃ ad n c,u = .slice ad n c):∀ w u x,R w u x → u.oneCell' = true:=fun w u x hx=>by
 obtain ⟨ad,n,c,rfl⟩:=h w u x hx; rfl
theorem copy_nums {T:TypeId} {l:List (List (List Int))} {v:Value} {ad:Option Addr} {c:Nat} {E:Nat → Prop} (h:NumG B E w v []) (hB:B ≤ w.heap.size) (hw:Below w0.heap.size w0 w) (hwB:w0.heap.size ≤ B) (hsrc:NumsR w0 (.slice ad l.length c) l) (hne:l ≠ []) (hl:l.length < 1099511627776)
  (k:∀ v' w',NumG B (fun j=>j < w0.heap.size) w' v' l → w.grownBy w' v.ownBlock → (∀ j,v'.ownBlock = some j → v.ownBlock = some j ∨ w.heap.size ≤ j) → K v' w') :
  oM Tryz.prog (.call { callee:=.builtin .append,args:=#[.tmp 0,.tmp 1],argTypes:=#[29,29] }) T [v,.slice ad l.length c] K w:=
 grow_copy 29 T ((Tryz.prog.info? 30).getD default) (.slice none 0 0) 24 (by kernel_rfl) (by kernel_rfl) (by kernel_rfl) (by kernel_rfl) (by kernel_rfl) (by kernel_rfl) (by decide) h hB hw hwB hsrc rfl hne lists_vstay (slc_one fun w u x hx=>by obtain ⟨ad,c,rfl⟩:=SRow.isSlice hx; exact ⟨_,_,_,rfl⟩) hl k
theorem copy_lists {T:TypeId} {l:List (List Int)} {v:Value} {ad:Option Addr} {c:Nat} {E:Nat → Prop} (h:ListG B E w v []) (hB:B ≤ w.heap.size) (hw:Below w0.heap.size w0 w) (hwB:w0.heap.size ≤ B) (hsrc:ListsR w0 (.slice ad l.length c) l) (hne:l ≠ []) (hl:l.length < 1099511627776)
  (k:∀ v' w',ListG B (fun j=>j < w0.heap.size) w' v' l → w.grownBy w' v.ownBlock → (∀ j,v'.ownBlock = some j → v.ownBlock = some j ∨ w.heap.size ≤ j) → K v' w') :
  oM Tryz.prog (.call { callee:=.builtin .append,args:=#[.tmp 0,.tmp 1],argTypes:=#[30,30] }) T [v,.slice ad l.length c] K w:=
 grow_copy 30 T ((Tryz.prog.info? 24).getD default) (.slice none 0 0) 24 (by kernel_rfl) (by kernel_rfl) (by kernel_rfl) (by kernel_rfl) (by kernel_rfl) (by kernel_rfl) (by decide) h hB hw hwB hsrc rfl hne ints_stay (slc_one fun w u x hx=>by obtain ⟨ad,c,rfl⟩:=Ints.isSlice hx; exact ⟨_,_,_,rfl⟩) hl k
theorem grow_slice {α:Type} {m:Nat} {V:World → List Value → α → Prop} {e:TypeId} {D:Nat → Prop} {v:Value} {l:List α} (h:GRow m e V B D w v l) (hne:l ≠ []):∃ g c,v = .slice (some ⟨g,0,none⟩) l.length c ∧ B ≤ g ∧ g < w.heap.size:=by
 obtain ⟨cs,ho,_⟩:=h.ex
 rcases ho.2 with ⟨_,h0⟩ | ⟨g,cap,cur,rfl,hb,hg,_⟩
 ·exact absurd (List.eq_nil_of_length_eq_zero h0) hne
 ·exact ⟨g,cap,rfl,hb,(Array.getElem?_eq_some_iff.1 hg).1⟩
end
end Go.Proofs
namespace Go.Proofs
open Go Go.Sh Go.RowKit FdSpec TkSpec CodeSpec PrSpec FdPoly
section
variable {K:Value → World → Prop} {w w' w0 W W' We W1 W2:World} {L:List (Addr × Value)} {g n B b i:Nat} {row:Option Nat}
theorem mkLz {T:TypeId} (k:∀ g W,Below w.heap.size w W → w.heap.size ≤ g → W.ownsRow w.heap.size 24 1 (.slice (some ⟨g,0,none⟩) 0 0) 0 [] → K (.slice (some ⟨g,0,none⟩) 0 0) W):oM Tryz.prog (.buildSlice 30 0 #[]) T [] K w:=by
 rw [oM_buildSlice0]
 have e:(Instr.buildSlice 30 0 #[]).run Tryz.prog w = .ok (.slice (some ⟨w.heap.size,0,none⟩) 0 0) (w.alloc (.cells #[] 24)):=by kernel_rfl
 rw [e]
 exact k _ _ ((Below.refl _ w).alloc (Nat.le_refl _) _) (Nat.le_refl _) ⟨rfl,.inr ⟨_,0,#[],rfl,Nat.le_refl _,heap_alloc_new w _,Nat.le_refl _,by decide,rfl,rfl⟩⟩
theorem ints_zero (W:World) (a:Addr) (c:Nat):Ints W (.slice (some a) 0 c) []:=⟨⟨_,_,rfl,(fun e=>by cases e),Or.inl rfl⟩,by simp,by simp⟩
theorem copy_zero {T:TypeId} {l:List (List Int)} {ad:Option Addr} {m c:Nat} (hB:B ≤ w.heap.size) (hown:w.ownsRow B 24 1 (.slice (some ⟨g,0,none⟩) 0 0) 0 []) (hw:Below w0.heap.size w0 w) (hwB:w0.heap.size ≤ B) (hsrc:ListsR w0 (.slice ad m c) l) (hm:m = l.length) (hne:l ≠ []) (hl:l.length < 1099511627776)
  (k:∀ v' w',ListG B (fun j=>j < w0.heap.size) w' v' l → Below w.heap.size w w' → K v' w') :
  oM Tryz.prog (.call { callee:=.builtin .append,args:=#[.tmp 0,.tmp 1],argTypes:=#[30,30] }) T [.slice (some ⟨g,0,none⟩) 0 0,.slice ad m c] K w:=by
 let R:World → Value → List Int → Prop:=Ints
 have hst:VStay (VOne Ints):=ints_stay
 obtain ⟨⟨ad',c',hv,hr⟩,hlen⟩:=hsrc
 cases hv
 rcases hr with h0 | ⟨b,o,rfl,hlt,hat⟩
 ·exact absurd h0 hne
 have hex:∀ j,j < l.length → ∃ u,w0.cell? ⟨b,o + j,none⟩ = some u ∧ ∀ x,l[j]? = some x → Ints w0 u x:=fun j hj=>by
  obtain ⟨cl,hcl,h1,u,rfl,h2⟩:=hat j hj
  refine ⟨u,by have:=h1 0 u rfl; rwa [Nat.mul_one,Nat.add_zero] at this,fun x hx=>?_⟩
  rw [List.getElem?_eq_getElem hj] at hx
  cases hx
  exact h2
 let xs:List Value:=(List.range l.length).map fun j=>(w0.cell? ⟨b,o + j,none⟩).getD undef
 have hxl:xs.length = l.length:=by simp [xs]
 have hxs:∀ j u,xs[j]? = some u → w0.cell? ⟨b,o + j,none⟩ = some u ∧ ∀ x,l[j]? = some x → Ints w0 u x:=fun j u hj=>by
  have hjl:j < l.length:=by have:=(List.getElem?_eq_some_iff.1 hj).1; omega
  obtain ⟨u',h1,h2⟩:=hex j hjl
  have:xs[j]? = some u':=by
   show ((List.range l.length).map _)[j]? = _
   rw [List.getElem?_map,List.getElem?_range hjl]
   show some ((w0.cell? ⟨b,o + j,none⟩).getD undef) = _
   rw [h1]; rfl
  rw [this] at hj
  cases hj
  exact ⟨h1,h2⟩
 refine append_zero 30 T 24 ((Tryz.prog.info? 24).getD default) (.slice none 0 0) 1 24 (by kernel_rfl) (by kernel_rfl) (by kernel_rfl) (by kernel_rfl) (by kernel_rfl) (by kernel_rfl) (by decide) hB hown xs (by omega) (by simp) ?_ ?_ (by simp only [maxLen]; omega) (by omega) ?_
 ·rintro a ha j u hj
  cases ha
  rw [add_none]
  exact (hw.cell hlt).trans (hxs j u hj).1
 ·intro u hu
  obtain ⟨j,hj⟩:=List.getElem?_of_mem hu
  have hjl:j < l.length:=by have:=(List.getElem?_eq_some_iff.1 hj).1; omega
  obtain ⟨x1,x2,rfl⟩:=Ints.isSlice ((hxs j u hj).2 _ (List.getElem?_eq_getElem hjl))
  rfl
 ·intro v' w' ho' hb hv
  refine k v' w' ⟨xs.map cl1,?_,?_⟩ hb
  ·rw [flat_map1]; exact ho'
  ·have hf0:FP (fun j=>j < w0.heap.size) w0 (fun w=>Cols 1 (VOne Ints) w (xs.map cl1) l):=by
    refine FP.of_stay ⟨by simp [hxl],fun j c' x hj hx=>?_⟩ (fun w1 hb ⟨a1,a2⟩=>⟨a1,fun j c' x hj hx=>hst _ _ _ _ (a2 j c' x hj hx) hb⟩)
    rw [List.getElem?_map] at hj
    cases hu:xs[j]? with
    | none=>rw [hu] at hj; cases hj
    | some u=>
     rw [hu] at hj
     cases hj
     exact ⟨u,rfl,(hxs j u hu).2 x hx⟩
   exact (hf0.next hw (fun j hj=>hj)).next hb (fun j hj=>Nat.lt_of_lt_of_le hj hw.size)
theorem mkIz {T:TypeId} (k:∀ g W,Below w.heap.size w W → K (.slice (some ⟨g,0,none⟩) 0 0) W):oM Tryz.prog (.buildSlice 24 0 #[]) T [] K w:=by
 rw [oM_buildSlice0]
 have e:(Instr.buildSlice 24 0 #[]).run Tryz.prog w = .ok (.slice (some ⟨w.heap.size,0,none⟩) 0 0) (w.alloc (.cells #[] 3)):=by kernel_rfl
 rw [e]
 exact k _ _ ((Below.refl _ w).alloc (Nat.le_refl _) _)
set_option maxHeartbeats 2000000 in
theorem shape_end (s:Stp) (goal:List Cls) (ctx:Bytes) (ds:List (List Int)) (ns ns':List (List (List Int))) {ad pad aad:Option Addr} {c pc ac b1 b4 g5 c5:Nat} {gv:Value}
  (hs:SetR W s (.slice ad s.bases.length c)) (hg:GoalR W gv goal) (hd:ListsR W (.slice pad ds.length pc) ds) (ha:NumsR W (.slice aad ns.length ac) ns) (hl:Cd.Laid W) (hN:(goalL goal).length ≤ 1000000) (hctx:ctx.length ≤ 1000000)
  (hk:Kn w (cellsOf (cellsOf L b1 0 (stpC s (.slice ad s.bases.length c))) b4 0 (prfC (.slice pad ds.length pc) (.slice aad ns.length ac))) W') (hb:Below W.heap.size W W')
  (ha':NumsR W' (.slice (some ⟨g5,0,none⟩) ns'.length c5) ns') (hF1:verifyM s goal ctx ds ns' = false) (hF2:verifyM s goal ctx (ds ++ [[]]) ns = false) (hne:ds ≠ []) (hlen:ds.length < 1000)
  (k:∀ w',Below w.heap.size w w' → K (.bool true) w') :
  held_7t_110 K gv (.string ⟨ctx.toArray⟩) (.slice (some ⟨g5,0,none⟩) ns'.length c5) (ptr b4 0) (.bool true) (ptr b1 0) W':=by
 unfold held_7t_110
 have hodr:Below W'.heap.size W' { W' with drawn:=W'.drawn + 1 }:=.drawn
 have hk9:=hk.next hodr
 have hb9:=hb.on hodr
 have ha9:=ha'.next (atOf_stay lists_vstay) hodr
 refine ⟨Nx { W' with drawn:=W'.drawn + 1 },Below.refl _ _,?_⟩
 generalize ({ W' with drawn:=W'.drawn + 1 }:World) = W9 at hk9 hb9 ha9 ⊢
 repeat (any_goals (first
 | (with_reducible first|refine pureH_in ?_|((refine idGdH ?_); refine gdH_conv fun _=>?_)|refine zA ?_)
 | ((with_reducible refine idOH ?_); (with_reducible refine oH_of ⟨_,rfl⟩ (fun W0 hW0=>by (refine oM_gen (fun Kv hK=>?_)); simp [go_sem,(hk9.next hW0).cells]; (first | exact hK _ _ ⟨rfl,rfl⟩ | exact ⟨by omega,hK _ _ ⟨rfl,rfl⟩⟩)) ?_))
 | ((with_reducible refine oM_gen fun Kv hK=>?_); simp [go_sem]; refine hK _ _ ?_; clear hK Kv)))
 refine ⟨Below.refl _ _,?_⟩
 iterate 1 (any_goals (with_reducible refine zA ?_))
 refine Verify_ok s goal ctx ds ns' (hs.next hb9) (hg.next (atOf_stay cls_vstay) hb9) (hd.next (atOf_stay ints_stay) hb9) ha9 (hl.below hb9 hl.size) hN hctx (fun W2 nx=>?_)
 rw [hF1]
 have nx:Below W9.heap.size W9 W2:=nx
 refine ⟨nx,?_⟩
 have fin:∀ (Wz:World) (v:Value),Nx W9 Wz → ListsR Wz v (ds ++ [[]]) →
   gdM (gd (.bool true) true) (oM Tryz.prog (.build 34 #[(0,(.tmp 0)),(1,(.tmp 1))]) 34 [v,.slice aad ns.length ac]) (fun v204 w=>Nx W9 w ∧ (gdM (gd (.bool true) true) (callM Tryz.prog 30 #[.agg #[.int .i64 s.g.P,.int .i64 s.g.Q,.int .i64 s.g.G,.slice ad s.bases.length c,.int .i64 s.blind],gv,.string ⟨ctx.toArray⟩,v204]) (fun v205 w=>Nx W9 w ∧ (gdH (gd (.bool true) true) (oH Tryz.prog (.unOp .not 4 (.tmp 0)) 4 [v205]) (Nx W9) (fun v206=>oH Tryz.prog (.pick (.tmp 0) (.tmp 1) (.tmp 2)) 4 [.bool true,v206,.bool false] (Nx W9) (fun v207=>Nx W9 w ∧ K v207 w)))) w)) Wz:=by
  intro Wz v nx hv
  obtain ⟨vad,vc,rfl⟩:=id hv.isSlice
  have e:(ds ++ [[]]).length = ds.length + 1:=by simp
  rw [e] at hv
  iterate 2 (any_goals (first
  | (with_reducible refine zA ?_)
  | ((with_reducible refine oM_gen fun Kv hK=>?_); simp [go_sem]; refine hK _ _ ?_; clear hK Kv)))
  refine ⟨nx,?_⟩
  iterate 1 (any_goals (with_reducible refine zA ?_))
  have hz:=hb9.on nx
  refine Verify_ok s goal ctx (ds ++ [[]]) ns (hs.next hz) (hg.next (atOf_stay cls_vstay) hz) hv (ha.next (atOf_stay lists_vstay) hz) (hl.below hz hl.size) hN hctx (fun W3 h3=>?_)
  rw [hF2]
  have nx3:Nx W9 W3:=Below.on nx h3
  refine ⟨nx3,?_⟩
  repeat (any_goals (first
  | (with_reducible first|((refine idGdH ?_); refine gdH_conv fun _=>?_)|refine zA ?_)
  | ((with_reducible refine idOH ?_); first|(with_reducible refine vA ?_)|(with_reducible refine oH_of ⟨_,rfl⟩ (fun W0 hW0=>by (refine oM_gen (fun Kv hK=>?_)); simp [go_sem,(hk9.next hW0).cells]; (first | exact hK _ _ ⟨rfl,rfl⟩ | exact ⟨by omega,hK _ _ ⟨rfl,rfl⟩⟩)) ?_))))
  exact ⟨nx3,k _ (hk9.next nx3).below⟩
 repeat (any_goals (first
 | (with_reducible first|refine pureH_in ?_|((refine idGdH ?_); refine gdH_conv fun _=>?_)|refine zA ?_)
 | ((with_reducible refine idOH ?_); first|(with_reducible refine vA ?_)|(with_reducible refine oH_of ⟨_,rfl⟩ (fun W0 hW0=>by (refine oM_gen (fun Kv hK=>?_)); simp [go_sem,(hk9.next hW0).cells]; (first | exact hK _ _ ⟨rfl,rfl⟩ | exact ⟨by omega,hK _ _ ⟨rfl,rfl⟩⟩)) ?_))))
 refine ⟨?_,?_⟩
 ·iterate 1 (any_goals (with_reducible refine zA ?_))
  refine mkLz (fun gA XA hb hg hA=>?_)
  have hA:=owns_up (C:=W9.heap.size) hA (fun j hj=>by cases hj; have:=nx.size; show W9.heap.size ≤ gA; omega)
  have nx:=nx.on hb
  refine ⟨nx,?_⟩
  refine ⟨?_,?_⟩
  ·iterate 1 (any_goals (with_reducible refine zA ?_))
   refine copy_zero (w0:=W) nx.size hA (hb9.on nx) hb9.size hd rfl hne (by omega) (fun vB XB hB hb=>?_)
   obtain ⟨gB,cB,rfl,hBb,hBl⟩:=grow_slice hB hne
   have nx:=nx.on hb
   refine ⟨nx,?_⟩
   iterate 1 (any_goals (with_reducible refine zA ?_))
   refine mkIz (fun gC XC hb=>?_)
   have hB:=hB.next hb (fun j hj=>Nat.lt_of_lt_of_le hj (Nat.le_trans hb9.size nx.size))
   have nx:=nx.on hb
   refine ⟨nx,?_⟩
   iterate 1 (any_goals (with_reducible refine zA ?_))
   refine lit_ints _ _ _ (fun gD XD hb hg hD=>?_)
   have hB:=hB.next hb (fun j hj=>Nat.lt_of_lt_of_le hj (Nat.le_trans hb9.size nx.size))
   have nx:=nx.on hb
   refine ⟨nx,?_⟩
   iterate 1 (any_goals (with_reducible refine zA ?_))
   refine ints_append hB nx.size hD (fun w1 _ _ _ _ _=>ints_zero w1 _ _) (fun j hj=>⟨by have:=hb9.size; have:=nx.size; omega,fun e=>by have:=(hB.own e).2; have:=hb9.size; omega⟩) (by omega) (fun vE XE hE hgr hv ho=>?_)
   have nx:=nx.grown hgr nx.size (fun j hj=>(hB.own hj).2)
   have hEs:=hE.srow (by decide) (by simp; omega)
   exact ⟨nx,fin _ _ nx hEs⟩
  ·iterate 1 (any_goals (with_reducible refine zA ?_))
   refine mkIz (fun gC XC hb=>?_)
   have hA:=owns_keep hA (fun j hj=>hb.block j (owns_own hA hj).1)
   have nx:=nx.on hb
   refine ⟨nx,?_⟩
   refine ⟨?_,?_⟩
   ·iterate 1 (any_goals (with_reducible refine zA ?_))
    refine copy_zero (w0:=W) nx.size hA (hb9.on nx) hb9.size hd rfl hne (by omega) (fun vB XB hB hb=>?_)
    obtain ⟨gB,cB,rfl,hBb,hBl⟩:=grow_slice hB hne
    have nx:=nx.on hb
    refine ⟨nx,?_⟩
    iterate 1 (any_goals (with_reducible refine zA ?_))
    refine lit_ints _ _ _ (fun gD XD hb hg hD=>?_)
    have hB:=hB.next hb (fun j hj=>Nat.lt_of_lt_of_le hj (Nat.le_trans hb9.size nx.size))
    have nx:=nx.on hb
    refine ⟨nx,?_⟩
    iterate 1 (any_goals (with_reducible refine zA ?_))
    refine ints_append hB nx.size hD (fun w1 _ _ _ _ _=>ints_zero w1 _ _) (fun j hj=>⟨by have:=hb9.size; have:=nx.size; omega,fun e=>by have:=(hB.own e).2; have:=hb9.size; omega⟩) (by omega) (fun vE XE hE hgr hv ho=>?_)
    have nx:=nx.grown hgr nx.size (fun j hj=>(hB.own hj).2)
    have hEs:=hE.srow (by decide) (by simp; omega)
    exact ⟨nx,fin _ _ nx hEs⟩
   ·iterate 1 (any_goals (with_reducible refine zA ?_))
    refine lit_ints _ _ _ (fun gD XD hb hg hD=>?_)
    have hA:=owns_keep hA (fun j hj=>hb.block j (owns_own hA hj).1)
    have nx:=nx.on hb
    refine ⟨nx,?_⟩
    iterate 1 (any_goals (with_reducible refine zA ?_))
    refine copy_zero (w0:=W) nx.size hA (hb9.on nx) hb9.size hd rfl hne (by omega) (fun vB XB hB hb=>?_)
    obtain ⟨gB,cB,rfl,hBb,hBl⟩:=grow_slice hB hne
    have hD:=hD.next hb
    have nx:=nx.on hb
    refine ⟨nx,?_⟩
    iterate 1 (any_goals (with_reducible refine zA ?_))
    refine ints_append hB nx.size hD (fun w1 _ _ _ _ _=>ints_zero w1 _ _) (fun j hj=>⟨by have:=hb9.size; have:=nx.size; omega,fun e=>by have:=(hB.own e).2; have:=hb9.size; omega⟩) (by omega) (fun vE XE hE hgr hv ho=>?_)
    have nx:=nx.grown hgr nx.size (fun j hj=>(hB.own hj).2)
    have hEs:=hE.srow (by decide) (by simp; omega)
    exact ⟨nx,fin _ _ nx hEs⟩
 ·iterate 1 (any_goals (with_reducible refine zA ?_))
  refine mkIz (fun gC XC hb=>?_)
  have nx:=nx.on hb
  refine ⟨nx,?_⟩
  refine ⟨?_,?_⟩
  ·iterate 1 (any_goals (with_reducible refine zA ?_))
   refine mkLz (fun gA XA hb hg hA=>?_)
   have hA:=owns_up (C:=W9.heap.size) hA (fun j hj=>by cases hj; have:=nx.size; show W9.heap.size ≤ gA; omega)
   have nx:=nx.on hb
   refine ⟨nx,?_⟩
   refine ⟨?_,?_⟩
   ·iterate 1 (any_goals (with_reducible refine zA ?_))
    refine copy_zero (w0:=W) nx.size hA (hb9.on nx) hb9.size hd rfl hne (by omega) (fun vB XB hB hb=>?_)
    obtain ⟨gB,cB,rfl,hBb,hBl⟩:=grow_slice hB hne
    have nx:=nx.on hb
    refine ⟨nx,?_⟩
    iterate 1 (any_goals (with_reducible refine zA ?_))
    refine lit_ints _ _ _ (fun gD XD hb hg hD=>?_)
    have hB:=hB.next hb (fun j hj=>Nat.lt_of_lt_of_le hj (Nat.le_trans hb9.size nx.size))
    have nx:=nx.on hb
    refine ⟨nx,?_⟩
    iterate 1 (any_goals (with_reducible refine zA ?_))
    refine ints_append hB nx.size hD (fun w1 _ _ _ _ _=>ints_zero w1 _ _) (fun j hj=>⟨by have:=hb9.size; have:=nx.size; omega,fun e=>by have:=(hB.own e).2; have:=hb9.size; omega⟩) (by omega) (fun vE XE hE hgr hv ho=>?_)
    have nx:=nx.grown hgr nx.size (fun j hj=>(hB.own hj).2)
    have hEs:=hE.srow (by decide) (by simp; omega)
    exact ⟨nx,fin _ _ nx hEs⟩
   ·iterate 1 (any_goals (with_reducible refine zA ?_))
    refine lit_ints _ _ _ (fun gD XD hb hg hD=>?_)
    have hA:=owns_keep hA (fun j hj=>hb.block j (owns_own hA hj).1)
    have nx:=nx.on hb
    refine ⟨nx,?_⟩
    iterate 1 (any_goals (with_reducible refine zA ?_))
    refine copy_zero (w0:=W) nx.size hA (hb9.on nx) hb9.size hd rfl hne (by omega) (fun vB XB hB hb=>?_)
    obtain ⟨gB,cB,rfl,hBb,hBl⟩:=grow_slice hB hne
    have hD:=hD.next hb
    have nx:=nx.on hb
    refine ⟨nx,?_⟩
    iterate 1 (any_goals (with_reducible refine zA ?_))
    refine ints_append hB nx.size hD (fun w1 _ _ _ _ _=>ints_zero w1 _ _) (fun j hj=>⟨by have:=hb9.size; have:=nx.size; omega,fun e=>by have:=(hB.own e).2; have:=hb9.size; omega⟩) (by omega) (fun vE XE hE hgr hv ho=>?_)
    have nx:=nx.grown hgr nx.size (fun j hj=>(hB.own hj).2)
    have hEs:=hE.srow (by decide) (by simp; omega)
    exact ⟨nx,fin _ _ nx hEs⟩
  ·iterate 1 (any_goals (with_reducible refine zA ?_))
   refine lit_ints _ _ _ (fun gD XD hb hg hD=>?_)
   have nx:=nx.on hb
   refine ⟨nx,?_⟩
   iterate 1 (any_goals (with_reducible refine zA ?_))
   refine mkLz (fun gA XA hb hg hA=>?_)
   have hA:=owns_up (C:=W9.heap.size) hA (fun j hj=>by cases hj; have:=nx.size; show W9.heap.size ≤ gA; omega)
   have hD:=hD.next hb
   have nx:=nx.on hb
   refine ⟨nx,?_⟩
   iterate 1 (any_goals (with_reducible refine zA ?_))
   refine copy_zero (w0:=W) nx.size hA (hb9.on nx) hb9.size hd rfl hne (by omega) (fun vB XB hB hb=>?_)
   obtain ⟨gB,cB,rfl,hBb,hBl⟩:=grow_slice hB hne
   have hD:=hD.next hb
   have nx:=nx.on hb
   refine ⟨nx,?_⟩
   iterate 1 (any_goals (with_reducible refine zA ?_))
   refine ints_append hB nx.size hD (fun w1 _ _ _ _ _=>ints_zero w1 _ _) (fun j hj=>⟨by have:=hb9.size; have:=nx.size; omega,fun e=>by have:=(hB.own e).2; have:=hb9.size; omega⟩) (by omega) (fun vE XE hE hgr hv ho=>?_)
   have nx:=nx.grown hgr nx.size (fun j hj=>(hB.own hj).2)
   have hEs:=hE.srow (by decide) (by simp; omega)
   exact ⟨nx,fin _ _ nx hEs⟩
end
end Go.Proofs
namespace Go.Proofs
open Go Go.Sh Go.RowKit FdSpec TkSpec CodeSpec PrSpec FdPoly
section
theorem sz_intsR2 (w:World):(sizeOf 30).run Tryz.prog w = .ok 1 w:=by kernel_rfl
variable {K:Value → World → Prop} {w w' w0 W W' We W1 W2:World} {L:List (Addr × Value)} {g n B b i:Nat} {row:Option Nat}
set_option maxHeartbeats 4000000 in
theorem shape_post (s:Stp) (goal:List Cls) (ctx:Bytes) (ds:List (List Int)) (ns:List (List (List Int))) (ni nk nv:Int) (by_:Int) {ad pad aad:Option Addr} {c pc ac b1 b4:Nat} {gv:Value}
  (hs:SetR W s (.slice ad s.bases.length c)) (hg:GoalR W gv goal) (hd:ListsR W (.slice pad ds.length pc) ds) (ha:NumsR W (.slice aad ns.length ac) ns) (hl:Cd.Laid W) (hN:(goalL goal).length ≤ 1000000) (hctx:ctx.length ≤ 1000000)
  (hk:Kn w (cellsOf (cellsOf L b1 0 (stpC s (.slice ad s.bases.length c))) b4 0 (prfC (.slice pad ds.length pc) (.slice aad ns.length ac))) W)
  (hver:verifyM s goal ctx ds ns = true) (hby:by_ = s.g.Q ∨ by_ = -s.g.Q) (hni:0 ≤ ni ∧ ni < 256) (hnk:0 ≤ nk ∧ nk < 256) (hnv:0 ≤ nv ∧ nv < 256)
  (k:∀ w',Below w.heap.size w w' → K (.bool true) w') :
  post_7t_37 K gv (.string ⟨ctx.toArray⟩) (.int .u8 ni) (.int .u8 nk) (.int .u8 nv) (ptr b4 0) (.bool true) (ptr b1 0) [.int .i64 by_] W:=by
 unfold post_7t_37
 have hF:=shpF_of hver
 have hQ:=hF.Q
 have hlen:=hF.len
 have hpos:=hF.pos
 have hmx:=hF.max
 obtain ⟨i,rfl⟩:=Int.eq_ofNat_of_zero_le hni.1
 obtain ⟨kk,rfl⟩:=Int.eq_ofNat_of_zero_le hnk.1
 obtain ⟨vv,rfl⟩:=Int.eq_ofNat_of_zero_le hnv.1
 have hw1:IntKind.i64.wrap ((i:Nat):Int) = i:=wrapI64 _ (by omega) (by omega)
 have hw2:IntKind.i64.wrap ((kk:Nat):Int) = kk:=wrapI64 _ (by omega) (by omega)
 have hw3:IntKind.i64.wrap ((vv:Nat):Int) = vv:=wrapI64 _ (by omega) (by omega)
 have hdz:¬ ((ds.length:Int) = 0):=by omega
 have hm1:((i:Nat):Int).tmod (ds.length:Int) = ((i % ds.length:Nat):Int):=rfl
 have hnl:i % ds.length < ds.length:=Nat.mod_lt _ hpos
 generalize hn:i % ds.length = n at *
 obtain ⟨r1,r2,r3⟩:=hF.row n hnl
 have hdr:=hF.dr n hnl
 have hnr:=hF.nl n hnl
 have ed:ds[n]? = some ds[n]:=List.getElem?_eq_getElem hnl
 have en:ns[n]? = some ns[n]:=List.getElem?_eq_getElem (by omega)
 rw [getD_is ed] at r1 r2 r3 hdr
 rw [getD_is en] at r3 hnr
 have hdall:∀ r ∈ ds,r.length ≤ 16 ∧ ∀ x ∈ r,0 ≤ x ∧ x < s.g.Q:=fun r hr=>by
  obtain ⟨j,hj⟩:=List.getElem?_of_mem hr
  have hjl:=(List.getElem?_eq_some_iff.1 hj).1
  have h1:=hF.row j hjl
  have h2:=hF.dr j hjl
  rw [getD_is hj] at h1 h2
  exact ⟨h1.2.1,h2⟩
 have hI:∀ x:Int,0 ≤ x ∧ x < s.g.Q → I64 (x + by_):=fun x hx=>by unfold I64; rcases hby with h | h <;> omega
 have hdz':¬ ds = []:=fun e=>by rw [e] at hpos; simp at hpos
 repeat (any_goals ((with_reducible refine oM_gen fun Kv hK=>?_); simp [go_sem,hk.cells,hw1,hw2,hdz',hm1]; refine hK _ _ ?_; clear hK Kv))
 refine with_ok ds n kk by_ hd (by omega) (fun r hr=>by have:=(hdall r hr).1; omega) (by omega) (by omega) (fun r hr x hx=>hI x ((hdall r hr).2 x hx)) (fun v1 W1 h1 hv1 hf1=>?_)
 obtain ⟨vad,vc,rfl⟩:=hv1
 have hk1:=hk.next h1
 have hwB:withB ds n = true:=by
  unfold withB
  rw [decide_eq_true hnl,getD_is ed,decide_eq_false (by omega)]; rfl
 rw [hwB]
 repeat (any_goals (first
 | (with_reducible first|refine pureM_in ?_|refine zA ?_)
 | ((with_reducible refine oM_gen fun Kv hK=>?_); simp [go_sem,hk1.cells]; refine hK _ _ ?_; clear hK Kv)))
 have hfalse1:=shape_dares (ds':=withL ds n kk by_) (ns':=ns) hver hby hnl (k:=kk % ds[n].length) (by rw [getD_is ed]; exact Nat.mod_lt _ (by omega)) (by
  have:=withL_at (i:=n) (k:=kk) (by_:=by_) ed
  rw [getD_is this,if_pos rfl,getD_is ed]
  rfl)
 have hwl:(withL ds n kk by_).length = ds.length:=by unfold withL; simp
 have hdv:ListsR W1 (.slice vad ds.length vc) (withL ds n kk by_):=hf1.here
 have haW1:=ha.next (atOf_stay lists_vstay) h1
 refine Verify_ok s goal ctx (withL ds n kk by_) ns (hs.next h1) (hg.next (atOf_stay cls_vstay) h1) hdv haW1 (hl.below h1 hl.size) hN hctx (fun W2 h2=>?_)
 rw [hfalse1]
 have h12:=h1.on h2
 have hk2:=hk1.next h2
 obtain ⟨bn,on,rfl,hltn,csn,_,hcelln,vn,rfl,hrown⟩:=ha.at (i:=n) (by omega)
 have cn:=hcelln 0 _ rfl
 simp only [Nat.add_zero,Nat.mul_one] at cn
 obtain ⟨nad,nc,rfl⟩:=id hrown.isSlice
 have hnN:(n:Int) < ns.length:=by omega
 have haz:¬ ((ns[n].length:Int) = 0):=by omega
 have haz':¬ (ns[n] = []):=fun e=>by rw [e] at r3; simp at r3; omega
 have hm2:((kk:Nat):Int).tmod (ns[n].length:Int) = ((kk % ns[n].length:Nat):Int):=rfl
 have hml:kk % ns[n].length < ns[n].length:=Nat.mod_lt _ (by omega)
 have hml':((kk % ns[n].length:Nat):Int) < ns[n].length:=by omega
 have em:ns[n][kk % ns[n].length]? = some ns[n][kk % ns[n].length]:=List.getElem?_eq_getElem hml
 generalize hA:ns[n] = A at *
 generalize hmm:kk % A.length = m at *
 have hm0:(0:Int) ≤ (m:Nat):=by omega
 repeat (any_goals (first
 | (with_reducible first|refine yB ?_|refine yM ?_)
 | ((with_reducible refine oM_gen fun Kv hK=>?_); simp [go_sem,hk2.cells,(h12.cell hltn).trans cn,hnN,haz,haz',hw2,hw3,hm2]; refine hK _ _ ?_; clear hK Kv)))
 refine with_ok A m vv by_ (hrown.next (atOf_stay ints_stay) h12) (by omega) (fun r hr=>by have:=(hnr r hr).1; omega) (by omega) (by omega) (fun r hr x hx=>hI x ((hnr r hr).2 x hx)) (fun v3 W3 h3 hv3 hf3=>?_)
 obtain ⟨wad,wc,rfl⟩:=hv3
 have h13:=h12.on h3
 have hk3:=hk2.next h3
 iterate 2 (any_goals ((with_reducible refine oM_gen fun Kv hK=>?_); simp [go_sem]; refine hK _ _ ?_; clear hK Kv))
 refine mkN0 (fun zad zc W4 h4 hz4=>?_)
 have h14:=h13.on h4
 have hk4:=hk3.next h4
 iterate 2 (any_goals ((with_reducible refine oM_gen fun Kv hK=>?_); simp [go_sem,hk4.cells]; refine hK _ _ ?_; clear hK Kv))
 have haW4:=ha.next (atOf_stay lists_vstay) h13
 refine copy_nums (w0:=W3) hz4 h4.size h4 (Nat.le_refl _) haW4 (fun e=>by rw [e] at hlen; simp at hlen; omega) (by omega) (fun v5 W5 hg5 hgr5 hv5=>?_)
 have hns:ns ≠ []:=fun e=>by rw [e] at hlen; simp at hlen; omega
 obtain ⟨g5,c5,rfl,hb5,hg5lt⟩:=grow_slice hg5 hns
 have h35:Below W3.heap.size W3 W5:=h4.grown hgr5 h4.size (fun j hj=>by
  have:=(hz4.own hj).2
  omega)
 iterate 1 (any_goals ((with_reducible refine oM_gen fun Kv hK=>?_); simp [go_sem,hnN]; refine hK _ _ ?_; clear hK Kv))
 have hfx:FP (fun j=>j < W3.heap.size) W5 (fun w=>ListsR w (.slice wad A.length wc) (withL A m vv by_)):=((hf3.mono (E:=fun j=>j < W3.heap.size) (fun j hj=>hj.2)).next h4 (fun j hj=>hj)).by hgr5 (fun j hj=>⟨by have:=h4.size; omega,fun e=>by have:=(hz4.own e).2; omega⟩)
 refine hg5.set (i:=n) sz_intsR2 (by omega) rfl rfl hfx (fun j hj=>⟨by have:=h35.size; omega,fun e=>by omega⟩) (fun W6 hgr6 hg6=>?_)
 have h36:Below W3.heap.size W3 W6:=h35.grown hgr6 h35.size (fun j hj=>by cases hj; exact hb5)
 have h16:=h13.on h36
 have hk6:=hk3.next h36
 have hlset:(ns.set n (withL A m vv by_)).length = ns.length:=List.length_set
 have ha6:NumsR W6 (.slice (some ⟨g5,0,none⟩) ns.length c5) (ns.set n (withL A m vv by_)):=by
  have:=hg6.srow (by decide) (by rw [hlset]; omega)
  exact this
 have hd6:=hd.next (atOf_stay ints_stay) h16
 have eset:(ns.set n (withL A m vv by_)).getD n [] = withL A m vv by_:=getD_is (by rw [List.getElem?_set_self (by omega)])
 have hlast:∀ W7,Below W6.heap.size W6 W7 → last_7t K gv (.string ⟨ctx.toArray⟩) (ptr b1 0) (ptr b4 0) (.bool true) (.int .i64 n) (.int .i64 m) (.slice (some ⟨g5,0,none⟩) ns.length c5) W7:=by
  intro W7 h7
  have hg7:=hg6.next h7 (fun j hj=>by have:=h36.size; omega)
  have h37:=h36.on h7
  have h17:=h13.on h37
  have hk7:=hk6.next h7
  unfold last_7t
  have hAne:A ≠ []:=haz'
  refine mkL0 (fun l8 c8 W8 h8 hL8=>?_)
  have hk8:=hk7.next h8
  have h18:=h17.on h8
  iterate 4 (any_goals ((with_reducible refine oM_gen fun Kv hK=>?_); simp [go_sem,hk8.cells,(h18.cell hltn).trans cn,hnN]; refine hK _ _ ?_; clear hK Kv))
  refine copy_lists (w0:=W) hL8 (by have:=h8.size; omega) h18 h17.size hrown hAne (by omega) (fun v9 W9 hg9 hgr9 hv9=>?_)
  obtain ⟨g9,c9,rfl,hb9,hg9lt⟩:=grow_slice hg9 hAne
  have h79:Below W7.heap.size W7 W9:=h8.grown hgr9 h8.size (fun j hj=>(hL8.own hj).2)
  refine mkI0 (fun l10 c10 W10 h10 ho10=>?_)
  have h7a:=h79.on h10
  have hg10:=hg9.next h10 (fun j hj=>by have:=h17.size; have:=h79.size; omega)
  obtain ⟨bq,oq,eq',hbq,csq,_,hcellq,vq,rfl,hIq⟩:=(hg10.srow (by decide) (by omega)).at (i:=m) hml
  cases eq'
  have cq:=hcellq 0 _ rfl
  simp only [Nat.add_zero,Nat.mul_one,Nat.zero_add] at cq
  rw [show A[m] = A[m] from rfl] at hIq
  obtain ⟨qad,qc,rfl⟩:=id hIq.isSlice
  iterate 2 (any_goals ((with_reducible refine oM_gen fun Kv hK=>?_); simp [go_sem,cq,hml',hm0]; refine hK _ _ ?_; clear hK Kv))
  refine appendNg ho10 (by have:=h10.size; omega) hIq (by have:=(hnr _ (List.getElem_mem hml)).1; simp; omega) (fun v11 W11 ho11 hgr11 hv11=>?_)
  rw [List.nil_append] at ho11
  have hq10:∀ j,(Value.slice l10 0 c10).ownBlock = some j → W9.heap.size ≤ j:=fun j hj=>(owns_own ho10 hj).2.1
  have h9b:Below W9.heap.size W9 W11:=h10.grown hgr11 h10.size hq10
  refine mk1 0 i64lit (fun v12 W12 h12' hi12=>?_)
  have h9c:=h9b.on h12'
  refine appendNg (ho11.keep h12') (by have:=h9c.size; have:=h10.size; omega) hi12 (by have:=(hnr _ (List.getElem_mem hml)).1; simp; omega) (fun v13 W13 ho13 hgr13 hv13=>?_)
  have h9d:Below W9.heap.size W9 W13:=h9c.grown hgr13 h9c.size (fun j hj=>(owns_own ho11 hj).2.1)
  have hg13:=hg9.next h9d (fun j hj=>by have:=h17.size; have:=h79.size; omega)
  obtain ⟨xad,xc,rfl⟩:=owns_len ho13
  iterate 1 (any_goals ((with_reducible refine oM_gen fun Kv hK=>?_); simp [go_sem,hml',hm0]; refine hK _ _ ?_; clear hK Kv))
  have hs9:=h9d.size
  have hs7:=h79.size
  have hs17:=h17.size
  have hrI:∀ x ∈ A[m] ++ [0],I64 x:=fun x hx=>by
   rcases List.mem_append.1 hx with h | h
   ·exact hIq.rng x h
   ·rw [List.mem_singleton.1 h]; exact I64_0
  have hxf:FP (fun j=>j < W.heap.size ∨ (W9.heap.size ≤ j ∧ j < W13.heap.size)) W13 (fun w=>Ints w (.slice xad (A[m] ++ [0]).length xc) (A[m] ++ [0])):=((ho13.ints hrI (by have:=(hnr _ (List.getElem_mem hml)).1; simp; omega)).fp).mono (fun j hj=>.inr ⟨(owns_own ho13 (own_inB ho13 hj.1)).2.1 |> fun h=>by have:=h10.size; omega,hj.2⟩)
  refine (hg13.mono (fun j hj=>.inl hj)).set (i:=m) (x:=A[m] ++ [0]) sz_intsR hml rfl rfl hxf (fun j hj=>hj.elim (fun h=>⟨by omega,fun e=>by omega⟩) (fun h=>⟨h.2,fun e=>by omega⟩)) (fun W14 hgr14 hg14=>?_)
  have h9e:Below W7.heap.size W7 W14:=(h79.on h9d).grown hgr14 (by omega) (fun j hj=>by cases hj; exact hb9)
  have hs14:=hgr14.size
  have hs36:=h36.size
  have hg56:=hgr6.size
  have hs7':=h7.size
  iterate 1 (any_goals ((with_reducible refine oM_gen fun Kv hK=>?_); simp [go_sem,hnN]; refine hK _ _ ?_; clear hK Kv))
  have hla:(A.set m (A[m] ++ [0])).length = A.length:=List.length_set
  have hyf:FP (fun j=>j < W3.heap.size ∨ (W7.heap.size ≤ j ∧ j < W14.heap.size)) W14 (fun w=>ListsR w (.slice (some ⟨g9,0,none⟩) A.length c9) (A.set m (A[m] ++ [0]))):=(hg14.fp (by decide) (by rw [hla]; omega)).mono (fun j hj=>by
   rcases hj with (h | h) | h
   ·left; have:=h13.size; omega
   ·right; omega
   ·right
    have:=(hg14.own h).1
    have:=(hg14.own h).2
    omega)
  have hg7':=hg7.next h9e (fun j hj=>by omega)
  refine (hg7'.mono (fun j hj=>.inl hj)).set (i:=n) (x:=A.set m (A[m] ++ [0])) sz_intsR2 (by rw [hlset]; omega) rfl rfl hyf (fun j hj=>hj.elim (fun h=>⟨by omega,fun e=>by omega⟩) (fun h=>⟨h.2,fun e=>by omega⟩)) (fun W15 hgr15 hg15=>?_)
  rw [List.set_set] at hg15
  have h3f:Below W3.heap.size W3 W15:=(h37.on h9e).grown hgr15 (by omega) (fun j hj=>by cases hj; exact hb5)
  have h1f:=h13.on h3f
  have hk15:=hk3.next h3f
  have hlset2:(ns.set n (A.set m (A[m] ++ [0]))).length = ns.length:=List.length_set
  have ha15:NumsR W15 (.slice (some ⟨g5,0,none⟩) (ns.set n (A.set m (A[m] ++ [0]))).length c5) (ns.set n (A.set m (A[m] ++ [0]))):=by
   rw [hlset2]
   exact hg15.srow (by decide) (by rw [hlset2]; omega)
  rw [show ns.length = (ns.set n (A.set m (A[m] ++ [0]))).length from hlset2.symm]
  have hF1:verifyM s goal ctx ds (ns.set n (A.set m (A[m] ++ [0]))) = false:=by
   refine shape_longer (ds':=ds) (i:=n) (m:=m) (z:=0) hver (by omega) (by rw [getD_is en]; omega) ?_
   rw [getD_is (l:=ns.set n (A.set m (A[m] ++ [0]))) (x:=A.set m (A[m] ++ [0])) (by rw [List.getElem?_set_self (by omega)]),getD_is en,getD_is em]
   exact getD_is (by rw [List.getElem?_set_self hml])
  exact shape_end s goal ctx ds ns _ hs hg hd ha hl hN hctx hk15 h1f ha15 hF1 (shape_more hver []) (fun e=>by rw [e] at hpos; simp at hpos) (by omega) k
 have hAw:withB A m = true → verifyM s goal ctx ds (ns.set n (withL A m vv by_)) = false:=fun hq=>by
  have hq2:¬ A[m].length = 0:=by
   unfold withB at hq
   rw [getD_is em] at hq
   simpa [hml] using hq
  refine shape_answers (ds':=ds) (ns':=ns.set n (withL A m vv by_)) hver hby (i:=n) (m:=m) (k:=vv % A[m].length) (by omega) ?_ ?_ ?_
  ·rw [getD_is en]; omega
  ·rw [getD_is en,getD_is em]; exact Nat.mod_lt _ (by omega)
  ·rw [eset,getD_is en,getD_is em]
   have:=withL_at (i:=m) (k:=vv) (by_:=by_) em
   rw [getD_is this,if_pos rfl]
   rfl
 cases hq:withB A m with
 | false=>
  repeat (any_goals (with_reducible first|refine zB ?_|refine yC ?_|refine yM ?_))
  exact hlast _ (Below.refl _ _)
 | true=>
  have hv6:=hAw hq
  repeat (any_goals (first
  | (with_reducible first|refine pureM_in ?_|refine zA ?_)
  | ((with_reducible refine oM_gen fun Kv hK=>?_); simp [go_sem,hk6.cells]; refine hK _ _ ?_; clear hK Kv)))
  refine Verify_ok s goal ctx ds (ns.set n (withL A m vv by_)) (hs.next h16) (hg.next (atOf_stay cls_vstay) h16) hd6 ha6 (hl.below h16 hl.size) hN hctx (fun W8 h8=>?_)
  rw [hv6]
  repeat (any_goals (with_reducible first|refine yB ?_|refine yM ?_))
  exact hlast _ h8
end
end Go.Proofs
namespace Go.Proofs
open Go Go.Sh Go.RowKit FdSpec TkSpec CodeSpec PrSpec FdPoly
section
variable {K:Value → World → Prop} {w w' w0 W W' We W1 W2:World} {L:List (Addr × Value)} {g n B b i:Nat} {row:Option Nat}
set_option maxHeartbeats 2000000 in
theorem shape_ok (s:Stp) (goal:List Cls) (ctx:Bytes) (know:List (List Knw)) (n1:List (List (List Int))) (d1:List (List Int)) (ni nk nv:Int) (up:Bool) {sv gv kv nv1 dv1:Value} (hs:SetR w s sv) (hg:GoalR w gv goal) (hk0:KnowR w kv know) (hn1:NumsR w nv1 n1) (hd1:ListsR w dv1 d1) (hl:Cd.Laid w) (hc:ctx.length < 1000000000000000)
  (hni:0 ≤ ni ∧ ni < 256) (hnk:0 ≤ nk ∧ nk < 256) (hnv:0 ≤ nv ∧ nv < 256)
  (k:∀ w',Below w.heap.size w w' → K (.bool true) w'):callM Tryz.prog 7 #[stpV s sv,gv,.string ⟨ctx.toArray⟩,kv,prfV nv1 dv1,.int .u8 ni,.int .u8 nk,.int .u8 nv,.bool up] K w:=by
 apply sh_7t_ok
 unfold sh_7t
 have hs':=hs
 have hn1':=hn1
 have hd1':=hd1
 obtain ⟨ad,c,rfl⟩:=hs.ints.isSlice
 obtain ⟨a1,c1,rfl⟩:=hn1.isSlice
 obtain ⟨a2,c2,rfl⟩:=hd1.isSlice
 refine box_kn (cs:=stpC s (.slice ad s.bases.length c)) rfl (.start w) fun b1 W hk hb1 hbb=>?_
 refine box_kn (cs:=prfC (.slice a1 n1.length c1) (.slice a2 d1.length c2)) rfl hk fun b2 W hk hb2 hbb=>?_
 clear hb1 hb2 hbb
 refine small_ok (hs'.db.next hk.below) (hl.below hk.below hl.size) (fun w1 h1=>?_)
 have hk:=hk.next h1
 repeat (any_goals ((with_reducible refine oM_gen fun Kv hK=>?_); simp [go_sem,hk.cells]; refine hK _ _ ?_; clear hK Kv))
 refine few_ok s goal ctx know (hs'.next hk.below) (hg.next (atOf_stay cls_vstay) hk.below) (hk0.next (atOf_stay knws_vstay) hk.below) hc (fun w2 q h2 hq=>?_)
 have hk:=hk.next h2
 cases q with
 | false=>
  repeat (any_goals (first
  | (with_reducible first|refine zD ?_|refine yB ?_|refine yL ?_)
  | ((with_reducible refine oM_gen fun Kv hK=>?_); simp [go_sem]; refine hK _ _ ?_; clear hK Kv)))
  exact k _ hk.below
 | true=>
 obtain ⟨hN,hctx⟩:=hq rfl
 repeat (any_goals (first
 | (with_reducible refine zC ?_)
 | ((with_reducible refine oM_gen fun Kv hK=>?_); simp [go_sem,hk.cells]; refine hK _ _ ?_; clear hK Kv)))
 refine fewNoise_ok (hd1'.next (atOf_stay ints_stay) hk.below) (hn1'.next (atOf_stay lists_vstay) hk.below) (fun w2 q h2 hq=>?_)
 have hk:=hk.next h2
 cases q with
 | false=>
  repeat (any_goals (first
  | (with_reducible first|refine zC ?_|refine yC ?_|refine yL ?_)
  | ((with_reducible refine oM_gen fun Kv hK=>?_); simp [go_sem]; refine hK _ _ ?_; clear hK Kv)))
  exact k _ hk.below
 | true=>
 repeat (any_goals (first
 | (with_reducible first|refine zC ?_|refine yC ?_|refine yM ?_)
 | ((with_reducible refine oM_gen fun Kv hK=>?_); simp [go_sem,hk.cells]; refine hK _ _ ?_; clear hK Kv)))
 refine Prove_ok s goal ctx know n1 d1 (hs'.next hk.below) (hg.next (atOf_stay cls_vstay) hk.below) (hk0.next (atOf_stay knws_vstay) hk.below) (hn1'.next (atOf_stay lists_vstay) hk.below) (hd1'.next (atOf_stay ints_stay) hk.below) (hl.below hk.below hl.size) hN hctx (fun w3 pv av h3 hpv hav=>?_)
 have hk:=hk.next h3
 obtain ⟨pad,pc,rfl⟩:=id hpv.isSlice
 obtain ⟨aad,ac,rfl⟩:=id hav.isSlice
 iterate 2 (any_goals ((with_reducible refine oM_gen fun Kv hK=>?_); simp [go_sem]; refine hK _ _ ?_; clear hK Kv))
 refine local_prf _ _ _ _ _ _ hk (fun b4 w4 hk h4 hg4=>?_)
 have hpv:=hpv.next (atOf_stay ints_stay) h4
 have hav:=hav.next (atOf_stay lists_vstay) h4
 by_cases e1:(proveM s goal ctx know n1 d1).2 = 0
 case neg=>
  repeat (any_goals (first
  | (with_reducible first|refine pureM_in ?_|((refine idGd ?_); first|refine zA ?_|refine zD ?_)|refine yB ?_|refine yL ?_)
  | ((with_reducible refine oM_gen fun Kv hK=>?_); simp [go_sem,e1]; refine hK _ _ ?_; clear hK Kv)))
  exact k _ hk.below
 have hver:=complete e1
 have hF:=shpF_of hver
 have hQ:=hF.Q
 have hlen:=hF.len
 have hpos:=hF.pos
 generalize proveM s goal ctx know n1 d1 = P at *
 have hdz:¬ P.1.1 = []:=fun e=>by rw [e] at hpos; simp at hpos
 have hlz:(P.1.2.length:Int) = P.1.1.length:=by omega
 have hwn:IntKind.i64.wrap (-s.g.Q) = -s.g.Q:=wrapI64 _ (by omega) (by omega)
 repeat (any_goals (first
 | (with_reducible first|refine zC ?_|refine yC ?_|refine yM ?_)
 | ((with_reducible refine oM_gen fun Kv hK=>?_); simp [go_sem,hk.cells,e1,hdz,hlz]; refine hK _ _ ?_; clear hK Kv)))
 refine ⟨fun l W'=>W' = w4 ∧ ∃ by_,l = [.int .i64 by_] ∧ (by_ = s.g.Q ∨ by_ = -s.g.Q),?_,?_⟩
 ·cases up with
  | true=>
   repeat (any_goals (first
   | (with_reducible refine yM ?_)
   | ((with_reducible refine oM_gen fun Kv hK=>?_); simp [go_sem]; refine hK _ _ ?_; clear hK Kv)))
   exact ⟨rfl,_,rfl,.inl rfl⟩
  | false=>
   repeat (any_goals (first
   | (with_reducible refine yL ?_)
   | ((with_reducible refine oM_gen fun Kv hK=>?_); simp [go_sem,hwn]; refine hK _ _ ?_; clear hK Kv)))
   exact ⟨rfl,_,rfl,.inr rfl⟩
 ·rintro _ _ _ ⟨rfl,by_,rfl,hby⟩
  exact shape_post s goal ctx P.1.1 P.1.2 ni nk nv by_ (hs'.next hk.below) (hg.next (atOf_stay cls_vstay) hk.below) hpv hav (hl.below hk.below hl.size) hN hctx (L:=[]) ⟨hk.below,hk.cells.1,hk.cells.2.1,hk.cells.2.2.2.2⟩ hver hby hni hnk hnv k
end
end Go.Proofs
namespace Go.Proofs
open Go Go.Sh
theorem u8R {n:Int} (h:(Lit.int .u8 n).wf = true):0 ≤ n ∧ n < 256:=by
 simp only [Lit.wf,Bool.and_eq_true,decide_eq_true_eq] at h
 have h1:IntKind.u8.min = 0:=by decide
 have h2:IntKind.u8.max = 255:=by decide
 omega
end Go.Proofs
