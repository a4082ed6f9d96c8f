/- Parts of the proof of the seat's statements (CnA, CnB, CtN, CtO, HCn, CnC, CnD, CnE, CnF, CnG, CnH, CnI, CnK0, HL9, GrP, GrS, GrT, HL12, CnJ): lemmas about the given translation and plain laws. No condition of their own. -/
import Derived.Test.YtlmhhgemiknhdaaGreatDoorKne
import Derived.Test.YtlmhhgemiknhdaaGreatDoorProg
set_option linter.all false
set_option maxRecDepth 100000
namespace Go.Proofs
open Go Go.Sh Go.RowKit FdSpec TkSpec CodeSpec PrSpec FdPoly LinLaw
section
variable {K:Value → World → Prop} {w w' w0 W W':World} {L:List (Addr × Value)} {g n B c:Nat} {bs:List (Nat × Nat)} {m:List (List Int)}
def hdr (b:Nat × Nat) (r:List Int):Value:=.slice (some ⟨b.1,0,none⟩) r.length b.2
def Hds (W:World) (g c:Nat) (vs:List Value):Prop:=∃ cur,W.heap[g]? = some (.cells cur 24 (0,0)) ∧ cur.size = c ∧ vs.length ≤ c ∧ cur.toList.take vs.length = vs
theorem sz_rowI (w:World):(sizeOf 24).run Tryz.prog w = .ok 1 w:=by kernel_rfl
theorem Hds.cell {vs:List Value} (h:Hds W g c vs) {i:Nat} {v:Value} (hv:vs[i]? = some v):W.cell? ⟨g,i,none⟩ = some v:=by
 obtain ⟨cur,hg,hs,hl,ht⟩:=h
 have hi:=(List.getElem?_eq_some_iff.1 hv).1
 have h1:(cur.toList.take vs.length)[i]? = some v:=by rw [ht,hv]
 rw [List.getElem?_take_of_lt hi] at h1
 unfold World.cell?
 rw [hg]
 simpa using h1
theorem Hds.lt {vs:List Value} (h:Hds W g c vs):g < W.heap.size:=by
 obtain ⟨cur,hg,_⟩:=h
 exact (Array.getElem?_eq_some_iff.1 hg).1
theorem Hds.keep {vs:List Value} (h:Hds W g c vs) (hb:W'.heap[g]? = W.heap[g]?):Hds W' g c vs:=by
 obtain ⟨cur,hg,hr⟩:=h
 exact ⟨cur,by rw [hb]; exact hg,hr⟩
theorem Hds.set {vs:List Value} {i:Nat} {T':TypeId} {ad:Option Addr} {n1 n2:Nat} (h:Hds W g c vs) (hi:i < vs.length) (k:∀ W',W.grownBy W' (some g) → Hds W' g c (vs.set i (.slice ad n1 n2)) → K undef W') :
  oM Tryz.prog (.store 24 (.tmp 0) (.tmp 1)) T' [.pointer (some ⟨g,i,none⟩),.slice ad n1 n2] K W:=by
 obtain ⟨cur,hg,hs,hle,ht⟩:=h
 have hh:Holds W g 24 cur.toList:=by
  unfold Holds
  simpa using hg
 refine arr_set (w:=W) (T:=24) sz_rowI rfl rfl hh (by simpa [hs] using Nat.lt_of_lt_of_le hi hle) (fun W2 h2 h3=>k W2 h2 ⟨(cur.toList.set i (.slice ad n1 n2)).toArray,h3,by simpa using hs,by simpa using hle,?_⟩)
 simp only [List.length_set]
 show (cur.toList.set i (.slice ad n1 n2)).take vs.length = _
 rw [List.take_set,ht]
def hds (bs:List (Nat × Nat)) (m:List (List Int)):List Value:=(bs.zip m).map fun p=>hdr p.1 p.2
structure MatB (W:World) (B g c:Nat) (bs:List (Nat × Nat)) (m:List (List Int)):Prop where
 len:bs.length = m.length
 hd:Hds W g c (hds bs m)
 row:∀ (i:Nat) (b:Nat × Nat) (r:List Int),bs[i]? = some b → m[i]? = some r → RowP W B b.1 b.2 r
 ne:∀ (i:Nat) (b:Nat × Nat),bs[i]? = some b → b.1 ≠ g
 dis:∀ (i j:Nat) (b b':Nat × Nat),i ≠ j → bs[i]? = some b → bs[j]? = some b' → b.1 ≠ b'.1
 base:B ≤ g
def Bk (bs:List (Nat × Nat)) (i:Nat):Prop:=∃ b,b ∈ bs ∧ b.1 = i
def BkG (g:Nat) (bs:List (Nat × Nat)) (i:Nat):Prop:=i = g ∨ Bk bs i
theorem hds_len (h:bs.length = m.length):(hds bs m).length = m.length:=by simp [hds,h]
theorem hds_get {i:Nat} {b:Nat × Nat} {r:List Int} (hb:bs[i]? = some b) (hr:m[i]? = some r):(hds bs m)[i]? = some (hdr b r):=by
 have h1:=(List.getElem?_eq_some_iff.1 hb).1
 have h2:=(List.getElem?_eq_some_iff.1 hr).1
 unfold hds
 rw [List.getElem?_map]
 have:(bs.zip m)[i]? = some (b,r):=by
  rw [List.getElem?_zip_eq_some]
  exact ⟨hb,hr⟩
 rw [this]
 rfl
theorem MatB.get (h:MatB W B g c bs m) {i:Nat} {r:List Int} (hr:m[i]? = some r):∃ b,bs[i]? = some b ∧ W.cell? ⟨g,i,none⟩ = some (hdr b r) ∧ RowP W B b.1 b.2 r ∧ b.1 ≠ g:=by
 have h2:=(List.getElem?_eq_some_iff.1 hr).1
 have hbl:i < bs.length:=by rw [h.len]; exact h2
 have hb:bs[i]? = some bs[i]:=List.getElem?_eq_getElem hbl
 exact ⟨_,hb,h.hd.cell (hds_get hb hr),h.row i _ r hb hr,h.ne i _ hb⟩
theorem MatB.fr {S:Nat → Prop} (h:MatB W B g c bs m) (hf:Fr S W W') (hS:∀ i,BkG g bs i → ¬ S i):MatB W' B g c bs m:=by
 refine ⟨h.len,h.hd.keep (hf.block g h.hd.lt (hS g (.inl rfl))),fun i b r hb hr=>?_,h.ne,h.dis,h.base⟩
 have hR:=h.row i b r hb hr
 obtain ⟨cur,hg,hc⟩:=hR.cells
 exact ⟨⟨cur,by rw [hf.block b.1 hR.lt (hS b.1 (.inr ⟨b,List.mem_of_getElem? hb,rfl⟩))]; exact hg,hc⟩,hR.le,hR.base,hR.max⟩
theorem MatB.next (h:MatB W B g c bs m) (hb:Below W.heap.size W W'):MatB W' B g c bs m:=h.fr (S:=fun _=>False) (Fr.of_below' hb) (fun _ _ h=>h)
theorem MatB.blk (h:MatB W B g c bs m):∀ i,BkG g bs i → B ≤ i ∧ i < W.heap.size:=by
 rintro i (rfl | ⟨b,hb,rfl⟩)
 ·exact ⟨h.base,h.hd.lt⟩
 ·obtain ⟨j,hj⟩:=List.getElem?_of_mem hb
  have hjl:=(List.getElem?_eq_some_iff.1 hj).1
  have hR:=h.row j b _ hj (List.getElem?_eq_getElem (by rw [← h.len]; exact hjl))
  exact ⟨hR.base,hR.lt⟩
theorem MatB.by {b:Option Nat} (h:MatB W B g c bs m) (hg:W.grownBy W' b) (hS:∀ i,BkG g bs i → b ≠ some i):MatB W' B g c bs m:=h.fr (Fr.of_by' hg) hS
theorem getD_row {m:List (List Int)} {k:Nat} {r:List Int} (h:m[k]? = some r):m.getD k [] = r:=by rw [List.getD_eq_getElem?_getD,h]; rfl
theorem hds_set {i:Nat} {b:Nat × Nat} {r r':List Int} (hb:bs[i]? = some b) (hr:m[i]? = some r) (hl:r'.length = r.length):hds bs (m.set i r') = hds bs m:=by
 apply List.ext_getElem?
 intro j
 unfold hds
 rw [List.getElem?_map,List.getElem?_map]
 by_cases hij:j = i
 ·subst hij
  have e1:(bs.zip m)[j]? = some (b,r):=List.getElem?_zip_eq_some.2 ⟨hb,hr⟩
  have e2:(bs.zip (m.set j r'))[j]? = some (b,r'):=List.getElem?_zip_eq_some.2 ⟨hb,by rw [List.getElem?_set_self (List.getElem?_eq_some_iff.1 hr).1]⟩
  rw [e1,e2]
  simp [hdr,hl]
 ·have:(bs.zip (m.set i r'))[j]? = (bs.zip m)[j]?:=by
   apply Option.ext
   rintro ⟨x,y⟩
   rw [List.getElem?_zip_eq_some,List.getElem?_zip_eq_some,List.getElem?_set,if_neg (fun e=>hij e.symm)]
  rw [this]
theorem MatB.set {i j:Nat} {b:Nat × Nat} {r:List Int} {x:Int} {T':TypeId} (h:MatB W B g c bs m) (hb:bs[i]? = some b) (hr:m[i]? = some r) (hj:j < r.length)
  (k:∀ W',W.grownBy W' (some b.1) → MatB W' B g c bs (m.set i (r.set j x)) → K undef W') :
  oM Tryz.prog (.store 3 (.tmp 0) (.tmp 1)) T' [.pointer (some ⟨b.1,j,none⟩),.int .i64 x] K W:=by
 refine (h.row i b r hb hr).set hj (fun W' hg hR=>k W' hg ⟨by simpa using h.len,?_,?_,h.ne,h.dis,h.base⟩)
 ·rw [hds_set hb hr (by simp)]
  exact h.hd.keep (hg.block g h.hd.lt (fun e=>h.ne i b hb (by first | exact (Option.some.inj e) | exact (Option.some.inj e).symm)))
 ·intro i2 b2 r2 hb2 hr2
  by_cases hii:i = i2
  ·subst hii
   rw [hb] at hb2
   cases hb2
   rw [List.getElem?_set_self (List.getElem?_eq_some_iff.1 hr).1] at hr2
   cases hr2
   exact hR
  ·rw [List.getElem?_set,if_neg hii] at hr2
   exact (h.row i2 b2 r2 hb2 hr2).other hg (fun e=>h.dis i i2 b b2 hii hb hb2 (Option.some.inj e))
theorem set_perm {α:Type} {l:List α} {i j:Nat} {x y:α} (hx:l[i]? = some x) (hy:l[j]? = some y) (z:α):z ∈ (l.set i y).set j x ↔ z ∈ l:=by
 have hi:=(List.getElem?_eq_some_iff.1 hx).1
 have hj:=(List.getElem?_eq_some_iff.1 hy).1
 constructor
 ·intro h
  rcases List.mem_or_eq_of_mem_set h with h | rfl
  ·rcases List.mem_or_eq_of_mem_set h with h | rfl
   ·exact h
   ·exact List.mem_of_getElem? hy
  ·exact List.mem_of_getElem? hx
 ·intro h
  obtain ⟨k,hk⟩:=List.getElem?_of_mem h
  by_cases hkj:k = j
  ·subst hkj
   rw [hy] at hk
   cases hk
   by_cases hik:i = k
   ·subst hik
    rw [hx] at hy
    cases hy
    exact List.mem_of_getElem? (i:=i) (by rw [List.getElem?_set_self (by simpa using hi)])
   ·exact List.mem_of_getElem? (i:=i) (by rw [List.getElem?_set,if_neg (by omega),List.getElem?_set_self hi])
  ·by_cases hki:k = i
   ·subst hki
    rw [hx] at hk
    cases hk
    exact List.mem_of_getElem? (i:=j) (by rw [List.getElem?_set_self (by simpa using hj)])
   ·exact List.mem_of_getElem? (i:=k) (by rw [List.getElem?_set,if_neg (by omega),List.getElem?_set,if_neg (by omega)]; exact hk)
theorem MatB.swapped {W2 W3:World} {i j:Nat} {b b':Nat × Nat} {r r':List Int} (h:MatB W B g c bs m) (hb:bs[i]? = some b) (hr:m[i]? = some r) (hb':bs[j]? = some b') (hr':m[j]? = some r')
  (hg2:W.grownBy W2 (some g)) (hg3:W2.grownBy W3 (some g)) (h3:Hds W3 g c (((hds bs m).set i (hdr b' r')).set j (hdr b r))):Fr (fun x=>x = g) W W3 ∧ MatB W3 B g c ((bs.set i b').set j b) (swapM m i j):=by
 have hil:=(List.getElem?_eq_some_iff.1 hr).1
 have hjl:=(List.getElem?_eq_some_iff.1 hr').1
 have hbil:=(List.getElem?_eq_some_iff.1 hb).1
 have hbjl:=(List.getElem?_eq_some_iff.1 hb').1
 have hl:=hds_len h.len
 have hf:Fr (fun x=>x = g) W W3:=(Fr.of_by hg2).by hg3 (fun i e=>.inl (by first | exact (Option.some.inj e) | exact (Option.some.inj e).symm))
 have hsw:swapM m i j = (m.set i r').set j r:=by unfold swapM; rw [getD_row hr,getD_row hr']
 rw [hsw]
 refine ⟨hf,by simp [h.len],?_,?_,?_,?_,h.base⟩
 ·have e:hds ((bs.set i b').set j b) ((m.set i r').set j r) = ((hds bs m).set i (hdr b' r')).set j (hdr b r):=by
   apply List.ext_getElem?
   intro x
   by_cases hxl:x < m.length
   ·have hxb:x < bs.length:=by rw [h.len]; exact hxl
    have ex:bs[x]? = some bs[x]:=List.getElem?_eq_getElem hxb
    have ey:m[x]? = some m[x]:=List.getElem?_eq_getElem hxl
    have hx0:=hds_get ex ey
    by_cases hxj:j = x
    ·subst hxj
     rw [hds_get (b:=b) (r:=r) (by rw [List.getElem?_set_self (by simpa using hbjl)]) (by rw [List.getElem?_set_self (by simpa using hjl)]),List.getElem?_set_self (by rw [List.length_set,hl]; exact hjl)]
    ·by_cases hxi:i = x
     ·subst hxi
      rw [hds_get (b:=b') (r:=r') (by rw [List.getElem?_set,if_neg hxj,List.getElem?_set_self hbil]) (by rw [List.getElem?_set,if_neg hxj,List.getElem?_set_self hil]),List.getElem?_set,if_neg hxj,List.getElem?_set_self (by rw [hl]; exact hil)]
     ·rw [hds_get (b:=bs[x]) (r:=m[x]) (by rw [List.getElem?_set,if_neg hxj,List.getElem?_set,if_neg hxi]; exact ex) (by rw [List.getElem?_set,if_neg hxj,List.getElem?_set,if_neg hxi]; exact ey),List.getElem?_set,if_neg hxj,List.getElem?_set,if_neg hxi,hx0]
   ·rw [List.getElem?_eq_none (by rw [hds_len (by simp [h.len])]; simp; omega),List.getElem?_eq_none (by simp [hl]; omega)]
  rw [e]
  exact h3
 ·have key:∀ (x:Nat) (y:Nat × Nat) (t:List Int),bs[x]? = some y → m[x]? = some t → RowP W3 B y.1 y.2 t:=fun x y t hy ht=>by
   have hR:=h.row x y t hy ht
   obtain ⟨cur,hg,hc⟩:=hR.cells
   exact ⟨⟨cur,by rw [hf.block y.1 hR.lt (h.ne x y hy)]; exact hg,hc⟩,hR.le,hR.base,hR.max⟩
  intro x y t hy ht
  rw [List.getElem?_set] at hy ht
  by_cases hxj:j = x
  ·rw [if_pos hxj,if_pos (by simpa using hbjl)] at hy
   rw [if_pos hxj,if_pos (by simpa using hjl)] at ht
   cases hy; cases ht
   exact key i b r hb hr
  ·rw [if_neg hxj,List.getElem?_set] at hy ht
   by_cases hxi:i = x
   ·rw [if_pos hxi,if_pos hbil] at hy
    rw [if_pos hxi,if_pos hil] at ht
    cases hy; cases ht
    exact key j b' r' hb' hr'
   ·rw [if_neg hxi] at hy ht
    exact key x y t hy ht
 ·intro x y hy
  have:=(set_perm hb hb' y).1 (List.mem_of_getElem? hy)
  obtain ⟨z,hz⟩:=List.getElem?_of_mem this
  exact h.ne z y hz
 ·have key:∀ x y,((bs.set i b').set j b)[x]? = some y → bs[if x = j then i else if x = i then j else x]? = some y:=fun x y hy=>by
   rw [List.getElem?_set] at hy
   by_cases hxj:j = x
   ·rw [if_pos hxj,if_pos (by simpa using hbjl)] at hy
    cases hy
    rw [if_pos hxj.symm]; exact hb
   ·rw [if_neg hxj,List.getElem?_set] at hy
    rw [if_neg (fun e=>hxj e.symm)]
    by_cases hxi:i = x
    ·rw [if_pos hxi,if_pos hbil] at hy
     cases hy
     rw [if_pos hxi.symm]; exact hb'
    ·rw [if_neg hxi] at hy
     rw [if_neg (fun e=>hxi e.symm)]; exact hy
  intro x y u v hxy hu hv
  exact h.dis _ _ u v (by
   by_cases h1:x = j
   ·rw [if_pos h1]
    by_cases h2:y = j
    ·omega
    ·rw [if_neg h2]
     by_cases h3:y = i
     ·rw [if_pos h3]; omega
     ·rw [if_neg h3]; omega
   ·rw [if_neg h1]
    by_cases h2:y = j
    ·rw [if_pos h2]
     by_cases h3:x = i
     ·rw [if_pos h3]; omega
     ·rw [if_neg h3]; omega
    ·rw [if_neg h2]
     by_cases h3:x = i
     ·rw [if_pos h3]
      by_cases h4:y = i
      ·omega
      ·rw [if_neg h4]; omega
     ·rw [if_neg h3]
      by_cases h4:y = i
      ·rw [if_pos h4]; omega
      ·rw [if_neg h4]; omega) (key x u hu) (key y v hv)
theorem holds_fr {S:Nat → Prop} {T:TypeId} {vs:List Value} {b:Nat} (h:Holds W b T vs) (hf:Fr S W W') (hn:¬ S b):Holds W' b T vs:=(hf.block b h.lt hn).trans h
end
end Go.Proofs
namespace Go.Proofs
open Go Go.Sh Go.RowKit FdSpec TkSpec CodeSpec PrSpec FdPoly LinLaw
section
variable {K:Value → World → Prop} {w w' w0 W W':World} {L:List (Addr × Value)} {g n B c:Nat} {bs:List (Nat × Nat)} {m:List (List Int)}
abbrev MRw:=(Nat × Nat) × List Int
def MV (B:Nat) (w:World) (cs:List Value) (x:MRw):Prop:=cs = [hdr x.1 x.2] ∧ RowP w B x.1.1 x.1.2 x.2
def MD (l:List MRw) (i:Nat):Prop:=∃ x,x ∈ l ∧ x.1.1 = i
structure MGrow (B:Nat) (w:World) (v:Value) (l:List MRw):Prop where
 row:GRow 1 24 (MV B) B (MD l) w v l
 lt:∀ i,MD l i → B ≤ i ∧ i < w.heap.size ∧ v.ownBlock ≠ some i
 dis:l.Pairwise fun x y=>x.1.1 ≠ y.1.1
theorem MGrow.nil:MGrow B w (.slice none 0 0) []:=⟨.nil,(fun i ⟨x,h,_⟩=>by cases h),.nil⟩
theorem MGrow.fr {S:Nat → Prop} {v:Value} {l:List MRw} (h:MGrow B w v l) (hf:Fr S w w') (hS:∀ i,S i → i < B ∨ w.heap.size ≤ i):MGrow B w' v l:=
 ⟨h.row.keep hf (fun i hi=>⟨(h.lt i hi).2.1,fun hs=>by have:=h.lt i hi; have:=hS i hs; omega⟩) (fun i hi hs=>by have:=h.row.own hi; have:=hS i hs; omega),
  fun i hi=>⟨(h.lt i hi).1,Nat.lt_of_lt_of_le (h.lt i hi).2.1 hf.size,(h.lt i hi).2.2⟩,h.dis⟩
theorem MGrow.next {v:Value} {l:List MRw} (h:MGrow B w v l) (hb:Below w.heap.size w w'):MGrow B w' v l:=h.fr (S:=fun _=>False) (Fr.of_below' hb) (fun _ h=>h.elim)
theorem MGrow.isSlice {v:Value} {l:List MRw} (h:MGrow B w v l):∃ ad c,v = .slice ad l.length c:=h.row.isSlice
theorem lit_rowI {T:TypeId} {ad:Option Addr} {n c:Nat} (k:∀ g W,Below w.heap.size w W → w.heap.size ≤ g → Holds W g 24 [.slice ad n c] → K (.slice (some ⟨g,0,none⟩) 1 1) W):oM Tryz.prog (.buildSlice 30 1 #[(0,.tmp 0)]) T [.slice ad n c] K w:=by
 rw [oM_buildSlice1]; exact lit_run (by kernel_rfl) k
theorem RowP.fp {l:List Int} {b:Nat × Nat} (h:RowP w B b.1 b.2 l):FP (fun i=>i = b.1) w (fun w=>RowP w B b.1 b.2 l):=fun w' _ _ _ d e=>by
 obtain ⟨cur,hg,hr⟩:=h.cells
 exact ⟨⟨cur,by rw [e b.1 rfl]; exact hg,hr⟩,h.le,h.base,h.max⟩
theorem MGrow.add {T:TypeId} {v:Value} {l:List MRw} {b:Nat × Nat} {r:List Int} {q:Nat} (h:MGrow B w v l) (hR:RowP w B b.1 b.2 r) (hq:Holds w q 24 [hdr b r]) (hl:l.length < 1099511627776)
  (hn:∀ i,MD l i → i ≠ b.1) (hv:v.ownBlock ≠ some b.1)
  (k:∀ v' w',MGrow B w' v' (l ++ [(b,r)]) → w.grownBy w' v.ownBlock → (∀ i,v'.ownBlock = some i → v.ownBlock = some i ∨ w.heap.size ≤ i) → K v' w') :
  oM Tryz.prog (.call { callee:=.builtin .append,args:=#[.tmp 0,.tmp 1],argTypes:=#[30,30] }) T [v,.slice (some ⟨q,0,none⟩) 1 1] K w:=by
 have hB:B ≤ w.heap.size:=Nat.le_of_lt (Nat.lt_of_le_of_lt hR.base hR.lt)
 have hmd:∀ i,MD (l ++ [(b,r)]) i → MD l i ∨ i = b.1:=by
  rintro i ⟨x,hx,e⟩
  rcases List.mem_append.1 hx with hx | hx
  ·exact .inl ⟨x,hx,e⟩
  ·simp only [List.mem_singleton] at hx
   subst hx
   exact .inr e.symm
 have hlt:∀ i,MD (l ++ [(b,r)]) i → B ≤ i ∧ i < w.heap.size ∧ v.ownBlock ≠ some i:=fun i hi=>(hmd i hi).elim (h.lt i) (fun e=>by subst e; exact ⟨hR.base,hR.lt,hv⟩)
 refine grow_append (α:=MRw) (n:=1) (e:=24) (V:=MV B) (B:=B) (D:=MD (l ++ [(b,r)])) (v:=v) (l:=l) 30 T ((Tryz.prog.info? 24).getD default) (.slice none 0 0) 24 (by kernel_rfl) (by kernel_rfl) (by kernel_rfl) (by kernel_rfl) (by kernel_rfl) (by kernel_rfl) (by omega) (by omega)
  (h.row.mono (fun i ⟨x,hx,e⟩=>⟨x,List.mem_append_left _ hx,e⟩)) hB (x:=(b,r)) (xs:=[hdr b r]) rfl (fun j u hj=>?_) (fun u hu=>?_) (hR.fp.mono (fun i e=>⟨(b,r),by simp,e.symm⟩) |>.imp fun w2 h2=>⟨rfl,h2⟩) (fun i hi=>(hlt i hi).2) hl (fun v' w' hg' hgr hv' hD'=>?_)
 ·have hj0:j = 0:=by have:=(List.getElem?_eq_some_iff.1 hj).1; simpa using this
  subst hj0
  cases hj
  exact hq.cell 0 (by simp)
 ·simp only [List.mem_singleton] at hu
  subst hu; rfl
 ·refine k v' w' ⟨hg',fun i hi=>⟨(hlt i hi).1,(hD' i hi).1,(hD' i hi).2⟩,?_⟩ hgr hv'
  rw [List.pairwise_append]
  refine ⟨h.dis,List.pairwise_singleton _ _,fun x hx y hy=>?_⟩
  simp only [List.mem_singleton] at hy
  subst hy
  exact hn x.1.1 ⟨x,hx,rfl⟩
theorem MGrow.mat {v:Value} {l:List MRw} (h:MGrow B w v l) (hl:l ≠ []):∃ g c,v = .slice (some ⟨g,0,none⟩) l.length c ∧ MatB w B g c (l.map (·.1)) (l.map (·.2)):=by
 obtain ⟨cs,ho,hf⟩:=h.row.ex
 obtain ⟨hc1,hc2⟩:=hf.here
 have hpos:=List.length_pos_iff.2 hl
 rcases ho.2 with ⟨h1,h2⟩ | ⟨g,cap,cur,h1,hb,hg,hc,hm,hs,ht⟩
 ·exact absurd (List.length_eq_zero_iff.1 h2) hl
 subst h1
 refine ⟨g,cap,rfl,⟨by simp,⟨cur,hg,by simpa using hs,?_,?_⟩,?_,?_,?_,hb⟩⟩
 ·rw [hds_len (by simp)]; simpa using hc
 ·rw [hds_len (by simp),List.length_map]
  rw [Nat.mul_one] at ht
  rw [ht]
  apply List.ext_getElem?
  intro i
  by_cases hi:i < l.length
  ·have e1:l[i]? = some l[i]:=List.getElem?_eq_getElem hi
   have e2:cs[i]? = some cs[i]:=List.getElem?_eq_getElem (by omega)
   have h3:=hc2 i _ _ e2 e1
   rw [hds_get (b:=l[i].1) (r:=l[i].2) (by rw [List.getElem?_map,e1]; rfl) (by rw [List.getElem?_map,e1]; rfl)]
   have h4:=flat_at (mk:=Cl.cs) (sz:=1) (fun c=>c.2) cs i 0 e2 (by omega)
   rw [Nat.mul_one,Nat.add_zero] at h4
   rw [h4]
   show (cs[i]).1[0]? = _
   rw [h3.1]
   rfl
  ·have hfl:(flat Cl.cs cs).length = l.length:=by rw [flat_length (sz:=1) (fun c=>c.2)]; omega
   rw [List.getElem?_eq_none (by omega),List.getElem?_eq_none (by rw [hds_len (by simp)]; simp; omega)]
 ·intro i b r hb2 hr
  rw [List.getElem?_map] at hb2 hr
  by_cases hi:i < l.length
  ·have e1:l[i]? = some l[i]:=List.getElem?_eq_getElem hi
   have e2:cs[i]? = some cs[i]:=List.getElem?_eq_getElem (by omega)
   rw [e1] at hb2 hr
   cases hb2; cases hr
   exact (hc2 i _ _ e2 e1).2
  ·rw [List.getElem?_eq_none (by omega)] at hb2; cases hb2
 ·intro i b hb2 e
  rw [List.getElem?_map] at hb2
  obtain ⟨x,hx,rfl⟩:=Option.map_eq_some_iff.1 hb2
  exact (h.lt x.1.1 ⟨x,List.mem_of_getElem? hx,rfl⟩).2.2 (by rw [e]; rfl)
 ·have key:∀ (i j:Nat) (x y:MRw),i < j → l[i]? = some x → l[j]? = some y → x.1.1 ≠ y.1.1:=fun i j x y hij hx hy=>by
   obtain ⟨hi,rfl⟩:=List.getElem?_eq_some_iff.1 hx
   obtain ⟨hj,rfl⟩:=List.getElem?_eq_some_iff.1 hy
   exact List.pairwise_iff_getElem.1 h.dis i j hi hj hij
  intro i j b b' hij hb1 hb2
  rw [List.getElem?_map] at hb1 hb2
  obtain ⟨x,hx,rfl⟩:=Option.map_eq_some_iff.1 hb1
  obtain ⟨y,hy,rfl⟩:=Option.map_eq_some_iff.1 hb2
  rcases Nat.lt_or_gt_of_ne hij with h1 | h1
  ·exact key i j x y h1 hx hy
  ·exact (key j i y x h1 hy hx).symm
end
end Go.Proofs
namespace Go.Proofs
open Go Go.Sh Go.RowKit FdSpec TkSpec CodeSpec PrSpec FdPoly
section
variable {K:Value → World → Prop} {w w' w0 W W':World} {L:List (Addr × Value)} {g n B:Nat} {row:Option Nat}
theorem conv_ui {T:TypeId} {x q:Int} (hq:okN q) (k:K (.int .i64 (x % q)) w):oM Tryz.prog (.convert 150 3 (.tmp 0)) T [.int .u64 (x % q)] K w:=by
 have h1:=Int.emod_nonneg x (show q ≠ 0 by unfold okN at hq; omega)
 have h2:=Int.emod_lt_of_pos x (show 0 < q by unfold okN at hq; omega)
 unfold okN at hq
 generalize x % q = y at *
 have hw:IntKind.i64.wrap y = y:=wrapI64 _ (by omega) (by omega)
 rw [oM_convert]
 have e:(convert 150 3 (.int .u64 y)).run Tryz.prog w = .ok (.int .i64 (IntKind.i64.wrap y)) w:=by kernel_rfl
 rw [e,hw]
 exact k
theorem make_ints {T:TypeId} {n:Nat} (hn:n ≤ 65536) (k:∀ g W,Below w.heap.size w W → w.heap.size ≤ g → RowP W w.heap.size g n (List.replicate n 0) → K (.slice (some ⟨g,0,none⟩) n n) W):oM Tryz.prog (.makeSlice 24 (.tmp 0) (.tmp 1)) T [.int .i64 n,.int .i64 n] K w:=by
 obtain ⟨w',hr,ho,hg⟩:=run_makeSlice_full (P:=Tryz.prog) (w:=w) w.heap.size 24 3 ((Tryz.prog.info? 3).getD default) (.int .i64 0) 1 (by kernel_rfl) (by kernel_rfl) (by kernel_rfl) (by kernel_rfl) .i64 .i64 n (by omega) (by
  have:((Tryz.prog.info? 3).getD default).bytes = 8:=by kernel_rfl
  rw [this]; omega) (by simp only [maxLen]; omega) (Nat.le_refl _)
 rw [oM_makeSlice,hr]
 have hb:Below w.heap.size w w':=⟨hg.os,hg.tape,hg.output,hg.size,fun k hk=>hg.block k hk (by simp)⟩
 have hcells:(madeCells (Value.int .i64 0).cells (n * 1)).toList = List.replicate n (.int .i64 0):=by
  rw [Nat.mul_one]
  apply List.ext_getElem?
  intro i
  unfold madeCells
  simp [Value.cells,List.getElem?_replicate,Array.getElem?_ofFn]
  try (split <;> simp_all [Nat.mod_one])
 refine k _ _ hb (Nat.le_refl _) ?_
 rcases ho.2 with ⟨h1,h2⟩ | ⟨g,cap,cur,h1,hb2,hg2,hc,hm,hs,ht⟩
 ·cases h1
 ·cases h1
  refine ⟨⟨cur,hg2,by simpa using hs,?_⟩,by simp,Nat.le_refl _,hm⟩
  rw [hcells,Nat.mul_one] at ht
  rw [List.length_replicate,ht,List.map_replicate]
end
end Go.Proofs
namespace Go.Proofs
open Go Go.Sh Go.RowKit FdSpec TkSpec CodeSpec PrSpec FdPoly
section
variable {K:Value → World → Prop} {w w' w0 W W':World} {L:List (Addr × Value)} {g n B:Nat} {row:Option Nat}
theorem getD_some {l:List Int} {i:Nat} (h:i < l.length):l[i]? = some (l.getD i 0):=by
 rw [List.getD_eq_getElem?_getD,List.getElem?_eq_getElem h]; rfl
end
end Go.Proofs
namespace Go.Proofs
open Go.Sh Tryz
def sh_192 (a0 a1:Value) (K:Value → World → Prop) (w:World):Prop:=
 oM prog (.call (Go.Call.mk (.builtin .len) #[(.tmp 0)] #[30])) 3 [a0] (fun v7 w=>
 loopM [undef,(.int .i64 0),(.int .i64 0)] w (fun J_2 m_3 l_4 u_l_4 w0_l_4=>(fun w=>(
 oM prog (.binOp .lss 3 (.tmp 0) (.tmp 1) 3) 0 [(l_4.getD 2 undef),v7] (fun v9 w=>
 condM v9
 (oM prog (.indexAddr 30 (.tmp 0) (.tmp 1)) 0 [a0,(l_4.getD 2 undef)] (fun v14 w=>
 oM prog (.load 24 (.tmp 0)) 24 [v14] (fun v15 w=>
 oM prog (.call (Go.Call.mk (.value (.tmp 0)) #[(.tmp 1)] #[24])) 4 [a1,v15] (fun v16 w=>
 condM v16
 (K (l_4.getD 2 undef) w)
 (oM prog (.binOp .add 3 (.tmp 0) (.tmp 1) 3) 3 [(l_4.getD 2 undef),(.int .i64 1)] (fun v18 w=>
 J_2 [(l_4.getD 2 undef),(l_4.getD 1 undef),v18] w ∧ m_3 [(l_4.getD 2 undef),(l_4.getD 1 undef),v18] w < m_3 l_4 w0_l_4) w)) w) w) w)
 (K (.int .i64 (-1)) w)) w)) w0_l_4)) w
theorem sh_192_ok {a0 a1:Value} {K:Value → World → Prop} {w:World} (h:sh_192 a0 a1 K w):callM prog 192 #[a0,a1] K w:=
 calls_of_code (fun _=>0) (fn:=Tryz.f192) (rs:=[.tmp 4]) Tryz.func192 rfl rfl (by kernel_rfl) (Nat.le_of_ble_eq_true rfl) (Eq.mp (by kernel_rfl) h)
def sh_156 (a0 a1:Value) (K:Value → World → Prop) (w:World):Prop:=
 callM prog 192 #[a0,a1] (fun v7 w=>
 oM prog (.binOp .geq 3 (.tmp 0) (.tmp 1) 3) 4 [v7,(.int .i64 0)] (fun v8 w=>
 K v8 w) w) w
theorem sh_156_ok {a0 a1:Value} {K:Value → World → Prop} {w:World} (h:sh_156 a0 a1 K w):callM prog 156 #[a0,a1] K w:=
 calls_of_code (fun _=>0) (fn:=Tryz.f156) (rs:=[.tmp 4]) Tryz.func156 rfl rfl (by kernel_rfl) (Nat.le_of_ble_eq_true rfl) (Eq.mp (by kernel_rfl) h)
def sh_193 (a0 a1:Value) (K:Value → World → Prop) (w:World):Prop:=
 oM prog (.load 3 (.tmp 0)) 3 [a1] (fun v5 w=>
 oM prog (.indexAddr 24 (.tmp 0) (.tmp 1)) 0 [a0,v5] (fun v6 w=>
 oM prog (.load 3 (.tmp 0)) 3 [v6] (fun v7 w=>
 oM prog (.binOp .neq 3 (.tmp 0) (.const (.int .i64 0)) 3) 4 [v7] (fun v8 w=>
 K v8 w) w) w) w) w
theorem sh_193_ok {a0 a1:Value} {K:Value → World → Prop} {w:World} (h:sh_193 a0 a1 K w):callM prog 193 #[a0,a1] K w:=
 calls_of_code (fun _=>0) (fn:=Tryz.f193) (rs:=[.tmp 3]) Tryz.func193 rfl rfl (by kernel_rfl) (Nat.le_of_ble_eq_true rfl) (Eq.mp (by kernel_rfl) h)
def sh_157 (a0 a1:Value) (K:Value → World → Prop) (w:World):Prop:=
 oM prog (.load 171 (.tmp 0)) 171 [a1] (fun v5 w=>
 oM prog (.nilCheck (.tmp 0)) 0 [v5] (fun v6 w=>
 oM prog (.fieldAddr 176 (.tmp 0) 2) 0 [v6] (fun v7 w=>
 oM prog (.load 3 (.tmp 0)) 3 [v7] (fun v8 w=>
 oM prog (.indexAddr 24 (.tmp 0) (.tmp 1)) 0 [a0,v8] (fun v9 w=>
 oM prog (.load 3 (.tmp 0)) 3 [v9] (fun v10 w=>
 oM prog (.binOp .neq 3 (.tmp 0) (.const (.int .i64 0)) 3) 4 [v10] (fun v11 w=>
 K v11 w) w) w) w) w) w) w) w
theorem sh_157_ok {a0 a1:Value} {K:Value → World → Prop} {w:World} (h:sh_157 a0 a1 K w):callM prog 157 #[a0,a1] K w:=
 calls_of_code (fun _=>0) (fn:=Tryz.f157) (rs:=[.tmp 3]) Tryz.func157 rfl rfl (by kernel_rfl) (Nat.le_of_ble_eq_true rfl) (Eq.mp (by kernel_rfl) h)
def sh_154 (a0 a1 a2:Value) (K:Value → World → Prop) (w:World):Prop:=
 callM prog 169 #[a0] (fun v15 w=>
 oM prog (.unOp .not 4 (.tmp 0)) 4 [v15] (fun v16 w=>
 gdM (gd v16 false) (pureM a1) (fun v18 w=>
 gdM (gd v16 false) (oM prog (.call (Go.Call.mk (.builtin .len) #[(.tmp 0)] #[30])) 3 [v18]) (fun v19 w=>
 gdM (gd v16 false) (oM prog (.binOp .gtr 3 (.tmp 0) (.tmp 1) 3) 4 [v19,(.int .i64 64)]) (fun v20 w=>
 oM prog (.pick (.tmp 0) (.tmp 1) (.tmp 2)) 4 [v16,(.bool true),v20] (fun v21 w=>
 gdM (gd v21 false) (pureM a2) (fun v23 w=>
 gdM (gd v21 false) (oM prog (.call (Go.Call.mk (.builtin .len) #[(.tmp 0)] #[24])) 3 [v23]) (fun v24 w=>
 gdM (gd v21 false) (pureM a1) (fun v25 w=>
 gdM (gd v21 false) (oM prog (.call (Go.Call.mk (.builtin .len) #[(.tmp 0)] #[30])) 3 [v25]) (fun v26 w=>
 gdM (gd v21 false) (oM prog (.binOp .neq 3 (.tmp 0) (.tmp 1) 3) 4 [v24,v26]) (fun v27 w=>
 oM prog (.pick (.tmp 0) (.tmp 1) (.tmp 2)) 4 [v21,(.bool true),v27] (fun v28 w=>
 condM v28
 (K (.tuple #[(.pointer none),(.bool false)]) w)
 (oM prog (.build 176 #[(0,(.tmp 0))]) 176 [a0] (fun v30 w=>
 oM prog (.box 176 (.tmp 0)) 171 [v30] (fun v31 w=>
 joinM (fun M_15=>(oM prog (.call (Go.Call.mk (.builtin .len) #[(.tmp 0)] #[30])) 3 [a1] (fun v33 w=>
 oM prog (.binOp .gtr 3 (.tmp 0) (.tmp 1) 3) 4 [v33,(.int .i64 0)] (fun v34 w=>
 condM v34
 (oM prog (.indexAddr 30 (.tmp 0) (.tmp 1)) 0 [a1,(.int .i64 0)] (fun v37 w=>
 oM prog (.load 24 (.tmp 0)) 24 [v37] (fun v38 w=>
 oM prog (.call (Go.Call.mk (.builtin .len) #[(.tmp 0)] #[24])) 3 [v38] (fun v39 w=>
 oM prog (.nilCheck (.tmp 0)) 0 [v31] (fun v40 w=>
 oM prog (.fieldAddr 176 (.tmp 0) 2) 0 [v40] (fun v41 w=>
 oM prog (.store 3 (.tmp 0) (.tmp 1)) 0 [v41,v39] (fun _ w=>
 M_15 [] w) w) w) w) w) w) w)
 (M_15 [] w)) w) w))
 (fun l_16 u_l_16 w=>(oM prog (.call (Go.Call.mk (.builtin .len) #[(.tmp 0)] #[30])) 3 [a1] (fun v43 w=>
 loopM [undef,undef,(.pointer none),(.bool false),undef,undef,(.int .i64 0)] w (fun J_25 m_26 l_27 u_l_27 w0_l_27=>(fun w=>(
 oM prog (.binOp .lss 3 (.tmp 0) (.tmp 1) 3) 0 [(l_27.getD 6 undef),v43] (fun v45 w=>
 condM v45
 (oM prog (.indexAddr 30 (.tmp 0) (.tmp 1)) 0 [a1,(l_27.getD 6 undef)] (fun v47 w=>
 oM prog (.load 24 (.tmp 0)) 24 [v47] (fun v48 w=>
 oM prog (.call (Go.Call.mk (.builtin .len) #[(.tmp 0)] #[24])) 3 [v48] (fun v50 w=>
 oM prog (.nilCheck (.tmp 0)) 0 [v31] (fun v52 w=>
 oM prog (.fieldAddr 176 (.tmp 0) 2) 0 [v52] (fun v53 w=>
 oM prog (.load 3 (.tmp 0)) 3 [v53] (fun v54 w=>
 oM prog (.binOp .neq 3 (.tmp 0) (.tmp 1) 3) 4 [v50,v54] (fun v55 w=>
 gdM (gd v55 false) (pureM v48) (fun v57 w=>
 gdM (gd v55 false) (oM prog (.call (Go.Call.mk (.builtin .len) #[(.tmp 0)] #[24])) 3 [v57]) (fun v58 w=>
 gdM (gd v55 false) (oM prog (.binOp .gtr 3 (.tmp 0) (.tmp 1) 3) 4 [v58,(.int .i64 64)]) (fun v59 w=>
 oM prog (.pick (.tmp 0) (.tmp 1) (.tmp 2)) 4 [v55,(.bool true),v59] (fun v60 w=>
 condM v60
 (K (.tuple #[(.pointer none),(.bool false)]) w)
 (oM prog (.call (Go.Call.mk (.builtin .len) #[(.tmp 0)] #[24])) 3 [v48] (fun v62 w=>
 loopM [(l_27.getD 5 undef),(.slice none 0 0),(.int .i64 0)] w (fun J_41 m_42 l_43 u_l_43 w0_l_43=>(fun w=>(
 oM prog (.binOp .lss 3 (.tmp 0) (.tmp 1) 3) 0 [(l_43.getD 2 undef),v62] (fun v64 w=>
 condM v64
 (oM prog (.indexAddr 24 (.tmp 0) (.tmp 1)) 0 [v48,(l_43.getD 2 undef)] (fun v65 w=>
 oM prog (.load 3 (.tmp 0)) 3 [v65] (fun v66 w=>
 callM prog 124 #[a0,v66] (fun v70 w=>
 oM prog (.convert 150 3 (.tmp 0)) 3 [v70] (fun v71 w=>
 oM prog (.buildSlice 24 1 #[(0,(.tmp 0))]) 24 [v71] (fun v72 w=>
 oM prog (.call (Go.Call.mk (.builtin .append) #[(.tmp 0),(.tmp 1)] #[24,24])) 24 [(l_43.getD 1 undef),v72] (fun v73 w=>
 oM prog (.binOp .add 3 (.tmp 0) (.tmp 1) 3) 3 [(l_43.getD 2 undef),(.int .i64 1)] (fun v74 w=>
 J_41 [v66,v73,v74] w ∧ m_42 [v66,v73,v74] w < m_42 l_43 w0_l_43) w) w) w) w) w) w) w)
 (stageM w (fun C_52 w=>(pureH v31 (upto C_52 6) (fun v75=>
 pureH v31 (upto C_52 5) (fun v76=>
 oH prog (.nilCheck (.tmp 0)) 0 [v76] (upto C_52 5) (fun v77=>
 oH prog (.fieldAddr 176 (.tmp 0) 1) 0 [v77] (upto C_52 5) (fun v78=>
 oH prog (.load 30 (.tmp 0)) 30 [v78] (upto C_52 5) (fun v79=>
 pureH (l_43.getD 1 undef) (upto C_52 3) (fun v80=>
 pureH a0 (upto C_52 0) (fun v81=>
 pureH a2 (upto C_52 0) (fun v82=>
 pureH (l_27.getD 6 undef) (upto C_52 0) (fun v83=>
 oH prog (.indexAddr 24 (.tmp 0) (.tmp 1)) 0 [v82,v83] (upto C_52 0) (fun v84=>
 oH prog (.load 3 (.tmp 0)) 3 [v84] (upto C_52 0) (fun v85=>
 callM prog 124 #[v81,v85] (fun v86 w=>C_52 1 w ∧ (
 oM prog (.convert 150 3 (.tmp 0)) 3 [v86] (fun v87 w=>C_52 2 w ∧ (
 oM prog (.buildSlice 24 1 #[(0,(.tmp 0))]) 24 [v87] (fun v88 w=>C_52 3 w ∧ (
 oM prog (.call (Go.Call.mk (.builtin .append) #[(.tmp 0),(.tmp 1)] #[24,24])) 24 [v80,v88] (fun v89 w=>C_52 4 w ∧ (
 oM prog (.buildSlice 30 1 #[(0,(.tmp 0))]) 30 [v89] (fun v90 w=>C_52 5 w ∧ (
 oM prog (.call (Go.Call.mk (.builtin .append) #[(.tmp 0),(.tmp 1)] #[30,30])) 30 [v79,v90] (fun v91 w=>C_52 6 w ∧ (
 oM prog (.nilCheck (.tmp 0)) 0 [v75] (fun v92 w=>C_52 7 w ∧ (
 oM prog (.fieldAddr 176 (.tmp 0) 1) 0 [v92] (fun v93 w=>C_52 8 w ∧ (
 oM prog (.store 30 (.tmp 0) (.tmp 1)) 0 [v93,v91] (fun _ w=>C_52 9 w ∧ (
 oM prog (.binOp .add 3 (.tmp 0) (.tmp 1) 3) 3 [(l_27.getD 6 undef),(.int .i64 1)] (fun v94 w=>
 J_25 [(l_27.getD 6 undef),v48,(l_27.getD 2 undef),(l_27.getD 3 undef),(l_43.getD 1 undef),(l_43.getD 0 undef),v94] w ∧ m_26 [(l_27.getD 6 undef),v48,(l_27.getD 2 undef),(l_27.getD 3 undef),(l_43.getD 1 undef),(l_43.getD 0 undef),v94] w < m_26 l_27 w0_l_27) w)) w)) w)) w)) w)) w)) w)) w)) w)) w))))))))))))))) w)) w0_l_43)) w)) w) w) w) w) w) w) w) w) w) w) w)
 (K (.tuple #[v31,(.bool true)]) w)) w)) w0_l_27)) w))) w) w)) w) w) w) w) w) w) w) w) w) w) w) w
theorem sh_154_ok {a0 a1 a2:Value} {K:Value → World → Prop} {w:World} (h:sh_154 a0 a1 a2 K w):callM prog 154 #[a0,a1,a2] K w:=
 calls_of_code (fun i=>bif Nat.beq i 17 then 3 else 0) (fn:=Tryz.f154) (rs:=[.tmp 6,.tmp 7]) Tryz.func154 rfl rfl (by kernel_rfl) (Nat.le_of_ble_eq_true rfl) (Eq.mp (by kernel_rfl) h)
def sh_194 (a0 a1 a2:Value) (K:Value → World → Prop) (w:World):Prop:=
 oM prog (.nilCheck (.tmp 0)) 0 [a0] (fun v12 w=>
 oM prog (.fieldAddr 176 (.tmp 0) 1) 0 [v12] (fun v13 w=>
 oM prog (.load 30 (.tmp 0)) 30 [v13] (fun v14 w=>
 oM prog (.call (Go.Call.mk (.builtin .len) #[(.tmp 0)] #[30])) 3 [v14] (fun v15 w=>
 loopM [undef,undef,undef,undef,undef,(.int .i64 0)] w (fun J_5 m_6 l_7 u_l_7 w0_l_7=>(fun w=>(
 oM prog (.binOp .lss 3 (.tmp 0) (.tmp 1) 3) 0 [(l_7.getD 5 undef),v15] (fun v17 w=>
 condM v17
 (joinM (fun M_9=>(oM prog (.indexAddr 30 (.tmp 0) (.tmp 1)) 0 [v14,(l_7.getD 5 undef)] (fun v19 w=>
 oM prog (.load 24 (.tmp 0)) 24 [v19] (fun v20 w=>
 oM prog (.binOp .eql 3 (.tmp 0) (.tmp 1) 3) 4 [(l_7.getD 5 undef),a1] (fun v23 w=>
 gdM (gd v23 false) (pureM v20) (fun v25 w=>
 gdM (gd v23 false) (pureM a2) (fun v26 w=>
 gdM (gd v23 false) (oM prog (.indexAddr 24 (.tmp 0) (.tmp 1)) 0 [v25,v26]) (fun v27 w=>
 gdM (gd v23 false) (oM prog (.load 3 (.tmp 0)) 3 [v27]) (fun v28 w=>
 gdM (gd v23 false) (oM prog (.binOp .eql 3 (.tmp 0) (.const (.int .i64 0)) 3) 4 [v28]) (fun v29 w=>
 oM prog (.pick (.tmp 0) (.tmp 1) (.tmp 2)) 4 [v23,(.bool true),v29] (fun v30 w=>
 condM v30
 (M_9 [(l_7.getD 5 undef),v20,(l_7.getD 2 undef),(l_7.getD 3 undef),(l_7.getD 4 undef)] w)
 (oM prog (.indexAddr 24 (.tmp 0) (.tmp 1)) 0 [v20,a2] (fun v33 w=>
 oM prog (.load 3 (.tmp 0)) 3 [v33] (fun v34 w=>
 oM prog (.nilCheck (.tmp 0)) 0 [a0] (fun v36 w=>
 oM prog (.fieldAddr 176 (.tmp 0) 1) 0 [v36] (fun v37 w=>
 oM prog (.load 30 (.tmp 0)) 30 [v37] (fun v38 w=>
 oM prog (.indexAddr 30 (.tmp 0) (.tmp 1)) 0 [v38,a1] (fun v40 w=>
 oM prog (.load 24 (.tmp 0)) 24 [v40] (fun v41 w=>
 oM prog (.call (Go.Call.mk (.builtin .len) #[(.tmp 0)] #[24])) 3 [v41] (fun v42 w=>
 loopM [(l_7.getD 3 undef),(l_7.getD 4 undef),(.int .i64 0)] w (fun J_28 m_29 l_30 u_l_30 w0_l_30=>(fun w=>(
 oM prog (.binOp .lss 3 (.tmp 0) (.tmp 1) 3) 0 [(l_30.getD 2 undef),v42] (fun v44 w=>
 condM v44
 (oM prog (.indexAddr 24 (.tmp 0) (.tmp 1)) 0 [v41,(l_30.getD 2 undef)] (fun v46 w=>
 oM prog (.load 3 (.tmp 0)) 3 [v46] (fun v47 w=>
 heldM w (fun C_34 w=>(((true:Bool) = true) ∧ (pureH v20 C_34 (fun v48=>
 pureH (l_30.getD 2 undef) C_34 (fun v49=>
 pureH a0 C_34 (fun v50=>
 oH prog (.nilCheck (.tmp 0)) 0 [v50] C_34 (fun v51=>
 oH prog (.fieldAddr 176 (.tmp 0) 0) 0 [v51] C_34 (fun v52=>
 oH prog (.load 3 (.tmp 0)) 3 [v52] C_34 (fun v53=>
 pureH v20 C_34 (fun v54=>
 pureH (l_30.getD 2 undef) C_34 (fun v55=>
 oH prog (.indexAddr 24 (.tmp 0) (.tmp 1)) 0 [v54,v55] C_34 (fun v56=>
 oH prog (.load 3 (.tmp 0)) 3 [v56] C_34 (fun v57=>
 pureH a0 C_34 (fun v58=>
 oH prog (.nilCheck (.tmp 0)) 0 [v58] C_34 (fun v59=>
 oH prog (.fieldAddr 176 (.tmp 0) 0) 0 [v59] C_34 (fun v60=>
 oH prog (.load 3 (.tmp 0)) 3 [v60] C_34 (fun v61=>
 pureH v34 C_34 (fun v62=>
 pureH v47 C_34 (fun v63=>
 ∃ S_51:World → World → Prop,∃ R_52:Value → World → Prop,(∀ v w w_1,S_51 w w_1 → R_52 v w → R_52 v w_1) ∧
 (∀ w,C_34 w → (callM prog 43 #[v61,v62,v63] (fun v w_1=>C_34 w_1 ∧ S_51 w w_1 ∧ R_52 v w_1) w)) ∧
 (∃ R_53:Value → World → Prop,(∀ v w w_1,S_51 w w_1 → R_53 v w → R_53 v w_1) ∧
 (∀ w,C_34 w → ∀ v64,R_52 v64 w → (callM prog 48 #[v53,v57,v64] (fun v w_1=>C_34 w_1 ∧ S_51 w w_1 ∧ R_53 v w_1) w)) ∧
 (∀ w,C_34 w → ∀ v64,R_52 v64 w → ∀ v65,R_53 v65 w → (
 oM prog (.indexAddr 24 (.tmp 0) (.tmp 1)) 0 [v48,v49] (fun v66 w=>
 oM prog (.store 3 (.tmp 0) (.tmp 1)) 0 [v66,v65] (fun _ w=>
 oM prog (.binOp .add 3 (.tmp 0) (.tmp 1) 3) 3 [(l_30.getD 2 undef),(.int .i64 1)] (fun v67 w=>
 J_28 [(l_30.getD 2 undef),v47,v67] w ∧ m_29 [(l_30.getD 2 undef),v47,v67] w < m_29 l_30 w0_l_30) w) w) w))))))))))))))))))))))) w) w)
 (M_9 [(l_7.getD 5 undef),v20,v34,(l_30.getD 0 undef),(l_30.getD 1 undef)] w)) w)) w0_l_30)) w) w) w) w) w) w) w) w)) w) w) w) w) w) w) w) w) w))
 (fun l_10 u_l_10 w=>(oM prog (.binOp .add 3 (.tmp 0) (.tmp 1) 3) 3 [(l_7.getD 5 undef),(.int .i64 1)] (fun v68 w=>
 J_5 [(l_10.getD 0 undef),(l_10.getD 1 undef),(l_10.getD 2 undef),(l_10.getD 3 undef),(l_10.getD 4 undef),v68] w ∧ m_6 [(l_10.getD 0 undef),(l_10.getD 1 undef),(l_10.getD 2 undef),(l_10.getD 3 undef),(l_10.getD 4 undef),v68] w < m_6 l_7 w0_l_7) w)))
 (K (.tuple #[]) w)) w)) w0_l_7)) w) w) w) w
theorem sh_194_ok {a0 a1 a2:Value} {K:Value → World → Prop} {w:World} (h:sh_194 a0 a1 a2 K w):callM prog 194 #[a0,a1,a2] K w:=
 calls_of_code (fun _=>.free [0,1,2,3,4,5,6,7,8,9,10,11,12,13,14,15] [16,17] [18,19]) (fn:=Tryz.f194) (rs:=[]) Tryz.func194 rfl rfl (by kernel_rfl) (Nat.le_of_ble_eq_true rfl) (Eq.mp (by kernel_rfl) h)
def sh_155 (a0:Value) (K:Value → World → Prop) (w:World):Prop:=
 oM prog (.nilCheck (.tmp 0)) 0 [a0] (fun v11 w=>
 oM prog (.fieldAddr 176 (.tmp 0) 2) 0 [v11] (fun v12 w=>
 oM prog (.load 3 (.tmp 0)) 3 [v12] (fun v13 w=>
 loopM [undef,undef,undef,undef,undef,undef,(.slice none 0 0),(.int .i64 0)] w (fun J_4 m_5 l_6 u_l_6 w0_l_6=>(fun w=>(
 oM prog (.binOp .lss 3 (.tmp 0) (.tmp 1) 3) 4 [(l_6.getD 7 undef),v13] (fun v15 w=>
 condM v15
 (joinM (fun M_8=>(oM prog (.alloc 3) 0 [] (fun v3 w=>
 oM prog (.store 3 (.tmp 0) (.tmp 1)) 0 [v3,(l_6.getD 7 undef)] (fun _ w=>
 oM prog (.call (Go.Call.mk (.builtin .len) #[(.tmp 0)] #[24])) 3 [(l_6.getD 6 undef)] (fun v18 w=>
 oM prog (.nilCheck (.tmp 0)) 0 [a0] (fun v20 w=>
 oM prog (.fieldAddr 176 (.tmp 0) 1) 0 [v20] (fun v21 w=>
 oM prog (.load 30 (.tmp 0)) 30 [v21] (fun v22 w=>
 oM prog (.slice 30 (.tmp 0) (some (.tmp 1)) none none) 30 [v22,v18] (fun v24 w=>
 oM prog (.makeFunc (Go.Fn.func 193) #[] #[(.tmp 0)]) 177 [v3] (fun v25 w=>
 callM prog 192 #[v24,v25] (fun v26 w=>
 oM prog (.binOp .lss 3 (.tmp 0) (.tmp 1) 3) 4 [v26,(.int .i64 0)] (fun v28 w=>
 condM v28
 (M_8 [v18,v26,(l_6.getD 2 undef),(l_6.getD 3 undef),(l_6.getD 4 undef),(l_6.getD 5 undef),(l_6.getD 6 undef)] w)
 (stageM w (fun C_19 w=>(pureH a0 (upto C_19 0) (fun v29=>
 oH prog (.nilCheck (.tmp 0)) 0 [v29] (upto C_19 0) (fun v30=>
 oH prog (.fieldAddr 176 (.tmp 0) 1) 0 [v30] (upto C_19 0) (fun v31=>
 oH prog (.load 30 (.tmp 0)) 30 [v31] (upto C_19 0) (fun v32=>
 pureH v18 (upto C_19 0) (fun v33=>
 pureH a0 (upto C_19 0) (fun v34=>
 oH prog (.nilCheck (.tmp 0)) 0 [v34] (upto C_19 0) (fun v35=>
 oH prog (.fieldAddr 176 (.tmp 0) 1) 0 [v35] (upto C_19 0) (fun v36=>
 oH prog (.load 30 (.tmp 0)) 30 [v36] (upto C_19 0) (fun v37=>
 pureH v18 (upto C_19 1) (fun v38=>
 pureH v26 (upto C_19 1) (fun v39=>
 oH prog (.binOp .add 3 (.tmp 0) (.tmp 1) 3) 3 [v38,v39] (upto C_19 1) (fun v40=>
 pureH a0 (upto C_19 0) (fun v41=>
 oH prog (.nilCheck (.tmp 0)) 0 [v41] (upto C_19 0) (fun v42=>
 oH prog (.fieldAddr 176 (.tmp 0) 1) 0 [v42] (upto C_19 0) (fun v43=>
 oH prog (.load 30 (.tmp 0)) 30 [v43] (upto C_19 0) (fun v44=>
 pureH v18 (upto C_19 0) (fun v45=>
 pureH v26 (upto C_19 0) (fun v46=>
 oH prog (.binOp .add 3 (.tmp 0) (.tmp 1) 3) 3 [v45,v46] (upto C_19 0) (fun v47=>
 oH prog (.indexAddr 30 (.tmp 0) (.tmp 1)) 0 [v44,v47] (upto C_19 0) (fun v48=>
 oH prog (.load 24 (.tmp 0)) 24 [v48] (upto C_19 0) (fun v49=>
 pureH a0 (upto C_19 0) (fun v50=>
 oH prog (.nilCheck (.tmp 0)) 0 [v50] (upto C_19 0) (fun v51=>
 oH prog (.fieldAddr 176 (.tmp 0) 1) 0 [v51] (upto C_19 0) (fun v52=>
 oH prog (.load 30 (.tmp 0)) 30 [v52] (upto C_19 0) (fun v53=>
 pureH v18 (upto C_19 0) (fun v54=>
 oH prog (.indexAddr 30 (.tmp 0) (.tmp 1)) 0 [v53,v54] (upto C_19 0) (fun v55=>
 oH prog (.load 24 (.tmp 0)) 24 [v55] (upto C_19 0) (fun v56=>
 oH prog (.indexAddr 30 (.tmp 0) (.tmp 1)) 0 [v32,v33] (upto C_19 0) (fun v57=>
 oM prog (.store 24 (.tmp 0) (.tmp 1)) 0 [v57,v49] (fun _ w=>C_19 1 w ∧ (
 oM prog (.indexAddr 30 (.tmp 0) (.tmp 1)) 0 [v37,v40] (fun v58 w=>C_19 2 w ∧ (
 oM prog (.store 24 (.tmp 0) (.tmp 1)) 0 [v58,v56] (fun _ w=>C_19 3 w ∧ (
 heldM w (fun C_50 w=>(((true:Bool) = true) ∧ (pureH a0 C_50 (fun v60=>
 oH prog (.nilCheck (.tmp 0)) 0 [v60] C_50 (fun v61=>
 oH prog (.fieldAddr 176 (.tmp 0) 0) 0 [v61] C_50 (fun v62=>
 oH prog (.load 3 (.tmp 0)) 3 [v62] C_50 (fun v63=>
 pureH a0 C_50 (fun v64=>
 oH prog (.nilCheck (.tmp 0)) 0 [v64] C_50 (fun v65=>
 oH prog (.fieldAddr 176 (.tmp 0) 1) 0 [v65] C_50 (fun v66=>
 oH prog (.load 30 (.tmp 0)) 30 [v66] C_50 (fun v67=>
 pureH v18 C_50 (fun v68=>
 oH prog (.indexAddr 30 (.tmp 0) (.tmp 1)) 0 [v67,v68] C_50 (fun v69=>
 oH prog (.load 24 (.tmp 0)) 24 [v69] C_50 (fun v70=>
 oH prog (.load 3 (.tmp 0)) 3 [v3] C_50 (fun v71=>
 oH prog (.indexAddr 24 (.tmp 0) (.tmp 1)) 0 [v70,v71] C_50 (fun v72=>
 oH prog (.load 3 (.tmp 0)) 3 [v72] C_50 (fun v73=>
 ∃ S_65:World → World → Prop,∃ R_66:Value → World → Prop,(∀ v w w_1,S_65 w w_1 → R_66 v w → R_66 v w_1) ∧
 (∀ w,C_50 w → (callM prog 143 #[v63,v73] (fun v w_1=>C_50 w_1 ∧ S_65 w w_1 ∧ R_66 v w_1) w)) ∧
 (∃ R_67:Value → World → Prop,(∀ v w w_1,S_65 w w_1 → R_67 v w → R_67 v w_1) ∧
 (∀ w,C_50 w → ∀ v74,R_66 v74 w → (C_50 w ∧ S_65 w w ∧ R_67 v74 w)) ∧
 (∃ R_69:Value → World → Prop,(∀ v w w_1,S_65 w w_1 → R_69 v w → R_69 v w_1) ∧
 (∀ w,C_50 w → ∀ v59,R_67 v59 w → (oM prog (.extract (.tmp 0) 0) 3 [v59] (fun v w_1=>C_50 w_1 ∧ S_65 w w_1 ∧ R_69 v w_1) w)) ∧
 (∃ R_71:Value → World → Prop,(∀ v w w_1,S_65 w w_1 → R_71 v w → R_71 v w_1) ∧
 (∀ w,C_50 w → ∀ v59,R_67 v59 w → (oM prog (.extract (.tmp 0) 1) 4 [v59] (fun v w_1=>C_50 w_1 ∧ S_65 w w_1 ∧ R_71 v w_1) w)) ∧
 (∃ R_73:Value → World → Prop,(∀ v w w_1,S_65 w w_1 → R_73 v w → R_73 v w_1) ∧
 (∀ w,C_50 w → ∀ v75,R_69 v75 w → (C_50 w ∧ S_65 w w ∧ R_73 v75 w)) ∧
 (∀ w,C_50 w → ∀ v74,R_66 v74 w → ∀ v59,R_67 v59 w → ∀ v75,R_69 v75 w → ∀ v76,R_71 v76 w → ∀ v6,R_73 v6 w → (
 oM prog (.nilCheck (.tmp 0)) 0 [a0] (fun v78 w=>
 oM prog (.fieldAddr 176 (.tmp 0) 1) 0 [v78] (fun v79 w=>
 oM prog (.load 30 (.tmp 0)) 30 [v79] (fun v80 w=>
 oM prog (.indexAddr 30 (.tmp 0) (.tmp 1)) 0 [v80,v18] (fun v82 w=>
 oM prog (.load 24 (.tmp 0)) 24 [v82] (fun v83 w=>
 oM prog (.call (Go.Call.mk (.builtin .len) #[(.tmp 0)] #[24])) 3 [v83] (fun v84 w=>
 loopM [(l_6.getD 4 undef),(l_6.getD 5 undef),(.int .i64 0)] w (fun J_86 m_87 l_88 u_l_88 w0_l_88=>(fun w=>(
 oM prog (.binOp .lss 3 (.tmp 0) (.tmp 1) 3) 0 [(l_88.getD 2 undef),v84] (fun v86 w=>
 condM v86
 (oM prog (.indexAddr 24 (.tmp 0) (.tmp 1)) 0 [v83,(l_88.getD 2 undef)] (fun v88 w=>
 oM prog (.load 3 (.tmp 0)) 3 [v88] (fun v89 w=>
 heldM w (fun C_92 w=>(((true:Bool) = true) ∧ (pureH a0 C_92 (fun v90=>
 oH prog (.nilCheck (.tmp 0)) 0 [v90] C_92 (fun v91=>
 oH prog (.fieldAddr 176 (.tmp 0) 1) 0 [v91] C_92 (fun v92=>
 oH prog (.load 30 (.tmp 0)) 30 [v92] C_92 (fun v93=>
 pureH v18 C_92 (fun v94=>
 oH prog (.indexAddr 30 (.tmp 0) (.tmp 1)) 0 [v93,v94] C_92 (fun v95=>
 oH prog (.load 24 (.tmp 0)) 24 [v95] C_92 (fun v96=>
 pureH (l_88.getD 2 undef) C_92 (fun v97=>
 pureH a0 C_92 (fun v98=>
 oH prog (.nilCheck (.tmp 0)) 0 [v98] C_92 (fun v99=>
 oH prog (.fieldAddr 176 (.tmp 0) 0) 0 [v99] C_92 (fun v100=>
 oH prog (.load 3 (.tmp 0)) 3 [v100] C_92 (fun v101=>
 pureH v89 C_92 (fun v102=>
 pureH v6 C_92 (fun v103=>
 ∃ S_107:World → World → Prop,∃ R_108:Value → World → Prop,(∀ v w w_1,S_107 w w_1 → R_108 v w → R_108 v w_1) ∧
 (∀ w,C_92 w → (callM prog 43 #[v101,v102,v103] (fun v w_1=>C_92 w_1 ∧ S_107 w w_1 ∧ R_108 v w_1) w)) ∧
 (∀ w,C_92 w → ∀ v104,R_108 v104 w → (
 oM prog (.indexAddr 24 (.tmp 0) (.tmp 1)) 0 [v96,v97] (fun v105 w=>
 oM prog (.store 3 (.tmp 0) (.tmp 1)) 0 [v105,v104] (fun _ w=>
 oM prog (.binOp .add 3 (.tmp 0) (.tmp 1) 3) 3 [(l_88.getD 2 undef),(.int .i64 1)] (fun v106 w=>
 J_86 [(l_88.getD 2 undef),v89,v106] w ∧ m_87 [(l_88.getD 2 undef),v89,v106] w < m_87 l_88 w0_l_88) w) w) w)))))))))))))))))))) w) w)
 (oM prog (.load 3 (.tmp 0)) 3 [v3] (fun v109 w=>
 callM prog 194 #[a0,v18,v109] (fun v110 w=>
 oM prog (.load 3 (.tmp 0)) 3 [v3] (fun v112 w=>
 oM prog (.buildSlice 24 1 #[(0,(.tmp 0))]) 24 [v112] (fun v113 w=>
 oM prog (.call (Go.Call.mk (.builtin .append) #[(.tmp 0),(.tmp 1)] #[24,24])) 24 [(l_6.getD 6 undef),v113] (fun v114 w=>
 M_8 [v18,v26,v6,v76,(l_88.getD 0 undef),(l_88.getD 1 undef),v114] w) w) w) w) w) w)) w)) w0_l_88)) w) w) w) w) w) w))))))))))))))))))))))))) w)) w)) w))))))))))))))))))))))))))))))))) w) w) w) w) w) w) w) w) w) w))
 (fun l_9 u_l_9 w=>(oM prog (.binOp .add 3 (.tmp 0) (.tmp 1) 3) 3 [(l_6.getD 7 undef),(.int .i64 1)] (fun v115 w=>
 J_4 [(l_9.getD 0 undef),(l_9.getD 1 undef),(l_9.getD 2 undef),(l_9.getD 3 undef),(l_9.getD 4 undef),(l_9.getD 5 undef),(l_9.getD 6 undef),v115] w ∧ m_5 [(l_9.getD 0 undef),(l_9.getD 1 undef),(l_9.getD 2 undef),(l_9.getD 3 undef),(l_9.getD 4 undef),(l_9.getD 5 undef),(l_9.getD 6 undef),v115] w < m_5 l_6 w0_l_6) w)))
 (K (l_6.getD 6 undef) w)) w)) w0_l_6)) w) w) w
theorem sh_155_ok {a0:Value} {K:Value → World → Prop} {w:World} (h:sh_155 a0 K w):callM prog 155 #[a0] K w:=
 calls_of_code (fun i=>bif Nat.beq i 7 then 3 else bif Nat.beq i 8 then .free [0,1,2,3,4,5,6,7,8,9,10,11,12,13] [14,15,16,17,18] [19] else bif Nat.beq i 12 then .free [0,1,2,3,4,5,6,7,8,9,10,11,12,13] [14] [15,16] else 0) (fn:=Tryz.f155) (rs:=[.tmp 2]) Tryz.func155 rfl rfl (by kernel_rfl) (Nat.le_of_ble_eq_true rfl) (Eq.mp (by kernel_rfl) h)
def sh_83 (a0 a1 a2:Value) (K:Value → World → Prop) (w:World):Prop:=
 callM prog 154 #[a0,a1,a2] (fun v18 w=>
 oM prog (.extract (.tmp 0) 0) 171 [v18] (fun v19 w=>
 oM prog (.extract (.tmp 0) 1) 4 [v18] (fun v20 w=>
 oM prog (.alloc 171) 0 [] (fun v8 w=>
 oM prog (.store 171 (.tmp 0) (.tmp 1)) 0 [v8,v19] (fun _ w=>
 oM prog (.unOp .not 4 (.tmp 0)) 4 [v20] (fun v22 w=>
 condM v22
 (K (.tuple #[(.slice none 0 0),(.bool false)]) w)
 (oM prog (.load 171 (.tmp 0)) 171 [v8] (fun v23 w=>
 callM prog 155 #[v23] (fun v24 w=>
 oM prog (.load 171 (.tmp 0)) 171 [v8] (fun v25 w=>
 oM prog (.nilCheck (.tmp 0)) 0 [v25] (fun v26 w=>
 oM prog (.fieldAddr 176 (.tmp 0) 1) 0 [v26] (fun v27 w=>
 oM prog (.load 30 (.tmp 0)) 30 [v27] (fun v28 w=>
 oM prog (.call (Go.Call.mk (.builtin .len) #[(.tmp 0)] #[24])) 3 [v24] (fun v30 w=>
 oM prog (.slice 30 (.tmp 0) (some (.tmp 1)) none none) 30 [v28,v30] (fun v31 w=>
 oM prog (.makeFunc (Go.Fn.func 157) #[] #[(.tmp 0)]) 177 [v8] (fun v32 w=>
 callM prog 156 #[v31,v32] (fun v33 w=>
 condM v33
 (K (.tuple #[(.slice none 0 0),(.bool false)]) w)
 (oM prog (.load 171 (.tmp 0)) 171 [v8] (fun v34 w=>
 oM prog (.nilCheck (.tmp 0)) 0 [v34] (fun v35 w=>
 oM prog (.fieldAddr 176 (.tmp 0) 2) 0 [v35] (fun v36 w=>
 oM prog (.load 3 (.tmp 0)) 3 [v36] (fun v37 w=>
 oM prog (.makeSlice 24 (.tmp 0) (.tmp 1)) 24 [v37,v37] (fun v38 w=>
 oM prog (.call (Go.Call.mk (.builtin .len) #[(.tmp 0)] #[24])) 3 [v24] (fun v40 w=>
 loopM [undef,undef,(.int .i64 0)] w (fun J_22 m_23 l_24 u_l_24 w0_l_24=>(fun w=>(
 oM prog (.binOp .lss 3 (.tmp 0) (.tmp 1) 3) 0 [(l_24.getD 2 undef),v40] (fun v42 w=>
 condM v42
 (oM prog (.indexAddr 24 (.tmp 0) (.tmp 1)) 0 [v24,(l_24.getD 2 undef)] (fun v44 w=>
 oM prog (.load 3 (.tmp 0)) 3 [v44] (fun v45 w=>
 heldM w (fun C_28 w=>(((true:Bool) = true) ∧ (pureH v38 C_28 (fun v46=>
 pureH v45 C_28 (fun v47=>
 oH prog (.load 171 (.tmp 0)) 171 [v8] C_28 (fun v48=>
 oH prog (.nilCheck (.tmp 0)) 0 [v48] C_28 (fun v49=>
 oH prog (.fieldAddr 176 (.tmp 0) 1) 0 [v49] C_28 (fun v50=>
 oH prog (.load 30 (.tmp 0)) 30 [v50] C_28 (fun v51=>
 pureH (l_24.getD 2 undef) C_28 (fun v52=>
 oH prog (.indexAddr 30 (.tmp 0) (.tmp 1)) 0 [v51,v52] C_28 (fun v53=>
 oH prog (.load 24 (.tmp 0)) 24 [v53] C_28 (fun v54=>
 oH prog (.load 171 (.tmp 0)) 171 [v8] C_28 (fun v55=>
 oH prog (.nilCheck (.tmp 0)) 0 [v55] C_28 (fun v56=>
 oH prog (.fieldAddr 176 (.tmp 0) 2) 0 [v56] C_28 (fun v57=>
 oH prog (.load 3 (.tmp 0)) 3 [v57] C_28 (fun v58=>
 oH prog (.indexAddr 24 (.tmp 0) (.tmp 1)) 0 [v54,v58] C_28 (fun v59=>
 oH prog (.load 3 (.tmp 0)) 3 [v59] C_28 (fun v60=>
 oH prog (.indexAddr 24 (.tmp 0) (.tmp 1)) 0 [v46,v47] C_28 (fun v61=>
 ∃ S_45:World → World → Prop,∀ w,C_28 w → (
 oM prog (.store 3 (.tmp 0) (.tmp 1)) 0 [v61,v60] (fun _ w=>
 oM prog (.binOp .add 3 (.tmp 0) (.tmp 1) 3) 3 [(l_24.getD 2 undef),(.int .i64 1)] (fun v62 w=>
 J_22 [(l_24.getD 2 undef),v45,v62] w ∧ m_23 [(l_24.getD 2 undef),v45,v62] w < m_23 l_24 w0_l_24) w) w))))))))))))))))))))) w) w)
 (K (.tuple #[v38,(.bool true)]) w)) w)) w0_l_24)) w) w) w) w) w) w)) w) w) w) w) w) w) w) w) w) w)) w) w) w) w) w) w
theorem sh_83_ok {a0 a1 a2:Value} {K:Value → World → Prop} {w:World} (h:sh_83 a0 a1 a2 K w):callM prog 83 #[a0,a1,a2] K w:=
 calls_of_code (fun _=>.free [0,1,2,3,4,5,6,7,8,9,10,11,12,13,14,15] [] [16]) (fn:=Tryz.f83) (rs:=[.tmp 6,.tmp 7]) Tryz.func83 rfl rfl (by kernel_rfl) (Nat.le_of_ble_eq_true rfl) (Eq.mp (by kernel_rfl) h)
def sh_84 (a0 a1:Value) (K:Value → World → Prop) (w:World):Prop:=
 oM prog (.call (Go.Call.mk (.builtin .len) #[(.tmp 0)] #[30])) 3 [a1] (fun v11 w=>
 oM prog (.makeSlice 24 (.tmp 0) (.tmp 1)) 24 [v11,v11] (fun v12 w=>
 callM prog 154 #[a0,a1,v12] (fun v13 w=>
 oM prog (.extract (.tmp 0) 0) 171 [v13] (fun v14 w=>
 oM prog (.extract (.tmp 0) 1) 4 [v13] (fun v15 w=>
 oM prog (.unOp .not 4 (.tmp 0)) 4 [v15] (fun v17 w=>
 condM v17
 (K (.int .i64 (-1)) w)
 (callM prog 155 #[v14] (fun v19 w=>
 oM prog (.call (Go.Call.mk (.builtin .len) #[(.tmp 0)] #[24])) 3 [v19] (fun v20 w=>
 K v20 w) w) w)) w) w) w) w) w) w
theorem sh_84_ok {a0 a1:Value} {K:Value → World → Prop} {w:World} (h:sh_84 a0 a1 K w):callM prog 84 #[a0,a1] K w:=
 calls_of_code (fun _=>0) (fn:=Tryz.f84) (rs:=[.tmp 4]) Tryz.func84 rfl rfl (by kernel_rfl) (Nat.le_of_ble_eq_true rfl) (Eq.mp (by kernel_rfl) h)
def sh_153 (a0 a1:Value) (K:Value → World → Prop) (w:World):Prop:=
 oM prog (.box 23 (.tmp 0)) 0 [a0] (fun v2 w=>
 loopM [(.int .i64 0),(.int .i64 1),(.int .i64 0)] w (fun J_2 m_3 l_4 u_l_4 w0_l_4=>(fun w=>(
 oM prog (.fieldAddr 23 (.tmp 0) 1) 0 [v2] (fun v8 w=>
 oM prog (.load 3 (.tmp 0)) 3 [v8] (fun v9 w=>
 oM prog (.binOp .lss 3 (.tmp 0) (.tmp 1) 3) 4 [(l_4.getD 2 undef),v9] (fun v10 w=>
 gdM (gd v10 true) (pureM (l_4.getD 2 undef)) (fun v12 w=>
 gdM (gd v10 true) (oM prog (.binOp .lss 3 (.tmp 0) (.tmp 1) 3) 4 [v12,(.int .i64 60)]) (fun v13 w=>
 oM prog (.pick (.tmp 0) (.tmp 1) (.tmp 2)) 4 [v10,v13,(.bool false)] (fun v14 w=>
 condM v14
 (oM prog (.binOp .eql 3 (.tmp 0) (.tmp 1) 3) 4 [(l_4.getD 1 undef),a1] (fun v19 w=>
 condM v19
 (K (l_4.getD 2 undef) w)
 (oM prog (.load 23 (.tmp 0)) 23 [v2] (fun v21 w=>
 oM prog (.fieldAddr 23 (.tmp 0) 2) 0 [v2] (fun v23 w=>
 oM prog (.load 3 (.tmp 0)) 3 [v23] (fun v24 w=>
 callM prog 178 #[v21,(l_4.getD 1 undef),v24] (fun v25 w=>
 oM prog (.binOp .add 3 (.tmp 0) (.tmp 1) 3) 3 [(l_4.getD 2 undef),(.int .i64 1)] (fun v16 w=>
 J_2 [(l_4.getD 0 undef),v25,v16] w ∧ m_3 [(l_4.getD 0 undef),v25,v16] w < m_3 l_4 w0_l_4) w) w) w) w) w)) w)
 (K (.int .i64 (-1)) w)) w) w) w) w) w) w)) w0_l_4)) w
theorem sh_153_ok {a0 a1:Value} {K:Value → World → Prop} {w:World} (h:sh_153 a0 a1 K w):callM prog 153 #[a0,a1] K w:=
 calls_of_code (fun _=>0) (fn:=Tryz.f153) (rs:=[.tmp 4]) Tryz.func153 rfl rfl (by kernel_rfl) (Nat.le_of_ble_eq_true rfl) (Eq.mp (by kernel_rfl) h)
def sh_82 (a0 a1:Value) (K:Value → World → Prop) (w:World):Prop:=
 oM prog (.box 26 (.tmp 0)) 0 [a0] (fun v2 w=>
 oM prog (.box 69 (.tmp 0)) 0 [a1] (fun v3 w=>
 loopM [undef,undef,(.slice none 0 0),(.slice none 0 0),(.int .i64 0)] w (fun J_3 m_4 l_5 u_l_5 w0_l_5=>(fun w=>(
 oM prog (.fieldAddr 69 (.tmp 0) 1) 0 [v3] (fun v13 w=>
 oM prog (.load 67 (.tmp 0)) 67 [v13] (fun v14 w=>
 oM prog (.call (Go.Call.mk (.builtin .len) #[(.tmp 0)] #[67])) 3 [v14] (fun v15 w=>
 oM prog (.binOp .lss 3 (.tmp 0) (.tmp 1) 3) 4 [(l_5.getD 4 undef),v15] (fun v16 w=>
 condM v16
 (oM prog (.fieldAddr 69 (.tmp 0) 0) 0 [v3] (fun v19 w=>
 oM prog (.load 3 (.tmp 0)) 3 [v19] (fun v20 w=>
 oM prog (.makeSlice 24 (.tmp 0) (.tmp 1)) 24 [v20,v20] (fun v21 w=>
 loopM [(.int .i64 0)] w (fun J_13 m_14 l_15 u_l_15 w0_l_15=>(fun w=>(
 oM prog (.fieldAddr 69 (.tmp 0) 1) 0 [v3] (fun v23 w=>
 oM prog (.load 67 (.tmp 0)) 67 [v23] (fun v24 w=>
 oM prog (.indexAddr 67 (.tmp 0) (.tmp 1)) 0 [v24,(l_5.getD 4 undef)] (fun v26 w=>
 oM prog (.fieldAddr 144 (.tmp 0) 1) 0 [v26] (fun v27 w=>
 oM prog (.load 142 (.tmp 0)) 142 [v27] (fun v28 w=>
 oM prog (.call (Go.Call.mk (.builtin .len) #[(.tmp 0)] #[142])) 3 [v28] (fun v29 w=>
 oM prog (.binOp .lss 3 (.tmp 0) (.tmp 1) 3) 4 [(l_15.getD 0 undef),v29] (fun v30 w=>
 condM v30
 (oM prog (.fieldAddr 69 (.tmp 0) 1) 0 [v3] (fun v33 w=>
 oM prog (.load 67 (.tmp 0)) 67 [v33] (fun v34 w=>
 oM prog (.indexAddr 67 (.tmp 0) (.tmp 1)) 0 [v34,(l_5.getD 4 undef)] (fun v36 w=>
 oM prog (.fieldAddr 144 (.tmp 0) 1) 0 [v36] (fun v37 w=>
 oM prog (.load 142 (.tmp 0)) 142 [v37] (fun v38 w=>
 oM prog (.indexAddr 142 (.tmp 0) (.tmp 1)) 0 [v38,(l_15.getD 0 undef)] (fun v40 w=>
 oM prog (.load 146 (.tmp 0)) 146 [v40] (fun v41 w=>
 oM prog (.alloc 146) 0 [] (fun v11 w=>
 oM prog (.store 146 (.tmp 0) (.tmp 1)) 0 [v11,v41] (fun _ w=>
 heldM w (fun C_31 w=>(((true:Bool) = true) ∧ (pureH v21 C_31 (fun v42=>
 oH prog (.fieldAddr 146 (.tmp 0) 0) 0 [v11] C_31 (fun v43=>
 oH prog (.load 3 (.tmp 0)) 3 [v43] C_31 (fun v44=>
 oH prog (.fieldAddr 26 (.tmp 0) 0) 0 [v2] C_31 (fun v45=>
 oH prog (.fieldAddr 23 (.tmp 0) 1) 0 [v45] C_31 (fun v46=>
 oH prog (.load 3 (.tmp 0)) 3 [v46] C_31 (fun v47=>
 pureH v21 C_31 (fun v48=>
 oH prog (.fieldAddr 146 (.tmp 0) 0) 0 [v11] C_31 (fun v49=>
 oH prog (.load 3 (.tmp 0)) 3 [v49] C_31 (fun v50=>
 oH prog (.indexAddr 24 (.tmp 0) (.tmp 1)) 0 [v48,v50] C_31 (fun v51=>
 oH prog (.load 3 (.tmp 0)) 3 [v51] C_31 (fun v52=>
 oH prog (.fieldAddr 26 (.tmp 0) 0) 0 [v2] C_31 (fun v53=>
 oH prog (.load 23 (.tmp 0)) 23 [v53] C_31 (fun v54=>
 oH prog (.fieldAddr 146 (.tmp 0) 1) 0 [v11] C_31 (fun v55=>
 oH prog (.load 3 (.tmp 0)) 3 [v55] C_31 (fun v56=>
 ∃ S_47:World → World → Prop,∃ R_48:Value → World → Prop,(∀ v w w_1,S_47 w w_1 → R_48 v w → R_48 v w_1) ∧
 (∀ w,C_31 w → (callM prog 153 #[v54,v56] (fun v w_1=>C_31 w_1 ∧ S_47 w w_1 ∧ R_48 v w_1) w)) ∧
 (∃ R_49:Value → World → Prop,(∀ v w w_1,S_47 w w_1 → R_49 v w → R_49 v w_1) ∧
 (∀ w,C_31 w → ∀ v57,R_48 v57 w → (callM prog 42 #[v47,v52,v57] (fun v w_1=>C_31 w_1 ∧ S_47 w w_1 ∧ R_49 v w_1) w)) ∧
 (∀ w,C_31 w → ∀ v57,R_48 v57 w → ∀ v58,R_49 v58 w → (
 oM prog (.indexAddr 24 (.tmp 0) (.tmp 1)) 0 [v42,v44] (fun v59 w=>
 oM prog (.store 3 (.tmp 0) (.tmp 1)) 0 [v59,v58] (fun _ w=>
 oM prog (.binOp .add 3 (.tmp 0) (.tmp 1) 3) 3 [(l_15.getD 0 undef),(.int .i64 1)] (fun v32 w=>
 J_13 [v32] w ∧ m_14 [v32] w < m_14 l_15 w0_l_15) w) w) w)))))))))))))))))))))) w) w) w) w) w) w) w) w) w)
 (oM prog (.buildSlice 30 1 #[(0,(.tmp 0))]) 30 [v21] (fun v62 w=>
 oM prog (.call (Go.Call.mk (.builtin .append) #[(.tmp 0),(.tmp 1)] #[30,30])) 30 [(l_5.getD 2 undef),v62] (fun v63 w=>
 heldM w (fun C_57 w=>(((true:Bool) = true) ∧ (pureH (l_5.getD 3 undef) C_57 (fun v64=>
 oH prog (.fieldAddr 26 (.tmp 0) 0) 0 [v2] C_57 (fun v65=>
 oH prog (.load 23 (.tmp 0)) 23 [v65] C_57 (fun v66=>
 oH prog (.fieldAddr 69 (.tmp 0) 1) 0 [v3] C_57 (fun v67=>
 oH prog (.load 67 (.tmp 0)) 67 [v67] C_57 (fun v68=>
 pureH (l_5.getD 4 undef) C_57 (fun v69=>
 oH prog (.indexAddr 67 (.tmp 0) (.tmp 1)) 0 [v68,v69] C_57 (fun v70=>
 oH prog (.fieldAddr 144 (.tmp 0) 0) 0 [v70] C_57 (fun v71=>
 oH prog (.load 3 (.tmp 0)) 3 [v71] C_57 (fun v72=>
 ∃ S_67:World → World → Prop,∃ R_68:Value → World → Prop,(∀ v w w_1,S_67 w w_1 → R_68 v w → R_68 v w_1) ∧
 (∀ w,C_57 w → (callM prog 153 #[v66,v72] (fun v w_1=>C_57 w_1 ∧ S_67 w w_1 ∧ R_68 v w_1) w)) ∧
 (∃ R_69:Value → World → Prop,(∀ v w w_1,S_67 w w_1 → R_69 v w → R_69 v w_1) ∧
 (∀ w,C_57 w → ∀ v73,R_68 v73 w → (oM prog (.buildSlice 24 1 #[(0,(.tmp 0))]) 24 [v73] (fun v w_1=>C_57 w_1 ∧ S_67 w w_1 ∧ R_69 v w_1) w)) ∧
 (∀ w,C_57 w → ∀ v73,R_68 v73 w → ∀ v74,R_69 v74 w → (
 oM prog (.call (Go.Call.mk (.builtin .append) #[(.tmp 0),(.tmp 1)] #[24,24])) 24 [v64,v74] (fun v75 w=>
 oM prog (.binOp .add 3 (.tmp 0) (.tmp 1) 3) 3 [(l_5.getD 4 undef),(.int .i64 1)] (fun v18 w=>
 J_3 [v21,(l_15.getD 0 undef),v63,v75,v18] w ∧ m_4 [v21,(l_15.getD 0 undef),v63,v75,v18] w < m_4 l_5 w0_l_5) w) w)))))))))))))))) w) w)) w) w) w) w) w) w) w)) w0_l_15)) w) w) w)
 (K (.tuple #[(l_5.getD 2 undef),(l_5.getD 3 undef)]) w)) w) w) w) w)) w0_l_5)) w) w
theorem sh_82_ok {a0 a1:Value} {K:Value → World → Prop} {w:World} (h:sh_82 a0 a1 K w):callM prog 82 #[a0,a1] K w:=
 calls_of_code (fun i=>bif Nat.beq i 11 then .free [0,1,2,3,4,5,6,7,8,9,10,11,12,13,14] [15,16] [17,18] else bif Nat.beq i 13 then .free [0,1,2,3,4,5,6,7,8] [9,10] [11,12] else 0) (fn:=Tryz.f82) (rs:=[.tmp 4,.tmp 5]) Tryz.func82 rfl rfl (by kernel_rfl) (Nat.le_of_ble_eq_true rfl) (Eq.mp (by kernel_rfl) h)
end Go.Proofs
namespace Go.Proofs
open Go Go.Sh Go.RowKit FdSpec TkSpec CodeSpec PrSpec FdPoly LinLaw
section
variable {K:Value → World → Prop} {w w' w0 W W':World} {L:List (Addr × Value)} {g n B c o:Nat} {bs:List (Nat × Nat)} {m:List (List Int)}
@[go_sem] theorem idx_rw (T:TypeId) (b o n c:Nat) (x:Int):oM Tryz.prog (.indexAddr 30 (.tmp 0) (.tmp 1)) T [.slice (some ⟨b,o,none⟩) n c,.int .i64 x] = onM (0 ≤ x ∧ x < n) (.pointer (some ⟨b,o + x.toNat,none⟩)):=by
 have:=idx_row (K:=fun _ _=>True) (P:=Tryz.prog) (n:=1) 30 T (by kernel_rfl) (fun w=>by kernel_rfl) b o n c x
 rwa [Nat.mul_one] at this
def Hst (w:World) (g o:Nat) (vs:List Value):Prop:=∀ (i:Nat) (v:Value),vs[i]? = some v → ∀ w',Below w.heap.size w w' → w'.cell? ⟨g,o + i,none⟩ = some v
def fnd (r:Option Nat):Int:=match r with | some i=>i | none=>-1
def IrJ (f:List Int → Bool) (l:List (List Int)) (w0:World) (vs:List Value) (w':World):Prop:=Below w0.heap.size w0 w' ∧ ∃ (v u:Value) (i:Nat),vs = [v,u,.int .i64 (i:Int)] ∧ i ≤ l.length ∧ ∀ j r,j < i → l[j]? = some r → f r = false
theorem IndexRows_ok {F:Value} {vs:List Value} {l:List (List Int)} (f:List Int → Bool) (hl:vs.length = l.length) (hn:l.length ≤ 65536) (hc:Hst w g o vs)
  (hF:∀ (w':World) (i:Nat) (x:Value) (r:List Int) (K':Value → World → Prop) (T:TypeId),Below w.heap.size w w' → vs[i]? = some x → l[i]? = some r → (∀ w'',Below w'.heap.size w' w'' → K' (.bool (f r)) w'') → oM Tryz.prog (.call { callee:=.value (.tmp 0),args:=#[.tmp 1],argTypes:=#[24] }) T [F,x] K' w')
  (k:∀ w',Below w.heap.size w w' → K (.int .i64 (fnd (l.findIdx? f))) w'):callM Tryz.prog 192 #[.slice (some ⟨g,o,none⟩) l.length c,F] K w:=by
 apply sh_192_ok
 unfold sh_192
 repeat (any_goals ((with_reducible refine oM_gen fun Kv hK=>?_); simp [go_sem]; refine hK _ _ ?_; clear hK Kv))
 refine ⟨IrJ f l w,vsMu l.length,⟨Below.refl _ _,_,_,0,rfl,by omega,fun j r hj=>by omega⟩,?_⟩
 rintro _ _ w1 ⟨h1,u1,u2,i,rfl,hi,ha⟩
 by_cases hin:i = l.length
 ·repeat (any_goals (first
  | (with_reducible refine yO ?_)
  | ((with_reducible refine oM_gen fun Kv hK=>?_); simp [go_sem]; refine hK _ _ ?_; clear hK Kv)))
  have:l.findIdx? f = none:=by
   rw [List.findIdx?_eq_none_iff]
   intro x hx
   obtain ⟨j,hj⟩:=List.getElem?_of_mem hx
   exact ha j x (by have:=(List.getElem?_eq_some_iff.1 hj).1; omega) hj
  rw [this] at k
  exact k _ h1
 ·have hil:i < l.length:=by omega
  have er:l[i]? = some l[i]:=List.getElem?_eq_getElem hil
  have ev:vs[i]? = some vs[i]:=List.getElem?_eq_getElem (by omega)
  have hilZ:(i:Int) < l.length:=by omega
  repeat (any_goals (first
  | (with_reducible refine yL ?_)
  | ((with_reducible refine oM_gen fun Kv hK=>?_); simp [go_sem,hilZ,hc i _ ev _ h1]; refine hK _ _ ?_; clear hK Kv)))
  refine hF w1 i _ _ _ _ h1 ev er (fun w2 h2=>?_)
  cases hp:f l[i] with
  | true=>
   repeat (any_goals (with_reducible refine yL ?_))
   have:l.findIdx? f = some i:=by
    rw [List.findIdx?_eq_some_iff_getElem]
    exact ⟨hil,hp,fun j hj=>by rw [ha j _ hj (List.getElem?_eq_getElem (by omega))]; simp⟩
   rw [this] at k
   exact k _ (h1.on h2)
  | false=>
   repeat (any_goals (first
   | (with_reducible refine yM ?_)
   | ((with_reducible refine oM_gen fun Kv hK=>?_); simp [go_sem]; (try simp (disch:=omega) only [wrapI64,wrapU8,wrapU32,wrapU64]); refine hK _ _ ?_; clear hK Kv)))
   refine ⟨⟨h1.on h2,_,_,i + 1,rfl,by omega,fun j r hj hr=>?_⟩,?_⟩
   ·by_cases hji:j = i
    ·subst hji
     rw [er] at hr
     cases hr
     exact hp
    ·exact ha j r (by omega) hr
   ·simp only [vsMu_eq]; omega
theorem ContainsRows_ok {F:Value} {vs:List Value} {l:List (List Int)} (f:List Int → Bool) (hl:vs.length = l.length) (hn:l.length ≤ 65536) (hc:Hst w g o vs)
  (hF:∀ (w':World) (i:Nat) (x:Value) (r:List Int) (K':Value → World → Prop) (T:TypeId),Below w.heap.size w w' → vs[i]? = some x → l[i]? = some r → (∀ w'',Below w'.heap.size w' w'' → K' (.bool (f r)) w'') → oM Tryz.prog (.call { callee:=.value (.tmp 0),args:=#[.tmp 1],argTypes:=#[24] }) T [F,x] K' w')
  (k:∀ w',Below w.heap.size w w' → K (.bool (l.any f)) w'):callM Tryz.prog 156 #[.slice (some ⟨g,o,none⟩) l.length c,F] K w:=by
 apply sh_156_ok
 unfold sh_156
 refine IndexRows_ok f hl hn hc hF (fun w' hb=>?_)
 have e:decide (0 ≤ fnd (l.findIdx? f)) = l.any f:=by
  cases h:l.findIdx? f with
  | none=>
   rw [List.findIdx?_eq_none_iff] at h
   have:l.any f = false:=by
    rw [List.any_eq_false]
    intro x hx
    rw [h x hx]; simp
   rw [this]; rfl
  | some i=>
   obtain ⟨hi,hp,_⟩:=List.findIdx?_eq_some_iff_getElem.1 h
   have:l.any f = true:=List.any_eq_true.2 ⟨_,List.getElem_mem hi,hp⟩
   rw [this]
   show decide (0 ≤ (i:Int)) = true
   simp
 repeat (any_goals ((with_reducible refine oM_gen fun Kv hK=>?_); simp [go_sem]; refine hK _ _ ?_; clear hK Kv))
 rw [e]
 exact k _ hb
abbrev mtC (q:Int) (v:Value) (cols:Nat):List Value:=[.int .i64 q,v,.int .i64 cols]
theorem row1_ok {b:Nat × Nat} {r:List Int} {cb col:Nat} (hR:RowP w B b.1 b.2 r) (hcol:w.cell? ⟨cb,0,none⟩ = some (.int .i64 (col:Int))) (hc:col < r.length) (k:K (.bool (decide (r.getD col 0 ≠ 0))) w) :
  callM Tryz.prog 193 #[hdr b r,.pointer (some ⟨cb,0,none⟩)] K w:=by
 apply sh_193_ok
 unfold sh_193 hdr
 have hx:=hR.cell (getD_some hc)
 have hcz:(col:Int) < r.length:=by omega
 by_cases h:r.getD col 0 = 0
 ·rw [h] at hx
  repeat (any_goals ((with_reducible refine oM_gen fun Kv hK=>?_); simp [go_sem,hcol,hx,hcz]; refine hK _ _ ?_; clear hK Kv))
  rwa [decide_eq_false (by simpa using h)] at k
 ·have h':=h
  rw [decide_eq_true h] at k
  generalize r.getD col 0 = y at *
  repeat (any_goals ((with_reducible refine oM_gen fun Kv hK=>?_); simp [go_sem,hcol,hx,hcz,h]; refine hK _ _ ?_; clear hK Kv))
  exact k
theorem row2_ok {q:Int} {v:Value} {b:Nat × Nat} {r:List Int} {cb mp cols:Nat} (hR:RowP w B b.1 b.2 r) (hcol:w.cell? ⟨cb,0,none⟩ = some (.pointer (some ⟨mp,0,none⟩))) (hm:Holds w mp 176 (mtC q v cols)) (hc:cols < r.length) (k:K (.bool (decide (r.getD cols 0 ≠ 0))) w) :
  callM Tryz.prog 157 #[hdr b r,.pointer (some ⟨cb,0,none⟩)] K w:=by
 apply sh_157_ok
 unfold sh_157 hdr
 have hx:=hR.cell (getD_some hc)
 have hcz:(cols:Int) < r.length:=by omega
 have h2:=hm.cell 2 (by simp)
 simp only [List.getElem_cons_succ,List.getElem_cons_zero] at h2
 by_cases h:r.getD cols 0 = 0
 ·rw [h] at hx
  repeat (any_goals ((with_reducible refine oM_gen fun Kv hK=>?_); simp [go_sem,hcol,hx,hcz,h2]; refine hK _ _ ?_; clear hK Kv))
  rwa [decide_eq_false (by simpa using h)] at k
 ·rw [decide_eq_true h] at k
  generalize r.getD cols 0 = y at *
  repeat (any_goals ((with_reducible refine oM_gen fun Kv hK=>?_); simp [go_sem,hcol,hx,hcz,h,h2]; refine hK _ _ ?_; clear hK Kv))
  exact k
end
end Go.Proofs
namespace Go.Proofs
open Go Go.Sh Go.RowKit FdSpec TkSpec CodeSpec PrSpec FdPoly LinLaw
section
variable {K:Value → World → Prop} {w w' w0 W W':World} {L:List (Addr × Value)} {g n B c o mp cols:Nat} {bs:List (Nat × Nat)} {m:List (List Int)} {q:Int}
theorem Hds.hst {vs:List Value} (h:Hds w g c vs):Hst w g 0 vs:=fun i v hv w' hb=>by
 rw [Nat.zero_add,hb.cell h.lt]
 exact h.cell hv
theorem rows_from {T:TypeId} {vs:List Value} (h:Hds w g c vs) {i:Nat} (hi:i ≤ vs.length) (k:∀ o c',Hst w g o (vs.drop i) → K (.slice (some ⟨g,o,none⟩) (vs.drop i).length c') w):oM Tryz.prog (.slice 30 (.tmp 0) (some (.tmp 1)) none none) T [.slice (some ⟨g,0,none⟩) vs.length c,.int .i64 (i:Int)] K w:=by
 have hvc:vs.length ≤ c:=by obtain ⟨_,_,_,h3,_⟩:=h; exact h3
 have ht:Tryz.prog.underlying 30 = some (.slice (Tryz.prog.elem 30)):=by kernel_rfl
 have hs:(sizeOf (Tryz.prog.elem 30)).run Tryz.prog w = .ok 1 w:=by kernel_rfl
 rw [oM_sliceFrom,run_sliceAt_slice w _ _ _ _ _ ht,run_slice_l w _ _ vs.length c ht .i64 i (by omega) (by omega),hs]
 simp only [Result.andThen_ok,sliced,Int.toNat_natCast]
 have e:vs.length - i = (vs.drop i).length:=by rw [List.length_drop]
 rw [e]
 by_cases hci:c = i
 ·rw [if_pos hci]
  have hnil:vs.drop i = []:=List.drop_of_length_le (by omega)
  exact k 0 _ (fun j v hv=>by rw [hnil] at hv; cases hv)
 ·rw [if_neg hci,Option.map_some,add_none]
  refine k _ _ (fun j v hv w' hb=>?_)
  rw [List.getElem?_drop] at hv
  have:=h.hst (i + j) v hv w' hb
  rwa [show 0 + i * 1 + j = 0 + (i + j) by omega]
def clrR (q:Int) (m:List (List Int)) (k col t:Nat) (r:List Int):List Int:=if t = k ∨ r.getD col 0 = 0 then r else rowSub q r (r.getD col 0) (m.getD k [])
def part (q:Int) (m:List (List Int)) (k col i:Nat):List (List Int):=m.mapIdx fun t r=>if t < i then clrR q m k col t r else r
theorem part_zero (k col:Nat):part q m k col 0 = m:=by
 unfold part
 apply List.ext_getElem?
 intro i
 rw [List.getElem?_mapIdx]
 cases m[i]? <;> simp
theorem part_len (k col i:Nat):(part q m k col i).length = m.length:=by simp [part]
theorem part_all (k col:Nat):part q m k col m.length = clearM q m k col:=by
 unfold part clearM
 apply List.ext_getElem?
 intro i
 rw [List.getElem?_mapIdx,List.getElem?_mapIdx]
 cases h:m[i]? with
 | none=>rfl
 | some r=>
  have:=(List.getElem?_eq_some_iff.1 h).1
  simp [this,clrR]
theorem part_get {k col i t:Nat} {r:List Int} (h:m[t]? = some r) (ht:i ≤ t):(part q m k col i)[t]? = some r:=by
 unfold part
 rw [List.getElem?_mapIdx,h,Option.map_some,if_neg (by omega)]
theorem part_k {k col i:Nat} {r:List Int} (h:m[k]? = some r):(part q m k col i)[k]? = some r:=by
 unfold part
 rw [List.getElem?_mapIdx,h,Option.map_some]
 unfold clrR
 rw [if_pos (Or.inl rfl)]
 split <;> rfl
theorem part_succ {k col i:Nat} {r:List Int} (h:m[i]? = some r):(part q m k col i).set i (clrR q m k col i r) = part q m k col (i + 1):=by
 apply List.ext_getElem?
 intro t
 unfold part
 rw [List.getElem?_set,List.length_mapIdx,List.getElem?_mapIdx,List.getElem?_mapIdx]
 by_cases hti:i = t
 ·subst hti
  rw [if_pos rfl,if_pos (List.getElem?_eq_some_iff.1 h).1,h,Option.map_some,if_pos (by omega)]
 ·rw [if_neg hti]
  cases hm:m[t]? with
  | none=>rfl
  | some r'=>
   rw [Option.map_some,Option.map_some]
   by_cases h2:t < i
   ·rw [if_pos h2,if_pos (by omega)]
   ·rw [if_neg h2,if_neg (by omega)]
def prow (full r:List Int) (j:Nat):List Int:=full.take j ++ r.drop j
theorem prow_zero (full r:List Int):prow full r 0 = r:=by simp [prow]
theorem prow_all {full r:List Int} (h:full.length = r.length):prow full r r.length = full:=by
 unfold prow
 rw [List.drop_of_length_le (Nat.le_refl _),List.take_of_length_le (by omega),List.append_nil]
theorem prow_len {full r:List Int} {j:Nat} (h:full.length = r.length) (hj:j ≤ r.length):(prow full r j).length = r.length:=by
 unfold prow
 rw [List.length_append,List.length_take,List.length_drop]
 omega
theorem prow_get {full r:List Int} {j:Nat} (h:full.length = r.length) (hj:j < r.length):(prow full r j).getD j 0 = r.getD j 0:=by
 unfold prow
 rw [List.getD_eq_getElem?_getD,List.getElem?_append_right (by rw [List.length_take]; omega),List.getElem?_drop,List.length_take,List.getD_eq_getElem?_getD]
 congr 2
 omega
theorem prow_succ {full r:List Int} {j:Nat} (h:full.length = r.length) (hj:j < r.length):(prow full r j).set j (full.getD j 0) = prow full r (j + 1):=by
 unfold prow
 have e1:full.take (j + 1) = full.take j ++ [full.getD j 0]:=by
  rw [List.take_add_one,getD_some (by omega)]; rfl
 have e2:r.drop j = r.getD j 0 :: r.drop (j + 1):=by
  rw [List.drop_eq_getElem_cons hj,List.getD_eq_getElem?_getD,List.getElem?_eq_getElem hj]; rfl
 rw [e1,e2,List.set_append,if_neg (by rw [List.length_take]; omega),List.length_take,show j - min j full.length = 0 by omega,List.set_cons_zero,List.append_assoc]
 rfl
theorem rowSub_len {r t:List Int} {b:Int} (h:r.length = t.length):(rowSub q r b t).length = r.length:=by
 unfold rowSub
 rw [List.length_map,List.length_zip]
 omega
theorem rowSub_get {r t:List Int} {b:Int} {j:Nat} (h:r.length = t.length) (hj:j < r.length):(rowSub q r b t).getD j 0 = subM q (r.getD j 0) (mulM q b (t.getD j 0)):=by
 have e:(r.zip t)[j]? = some (r.getD j 0,t.getD j 0):=List.getElem?_zip_eq_some.2 ⟨getD_some hj,getD_some (by omega)⟩
 unfold rowSub
 rw [List.getD_eq_getElem?_getD,List.getElem?_map,e]
 rfl
def ClJ (q:Int) (m:List (List Int)) (k col B g c:Nat) (bs:List (Nat × Nat)) (w0:World) (vs:List Value) (W:World):Prop:=Fr (Bk bs) w0 W ∧ ∃ (u0 u1 u2 u3 u4:Value) (i:Nat),vs = [u0,u1,u2,u3,u4,.int .i64 (i:Int)] ∧ i ≤ m.length ∧ MatB W B g c bs (part q m k col i)
def CjJ (q:Int) (m:List (List Int)) (k col i B g c:Nat) (full r:List Int) (bs:List (Nat × Nat)) (w0:World) (vs:List Value) (W:World):Prop:=Fr (Bk bs) w0 W ∧ ∃ (u0 u1:Value) (j:Nat),vs = [u0,u1,.int .i64 (j:Int)] ∧ j ≤ r.length ∧ MatB W B g c bs ((part q m k col i).set i (prow full r j))
theorem Bk.of {b:Nat × Nat} {i:Nat} (h:bs[i]? = some b):Bk bs b.1:=⟨b,List.mem_of_getElem? h,rfl⟩
set_option maxHeartbeats 1600000 in
theorem clear_ok {k col:Nat} (hm:Holds w mp 176 (mtC q (.slice (some ⟨g,0,none⟩) m.length c) cols)) (hM:MatB w B g c bs m) (hmb:¬ Bk bs mp) (hn:∀ r ∈ m,r.length = n) (hcol:col < n) (hk:k < m.length) (hl:m.length ≤ 65536) (hnl:n ≤ 65536)
  (hK:∀ w',Fr (Bk bs) w w' → MatB w' B g c bs (clearM q m k col) → K (.tuple #[]) w'):callM Tryz.prog 194 #[.pointer (some ⟨mp,0,none⟩),.int .i64 (k:Int),.int .i64 (col:Int)] K w:=by
 apply sh_194_ok
 unfold sh_194
 have a0:=hm.cell 0 (by simp)
 have a1:=hm.cell 1 (by simp)
 simp only [List.getElem_cons_succ,List.getElem_cons_zero] at a0 a1
 repeat (any_goals ((with_reducible refine oM_gen fun Kv hK=>?_); simp [go_sem,a1]; refine hK _ _ ?_; clear hK Kv))
 refine ⟨ClJ q m k col B g c bs w,(fun vs _=>match vs with | [_,_,_,_,_,.int _ i]=>m.length - i.toNat | _=>0),⟨Fr.refl _ _,_,_,_,_,_,0,rfl,by omega,by rw [part_zero]; exact hM⟩,?_⟩
 rintro _ _ w1 ⟨h1,u0,u1,u2,u3,u4,i,rfl,hi,hM1⟩
 by_cases hin:i = m.length
 ·repeat (any_goals (first
  | (with_reducible refine yO ?_)
  | ((with_reducible refine oM_gen fun Kv hK=>?_); simp [go_sem]; refine hK _ _ ?_; clear hK Kv)))
  rw [hin,part_all] at hM1
  exact hK _ h1 hM1
 have hil:i < m.length:=by omega
 have hilZ:(i:Int) < m.length:=by omega
 have hkZ:(k:Int) < m.length:=by omega
 have er:m[i]? = some m[i]:=List.getElem?_eq_getElem hil
 have ek:m[k]? = some m[k]:=List.getElem?_eq_getElem hk
 have hrl:=hn _ (List.getElem_mem hil)
 have hkl:=hn _ (List.getElem_mem hk)
 have hkd:m.getD k [] = m[k]:=getD_row ek
 have hms:=part_succ (q:=q) (k:=k) (col:=col) er
 have hp1:=part_get (q:=q) (k:=k) (col:=col) er (Nat.le_refl _)
 have hp2:=part_k (q:=q) (col:=col) (i:=i) ek
 obtain ⟨b,hb,hc1,hR1,hng⟩:=hM1.get hp1
 obtain ⟨bk,hbk,hck,hRk,_⟩:=hM1.get hp2
 have hcr:clrR q m k col i m[i] = if i = k ∨ m[i].getD col 0 = 0 then m[i] else rowSub q m[i] (m[i].getD col 0) m[k]:=by unfold clrR; rw [hkd]
 generalize m[i] = r at *
 generalize m[k] = rk at *
 have nxt:∀ {W:World} {u0 u1 u2 u3 u4:Value},Fr (Bk bs) w W → MatB W B g c bs (part q m k col (i + 1)) → ClJ q m k col B g c bs w [u0,u1,u2,u3,u4,.int .i64 ((i + 1:Nat):Int)] W:=fun h h2=>⟨h,_,_,_,_,_,i + 1,rfl,by omega,h2⟩
 have mu:m.length - (((i + 1:Nat):Int)).toNat < m.length - ((i:Nat):Int).toNat:=by omega
 have hcolr:(col:Int) < r.length:=by omega
 have hx:=hR1.cell (getD_some (l:=r) (i:=col) (by omega))
 unfold hdr at hc1 hck
 have sm:i = k ∨ r.getD col 0 = 0 → part q m k col i = part q m k col (i + 1):=fun h=>by
  rw [hcr,if_pos h] at hms
  rw [← hms]
  apply List.ext_getElem?
  intro t
  rw [List.getElem?_set,part_len]
  by_cases hti:i = t
  ·subst hti; rw [if_pos rfl,if_pos hil,hp1]
  ·rw [if_neg hti]
 repeat (any_goals (first
 | (with_reducible refine yL ?_)
 | ((with_reducible refine oM_gen fun Kv hK=>?_); simp [go_sem,hilZ]; refine hK _ _ ?_; clear hK Kv)))
 refine ⟨fun l W=>∃ x0 x1 x2 x3,l = [.int .i64 (i:Int),x0,x1,x2,x3] ∧ Fr (Bk bs) w W ∧ MatB W B g c bs (part q m k col (i + 1)),?_,?_⟩
 rotate_left
 ·rintro _ _ W ⟨x0,x1,x2,x3,rfl,hfW,hMW⟩
  repeat (any_goals ((with_reducible refine oM_gen fun Kv hK=>?_); simp [go_sem]; (try simp (disch:=omega) only [wrapI64,wrapU8,wrapU32,wrapU64]); refine hK _ _ ?_; clear hK Kv))
  exact ⟨nxt hfW hMW,mu⟩
 by_cases hik:i = k
 ·have sm':=sm (.inl hik)
  subst hik
  repeat (any_goals (first
  | (with_reducible first|refine zD ?_|refine yB ?_|refine yL ?_)
  | ((with_reducible refine oM_gen fun Kv hK=>?_); simp [go_sem,hc1,hilZ]; refine hK _ _ ?_; clear hK Kv)))
  rw [sm'] at hM1
  exact ⟨_,_,_,_,rfl,h1,hM1⟩
 have hikZ:¬ (i:Int) = k:=by omega
 by_cases hz:r.getD col 0 = 0
 ·rw [hz] at hx
  repeat (any_goals (first
  | (with_reducible first|refine pureM_in ?_|refine zC ?_|refine yC ?_|refine yL ?_)
  | ((with_reducible refine oM_gen fun Kv hK=>?_); simp [go_sem,hc1,hilZ,hikZ,hx,hcolr]; refine hK _ _ ?_; clear hK Kv)))
  rw [sm (.inr hz)] at hM1
  exact ⟨_,_,_,_,rfl,h1,hM1⟩
 rw [hcr,if_neg (by rintro (h | h); exact hik h; exact hz h)] at hms
 have hfl:=rowSub_len (q:=q) (b:=r.getD col 0) (r:=r) (t:=rk) (by omega)
 have hfg:=fun j hj=>rowSub_get (q:=q) (b:=r.getD col 0) (r:=r) (t:=rk) (j:=j) (by omega) hj
 generalize rowSub q r (r.getD col 0) rk = full at *
 generalize hby:r.getD col 0 = by_ at *
 have a1':=(h1.block mp hm.lt hmb)
 have hm1:Holds w1 mp 176 (mtC q (.slice (some ⟨g,0,none⟩) m.length c) cols):=a1'.trans hm
 have d0:=hm1.cell 0 (by simp)
 have d1:=hm1.cell 1 (by simp)
 simp only [List.getElem_cons_succ,List.getElem_cons_zero] at d0 d1
 repeat (any_goals (first
 | (with_reducible first|refine pureM_in ?_|refine zC ?_|refine yC ?_|refine yM ?_)
 | ((with_reducible refine oM_gen fun Kv hK=>?_); simp [go_sem,hc1,hilZ,hikZ,hx,hcolr,hz,d1,hck,hkZ]; refine hK _ _ ?_; clear hK Kv)))
 refine ⟨CjJ q m k col i B g c full r bs w,(fun vs _=>match vs with | [_,_,.int _ j]=>r.length - j.toNat | _=>0),⟨h1,_,_,0,rfl,by omega,by
  rw [prow_zero]
  have:(part q m k col i).set i r = part q m k col i:=by
   apply List.ext_getElem?
   intro t
   rw [List.getElem?_set,part_len]
   by_cases hti:i = t
   ·subst hti; rw [if_pos rfl,if_pos hil,hp1]
   ·rw [if_neg hti]
  rw [this]
  exact hM1⟩,?_⟩
 clear d0 d1 hm1 a1' hx hck hc1 hRk hR1
 rintro _ _ w2 ⟨h2,v0,v1,j,rfl,hj,hM2⟩
 by_cases hjn:j = r.length
 ·have hjz:¬ (j:Int) < rk.length:=by omega
  repeat (any_goals (first
  | (with_reducible refine yM ?_)
  | ((with_reducible refine oM_gen fun Kv hK=>?_); simp [go_sem,hjz]; refine hK _ _ ?_; clear hK Kv)))
  rw [hjn,prow_all hfl,hms] at hM2
  exact ⟨_,_,_,_,rfl,h2,hM2⟩
 have hjl:j < r.length:=by omega
 have hjz:(j:Int) < rk.length:=by omega
 have hjr:(j:Int) < r.length:=by omega
 have hs1:((part q m k col i).set i (prow full r j))[i]? = some (prow full r j):=by rw [List.getElem?_set_self (by rw [part_len]; exact hil)]
 have hs2:((part q m k col i).set i (prow full r j))[k]? = some rk:=by rw [List.getElem?_set,if_neg hik]; exact hp2
 have hb9:Below w2.heap.size w2 { w2 with drawn:=w2.drawn + 1 }:=.drawn
 have hpl:=prow_len (j:=j) hfl hj
 have hRi:=hM2.row i b _ hb hs1
 have hRk:=hM2.row k bk _ hbk hs2
 have hxk:=hRk.cell (getD_some (l:=rk) (i:=j) (by omega))
 iterate 4 (any_goals (first
 | (with_reducible refine yL ?_)
 | ((with_reducible refine oM_gen fun Kv hK=>?_); simp [go_sem,hxk,hjz]; refine hK _ _ ?_; clear hK Kv)))
 have hM9:=hM2.next hb9
 have h9:Fr (Bk bs) w { w2 with drawn:=w2.drawn + 1 }:=h2.trans (S':=fun _=>False) (Fr.of_below' hb9) (fun _ h=>h.elim)
 refine ⟨Nx { w2 with drawn:=w2.drawn + 1 },Below.refl _ _,rfl,?_⟩
 generalize ({ w2 with drawn:=w2.drawn + 1 }:World) = W9 at hM9 h9 ⊢
 clear hM2 h2 hRi hRk hxk hb9
 have hRi:=hM9.row i b _ hb hs1
 have hm9:Holds W9 mp 176 (mtC q (.slice (some ⟨g,0,none⟩) m.length c) cols):=(h9.block mp hm.lt hmb).trans hm
 have x1:=getD_some (l:=prow full r j) (i:=j) (by omega)
 rw [prow_get hfl hjl] at x1
 repeat (any_goals (first
 | (with_reducible refine pureH_in ?_)
 | ((with_reducible refine idOH ?_); first|(with_reducible refine oH_nil ?_)|(with_reducible refine oH_of ⟨_,rfl⟩ (fun W0 hW0=>by (refine oM_gen (fun Kv hK=>?_)); simp [go_sem,(hm9.next hW0).cell 0 (by simp),(hRi.next hW0).cell x1,hjr]; (first | exact hK _ _ ⟨rfl,rfl⟩ | exact ⟨by omega,hK _ _ ⟨rfl,rfl⟩⟩)) ?_))))
 refine ⟨Nx,?_⟩
 apply monoE
 ·intro w5 h5
  exact Mul_ok _ _ _ (fun w6 h6=>⟨h5.on h6,h6,rfl⟩)
 apply monoE
 ·rintro w5 h5 _ rfl
  exact Sub_ok _ _ _ ⟨h5,Below.refl _ _,rfl⟩
 rintro w10 h10 _ rfl _ rfl
 repeat (any_goals ((with_reducible refine oM_gen fun Kv hK=>?_); simp [go_sem,hjr]; refine hK _ _ ?_; clear hK Kv))
 have hv:=hfg j hjl
 simp only [List.getD_eq_getElem?_getD] at hv
 rw [← hv]
 refine (hM9.next h10).set (i:=i) (j:=j) hb hs1 (by omega) (fun W12 hg12 hM12=>?_)
 have e:((part q m k col i).set i (prow full r j)).set i ((prow full r j).set j ((full[j]?).getD 0)) = (part q m k col i).set i (prow full r (j + 1)):=by
  rw [List.set_set,← prow_succ hfl hjl,List.getD_eq_getElem?_getD]
 rw [e] at hM12
 have h12:Fr (Bk bs) w W12:=(h9.trans (S':=fun _=>False) (Fr.of_below' h10) (fun _ h=>h.elim)).by hg12 (fun i e=>.inl (by cases e; exact Bk.of hb))
 repeat (any_goals ((with_reducible refine oM_gen fun Kv hK=>?_); simp [go_sem]; (try simp (disch:=omega) only [wrapI64,wrapU8,wrapU32,wrapU64]); refine hK _ _ ?_; clear hK Kv))
 exact ⟨⟨h12,_,_,j + 1,rfl,by omega,hM12⟩,by show r.length - (((j + 1:Nat):Int)).toNat < r.length - ((j:Nat):Int).toNat; omega⟩
end
end Go.Proofs
namespace Go.Proofs
open Go Go.Sh Go.RowKit FdSpec TkSpec CodeSpec PrSpec FdPoly LinLaw
section
variable {K:Value → World → Prop} {w w' w0 W W':World} {L:List (Addr × Value)} {g n B c o mp cols:Nat} {bs:List (Nat × Nat)} {m:List (List Int)} {q:Int}
def RmJ (q x:Int) (B g c k:Nat) (r:List Int) (m:List (List Int)) (S:Nat → Prop) (bs:List (Nat × Nat)) (w0:World) (vs:List Value) (W:World):Prop:=Fr S w0 W ∧ ∃ (u0 u1:Value) (j:Nat),vs = [u0,u1,.int .i64 (j:Int)] ∧ j ≤ r.length ∧ MatB W B g c bs (m.set k (prow (rowMul q r x) r j))
theorem rowMul_len {r:List Int} {x:Int}:(rowMul q r x).length = r.length:=by simp [rowMul]
theorem rowMul_get {r:List Int} {x:Int} {j:Nat} (hj:j < r.length):(rowMul q r x).getD j 0 = mulM q (r.getD j 0) x:=by
 unfold rowMul
 rw [List.getD_eq_getElem?_getD,List.getElem?_map,getD_some hj]
 rfl
def pvI (pv:List Nat):List Int:=pv.map fun n=>((n:Nat):Int)
structure RdN (q:Int) (n B g c cols:Nat) (R:Mat × List Nat) (S:Nat → Prop) (M:Nat) (w0:World) (v:Value) (col:Nat) (W:World) (m:List (List Int)) (pv:List Nat) (bs:List (Nat × Nat)):Prop where
 fr:Fr S w0 W
 len:m.length = M
 rows:∀ r ∈ m,r.length = n
 pl:pv.length ≤ M
 pc:pv.length ≤ col
 red:reduceM (invO q) q (List.range' col (cols - col)) m pv = R
 own:OwnI W w0.heap.size v (pvI pv)
 mat:MatB W B g c bs m
 blk:∀ i,BkG g bs i → S i ∧ i < w0.heap.size
def RdJ (q:Int) (n B g c cols:Nat) (R:Mat × List Nat) (S:Nat → Prop) (M:Nat) (w0:World) (vs:List Value) (W:World):Prop:=
 ∃ (u0 u1 u2 u3 u4 u5 v:Value) (col:Nat) (m:List (List Int)) (pv:List Nat) (bs:List (Nat × Nat)),vs = [u0,u1,u2,u3,u4,u5,v,.int .i64 (col:Int)] ∧ col ≤ cols ∧ RdN q n B g c cols R S M w0 v col W m pv bs
theorem swap_rows {m:List (List Int)} {i j:Nat} (h:∀ r ∈ m,r.length = n) (hi:i < m.length) (hj:j < m.length):∀ r ∈ swapM m i j,r.length = n:=by
 intro r hr
 unfold swapM at hr
 rcases List.mem_or_eq_of_mem_set hr with hr | rfl
 ·rcases List.mem_or_eq_of_mem_set hr with hr | rfl
  ·exact h r hr
  ·exact h _ (getD_mem hj)
 ·exact h _ (getD_mem hi)
theorem clear_rows {m:List (List Int)} {k col:Nat} (h:∀ r ∈ m,r.length = n) (hk:k < m.length):∀ r ∈ clearM q m k col,r.length = n:=by
 intro r hr
 obtain ⟨i,hi⟩:=List.getElem?_of_mem hr
 unfold clearM at hi
 rw [List.getElem?_mapIdx] at hi
 obtain ⟨x,hx,rfl⟩:=Option.map_eq_some_iff.1 hi
 have hxl:=h x (List.mem_of_getElem? hx)
 split
 ·exact hxl
 ·rw [rowSub_len (by rw [hxl,h _ (getD_mem hk)])]; exact hxl
theorem hds_drop (k:Nat):(hds bs m).drop k = hds (bs.drop k) (m.drop k):=by
 unfold hds
 rw [← List.map_drop,List.zip_eq_zipWith,List.drop_zipWith,← List.zip_eq_zipWith]
theorem find_drop {k:Nat} {f:List Int → Bool} {d:Nat} (h:(m.drop k).findIdx? f = some d):k + d < m.length ∧ f (m.getD (k + d) []) = true:=by
 obtain ⟨hi,hp,_⟩:=List.findIdx?_eq_some_iff_getElem.1 h
 rw [List.length_drop] at hi
 refine ⟨by omega,?_⟩
 rw [List.getElem_drop] at hp
 rw [List.getD_eq_getElem?_getD,List.getElem?_eq_getElem (by omega)]
 exact hp
theorem alloc_int {T1 T2:TypeId} {x:Int} (k:∀ cb W,Below w.heap.size w W → w.heap.size ≤ cb → Holds W cb 3 [.int .i64 x] → K (.pointer (some ⟨cb,0,none⟩)) W) :
  oM Tryz.prog (.alloc 3) T1 [] (fun v w=>oM Tryz.prog (.store 3 (.tmp 0) (.tmp 1)) T2 [v,.int .i64 x] (fun _ w=>K v w) w) w:=
 arr_alloc al_int (fun g W h1 hg hH=>arr_store sz_int1 rfl rfl (by intro u hu; rw [List.mem_singleton] at hu; subst hu; rfl) hH rfl (fun W2 hgr hH2=>k g W2 (h1.grown hgr h1.size (fun i e=>by cases e; exact hg)) hg hH2))
theorem range_cons {col cols:Nat} (h:col < cols):List.range' col (cols - col) = col :: List.range' (col + 1) (cols - (col + 1)):=by
 rw [show cols - col = cols - (col + 1) + 1 by omega,List.range'_succ]
theorem fr_own {S:Nat → Prop} {v:Value} {l:List Int} {B:Nat} (h:OwnI W B v l) (hf:Fr S W W') (hS:∀ i,S i → i < B):OwnI W' B v l:=
 owns_keep h (fun i hi=>hf.block i (owns_own h hi).1 (fun hs=>by have:=(owns_own h hi).2.1; have:=hS i hs; omega))
theorem RdN.skip {R:Mat × List Nat} {S:Nat → Prop} {M col:Nat} {v:Value} {pv:List Nat} (h:RdN q n B g c cols R S M w0 v col W m pv bs) (hc:col < cols) (hb:Below W.heap.size W W')
  (hf:(m.drop pv.length).findIdx? (fun r=>decide (r.getD col 0 ≠ 0)) = none):RdN q n B g c cols R S M w0 v (col + 1) W' m pv bs:=by
 have hr:=h.red
 rw [range_cons hc,reduceM] at hr
 have e:colM (invO q) q m pv col = (m,pv):=by unfold colM; rw [hf]
 rw [e] at hr
 exact ⟨h.fr.trans (S':=fun _=>False) (Fr.of_below' hb) (fun _ h=>h.elim),h.len,h.rows,h.pl,Nat.le_succ_of_le h.pc,hr,h.own.keep hb,h.mat.next hb,h.blk⟩
theorem MatB.from {T:TypeId} (h:MatB w B g c bs m) {k:Nat} (hk:k ≤ m.length) (hK:∀ o c',Hst w g o (hds (bs.drop k) (m.drop k)) → K (.slice (some ⟨g,o,none⟩) (m.drop k).length c') w) :
  oM Tryz.prog (.slice 30 (.tmp 0) (some (.tmp 1)) none none) T [.slice (some ⟨g,0,none⟩) m.length c,.int .i64 (k:Int)] K w:=by
 have hl:=hds_len h.len
 have e:(hds bs m).length = m.length:=hl
 rw [← e]
 refine rows_from h.hd (by omega) (fun o c' hs=>?_)
 rw [hds_drop] at hs ⊢
 rw [hds_len (by simp [h.len])]
 exact hK o c' hs
set_option maxHeartbeats 4000000 in
theorem reduce_ok {m0:List (List Int)} {bs0:List (Nat × Nat)} (hm:Holds w mp 176 (mtC q (.slice (some ⟨g,0,none⟩) m0.length c) cols)) (hM:MatB w B g c bs0 m0) (hmb:¬ BkG g bs0 mp) (hn:∀ r ∈ m0,r.length = cols + 1) (hl:m0.length ≤ 64) (hcl:cols ≤ 64)
  (hK:∀ w' v bs',Fr (BkG g bs0) w w' → MatB w' B g c bs' (reduceM (invO q) q (List.range' 0 cols) m0 []).1 → (∀ i,BkG g bs' i → BkG g bs0 i) → (reduceM (invO q) q (List.range' 0 cols) m0 []).1.length = m0.length →
   (∀ r ∈ (reduceM (invO q) q (List.range' 0 cols) m0 []).1,r.length = cols + 1) → (reduceM (invO q) q (List.range' 0 cols) m0 []).2.length ≤ m0.length → OwnI w' w.heap.size v (pvI (reduceM (invO q) q (List.range' 0 cols) m0 []).2) → K v w') :
  callM Tryz.prog 155 #[.pointer (some ⟨mp,0,none⟩)] K w:=by
 apply sh_155_ok
 unfold sh_155
 have a2:=hm.cell 2 (by simp)
 simp only [List.getElem_cons_succ,List.getElem_cons_zero] at a2
 repeat (any_goals ((with_reducible refine oM_gen fun Kv hK=>?_); simp [go_sem,a2]; refine hK _ _ ?_; clear hK Kv))
 refine ⟨RdJ q (cols + 1) B g c cols (reduceM (invO q) q (List.range' 0 cols) m0 []) (BkG g bs0) m0.length w,(fun vs _=>match vs with | [_,_,_,_,_,_,_,.int _ i]=>cols - i.toNat | _=>0),
  ⟨_,_,_,_,_,_,_,0,m0,[],bs0,rfl,by omega,⟨Fr.refl _ _,rfl,hn,by simp,by simp,rfl,own_none,hM,fun i hi=>⟨hi,(hM.blk i hi).2⟩⟩⟩,?_⟩
 generalize hR:reduceM (invO q) q (List.range' 0 cols) m0 [] = R at *
 generalize hMl:m0.length = M at *
 generalize hS:BkG g bs0 = S at *
 clear a2 hM hn
 rintro _ _ w1 ⟨u0,u1,u2,u3,u4,u5,v,col,m,pv,bs,rfl,hcc,hN⟩
 by_cases hin:col = cols
 ·repeat (any_goals (first
  | (with_reducible refine yO ?_)
  | ((with_reducible refine oM_gen fun Kv hK=>?_); simp [go_sem]; refine hK _ _ ?_; clear hK Kv)))
  subst hin
  have hr:=hN.red
  rw [Nat.sub_self] at hr
  have hr':(m,pv) = R:=hr
  subst hr'
  exact hK _ _ _ hN.fr hN.mat (fun i hi=>(hN.blk i hi).1) hN.len hN.rows hN.pl hN.own
 have hlt:col < cols:=by omega
 have hltZ:(col:Int) < cols:=by omega
 repeat (any_goals (first
 | (with_reducible refine yL ?_)
 | ((with_reducible refine oM_gen fun Kv hK=>?_); simp [go_sem,hltZ]; refine hK _ _ ?_; clear hK Kv)))
 refine ⟨fun l W=>∃ x0 x1 x2 x3 x4 x5 v m pv bs,l = [x0,x1,x2,x3,x4,x5,v] ∧ RdN q (cols + 1) B g c cols R S M w v (col + 1) W m pv bs,?_,?_⟩
 rotate_left
 ·rintro _ _ W ⟨x0,x1,x2,x3,x4,x5,v',m',pv',bs',rfl,hN'⟩
  repeat (any_goals ((with_reducible refine oM_gen fun Kv hK=>?_); simp [go_sem]; (try simp (disch:=omega) only [wrapI64,wrapU8,wrapU32,wrapU64]); refine hK _ _ ?_; clear hK Kv))
  exact ⟨⟨_,_,_,_,_,_,_,col + 1,m',pv',bs',rfl,by omega,hN'⟩,by show cols - (((col + 1:Nat):Int)).toNat < cols - ((col:Nat):Int).toNat; omega⟩
 refine alloc_int (fun cb w2 h2 hcb hC2=>?_)
 have hml:=hN.len
 have hpl:=hN.pl
 have hm2:Holds w2 mp 176 (mtC q (.slice (some ⟨g,0,none⟩) M c) cols):=(h2.block mp (Nat.lt_of_lt_of_le hm.lt hN.fr.size)).trans ((hN.fr.block mp hm.lt hmb).trans hm)
 have hM2:=hN.mat.next h2
 have hvl:∃ ad vc,v = .slice ad (pvI pv).length vc:=owns_len hN.own
 have hpi:(pvI pv).length = pv.length:=by simp [pvI]
 rw [hpi] at hvl
 obtain ⟨vad,vc,rfl⟩:=hvl
 have d1:=hm2.cell 1 (by simp)
 simp only [List.getElem_cons_succ,List.getElem_cons_zero] at d1
 repeat (any_goals ((with_reducible refine oM_gen fun Kv hK=>?_); simp [go_sem,d1]; refine hK _ _ ?_; clear hK Kv))
 subst hml
 refine hM2.from hpl (fun o c' hst=>?_)
 repeat (any_goals ((with_reducible refine oM_gen fun Kv hK=>?_); simp [go_sem]; refine hK _ _ ?_; clear hK Kv))
 refine IndexRows_ok (fun r=>decide (r.getD col 0 ≠ 0)) (hds_len (by simp [hM2.len])) (by rw [List.length_drop]; omega) hst ?_ (fun w3 h3=>?_)
 ·intro w' i x r K' T hb hx hr hk'
  have hri:i < (m.drop pv.length).length:=(List.getElem?_eq_some_iff.1 hr).1
  have hb0:(bs.drop pv.length)[i]? = some ((bs.drop pv.length)[i]'(by rw [List.length_drop,hM2.len,← List.length_drop]; exact hri)):=List.getElem?_eq_getElem _
  rw [hds_get hb0 hr] at hx
  cases hx
  rw [List.getElem?_drop] at hb0 hr
  refine oM_callv1 (by kernel_rfl) ?_
  exact row1_ok ((hM2.next hb).row _ _ _ hb0 hr) ((hC2.next hb).cell 0 (by simp)) (by rw [hN.rows r (List.mem_of_getElem? hr)]; omega) (hk' _ (Below.refl _ _))
 have hM3:=hM2.next h3
 have hm3:=hm2.next h3
 have hC3:=hC2.next h3
 cases hfd:(m.drop pv.length).findIdx? (fun r=>decide (r.getD col 0 ≠ 0)) with
 | none=>
  have e:fnd none = -1:=rfl
  rw [e]
  repeat (any_goals (first
  | (with_reducible refine yL ?_)
  | ((with_reducible refine oM_gen fun Kv hK=>?_); simp [go_sem]; refine hK _ _ ?_; clear hK Kv)))
  exact ⟨_,_,_,_,_,_,_,m,pv,bs,rfl,hN.skip hlt (h2.on h3) hfd⟩
 | some d=>
 have e:fnd (some d) = (d:Int):=rfl
 rw [e]
 have hd:=find_drop hfd
 have hneg:¬ (d:Int) < 0:=by omega
 repeat (any_goals (first
 | (with_reducible refine yM ?_)
 | ((with_reducible refine oM_gen fun Kv hK=>?_); simp [go_sem,hneg]; refine hK _ _ ?_; clear hK Kv)))
 have hF3:Fr S w w3:=hN.fr.trans (S':=fun _=>False) (Fr.of_below' (h2.on h3)) (fun _ h=>h.elim)
 have hOw3:=(hN.own.keep h2).keep h3
 have hb4:Below w3.heap.size w3 { w3 with drawn:=w3.drawn + 1 }:=.drawn
 have hM4:=hM3.next hb4
 have hm4:=hm3.next hb4
 have hC4:=hC3.next hb4
 have hF4:Fr S w { w3 with drawn:=w3.drawn + 1 }:=hF3.trans (S':=fun _=>False) (Fr.of_below' hb4) (fun _ h=>h.elim)
 have hOw4:=hOw3.keep hb4
 have hcb4:w.heap.size ≤ cb:=Nat.le_trans hN.fr.size hcb
 have ek:m[pv.length]? = some (m.getD pv.length []):=by rw [List.getD_eq_getElem?_getD,List.getElem?_eq_getElem (by omega)]; rfl
 have ed:m[pv.length + d]? = some (m.getD (pv.length + d) []):=by rw [List.getD_eq_getElem?_getD,List.getElem?_eq_getElem (by omega)]; rfl
 obtain ⟨b,hb,hcb,hRb,hbg⟩:=hM4.get ek
 obtain ⟨b',hb',hcb',hRb',hbg'⟩:=hM4.get ed
 have a1:=hm4.cell 1 (by simp)
 simp only [List.getElem_cons_succ,List.getElem_cons_zero] at a1
 have hkZ:(pv.length:Int) < m.length:=by omega
 have hkdZ:(pv.length:Int) + d < m.length:=by omega
 have hwr:IntKind.i64.wrap ((pv.length:Int) + (d:Int)) = ((pv.length + d:Nat):Int):=by rw [wrapI64] <;> omega
 have hkdZ':((pv.length + d:Nat):Int) < m.length:=by omega
 obtain ⟨kd,hkd⟩:∃ kd,kd = pv.length + d:=⟨_,rfl⟩
 rw [← hkd] at hwr hkdZ' hcb' ed hb' hRb'
 unfold hdr at hcb hcb'
 refine ⟨fun sg W=>sg ≤ 0 → (W.cell? ⟨mp,1,none⟩ = some (.slice (some ⟨g,0,none⟩) m.length c) ∧ W.cell? ⟨g,pv.length,none⟩ = some (.slice (some ⟨b.1,0,none⟩) (m.getD pv.length []).length b.2) ∧ W.cell? ⟨g,kd,none⟩ = some (.slice (some ⟨b'.1,0,none⟩) (m.getD kd []).length b'.2)),fun _=>⟨a1,hcb,hcb'⟩,?_⟩
 generalize ({ w3 with drawn:=w3.drawn + 1 }:World) = W4 at *
 iterate 11 (first | (with_reducible refine pureH_in ?_) | (with_reducible refine oH_nil ?_) | (with_reducible refine gdH_true rfl ?_) | (with_reducible refine gdH_false rfl ?_) | (refine oH_of ⟨_,rfl⟩ (fun W0 hW0=>by (obtain ⟨s0,hs0,hC⟩:=hW0); (have hsk:s0 ≤ 0:=by omega); (refine oM_gen (fun Kv hK=>?_)); simp [go_sem,(hC hsk).1,(hC hsk).2.1,(hC hsk).2.2,hkZ,hwr,hkdZ']; (first | exact hK _ _ ⟨rfl,rfl⟩ | exact ⟨by omega,hK _ _ ⟨rfl,rfl⟩⟩)) ?_))
 iterate 1 (first | (with_reducible refine pureH_in ?_) | (with_reducible refine oH_nil ?_) | (with_reducible refine gdH_true rfl ?_) | (with_reducible refine gdH_false rfl ?_) | (refine oH_of ⟨_,rfl⟩ (fun W0 hW0=>by (obtain ⟨s0,hs0,hC⟩:=hW0); (have hsk:s0 ≤ 1:=by omega); (refine oM_gen (fun Kv hK=>?_)); simp [go_sem,hwr]; (first | exact hK _ _ ⟨rfl,rfl⟩ | exact ⟨by omega,hK _ _ ⟨rfl,rfl⟩⟩)) ?_))
 repeat (first | (with_reducible refine pureH_in ?_) | (with_reducible refine oH_nil ?_) | (with_reducible refine gdH_true rfl ?_) | (with_reducible refine gdH_false rfl ?_) | (refine oH_of ⟨_,rfl⟩ (fun W0 hW0=>by (obtain ⟨s0,hs0,hC⟩:=hW0); (have hsk:s0 ≤ 0:=by omega); (refine oM_gen (fun Kv hK=>?_)); simp [go_sem,(hC hsk).1,(hC hsk).2.1,(hC hsk).2.2,hkZ,hwr,hkdZ']; (first | exact hK _ _ ⟨rfl,rfl⟩ | exact ⟨by omega,hK _ _ ⟨rfl,rfl⟩⟩)) ?_))
 have hl4:=hds_len (m:=m) hM4.len
 refine hM4.hd.set (i:=pv.length) (by rw [hl4]; omega) (fun W5 hg5 h5=>⟨fun hh=>absurd hh (by decide),?_⟩)
 repeat (any_goals (first
 | (refine ⟨fun hh=>absurd hh (by decide),?_⟩)
 | ((with_reducible refine oM_gen fun Kv hK=>?_); simp [go_sem,hkdZ']; refine hK _ _ ?_; clear hK Kv)))
 refine h5.set (i:=kd) (by rw [List.length_set,hl4]; omega) (fun W6 hg6 h6=>⟨fun hh=>absurd hh (by decide),?_⟩)
 obtain ⟨hf6,hM6⟩:=hM4.swapped hb ek hb' ed hg5 hg6 h6
 clear h5 h6 hg5 hg6 hcb hcb' hRb hRb' a1
 have hcbg:cb ≠ g:=fun e=>by have:=(hN.blk g (.inl rfl)).2; omega
 have hm6:Holds W6 mp 176 (mtC q (.slice (some ⟨g,0,none⟩) m.length c) cols):=holds_fr hm4 hf6 (fun e=>hmb (by rw [e]; exact (hN.blk g (.inl rfl)).1))
 have hC6:Holds W6 cb 3 [.int .i64 (col:Int)]:=holds_fr hC4 hf6 hcbg
 have hsg:S g:=(hN.blk g (.inl rfl)).1
 have hF6:Fr S w W6:=hF4.trans hf6 (fun i e=>.inl (by rw [e]; exact hsg))
 have hOw6:OwnI W6 w.heap.size (.slice vad pv.length vc) (pvI pv):=fr_own hOw4 hf6 (fun i e=>by rw [e]; exact (hN.blk g (.inl rfl)).2)
 have hm1l:(swapM m pv.length kd).length = m.length:=swap_len _ _ _
 have hm1r:=swap_rows hN.rows (i:=pv.length) (j:=kd) (by omega) (by omega)
 have hbk1:∀ i,BkG g ((bs.set pv.length b').set kd b) i → BkG g bs i:=by
  rintro i (h | ⟨x,hx,e⟩)
  ·exact .inl h
  ·exact .inr ⟨x,(set_perm hb hb' x).1 hx,e⟩
 have hsw:colM (invO q) q m pv col = (clearM q ((swapM m pv.length kd).set pv.length (rowMul q ((swapM m pv.length kd).getD pv.length []) (invO q (((swapM m pv.length kd).getD pv.length []).getD col 0)))) pv.length col,pv ++ [col]):=by
  unfold colM
  rw [hfd,hkd]
 generalize (bs.set pv.length b').set kd b = bs1 at *
 generalize swapM m pv.length kd = m1 at *
 have e1:m1[pv.length]? = some (m1.getD pv.length []):=by rw [List.getD_eq_getElem?_getD,List.getElem?_eq_getElem (by omega)]; rfl
 have hrl:=hm1r _ (List.mem_of_getElem? e1)
 generalize m1.getD pv.length [] = rp at *
 have hmx:¬ BkG g bs1 mp:=fun h=>hmb (hN.blk mp (hbk1 mp h)).1
 have hcx:¬ BkG g bs1 cb:=fun h=>by have:=(hN.blk cb (hbk1 cb h)).2; omega
 have hb7:Below W6.heap.size W6 { W6 with drawn:=W6.drawn + 1 }:=.drawn
 have hM7:=hM6.next hb7
 have hm7:=hm6.next hb7
 have hC7:=hC6.next hb7
 have hF7:Fr S w { W6 with drawn:=W6.drawn + 1 }:=hF6.trans (S':=fun _=>False) (Fr.of_below' hb7) (fun _ h=>h.elim)
 have hOw7:=hOw6.keep hb7
 refine ⟨Nx { W6 with drawn:=W6.drawn + 1 },Below.refl _ _,rfl,?_⟩
 generalize ({ W6 with drawn:=W6.drawn + 1 }:World) = W7 at hM7 hm7 hC7 hF7 hOw7 ⊢
 clear hM6 hm6 hC6 hF6 hOw6 hb7 hf6
 obtain ⟨bp,hbp,hcp,hRp,_⟩:=hM7.get e1
 unfold hdr at hcp
 have x0:=getD_some (l:=rp) (i:=col) (by omega)
 have hcolZ:(col:Int) < rp.length:=by omega
 have a0:=hm7.cell 0 (by simp)
 have a1:=hm7.cell 1 (by simp)
 have ac:=hC7.cell 0 (by simp)
 simp only [List.getElem_cons_succ,List.getElem_cons_zero] at a0 a1 ac
 repeat (any_goals (first
 | (with_reducible refine pureH_in ?_)
 | ((with_reducible refine idOH ?_); first|(with_reducible refine oH_nil ?_)|(with_reducible refine oH_of ⟨_,rfl⟩ (fun W0 hW0=>by (refine oM_gen (fun Kv hK=>?_)); simp [go_sem,(hW0.cell hm7.lt).trans a0,(hW0.cell hm7.lt).trans a1,(hW0.cell hC7.lt).trans ac,(hW0.cell hM7.hd.lt).trans hcp,(hRp.next hW0).cell x0,hkZ,hcolZ]; (first | exact hK _ _ ⟨rfl,rfl⟩ | exact ⟨by omega,hK _ _ ⟨rfl,rfl⟩⟩)) ?_))))
 refine ⟨Nx,?_⟩
 apply monoE
 ·intro w5 h5
  exact Inv_ok _ _ (fun w6 h6=>⟨h5.on h6,h6,rfl⟩)
 repeat (apply monoE; focus (intro w9 h9; (repeat (intro v9 e9; try (obtain rfl:=e9))); (repeat (any_goals ((with_reducible refine oM_gen fun Kv hK=>?_); simp [go_sem]; refine hK _ _ ?_; clear hK Kv))); exact ⟨h9,Below.refl _ _,rfl⟩))
 (intro w9 h9; repeat (intro v9 e9; try (obtain rfl:=e9)))
 have hM9:=hM7.next h9
 have hm9:=hm7.next h9
 have hC9:=hC7.next h9
 have hF9:Fr S w w9:=hF7.trans (S':=fun _=>False) (Fr.of_below' h9) (fun _ h=>h.elim)
 have hOw9:=hOw7.keep h9
 have b1:=hm9.cell 1 (by simp)
 simp only [List.getElem_cons_succ,List.getElem_cons_zero] at b1
 repeat (any_goals ((with_reducible refine oM_gen fun Kv hK=>?_); simp [go_sem,b1,(h9.cell hM7.hd.lt).trans hcp,hkZ]; refine hK _ _ ?_; clear hK Kv))
 generalize hxx:(invM q (rp[col]?.getD 0)).getD 0 = iv
 generalize (invM q (rp[col]?.getD 0)).isSome = isv
 have hxi:invO q (rp.getD col 0) = iv:=by rw [← hxx]; unfold invO; rw [List.getD_eq_getElem?_getD]
 rw [hxi] at hsw
 clear hxx hxi h9 hm7 hM7 hC7 hF7 hOw7 b1
 refine ⟨RmJ q iv B g c pv.length rp m1 (Bk bs1) bs1 w9,(fun vs _=>match vs with | [_,_,.int _ j]=>rp.length - j.toNat | _=>0),⟨Fr.refl _ _,_,_,0,rfl,by omega,by
  rw [prow_zero]
  have:m1.set pv.length rp = m1:=by
   apply List.ext_getElem?
   intro t
   rw [List.getElem?_set]
   by_cases hti:pv.length = t
   ·subst hti; rw [if_pos rfl,if_pos (by omega),e1]
   ·rw [if_neg hti]
  rw [this]
  exact hM9⟩,?_⟩
 rintro _ _ wa ⟨hFa,y0,y1,j,rfl,hj,hMa⟩
 have hkm:pv.length < m1.length:=by omega
 have hr1:(m1.set pv.length (prow (rowMul q rp iv) rp j))[pv.length]? = some (prow (rowMul q rp iv) rp j):=by rw [List.getElem?_set_self hkm]
 have hfl:(rowMul q rp iv).length = rp.length:=rowMul_len
 have hbm:∀ i,Bk bs1 i → i < w.heap.size:=fun i hi=>(hN.blk i (hbk1 i (.inr hi))).2
 have hbs:∀ i,Bk bs1 i → S i:=fun i hi=>(hN.blk i (hbk1 i (.inr hi))).1
 have hma:=holds_fr hm9 hFa (fun h=>hmx (.inr h))
 have hCa:=holds_fr hC9 hFa (fun h=>hcx (.inr h))
 have hOwa:=fr_own hOw9 hFa hbm
 have hFwa:Fr S w wa:=hF9.trans hFa (fun i hi=>.inl (hbs i hi))
 by_cases hjn:j = rp.length
 ·have hjz:¬ (j:Int) < rp.length:=by omega
  rw [hjn,prow_all hfl] at hMa
  have ac:=hCa.cell 0 (by simp)
  simp only [List.getElem_cons_succ,List.getElem_cons_zero] at ac
  repeat (any_goals (first
  | (with_reducible refine yM ?_)
  | ((with_reducible refine oM_gen fun Kv hK=>?_); simp [go_sem,hjz,ac]; refine hK _ _ ?_; clear hK Kv)))
  have hm2l:(m1.set pv.length (rowMul q rp iv)).length = m.length:=by rw [List.length_set]; exact hm1l
  have hm2r:∀ r ∈ m1.set pv.length (rowMul q rp iv),r.length = cols + 1:=fun r hr=>by
   rcases List.mem_or_eq_of_mem_set hr with hr | rfl
   ·exact hm1r r hr
   ·rw [rowMul_len]; exact hrl
  rw [← hm2l] at hma
  refine clear_ok hma hMa (fun h=>hmx (.inr h)) hm2r (by omega) (by omega) (by omega) (by omega) (fun wb hFb hMb=>?_)
  have hCb:=holds_fr hCa hFb (fun h=>hcx (.inr h))
  have hOwb:=fr_own hOwa hFb hbm
  have hFwb:Fr S w wb:=hFwa.trans hFb (fun i hi=>.inl (hbs i hi))
  have bc:=hCb.cell 0 (by simp)
  simp only [List.getElem_cons_succ,List.getElem_cons_zero] at bc
  iterate 1 (any_goals ((with_reducible refine oM_gen fun Kv hK=>?_); simp [go_sem,bc]; refine hK _ _ ?_; clear hK Kv))
  refine mk1 (col:Int) (by unfold I64; omega) (fun xv wc hc hx=>?_)
  have hpl2:(pvI pv).length = pv.length:=by simp [pvI]
  refine append1 (hOwb.keep hc) (Nat.le_trans hFwb.size hc.size) hx (by omega) (fun v' wd hO hd=>?_)
  have hMd:=(hMb.next hc).fr (S:=fun i=>w.heap.size ≤ i) ⟨hd.os,hd.tape,hd.output,hd.size,fun i hi hn=>hd.block i (by omega)⟩ (fun i hi=>by have:=(hN.blk i (hbk1 i hi)).2; omega)
  have hFd:Fr S w wd:=(hFwb.trans (S':=fun _=>False) (Fr.of_below' hc) (fun _ h=>h.elim)).trans (S':=fun i=>w.heap.size ≤ i) ⟨hd.os,hd.tape,hd.output,hd.size,fun i hi hn=>hd.block i (by omega)⟩ (fun i hi=>.inr hi)
  refine ⟨_,_,_,_,_,_,_,_,pv ++ [col],bs1,rfl,hFd,?_,clear_rows hm2r (by omega),by rw [List.length_append,List.length_singleton]; omega,by have:=hN.pc; rw [List.length_append,List.length_singleton]; omega,?_,?_,hMd,fun i hi=>hN.blk i (hbk1 i hi)⟩
  ·rw [clear_len]; exact hm2l
  ·have hr:=hN.red
   rw [range_cons hlt,reduceM,hsw] at hr
   exact hr
  ·have:pvI (pv ++ [col]) = pvI pv ++ [(col:Int)]:=by simp [pvI]
   rw [this]; exact hO
 have hjl:j < rp.length:=by omega
 have hjz:(j:Int) < rp.length:=by omega
 obtain ⟨bq,hbq,hcq,hRq,_⟩:=hMa.get hr1
 have hpl3:=prow_len (j:=j) hfl hj
 have hbq':bq = bp:=by rw [hbp] at hbq; exact (Option.some.inj hbq).symm
 subst hbq'
 unfold hdr at hcq
 rw [prow_len (j:=j) hfl hj] at hcq
 have x1:=getD_some (l:=prow (rowMul q rp iv) rp j) (i:=j) (by omega)
 rw [prow_get hfl hjl] at x1
 have hx1:=hRq.cell x1
 iterate 4 (any_goals (first
 | (with_reducible refine yL ?_)
 | ((with_reducible refine oM_gen fun Kv hK=>?_); simp [go_sem,hx1,hjz]; refine hK _ _ ?_; clear hK Kv)))
 have hbe:Below wa.heap.size wa { wa with drawn:=wa.drawn + 1 }:=.drawn
 have hMe:=hMa.next hbe
 have hme:=hma.next hbe
 have hFe:Fr (Bk bs1) w9 { wa with drawn:=wa.drawn + 1 }:=hFa.trans (S':=fun _=>False) (Fr.of_below' hbe) (fun _ h=>h.elim)
 have hce:=(hbe.cell hMa.hd.lt).trans hcq
 refine ⟨Nx { wa with drawn:=wa.drawn + 1 },Below.refl _ _,rfl,?_⟩
 generalize ({ wa with drawn:=wa.drawn + 1 }:World) = we at hMe hme hFe hce ⊢
 have b0:=hme.cell 0 (by simp)
 have b1:=hme.cell 1 (by simp)
 simp only [List.getElem_cons_succ,List.getElem_cons_zero] at b0 b1
 repeat (any_goals (first
 | (with_reducible refine pureH_in ?_)
 | ((with_reducible refine idOH ?_); first|(with_reducible refine oH_nil ?_)|(with_reducible refine oH_of ⟨_,rfl⟩ (fun W0 hW0=>by (refine oM_gen (fun Kv hK=>?_)); simp [go_sem,(hW0.cell hme.lt).trans b0,(hW0.cell hme.lt).trans b1,(hW0.cell hMe.hd.lt).trans hce,hkZ]; (first | exact hK _ _ ⟨rfl,rfl⟩ | exact ⟨by omega,hK _ _ ⟨rfl,rfl⟩⟩)) ?_))))
 refine ⟨Nx,?_⟩
 apply monoE
 ·intro w5 h5
  exact Mul_ok _ _ _ (fun w6 h6=>⟨h5.on h6,h6,rfl⟩)
 rintro wf hf _ rfl
 repeat (any_goals ((with_reducible refine oM_gen fun Kv hK=>?_); simp [go_sem,hjz]; refine hK _ _ ?_; clear hK Kv))
 have hv:=rowMul_get (q:=q) (r:=rp) (x:=iv) hjl
 rw [List.getD_eq_getElem?_getD (l:=rp)] at hv
 rw [← hv]
 refine (hMe.next hf).set (i:=pv.length) (j:=j) hbp hr1 (by omega) (fun Wg hgg hMg=>?_)
 rw [List.set_set,prow_succ hfl hjl] at hMg
 have hFg:Fr (Bk bs1) w9 Wg:=(hFe.trans (S':=fun _=>False) (Fr.of_below' hf) (fun _ h=>h.elim)).by hgg (fun i e=>.inl (by cases e; exact Bk.of hbp))
 repeat (any_goals ((with_reducible refine oM_gen fun Kv hK=>?_); simp [go_sem]; (try simp (disch:=omega) only [wrapI64,wrapU8,wrapU32,wrapU64]); refine hK _ _ ?_; clear hK Kv))
 exact ⟨⟨hFg,_,_,j + 1,rfl,by omega,hMg⟩,by show rp.length - (((j + 1:Nat):Int)).toNat < rp.length - ((j:Nat):Int).toNat; omega⟩
end
end Go.Proofs
namespace Go.Proofs
open Go Go.Sh Go.RowKit FdSpec TkSpec CodeSpec PrSpec FdPoly LinLaw
section
variable {K:Value → World → Prop} {w w' w0 W W':World} {L:List (Addr × Value)} {g n B c o mp cols:Nat} {bs:List (Nat × Nat)} {q:Int}
def readM (q:Int) (rows:List (List Int)) (b:List Int):List (List Int):=(rows.zip b).map fun p=>p.1.map (fun x=>x % q) ++ [p.2 % q]
theorem sz_rowsI (w:World):(sizeOf 30).run Tryz.prog w = .ok 1 w:=by kernel_rfl
def ReJ (q:Int) (rows:List (List Int)) (b:List Int) (mp cols:Nat) (w0:World) (vs:List Value) (W:World):Prop:=Below w0.heap.size w0 W ∧ ∃ (u0 u1 u2 u3 u4 u5 v:Value) (i:Nat) (l:List MRw),vs = [u0,u1,u2,u3,u4,u5,.int .i64 (i:Int)] ∧ i ≤ rows.length ∧ l.map (·.2) = (readM q rows b).take i ∧ l.length = i ∧
 Holds W mp 176 (mtC q v cols) ∧ MGrow (mp + 1) W v l
def ResJ (q:Int) (r:List Int) (w0:World) (vs:List Value) (W:World):Prop:=Below w0.heap.size w0 W ∧ ∃ (u v:Value) (j:Nat),vs = [u,v,.int .i64 (j:Int)] ∧ j ≤ r.length ∧ OwnI W w0.heap.size v ((r.map fun x=>x % q).take j)
theorem MGrow.own_lt {v:Value} {l:List MRw} (h:MGrow B w v l):(∀ i,MD l i → i < w.heap.size) ∧ ∀ i,v.ownBlock = some i → i < w.heap.size:=⟨fun i hi=>(h.lt i hi).2.1,fun i hi=>(h.row.own hi).1⟩
set_option maxHeartbeats 4000000 in
theorem read_ok (rows:List (List Int)) (b:List Int) {rv bv:Value} (hr:ListsR w rv rows) (hb:Ints w bv b) (hT:DbT w) (hp:primeM q = true) (h0:rows ≠ []) (hl:rows.length ≤ 64) (hbl:b.length = rows.length) (hn:∀ r ∈ rows,r.length = cols) (hc:cols ≤ 64)
  (k:∀ w' mp g c bs,Below w.heap.size w w' → w.heap.size ≤ mp → Holds w' mp 176 (mtC q (.slice (some ⟨g,0,none⟩) rows.length c) cols) → MatB w' (mp + 1) g c bs (readM q rows b) → K (.tuple #[.pointer (some ⟨mp,0,none⟩),.bool true]) w') :
  callM Tryz.prog 154 #[.int .i64 q,rv,bv] K w:=by
 apply sh_154_ok
 unfold sh_154
 have hr':=hr
 have hb':=hb
 obtain ⟨rad,rc,rfl⟩:=hr.isSlice
 obtain ⟨bad,bc,rfl⟩:=hb.isSlice
 have hq:=prime_okN hp
 have hpos:=List.length_pos_iff.2 h0
 refine Prime_ok q hT (fun w1 h1=>?_)
 rw [hp]
 have hlz:¬ (64:Int) < rows.length:=by omega
 have hbz:(b.length:Int) = rows.length:=by omega
 repeat (any_goals (first
 | (with_reducible first|refine pureM_in ?_|refine zC ?_|refine yC ?_|refine yM ?_)
 | ((with_reducible refine oM_gen fun Kv hK=>?_); simp [go_sem,hlz,hbz]; refine hK _ _ ?_; clear hK Kv)))
 have h2:Below w1.heap.size w1 (w1.alloc (.cells #[.int .i64 q,.slice none 0 0,.int .i64 0] 176)):=(Below.refl _ _).alloc (Nat.le_refl _) _
 have hH2:Holds (w1.alloc (.cells #[.int .i64 q,.slice none 0 0,.int .i64 0] 176)) w1.heap.size 176 [.int .i64 q,.slice none 0 0,.int .i64 0]:=heap_alloc_new w1 _
 obtain ⟨mp,hmp⟩:∃ mp,w1.heap.size = mp:=⟨_,rfl⟩
 obtain ⟨w2,hw2⟩:∃ w2,w1.alloc (.cells #[.int .i64 q,.slice none 0 0,.int .i64 0] 176) = w2:=⟨_,rfl⟩
 rw [hw2] at h2 hH2
 rw [hmp] at hH2
 rw [hw2,hmp]
 have hmp:w1.heap.size ≤ mp:=by omega
 have h12:=h1.on h2
 refine ⟨fun l W=>l = [] ∧ Below w.heap.size w W ∧ Holds W mp 176 (mtC q (.slice none 0 0) cols),?_,?_⟩
 ·obtain ⟨b5,o5,rfl,hlt5,cs5,_,hcell5,v5,rfl,hrow5⟩:=hr'.at (i:=0) hpos
  have c50:=hcell5 0 _ rfl
  simp only [Nat.add_zero,Nat.mul_one] at c50
  have hl0:=hn _ (List.getElem_mem hpos)
  generalize rows[0] = r0 at *
  obtain ⟨ad5,cp5,rfl⟩:=hrow5.isSlice
  have hposZ:(0:Int) < rows.length:=by omega
  repeat (any_goals (first
  | (with_reducible refine yN ?_)
  | ((with_reducible refine oM_gen fun Kv hK=>?_); simp [go_sem,hposZ,(h12.cell hlt5).trans c50]; (first|refine hK _ _ ?_|refine And.intro (by omega) (hK _ _ ?_)); clear hK Kv)))
  refine arr_set sz_int1 rfl rfl hH2 (i:=2) (by simp) (fun w3 hg3 hH3=>?_)
  have h13:Below w.heap.size w w3:=h12.grown hg3 h12.size (fun i e=>by cases e; exact Nat.le_trans h1.size hmp)
  skip
  rw [hl0] at hH3
  exact ⟨rfl,h13,hH3⟩
 rintro _ _ w3 ⟨rfl,h3,hH3⟩
 repeat (any_goals ((with_reducible refine oM_gen fun Kv hK=>?_); simp [go_sem]; refine hK _ _ ?_; clear hK Kv))
 have hmw:w.heap.size ≤ mp:=Nat.le_trans h1.size hmp
 refine ⟨ReJ q rows b mp cols w,(fun vs _=>match vs with | [_,_,_,_,_,_,.int _ i]=>rows.length - i.toNat | _=>0),⟨h3,_,_,_,_,_,_,_,0,[],rfl,by omega,by simp,rfl,hH3,.nil⟩,?_⟩
 clear h3 hH3 hH2 h12 h2 hmp
 rintro _ _ w4 ⟨h4,u0,u1,u2,u3,u4,u5,v,i,l,rfl,hi,hlm,hll,hH4,hG4⟩
 have hrl:(readM q rows b).length = rows.length:=by simp [readM,hbl]
 by_cases hin:i = rows.length
 ·repeat (any_goals (first
  | (with_reducible refine yO ?_)
  | ((with_reducible refine oM_gen fun Kv hK=>?_); simp [go_sem]; refine hK _ _ ?_; clear hK Kv)))
  obtain ⟨g,c,rfl,hM⟩:=hG4.mat (by intro e; rw [e] at hll; simp at hll; omega)
  rw [hlm,hin,List.take_of_length_le (by omega)] at hM
  rw [hll,hin] at hH4
  exact k _ mp g c _ h4 hmw hH4 hM
 have hil:i < rows.length:=by omega
 have hilZ:(i:Int) < rows.length:=by omega
 obtain ⟨b5,o5,rfl,hlt5,cs5,_,hcell5,v5,rfl,hrow5⟩:=hr'.at (i:=i) hil
 have c50:=hcell5 0 _ rfl
 simp only [Nat.add_zero,Nat.mul_one] at c50
 have hri:=hn _ (List.getElem_mem hil)
 have eri:rows[i]? = some rows[i]:=List.getElem?_eq_getElem hil
 obtain ⟨bb,bo,rfl,hbb,hbc,hbr,_⟩:=hb'.at (i:=i) (by omega)
 have hib:i < b.length:=by omega
 have ebi:b[i]? = some b[i]:=List.getElem?_eq_getElem hib
 have hrd:(readM q rows b)[i]? = some (rows[i].map (fun x=>x % q) ++ [b[i] % q]):=by
  unfold readM
  rw [List.getElem?_map]
  have:(rows.zip b)[i]? = some (rows[i],b[i]):=List.getElem?_zip_eq_some.2 ⟨eri,ebi⟩
  rw [this]
  rfl
 generalize rows[i] = r at *
 generalize b[i] = bi at *
 obtain ⟨ad5,cp5,rfl⟩:=hrow5.isSlice
 have a2:=hH4.cell 2 (by simp)
 simp only [List.getElem_cons_succ,List.getElem_cons_zero] at a2
 have hrz:(r.length:Int) = cols:=by omega
 have hcz:¬ (64:Int) < cols:=by omega
 repeat (any_goals (first
 | (with_reducible first|refine pureM_in ?_|refine zC ?_|refine yC ?_|((refine idCond ?_); first|refine yL ?_|refine yM ?_))
 | ((with_reducible refine oM_gen fun Kv hK=>?_); simp [go_sem,hilZ,(h4.cell hlt5).trans c50,a2,hrz,hcz]; refine hK _ _ ?_; clear hK Kv)))
 refine ⟨ResJ q r w4,(fun vs _=>match vs with | [_,_,.int _ j]=>r.length - j.toNat | _=>0),⟨Below.refl _ _,_,_,0,rfl,by omega,own_none⟩,?_⟩
 rintro _ _ w5 ⟨h5,y0,rw_,j,rfl,hj,ho⟩
 have hrow:=hrow5.next (h4.on h5)
 by_cases hjn:¬ j = r.length
 ·obtain ⟨b6,o6,rfl,hlb6,hcell6,hrng6,_⟩:=hrow.at (i:=j) (by omega)
  have ey:r[j]? = some r[j]:=List.getElem?_eq_getElem (by omega)
  have ed:(r.map fun x=>x % q)[j]? = some (r[j] % q):=by rw [List.getElem?_map,ey]; rfl
  generalize r[j] = y at *
  have hjl:(j:Int) < r.length:=by omega
  have hjc:(j:Int) < cols:=by omega
  repeat (any_goals (first
  | (with_reducible refine yL ?_)
  | ((with_reducible refine oM_gen fun Kv hK=>?_); simp [go_sem,hcell6 _ (Below.refl _ _),hjl,hjc]; refine hK _ _ ?_; clear hK Kv)))
  refine residue_ok q y hq ?_
  refine conv_ui hq ?_
  refine mk1 _ (by have a:=Int.emod_nonneg y (show q ≠ 0 by unfold okN at hq; omega); have b:=Int.emod_lt_of_pos y (show 0 < q by unfold okN at hq; omega); unfold okN at hq; unfold I64; omega) (fun v3 w6 h6 hi6=>?_)
  refine append1 (ho.keep h6) (Nat.le_trans h5.size h6.size) hi6 (by simp only [List.length_take]; omega) (fun v4 w7 ho7 h7=>?_)
  repeat (any_goals ((with_reducible refine oM_gen fun Kv hK=>?_); simp [go_sem]; (try simp (disch:=omega) only [wrapI64,wrapU8,wrapU32,wrapU64]); refine hK _ _ ?_; clear hK Kv))
  refine ⟨⟨(h5.on h6).trans h7,_,_,j + 1,rfl,by omega,?_⟩,by show r.length - (((j + 1:Nat):Int)).toNat < r.length - ((j:Nat):Int).toNat; omega⟩
  rw [← take_snoc' ed]
  exact ho7
 have hjn:j = r.length:=by omega
 rw [List.take_of_length_le (by rw [List.length_map]; omega)] at ho
 have hjz:¬ (j:Int) < cols:=by omega
 repeat (any_goals (first
 | (with_reducible refine yM ?_)
 | ((with_reducible refine oM_gen fun Kv hK=>?_); simp [go_sem,hjz]; refine hK _ _ ?_; clear hK Kv)))
 have hb6:Below w5.heap.size w5 { w5 with drawn:=w5.drawn + 1 }:=.drawn
 have h6:=h5.on hb6
 have ho6:=ho.keep hb6
 have hH6:=hH4.next h6
 have hG6:=hG4.next h6
 have hbi6:=hbc _ (h4.on h6)
 obtain ⟨vad,vc,rfl⟩:=hG4.isSlice
 have a1:=hH6.cell 1 (by simp)
 simp only [List.getElem_cons_succ,List.getElem_cons_zero] at a1
 have hibZ:(i:Int) < b.length:=by omega
 refine ⟨fun sg W=>(sg ≤ 5 → W.cell? ⟨mp,1,none⟩ = some (.slice vad l.length vc)) ∧ (sg ≤ 0 → W.cell? ⟨bb,bo + i,none⟩ = some (.int .i64 bi)),⟨fun _=>a1,fun _=>hbi6⟩,?_⟩
 generalize ({ w5 with drawn:=w5.drawn + 1 }:World) = W6 at *
 have no:∀ {W:World} {n:Nat},1 ≤ n → n ≤ 0 → W.cell? ⟨bb,bo + i,none⟩ = some (.int .i64 bi):=fun h1 h2=>by omega
 iterate 5 (first | (with_reducible refine pureH_in ?_) | (with_reducible refine oH_nil ?_) | (with_reducible refine gdH_true rfl ?_) | (with_reducible refine gdH_false rfl ?_) | (refine oH_of ⟨_,rfl⟩ (fun W0 hW0=>by (obtain ⟨s0,hs0,hC⟩:=hW0); (have hsk:s0 ≤ 5:=by omega); (refine oM_gen (fun Kv hK=>?_)); simp [go_sem,hC.1 hsk]; (first | exact hK _ _ ⟨rfl,rfl⟩ | exact ⟨by omega,hK _ _ ⟨rfl,rfl⟩⟩)) ?_))
 repeat (first | (with_reducible refine pureH_in ?_) | (with_reducible refine oH_nil ?_) | (with_reducible refine gdH_true rfl ?_) | (with_reducible refine gdH_false rfl ?_) | (refine oH_of ⟨_,rfl⟩ (fun W0 hW0=>by (obtain ⟨s0,hs0,hC⟩:=hW0); (have hsk:s0 ≤ 0:=by omega); (refine oM_gen (fun Kv hK=>?_)); simp [go_sem,hC.2 hsk,hibZ]; (first | exact hK _ _ ⟨rfl,rfl⟩ | exact ⟨by omega,hK _ _ ⟨rfl,rfl⟩⟩)) ?_))
 refine residue_ok q bi hq ⟨⟨fun _=>a1,no (by omega)⟩,?_⟩
 refine conv_ui hq ⟨⟨fun _=>a1,no (by omega)⟩,?_⟩
 refine mk1 _ (by have a:=Int.emod_nonneg bi (show q ≠ 0 by unfold okN at hq; omega); have b:=Int.emod_lt_of_pos bi (show 0 < q by unfold okN at hq; omega); unfold okN at hq; unfold I64; omega) (fun v3 w7 h7 hi7=>?_)
 have a1:=(h7.cell hH6.lt).trans a1
 refine ⟨⟨fun _=>a1,no (by omega)⟩,?_⟩
 have hmp4:=hH4.lt
 refine append1 (ho6.keep h7) (Nat.le_trans h6.size h7.size) hi7 (by rw [List.length_map]; omega) (fun v4 w8 ho8 h8=>?_)
 have a1:=(h8.cell hmp4).trans a1
 refine ⟨⟨fun _=>a1,no (by omega)⟩,?_⟩
 obtain ⟨ad8,c8,rfl⟩:=owns_len ho8
 refine lit_rowI (fun g9 w9 h9 hg9 hL9=>?_)
 have a1:=(h9.cell (Nat.lt_of_lt_of_le hmp4 (Nat.le_trans h6.size (Nat.le_trans h7.size h8.size)))).trans a1
 refine ⟨⟨fun _=>a1,no (by omega)⟩,?_⟩
 have h49:Below w4.heap.size w4 w9:=((h6.on h7).trans h8).on h9
 have hG9:=hG4.next h49
 have hH9:=hH4.next h49
 have hR0:=RowP.of (ho8.keep h9) (by simp)
 obtain ⟨g8,rfl,hR⟩:=hR0
 have hR':RowP w9 (mp + 1) g8 c8 (r.map (fun x=>x % q) ++ [bi % q]):=⟨hR.cells,hR.le,by have:=hR.base; omega,hR.max⟩
 have hG4l:=hG4.own_lt
 have hRb:=hR.base
 refine hG9.add (b:=(g8,c8)) hR' hL9 (by omega) (fun i hi e=>by have:=hG4l.1 i hi; omega) (fun e=>by have:=hG4l.2 _ e; omega) (fun v' w10 hG10 hg10 hv10=>?_)
 have hvm:∀ i,(Value.slice vad l.length vc).ownBlock = some i → mp + 1 ≤ i:=fun i e=>(hG4.row.own e).2
 have hH10:Holds w10 mp 176 (mtC q (.slice vad l.length vc) cols):=(hg10.block mp hH9.lt (fun e=>by have:=hvm mp (by first | exact e | exact e.symm); omega)).trans hH9
 obtain ⟨ad',c',rfl⟩:=hG10.isSlice
 refine ⟨⟨fun h=>absurd h (by decide),fun h=>absurd h (by decide)⟩,?_⟩
 repeat (any_goals (refine ⟨⟨fun h=>absurd h (by decide),fun h=>absurd h (by decide)⟩,?_⟩))
 refine arr_set sz_rowsI rfl rfl hH10 (i:=1) (by simp) (fun w11 hg11 hH11=>?_)
 refine ⟨⟨fun h=>absurd h (by decide),fun h=>absurd h (by decide)⟩,?_⟩
 have hG11:MGrow (mp + 1) w11 (.slice ad' (l ++ [((g8,c8),r.map (fun x=>x % q) ++ [bi % q])]).length c') (l ++ [((g8,c8),r.map (fun x=>x % q) ++ [bi % q])]):=hG10.fr (Fr.of_by hg11) (fun i e=>.inl (by dsimp only at e; omega))
 have h11:Below w.heap.size w w11:=((h4.on h49).grown hg10 (Nat.le_trans h4.size h49.size) (fun i e=>by have:=hvm i (by first | exact e | exact e.symm); omega)).grown hg11 (Nat.le_trans (Nat.le_trans h4.size h49.size) hg10.size) (fun i e=>by cases e; exact hmw)
 repeat (any_goals ((with_reducible refine oM_gen fun Kv hK=>?_); simp [go_sem]; (try simp (disch:=omega) only [wrapI64,wrapU8,wrapU32,wrapU64]); refine hK _ _ ?_; clear hK Kv))
 refine ⟨⟨h11,_,_,_,_,_,_,_,i + 1,_,rfl,by omega,?_,by rw [List.length_append,hll]; rfl,hH11,hG11⟩,by show rows.length - (((i + 1:Nat):Int)).toNat < rows.length - ((i:Nat):Int).toNat; omega⟩
 rw [List.map_append,hlm,List.take_add_one,hrd]
 rfl
end
end Go.Proofs
namespace Go.Proofs
open Go Go.Sh Go.RowKit FdSpec TkSpec CodeSpec PrSpec FdPoly LinLaw
section
variable {K:Value → World → Prop} {w w' w0 W W':World} {L:List (Addr × Value)} {g n B c o mp cols:Nat} {bs:List (Nat × Nat)} {q:Int}
theorem readM_rows {rows:List (List Int)} {b:List Int} (hn:∀ r ∈ rows,r.length = cols):∀ r ∈ readM q rows b,r.length = cols + 1:=by
 intro r hr
 obtain ⟨⟨x,y⟩,hp,rfl⟩:=List.mem_map.1 hr
 have:=hn x (List.of_mem_zip hp).1
 simp [this]
theorem readM_len {rows:List (List Int)} {b:List Int} (h:b.length = rows.length):(readM q rows b).length = rows.length:=by simp [readM,h]
theorem reduceM_mem (inv:Int → Int):∀ (cs:List Nat) (m:Mat) (pv:List Nat) (p:Nat),p ∈ (reduceM inv q cs m pv).2 → p ∈ pv ∨ p ∈ cs
 | [],m,pv,p,h=>.inl h
 | c :: cs,m,pv,p,h=>by
  rw [reduceM] at h
  rcases reduceM_mem inv cs _ _ p h with h | h
  ·unfold colM at h
   split at h
   ·exact .inl h
   ·rcases List.mem_append.1 h with h | h
    ·exact .inl h
    ·simp only [List.mem_singleton] at h
     subst h
     exact .inr (by simp)
  ·exact .inr (List.mem_cons_of_mem _ h)
theorem Rank_ok (rows:List (List Int)) {rv:Value} (hr:ListsR w rv rows) (hT:DbT w) (hp:primeM q = true) (h0:rows ≠ []) (hl:rows.length ≤ 64) (hn:∀ r ∈ rows,r.length = cols) (hc:cols ≤ 64)
  (k:∀ w',Below w.heap.size w w' → K (.int .i64 (((reduceM (invO q) q (List.range' 0 cols) (readM q rows (List.replicate rows.length 0)) []).2.length:Nat):Int)) w'):callM Tryz.prog 84 #[.int .i64 q,rv] K w:=by
 apply sh_84_ok
 unfold sh_84
 have hr':=hr
 obtain ⟨rad,rc,rfl⟩:=hr.isSlice
 iterate 1 (any_goals ((with_reducible refine oM_gen fun Kv hK=>?_); simp [go_sem]; refine hK _ _ ?_; clear hK Kv))
 refine make_ints (by omega) (fun g1 w1 h1 hg1 hR1=>?_)
 have hz:=hR1.owns.ints (fun x hx=>by rw [List.eq_of_mem_replicate hx]; unfold I64; omega) (by simp; omega)
 rw [List.length_replicate] at hz
 refine read_ok rows (List.replicate rows.length 0) (hr'.next (atOf_stay ints_stay) h1) hz (hT.next h1) hp h0 hl (by simp) hn hc (fun w2 mp g c bs h2 hmp hH2 hM2=>?_)
 repeat (any_goals (first
 | (with_reducible refine yM ?_)
 | ((with_reducible refine oM_gen fun Kv hK=>?_); simp [go_sem]; refine hK _ _ ?_; clear hK Kv)))
 have hrl:=readM_len (q:=q) (rows:=rows) (b:=List.replicate rows.length 0) (by simp)
 rw [← hrl] at hH2
 refine reduce_ok hH2 hM2 (fun hb=>by have:=hM2.blk mp hb; omega) (readM_rows hn) (by omega) hc (fun w3 v bs' hF hM3 hbk _ _ _ hO=>?_)
 have hvl:∃ ad vc,v = .slice ad _ vc:=owns_len hO
 obtain ⟨ad,vc,rfl⟩:=hvl
 repeat (any_goals ((with_reducible refine oM_gen fun Kv hK=>?_); simp [go_sem]; refine hK _ _ ?_; clear hK Kv))
 have:(pvI (reduceM (invO q) q (List.range' 0 cols) (readM q rows (List.replicate rows.length 0)) []).2).length = (reduceM (invO q) q (List.range' 0 cols) (readM q rows (List.replicate rows.length 0)) []).2.length:=by simp [pvI]
 rw [this]
 refine k _ ⟨hF.os.trans (h1.on h2).os,hF.tape.trans (h1.on h2).tape,hF.output.trans (h1.on h2).output,Nat.le_trans (h1.on h2).size hF.size,fun i hi=>?_⟩
 have hs:=(h1.on h2).size
 rw [hF.block i (by omega) (fun hb=>by have:=(hM2.blk i hb).1; have:=h1.size; omega)]
 exact (h1.on h2).block i hi
end
end Go.Proofs
namespace Go.Proofs
open Go Go.Sh Go.RowKit FdSpec TkSpec CodeSpec PrSpec FdPoly LinLaw
section
variable {K:Value → World → Prop} {w w' w0 W W':World} {L:List (Addr × Value)} {g n B c o mp cols:Nat} {bs:List (Nat × Nat)} {q:Int}
def SoJ (R:Mat × List Nat) (cols g2:Nat) (F:List Int) (w0:World) (vs:List Value) (W:World):Prop:=Below w0.heap.size w0 W ∧ ∃ (u0 u1:Value) (i:Nat) (o:List Int),vs = [u0,u1,.int .i64 (i:Int)] ∧ i ≤ R.2.length ∧ RowP W w0.heap.size g2 cols o ∧ o.length = cols ∧ outM R.1 cols i (R.2.drop i) o = F
theorem cons_any {m:Mat} {k n:Nat}:(m.drop k).any (fun r=>decide (r.getD n 0 ≠ 0)) = false ↔ Cons m k n:=by
 rw [List.any_eq_false]
 unfold Cons
 constructor
 ·intro h i hk hi
  have e:m[i]? = some m[i]:=List.getElem?_eq_getElem hi
  have:=h m[i] (List.mem_of_getElem? (i:=i - k) (by rw [List.getElem?_drop,show k + (i - k) = i by omega]; exact e))
  rw [List.getD_eq_getElem?_getD (l:=m),e,Option.getD_some]
  simpa using this
 ·intro h x hx
  obtain ⟨j,hj⟩:=List.getElem?_of_mem hx
  rw [List.getElem?_drop] at hj
  have:=h (k + j) (by omega) (List.getElem?_eq_some_iff.1 hj).1
  rw [List.getD_eq_getElem?_getD (l:=m),hj,Option.getD_some] at this
  simpa using this
theorem pvI_get {pv:List Nat} {i:Nat} {p:Nat} (h:pv[i]? = some p):(pvI pv)[i]? = some (p:Int):=by unfold pvI; rw [List.getElem?_map,h]; rfl
set_option maxHeartbeats 4000000 in
theorem Solve_ok (rows:List (List Int)) (b:List Int) {rv bv:Value} {R:Mat × List Nat} (hRR:reduceM (invO q) q (List.range' 0 cols) (readM q rows b) [] = R) (hr:ListsR w rv rows) (hb:Ints w bv b) (hT:DbT w) (hp:primeM q = true) (h0:rows ≠ []) (hl:rows.length ≤ 64) (hbl:b.length = rows.length) (hn:∀ r ∈ rows,r.length = cols) (hc:cols ≤ 64)
  (k:∀ w' v ok,Below w.heap.size w w' → (ok = true ↔ Cons R.1 R.2.length cols) → (ok = true → OwnI w' w.heap.size v (outM R.1 cols 0 R.2 (List.replicate cols 0))) → K (.tuple #[v,.bool ok]) w'):callM Tryz.prog 83 #[.int .i64 q,rv,bv] K w:=by
 apply sh_83_ok
 unfold sh_83
 refine read_ok rows b hr hb hT hp h0 hl hbl hn hc (fun w2 mp g c bs h2 hmp hH2 hM2=>?_)
 repeat (any_goals (first
 | (with_reducible refine yM ?_)
 | ((with_reducible refine oM_gen fun Kv hK=>?_); simp [go_sem]; refine hK _ _ ?_; clear hK Kv)))
 have h3:Below w2.heap.size w2 (w2.alloc (.cells #[.pointer (some ⟨mp,0,none⟩)] 171)):=(Below.refl _ _).alloc (Nat.le_refl _) _
 have hC3:Holds (w2.alloc (.cells #[.pointer (some ⟨mp,0,none⟩)] 171)) w2.heap.size 171 [.pointer (some ⟨mp,0,none⟩)]:=heap_alloc_new w2 _
 obtain ⟨cb,hcb⟩:∃ cb,w2.heap.size = cb:=⟨_,rfl⟩
 obtain ⟨w3,hw3⟩:∃ w3,w2.alloc (.cells #[.pointer (some ⟨mp,0,none⟩)] 171) = w3:=⟨_,rfl⟩
 rw [hw3] at h3 hC3
 rw [hcb] at hC3
 rw [hw3,hcb]
 have hcb:w2.heap.size ≤ cb:=by omega
 have hrl:=readM_len (q:=q) hbl
 have hH3:=hH2.next h3
 have hM3:=hM2.next h3
 rw [← hrl] at hH3
 refine reduce_ok hH3 hM3 (fun hb=>by have:=hM2.blk mp hb; omega) (readM_rows hn) (by omega) hc (fun w4 v bs' hF hM4 hbk hml hmr hpl hO=>?_)
 have hpc:∀ p ∈ R.2,p < cols:=fun p hp=>by
  rw [← hRR] at hp
  rcases reduceM_mem _ _ _ _ _ hp with h | h
  ·cases h
  ·rw [List.mem_range'_1] at h; omega
 rw [hRR] at hM4 hml hmr hpl hO
 have hcb3:¬ BkG g bs cb:=fun hb=>by have:=(hM2.blk cb hb).2; omega
 have hmp3:¬ BkG g bs mp:=fun hb=>by have:=(hM2.blk mp hb).1; omega
 have hC4:=holds_fr hC3 hF hcb3
 have hH4:=holds_fr hH3 hF hmp3
 have h4:Below w.heap.size w w4:=⟨hF.os.trans (h2.on h3).os,hF.tape.trans (h2.on h3).tape,hF.output.trans (h2.on h3).output,Nat.le_trans (h2.on h3).size hF.size,fun i hi=>by
  have hs:=(h2.on h3).size
  rw [hF.block i (by omega) (fun hb=>by have:=(hM2.blk i hb).1; omega)]
  exact (h2.on h3).block i hi⟩
 clear hF hC3 hH3 hM3 hH2 hM2
 have hvl:∃ ad vc,v = .slice ad _ vc:=owns_len hO
 obtain ⟨ad,vc,rfl⟩:=hvl
 have hpvl:(pvI R.2).length = R.2.length:=by simp [pvI]
 rw [hpvl] at hO ⊢
 have c4:=hC4.cell 0 (by simp)
 have d1:=hH4.cell 1 (by simp)
 have d2:=hH4.cell 2 (by simp)
 simp only [List.getElem_cons_succ,List.getElem_cons_zero] at c4 d1 d2
 repeat (any_goals ((with_reducible refine oM_gen fun Kv hK=>?_); simp [go_sem,c4,d1]; refine hK _ _ ?_; clear hK Kv))
 rw [← hml] at d1 ⊢
 refine hM4.from (by omega) (fun o c' hst=>?_)
 repeat (any_goals ((with_reducible refine oM_gen fun Kv hK=>?_); simp [go_sem]; refine hK _ _ ?_; clear hK Kv))
 refine ContainsRows_ok (fun r=>decide (r.getD cols 0 ≠ 0)) (hds_len (by simp [hM4.len])) (by rw [List.length_drop]; omega) hst ?_ (fun w5 h5=>?_)
 ·intro w' i x r K' T hb hx hr hk'
  have hri:i < (R.1.drop R.2.length).length:=(List.getElem?_eq_some_iff.1 hr).1
  have hbl':i < (bs'.drop R.2.length).length:=by rw [List.length_drop,hM4.len,← List.length_drop]; exact hri
  have hb0:(bs'.drop R.2.length)[i]? = some (bs'.drop R.2.length)[i]:=List.getElem?_eq_getElem hbl'
  rw [hds_get hb0 hr] at hx
  cases hx
  rw [List.getElem?_drop] at hb0 hr
  refine oM_callv1 (by kernel_rfl) ?_
  exact row2_ok ((hM4.next hb).row _ _ _ hb0 hr) ((hC4.next hb).cell 0 (by simp)) (hH4.next hb) (by rw [hmr r (List.mem_of_getElem? hr)]; omega) (hk' _ (Below.refl _ _))
 cases hany:(R.1.drop R.2.length).any (fun r=>decide (r.getD cols 0 ≠ 0)) with
 | true=>
  repeat (any_goals (with_reducible refine yL ?_))
  refine k _ _ false (h4.on h5) ⟨(fun h=>by cases h),fun h=>?_⟩ (fun h=>by cases h)
  rw [cons_any.2 h] at hany
  cases hany
 | false=>
 have hcon:=cons_any.1 hany
 repeat (any_goals (first
 | (with_reducible refine yM ?_)
 | ((with_reducible refine oM_gen fun Kv hK=>?_); simp [go_sem,(h5.cell hC4.lt).trans c4,(h5.cell hH4.lt).trans d2]; refine hK _ _ ?_; clear hK Kv)))
 refine make_ints (by omega) (fun g2 w6 h6 hg2 hR6=>?_)
 repeat (any_goals ((with_reducible refine oM_gen fun Kv hK=>?_); simp [go_sem]; refine hK _ _ ?_; clear hK Kv))
 refine ⟨SoJ R cols g2 (outM R.1 cols 0 R.2 (List.replicate cols 0)) w5,(fun vs _=>match vs with | [_,_,.int _ i]=>R.2.length - i.toNat | _=>0),⟨h6,_,_,0,_,rfl,by omega,hR6,by simp,rfl⟩,?_⟩
 clear hR6 h6
 rintro _ _ w7 ⟨h7,u0,u1,i,o7,rfl,hi,hR7,hol,hF7⟩
 have h57:=h5.on h7
 by_cases hin:i = R.2.length
 ·repeat (any_goals (first
  | (with_reducible refine yO ?_)
  | ((with_reducible refine oM_gen fun Kv hK=>?_); simp [go_sem]; refine hK _ _ ?_; clear hK Kv)))
  rw [hin,List.drop_of_length_le (Nat.le_refl _)] at hF7
  have hF7':o7 = outM R.1 cols 0 R.2 (List.replicate cols 0):=hF7
  rw [← hF7'] at k
  have hoo:=hR7.owns
  rw [hol] at hoo
  refine k _ _ true (h4.on h57) ⟨fun _=>hcon,fun _=>rfl⟩ (fun _=>?_)
  exact owns_up hoo (fun j hj=>by have:=(owns_own hoo hj).2.1; have:=(h4.on h5).size; omega)
 have hil:i < R.2.length:=by omega
 have hilZ:(i:Int) < R.2.length:=by omega
 have epv:R.2[i]? = some R.2[i]:=List.getElem?_eq_getElem hil
 have hpi:=pvI_get epv
 have hpm:=hpc _ (List.getElem_mem hil)
 have hdrp:R.2.drop i = R.2[i] :: R.2.drop (i + 1):=List.drop_eq_getElem_cons hil
 rw [hdrp] at hF7
 generalize R.2[i] = p at *
 have hO':Ints w4 (.slice ad R.2.length vc) (pvI R.2):=OwnI.ints hO (fun x hx=>by
  obtain ⟨p',hp',rfl⟩:=List.mem_map.1 hx
  have:=hpc p' hp'
  unfold I64
  omega) (by omega)
 obtain ⟨pb,po,rfl,hpb,hpcell,_,_⟩:=hO'.at (i:=i) (by omega)
 have hpx:((pvI R.2)[i]'(by omega)) = (p:Int):=by
  have:=hpi
  rw [List.getElem?_eq_getElem (by omega)] at this
  exact Option.some.inj this
 rw [hpx] at hpcell
 have em:R.1[i]? = some (R.1.getD i []):=by rw [List.getD_eq_getElem?_getD,List.getElem?_eq_getElem (by omega)]; rfl
 have hM7:=hM4.next h57
 obtain ⟨bi,hbi,hci,hRi,hbg⟩:=hM7.get em
 have hril:=hmr _ (List.mem_of_getElem? em)
 have hxi:=hRi.cell (getD_some (l:=R.1.getD i []) (i:=cols) (by omega))
 unfold hdr at hci
 generalize hrr:R.1.getD i [] = ri at *
 have hcz:(cols:Int) < ri.length:=by omega
 have hpz:(p:Int) < cols:=by omega
 have hmZ:(i:Int) < R.1.length:=by omega
 iterate 4 (any_goals (first
 | (with_reducible refine yL ?_)
 | ((with_reducible refine oM_gen fun Kv hK=>?_); simp [go_sem,hpcell _ h57,hilZ]; refine hK _ _ ?_; clear hK Kv)))
 have hb8:Below w7.heap.size w7 { w7 with drawn:=w7.drawn + 1 }:=.drawn
 have hC8:=(hC4.next h57).next hb8
 have hH8:=(hH4.next h57).next hb8
 have hM8:=hM7.next hb8
 have hR8:=hRi.next hb8
 have hO8:=hR7.next hb8
 have hcx:=(hb8.cell hM7.hd.lt).trans hci
 have hxx:=(hb8.cell hRi.lt).trans hxi
 have h58:=h7.on hb8
 refine ⟨Nx { w7 with drawn:=w7.drawn + 1 },Below.refl _ _,rfl,?_⟩
 generalize ({ w7 with drawn:=w7.drawn + 1 }:World) = W8 at *
 have c8:=hC8.cell 0 (by simp)
 have e1:=hH8.cell 1 (by simp)
 have e2:=hH8.cell 2 (by simp)
 simp only [List.getElem_cons_succ,List.getElem_cons_zero] at c8 e1 e2
 repeat (any_goals (first
 | (with_reducible refine pureH_in ?_)
 | ((with_reducible refine idOH ?_); first|(with_reducible refine oH_nil ?_)|(with_reducible refine oH_of ⟨_,rfl⟩ (fun W0 hW0=>by (refine oM_gen (fun Kv hK=>?_)); simp [go_sem,(hW0.cell hC8.lt).trans c8,(hW0.cell hH8.lt).trans e1,(hW0.cell hH8.lt).trans e2,(hW0.cell hM8.hd.lt).trans hcx,(hW0.cell hR8.lt).trans hxx,hcz,hpz,hmZ]; (first | exact hK _ _ ⟨rfl,rfl⟩ | exact ⟨by omega,hK _ _ ⟨rfl,rfl⟩⟩)) ?_))))
 refine ⟨Nx,fun w9 h9=>?_⟩
 refine (hO8.next h9).set (i:=p) (by omega) (fun w10 hg10 hR10=>?_)
 repeat (any_goals ((with_reducible refine oM_gen fun Kv hK=>?_); simp [go_sem]; (try simp (disch:=omega) only [wrapI64,wrapU8,wrapU32,wrapU64]); refine hK _ _ ?_; clear hK Kv))
 refine ⟨⟨(h58.on h9).grown hg10 (Nat.le_trans h58.size h9.size) (fun j e=>by cases e; exact hR7.base),_,_,i + 1,_,rfl,by omega,hR10,by rw [List.length_set]; exact hol,?_⟩,by show R.2.length - (((i + 1:Nat):Int)).toNat < R.2.length - ((i:Nat):Int).toNat; omega⟩
 rw [outM,hrr] at hF7
 exact hF7
end
end Go.Proofs
namespace Go.Proofs
open Go Go.Sh Go.RowKit FdSpec TkSpec CodeSpec PrSpec FdPoly LinLaw GrLaw
section
variable {K:Value → World → Prop} {w w' w0 W W':World} {L:List (Addr × Value)} {g n B c o mp cols:Nat} {bs:List (Nat × Nat)} {q:Int}
def LgJ (g:Grp) (x:Int) (w0:World) (L:List (Addr × Value)) (vs:List Value) (W:World):Prop:=Kn w0 L W ∧ ∃ (u:Value) (i:Nat),vs = [u,.int .i64 (pw g.P g.G i),.int .i64 (i:Int)] ∧ i ≤ g.Q.toNat ∧ ∀ j,j < i → pw g.P g.G j ≠ x
theorem timesG_pw {g:Grp} (h:Gv g) (i:Nat):timesG g (pw g.P g.G i) g.G = pw g.P g.G (i + 1):=by
 unfold timesG mulM
 rw [if_pos h.okQ,if_pos h.okP]
 unfold pw
 rw [Int.pow_succ,Int.mul_emod,Int.emod_emod,← Int.mul_emod]
theorem log_ok {g:Grp} (h:Small g) (hq29:g.Q ≤ 29) (x:Int) (k:∀ w',Below w.heap.size w w' → K (.int .i64 (LinLaw.logM g x)) w'):callM Tryz.prog 153 #[grpV g,.int .i64 x] K w:=by
 apply sh_153_ok
 unfold sh_153
 have h0:=h.lo
 have hP:=h.p
 refine box_kn (cs:=[.int .i64 g.P,.int .i64 g.Q,.int .i64 g.G]) rfl (.start w) fun b1 W hk hb1 hbb=>?_
 clear hb1 hbb
 have e1:(1:Int) = pw g.P g.G 0:=by unfold pw; rw [Int.pow_zero,Int.emod_eq_of_lt (by omega) (by omega)]
 refine ⟨LgJ g x w _,(fun vs _=>match vs with | [_,_,.int _ i]=>g.Q.toNat - i.toNat | _=>0),⟨hk,_,0,by rw [← e1]; rfl,by omega,fun j hj=>by omega⟩,?_⟩
 clear hk
 rintro _ _ w1 ⟨hk,u,i,rfl,hi,hno⟩
 by_cases hin:(i:Int) < g.Q
 ·have hi60:(i:Int) < 60:=by omega
  by_cases hx:pw g.P g.G i = x
  ·repeat (any_goals (first
   | (with_reducible first|refine pureM_in ?_|refine zA ?_|refine yB ?_|refine yL ?_)
   | ((with_reducible refine oM_gen fun Kv hK=>?_); simp [go_sem,hk.cells,hin,hi60,hx]; refine hK _ _ ?_; clear hK Kv)))
   have:LinLaw.logM g x = (i:Int):=by
    unfold LinLaw.logM
    have:(List.range g.Q.toNat).find? (fun i=>decide (pw g.P g.G i = x)) = some i:=by
     rw [List.find?_range_eq_some]
     exact ⟨by simp [hx],by simp; omega,fun j hj=>by simp [hno j hj]⟩
    rw [this]
   rw [this] at k
   exact k _ hk.below
  ·repeat (any_goals (first
   | (with_reducible first|refine pureM_in ?_|refine zA ?_|refine yB ?_|((refine idCond ?_); first|refine yL ?_|refine yM ?_))
   | ((with_reducible refine oM_gen fun Kv hK=>?_); simp [go_sem,hk.cells,hin,hi60,hx]; refine hK _ _ ?_; clear hK Kv)))
   refine Times_ok g _ _ (fun w2 h2=>?_)
   repeat (any_goals ((with_reducible refine oM_gen fun Kv hK=>?_); simp [go_sem]; (try simp (disch:=omega) only [wrapI64,wrapU8,wrapU32,wrapU64]); refine hK _ _ ?_; clear hK Kv))
   rw [timesG_pw h.v]
   refine ⟨⟨hk.next h2,_,i + 1,rfl,by omega,fun j hj=>?_⟩,by show g.Q.toNat - (((i + 1:Nat):Int)).toNat < g.Q.toNat - ((i:Nat):Int).toNat; omega⟩
   by_cases hji:j = i
   ·rw [hji]; exact hx
   ·exact hno j (by omega)
 ·repeat (any_goals (first
  | (with_reducible first|refine zB ?_|refine yC ?_|refine yM ?_)
  | ((with_reducible refine oM_gen fun Kv hK=>?_); simp [go_sem,hk.cells,hin]; refine hK _ _ ?_; clear hK Kv)))
  have:LinLaw.logM g x = -1:=by
   unfold LinLaw.logM
   have:(List.range g.Q.toNat).find? (fun i=>decide (pw g.P g.G i = x)) = none:=by
    rw [List.find?_range_eq_none]
    intro j hj
    simp [hno j (by omega)]
   rw [this]
  rw [this] at k
  exact k _ hk.below
theorem MGrow.lists {v:Value} {l:List MRw} (h:MGrow B w v l) (hr:∀ x ∈ l,∀ n ∈ x.2,I64 n) (hl:l.length ≤ 65536) (hx:∀ x ∈ l,x.2.length ≤ 65536):ListsR w v (l.map (·.2)):=by
 obtain ⟨⟨ad,c,e,h1⟩,h2⟩:=h.row.srow (by decide) (by omega)
 refine ⟨⟨ad,c,by rw [List.length_map]; exact e,?_⟩,by rw [List.length_map]; exact h2⟩
 rcases h1 with rfl | ⟨b,o,rfl,hlt,hc⟩
 ·exact .inl rfl
 ·refine .inr ⟨b,o,rfl,hlt,fun i hi=>?_⟩
  rw [List.length_map] at hi
  obtain ⟨cs,hcl,hcc,he,hR⟩:=hc i hi
  refine ⟨cs,hcl,hcc,_,he,?_⟩
  rw [List.getElem_map]
  exact OwnI.ints hR.owns (hr _ (List.getElem_mem hi)) (by have:=hx _ (List.getElem_mem hi); omega)
def Apt (v:Value) (l:List MRw) (bv:Value):Prop:=∀ i,bv.ownBlock = some i → v.ownBlock ≠ some i ∧ ¬ MD l i
theorem MGrow.frA {S:Nat → Prop} {v:Value} {l:List MRw} (h:MGrow B w v l) (hf:Fr S w w') (hS:∀ i,S i → v.ownBlock ≠ some i ∧ ¬ MD l i):MGrow B w' v l:=
 ⟨h.row.keep hf (fun i hi=>⟨(h.lt i hi).2.1,fun hs=>(hS i hs).2 hi⟩) (fun i hi hs=>(hS i hs).1 hi),
  fun i hi=>⟨(h.lt i hi).1,Nat.lt_of_lt_of_le (h.lt i hi).2.1 hf.size,(h.lt i hi).2.2⟩,h.dis⟩
def rowsA (s:Stp) (c:Clm):List (List Int):=c.eqs.map fun e=>rowG s.g e.terms (List.replicate c.vars.toNat 0)
def rowsB (s:Stp) (c:Clm):List Int:=c.eqs.map fun e=>LinLaw.logM s.g e.target
theorem kn_frB (h:Kn w0 L W) (hL:∀ p ∈ L,p.1.block < B) (hB:w0.heap.size ≤ B) (hf:Fr (fun j=>B ≤ j) W W'):Kn w0 L W':=
 ⟨⟨hf.os.trans h.below.os,hf.tape.trans h.below.tape,hf.output.trans h.below.output,Nat.le_trans h.below.size hf.size,fun j hj=>(hf.block j (Nat.lt_of_lt_of_le hj h.below.size) (by omega)).trans (h.below.block j hj)⟩,
  cells_fr h.cells hf fun p hp=>⟨cells_lt h.cells p hp,by have:=hL p hp; omega⟩⟩
def RwJ (s:Stp) (cl:Clm) (w0:World) (L:List (Addr × Value)) (B:Nat) (vs:List Value) (W:World):Prop:=Kn w0 L W ∧ B ≤ W.heap.size ∧ ∃ (u0 u1 v bv:Value) (i:Nat) (l:List MRw),vs = [u0,u1,v,bv,.int .i64 (i:Int)] ∧ i ≤ cl.eqs.length ∧
 MGrow B W v l ∧ l.map (·.2) = (rowsA s cl).take i ∧ OwnI W B bv ((rowsB s cl).take i) ∧ Apt v l bv
def RiJ (g:Grp) (R:List Int) (ts:List Trm) (n g2:Nat) (w0:World) (vs:List Value) (W:World):Prop:=Below w0.heap.size w0 W ∧ ∃ (k:Nat) (o:List Int),vs = [.int .i64 (k:Int)] ∧ k ≤ ts.length ∧ rowG g (ts.drop k) o = R ∧ RowP W w0.heap.size g2 n o ∧ o.length = n
set_option maxHeartbeats 4000000 in
theorem rows_ok (s:Stp) (cl:Clm) {sv cv:Value} (hs:SetR w s sv) (hcl:ClmR w cl cv) (hcm:claimM s cl = true) (hsm:Small s.g) (hq29:s.g.Q ≤ 29)
  (k:∀ w' av bv,Below w.heap.size w w' → ListsR w' av (rowsA s cl) → Ints w' bv (rowsB s cl) → K (.tuple #[av,bv]) w'):callM Tryz.prog 82 #[stpV s sv,clmV cl cv] K w:=by
 apply sh_82_ok
 unfold sh_82
 have hs':=hs
 have hcl':=hcl
 obtain ⟨ad,ca,rfl⟩:=hs.ints.isSlice
 obtain ⟨ead,ec,rfl⟩:=hcl.eqs.isSlice
 refine box_kn (cs:=stpC s (.slice ad s.bases.length ca)) rfl (.start w) fun b1 W1 hk hb1 hbb=>?_
 refine box_kn (cs:=clmC cl (.slice ead cl.eqs.length ec)) rfl hk fun b2 W2 hk hb2 hbb=>?_
 clear hb1 hb2 hbb
 have hcm':=hcm
 simp only [claimM,Bool.and_eq_true,decide_eq_true_eq,List.all_eq_true] at hcm'
 obtain ⟨⟨⟨⟨hv0,hv1⟩,he0⟩,he1⟩,hef⟩:=hcm'
 obtain ⟨nv,hnv⟩:∃ nv:Nat,cl.vars = nv:=⟨cl.vars.toNat,by omega⟩
 have hQ0:=hsm.lo
 have hAB:(rowsA s cl).length = cl.eqs.length ∧ (rowsB s cl).length = cl.eqs.length:=by simp [rowsA,rowsB]
 have hrA:∀ r ∈ rowsA s cl,r.length = nv ∧ ∀ x ∈ r,I64 x:=fun r hr=>by
  obtain ⟨e,he,rfl⟩:=List.mem_map.1 hr
  refine ⟨by rw [rowG_len,List.length_replicate]; omega,fun x hx=>?_⟩
  have:=rowG_rng hsm e.terms (List.replicate cl.vars.toNat 0) (fun y hy=>by rw [List.eq_of_mem_replicate hy]; omega) x hx
  unfold I64; omega
 have hrB:∀ x ∈ rowsB s cl,I64 x:=fun x hx=>by
  obtain ⟨e,he,rfl⟩:=List.mem_map.1 hx
  have hf:=hef e he
  simp only [eqnFine,Bool.and_eq_true] at hf
  have:=hsm.log hf.1.1
  unfold I64; omega
 have hL:∀ p ∈ cellsOf (cellsOf [] b1 0 (stpC s (.slice ad s.bases.length ca))) b2 0 (clmC cl (.slice ead cl.eqs.length ec)),p.1.block < W2.heap.size:=cells_lt hk.cells
 have hW2:=hk.below.size
 refine ⟨RwJ s cl w _ W2.heap.size,(fun vs _=>match vs with | [_,_,_,_,.int _ i]=>cl.eqs.length - i.toNat | _=>0),⟨hk,Nat.le_refl _,_,_,_,_,0,[],rfl,by omega,.nil,by simp,own_none,fun i h=>by cases h⟩,?_⟩
 clear hk
 rintro _ _ w3 ⟨hk,hB3,u0,u1,v,bv,i,l,rfl,hi,hG,hlm,hO,hAp⟩
 have hll:l.length = i:=by
  have:=congrArg List.length hlm
  rw [List.length_map,List.length_take] at this
  omega
 by_cases hin:i = cl.eqs.length
 ·repeat (any_goals (first
  | (with_reducible refine yO ?_)
  | ((with_reducible refine oM_gen fun Kv hK=>?_); simp [go_sem,hk.cells]; refine hK _ _ ?_; clear hK Kv)))
  rw [hin,List.take_of_length_le (by omega)] at hlm
  rw [hin,List.take_of_length_le (by omega)] at hO
  have hL:=hG.lists (fun x hx=>(hrA x.2 (by rw [← hlm]; exact List.mem_map.2 ⟨x,hx,rfl⟩)).2) (by omega) (fun x hx=>by rw [(hrA x.2 (by rw [← hlm]; exact List.mem_map.2 ⟨x,hx,rfl⟩)).1]; omega)
  rw [hlm] at hL
  exact k _ _ _ hk.below hL (hO.ints hrB (by omega))
 have hil:i < cl.eqs.length:=by omega
 have hilZ:(i:Int) < cl.eqs.length:=by omega
 have hef1:=hef _ (List.getElem_mem hil)
 have eA:(rowsA s cl)[i]? = some (rowG s.g cl.eqs[i].terms (List.replicate cl.vars.toNat 0)):=by unfold rowsA; rw [List.getElem?_map,List.getElem?_eq_getElem hil]; rfl
 have eB:(rowsB s cl)[i]? = some (LinLaw.logM s.g cl.eqs[i].target):=by unfold rowsB; rw [List.getElem?_map,List.getElem?_eq_getElem hil]; rfl
 obtain ⟨eb,eo,rfl,heb,tv,c0,c1,htr,hti⟩:=hcl'.eqs.at (i:=i) hil
 generalize cl.eqs[i] = e at *
 obtain ⟨tad,tc,rfl⟩:=htr.isSlice
 repeat (any_goals (first
 | (with_reducible refine yL ?_)
 | ((with_reducible refine oM_gen fun Kv hK=>?_); simp [go_sem,hk.cells,hilZ,hnv]; refine hK _ _ ?_; clear hK Kv)))
 refine make_ints (by omega) (fun g2 w4 h4 hg2 hR4=>?_)
 refine ⟨RiJ s.g (rowG s.g e.terms (List.replicate cl.vars.toNat 0)) e.terms nv g2 w3,(fun vs _=>match vs with | [.int _ i]=>e.terms.length - i.toNat | _=>0),⟨h4,0,List.replicate nv 0,rfl,by omega,by rw [hnv]; rfl,hR4,by simp⟩,?_⟩
 clear hR4 h4
 rintro _ _ w5 ⟨h5,kk,o,rfl,hkk,hRg,hR5,hol⟩
 have hk5:=hk.next h5
 have htl:=htr.len
 by_cases hkn:kk = e.terms.length
 ·have hkz:¬ (kk:Int) < e.terms.length:=by omega
  iterate 8 (any_goals (first
  | (with_reducible refine yM ?_)
  | ((with_reducible refine oM_gen fun Kv hK=>?_); simp [go_sem,hk5.cells,hilZ,(hk5.below.cell heb).trans c1,hkz]; refine hK _ _ ?_; clear hK Kv)))
  rw [hkn,List.drop_of_length_le (Nat.le_refl _),rowG] at hRg
  refine lit_rowI (fun g6 w6 h6 hg6 hL6=>?_)
  have h36:=h5.on h6
  have hG6:=hG.next h36
  have hR6:=hR5.next h6
  have hRw:RowP w6 W2.heap.size g2 nv o:=⟨hR6.cells,hR6.le,Nat.le_trans hB3 hR6.base,hR6.max⟩
  have hlt:=hG.own_lt
  have hb2:=hR5.base
  rw [← hol] at hL6 ⊢
  refine hG6.add (b:=(g2,o.length)) (by rw [hol]; exact hRw) hL6 (by omega) (fun j hj e=>by have:=hlt.1 j hj; omega) (fun e=>by have:=hlt.2 _ e; omega) (fun v' w7 hG7 hg7 hv7=>?_)
  have hvo:∀ j,v.ownBlock = some j → W2.heap.size ≤ j:=fun j e=>(hG.row.own e).2
  have hbo:∀ j,bv.ownBlock = some j → W2.heap.size ≤ j:=fun j e=>(owns_own hO e).2.1
  have hk6:=hk5.next h6
  have hk7:=kn_frB hk6 hL hW2 ((Fr.of_by' hg7).mono (fun j _ e=>hvo j e))
  have hO6:=hO.keep h36
  have hO7:OwnI w7 W2.heap.size bv ((rowsB s cl).take i):=owns_keep hO6 (fun j hj=>hg7.block j (owns_own hO6 hj).1 (fun e=>(hAp j hj).1 (by first | exact e | exact e.symm)))
  have hAp7:Apt v' (l ++ [((g2,o.length),o)]) bv:=fun j hj=>by
   have h1:=hAp j hj
   have h2:=(owns_own hO hj).1
   refine ⟨fun e=>(hv7 j e).elim h1.1 (fun h=>by have:=h36.size; omega),?_⟩
   rintro ⟨x,hx,e⟩
   rcases List.mem_append.1 hx with hx | hx
   ·exact h1.2 ⟨x,hx,e⟩
   ·simp only [List.mem_singleton] at hx
    subst hx
    dsimp only at e
    omega
  have hlm7:(l ++ [((g2,o.length),o)]).map (·.2) = (rowsA s cl).take (i + 1):=by
   rw [List.map_append,hlm,List.take_add_one,eA,hRg]
   rfl
  have hb8:Below w7.heap.size w7 { w7 with drawn:=w7.drawn + 1 }:=.drawn
  have hk8:=hk7.next hb8
  have hG8:=hG7.next hb8
  have hO8:=hO7.keep hb8
  have hz8:=hb8.size
  refine ⟨Nx { w7 with drawn:=w7.drawn + 1 },Below.refl _ _,rfl,?_⟩
  generalize ({ w7 with drawn:=w7.drawn + 1 }:World) = W8 at hk8 hG8 hO8 hz8 ⊢
  repeat (any_goals (first
  | (with_reducible refine pureH_in ?_)
  | ((with_reducible refine idOH ?_); (with_reducible refine oH_of ⟨_,rfl⟩ (fun W0 hW0=>by (refine oM_gen (fun Kv hK=>?_)); simp [go_sem,(hk8.next hW0).cells,((hk8.next hW0).below.cell heb).trans c0,hilZ]; (first | exact hK _ _ ⟨rfl,rfl⟩ | exact ⟨by omega,hK _ _ ⟨rfl,rfl⟩⟩)) ?_))))
  refine ⟨Nx,?_⟩
  apply monoE
  ·intro w9 h9
   exact log_ok hsm hq29 _ (fun w6 h6=>⟨h9.on h6,h6,rfl⟩)
  have hlg:I64 (LinLaw.logM s.g e.target):=hrB _ (List.mem_of_getElem? eB)
  apply monoR (fun v w'=>Ints w' v [LinLaw.logM s.g e.target]) (fun v w w1 hS h=>h.next hS)
  ·rintro w9 h9 _ rfl
   exact mk1 _ hlg (fun v W h hi=>⟨h9.on h,h,hi⟩)
  rintro w9 h9 _ rfl xv hx
  have hB9:W2.heap.size ≤ w9.heap.size:=Nat.le_trans (Nat.le_trans (Nat.le_trans hB3 h36.size) hg7.size) (Nat.le_trans hz8 h9.size)
  refine append1g (hO8.keep h9) hB9 hx (by rw [List.length_take]; omega) (fun bv' w10 hO10 hg10 hv10=>?_)
  have hk10:=kn_frB (hk8.next h9) hL hW2 ((Fr.of_by' hg10).mono (fun j _ e=>hbo j e))
  have hG10:=(hG8.next h9).frA (Fr.of_by' hg10) (fun j hj=>hAp7 j hj)
  repeat (any_goals ((with_reducible refine oM_gen fun Kv hK=>?_); simp [go_sem]; (try simp (disch:=omega) only [wrapI64,wrapU8,wrapU32,wrapU64]); refine hK _ _ ?_; clear hK Kv))
  refine ⟨⟨hk10,Nat.le_trans hB9 hg10.size,_,_,_,_,i + 1,_,rfl,by omega,hG10,hlm7,?_,?_⟩,by show cl.eqs.length - (((i + 1:Nat):Int)).toNat < cl.eqs.length - ((i:Nat):Int).toNat; omega⟩
  ·rw [← take_snoc' eB]
   exact hO10
  ·intro j hj
   rcases hv10 j hj with h | h
   ·exact hAp7 j h
   ·have hl9:=(hG8.next h9).own_lt
    exact ⟨fun e=>by have:=hl9.2 j e; omega,fun e=>by have:=hl9.1 j e; omega⟩
 have hkl:kk < e.terms.length:=by omega
 have hkz:(kk:Int) < e.terms.length:=by omega
 have htf:trmFine s cl.vars e.terms[kk] = true:=by
  simp only [eqnFine,Bool.and_eq_true,List.all_eq_true] at hef1
  exact hef1.2 _ (List.getElem_mem hkl)
 have hdk:e.terms.drop kk = e.terms[kk] :: e.terms.drop (kk + 1):=List.drop_eq_getElem_cons hkl
 obtain ⟨tb,to,rfl,htb,t0,t1,_,_⟩:=(htr.next trm_stay hk5.below).at (i:=kk) hkl
 rw [hdk,rowG] at hRg
 generalize e.terms[kk] = t at *
 simp only [trmFine,Bool.and_eq_true,decide_eq_true_eq] at htf
 obtain ⟨vn,hvn⟩:∃ vn:Nat,t.var = vn:=⟨t.var.toNat,by omega⟩
 have hvz:(vn:Int) < nv:=by omega
 iterate 15 (any_goals (first
 | (with_reducible refine yL ?_)
 | ((with_reducible refine oM_gen fun Kv hK=>?_); simp [go_sem,hk5.cells,hilZ,(hk5.below.cell heb).trans c1,hkz,t0,t1]; refine hK _ _ ?_; clear hK Kv)))
 refine local_trm t hk5 (fun b6 w6 hk6 hb6 hg6=>?_)
 have hb7:Below w6.heap.size w6 { w6 with drawn:=w6.drawn + 1 }:=.drawn
 have hk7:=hk6.next hb7
 have hR7:=(hR5.next hb6).next hb7
 have h57:=(h5.on hb6).on hb7
 refine ⟨Nx { w6 with drawn:=w6.drawn + 1 },Below.refl _ _,rfl,?_⟩
 generalize ({ w6 with drawn:=w6.drawn + 1 }:World) = W7 at *
 have x1:=getD_some (l:=o) (i:=vn) (by omega)
 repeat (any_goals (first
 | (with_reducible refine pureH_in ?_)
 | ((with_reducible refine idOH ?_); (with_reducible refine oH_of ⟨_,rfl⟩ (fun W0 hW0=>by (refine oM_gen (fun Kv hK=>?_)); simp [go_sem,(hk7.next hW0).cells,(hR7.next hW0).cell x1,hvn,hvz]; (first | exact hK _ _ ⟨rfl,rfl⟩ | exact ⟨by omega,hK _ _ ⟨rfl,rfl⟩⟩)) ?_))))
 refine ⟨Nx,?_⟩
 apply monoE
 ·intro w8 h8
  exact log_ok hsm hq29 _ (fun w6 h6=>⟨h8.on h6,h6,rfl⟩)
 apply monoE
 ·rintro w8 h8 _ rfl
  exact Add_ok _ _ _ ⟨h8,Below.refl _ _,rfl⟩
 rintro w9 h9 _ rfl _ rfl
 repeat (any_goals ((with_reducible refine oM_gen fun Kv hK=>?_); simp [go_sem,hvz]; refine hK _ _ ?_; clear hK Kv))
 refine (hR7.next h9).set (i:=vn) (by omega) (fun w10 hg10 hR10=>?_)
 repeat (any_goals ((with_reducible refine oM_gen fun Kv hK=>?_); simp [go_sem]; (try simp (disch:=omega) only [wrapI64,wrapU8,wrapU32,wrapU64]); refine hK _ _ ?_; clear hK Kv))
 refine ⟨⟨(h57.on h9).grown hg10 (Nat.le_trans h57.size h9.size) (fun j e=>by cases e; exact hR5.base),kk + 1,_,rfl,by omega,?_,hR10,by rw [List.length_set]; exact hol⟩,by show e.terms.length - (((kk + 1:Nat):Int)).toNat < e.terms.length - ((kk:Nat):Int).toNat; omega⟩
 rw [← hRg,hvn,Int.toNat_natCast,List.getD_eq_getElem?_getD]
end
end Go.Proofs
namespace LinLaw
open FdSpec FdPoly GrLaw TkSpec PrSpec
theorem inv_5:∀ a:Fin 5,0 < a.val → mulM 5 (a.val:Int) (invO 5 (a.val:Int)) = 1:=by decide +kernel
theorem inv_11:∀ a:Fin 11,0 < a.val → mulM 11 (a.val:Int) (invO 11 (a.val:Int)) = 1:=by decide +kernel
theorem inv_23:∀ a:Fin 23,0 < a.val → mulM 23 (a.val:Int) (invO 23 (a.val:Int)) = 1:=by decide +kernel
theorem inv_29:∀ a:Fin 29,0 < a.val → mulM 29 (a.val:Int) (invO 29 (a.val:Int)) = 1:=by decide +kernel
theorem inv_all {q a:Int} (h:q = 5 ∨ q = 11 ∨ q = 23 ∨ q = 29) (h0:0 < a) (h1:a < q):mulM q a (invO q a) = 1:=by
 have e:((a.toNat:Nat):Int) = a:=by omega
 rcases h with rfl | rfl | rfl | rfl
 ·have:=inv_5 ⟨a.toNat,by omega⟩ (by show 0 < a.toNat; omega); rwa [e] at this
 ·have:=inv_11 ⟨a.toNat,by omega⟩ (by show 0 < a.toNat; omega); rwa [e] at this
 ·have:=inv_23 ⟨a.toNat,by omega⟩ (by show 0 < a.toNat; omega); rwa [e] at this
 ·have:=inv_29 ⟨a.toNat,by omega⟩ (by show 0 < a.toNat; omega); rwa [e] at this
theorem q_cases {g:Grp} (h:validG g = true) (hq:g.Q ≤ 29):g.Q = 5 ∨ g.Q = 11 ∨ g.Q = 23 ∨ g.Q = 29:=by
 have hv:=gv_of h
 have q0:=hv.q0
 have p:=hv.p
 have hp:primeM g.Q = true ∧ primeM g.P = true:=by
  unfold validG at h
  split at h
  ·cases h
  ·simp only [Bool.and_eq_true] at h
   exact h.1
 have:=small_q ⟨g.Q.toNat,by omega⟩ (by rw [show ((g.Q.toNat:Nat):Int) = g.Q by omega]; exact hp.1) (by rw [show 2 * ((g.Q.toNat:Nat):Int) + 1 = g.P by omega]; exact hp.2) (by show 5 ≤ g.Q.toNat; omega)
 simp only at this
 omega
def cVal (cl:Clm) (x y:Nat):List Int:=[(x:Int),(y:Int)].take cl.vars.toNat
def cLim (s:Stp) (cl:Clm):Nat:=if cl.vars = 2 then s.g.Q.toNat else 1
def cIn (s:Stp) (cl:Clm) (x y:Nat):Nat:=I (holdsM s cl (cVal cl x y) = true)
def cCnt (s:Stp) (cl:Clm) (x:Nat):Nat:=S (cLim s cl) (cIn s cl x)
theorem counts_all {s:Stp} {c:Clm} (h:Small s.g) (hc:claimM s c = true) (h1:1 ≤ c.vars) (h2:c.vars ≤ 2) (hinv:∀ a,0 < a → a < s.g.Q → mulM s.g.Q a (invO s.g.Q a) = 1) {R:Mat × List Nat} (hR:reduceM (invO s.g.Q) s.g.Q (List.range' 0 c.vars.toNat) (matG s c) [] = R) :
  (Cons R.1 R.2.length c.vars.toNat ↔ 0 < S s.g.Q.toNat (cCnt s c)) ∧ (Cons R.1 R.2.length c.vars.toNat → holdsM s c (outM R.1 c.vars.toNat 0 R.2 (List.replicate c.vars.toNat 0)) = true) ∧ R.2.length ≤ c.vars.toNat ∧
   (S s.g.Q.toNat (cCnt s c) = 0 ∨ S s.g.Q.toNat (cCnt s c) = s.g.Q.toNat ^ (c.vars.toNat - R.2.length)) ∧ R.2.length = (reduceM (invO s.g.Q) s.g.Q (List.range' 0 c.vars.toNat) (matZ s c) []).2.length:=by
 by_cases hv:c.vars = 1
 ·have hn:c.vars.toNat = 1:=by omega
  rw [hn] at hR ⊢
  have e:S s.g.Q.toNat (cCnt s c) = S s.g.Q.toNat fun x=>I (holdsM s c [(x:Int)] = true):=S_congr _ fun x _=>by
   unfold cCnt cLim
   rw [if_neg (by omega),S_succ,S_zero,Nat.zero_add]
   unfold cIn cVal
   rw [hn]
   rfl
  rw [e,← hR]
  exact counts1 h hc hv hinv
 ·have hv2:c.vars = 2:=by omega
  have hn:c.vars.toNat = 2:=by omega
  rw [hn] at hR ⊢
  have e:S s.g.Q.toNat (cCnt s c) = S s.g.Q.toNat fun x=>S s.g.Q.toNat fun y=>I (holdsM s c [(x:Int),(y:Int)] = true):=S_congr _ fun x _=>by
   unfold cCnt cLim
   rw [if_pos hv2]
   refine S_congr _ fun y _=>?_
   unfold cIn cVal
   rw [hn]
   rfl
  rw [e,← hR]
  exact counts2 h hc hv2 hinv
theorem S_le (f:Nat → Nat) (m:Nat) (h:∀ x,f x ≤ m):∀ n,S n f ≤ n * m
 | 0=>by simp [S_zero]
 | n + 1=>by have:=S_le f m h n; have:=h n; rw [S_succ,Nat.succ_mul]; omega
theorem I_le (p:Prop) [Decidable p]:I p ≤ 1:=by unfold I; split <;> omega
theorem S_mono (f:Nat → Nat) {a b:Nat} (h:a ≤ b):S a f ≤ S b f:=by
 induction b with
 | zero=>rw [show a = 0 by omega]; exact Nat.le_refl _
 | succ b ih=>
  by_cases hb:a = b + 1
  ·rw [hb]; exact Nat.le_refl _
  ·have:=ih (by omega); rw [S_succ]; omega
theorem cnt_le {s:Stp} {c:Clm} (hq:s.g.Q ≤ 29) (x:Nat):cCnt s c x ≤ 29:=by
 unfold cCnt
 have:=S_le (cIn s c x) 1 (fun y=>I_le _) (cLim s c)
 have:cLim s c ≤ 29:=by unfold cLim; split <;> omega
 omega
end LinLaw
namespace Go.Proofs
open Go Go.Sh Tryz
end Go.Proofs
namespace Go.Proofs
open Go Go.Sh Go.RowKit FdSpec TkSpec CodeSpec PrSpec
section
variable {K:Value → World → Prop} {w w' w0 W:World} {L:List (Addr × Value)}
theorem FewSetup_ok (s:Stp) {v:Value} (hs:SetR w s v) (k:∀ w',Below w.heap.size w w' → K (.bool (decide ((s.bases.length:Int) ≤ 9))) w'):callM Tryz.prog 39 #[stpV s v] K w:=by
 apply sh_39_ok
 unfold sh_39
 obtain ⟨ad,c,rfl⟩:=hs.ints.isSlice
 refine box_kn (cs:=stpC s (.slice ad s.bases.length c)) rfl (.start w) fun b1 W hk hb1 hbb=>?_
 have k:=k _ hk.below
 generalize hq:decide ((s.bases.length:Int) ≤ 9) = q at *
 repeat (any_goals ((with_reducible refine oM_gen fun Kv hK=>?_); simp [go_sem,hk.cells]; refine hK _ _ ?_; clear hK Kv))
 rw [hq]
 exact k
end
end Go.Proofs
namespace Go.Proofs
open Go Go.Sh Go.RowKit FdSpec TkSpec CodeSpec PrSpec
section
variable {K:Value → World → Prop} {w w' w0 W:World} {L:List (Addr × Value)}
end
end Go.Proofs
namespace Go.Proofs
open Go Go.Sh Go.RowKit FdSpec TkSpec CodeSpec PrSpec
section
variable {K:Value → World → Prop} {w w' w0 W:World} {L:List (Addr × Value)}
def FewC (c:Clm):Prop:=c.eqs.length ≤ 4 ∧ ∀ e ∈ c.eqs,e.terms.length ≤ 6
def FcJ (l:List Eqn) (w0:World) (L:List (Addr × Value)) (vs:List Value) (w':World):Prop:=Kn w0 L w' ∧ ∃ (u:Value) (i:Nat),vs = [u,.int .i64 (i:Int)] ∧ i ≤ l.length ∧ i ≤ 5 ∧ ∀ (j:Nat) (y:Eqn),j < i → l[j]? = some y → y.terms.length ≤ 6
theorem FewClaim_ok (c:Clm) {v:Value} (hc:ClmR w c v) (k:∀ w' q,Below w.heap.size w w' → (q = true → FewC c) → K (.bool q) w'):callM Tryz.prog 54 #[clmV c v] K w:=by
 apply sh_54_ok
 unfold sh_54
 have hc':=hc
 obtain ⟨ad,cc,rfl⟩:=hc.eqs.isSlice
 have hll:=hc'.eqs.len
 refine box_kn (cs:=clmC c (.slice ad c.eqs.length cc)) rfl (.start w) fun b1 W hk hb1 hbb=>?_
 clear hb1 hbb
 refine ⟨FcJ c.eqs w _,(fun vs _=>match vs with | [_,.int _ i]=>c.eqs.length - i.toNat | _=>0),⟨hk,_,0,rfl,by omega,by omega,fun j y h=>by omega⟩,?_⟩
 rintro _ _ w1 ⟨hk,u,i,rfl,hi,hi7,hy⟩
 by_cases hin:¬ (i:Int) < c.eqs.length
 ·by_cases h6:(c.eqs.length:Int) ≤ 4
  ·have hfew:FewC c:=⟨by omega,fun y hm=>by
    obtain ⟨j,hj,rfl⟩:=List.getElem_of_mem hm
    exact hy j _ (by omega) (List.getElem?_eq_getElem hj)⟩
   by_cases h1:c.vars ≤ 6
   ·repeat (any_goals (first
    | (with_reducible first|refine pureM_in ?_|((refine idGd ?_); first|refine zA ?_|refine zB ?_|refine zD ?_|refine zE ?_)|((refine idPick ?_); first|refine yB ?_|refine yC ?_)|refine yM ?_)
    | ((with_reducible refine oM_gen fun Kv hK=>?_); simp [go_sem,hk.cells,hin,h6,h1]; refine hK _ _ ?_; clear hK Kv)))
    exact k _ _ hk.below (fun _=>hfew)
   by_cases h2:(120:Int) < c.vars
   ·by_cases h3:c.vars ≤ 130
    ·repeat (any_goals (first
     | (with_reducible first|refine pureM_in ?_|((refine idGd ?_); first|refine zA ?_|refine zB ?_|refine zC ?_)|((refine idPick ?_); first|refine yB ?_|refine yC ?_)|refine yM ?_)
     | ((with_reducible refine oM_gen fun Kv hK=>?_); simp [go_sem,hk.cells,hin,h6,h1,h2,h3]; refine hK _ _ ?_; clear hK Kv)))
     exact k _ _ hk.below (fun _=>hfew)
    ·repeat (any_goals (first
     | (with_reducible first|refine pureM_in ?_|((refine idGd ?_); first|refine zA ?_|refine zB ?_|refine zC ?_)|((refine idPick ?_); first|refine yB ?_|refine yC ?_)|refine yM ?_)
     | ((with_reducible refine oM_gen fun Kv hK=>?_); simp [go_sem,hk.cells,hin,h6,h1,h2,h3]; refine hK _ _ ?_; clear hK Kv)))
     exact k _ _ hk.below (fun _=>hfew)
   ·repeat (any_goals (first
    | (with_reducible first|refine pureM_in ?_|((refine idGd ?_); first|refine zA ?_|refine zB ?_|refine zC ?_)|((refine idPick ?_); first|refine yB ?_|refine yC ?_)|refine yM ?_)
    | ((with_reducible refine oM_gen fun Kv hK=>?_); simp [go_sem,hk.cells,hin,h6,h1,h2]; refine hK _ _ ?_; clear hK Kv)))
    exact k _ _ hk.below (fun _=>hfew)
  ·repeat (any_goals (first
   | (with_reducible first|((refine idGd ?_); first|refine zB ?_|refine zE ?_)|refine yC ?_|refine yM ?_)
   | ((with_reducible refine oM_gen fun Kv hK=>?_); simp [go_sem,hk.cells,hin,h6]; refine hK _ _ ?_; clear hK Kv)))
   exact k _ _ hk.below (fun h=>by cases h)
 have hin:(i:Int) < c.eqs.length:=by omega
 by_cases h7:¬ (i:Int) < 5
 ·have h6:¬ (c.eqs.length:Int) ≤ 4:=by omega
  repeat (any_goals (first
  | (with_reducible first|refine pureM_in ?_|((refine idGd ?_); first|refine zA ?_|refine zB ?_|refine zE ?_)|((refine idPick ?_); first|refine yB ?_|refine yC ?_)|refine yM ?_)
  | ((with_reducible refine oM_gen fun Kv hK=>?_); simp [go_sem,hk.cells,hin,h7,h6]; refine hK _ _ ?_; clear hK Kv)))
  exact k w1 _ hk.below (fun h=>by cases h)
 have h7:(i:Int) < 5:=by omega
 obtain ⟨b5,o5,rfl,hb5,v5,c5,c6,i5,_⟩:=hc'.eqs.at (i:=i) (by omega)
 have e5:c.eqs[i]? = some c.eqs[i]:=List.getElem?_eq_getElem (by omega)
 generalize c.eqs[i] = d at *
 obtain ⟨ad5,cp5,rfl⟩:=i5.isSlice
 by_cases h8:(6:Int) < d.terms.length
 ·repeat (any_goals (first
  | (with_reducible first|refine pureM_in ?_|refine zA ?_|refine yB ?_|refine yL ?_)
  | ((with_reducible refine oM_gen fun Kv hK=>?_); simp [go_sem,hk.cells,hin,h7,(hk.below.cell hb5).trans c6,h8]; refine hK _ _ ?_; clear hK Kv)))
  exact k w1 _ hk.below (fun h=>by cases h)
 repeat (any_goals (first
 | (with_reducible first|refine pureM_in ?_|refine zA ?_|refine yB ?_|((refine idCond ?_); first|refine yL ?_|refine yM ?_))
 | ((with_reducible refine oM_gen fun Kv hK=>?_); simp [go_sem,hk.cells,hin,h7,(hk.below.cell hb5).trans c6,h8]; (try simp (disch:=omega) only [wrapI64,wrapU8,wrapU32,wrapU64]); refine hK _ _ ?_; clear hK Kv)))
 refine ⟨⟨hk,_,i + 1,rfl,by omega,by omega,fun j y hj e=>?_⟩,by show c.eqs.length - (((i + 1:Nat):Int)).toNat < c.eqs.length - ((i:Nat):Int).toNat; omega⟩
 by_cases h:j = i
 ·subst h; rw [e5] at e; cases e; omega
 ·exact hy j y (by omega) e
end
end Go.Proofs
namespace Go.Proofs
open Go Go.Sh Tryz
def held_12_51 (M_49:List Value → World → Prop) (l_35 l_39:List Value) (v2 v3:Value) (w:World):Prop:=
 heldM w (fun C_51 w=>(((true:Bool) = true) ∧ (oH prog (.load 26 (.tmp 0)) 26 [v2] C_51 (fun v71=>
 oH prog (.load 69 (.tmp 0)) 69 [v3] C_51 (fun v72=>
 pureH (l_35.getD 2 undef) C_51 (fun v73=>
 pureH (l_39.getD 1 undef) C_51 (fun v74=>
 oH prog (.fieldAddr 69 (.tmp 0) 0) 0 [v3] C_51 (fun v76=>
 oH prog (.load 3 (.tmp 0)) 3 [v76] C_51 (fun v77=>
 ∃ S_58:World → World → Prop,∃ R_59:Value → World → Prop,(∀ v w w_1,S_58 w w_1 → R_59 v w → R_59 v w_1) ∧
 (∀ w,C_51 w → (oM prog (.buildSlice 24 2 #[(0,(.tmp 0)),(1,(.tmp 1))]) 24 [v73,v74] (fun v w_1=>C_51 w_1 ∧ S_58 w w_1 ∧ R_59 v w_1) w)) ∧
 (∃ R_60:Value → World → Prop,(∀ v w w_1,S_58 w w_1 → R_60 v w → R_60 v w_1) ∧
 (∀ w,C_51 w → ∀ v75,R_59 v75 w → (oM prog (.slice 24 (.tmp 0) none (some (.tmp 1)) none) 24 [v75,v77] (fun v w_1=>C_51 w_1 ∧ S_58 w w_1 ∧ R_60 v w_1) w)) ∧
 (∀ w,C_51 w → ∀ v75,R_59 v75 w → ∀ v78,R_60 v78 w → (
 callM prog 41 #[v71,v72,v78] (fun v79 w=>
 condM v79
 (oM prog (.binOp .add 3 (.tmp 0) (.tmp 1) 3) 3 [(l_39.getD 0 undef),(.int .i64 1)] (fun v81 w=>
 M_49 [v81] w) w)
 (M_49 [(l_39.getD 0 undef)] w)) w))))))))))))
def loop_12_37 (J_33 J_37:List Value → World → Prop) (l_35 l_39:List Value) (m_34 m_38:List Value → World → Nat) (v19 v2 v3:Value) (w0_l_35 w0_l_39:World):Prop:=
(fun w=>(
 oM prog (.binOp .lss 3 (.tmp 0) (.tmp 1) 3) 4 [(l_39.getD 1 undef),v19] (fun v59 w=>
 gdM (gd v59 true) (pureM (l_39.getD 1 undef)) (fun v61 w=>
 gdM (gd v59 true) (oM prog (.binOp .lss 3 (.tmp 0) (.tmp 1) 3) 4 [v61,(.int .i64 1)]) (fun v62 w=>
 gdM (gd v59 true) (pureM v62) (fun v63 w=>
 gdM (gd v63 false) (oM prog (.fieldAddr 69 (.tmp 0) 0) 0 [v3]) (fun v64 w=>
 gdM (gd v63 false) (oM prog (.load 3 (.tmp 0)) 3 [v64]) (fun v65 w=>
 gdM (gd v63 false) (oM prog (.binOp .eql 3 (.tmp 0) (.const (.int .i64 2)) 3) 4 [v65]) (fun v66 w=>
 gdM (gd v59 true) (oM prog (.pick (.tmp 0) (.tmp 1) (.tmp 2)) 4 [v63,(.bool true),v66]) (fun v67 w=>
 oM prog (.pick (.tmp 0) (.tmp 1) (.tmp 2)) 4 [v59,v67,(.bool false)] (fun v68 w=>
 condM v68
 (joinM (fun M_49=>(held_12_51 M_49 l_35 l_39 v2 v3 w))
 (fun l_50 u_l_50 w=>(oM prog (.binOp .add 3 (.tmp 0) (.tmp 1) 3) 3 [(l_39.getD 1 undef),(.int .i64 1)] (fun v70 w=>
 J_37 [(l_50.getD 0 undef),v70] w ∧ m_38 [(l_50.getD 0 undef),v70] w < m_38 l_39 w0_l_39) w)))
 (oM prog (.binOp .add 3 (.tmp 0) (.tmp 1) 3) 3 [(l_35.getD 2 undef),(.int .i64 1)] (fun v56 w=>
 J_33 [(l_39.getD 1 undef),(l_39.getD 0 undef),v56] w ∧ m_34 [(l_39.getD 1 undef),(l_39.getD 0 undef),v56] w < m_34 l_35 w0_l_35) w)) w) w) w) w) w) w) w) w) w)) w0_l_39
def loop_12_88 (J_88:List Value → World → Prop) (K:Value → World → Prop) (l_35 l_90:List Value) (m_89:List Value → World → Nat) (v16 v19 v3:Value) (w0_l_90:World):Prop:=
(fun w=>(
 oM prog (.fieldAddr 69 (.tmp 0) 0) 0 [v3] (fun v113 w=>
 oM prog (.load 3 (.tmp 0)) 3 [v113] (fun v114 w=>
 oM prog (.binOp .lss 3 (.tmp 0) (.tmp 1) 3) 4 [(l_90.getD 1 undef),v114] (fun v115 w=>
 condM v115
 (oM prog (.binOp .mul 3 (.tmp 0) (.tmp 1) 3) 3 [(l_90.getD 0 undef),v19] (fun v120 w=>
 oM prog (.binOp .add 3 (.tmp 0) (.tmp 1) 3) 3 [(l_90.getD 1 undef),(.int .i64 1)] (fun v117 w=>
 J_88 [v120,v117] w ∧ m_89 [v120,v117] w < m_89 l_90 w0_l_90) w) w)
 (gdM (gd v16 true) (pureM (l_35.getD 1 undef)) (fun v123 w=>
 gdM (gd v16 true) (oM prog (.binOp .eql 3 (.tmp 0) (.const (.int .i64 0)) 3) 4 [v123]) (fun v124 w=>
 gdM (gd v16 true) (pureM v124) (fun v125 w=>
 gdM (gd v125 false) (pureM (l_35.getD 1 undef)) (fun v126 w=>
 gdM (gd v125 false) (pureM (l_90.getD 0 undef)) (fun v127 w=>
 gdM (gd v125 false) (oM prog (.binOp .eql 3 (.tmp 0) (.tmp 1) 3) 4 [v126,v127]) (fun v128 w=>
 gdM (gd v16 true) (oM prog (.pick (.tmp 0) (.tmp 1) (.tmp 2)) 4 [v125,(.bool true),v128]) (fun v129 w=>
 oM prog (.pick (.tmp 0) (.tmp 1) (.tmp 2)) 4 [v16,v129,(.bool false)] (fun v130 w=>
 K v130 w) w) w) w) w) w) w) w) w)) w) w) w)) w0_l_90
def loop_12_33 (J_33:List Value → World → Prop) (K:Value → World → Prop) (l_35:List Value) (m_34:List Value → World → Nat) (v16 v19 v2 v3:Value) (w0_l_35:World):Prop:=
(fun w=>(
 oM prog (.binOp .lss 3 (.tmp 0) (.tmp 1) 3) 4 [(l_35.getD 2 undef),v19] (fun v54 w=>
 condM v54
 (loopM [(l_35.getD 1 undef),(.int .i64 0)] w (fun J_37 m_38 l_39 u_l_39 w0_l_39=>loop_12_37 J_33 J_37 l_35 l_39 m_34 m_38 v19 v2 v3 w0_l_35 w0_l_39))
 (oM prog (.load 26 (.tmp 0)) 26 [v2] (fun v83 w=>
 oM prog (.load 69 (.tmp 0)) 69 [v3] (fun v84 w=>
 callM prog 82 #[v83,v84] (fun v85 w=>
 oM prog (.extract (.tmp 0) 0) 30 [v85] (fun v86 w=>
 oM prog (.extract (.tmp 0) 1) 24 [v85] (fun v87 w=>
 callM prog 83 #[v19,v86,v87] (fun v92 w=>
 oM prog (.extract (.tmp 0) 0) 24 [v92] (fun v93 w=>
 oM prog (.extract (.tmp 0) 1) 4 [v92] (fun v94 w=>
 oM prog (.binOp .gtr 3 (.tmp 0) (.tmp 1) 3) 4 [(l_35.getD 1 undef),(.int .i64 0)] (fun v97 w=>
 oM prog (.binOp .neq 4 (.tmp 0) (.tmp 1) 4) 4 [v94,v97] (fun v98 w=>
 gdM (gd v98 false) (pureM v94) (fun v100 w=>
 gdM (gd v98 false) (pureM v100) (fun v101 w=>
 gdM (gd v101 true) (oM prog (.load 26 (.tmp 0)) 26 [v2]) (fun v102 w=>
 gdM (gd v101 true) (oM prog (.load 69 (.tmp 0)) 69 [v3]) (fun v103 w=>
 gdM (gd v101 true) (pureM v93) (fun v104 w=>
 gdM (gd v101 true) (callM prog 41 #[v102,v103,v104]) (fun v105 w=>
 gdM (gd v101 true) (oM prog (.unOp .not 4 (.tmp 0)) 4 [v105]) (fun v106 w=>
 gdM (gd v98 false) (oM prog (.pick (.tmp 0) (.tmp 1) (.tmp 2)) 4 [v101,v106,(.bool false)]) (fun v107 w=>
 oM prog (.pick (.tmp 0) (.tmp 1) (.tmp 2)) 4 [v98,(.bool true),v107] (fun v108 w=>
 condM v108
 (K (.bool false) w)
 (callM prog 84 #[v19,v86] (fun v111 w=>
 loopM [(.int .i64 1),v111] w (fun J_88 m_89 l_90 u_l_90 w0_l_90=>loop_12_88 J_88 K l_35 l_90 m_89 v16 v19 v3 w0_l_90)) w)) w) w) w) w) w) w) w) w) w) w) w) w) w) w) w) w) w) w) w)) w)) w0_l_35
def sh_12 (a0 a1:Value) (K:Value → World → Prop) (w:World):Prop:=
 oM prog (.box 26 (.tmp 0)) 0 [a0] (fun v2 w=>
 oM prog (.box 69 (.tmp 0)) 0 [a1] (fun v3 w=>
 callM prog 38 #[] (fun v16 w=>
 oM prog (.fieldAddr 26 (.tmp 0) 0) 0 [v2] (fun v17 w=>
 oM prog (.fieldAddr 23 (.tmp 0) 1) 0 [v17] (fun v18 w=>
 oM prog (.load 3 (.tmp 0)) 3 [v18] (fun v19 w=>
 oM prog (.load 26 (.tmp 0)) 26 [v2] (fun v20 w=>
 callM prog 39 #[v20] (fun v21 w=>
 oM prog (.unOp .not 4 (.tmp 0)) 4 [v21] (fun v22 w=>
 gdM (gd v22 false) (oM prog (.load 69 (.tmp 0)) 69 [v3]) (fun v24 w=>
 gdM (gd v22 false) (callM prog 54 #[v24]) (fun v25 w=>
 gdM (gd v22 false) (oM prog (.unOp .not 4 (.tmp 0)) 4 [v25]) (fun v26 w=>
 oM prog (.pick (.tmp 0) (.tmp 1) (.tmp 2)) 4 [v22,(.bool true),v26] (fun v27 w=>
 gdM (gd v27 false) (pureM v19) (fun v29 w=>
 gdM (gd v27 false) (oM prog (.binOp .gtr 3 (.tmp 0) (.tmp 1) 3) 4 [v29,(.int .i64 29)]) (fun v30 w=>
 oM prog (.pick (.tmp 0) (.tmp 1) (.tmp 2)) 4 [v27,(.bool true),v30] (fun v31 w=>
 gdM (gd v31 false) (oM prog (.fieldAddr 69 (.tmp 0) 0) 0 [v3]) (fun v33 w=>
 gdM (gd v31 false) (oM prog (.load 3 (.tmp 0)) 3 [v33]) (fun v34 w=>
 gdM (gd v31 false) (oM prog (.binOp .lss 3 (.tmp 0) (.tmp 1) 3) 4 [v34,(.int .i64 1)]) (fun v35 w=>
 oM prog (.pick (.tmp 0) (.tmp 1) (.tmp 2)) 4 [v31,(.bool true),v35] (fun v36 w=>
 gdM (gd v36 false) (oM prog (.fieldAddr 69 (.tmp 0) 0) 0 [v3]) (fun v38 w=>
 gdM (gd v36 false) (oM prog (.load 3 (.tmp 0)) 3 [v38]) (fun v39 w=>
 gdM (gd v36 false) (oM prog (.binOp .gtr 3 (.tmp 0) (.tmp 1) 3) 4 [v39,(.int .i64 2)]) (fun v40 w=>
 oM prog (.pick (.tmp 0) (.tmp 1) (.tmp 2)) 4 [v36,(.bool true),v40] (fun v41 w=>
 gdM (gd v41 false) (oM prog (.load 26 (.tmp 0)) 26 [v2]) (fun v43 w=>
 gdM (gd v41 false) (oM prog (.load 69 (.tmp 0)) 69 [v3]) (fun v44 w=>
 gdM (gd v41 false) (oM prog (.buildSlice 63 1 #[(0,(.tmp 0))]) 63 [v44]) (fun v45 w=>
 gdM (gd v41 false) (oM prog (.build 65 #[(0,(.tmp 0)),(1,(.tmp 1))]) 65 [(.int .i64 1),v45]) (fun v46 w=>
 gdM (gd v41 false) (oM prog (.buildSlice 27 1 #[(0,(.tmp 0))]) 27 [v46]) (fun v47 w=>
 gdM (gd v41 false) (callM prog 23 #[v43,v47]) (fun v48 w=>
 gdM (gd v41 false) (oM prog (.unOp .not 4 (.tmp 0)) 4 [v48]) (fun v49 w=>
 oM prog (.pick (.tmp 0) (.tmp 1) (.tmp 2)) 4 [v41,(.bool true),v49] (fun v50 w=>
 condM v50
 (K v16 w)
 (loopM [undef,(.int .i64 0),(.int .i64 0)] w (fun J_33 m_34 l_35 u_l_35 w0_l_35=>loop_12_33 J_33 K l_35 m_34 v16 v19 v2 v3 w0_l_35))) w) w) w) w) w) w) w) w) w) w) w) w) w) w) w) w) w) w) w) w) w) w) w) w) w) w) w) w) w) w) w) w
theorem sh_12_ok {a0 a1:Value} {K:Value → World → Prop} {w:World} (h:sh_12 a0 a1 K w):callM prog 12 #[a0,a1] K w:=
 calls_of_code (fun _=>.free [0,1,2,3,5,6] [4,7] [8]) (fn:=Tryz.f12) (rs:=[.tmp 4]) Tryz.func12 rfl rfl (by kernel_rfl) (Nat.le_of_ble_eq_true rfl) (Eq.mp (by kernel_rfl) h)
end Go.Proofs
namespace Go.Proofs
open Go Go.Sh Go.RowKit FdSpec TkSpec CodeSpec PrSpec FdPoly LinLaw GrLaw
section
variable {K:Value → World → Prop} {w w' w0 W W':World} {L:List (Addr × Value)} {g n B c o mp cols:Nat} {bs:List (Nat × Nat)} {q:Int}
def PkJ (s:Stp) (rk m:Nat) (w0:World) (L:List (Addr × Value)) (vs:List Value) (W:World):Prop:=Kn w0 L W ∧ ∃ (j:Nat),vs = [.int .i64 ((s.g.Q.toNat:Int) ^ j),.int .i64 ((rk + j:Nat):Int)] ∧ j ≤ m
def CoJ (s:Stp) (cl:Clm) (w0:World) (L:List (Addr × Value)) (vs:List Value) (W:World):Prop:=Kn w0 L W ∧ ∃ (u:Value) (n x:Nat),vs = [u,.int .i64 (n:Int),.int .i64 (x:Int)] ∧ x ≤ s.g.Q.toNat ∧ n = S x (cCnt s cl)
def CyJ (s:Stp) (cl:Clm) (x:Nat) (w0:World) (L:List (Addr × Value)) (vs:List Value) (W:World):Prop:=Kn w0 L W ∧ ∃ (n y:Nat),vs = [.int .i64 (n:Int),.int .i64 (y:Int)] ∧ y ≤ cLim s cl ∧ n = S x (cCnt s cl) + S y (cIn s cl x)
theorem mk2c {T:TypeId} (x y:Int) (hx:I64 x) (hy:I64 y) (k:∀ v W,Below w.heap.size w W → CI W v [x,y] → K v W):oM Tryz.prog (.buildSlice 24 2 #[(0,.tmp 0),(1,.tmp 1)]) T [.int .i64 x,.int .i64 y] K w:=by
 rw [oM_buildSlice2]
 have e:(Instr.buildSlice 24 2 #[(0,.int .i64 x),(1,.int .i64 y)]).run Tryz.prog w = .ok (.slice (some ⟨w.heap.size,0,none⟩) 2 2) (w.alloc (.cells #[.int .i64 x,.int .i64 y] 3)):=by kernel_rfl
 rw [e]
 exact k _ _ ((Below.refl _ w).alloc (Nat.le_refl _) _) ⟨ints_alloc w [x,y] _ 2 (by simp; exact ⟨hx,hy⟩) (by simp),_,_,rfl,by simp,fun h=>by cases h⟩
theorem CI.nx {v:Value} {l:List Int} (h:CI w v l) (hb:Below w.heap.size w w'):CI w' v l:=h.keep hb.size (fun i _ hi=>hb.block i hi)
theorem held51_ok {M:List Value → World → Prop} {s:Stp} {cl:Clm} {b1 b2 x y n:Nat} {sv cv:Value} {l35 l39:List Value} (hk:Kn w0 (cellsOf (cellsOf [] b1 0 (stpC s sv)) b2 0 (clmC cl cv)) w) (hs:SetR w0 s sv) (hcl:ClmR w0 cl cv)
  (hcm:claimM s cl = true) (hvs:validS s = true) (hx:l35.getD 2 undef = .int .i64 (x:Int)) (hy:l39.getD 1 undef = .int .i64 (y:Int)) (hn:l39.getD 0 undef = .int .i64 (n:Int)) (hx1:x < 65536) (hy1:y < 65536) (hn1:n < 65536) (hv1:1 ≤ cl.vars) (hv2:cl.vars ≤ 2)
  (k:∀ W,Below w.heap.size w W → M [.int .i64 ((n + cIn s cl x y:Nat):Int)] W) :
  held_12_51 M l35 l39 (.pointer (some ⟨b1,0,none⟩)) (.pointer (some ⟨b2,0,none⟩)) w:=by
 unfold held_12_51
 rw [hx,hy,hn]
 have hs':=hs
 have hcl':=hcl
 obtain ⟨ad,ca,rfl⟩:=hs.ints.isSlice
 obtain ⟨ead,ec,rfl⟩:=hcl.eqs.isSlice
 obtain ⟨vn,hvn⟩:∃ vn:Nat,cl.vars = vn:=⟨cl.vars.toNat,by omega⟩
 have hb9:Below w.heap.size w { w with drawn:=w.drawn + 1 }:=.drawn
 have hk:=hk.next hb9
 refine ⟨Nx { w with drawn:=w.drawn + 1 },Below.refl _ _,rfl,?_⟩
 generalize ({ w with drawn:=w.drawn + 1 }:World) = W9 at hk hb9 ⊢
 repeat (any_goals (first
 | (with_reducible refine pureH_in ?_)
 | ((with_reducible refine idOH ?_); (with_reducible refine oH_of ⟨_,rfl⟩ (fun W0 hW0=>by (refine oM_gen (fun Kv hK=>?_)); simp [go_sem,(hk.next hW0).cells]; (first | exact hK _ _ ⟨rfl,rfl⟩ | exact ⟨by omega,hK _ _ ⟨rfl,rfl⟩⟩)) ?_))))
 refine ⟨Nx,?_⟩
 apply monoR (fun v w'=>CI w' v [(x:Int),(y:Int)]) (fun v w w1 hS h=>h.nx hS)
 ·intro w1 h1
  exact mk2c _ _ (by unfold I64; omega) (by unfold I64; omega) (fun v W h hc=>⟨h1.on h,h,hc⟩)
 apply monoR (fun v w'=>Ints w' v (cVal cl x y)) (fun v w w1 hS h=>h.next hS)
 ·rintro w1 h1 v hc
  rw [hvn]
  refine hc.to vn (by simp; omega) (fun v' hv'=>⟨h1,Below.refl _ _,?_⟩)
  have:cVal cl x y = [(x:Int),(y:Int)].take vn:=by unfold cVal; rw [hvn,Int.toNat_natCast]
  rw [this]
  exact hv'
 rintro w1 h1 v1 _ v2 hi
 have hk:=hk.next h1
 refine Holds_ok s cl (cVal cl x y) (hs'.next hk.below) (hcl'.next hk.below) hi (fun w2 h2=>?_)
 have e:HoldsM s cl (cVal cl x y) = holdsM s cl (cVal cl x y):=by unfold HoldsM; rw [hvs,hcm]; rfl
 rw [e]
 have k:=k w2 ((hb9.on h1).on h2)
 unfold cIn at k
 cases hh:holdsM s cl (cVal cl x y) with
 | true=>
  rw [hh,I_one rfl] at k
  repeat (any_goals (first
  | (with_reducible refine yL ?_)
  | ((with_reducible refine oM_gen fun Kv hK=>?_); simp [go_sem]; (try simp (disch:=omega) only [wrapI64,wrapU8,wrapU32,wrapU64]); refine hK _ _ ?_; clear hK Kv)))
  exact k
 | false=>
  rw [hh,I_zero (by simp)] at k
  repeat (any_goals (with_reducible refine yM ?_))
  exact k
theorem loop37_ok {J33 J37:List Value → World → Prop} {m34 m38:List Value → World → Nat} {wa:World} {s:Stp} {cl:Clm} {b1 b2 x y n:Nat} {sv cv u u2:Value} (hk:Kn w0 (cellsOf (cellsOf [] b1 0 (stpC s sv)) b2 0 (clmC cl cv)) w) (hs:SetR w0 s sv) (hcl:ClmR w0 cl cv)
  (hcm:claimM s cl = true) (hvs:validS s = true) (hQ:5 ≤ s.g.Q) (hQ2:s.g.Q ≤ 29) (hx1:x < 65536) (hn1:n < 65536) (hv1:1 ≤ cl.vars) (hv2:cl.vars ≤ 2) (hy:y ≤ cLim s cl)
  (k1:y < cLim s cl → ∀ W,Below w.heap.size w W → J37 [.int .i64 ((n + cIn s cl x y:Nat):Int),.int .i64 ((y + 1:Nat):Int)] W ∧ m38 [.int .i64 ((n + cIn s cl x y:Nat):Int),.int .i64 ((y + 1:Nat):Int)] W < m38 [.int .i64 (n:Int),.int .i64 (y:Int)] w)
  (k2:y = cLim s cl → J33 [.int .i64 (y:Int),.int .i64 (n:Int),.int .i64 ((x + 1:Nat):Int)] w ∧ m34 [.int .i64 (y:Int),.int .i64 (n:Int),.int .i64 ((x + 1:Nat):Int)] w < m34 [u,u2,.int .i64 (x:Int)] wa) :
  loop_12_37 J33 J37 [u,u2,.int .i64 (x:Int)] [.int .i64 (n:Int),.int .i64 (y:Int)] m34 m38 (.int .i64 s.g.Q) (.pointer (some ⟨b1,0,none⟩)) (.pointer (some ⟨b2,0,none⟩)) wa w:=by
 unfold loop_12_37
 have hly:cLim s cl ≤ 29:=by unfold cLim; split <;> omega
 have wx:IntKind.i64.wrap ((x:Int) + 1) = ((x + 1:Nat):Int):=by rw [wrapI64 _ (by omega) (by omega)]; rfl
 have wy:IntKind.i64.wrap ((y:Int) + 1) = ((y + 1:Nat):Int):=by rw [wrapI64 _ (by omega) (by omega)]; rfl
 have go:y < cLim s cl → ∃ M:List Value → World → Prop,held_12_51 M [u,u2,.int .i64 (x:Int)] [.int .i64 (n:Int),.int .i64 (y:Int)] (.pointer (some ⟨b1,0,none⟩)) (.pointer (some ⟨b2,0,none⟩)) w ∧
   ∀ (l:List Value) (u:Env) (w1:World),M l w1 → oM Tryz.prog (.binOp .add 3 (.tmp 0) (.tmp 1) 3) 3 [[Value.int .i64 (n:Int),.int .i64 (y:Int)].getD 1 undef,.int .i64 1] (fun v w'=>J37 [l.getD 0 undef,v] w' ∧ m38 [l.getD 0 undef,v] w' < m38 [.int .i64 (n:Int),.int .i64 (y:Int)] w) w1:=fun hlt=>by
  refine ⟨fun l W=>l = [.int .i64 ((n + cIn s cl x y:Nat):Int)] ∧ Below w.heap.size w W,held51_ok hk hs hcl hcm hvs rfl rfl rfl hx1 (by omega) hn1 hv1 hv2 (fun W hW=>⟨rfl,hW⟩),?_⟩
  rintro _ _ W ⟨rfl,hW⟩
  repeat (any_goals ((with_reducible refine oM_gen fun Kv hK=>?_); simp [go_sem,wy]; refine hK _ _ ?_; clear hK Kv))
  exact k1 hlt W hW
 by_cases h2:cl.vars = 2
 ·have el:cLim s cl = s.g.Q.toNat:=by unfold cLim; rw [if_pos h2]
  by_cases hlt:(y:Int) < s.g.Q
  ·by_cases hy1:(y:Int) < 1
   ·repeat (any_goals (first
    | (with_reducible first|refine pureM_in ?_|((refine idGd ?_); first|refine zA ?_|refine zD ?_)|refine yB ?_|refine yL ?_)
    | ((with_reducible refine oM_gen fun Kv hK=>?_); simp [go_sem,hk.cells,hlt,hy1,h2]; refine hK _ _ ?_; clear hK Kv)))
    exact go (by omega)
   ·repeat (any_goals (first
    | (with_reducible first|refine pureM_in ?_|((refine idGd ?_); first|refine zA ?_|refine zC ?_)|((refine idPick ?_); first|refine yB ?_|refine yC ?_)|refine yL ?_)
    | ((with_reducible refine oM_gen fun Kv hK=>?_); simp [go_sem,hk.cells,hlt,hy1,h2]; refine hK _ _ ?_; clear hK Kv)))
    exact go (by omega)
  ·repeat (any_goals (first
   | (with_reducible first|((refine idGd ?_); first|refine zB ?_|refine zE ?_)|refine yC ?_|refine yM ?_)
   | ((with_reducible refine oM_gen fun Kv hK=>?_); simp [go_sem,hk.cells,hlt,h2,wx]; refine hK _ _ ?_; clear hK Kv)))
   exact k2 (by omega)
 ·have el:cLim s cl = 1:=by unfold cLim; rw [if_neg h2]
  have hlt:(y:Int) < s.g.Q:=by omega
  by_cases hy1:(y:Int) < 1
  ·repeat (any_goals (first
   | (with_reducible first|refine pureM_in ?_|((refine idGd ?_); first|refine zA ?_|refine zD ?_)|refine yB ?_|refine yL ?_)
   | ((with_reducible refine oM_gen fun Kv hK=>?_); simp [go_sem,hk.cells,hlt,hy1,h2]; refine hK _ _ ?_; clear hK Kv)))
   exact go (by omega)
  ·repeat (any_goals (first
   | (with_reducible first|refine pureM_in ?_|((refine idGd ?_); first|refine zA ?_|refine zC ?_)|((refine idPick ?_); first|refine yB ?_|refine yC ?_)|refine yM ?_)
   | ((with_reducible refine oM_gen fun Kv hK=>?_); simp [go_sem,hk.cells,hlt,hy1,h2,wx]; refine hK _ _ ?_; clear hK Kv)))
   exact k2 (by omega)
theorem counts_ok (s:Stp) (cl:Clm) {sv cv:Value} (hs:SetR w s sv) (hcl:ClmR w cl cv) (hl:Cd.LaidE w)
  (k:∀ w',Below w.heap.size w w' → K (.bool true) w'):callM Tryz.prog 12 #[stpV s sv,clmV cl cv] K w:=by
 apply sh_12_ok
 unfold sh_12
 have hs':=hs
 have hcl':=hcl
 obtain ⟨ad,ca,rfl⟩:=hs.ints.isSlice
 obtain ⟨ead,ec,rfl⟩:=hcl.eqs.isSlice
 refine box_kn (cs:=stpC s (.slice ad s.bases.length ca)) rfl (.start w) fun b1 W1 hk hb1 hbb=>?_
 refine box_kn (cs:=clmC cl (.slice ead cl.eqs.length ec)) rfl hk fun b2 W2 hk hb2 hbb=>?_
 clear hb1 hb2 hbb
 refine less_ok (hs'.db.next hk.below) (hl.below hk.below hl.size) (fun w1 h1=>?_)
 have hk:=hk.next h1
 repeat (any_goals ((with_reducible refine oM_gen fun Kv hK=>?_); simp [go_sem,hk.cells]; refine hK _ _ ?_; clear hK Kv))
 refine FewSetup_ok s (hs'.next hk.below) (fun w2 h2=>?_)
 have hk:=hk.next h2
 by_cases hb9:¬ (s.bases.length:Int) ≤ 9
 ·rw [decide_eq_false hb9]
  repeat (any_goals (first
  | (with_reducible first|refine zD ?_|refine yB ?_|refine yL ?_)
  | ((with_reducible refine oM_gen fun Kv hK=>?_); simp [go_sem,hk.cells]; refine hK _ _ ?_; clear hK Kv)))
  exact k _ hk.below
 have hb9:(s.bases.length:Int) ≤ 9:=by omega
 rw [decide_eq_true hb9]
 repeat (any_goals (first
 | (with_reducible refine zC ?_)
 | ((with_reducible refine oM_gen fun Kv hK=>?_); simp [go_sem,hk.cells]; refine hK _ _ ?_; clear hK Kv)))
 refine FewClaim_ok cl (hcl'.next hk.below) (fun w3 q h3 hq=>?_)
 have hk:=hk.next h3
 clear hq
 cases q with
 | false=>
  repeat (any_goals (first
  | (with_reducible first|((refine idGd ?_); first|refine zC ?_|refine zD ?_)|((refine idPick ?_); first|refine yB ?_|refine yC ?_)|refine yL ?_)
  | ((with_reducible refine oM_gen fun Kv hK=>?_); simp [go_sem]; refine hK _ _ ?_; clear hK Kv)))
  exact k _ hk.below
 | true=>
 by_cases hq29:(29:Int) < s.g.Q
 ·repeat (any_goals (first
  | (with_reducible first|refine pureM_in ?_|((refine idGd ?_); first|refine zC ?_|refine zD ?_)|((refine idPick ?_); first|refine yB ?_|refine yC ?_)|refine yL ?_)
  | ((with_reducible refine oM_gen fun Kv hK=>?_); simp [go_sem,hk.cells,hq29]; refine hK _ _ ?_; clear hK Kv)))
  exact k _ hk.below
 by_cases hv1:cl.vars < (1:Int)
 ·repeat (any_goals (first
  | (with_reducible first|refine pureM_in ?_|((refine idGd ?_); first|refine zC ?_|refine zD ?_)|((refine idPick ?_); first|refine yB ?_|refine yC ?_)|refine yL ?_)
  | ((with_reducible refine oM_gen fun Kv hK=>?_); simp [go_sem,hk.cells,hq29,hv1]; refine hK _ _ ?_; clear hK Kv)))
  exact k _ hk.below
 by_cases hv2:(2:Int) < cl.vars
 ·repeat (any_goals (first
  | (with_reducible first|refine pureM_in ?_|((refine idGd ?_); first|refine zC ?_|refine zD ?_)|((refine idPick ?_); first|refine yB ?_|refine yC ?_)|refine yL ?_)
  | ((with_reducible refine oM_gen fun Kv hK=>?_); simp [go_sem,hk.cells,hq29,hv1,hv2]; refine hK _ _ ?_; clear hK Kv)))
  exact k _ hk.below
 iterate 27 (any_goals (first
 | (with_reducible first|refine pureM_in ?_|refine zC ?_|refine yC ?_)
 | ((with_reducible refine oM_gen fun Kv hK=>?_); simp [go_sem,hk.cells,hq29,hv1,hv2]; refine hK _ _ ?_; clear hK Kv)))
 refine lit_clm cl.vars ead cl.eqs.length ec (fun g4 w4 h4 hg4 hh4=>?_)
 iterate 1 (any_goals (with_reducible refine zC ?_))
 rw [build_cls]
 iterate 2 (any_goals (with_reducible first|refine pureM_in ?_|refine zC ?_))
 refine lit_cls 1 _ 1 1 (fun g5 w5 h5 hg5 hh5=>?_)
 iterate 1 (any_goals (with_reducible refine zC ?_))
 have hk5:=(hk.next h4).next h5
 have hgr:GoalR w5 (.slice (some ⟨g5,0,none⟩) 1 1) [⟨1,[cl]⟩]:=srow_lit1 (T:=65) hh5 rfl ⟨_,rfl,(show I64 1 by unfold I64; omega),srow_lit1 (T:=69) (hh4.next h5) rfl ⟨_,rfl,hcl'.next hk5.below⟩⟩
 refine ValidGoal_ok s (hs'.next hk5.below) hgr (fun w6 h6=>?_)
 have hk:=hk5.next h6
 clear hgr hh5 hh4 hk5
 cases hgm:goalM s [⟨1,[cl]⟩] with
 | false=>
  repeat (any_goals (first
  | (with_reducible first|refine zC ?_|refine yC ?_|refine yL ?_)
  | ((with_reducible refine oM_gen fun Kv hK=>?_); simp [go_sem]; refine hK _ _ ?_; clear hK Kv)))
  exact k _ hk.below
 | true=>
 have hgm':=hgm
 simp only [goalM,List.all_cons,List.all_nil,Bool.and_true,Bool.and_eq_true,decide_eq_true_eq] at hgm'
 have hcm:claimM s cl = true:=hgm'.2
 have hvs:validS s = true:=hgm'.1.1.1.1
 have hvg:validG s.g = true:=by
  simp only [validS,Bool.and_eq_true] at hvs
  exact hvs.1.1.1.1
 have hsm:=small_of hvg (by omega)
 have hqc:=q_cases hvg (by omega)
 have hQ0:=hsm.lo
 have hinv:∀ a,0 < a → a < s.g.Q → mulM s.g.Q a (invO s.g.Q a) = 1:=fun a h0 h1=>inv_all hqc h0 h1
 repeat (any_goals (first
 | (with_reducible first|refine zC ?_|refine yC ?_|refine yM ?_)
 | ((with_reducible refine oM_gen fun Kv hK=>?_); simp [go_sem]; refine hK _ _ ?_; clear hK Kv)))
 refine ⟨CoJ s cl w _,(fun vs _=>match vs with | [_,_,.int _ i]=>s.g.Q.toNat - i.toNat | _=>0),⟨hk,_,0,0,rfl,by omega,rfl⟩,?_⟩
 clear hk
 rintro _ _ w7 ⟨hk,u,n,x,rfl,hx,hn⟩
 have hNb:∀ x,x ≤ s.g.Q.toNat → S x (cCnt s cl) ≤ 900:=fun x hx=>by
  have:=S_le (cCnt s cl) 29 (fun x=>cnt_le (by omega) x) x
  have:x * 29 ≤ 29 * 29:=Nat.mul_le_mul (by omega) (Nat.le_refl _)
  omega
 have hnb:=hNb x hx
 by_cases hxn:x < s.g.Q.toNat
 ·have hxZ:(x:Int) < s.g.Q:=by omega
  unfold loop_12_33
  repeat (any_goals (first
  | (with_reducible refine yL ?_)
  | ((with_reducible refine oM_gen fun Kv hK=>?_); simp [go_sem,hxZ]; refine hK _ _ ?_; clear hK Kv)))
  refine ⟨CyJ s cl x w _,(fun vs _=>match vs with | [_,.int _ i]=>cLim s cl - i.toNat | _=>0),⟨hk,n,0,rfl,by omega,by rw [hn,S_zero]; rfl⟩,?_⟩
  clear hk
  rintro _ _ w8 ⟨hk,n8,y,rfl,hy,hn8⟩
  have hy8:=S_mono (cIn s cl x) hy
  have hcx:=cnt_le (s:=s) (c:=cl) (by omega) x
  have hcx':S (cLim s cl) (cIn s cl x) ≤ 29:=hcx
  refine loop37_ok hk hs' hcl' hcm hvs hQ0 (by omega) (by omega) (by omega) (by omega) (by omega) hy (fun hlt W hW=>⟨⟨hk.next hW,_,y + 1,rfl,hlt,by rw [hn8,S_succ]; omega⟩,?_⟩) (fun he=>⟨⟨hk,_,n8,x + 1,rfl,hxn,?_⟩,?_⟩)
  ·show cLim s cl - (((y + 1:Nat):Int)).toNat < cLim s cl - ((y:Nat):Int).toNat
   omega
  ·rw [hn8,he,S_succ]
   rfl
  ·show s.g.Q.toNat - (((x + 1:Nat):Int)).toNat < s.g.Q.toNat - ((x:Nat):Int).toNat
   omega
 have hxe:x = s.g.Q.toNat:=by omega
 have hxZ:¬ (x:Int) < s.g.Q:=by omega
 rw [hxe] at hn
 unfold loop_12_33
 repeat (any_goals (first
 | (with_reducible refine yM ?_)
 | ((with_reducible refine oM_gen fun Kv hK=>?_); simp [go_sem,hxZ,hk.cells]; refine hK _ _ ?_; clear hK Kv)))
 refine rows_ok s cl (hs'.next hk.below) (hcl'.next hk.below) hcm hsm (by omega) (fun w8 av bv h8 hAv hBv=>?_)
 have hk:=hk.next h8
 obtain ⟨aad,ac,rfl⟩:=hAv.isSlice
 repeat (any_goals ((with_reducible refine oM_gen fun Kv hK=>?_); simp [go_sem]; refine hK _ _ ?_; clear hK Kv))
 have hcl2:=hcm
 simp only [claimM,Bool.and_eq_true,decide_eq_true_eq,List.all_eq_true] at hcl2
 obtain ⟨⟨⟨⟨hv0,hv1'⟩,he0⟩,he1⟩,hef⟩:=hcl2
 have hAl:(rowsA s cl).length = cl.eqs.length:=by simp [rowsA]
 have hBl:(rowsB s cl).length = cl.eqs.length:=by simp [rowsB]
 have hA0:rowsA s cl ≠ []:=fun e=>by rw [e] at hAl; simp at hAl; omega
 have hAr:∀ r ∈ rowsA s cl,r.length = cl.vars.toNat:=fun r hr=>by
  obtain ⟨e,he,rfl⟩:=List.mem_map.1 hr
  rw [rowG_len,List.length_replicate]
 have hrg:∀ r ∈ matG s cl,∀ x ∈ r,x % s.g.Q = x:=fun r hr x hx=>by
  have:=(matG_ok hsm hcm).rng r hr x hx
  exact Int.emod_eq_of_lt this.1 this.2
 have mat1:readM s.g.Q (rowsA s cl) (rowsB s cl) = matG s cl:=by
  have e:(rowsA s cl).zip (rowsB s cl) = cl.eqs.map fun e=>(rowG s.g e.terms (List.replicate cl.vars.toNat 0),LinLaw.logM s.g e.target):=by unfold rowsA rowsB; rw [List.zip_map']
  unfold readM
  rw [e,List.map_map]
  unfold matG
  refine List.map_congr_left fun e he=>?_
  have h1:=hrg (rowG s.g e.terms (List.replicate cl.vars.toNat 0) ++ [LinLaw.logM s.g e.target]) (List.mem_map.2 ⟨e,he,rfl⟩)
  show (rowG s.g e.terms (List.replicate cl.vars.toNat 0)).map (fun x=>x % s.g.Q) ++ [LinLaw.logM s.g e.target % s.g.Q] = _
  rw [h1 _ (by simp)]
  congr 1
  rw [List.map_congr_left (fun y hy=>h1 y (by simp [hy])),List.map_id']
 have mat2:readM s.g.Q (rowsA s cl) (List.replicate (rowsA s cl).length 0) = matZ s cl:=by
  have e0:List.replicate (rowsA s cl).length (0:Int) = cl.eqs.map fun _=>0:=by rw [hAl,List.map_const']
  have e:(rowsA s cl).zip (cl.eqs.map fun _=>(0:Int)) = cl.eqs.map fun e=>(rowG s.g e.terms (List.replicate cl.vars.toNat 0),0):=by unfold rowsA; rw [List.zip_map']
  unfold readM
  rw [e0,e,List.map_map]
  unfold matZ
  refine List.map_congr_left fun e he=>?_
  have h1:=hrg (rowG s.g e.terms (List.replicate cl.vars.toNat 0) ++ [LinLaw.logM s.g e.target]) (List.mem_map.2 ⟨e,he,rfl⟩)
  show (rowG s.g e.terms (List.replicate cl.vars.toNat 0)).map (fun x=>x % s.g.Q) ++ [0 % s.g.Q] = _
  rw [Int.zero_emod]
  congr 1
  rw [List.map_congr_left (fun y hy=>h1 y (by simp [hy])),List.map_id']
 obtain ⟨R,hR⟩:∃ R,reduceM (invO s.g.Q) s.g.Q (List.range' 0 cl.vars.toNat) (matG s cl) [] = R:=⟨_,rfl⟩
 obtain ⟨c1,c2,c3,c4,c5⟩:=counts_all hsm hcm (by omega) (by omega) hinv hR
 rw [← hn] at c1 c4
 have hpq:primeM s.g.Q = true:=hsm.v.pq
 have fin:∀ W,Kn w (cellsOf (cellsOf [] b1 0 (stpC s (.slice ad s.bases.length ca))) b2 0 (clmC cl (.slice ead cl.eqs.length ec))) W → Below w8.heap.size w8 W → callM Tryz.prog 84 #[.int .i64 s.g.Q,.slice aad (rowsA s cl).length ac] (fun v w=>loopM [.int .i64 1,v] w fun J m l ul w0=>loop_12_88 J K [u,.int .i64 (n:Int),.int .i64 (x:Int)] l m (.bool true) (.int .i64 s.g.Q) (.pointer (some ⟨b2,0,none⟩)) w0) W:=by
  intro W hkW h8W
  refine Rank_ok (cols:=cl.vars.toNat) (rowsA s cl) (hAv.next (atOf_stay ints_stay) h8W) (hs'.db.next hkW.below) hpq hA0 (by omega) hAr (by omega) (fun w9 h9=>?_)
  rw [mat2,← c5]
  have hkq:=hkW.next h9
  obtain ⟨rk,hrk⟩:∃ rk,R.2.length = rk:=⟨_,rfl⟩
  obtain ⟨vn,hvn⟩:∃ vn:Nat,cl.vars = vn:=⟨cl.vars.toNat,by omega⟩
  rw [hvn,Int.toNat_natCast,hrk] at c4
  rw [hrk] at c3 ⊢
  have hQn:((s.g.Q.toNat:Nat):Int) = s.g.Q:=by omega
  refine ⟨PkJ s rk (vn - rk) w _,(fun vs _=>match vs with | [_,.int _ i]=>vn - i.toNat | _=>0),⟨hkq,0,by simp,by omega⟩,?_⟩
  rintro _ _ w10 ⟨hk10,j,rfl,hj⟩
  unfold loop_12_88
  by_cases hjl:j < vn - rk
  ·have hb:(s.g.Q.toNat:Int) ^ j * s.g.Q = (s.g.Q.toNat:Int) ^ (j + 1):=by rw [Int.pow_succ,hQn]
   have hb2:(s.g.Q.toNat:Int) ^ (j + 1) ≤ 900 ∧ 0 ≤ (s.g.Q.toNat:Int) ^ (j + 1):=by
    rw [hQn]
    have hj1:j = 0 ∨ j = 1:=by omega
    rcases hqc with e | e | e | e <;> rw [e] <;> rcases hj1 with rfl | rfl <;> decide
   obtain ⟨p1,hp1⟩:∃ p1,(s.g.Q.toNat:Int) ^ (j + 1) = p1:=⟨_,rfl⟩
   obtain ⟨p0,hp0⟩:∃ p0,(s.g.Q.toNat:Int) ^ j = p0:=⟨_,rfl⟩
   rw [hp1] at hb hb2
   rw [hp0] at hb ⊢
   have hw1:IntKind.i64.wrap (p0 * s.g.Q) = p1:=by rw [hb,wrapI64 _ (by omega) (by omega)]
   obtain ⟨rj,hrj⟩:∃ rj:Nat,rk + j = rj:=⟨_,rfl⟩
   rw [hrj]
   have hlt:(rj:Int) < (vn:Int):=by omega
   have hw2:IntKind.i64.wrap ((rj:Int) + 1) = ((rj + 1:Nat):Int):=by rw [wrapI64 _ (by omega) (by omega)]; rfl
   repeat (any_goals (first
   | (with_reducible refine yL ?_)
   | ((with_reducible refine oM_gen fun Kv hK=>?_); simp [go_sem,hk10.cells,hvn,hlt,hw1,hw2]; refine hK _ _ ?_; clear hK Kv)))
   exact ⟨⟨hk10,j + 1,by rw [hp1,← hrj]; rfl,by omega⟩,by show vn - (((rj + 1:Nat):Int)).toNat < vn - ((rj:Nat):Int).toNat; omega⟩
  ·rw [show j = vn - rk by omega]
   obtain ⟨p0,hp0⟩:∃ p0,(s.g.Q.toNat:Int) ^ (vn - rk) = p0:=⟨_,rfl⟩
   obtain ⟨rj,hrj⟩:∃ rj:Nat,rk + (vn - rk) = rj:=⟨_,rfl⟩
   rw [hrj,hp0]
   have hlt:¬ (rj:Int) < (vn:Int):=by omega
   have c4':n = 0 ∨ (n:Int) = p0:=c4.imp id fun h=>by rw [← hp0,h]; exact Int.natCast_pow _ _
   by_cases hn0:n = 0
   ·have hnz:(n:Int) = 0:=by omega
    repeat (any_goals (first
    | (with_reducible first|refine pureM_in ?_|((refine idGd ?_); first|refine zA ?_|refine zD ?_)|refine yB ?_|refine yM ?_)
    | ((with_reducible refine oM_gen fun Kv hK=>?_); simp [go_sem,hk10.cells,hvn,hlt,hnz]; refine hK _ _ ?_; clear hK Kv)))
    exact k _ hk10.below
   ·have hnz:¬ (n:Int) = 0:=by omega
    have hnp:(n:Int) = p0:=c4'.resolve_left hn0
    have hpz:¬ p0 = 0:=by omega
    repeat (any_goals (first
    | (with_reducible first|refine pureM_in ?_|((refine idGd ?_); first|refine zA ?_|refine zC ?_)|((refine idPick ?_); first|refine yB ?_|refine yC ?_)|refine yM ?_)
    | ((with_reducible refine oM_gen fun Kv hK=>?_); simp [go_sem,hk10.cells,hvn,hlt,hnz,hnp,hpz]; refine hK _ _ ?_; clear hK Kv)))
    exact k _ hk10.below
 refine Solve_ok (cols:=cl.vars.toNat) (rowsA s cl) (rowsB s cl) (R:=R) (by rw [mat1]; exact hR) hAv hBv (hs'.db.next hk.below) hpq hA0 (by omega) (by omega) hAr (by omega) (fun w9 v ok h9 hok hout=>?_)
 have hk9:=hk.next h9
 cases ok with
 | false=>
  have hn0:n = 0:=by
   have:¬ Cons R.1 R.2.length cl.vars.toNat:=fun h=>by have:=hok.2 h; cases this
   by_cases h0:0 < n
   ·exact absurd (c1.2 h0) this
   ·omega
  have hnz:¬ (0:Int) < (n:Int):=by omega
  repeat (any_goals (first
  | (with_reducible first|refine pureM_in ?_|((refine idGd ?_); first|refine zB ?_|((refine idGdN ?_); refine zO ?_))|((refine idPick ?_); first|refine yC ?_|refine yG ?_)|refine yM ?_)
  | ((with_reducible refine oM_gen fun Kv hK=>?_); simp [go_sem,hk9.cells,hnz]; refine hK _ _ ?_; clear hK Kv)))
  exact fin _ hk9 h9
 | true=>
  have hcon:=hok.1 rfl
  have hn0:=c1.1 hcon
  have hnz:(0:Int) < (n:Int):=by omega
  have hho:=c2 hcon
  have hoo:=hout rfl
  have hex:exponentsM s (outM R.1 cl.vars.toNat 0 R.2 (List.replicate cl.vars.toNat 0)) cl.vars = true:=by
   simp only [holdsM,Bool.and_eq_true] at hho
   exact hho.1
  have hor:∀ y ∈ outM R.1 cl.vars.toNat 0 R.2 (List.replicate cl.vars.toNat 0),0 ≤ y ∧ y < s.g.Q:=fun y hy=>by
   simp only [exponentsM,exponentM,Bool.and_eq_true,Bool.not_eq_true',List.any_eq_false,decide_eq_true_eq] at hex
   have:=hex.2 y hy
   simpa using this
  have hol:(outM R.1 cl.vars.toNat 0 R.2 (List.replicate cl.vars.toNat 0)).length ≤ 2:=by
   simp only [exponentsM,Bool.and_eq_true,decide_eq_true_eq] at hex
   omega
  have hvi:=OwnI.ints hoo (fun y hy=>by have:=hor y hy; unfold I64; omega) (by omega)
  repeat (any_goals (first
  | (with_reducible first|refine pureM_in ?_|((refine idGd ?_); first|refine zA ?_|((refine idGdN ?_); refine zO ?_)))
  | ((with_reducible refine oM_gen fun Kv hK=>?_); simp [go_sem,hk9.cells,hnz]; refine hK _ _ ?_; clear hK Kv)))
  refine Holds_ok s cl _ (hs'.next hk9.below) (hcl'.next hk9.below) hvi (fun w10 h10=>?_)
  have e:HoldsM s cl (outM R.1 cl.vars.toNat 0 R.2 (List.replicate cl.vars.toNat 0)) = true:=by unfold HoldsM; rw [hvs,hcm,hho]; rfl
  rw [e]
  repeat (any_goals (first
  | (with_reducible first|((refine idGd ?_); first|refine zA ?_|((refine idGdN ?_); refine zO ?_))|((refine idPick ?_); first|refine yB ?_|refine yG ?_)|refine yM ?_)
  | ((with_reducible refine oM_gen fun Kv hK=>?_); simp [go_sem]; refine hK _ _ ?_; clear hK Kv)))
  exact fin _ (hk9.next h10) (h9.on h10)
end
end Go.Proofs
