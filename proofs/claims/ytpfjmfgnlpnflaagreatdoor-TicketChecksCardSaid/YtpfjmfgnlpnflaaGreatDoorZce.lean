/- Parts of the proof of the seat's statements (RfG, RfH, RfI, TcF, RgA, RgB, RgC, HRe, FpA, FpB, FpC, FpD, FpE, FdPoly, FdInv, FdThr, PrUnit, GrLaw, FdPr, GrPr, TpA, TpB, TpC, TpD, TpE, TpF, TpG, TpH, TpI, TpJ, TpK, TpL, TpM, TpO, FpF, FpI, HTg, TcG, TcG2, TcG3, FpJ, HRg, LaA, FpG, FpH, HHi, HCo, FqA, FqB, FqC, FqG, FqI, FqJ, FqK0, HiSpec, HiExp, HiLaw, HiDot, HiCore, CoSpec, FqD, FqE, FqF, CoLaw, CoLaw2, CoLaw3, FqL, TzA, TzN, HLTicketBlind, TzB, HLTicketFollows, TzF, HLTicketChecks, TzK): lemmas about the given translation and plain laws. No condition of their own. -/
import Derived.Test.YtpfjmfgnlpnflaaGreatDoorZcd
import Derived.Test.YtpfjmfgnlpnflaaGreatDoorMsf
import Derived.Laws.IdiomStrings
import Derived.Test.YtpfjmfgnlpnflaaGreatDoorProg
set_option linter.all false
set_option maxRecDepth 100000
namespace Go.Proofs
open Go Go.Sh Go.RowKit ShaSpec
section
variable {K:Value → World → Prop} {w w0:World}
theorem mkW0 {T:TypeId} (k:∀ v W,Below w.heap.size w W → OwnW W w.heap.size v [] → K v W):oM Tryz.prog (.buildSlice 216 0 #[]) T [] K w:=by
 rw [oM_buildSlice0]
 have e:(Instr.buildSlice 216 0 #[]).run Tryz.prog w = .ok (.slice (some ⟨w.heap.size,0,none⟩) 0 0) (w.alloc (.cells #[] 200)):=by kernel_rfl
 rw [e]
 exact k _ _ ((Below.refl _ w).alloc (Nat.le_refl _) _) ⟨rfl,.inr ⟨w.heap.size,0,#[],rfl,Nat.le_refl _,heap_alloc_new w _,Nat.le_refl _,by decide,rfl,rfl⟩⟩
theorem appendRow {B:Nat} {T:TypeId} {v hv:Value} {l m:List W} (ho:OwnW w B v l) (hB:B ≤ w.heap.size) (hx:WrdR w hv m) (hne:0 < m.length) (hl:l.length + m.length < 1099511627776)
  (k:∀ v' w',OwnW w' B v' (l ++ m) → Below B w w' → K v' w'):oM Tryz.prog (.call { callee:=.builtin .append,args:=#[.tmp 0,.tmp 1],argTypes:=#[216,216] }) T [v,hv] K w:=by
 obtain ⟨ad,c,rfl,hm⟩:=hx
 obtain ⟨b,o,rfl,hlt,hc⟩:=hm.resolve_left (fun h0=>by subst h0; simp at hne)
 refine append_at 216 T 200 ((Tryz.prog.info? 200).getD default) (.int .u32 0) 1 4 (by kernel_rfl) (by kernel_rfl) (by kernel_rfl) (by kernel_rfl) (by kernel_rfl) (by kernel_rfl) (by omega) (owns_base ho (Nat.zero_le _)) (ws m) (by simp) (by simp) ?_ ?_ (by simp only [maxLen]; omega) (by omega) ?_
 ·rintro a ha j u hj
  cases ha
  have hjl:j < m.length:=by have:=(List.getElem?_eq_some_iff.1 hj).1; simpa using this
  rw [add_none,hc j hjl,← hj]
  simp [ws,at',List.getD_eq_getElem?_getD,hjl]
 ·exact ws_one m
 ·intro v' w' ho' hg hv
  have hbl:∀ i,v.ownBlock = some i → B ≤ i:=fun i hi=>(owns_own ho hi).2.1
  refine k v' w' ?_ ((Below.refl B w).grown hg hB hbl)
  have e2:ws (l ++ m) = ws l ++ ws m:=by simp [ws]
  show w'.ownsRow B 200 1 v' (l ++ m).length (ws (l ++ m))
  rw [List.length_append,e2]
  exact owns_up ho' (fun i hi=>(hv i hi).elim (hbl i) (fun h=>Nat.le_trans hB h))
theorem setW {B i:Nat} {T:TypeId} {v:Value} {l:List W} (x:W) (ho:OwnW w B v l) (hi:i < l.length):∃ g c,v = .slice (some ⟨g,0,none⟩) l.length c ∧ B ≤ g ∧ ∀ K:Value → World → Prop,(∀ w',w.grownBy w' (some g) → OwnW w' B v (l.set i x) → K undef w') →
  oM Tryz.prog (.store 200 (.tmp 0) (.tmp 1)) T [ptr g i,w32 x] K w:=by
 rcases ho.2 with ⟨_,h0⟩ | ⟨g,cap,cur,rfl,hb,hg,hn,hm,hs,ht⟩
 ·omega
 ·refine ⟨g,cap,rfl,hb,fun K k=>?_⟩
  have hh:Holds w g 200 cur.toList:=by unfold Holds; simpa using hg
  have hcl:cur.toList.length = cap:=by simpa using hs
  refine arr_set (i:=i) sz_u32 rfl rfl hh (by omega) (fun w' hgr hh'=>k w' hgr ⟨by simp,.inr ⟨g,cap,(cur.toList.set i (w32 x)).toArray,by rw [List.length_set],hb,hh',by rw [List.length_set]; exact hn,hm,by simp; omega,?_⟩⟩)
  rw [List.length_set]
  rw [Nat.mul_one] at ht ⊢
  simp only [List.take_set,ht]
  unfold ws
  rw [List.map_set]
def RdJ (w0:World) (b:List UInt8) (s:St) (l:List Value) (w':World):Prop:=∃ (v1 v2 v3 v4 v5 v:Value) (i:Nat),l = [v1,v2,v3,v4,v5,v,.int .i64 (i:Int)] ∧ i ≤ 64 ∧ OwnW w' w0.heap.size v (rounds b s i).list ∧ Below w0.heap.size w0 w'
def rdMu (l:List Value) (_:World):Nat:=match l with | [_,_,_,_,_,_,.int _ i]=>64 - i.toNat | _=>0
theorem rdMu_eq (a b c d e f:Value) (q:IntKind) (i:Int) (w:World):rdMu [a,b,c,d,e,f,.int q i] w = 64 - i.toNat:=rfl
theorem words_ok' (b:List UInt8) {B o c:Nat} (hl:b.length = 64) (hb:ByR w B o b) (k:∀ sl v W,sl = sched b 64 → Below w.heap.size w W → WrdR W v sl → K v W):callM Tryz.prog 217 #[.slice (some ⟨B,o,none⟩) 64 c] K w:=
 words_ok b hl hb fun v W h1 h2=>k _ v W rfl h1 h2
theorem not32 {P:Program} (t T:TypeId) (x:W):oM P (.unOp .xor t (.tmp 0)) T [w32 x] = pureM (w32 (~~~ x)):=by
 funext K w
 have e:bits .xor .u32 4294967295 (x.toNat:Int) = ((~~~ x).toNat:Int):=by
  have:=bits32_xor (BitVec.allOnes 32) x
  rw [BitVec.allOnes_xor] at this
  exact this
 unfold w32
 rw [← e]
 simp [oM,opM,xop,execOp,evalL,evE,Op.unary,go_sem]
 exact Iff.rfl
theorem block_ok (s:St) (b:List UInt8) {hv:Value} {B o c:Nat} (hl:b.length = 64) (hb:ByR w B o b) (hs:WrdR w hv s.list) (k:∀ v W,Below w.heap.size w W → OwnW W w.heap.size v (mix s b).list → K v W):callM Tryz.prog 198 #[hv,.slice (some ⟨B,o,none⟩) 64 c] K w:=by
 apply sh_198_ok
 unfold sh_198
 refine words_ok' b hl hb fun sl v1 w1 hsl h1 hw1=>?_
 refine adds_ok fun v2 w2 h2 hw2=>?_
 refine mkW0 fun v3 w3 h3 ho3=>?_
 have hl64:sl.length = 64:=by rw [hsl]; exact sched_length b 64
 have hA:Nx w w2:=h1.on h2
 refine appendRow ho3 h3.size ((hs.next hA).next h3) (show 0 < 8 by decide) (by show 0 + 8 < _; omega) (fun v4 w4 ho5 h4=>?_)
 have ho4:OwnW w4 w2.heap.size v4 s.list:=ho5
 have hB4:Nx w2 w4:=h3.trans h4
 obtain ⟨bs,os,cs,rfl,hsr⟩:=(hw1.next h2).at (by omega)
 obtain ⟨bk,ok,ck,rfl,hkr⟩:=hw2.at (by rw [consts_length]; omega)
 obtain ⟨bh,oh,chh,rfl,hhr⟩:=(hs.next hA).at (show 0 < 8 by decide)
 refine ⟨RdJ w2 b s,rdMu,⟨_,_,_,_,_,_,0,rfl,by omega,ho4,hB4⟩,?_⟩
 clear hB4 ho4 ho5 h4 ho3 h3 w4 w3
 rintro _ _ w5 ⟨u1,u2,u3,u4,u5,v,i,rfl,hi,ho,hB⟩
 rw [consts_length,hl64] at *
 by_cases hi64:i < 64
 ·have e1:rounds b s (i + 1) = round (rounds b s i) (at' consts i) (at' sl i):=by rw [hsl]; rfl
  have kk:=fun w' (h:Nx w5 w')=>hkr w' (hB.on h) i hi64
  have ks:=fun w' (h:Nx w5 w')=>hsr w' (hB.on h) i hi64
  obtain ⟨q,hq⟩:∃ q,q = rounds b s i:=⟨_,rfl⟩
  rw [← hq] at e1 ho
  obtain ⟨bv,ov,cv,rfl,hvr⟩:=ho.read.at (show 0 < 8 by decide)
  have c0:∀ w',Nx w5 w' → w'.cell? ⟨bv,ov,none⟩ = some (w32 q.a):=fun w' h=>hvr w' h 0 (show 0 < 8 by decide)
  have c1:∀ w',Nx w5 w' → w'.cell? ⟨bv,ov + 1,none⟩ = some (w32 q.b):=fun w' h=>hvr w' h 1 (show 1 < 8 by decide)
  have c2:∀ w',Nx w5 w' → w'.cell? ⟨bv,ov + 2,none⟩ = some (w32 q.c):=fun w' h=>hvr w' h 2 (show 2 < 8 by decide)
  have c3:∀ w',Nx w5 w' → w'.cell? ⟨bv,ov + 3,none⟩ = some (w32 q.d):=fun w' h=>hvr w' h 3 (show 3 < 8 by decide)
  have c4:∀ w',Nx w5 w' → w'.cell? ⟨bv,ov + 4,none⟩ = some (w32 q.e):=fun w' h=>hvr w' h 4 (show 4 < 8 by decide)
  have c5:∀ w',Nx w5 w' → w'.cell? ⟨bv,ov + 5,none⟩ = some (w32 q.f):=fun w' h=>hvr w' h 5 (show 5 < 8 by decide)
  have c6:∀ w',Nx w5 w' → w'.cell? ⟨bv,ov + 6,none⟩ = some (w32 q.g):=fun w' h=>hvr w' h 6 (show 6 < 8 by decide)
  have c7:∀ w',Nx w5 w' → w'.cell? ⟨bv,ov + 7,none⟩ = some (w32 q.h):=fun w' h=>hvr w' h 7 (show 7 < 8 by decide)
  have l8:q.list.length = 8:=rfl
  rw [l8] at *
  refine Xa0 ?_
  refine ⟨Nx w5,.drawn,?_⟩
  repeat (any_goals (first
  | (with_reducible refine tuQ6 _ ?_) | (with_reducible refine tuQ11 _ ?_) | (with_reducible refine tuQ25 _ ?_) | (with_reducible refine tuQ2 _ ?_) | (with_reducible refine tuQ13 _ ?_) | (with_reducible refine tuQ22 _ ?_)
  | ((with_reducible refine idOQ ?_); (with_reducible refine oQ_of ⟨_,rfl⟩ (fun W0 hW0=>by (refine oM_gen (fun Kv hK=>?_)); simp [go_sem,c4 _ hW0,wxor]; (first | exact hK _ _ ⟨rfl,rfl⟩ | exact ⟨by omega,hK _ _ ⟨rfl,rfl⟩⟩)) ?_))))
  intro w6 h6
  refine ⟨Nx w5,h6.on .drawn,?_⟩
  clear h6 w6
  refine Xf (fun W0 hW0=>An3 (c4 _ hW0) (c5 _ hW0) (c6 _ hW0)) (An4 @wxor @wand @not32 @ch_eq) ?_
  intro w6 h6
  refine ⟨Nx w5,h6.on .drawn,?_⟩
  clear h6 w6
  refine Xf (fun W0 hW0=>An3 (c7 _ hW0) (kk _ hW0) (ks _ hW0)) @wadd ?_
  intro w6 h6
  refine ⟨Nx w5,h6.on .drawn,?_⟩
  clear h6 w6
  repeat (any_goals (first
  | (with_reducible refine tuQ6 _ ?_) | (with_reducible refine tuQ11 _ ?_) | (with_reducible refine tuQ25 _ ?_) | (with_reducible refine tuQ2 _ ?_) | (with_reducible refine tuQ13 _ ?_) | (with_reducible refine tuQ22 _ ?_)
  | ((with_reducible refine idOQ ?_); (with_reducible refine oQ_of ⟨_,rfl⟩ (fun W0 hW0=>by (refine oM_gen (fun Kv hK=>?_)); simp [go_sem,c0 _ hW0,wxor]; (first | exact hK _ _ ⟨rfl,rfl⟩ | exact ⟨by omega,hK _ _ ⟨rfl,rfl⟩⟩)) ?_))))
  intro w6 h6
  refine ⟨Nx w5,h6.on .drawn,?_⟩
  clear h6 w6
  refine Xf (fun W0 hW0=>An3 (c0 _ hW0) (c1 _ hW0) (c2 _ hW0)) (An3 @wxor @wand @maj_eq) ?_
  intro w6 h6
  refine ⟨Nx w5,h6.on .drawn,rfl,?_⟩
  clear h6 w6
  refine Xf (fun W0 hW0=>An7 (c0 _ hW0) (c1 _ hW0) (c2 _ hW0) (c3 _ hW0) (c4 _ hW0) (c5 _ hW0) (c6 _ hW0)) @wadd ?_
  refine ⟨Nx,fun w6 h6=>?_⟩
  refine row8 (round q (at' consts i) (at' sl i)) (fun v6 w7 h7 ho7=>?_)
  rw [← e1] at ho7
  have h67:=(hB.on h6)
  refine Xa0 ?_
  refine ⟨⟨_,_,_,_,_,_,i + 1,rfl,hi64,owns_base ho7 h67.size,h67.on h7⟩,?_⟩
  simp only [rdMu_eq]; omega
 ·obtain rfl:i = 64:=by omega
  have em:(mix s b).list = adL (rounds b s 64) s 8:=rfl
  rw [em] at k
  have ho:OwnW w5 w2.heap.size v (adL (rounds b s 64) s 0):=ho
  clear em
  generalize rounds b s 64 = q at *
  obtain ⟨g,cap,cur,rfl,hlt,hbg,_⟩:=owns_cells ho (show 0 < 8 by decide)
  refine Xa0 ?_
  refine ⟨fun l w'=>∃ j:Nat,l = [.int .i64 (j:Int)] ∧ j ≤ 8 ∧ OwnW w' w2.heap.size (.slice (some ⟨g,0,none⟩) 8 cap) (adL q s j) ∧ Nx w2 w',fun l _=>match l with | [.int _ j]=>8 - j.toNat | _=>0,⟨0,rfl,by omega,ho,hB⟩,?_⟩
  clear ho hB hlt
  rintro _ _ w6 ⟨j,rfl,hj,ho,hB⟩
  by_cases hj8:j < 8
  ·have h8:=adL_length q s j
   refine Xa0 ?_
   have hB:=hB.on (.drawn (B:=w6.heap.size))
   have ho:=ho.keep (.drawn (B:=w6.heap.size))
   refine ⟨Nx { w6 with drawn:=w6.drawn + 1 },Below.refl _ _,rfl,?_⟩
   generalize ({ w6 with drawn:=w6.drawn + 1 }:World) = w7 at ho hB ⊢
   obtain ⟨bv,ov,cv,hv,hvr⟩:=ho.read.at (by omega)
   rw [h8] at hv hvr
   cases hv
   have cv:=fun w' h=>hvr w' h j hj8
   have ch:=fun w' (h:Nx w7 w')=>hhr w' (hB.on h) j hj8
   rw [adL_at q s hj8] at cv
   simp only [Nat.zero_add] at cv
   have hs8:s.list.length = 8:=rfl
   refine Xf (fun W0 hW0=>An2 (cv _ hW0) (ch _ hW0)) (An3 @wadd @adL_length @hs8) ?_
   refine ⟨Nx,fun w8 h8'=>?_⟩
   obtain ⟨g2,c2,hv2,hb2,hset⟩:=setW (T:=0) (i:=j) (at' q.list j + at' s.list j) (ho.keep h8') (by rw [h8]; exact hj8)
   cases hv2
   refine hset _ (fun w9 hg9 ho9=>?_)
   rw [adL_set q s hj8] at ho9
   have hB9:=grown_below (hB.on h8') hg9 hb2
   refine Xa0 ?_
   refine ⟨⟨j + 1,rfl,hj8,ho9,hB9⟩,?_⟩
   show 8 - ((j:Int) + 1).toNat < 8 - (j:Int).toNat
   omega
  ·obtain rfl:j = 8:=by omega
   refine Xa0 ?_
   exact k _ _ (hA.trans (hB.mono hA.size)) (owns_base ho hA.size)
end
end Go.Proofs
namespace Go.Proofs
open Go Go.Sh Go.RowKit ShaSpec FdSpec TkSpec
section
variable {K:Value → World → Prop} {w w0:World}
theorem OwnB.keep {B:Nat} {v:Value} {l:List UInt8} {w':World} (h:OwnB w B v l) (hb:Below w.heap.size w w'):OwnB w' B v l:=
 owns_keep h (fun i hi=>hb.block i (owns_own h hi).1)
theorem OwnB.shape {B:Nat} {v:Value} {l:List UInt8} (h:OwnB w B v l):∃ ad c,v = .slice ad l.length c:=by
 rcases h.2 with ⟨rfl,h0⟩ | ⟨g,cap,cur,rfl,_⟩
 ·exact ⟨none,0,by rw [h0]⟩
 ·exact ⟨_,cap,rfl⟩
theorem mkB0 {T:TypeId} (k:∀ v W,Below w.heap.size w W → OwnB W w.heap.size v [] → K v W):oM Tryz.prog (.buildSlice 181 0 #[]) T [] K w:=by
 rw [oM_buildSlice0]
 have e:(Instr.buildSlice 181 0 #[]).run Tryz.prog w = .ok (.slice (some ⟨w.heap.size,0,none⟩) 0 0) (w.alloc (.cells #[] 5)):=by kernel_rfl
 rw [e]
 exact k _ _ ((Below.refl _ w).alloc (Nat.le_refl _) _) ⟨rfl,.inr ⟨w.heap.size,0,#[],rfl,Nat.le_refl _,heap_alloc_new w _,Nat.le_refl _,by decide,rfl,rfl⟩⟩
theorem appendBs {B:Nat} {T:TypeId} {v:Value} {l m:List UInt8} {g o n c:Nat} (ho:OwnB w B v l) (hB:B ≤ w.heap.size) (hn:n = m.length) (hx:∀ i,i < m.length → w.cell? ⟨g,o + i,none⟩ = some (.int .u8 ((m.getD i 0).toNat:Int))) (hl:l.length + m.length < 1099511627776)
  (k:∀ v' w',OwnB w' B v' (l ++ m) → Below B w w' → K v' w'):oM Tryz.prog (.call { callee:=.builtin .append,args:=#[.tmp 0,.tmp 1],argTypes:=#[181,181] }) T [v,.slice (some ⟨g,o,none⟩) n c] K w:=by
 subst hn
 refine append_at 181 T 5 ((Tryz.prog.info? 5).getD default) (.int .u8 0) 1 1 (by kernel_rfl) (by kernel_rfl) (by kernel_rfl) (by kernel_rfl) (by kernel_rfl) (by kernel_rfl) (by omega) (owns_base ho (Nat.zero_le _)) (Lib.byteCells m) (by simp [Lib.byteCells]) (by simp) ?_ ?_ (by simp only [maxLen]; omega) (by omega) ?_
 ·rintro a ha j u hj
  cases ha
  have hjl:j < m.length:=by have:=(List.getElem?_eq_some_iff.1 hj).1; simpa [Lib.byteCells] using this
  rw [add_none,hx j hjl,← hj]
  simp [Lib.byteCells,List.getD_eq_getElem?_getD,hjl]
 ·intro u hu
  simp only [Lib.byteCells,List.mem_map] at hu
  obtain ⟨x,_,rfl⟩:=hu
  rfl
 ·intro v' w' ho' hg hv
  have hbl:∀ i,v.ownBlock = some i → B ≤ i:=fun i hi=>(owns_own ho hi).2.1
  refine k v' w' ?_ ((Below.refl B w).grown hg hB hbl)
  have e2:Lib.byteCells (l ++ m) = Lib.byteCells l ++ Lib.byteCells m:=by simp [Lib.byteCells]
  show w'.ownsRow B 5 1 v' (l ++ m).length (Lib.byteCells (l ++ m))
  rw [List.length_append,e2]
  exact owns_up ho' (fun i hi=>(hv i hi).elim (hbl i) (fun h=>Nat.le_trans hB h))
theorem pushO {B:Nat} {T T':TypeId} {v:Value} {l:List UInt8} (x:UInt8) {n:Int} (hx:n = (x.toNat:Int)) (ho:OwnB w B v l) (hB:B ≤ w.heap.size) (hl:l.length + 1 < 1099511627776) (k:∀ v' w',OwnB w' B v' (l ++ [x]) → Below B w w' → K v' w') :
  oM Tryz.prog (.buildSlice 181 1 #[(0,.tmp 0)]) T [.int .u8 n] (fun u w=>oM Tryz.prog (.call { callee:=.builtin .append,args:=#[.tmp 0,.tmp 1],argTypes:=#[181,181] }) T' [v,u] K w) w:=by
 subst hx
 refine mkB1 x fun g W hb hc=>?_
 refine appendBs (m:=[x]) (ho.keep hb) (Nat.le_trans hB hb.size) rfl (fun i hi=>?_) hl (fun v' w' ho' hb'=>k v' w' ho' ((hb.mono hB).trans hb'))
 obtain rfl:i = 0:=by simp at hi; omega
 exact hc
def RzJ (w0:World) (s:List UInt8) (l:List Value) (w':World):Prop:=∃ v j,l = [v] ∧ j ≤ zeros s.length ∧ OwnB w' w0.heap.size v (s ++ [128] ++ List.replicate j 0) ∧ Below w0.heap.size w0 w'
def RlJ (w0:World) (s:List UInt8) (l:List Value) (w':World):Prop:=∃ (v:Value) (j:Nat),l = [v,.int .i64 (56 - 8 * (j:Int))] ∧ j ≤ 8 ∧ OwnB w' w0.heap.size v (s ++ [128] ++ List.replicate (zeros s.length) 0 ++ (lenBytes s.length).take j) ∧ Below w0.heap.size w0 w'
theorem padded_ok (s:List UInt8) (hs:s.length ≤ 1000000000) {v0:Value} (h0:BufM w 5 v0 s) (k:∀ v w',OwnB w' w.heap.size v (padded s) → Below w.heap.size w w' → K v w'):callM Tryz.prog 196 #[v0] K w:=by
 apply sh_196_ok
 unfold sh_196
 obtain ⟨g0,c0,rfl,hlt0⟩:=h0.shape
 have hby:=bufByR h0
 refine mkB0 fun v1 w1 h1 ho1=>?_
 refine appendBs (m:=s) ho1 h1.size rfl (fun i hi=>(hby.next h1).2 i hi) (by simp; omega) (fun v2 w2 ho2 h2=>?_)
 have h2:=h1.trans h2
 rw [List.nil_append] at ho2
 refine pushO 128 rfl ho2 h2.size (by omega) (fun v3 w3 ho3 h3=>?_)
 have h3:=h2.trans h3
 refine ⟨RzJ w s,zeMu (s.length + 1 + zeros s.length),⟨_,0,rfl,by omega,by simpa using ho3,h3⟩,?_⟩
 rintro _ _ w1 ⟨v1,j,rfl,hj,ho,hB⟩
 obtain ⟨ad1,c1,rfl⟩:=ho.shape
 have hz:zeros s.length < 64:=by unfold zeros; omega
 by_cases hjz:j < zeros s.length
 ·have hm:¬ ((s.length:Int) + 1 + (j:Int)).tmod 64 = 56:=by
   rw [Int.tmod_eq_emod_of_nonneg (by omega)]; unfold zeros at hjz; omega
  rw [sha_len] at *
  repeat (any_goals (first
  | ((with_reducible refine pushO 0 rfl ho hB.size (by rw [sha_len]; omega) ?_); intro v2 w2 ho2 h2)
  | (with_reducible refine yL ?_)
  | ((with_reducible refine oM_gen fun Kv hK=>?_); simp [go_sem,hm]; refine hK _ _ ?_; clear hK Kv)))
  have h2:=hB.trans h2
  have e:s ++ [(128:UInt8)] ++ List.replicate j 0 ++ [0] = s ++ [128] ++ List.replicate (j + 1) 0:=by
   simp [List.replicate_succ',List.append_assoc]
  rw [e] at ho2
  obtain ⟨ad2,c2,rfl⟩:=ho2.shape
  refine ⟨⟨_,j + 1,rfl,hjz,ho2,h2⟩,?_⟩
  rw [sha_len]
  simp only [zeMu_eq]; omega
 ·obtain rfl:j = zeros s.length:=by omega
  have hm:((s.length:Int) + 1 + (zeros s.length:Int)).tmod 64 = 56:=by
   rw [Int.tmod_eq_emod_of_nonneg (by omega)]; unfold zeros; omega
  rw [sha_len] at *
  have hq:IntKind.u64.wrap (s.length:Int) = (s.length:Int):=wrapU64 _ (by omega) (by omega)
  refine Xa (An2 @hm @hq) ?_
  refine ⟨RlJ w s,leMu,⟨_,0,rfl,by omega,by simpa using ho,hB⟩,?_⟩
  clear ho hB hm
  rintro _ _ w1 ⟨v1,j,rfl,hj,ho,hB⟩
  have hle:(s ++ [(128:UInt8)] ++ List.replicate (zeros s.length) 0 ++ (lenBytes s.length).take j).length = s.length + 1 + zeros s.length + j:=by
   rw [List.length_append,sha_len,List.length_take,lenBytes_length]; omega
  by_cases hj8:j < 8
  ·have hsh:=fun t t' T x=>oM_shr64 (P:=Tryz.prog) t t' T .i64 x (56 - 8 * (j:Int)) (by omega) (by omega)
   repeat (any_goals (first
   | ((with_reducible refine pushO ((lenBytes s.length).getD j 0) (lenByte _ _ hj8 (by omega)) ho hB.size (by omega) ?_); intro v2 w2 ho2 h2)
   | (with_reducible refine yN ?_)
   | ((with_reducible refine oM_gen fun Kv hK=>?_); simp [go_sem,hq,hsh]; (try simp (disch:=omega) only [wrapI64,wrapU8,wrapU32,wrapU64]); refine hK _ _ ?_; clear hK Kv)))
   refine ⟨⟨_,j + 1,by rw [show 56 - 8 * (j:Int) - 8 = 56 - 8 * ((j + 1:Nat):Int) by omega],hj8,?_,hB.trans h2⟩,?_⟩
   ·rw [take_next _ _ (by rw [lenBytes_length]; exact hj8),← List.append_assoc]
    exact ho2
   ·simp only [leMu_eq]; omega
  ·obtain rfl:j = 8:=by omega
   rw [List.take_of_length_le (by rw [lenBytes_length]; omega)] at ho
   refine Xa0 ?_
   exact k _ _ ho hB
end
end Go.Proofs
namespace Go.Proofs
open Go Go.Sh Go.RowKit ShaSpec FdSpec TkSpec
section
variable {K:Value → World → Prop} {w w0:World}
theorem slice64 {T:TypeId} {g n c t:Nat} {j:Int} (hj:j = ((64 * t + 64:Nat):Int)) (hn:64 * t + 64 ≤ c) (k:K (.slice (some ⟨g,64 * t,none⟩) 64 (c - 64 * t)) w) :
  oM Tryz.prog (.slice 181 (.tmp 0) (some (.tmp 1)) (some (.tmp 2)) none) T [.slice (some ⟨g,0,none⟩) n c,.int .i64 ((64 * t:Nat):Int),.int .i64 j] K w:=by
 subst hj
 have hs:∀ w,(sizeOf (Tryz.prog.elem 181)).run Tryz.prog w = .ok 1 w:=fun w=>by kernel_rfl
 rw [rM_of (S:=Instr.sliceAt 181 (.slice (some ⟨g,0,none⟩) n c) (some (.int .i64 ((64 * t:Nat):Int))) (some (.int .i64 ((64 * t + 64:Nat):Int))) none) rfl,
  run_sliceAt_slice w 181 _ _ _ _ (by kernel_rfl),run_slice_lh w 181 _ n c (by kernel_rfl) .i64 .i64 _ _ (by omega) (by omega) (by omega),hs]
 simp only [Result.andThen_ok,sliced,Int.toNat_natCast]
 rw [if_neg (by omega),show 64 * t + 64 - 64 * t = 64 by omega]
 simp only [Option.map_some,add_none,Nat.mul_one,Nat.zero_add,rM_ok]
 exact k
def RbJ (w0:World) (p:List UInt8) (m:Nat) (R:St) (l:List Value) (w':World):Prop:=
 ∃ (v:Value) (t:Nat) (st:St),l = [v,.int .i64 ((64 * t:Nat):Int)] ∧ t ≤ m ∧ WrdR w' v st.list ∧ Nx w0 w' ∧ blocks (m - t) st (p.drop (64 * t)) = R
def rbMu (n:Nat) (l:List Value) (_:World):Nat:=match l with | [_,.int _ i]=>n - i.toNat | _=>0
theorem rbMu_eq (n:Nat) (a:Value) (q:IntKind) (i:Int) (w:World):rbMu n [a,.int q i] w = n - i.toNat:=rfl
def shaL (st:St):List UInt8:=(st.list.map out1).flatten
theorem shaL_length (st:St):(shaL st).length = 32:=by simp [shaL,St.list,out1]
theorem shaL_at (st:St):∀ i,i < 32 → (shaL st).getD i 0 = lo8 (at' st.list (i / 4) >>> (24 - 8 * (i % 4))):=by
 intro i hi
 have e:shaL st = [out1 st.a,out1 st.b,out1 st.c,out1 st.d,out1 st.e,out1 st.f,out1 st.g,out1 st.h].flatten:=rfl
 rw [e]
 simp only [out1_eq]
 obtain ⟨q,r,rfl,hr⟩:∃ q r,i = 4 * q + r ∧ r < 4:=⟨i / 4,i % 4,by omega,by omega⟩
 rw [show (4 * q + r) / 4 = q by omega,show (4 * q + r) % 4 = r by omega]
 have hq:q < 8:=by omega
 rcases q with _ | _ | _ | _ | _ | _ | _ | _ | q
 all_goals first | omega | skip
 all_goals (rcases r with _ | _ | _ | _ | r <;> first | omega | rfl | (show lo8 _ = lo8 _; congr 1))
def RoJ (w0:World) (st:St) (l:List Value) (w':World):Prop:=∃ (v:Value) (i:Nat),l = [v,.int .i64 (i:Int)] ∧ i ≤ 32 ∧ OwnB w' w0.heap.size v ((shaL st).take i) ∧ Nx w0 w'
def roMu (l:List Value) (_:World):Nat:=match l with | [_,.int _ i]=>32 - i.toNat | _=>0
theorem roMu_eq (a:Value) (q:IntKind) (i:Int) (w:World):roMu [a,.int q i] w = 32 - i.toNat:=rfl
theorem rSha_ok (s:List UInt8) (hs:s.length ≤ 1000000000) (k:∀ w',Below w.heap.size w w' → K (.string ⟨(sha s).toArray⟩) w'):callM Tryz.prog 171 #[.string ⟨s.toArray⟩] K w:=by
 apply sh_171_ok
 unfold sh_171
 refine ofStr s fun v0 w1 h1=>?_
 have hN1:Nx w w1:=h1.below
 refine padded_ok s hs h1.row (fun v1 w2 ho2 h2=>?_)
 have hN2:Nx w w2:=hN1.on h2
 refine firsts_ok fun v2 w3 h3 ho3=>?_
 have hN3:Nx w w3:=hN2.on h3
 have ho1:=ho2.keep h3
 have hp64:=padded_length s
 obtain ⟨m,hm⟩:∃ m,(padded s).length = 64 * m:=⟨(padded s).length / 64,by omega⟩
 have hpl:(padded s).length = s.length + 1 + zeros s.length + 8:=by
  simp only [padded,List.length_append,List.length_replicate,lenBytes_length,List.length_singleton]
 have hpz:zeros s.length < 64:=by unfold zeros; omega
 obtain ⟨g,cap,cur,rfl,hlt,_,_,_,hcap,hc⟩:=owns_cells ho1 (by omega)
 have hby:ByR w3 g 0 (padded s):=⟨hlt,fun i hi=>by
  rw [Nat.zero_add]
  exact hc i _ (by simp [Lib.byteCells,List.getD_eq_getElem?_getD,hi])⟩
 have ef:sha s = shaL (blocks m first (padded s)):=by
  unfold sha shaL
  rw [hm,Nat.mul_div_cancel_left m (by omega)]
 refine ⟨RbJ w3 (padded s) m (blocks m first (padded s)),rbMu (64 * m),⟨_,0,first,rfl,by omega,ho3.read,Below.refl _ _,rfl⟩,?_⟩
 clear ho3 ho1 hc hlt ho2 h2 h1
 generalize blocks m first (padded s) = R at *
 rintro _ _ w4 ⟨hv,t,st,rfl,ht,hw,hN,hR⟩
 by_cases htm:t < m
 ·obtain ⟨r,hr⟩:∃ r,m - t = r + 1:=⟨m - t - 1,by omega⟩
  rw [hr] at hR
  have hlen:((padded s).length:Int) = 64 * (m:Int):=by omega
  have hlt64:(64 * t:Nat) < (64 * m:Nat):=by omega
  refine Xa @hlen ?_
  refine slice64 (t:=t) (by omega) (by omega) ?_
  have hpart:=(hby.next hN).part (64 * t) 64 (by omega)
  rw [Nat.zero_add] at hpart
  refine block_ok st _ (by rw [List.length_take,List.length_drop]; omega) hpart hw (fun v5 w5 h5 ho5=>?_)
  refine Xa0 ?_
  refine ⟨⟨v5,t + 1,_,by rw [show (64 * (t:Int) + 64) = ((64 * (t + 1):Nat):Int) by omega],by omega,ho5.read,hN.on h5,?_⟩,?_⟩
  ·rw [show m - (t + 1) = r by omega,← hR]
   show _ = blocks r (mix st ((List.drop (64 * t) (padded s)).take 64)) ((List.drop (64 * t) (padded s)).drop 64)
   rw [List.drop_drop,show 64 * t + 64 = 64 * (t + 1) by omega]
  ·simp only [rbMu_eq]; omega
 ·obtain rfl:t = m:=by omega
  rw [Nat.sub_self] at hR
  have hst:st = R:=hR
  subst hst
  have hlen:((padded s).length:Int) = 64 * (t:Int):=by omega
  repeat (any_goals (first
  | ((with_reducible refine mkB0 ?_); intro v5 w5 h5 ho5)
  | (with_reducible refine yM ?_)
  | ((with_reducible refine oM_gen fun Kv hK=>?_); simp [go_sem,hlen]; refine hK _ _ ?_; clear hK Kv)))
  obtain ⟨bh,oh,chh,rfl,hhr⟩:=hw.at (show 0 < 8 by decide)
  have hN5:Nx w4 w5:=h5
  refine ⟨RoJ w4 st,roMu,⟨_,0,rfl,by omega,ho5,hN5⟩,?_⟩
  clear ho5 h5 hN5
  rintro _ _ w6 ⟨v6,i,rfl,hi,ho6,hN6⟩
  by_cases hi32:i < 32
  ·have hl:=shaL_length st
   have e1:(i:Int).tdiv 4 = ((i / 4:Nat):Int):=by rw [Int.tdiv_eq_ediv_of_nonneg (by omega)]; omega
   have e2:(i:Int).tmod 4 = ((i % 4:Nat):Int):=by rw [Int.tmod_eq_emod_of_nonneg (by omega)]; omega
   have hs8:st.list.length = 8:=rfl
   have hcell:=hhr w6 hN6 (i / 4) (by rw [hs8]; omega)
   obtain ⟨q,hq⟩:∃ q,q = i / 4:=⟨_,rfl⟩
   obtain ⟨r,hr⟩:∃ r,r = i % 4:=⟨_,rfl⟩
   have hat:=shaL_at st i hi32
   rw [← hq] at e1 hcell hat
   rw [← hr] at e2 hat
   have hsh:∀ t t' T,oM Tryz.prog (.binOp .shr t (.tmp 0) (.tmp 1) t') T [w32 (at' st.list q),.int .i64 (24 - 8 * (r:Int))] = pureM (w32 (at' st.list q >>> (24 - 8 * r))):=fun t t' T=>by
    have:=wshr (P:=Tryz.prog) t t' T .i64 (at' st.list q) (24 - 8 * r) (by omega)
    rw [← this]
    congr 4
    omega
   repeat (any_goals (first
   | ((with_reducible refine pushO (lo8 (at' st.list q >>> (24 - 8 * r))) rfl ho6 hN6.size (by rw [List.length_take]; omega) ?_); intro v7 w7 ho7 h7)
   | (with_reducible refine yN ?_)
   | ((with_reducible refine oM_gen fun Kv hK=>?_); simp [go_sem,e1,e2,hcell,hs8,hsh,conv_w8]; (try simp (disch:=omega) only [wrapI64,wrapU8,wrapU32,wrapU64]); (first|refine hK _ _ ?_|refine And.intro (by omega) (hK _ _ ?_)); clear hK Kv)))
   rw [← hat,← take_next (shaL st) i (by omega)] at ho7
   refine ⟨⟨v7,i + 1,rfl,hi32,ho7,hN6.trans h7⟩,?_⟩
   simp only [roMu_eq]; omega
  ·obtain rfl:i = 32:=by omega
   rw [List.take_of_length_le (by rw [shaL_length]; omega)] at ho6
   repeat (any_goals (first
   | ((with_reducible refine toStrB ho6 (by rw [shaL_length]; omega) ?_))
   | (with_reducible refine yM ?_)
   | ((with_reducible refine oM_gen fun Kv hK=>?_); simp [go_sem]; refine hK _ _ ?_; clear hK Kv)))
   rw [← ef]
   exact k _ ((hN3.on hN).on hN6)
def RnJ (n R:Int) (d:List UInt8) (w0:World) (l:List Value) (w':World):Prop:=Below w0.heap.size w0 w' ∧ ∃ (o:Int) (i:Nat),l = [.int .i64 o,.int .i64 (i:Int)] ∧ i ≤ d.length ∧ (d.drop i).foldl (numStep n) o = R
theorem rNumber_ok (s:List UInt8) (n:Int) (hs:s.length ≤ 1000000000) (k:∀ w',Below w.heap.size w w' → K (.int .i64 (numberM s n)) w'):callM Tryz.prog 125 #[.string ⟨s.toArray⟩,.int .i64 n] K w:=by
 apply sh_125_ok
 unfold sh_125
 unfold numberM at k
 refine rValid_ok n ?_
 by_cases hn:okN n
 ·rw [if_pos hn] at k
  refine Xa0 ?_
  refine rSha_ok s hs (fun w1 h1=>?_)
  have hl:=ShaSpec.sha_length s
  generalize ShaSpec.sha s = d at *
  refine ⟨RnJ n (d.foldl (numStep n) 0) d w,rpdMu d.length,⟨h1,_,0,rfl,by omega,rfl⟩,?_⟩
  clear h1
  rintro _ _ w3 ⟨h3,o,i,rfl,hi,hf⟩
  have hds:(⟨d.toArray⟩:ByteArray).size = d.length:=rfl
  by_cases hin:i < d.length
  ·have hbt:byteAt ⟨d.toArray⟩ i = d[i]:=by
    unfold byteAt
    simp [hin]
   refine Xa @hds ?_
   refine ⟨Nx w3,.drawn,?_⟩
   refine callQ_of (fun W0 hW0=>rMul_ok n o 256 ⟨rfl,hW0⟩) ?_
   have hu:=(d[i]).toNat_lt
   have hw8:IntKind.i64.wrap ((d[i]).toNat:Int) = ((d[i]).toNat:Int):=wrapI64 _ (by omega) (by omega)
   refine Xg (An3 @hds @hbt @hw8) ?_
   refine callQ_of (fun W0 hW0=>rAdd_ok n _ _ ⟨rfl,hW0⟩) ?_
   intro w4 h4
   refine Xa0 ?_
   rw [List.drop_eq_getElem_cons hin,List.foldl_cons] at hf
   refine ⟨⟨h3.on h4,_,i + 1,rfl,by omega,hf⟩,?_⟩
   simp only [rpdMu_eq]; omega
  ·rw [List.drop_of_length_le (by omega),List.foldl_nil] at hf
   refine Xa @hds ?_
   rw [hf]
   exact k _ h3
 ·rw [if_neg hn] at k
  refine Xa0 ?_
  exact k _ (Below.refl _ _)
end
end Go.Proofs
namespace Go.Proofs.Cd
open Go Go.Sh Go.RowKit Go.Lib CodeSpec
theorem digits_ok (m:Nat) (hm:m ≤ 9223372036854775808) {K:Value → World → Prop} {w:World} (k:∀ w',Below w.heap.size w w' → K (.string ⟨(decDigits m).toArray⟩) w'):callM Tryz.prog 169 #[.int .i64 (-(m:Int))] K w:=by
 induction m using Nat.strongRecOn generalizing K w with
 | ind m ih=>
 apply sh_169_ok
 unfold sh_169
 have hr:(-(m:Int)).tmod 10 = -((m % 10:Nat):Int):=by rw [Int.neg_tmod,Int.tmod_eq_emod_of_nonneg (by omega)]; omega
 have hq:(-(m:Int)).tdiv 10 = -((m / 10:Nat):Int):=by rw [Int.neg_tdiv,Int.tdiv_eq_ediv_of_nonneg (by omega)]; omega
 obtain ⟨d,hd⟩:∃ d,d = m % 10:=⟨_,rfl⟩
 obtain ⟨q,hqq⟩:∃ q,q = m / 10:=⟨_,rfl⟩
 rw [← hd] at hr
 rw [← hqq] at hq
 have hd10:d < 10:=by omega
 have hconv:(convert 181 9 (.slice (some ⟨w.heap.size,0,none⟩) 1 1)).run Tryz.prog (w.alloc (.cells #[.int .u8 (48 + (d:Int))] 5)) = .ok (.string ⟨[UInt8.ofNat (48 + d)].toArray⟩) (w.alloc (.cells #[.int .u8 (48 + (d:Int))] 5)):=by
  refine run_convert_bytes_back (P:=Tryz.prog) _ 181 9 5 ⟨w.heap.size,0,none⟩ 1 [UInt8.ofNat (48 + d)] Tryz.underlying181 (by kernel_rfl) Tryz.underlying9 ?_
  intro j hj
  obtain rfl:j = 0:=by simpa using hj
  have hdn:=digit_toNat d hd10
  rw [addr_add]
  unfold World.cell?
  rw [heap_alloc_new]
  simp only [List.getElem_cons_zero,hdn]
  simp
 have hba:Below w.heap.size w (w.alloc (.cells #[.int .u8 (48 + (d:Int))] 5)):=(Below.refl _ _).alloc (Nat.le_refl _) _
 have hdl:=decDigits_len q 19 (by omega) (by omega)
 repeat (any_goals (first
 | (with_reducible ((refine idCond ?_); refine yP (fun hg=>?_) fun hg=>?_))
 | ((with_reducible refine oM_gen fun Kv hK=>?_); simp [go_sem,hr,hq,hconv]; (try simp (disch:=omega) only [wrapI64,wrapU8,wrapU32,wrapU64]); refine hK _ _ ?_; clear hK Kv)))
 ·refine K_eq (k _ hba) ?_
  have:m < 10:=by omega
  rw [decDigits,dif_pos this]
  have:d = m:=by omega
  rw [this]
  simp
 ·refine ih q (by omega) (by omega) ?_
  intro w' hb
  refine Xa0 ?_
  refine K_eq (k _ (hba.trans (hb.mono (by simp)))) ?_
  have:¬ m < 10:=by omega
  rw [decDigits.eq_def m,dif_neg this,hd,hqq]
  simp
theorem itoa_neg (n:Int) (h:n < 0):itoa n = 45 :: decDigits n.natAbs:=by rw [itoa,if_pos h]
theorem itoa_pos (n:Int) (h:¬ n < 0):itoa n = decDigits n.natAbs:=by
 rw [itoa,if_neg h]
 congr 1
 omega
theorem dig_len (n:Int) (h:InR n):(decDigits n.natAbs).length ≤ 19:=by
 obtain ⟨h1,h2⟩:=h
 exact decDigits_len n.natAbs 19 (by omega) (by omega)
theorem qInt_ok (n:Int) (hn:InR n) {K:Value → World → Prop} {w:World} (k:∀ w',Below w.heap.size w w' → K (.string ⟨(encInt n).toArray⟩) w'):callM Tryz.prog 170 #[.int .i64 n] K w:=by
 apply sh_170_ok
 unfold sh_170
 have hl:=dig_len n hn
 have hn':=hn
 obtain ⟨h1,h2⟩:=hn'
 by_cases hneg:n < 0
 ·have e:n = -(n.natAbs:Int):=by omega
  refine Xa0 ?_
  conv=>enter [3]; rw [e]
  refine digits_ok n.natAbs (by omega) ?_
  intro w' hb
  refine Xa0 ?_
  exact K_eq (k _ hb) (by rw [encInt,itoa_neg n hneg]; simp)
 ·have e:-n = -(n.natAbs:Int):=by omega
  refine Xa0 ?_
  rw [e]
  refine digits_ok n.natAbs (by omega) ?_
  intro w' hb
  refine Xa0 ?_
  exact K_eq (k _ hb) (by rw [encInt,itoa_pos n hneg])
theorem itoa_nat (m:Nat):itoa (m:Int) = decDigits m:=by
 rw [itoa,if_neg (by omega)]; simp
theorem qText_ok (s:List UInt8) (hs:s.length < 2^60) {K:Value → World → Prop} {w:World} (k:∀ w',Below w.heap.size w w' → K (.string ⟨(encText s).toArray⟩) w'):callM Tryz.prog 126 #[.string ⟨s.toArray⟩] K w:=by
 apply sh_126_ok
 unfold sh_126
 have hl:=decDigits_len s.length 19 (by omega) (by omega)
 refine Xa0 ?_
 refine digits_ok s.length (by omega) ?_
 intro w' hb
 refine Xa0 ?_
 exact K_eq (k _ hb) (by simp [encText,itoa_nat])
theorem qNums_ok (xs:List (Int)) (v:Value) {K:Value → World → Prop} {w:World} (hrow:RowOf intV w v xs) (hx:∀ x ∈ xs,InR x) (hlen:(encList (xs.map encInt)).length < 2^40)
  (k:∀ w',Below w.heap.size w w' → K (.string ⟨(encList (xs.map encInt)).toArray⟩) w'):callM Tryz.prog 124 #[v] K w:=by
 apply sh_124_ok
 unfold sh_124
 have hsz:(encList (xs.map encInt)).length = (itoa (xs.length:Nat)).length + 1 + ((xs.map encInt).flatten).length + 1:=by simp [encList]; omega
 have hxl:xs.length ≤ (xs.map encInt).flatten.length:=by
  rw [List.length_flatten]
  clear hrow hlen hsz k
  induction xs with
  | nil=>simp
  | cons x xs ih=>
   have:=ih (fun y hy=>hx y (List.mem_cons_of_mem _ hy))
   have h1:1 ≤ (encInt x).length:=by simp [encInt]; try omega
   simp only [List.length_cons,List.map_cons,List.sum_cons]
   omega
 have hdl:=decDigits_len xs.length 19 (by omega) (by omega)
 obtain ⟨ad,c,rfl,hcell⟩:=hrow
 refine Xa0 ?_
 refine digits_ok xs.length (by omega) ?_
 intro w1 hb1
 refine Xa0 ?_
 refine ⟨fun l w'=>∃ (k:Nat),l = [.string ⟨(itoa (xs.length:Nat) ++ 91 :: ((xs.take k).map encInt).flatten).toArray⟩,.int .i64 k] ∧ k ≤ xs.length ∧ Below w.heap.size w w',fun l _=>xs.length - (match l with | [_,.int _ n]=>n.toNat | _=>0),⟨0,by simp [itoa_nat],by omega,hb1⟩,?_⟩
 rintro _ _ w3 ⟨j,rfl,hj,hb3⟩
 have hz3:=hb3.size
 simp only [List.getD_cons_zero,List.getD_cons_succ]
 have hfl:=flat_le encInt xs j
 by_cases hlt:j < xs.length
 ·rcases hcell with rfl | ⟨b,o,rfl,hbw,hcells⟩
  ·simp at hlt
  have hc:=hcells j hlt
  rw [← hb3.cell hbw] at hc
  simp only [intV] at hc
  have hix:=idx22 (b:=b) (o:=o) (c:=c) hlt w3
  have hP:=hx xs[j] (List.getElem_mem hlt)
  have hfl1:=flat_le encInt xs (j + 1)
  rw [flat_snoc _ _ _ hlt,List.length_append] at hfl1
  have hgoal:∀ w4,Below w3.heap.size w3 w4 → ∃ k:Nat,([Value.string ⟨((itoa (xs.length:Nat) ++ 91 :: ((xs.take j).map encInt).flatten) ++ encInt xs[j]).toArray⟩,Value.int .i64 ((j:Int) + 1)] = [.string ⟨(itoa (xs.length:Nat) ++ 91 :: ((xs.take k).map encInt).flatten).toArray⟩,.int .i64 (k:Int)]) ∧ k ≤ xs.length ∧ Below w.heap.size w w4:=
   fun w4 hb4=>⟨j + 1,by rw [flat_snoc _ _ _ hlt]; simp,hlt,hb3.trans (hb4.mono hz3)⟩
  obtain ⟨F,hF⟩:∃ F,F = itoa (xs.length:Nat) ++ 91 :: ((xs.take j).map encInt).flatten:=⟨_,rfl⟩
  have hFl:F.length ≤ 2^41:=by rw [hF,List.length_append,List.length_cons]; omega
  obtain ⟨E,hE⟩:∃ E,E = encInt xs[j]:=⟨_,rfl⟩
  rw [← hF,← hE] at hgoal
  rw [← hE] at hfl1
  rw [← hF]
  repeat (any_goals (first
  | (rw [oM_indexAddr,hix,rM_ok])
  | (with_reducible refine yN ?_)
  | ((with_reducible refine oM_gen fun Kv hK=>?_); simp [go_sem,hc]; refine hK _ _ ?_; clear hK Kv)))
  refine qInt_ok _ hP ?_
  intro w4 hb4
  rw [← hE]
  refine Xa0 ?_
  exact ⟨hgoal w4 hb4,by simp; omega⟩
 ·obtain rfl:j = xs.length:=by omega
  rw [List.take_length] at hfl ⊢
  have hfin:∀ F,F = itoa (xs.length:Nat) ++ 91 :: ((xs.map encInt).flatten) → encList (xs.map encInt) = F ++ [93] ∧ F.length < 2^41:=by
   rintro F rfl
   refine ⟨by simp [encList],?_⟩
   rw [List.length_append,List.length_cons]; omega
  generalize itoa (xs.length:Nat) ++ 91 :: ((xs.map encInt).flatten) = F at *
  obtain ⟨hf1,hf2⟩:=hfin F rfl
  refine Xa0 ?_
  exact K_eq (k _ hb3) (by rw [hf1])
end Go.Proofs.Cd
namespace Go.Proofs
open Go Go.Sh Go.RowKit FdSpec TkSpec CodeSpec
section
variable {K:Value → World → Prop} {w w0:World} {L:List (Addr × Value)}
theorem in_ok (n lo hi:Int) (h:K (.bool (decide (lo ≤ n) && decide (n ≤ hi))) w):callM Tryz.prog 99 #[.int .i64 n,.int .i64 lo,.int .i64 hi] K w:=by
 apply sh_99_ok
 unfold sh_99
 by_cases h1:lo ≤ n
 ·refine Xa @h1 ?_
  simpa [h1] using h
 ·refine Xa @h1 ?_
  simpa [h1] using h
theorem qpower_ok (s:Stp) (x n:Int) {dv:Value} (hs:SetR w s dv) (k:∀ w',Below w.heap.size w w' → K (.int .i64 (powerG s.g x n)) w'):callM Tryz.prog 119 #[stpV s dv,.int .i64 x,.int .i64 n] K w:=by
 apply sh_119_ok
 unfold sh_119
 obtain ⟨ad,c,rfl⟩:=hs.ints.isSlice
 refine box_kn (cs:=stpC s (.slice ad s.bases.length c)) rfl (.start w) fun b W hk hb1 hb=>?_
 refine Xa hk.cells ?_
 refine rPower_ok s.g x n (fun w2 h2=>?_)
 exact k _ (hk.next h2).below
theorem qtimes_ok (s:Stp) (x y:Int) {dv:Value} (hs:SetR w s dv) (k:∀ w',Below w.heap.size w w' → K (.int .i64 (timesM s x [y])) w'):callM Tryz.prog 120 #[stpV s dv,.int .i64 x,.int .i64 y] K w:=by
 apply sh_120_ok
 unfold sh_120
 obtain ⟨ad,c,rfl⟩:=hs.ints.isSlice
 refine box_kn (cs:=stpC s (.slice ad s.bases.length c)) rfl (.start w) fun b W hk hb1 hb=>?_
 refine Xa hk.cells ?_
 refine rTimes_ok s.g x y (fun w2 h2=>?_)
 exact k _ (hk.next h2).below
theorem qmul_ok (s:Stp) (x y:Int) {dv:Value} (hs:SetR w s dv) (k:∀ w',Below w.heap.size w w' → K (.int .i64 (mulQ s x [y])) w'):callM Tryz.prog 102 #[stpV s dv,.int .i64 x,.int .i64 y] K w:=by
 apply sh_102_ok
 unfold sh_102
 obtain ⟨ad,c,rfl⟩:=hs.ints.isSlice
 refine box_kn (cs:=stpC s (.slice ad s.bases.length c)) rfl (.start w) fun b W hk hb1 hb=>?_
 refine Xa hk.cells ?_
 refine rMul_ok s.g.Q x y ?_
 exact k _ hk.below
theorem invM_powM (n y:Int):(invM n y).getD 0 = powM n y (-1):=by
 unfold powM
 by_cases hn:okN n
 ·rw [if_pos hn,if_neg (by decide)]
  cases hi:invM n y with
  | none=>rfl
  | some x=>
   have hx:0 ≤ x ∧ x < n:=by
    unfold invM at hi
    rw [if_pos hn] at hi
    split at hi
    ·cases hi
     exact ⟨Int.emod_nonneg _ (by have:=hn.1; omega),Int.emod_lt_of_pos _ (by have:=hn.1; omega)⟩
    ·cases hi
   show x = pw n x 1
   unfold pw
   have:x ^ 1 = x:=by rw [show (1:Nat) = 0 + 1 from rfl,Int.pow_succ,Int.pow_zero,Int.one_mul]
   rw [this,Int.emod_eq_of_lt hx.1 hx.2]
 ·unfold invM
  rw [if_neg hn,if_neg hn]; rfl
theorem qover_ok (s:Stp) (x y:Int) {dv:Value} (hs:SetR w s dv) (k:∀ w',Below w.heap.size w w' → K (.int .i64 (overQ s x y)) w'):callM Tryz.prog 101 #[stpV s dv,.int .i64 x,.int .i64 y] K w:=by
 apply sh_101_ok
 unfold sh_101
 obtain ⟨ad,c,rfl⟩:=hs.ints.isSlice
 refine box_kn (cs:=stpC s (.slice ad s.bases.length c)) rfl (.start w) fun b W hk hb1 hb=>?_
 unfold overQ at k
 rw [← invM_powM] at k
 refine Xa hk.cells ?_
 refine rInv_ok s.g.Q y ?_
 refine Xa hk.cells ?_
 refine qmul_ok s x _ (hs.next hk.below) (fun w2 h2=>?_)
 exact k _ (hk.next h2).below
theorem qproduct_ok (s:Stp) {dv ev:Value} {es:List Int} (hs:SetR w s dv) (he:Ints w ev es) (k:∀ w',Below w.heap.size w w' → K (.int .i64 (prodG s.g s.bases es).1) w'):callM Tryz.prog 122 #[stpV s dv,ev] K w:=by
 apply sh_122_ok
 unfold sh_122
 have hi:=hs.ints
 obtain ⟨ad,c,rfl⟩:=hs.ints.isSlice
 refine box_kn (cs:=stpC s (.slice ad s.bases.length c)) rfl (.start w) fun b W hk hb1 hb=>?_
 refine Xa hk.cells ?_
 refine rProduct_ok s.g (hi.next hk.below) (he.next hk.below) (fun w2 h2=>?_)
 refine Xa0 ?_
 exact k _ (hk.next h2).below
theorem mkI1 {T:TypeId} (x:Int) (k:∀ v W,Below w.heap.size w W → OwnI W w.heap.size v [x] → K v W):oM Tryz.prog (.buildSlice 22 1 #[(0,.tmp 0)]) T [.int .i64 x] K w:=by
 rw [oM_buildSlice1]
 have e:(Instr.buildSlice 22 1 #[(0,.int .i64 x)]).run Tryz.prog w = .ok (.slice (some ⟨w.heap.size,0,none⟩) 1 1) (w.alloc (.cells #[.int .i64 x] 3)):=by kernel_rfl
 rw [e]
 exact k _ _ ((Below.refl _ w).alloc (Nat.le_refl _) _) ⟨rfl,.inr ⟨w.heap.size,1,#[.int .i64 x],rfl,Nat.le_refl _,heap_alloc_new w _,Nat.le_refl _,by decide,rfl,rfl⟩⟩
theorem appendI {B:Nat} {T:TypeId} {v xv:Value} {l m:List Int} (ho:OwnI w B v l) (hB:B ≤ w.heap.size) (hx:Ints w xv m) (hl:l.length + m.length < 1099511627776)
  (k:∀ v' w',OwnI w' B v' (l ++ m) → Below B w w' → K v' w'):oM Tryz.prog (.call { callee:=.builtin .append,args:=#[.tmp 0,.tmp 1],argTypes:=#[22,22] }) T [v,xv] K w:=by
 obtain ⟨⟨ad,c,rfl,h0,hc⟩,hr,_⟩:=hx
 refine append_at 22 T 3 ((Tryz.prog.info? 3).getD default) (.int .i64 0) 1 8 (by kernel_rfl) (by kernel_rfl) (by kernel_rfl) (by kernel_rfl) (by kernel_rfl) (by kernel_rfl) (by omega) (owns_base ho (Nat.zero_le _)) (m.map (Value.int .i64)) (by simp) h0 ?_ ?_ (by simp only [maxLen]; omega) (by omega) ?_
 ·rintro a rfl j u hj
  rcases hc with rfl | ⟨b,o,hbo,hlt,hcell⟩
  ·simp at hj
  ·cases hbo
   rw [add_none]
   exact hcell j u (by rw [flat_int]; exact hj)
 ·intro u hu
  obtain ⟨x,_,rfl⟩:=List.mem_map.1 hu
  rfl
 ·intro v' w' ho' hg hv
  have hbl:∀ i,v.ownBlock = some i → B ≤ i:=fun i hi=>(owns_own ho hi).2.1
  refine k v' w' ?_ ((Below.refl B w).grown hg hB hbl)
  have e2:flat intC (l ++ m) = flat intC l ++ m.map (Value.int .i64):=by rw [flat_int,flat_int]; simp
  show w'.ownsRow B 3 1 v' (l ++ m).length (flat intC (l ++ m))
  rw [List.length_append,e2]
  exact owns_up ho' (fun i hi=>(hv i hi).elim (hbl i) (fun h=>Nat.le_trans hB h))
theorem Exps_ok {lv:Value} {l:List Int} (hl:Ints w lv l) (hll:l.length < 1000000) (k:∀ v w',Below w.heap.size w w' → Ints w' v (expsM l) → K v w'):callM Tryz.prog 105 #[lv] K w:=by
 apply sh_105_ok
 unfold sh_105
 refine mkI1 1 fun v W h1 ho=>?_
 refine appendI ho h1.size (hl.next h1) (by simp; omega) (fun v' w' ho' h2=>?_)
 exact k _ _ (h1.trans h2) (ho'.ints (by
  intro n hn
  rcases List.mem_cons.1 hn with rfl | hn
  ·exact ⟨by decide,by decide⟩
  ·exact hl.rng n hn) (by simp; omega))
def RsJ (s:Stp) (L:List (Addr × Value)) (R:Bool) (l:List Int) (w0:World) (vs:List Value) (w':World):Prop:=Kn w0 L w' ∧ ∃ (v:Value) (i:Nat),vs = [v,.int .i64 (i:Int)] ∧ i ≤ l.length ∧ numsM s 0 (l.drop i) = R
theorem numsM_cons (s:Stp) (m x:Int) (l:List Int):numsM s m (x :: l) = ((decide (m ≤ x) && decide (x < s.g.Q)) && numsM s m l):=rfl
theorem residues_ok (s:Stp) (n:Nat) {dv lv:Value} {l:List Int} (hQ:1 ≤ s.g.Q) (hs:SetR w s dv) (hl:Ints w lv l) (hn:n < 1000000) (k:∀ w',Below w.heap.size w w' → K (.bool (decide (l.length = n) && numsM s 0 l)) w'):callM Tryz.prog 121 #[stpV s dv,lv,.int .i64 (n:Int)] K w:=by
 apply sh_121_ok
 unfold sh_121
 obtain ⟨ad,c,rfl⟩:=hs.ints.isSlice
 refine box_kn (cs:=stpC s (.slice ad s.bases.length c)) rfl (.start w) fun b W hk hb1 hb=>?_
 obtain ⟨ad2,c2,rfl⟩:=hl.isSlice
 have hll:=hl.len
 have hQR:=hs.grp.2.1
 unfold I64 at hQR
 by_cases hln:l.length = n
 ·have hln':(l.length:Int) = (n:Int):=by omega
  rw [decide_eq_true hln,Bool.true_and] at k
  refine Xa @hln' ?_
  refine ⟨RsJ s _ (numsM s 0 l) l w,rpdMu l.length,⟨hk,_,0,rfl,by omega,rfl⟩,?_⟩
  generalize numsM s 0 l = R at *
  rintro _ _ w1 ⟨hk,u,i,rfl,hi,ha⟩
  by_cases hin:i = l.length
  ·rw [List.drop_of_length_le (by omega)] at ha
   refine Xa @hln' ?_
   rw [show R = true from ha.symm] at k
   exact k _ hk.below
  ·rw [List.drop_eq_getElem_cons (by omega),numsM_cons] at ha
   obtain ⟨b1,o1,rfl,hb1,ca,ra,_⟩:=hl.at (i:=i) (by omega)
   have hx:=ra
   generalize l[i] = x at *
   unfold I64 at hx
   have hin2:(decide ((0:Int) ≤ x) && decide (x ≤ s.g.Q - 1)) = (decide (0 ≤ x) && decide (x < s.g.Q)):=by
    congr 1
    exact decide_eq_decide.2 ⟨fun h=>by omega,fun h=>by omega⟩
   refine Xa @hln' ?_
   have qw:IntKind.i64.wrap (s.g.Q - 1) = s.g.Q - 1:=wrapI64 _ (by omega) (by omega)
   refine ⟨Kn w _,hk.drew,rfl,?_⟩
   clear hk
   repeat (any_goals (first
   | (with_reducible refine pureH_in ?_)
   | ((with_reducible refine idOH ?_); (with_reducible refine oH_of ⟨_,rfl⟩ (fun W0 hW0=>by (refine oM_gen (fun Kv hK=>?_)); simp [go_sem,ca _ hW0.below,hW0.cells,qw]; (first | exact hK _ _ ⟨rfl,rfl⟩ | exact ⟨by omega,hK _ _ ⟨rfl,rfl⟩⟩)) ?_))))
   refine ⟨Nx,fun w2 hk=>?_⟩
   refine in_ok x 0 _ ?_
   rw [hin2]
   cases hb:(decide ((0:Int) ≤ x) && decide (x < s.g.Q)) with
   | false=>
    rw [hb,Bool.false_and] at ha
    subst ha
    refine Xa0 ?_
    exact k _ hk.below
   | true=>
    rw [hb,Bool.true_and] at ha
    refine Xa0 ?_
    refine ⟨⟨hk,_,i + 1,rfl,by omega,ha⟩,?_⟩
    simp only [rpdMu_eq]; omega
 ·have hln':¬ (l.length:Int) = (n:Int):=by omega
  rw [decide_eq_false hln,Bool.false_and] at k
  refine Xa @hln' ?_
  exact k _ hk.below
theorem validS_Q {s:Stp} (h:validS s = true):5 ≤ s.g.Q ∧ validG s.g = true ∧ 2 ≤ s.bases.length ∧ s.bases.length ≤ 7:=by
 have hl:=validS_len h
 unfold validS at h
 simp only [Bool.and_eq_true,decide_eq_true_eq] at h
 have hg:=h.1.1.1.1
 exact ⟨(validG_facts hg).2.2.1,hg,hl⟩
theorem attributes_ok (s:Stp) {v lv:Value} {l:List Int} (hs:SetR w s v) (hl:Ints w lv l) (k:∀ w',Below w.heap.size w w' → K (.bool (markM s l).2) w'):callM Tryz.prog 151 #[stpV s v,lv] K w:=by
 apply sh_151_ok
 unfold sh_151
 obtain ⟨ad,c,rfl⟩:=hs.ints.isSlice
 refine box_kn (cs:=stpC s (.slice ad s.bases.length c)) rfl (.start w) fun b W hk hb1 hb=>?_
 have hll:=hl.len
 have hbl:=hs.ints.len
 have e0:(markM s l).2 = (validS s && decide (l.length + 1 = s.bases.length) && numsM s 0 l && !decide (l.headD 0 = 0)):=by
  unfold markM
  cases (validS s && decide (l.length + 1 = s.bases.length) && numsM s 0 l && !decide (l.headD 0 = 0)) <;> rfl
 have k2:∀ w' r,(validS s && decide (l.length + 1 = s.bases.length) && numsM s 0 l && !decide (l.headD 0 = 0)) = r → Below w.heap.size w w' → K (.bool r) w':=fun w' r e hb=>by rw [← e,← e0]; exact k w' hb
 clear k e0
 refine Xa hk.cells ?_
 refine rValidSetup_ok s (hs.next hk.below) (fun w1 h=>?_)
 have hk:=hk.next h
 clear h hb1
 cases hv:validS s with
 | false=>
  refine Xa0 ?_
  exact k2 _ _ (by rw [hv]; simp) hk.below
 | true=>
 have hq:=validS_Q hv
 refine Xa hk.cells ?_
 have en:(s.bases.length:Int) - 1 = ((s.bases.length - 1:Nat):Int):=by omega
 rw [en]
 refine residues_ok s _ (by omega) (hs.next hk.below) (hl.next hk.below) (by omega) (fun w2 h=>?_)
 have hk:=hk.next h
 clear h
 have ed:decide (l.length = s.bases.length - 1) = decide (l.length + 1 = s.bases.length):=decide_eq_decide.2 ⟨fun h=>by omega,fun h=>by omega⟩
 rw [ed]
 rw [hv,Bool.true_and] at k2
 cases hr:(decide (l.length + 1 = s.bases.length) && numsM s 0 l) with
 | false=>
  refine Xa0 ?_
  exact k2 _ _ (by rw [hr]; rfl) hk.below
 | true=>
 rw [hr,Bool.true_and] at k2
 simp only [Bool.and_eq_true,decide_eq_true_eq] at hr
 obtain ⟨ad2,c2,rfl⟩:=hl.isSlice
 obtain ⟨b1,o1,rfl,ca,ra⟩:=hl.headD (by omega)
 have hne:¬ l = []:=by intro h; rw [h] at hr; simp at hr; omega
 generalize l.headD 0 = h0 at *
 refine Xa (An3 hk.cells @hne (ca _ hk.below)) ?_
 exact k2 _ _ rfl hk.below
theorem qMark_ok (s:Stp) {v lv:Value} {l:List Int} (hs:SetR w s v) (hl:Ints w lv l) (k:∀ w',Below w.heap.size w w' → K (.int .i64 (markM s l).1) w'):callM Tryz.prog 147 #[stpV s v,lv] K w:=by
 apply sh_147_ok
 unfold sh_147
 obtain ⟨ad,c,rfl⟩:=hs.ints.isSlice
 refine box_kn (cs:=stpC s (.slice ad s.bases.length c)) rfl (.start w) fun b W hk hb1 hb=>?_
 refine Xa hk.cells ?_
 refine attributes_ok s (hs.next hk.below) (hl.next hk.below) (fun w1 h=>?_)
 have hk:=hk.next h
 clear h hb1
 unfold markM at k ⊢
 cases hc:(validS s && decide (l.length + 1 = s.bases.length) && numsM s 0 l && !decide (l.headD 0 = 0)) with
 | false=>
  rw [hc] at k
  refine Xa0 ?_
  exact k _ hk.below
 | true=>
 rw [hc] at k
 simp only [Bool.and_eq_true,decide_eq_true_eq] at hc
 have hq:=validS_Q hc.1.1.1
 refine Xa0 ?_
 have hk:=hk.drew
 refine ⟨Nx { w1 with drawn:=w1.drawn + 1 },Below.refl _ _,rfl,?_⟩
 generalize ({ w1 with drawn:=w1.drawn + 1 }:World) = W at hk ⊢
 refine Xc (fun W0 hW0=>(hk.next hW0).cells) ?_
 refine ⟨Nx,monoR (fun v w'=>Ints w' v (expsM l)) (fun v w w1 hS h=>h.next hS) ?_ ?_⟩
 ·intro w2 h2
  exact Exps_ok (hl.next (hk.next h2).below) (by omega) (fun v w3 h3 hi=>⟨h2.on h3,h3,hi⟩)
 intro w2 h2 v2 hi
 refine qproduct_ok s (hs.next (hk.next h2).below) hi (fun w3 h3=>?_)
 exact k _ ((hk.next h2).next h3).below
theorem qUsable_ok (s:Stp) {v lv:Value} {l:List Int} (hs:SetR w s v) (hl:Ints w lv l) (k:∀ w',Below w.heap.size w w' → K (.bool (usableM s l).2) w'):callM Tryz.prog 98 #[stpV s v,lv] K w:=by
 apply sh_98_ok
 unfold sh_98
 obtain ⟨ad,c,rfl⟩:=hs.ints.isSlice
 refine box_kn (cs:=stpC s (.slice ad s.bases.length c)) rfl (.start w) fun b W hk hb1 hb=>?_
 unfold usableM at k
 refine Xa hk.cells ?_
 refine attributes_ok s (hs.next hk.below) (hl.next hk.below) (fun w1 h=>?_)
 have hk:=hk.next h
 clear h hb1
 cases hm:(markM s l).2 with
 | false=>
  rw [hm] at k
  refine Xa0 ?_
  exact k _ hk.below
 | true=>
  rw [hm,Bool.true_and] at k
  refine Xa hk.cells ?_
  refine qMark_ok s (hs.next hk.below) (hl.next hk.below) (fun w2 h=>?_)
  have k:=k _ (hk.next h).below
  generalize (markM s l).1 = m at *
  refine Xa0 ?_
  exact k
theorem in_eq {s:Stp} (hQ:-9223372036854775808 < s.g.Q) (m x:Int):(decide (m ≤ x) && decide (x ≤ s.g.Q - 1)) = numsM s m [x]:=by
 show _ = ((decide (m ≤ x) && decide (x < s.g.Q)) && true)
 rw [Bool.and_true]
 congr 1
 exact decide_eq_decide.2 ⟨fun h=>by omega,fun h=>by omega⟩
theorem numsM_two (s:Stp) (m a b:Int):numsM s m [a,b] = (numsM s m [a] && numsM s m [b]):=by
 unfold numsM; simp
end
end Go.Proofs
namespace Go.Proofs
open Go Go.Sh Go.RowKit FdSpec TkSpec CodeSpec
section
variable {K:Value → World → Prop} {w w0:World} {L:List (Addr × Value)}
theorem keyM_eq (s:Stp) (x:Int):keyM s x = (elemG s.g x && !decide (x = 1)):=by
 unfold keyM elementsM
 simp [Bool.and_comm]
theorem Key_ok (s:Stp) (x:Int) {v:Value} (hs:SetR w s v) (k:∀ w',Below w.heap.size w w' → K (.bool (validS s && keyM s x)) w'):callM Tryz.prog 118 #[stpV s v,.int .i64 x] K w:=by
 apply sh_118_ok
 unfold sh_118
 obtain ⟨ad,cc,rfl⟩:=hs.ints.isSlice
 refine box_kn (cs:=stpC s (.slice ad s.bases.length cc)) rfl (.start w) fun b W hk hb1 hb=>?_
 rw [keyM_eq] at k
 refine Xa hk.cells ?_
 refine rValidSetup_ok s (hs.next hk.below) (fun w1 h=>?_)
 have hk:=hk.next h
 clear h hb1
 cases hv:validS s with
 | false=>
  rw [hv] at k
  refine Xa0 ?_
  exact k _ hk.below
 | true=>
 rw [hv,Bool.true_and] at k
 refine Xa hk.cells ?_
 refine rElement_ok s.g x hs.grp (fun w2 h=>?_)
 have hk:=hk.next h
 cases he:elemG s.g x with
 | false=>
  rw [he] at k
  refine Xa0 ?_
  exact k _ hk.below
 | true=>
 rw [he,Bool.true_and] at k
 refine Xa0 ?_
 exact k _ hk.below
theorem Blinds_ok (s:Stp) (b:Bld) {v bv:Value} (hv:validS s = true) (hs:SetR w s v) (hb:BldR w b bv) (k:∀ w',Below w.heap.size w w' → K (.bool (blindsM s b)) w'):callM Tryz.prog 108 #[stpV s v,bldV b bv] K w:=by
 apply sh_108_ok
 unfold sh_108
 obtain ⟨ad,cc,rfl⟩:=hs.ints.isSlice
 obtain ⟨yad,yc,rfl⟩:=hb.ys.isSlice
 refine box_kn (cs:=stpC s (.slice ad s.bases.length cc)) rfl (.start w) fun b1 W hk hb1 hbb=>?_
 refine box_kn (cs:=bldC b (.slice yad b.ys.length yc)) rfl hk fun b3 W3 hk hb3 hbb=>?_
 have hq:=validS_Q hv
 have hQR:=hs.grp.2.1
 unfold I64 at hQR
 unfold blindsM at k
 rw [numsM_two,Bool.and_assoc,Bool.and_assoc,Bool.and_assoc] at k
 refine Xa hk.cells ?_
 refine in_ok b.s 1 _ ?_
 rw [in_eq (by omega)]
 cases hn:numsM s 1 [b.s] with
 | false=>
  rw [hn] at k
  refine Xa0 ?_
  exact k _ hk.below
 | true=>
 rw [hn,Bool.true_and] at k
 refine Xa hk.cells ?_
 refine in_ok b.u 1 _ ?_
 rw [in_eq (by omega)]
 cases hn:numsM s 1 [b.u] with
 | false=>
  rw [hn] at k
  refine Xa0 ?_
  exact k _ hk.below
 | true=>
 rw [hn,Bool.true_and] at k
 refine Xa hk.cells ?_
 refine in_ok b.v 0 _ ?_
 rw [in_eq (by omega)]
 cases hn:numsM s 0 [b.v] with
 | false=>
  rw [hn] at k
  refine Xa0 ?_
  exact k _ hk.below
 | true=>
 rw [hn,Bool.true_and] at k
 refine Xa hk.cells ?_
 refine residues_ok s _ (by omega) (hs.next hk.below) (hb.ys.next hk.below) (by omega) (fun w2 h=>?_)
 have k:=k _ (hk.next h).below
 generalize (decide (b.ys.length = s.bases.length) && numsM s 0 b.ys) = r at *
 refine Xa0 ?_
 exact k
theorem number_ok (s:Stp) (t:Tkt) {v:Value} (ht:TktR t) (hs:SetR w s v) (k:∀ w',Below w.heap.size w w' → K (.int .i64 (innerQ s t)) w'):callM Tryz.prog 117 #[stpV s v,tktV t] K w:=by
 apply sh_117_ok
 unfold sh_117
 obtain ⟨ad,c,rfl⟩:=hs.ints.isSlice
 refine box_kn (cs:=stpC s (.slice ad s.bases.length c)) rfl (.start w) fun b W hk hb1 hb=>?_
 refine box_kn (cs:=tktC t) rfl hk fun b2 W2 hk hb2 hbb=>?_
 have hk:=hk.drew
 refine ⟨Nx { W2 with drawn:=W2.drawn + 1 },Below.refl _ _,rfl,?_⟩
 generalize ({ W2 with drawn:=W2.drawn + 1 }:World) = W at hk ⊢
 refine Xc (fun W0 hW0=>(hk.next hW0).cells) ?_
 refine ⟨Nx,monoR (fun v w'=>Ints w' v (innL t)) (fun v w w1 hS h=>h.next hS) ?_ ?_⟩
 ·intro w2 h2
  exact mk5 t.mark t.first t.z t.a t.b ht.mark ht.first ht.z ht.a ht.b (fun v w3 h3 hi=>⟨h2.on h3,h3,hi⟩)
 apply monoE
 ·rintro w2 h2 v2 hi
  exact Cd.qNums_ok (innL t) v2 (Ints.rowOf hi) (fun x hx=>(InR_iff x).2 (innL_all ht x hx)) (by have:=innL_len ht; unfold encNums at this; omega) (fun w3 h3=>⟨h2.on h3,h3,rfl⟩)
 rintro w2 h2 v2 hi _ rfl
 refine rNumber_ok _ _ (by have:=innL_len ht; unfold encNums at this; omega) (fun w4 h4=>?_)
 exact k _ ((hk.next h2).next h4).below
end
end Go.Proofs
namespace Go.Proofs
open Go Go.Sh Go.RowKit FdSpec TkSpec CodeSpec
section
variable {K:Value → World → Prop} {w w0:World} {L:List (Addr × Value)}
end
end Go.Proofs
namespace Go.Proofs
open Go.Sh Tryz
def sh_54 (a0 a1 a2:Value) (K:Value → World → Prop) (w:World):Prop:=
 oM prog (.box 32 (.tmp 0)) 0 [a0] (fun v3 w=>
 oM prog (.box 41 (.tmp 0)) 0 [a1] (fun v4 w=>
 oM prog (.box 49 (.tmp 0)) 0 [a2] (fun v5 w=>
 oM prog (.load 32 (.tmp 0)) 32 [v3] (fun v7 w=>
 oM prog (.load 41 (.tmp 0)) 41 [v4] (fun v8 w=>
 callM prog 51 #[v7,v8] (fun v9 w=>
 oM prog (.unOp .not 4 (.tmp 0)) 4 [v9] (fun v10 w=>
 gdM (gd v10 false) (oM prog (.fieldAddr 49 (.tmp 0) 0) 0 [v5]) (fun v12 w=>
 gdM (gd v10 false) (oM prog (.load 3 (.tmp 0)) 3 [v12]) (fun v13 w=>
 gdM (gd v10 false) (oM prog (.fieldAddr 32 (.tmp 0) 0) 0 [v3]) (fun v14 w=>
 gdM (gd v10 false) (oM prog (.fieldAddr 30 (.tmp 0) 1) 0 [v14]) (fun v15 w=>
 gdM (gd v10 false) (oM prog (.load 3 (.tmp 0)) 3 [v15]) (fun v16 w=>
 gdM (gd v10 false) (oM prog (.binOp .sub 3 (.tmp 0) (.tmp 1) 3) 3 [v16,(.int .i64 1)]) (fun v17 w=>
 gdM (gd v10 false) (callM prog 99 #[v13,(.int .i64 1),v17]) (fun v18 w=>
 gdM (gd v10 false) (oM prog (.unOp .not 4 (.tmp 0)) 4 [v18]) (fun v19 w=>
 oM prog (.pick (.tmp 0) (.tmp 1) (.tmp 2)) 4 [v10,(.bool true),v19] (fun v20 w=>
 gdM (gd v20 false) (oM prog (.load 32 (.tmp 0)) 32 [v3]) (fun v22 w=>
 gdM (gd v20 false) (oM prog (.fieldAddr 49 (.tmp 0) 1) 0 [v5]) (fun v23 w=>
 gdM (gd v20 false) (oM prog (.load 22 (.tmp 0)) 22 [v23]) (fun v24 w=>
 gdM (gd v20 false) (oM prog (.fieldAddr 32 (.tmp 0) 1) 0 [v3]) (fun v25 w=>
 gdM (gd v20 false) (oM prog (.load 22 (.tmp 0)) 22 [v25]) (fun v26 w=>
 gdM (gd v20 false) (oM prog (.call (Go.Call.mk (.builtin .len) #[(.tmp 0)] #[22])) 3 [v26]) (fun v27 w=>
 gdM (gd v20 false) (callM prog 121 #[v22,v24,v27]) (fun v28 w=>
 gdM (gd v20 false) (oM prog (.unOp .not 4 (.tmp 0)) 4 [v28]) (fun v29 w=>
 oM prog (.pick (.tmp 0) (.tmp 1) (.tmp 2)) 4 [v20,(.bool true),v29] (fun v30 w=>
 condM v30
 (K (.bool false) w)
 (heldM w (fun C_26 w=>(((true:Bool) = true) ∧ (oH prog (.load 32 (.tmp 0)) 32 [v3] C_26 (fun v31=>
 oH prog (.fieldAddr 49 (.tmp 0) 1) 0 [v5] C_26 (fun v32=>
 oH prog (.load 22 (.tmp 0)) 22 [v32] C_26 (fun v33=>
 oH prog (.load 32 (.tmp 0)) 32 [v3] C_26 (fun v35=>
 oH prog (.load 32 (.tmp 0)) 32 [v3] C_26 (fun v36=>
 oH prog (.fieldAddr 41 (.tmp 0) 0) 0 [v4] C_26 (fun v37=>
 oH prog (.load 3 (.tmp 0)) 3 [v37] C_26 (fun v38=>
 oH prog (.fieldAddr 49 (.tmp 0) 0) 0 [v5] C_26 (fun v39=>
 oH prog (.load 3 (.tmp 0)) 3 [v39] C_26 (fun v40=>
 oH prog (.fieldAddr 41 (.tmp 0) 1) 0 [v4] C_26 (fun v42=>
 oH prog (.load 3 (.tmp 0)) 3 [v42] C_26 (fun v43=>
 ∃ S_38:World → World → Prop,∃ R_39:Value → World → Prop,(∀ v w w_1,S_38 w w_1 → R_39 v w → R_39 v w_1) ∧
 (∀ w,C_26 w → (callM prog 122 #[v31,v33] (fun v w_1=>C_26 w_1 ∧ S_38 w w_1 ∧ R_39 v w_1) w)) ∧
 (∃ R_40:Value → World → Prop,(∀ v w w_1,S_38 w w_1 → R_40 v w → R_40 v w_1) ∧
 (∀ w,C_26 w → (callM prog 119 #[v36,v38,v40] (fun v w_1=>C_26 w_1 ∧ S_38 w w_1 ∧ R_40 v w_1) w)) ∧
 (∀ w,C_26 w → ∀ v34,R_39 v34 w → ∀ v41,R_40 v41 w → (
 callM prog 120 #[v35,v41,v43] (fun v44 w=>
 oM prog (.binOp .eql 3 (.tmp 0) (.tmp 1) 3) 4 [v34,v44] (fun v45 w=>
 K v45 w) w) w))))))))))))))))))) w) w) w) w) w) w) w) w) w) w) w) w) w) w) w) w) w) w) w) w) w) w) w) w) w
theorem sh_54_ok {a0 a1 a2:Value} {K:Value → World → Prop} {w:World} (h:sh_54 a0 a1 a2 K w):callM prog 54 #[a0,a1,a2] K w:=
 calls_of_code (fun _=>.free [0,1,2,4,5,6,7,8,9,11,12] [3,10] [13,14,15]) (fn:=Tryz.f54) (rs:=[.tmp 6]) Tryz.func54 rfl rfl (by kernel_rfl) (Nat.le_of_ble_eq_true rfl) (Eq.mp (by kernel_rfl) h)
def sh_57 (a0:Value) (K:Value → World → Prop) (w:World):Prop:=
 oM prog (.box 41 (.tmp 0)) 0 [a0] (fun v1 w=>
 oM prog (.fieldAddr 41 (.tmp 0) 0) 0 [v1] (fun v3 w=>
 oM prog (.load 3 (.tmp 0)) 3 [v3] (fun v4 w=>
 oM prog (.fieldAddr 41 (.tmp 0) 1) 0 [v1] (fun v5 w=>
 oM prog (.load 3 (.tmp 0)) 3 [v5] (fun v6 w=>
 oM prog (.fieldAddr 41 (.tmp 0) 2) 0 [v1] (fun v7 w=>
 oM prog (.load 3 (.tmp 0)) 3 [v7] (fun v8 w=>
 oM prog (.fieldAddr 41 (.tmp 0) 3) 0 [v1] (fun v9 w=>
 oM prog (.load 3 (.tmp 0)) 3 [v9] (fun v10 w=>
 oM prog (.fieldAddr 41 (.tmp 0) 4) 0 [v1] (fun v11 w=>
 oM prog (.load 3 (.tmp 0)) 3 [v11] (fun v12 w=>
 oM prog (.fieldAddr 41 (.tmp 0) 5) 0 [v1] (fun v13 w=>
 oM prog (.load 3 (.tmp 0)) 3 [v13] (fun v14 w=>
 oM prog (.buildSlice 22 6 #[(0,(.tmp 0)),(1,(.tmp 1)),(2,(.tmp 2)),(3,(.tmp 3)),(4,(.tmp 4)),(5,(.tmp 5))]) 22 [v4,v6,v8,v10,v12,v14] (fun v15 w=>
 callM prog 124 #[v15] (fun v16 w=>
 K v16 w) w) w) w) w) w) w) w) w) w) w) w) w) w) w) w
theorem sh_57_ok {a0:Value} {K:Value → World → Prop} {w:World} (h:sh_57 a0 K w):callM prog 57 #[a0] K w:=
 calls_of_code (fun _=>0) (fn:=Tryz.f57) (rs:=[.tmp 2]) Tryz.func57 rfl rfl (by kernel_rfl) (Nat.le_of_ble_eq_true rfl) (Eq.mp (by kernel_rfl) h)
def sh_51 (a0 a1:Value) (K:Value → World → Prop) (w:World):Prop:=
 oM prog (.box 32 (.tmp 0)) 0 [a0] (fun v2 w=>
 oM prog (.box 41 (.tmp 0)) 0 [a1] (fun v3 w=>
 oM prog (.load 32 (.tmp 0)) 32 [v2] (fun v7 w=>
 callM prog 106 #[v7] (fun v8 w=>
 oM prog (.unOp .not 4 (.tmp 0)) 4 [v8] (fun v9 w=>
 gdM (gd v9 false) (oM prog (.fieldAddr 41 (.tmp 0) 0) 0 [v3]) (fun v11 w=>
 gdM (gd v9 false) (oM prog (.load 3 (.tmp 0)) 3 [v11]) (fun v12 w=>
 gdM (gd v9 false) (oM prog (.binOp .eql 3 (.tmp 0) (.const (.int .i64 1)) 3) 4 [v12]) (fun v13 w=>
 oM prog (.pick (.tmp 0) (.tmp 1) (.tmp 2)) 4 [v9,(.bool true),v13] (fun v14 w=>
 gdM (gd v14 false) (oM prog (.fieldAddr 41 (.tmp 0) 5) 0 [v3]) (fun v16 w=>
 gdM (gd v14 false) (oM prog (.load 3 (.tmp 0)) 3 [v16]) (fun v17 w=>
 gdM (gd v14 false) (oM prog (.fieldAddr 32 (.tmp 0) 0) 0 [v2]) (fun v18 w=>
 gdM (gd v14 false) (oM prog (.fieldAddr 30 (.tmp 0) 1) 0 [v18]) (fun v19 w=>
 gdM (gd v14 false) (oM prog (.load 3 (.tmp 0)) 3 [v19]) (fun v20 w=>
 gdM (gd v14 false) (oM prog (.binOp .sub 3 (.tmp 0) (.tmp 1) 3) 3 [v20,(.int .i64 1)]) (fun v21 w=>
 gdM (gd v14 false) (callM prog 99 #[v17,(.int .i64 0),v21]) (fun v22 w=>
 gdM (gd v14 false) (oM prog (.unOp .not 4 (.tmp 0)) 4 [v22]) (fun v23 w=>
 oM prog (.pick (.tmp 0) (.tmp 1) (.tmp 2)) 4 [v14,(.bool true),v23] (fun v24 w=>
 condM v24
 (K (.bool false) w)
 (oM prog (.fieldAddr 41 (.tmp 0) 0) 0 [v3] (fun v25 w=>
 oM prog (.load 3 (.tmp 0)) 3 [v25] (fun v26 w=>
 oM prog (.fieldAddr 41 (.tmp 0) 1) 0 [v3] (fun v27 w=>
 oM prog (.load 3 (.tmp 0)) 3 [v27] (fun v28 w=>
 oM prog (.fieldAddr 41 (.tmp 0) 2) 0 [v3] (fun v29 w=>
 oM prog (.load 3 (.tmp 0)) 3 [v29] (fun v30 w=>
 oM prog (.fieldAddr 41 (.tmp 0) 3) 0 [v3] (fun v31 w=>
 oM prog (.load 3 (.tmp 0)) 3 [v31] (fun v32 w=>
 oM prog (.fieldAddr 41 (.tmp 0) 4) 0 [v3] (fun v33 w=>
 oM prog (.load 3 (.tmp 0)) 3 [v33] (fun v34 w=>
 oM prog (.buildSlice 22 5 #[(0,(.tmp 0)),(1,(.tmp 1)),(2,(.tmp 2)),(3,(.tmp 3)),(4,(.tmp 4))]) 22 [v26,v28,v30,v32,v34] (fun v35 w=>
 loopM [(.bool false),(.int .i64 0)] w (fun J_30 m_31 l_32 u_l_32 w0_l_32=>(fun w=>(
 oM prog (.call (Go.Call.mk (.builtin .len) #[(.tmp 0)] #[22])) 3 [v35] (fun v38 w=>
 oM prog (.binOp .lss 3 (.tmp 0) (.tmp 1) 3) 4 [(l_32.getD 1 undef),v38] (fun v39 w=>
 condM v39
 (heldM w (fun C_35 w=>(((true:Bool) = true) ∧ (oH prog (.fieldAddr 32 (.tmp 0) 0) 0 [v2] C_35 (fun v42=>
 oH prog (.load 30 (.tmp 0)) 30 [v42] C_35 (fun v43=>
 pureH v35 C_35 (fun v44=>
 pureH (l_32.getD 1 undef) C_35 (fun v45=>
 oH prog (.indexAddr 22 (.tmp 0) (.tmp 1)) 0 [v44,v45] C_35 (fun v46=>
 oH prog (.load 3 (.tmp 0)) 3 [v46] C_35 (fun v47=>
 ∃ S_42:World → World → Prop,∀ w,C_35 w → (
 callM prog 116 #[v43,v47] (fun v48 w=>
 oM prog (.unOp .not 4 (.tmp 0)) 4 [v48] (fun v49 w=>
 condM v49
 (K (.bool false) w)
 (oM prog (.binOp .add 3 (.tmp 0) (.tmp 1) 3) 3 [(l_32.getD 1 undef),(.int .i64 1)] (fun v41 w=>
 J_30 [(l_32.getD 0 undef),v41] w ∧ m_31 [(l_32.getD 0 undef),v41] w < m_31 l_32 w0_l_32) w)) w) w)))))))))))
 (K (.bool true) w)) w) w)) w0_l_32)) w) w) w) w) w) w) w) w) w) w) w)) w) w) w) w) w) w) w) w) w) w) w) w) w) w) w) w) w) w
theorem sh_51_ok {a0 a1:Value} {K:Value → World → Prop} {w:World} (h:sh_51 a0 a1 K w):callM prog 51 #[a0,a1] K w:=
 calls_of_code (fun _=>.free [0,1,2,3,4,5] [] [6,7]) (fn:=Tryz.f51) (rs:=[.tmp 4]) Tryz.func51 rfl rfl (by kernel_rfl) (Nat.le_of_ble_eq_true rfl) (Eq.mp (by kernel_rfl) h)
def sh_52 (a0 a1:Value) (K:Value → World → Prop) (w:World):Prop:=
 oM prog (.box 32 (.tmp 0)) 0 [a0] (fun v2 w=>
 oM prog (.box 41 (.tmp 0)) 0 [a1] (fun v3 w=>
 oM prog (.load 32 (.tmp 0)) 32 [v2] (fun v5 w=>
 oM prog (.load 41 (.tmp 0)) 41 [v3] (fun v6 w=>
 callM prog 51 #[v5,v6] (fun v7 w=>
 oM prog (.unOp .not 4 (.tmp 0)) 4 [v7] (fun v8 w=>
 condM v8
 (K (.int .i64 0) w)
 (oM prog (.load 32 (.tmp 0)) 32 [v2] (fun v9 w=>
 oM prog (.load 41 (.tmp 0)) 41 [v3] (fun v10 w=>
 callM prog 117 #[v9,v10] (fun v11 w=>
 K v11 w) w) w) w)) w) w) w) w) w) w
theorem sh_52_ok {a0 a1:Value} {K:Value → World → Prop} {w:World} (h:sh_52 a0 a1 K w):callM prog 52 #[a0,a1] K w:=
 calls_of_code (fun _=>0) (fn:=Tryz.f52) (rs:=[.tmp 4]) Tryz.func52 rfl rfl (by kernel_rfl) (Nat.le_of_ble_eq_true rfl) (Eq.mp (by kernel_rfl) h)
def sh_58 (a0 a1 a2:Value) (K:Value → World → Prop) (w:World):Prop:=
 oM prog (.box 32 (.tmp 0)) 0 [a0] (fun v3 w=>
 oM prog (.box 41 (.tmp 0)) 0 [a1] (fun v4 w=>
 oM prog (.load 32 (.tmp 0)) 32 [v3] (fun v8 w=>
 callM prog 106 #[v8] (fun v9 w=>
 oM prog (.unOp .not 4 (.tmp 0)) 4 [v9] (fun v10 w=>
 condM v10
 (K (.int .i64 0) w)
 (oM prog (.fieldAddr 32 (.tmp 0) 0) 0 [v3] (fun v11 w=>
 oM prog (.fieldAddr 30 (.tmp 0) 1) 0 [v11] (fun v12 w=>
 oM prog (.load 3 (.tmp 0)) 3 [v12] (fun v13 w=>
 oM prog (.binOp .quo 3 (.tmp 0) (.tmp 1) 3) 3 [v13,(.int .i64 2)] (fun v14 w=>
 heldM w (fun C_10 w=>(((true:Bool) = true) ∧ (pureH v14 C_10 (fun v15=>
 oH prog (.binOp .add 3 (.tmp 0) (.tmp 1) 3) 3 [v15,(.int .i64 1)] C_10 (fun v16=>
 oH prog (.load 41 (.tmp 0)) 41 [v4] C_10 (fun v17=>
 pureH a2 C_10 (fun v19=>
 oH prog (.fieldAddr 32 (.tmp 0) 0) 0 [v3] C_10 (fun v22=>
 oH prog (.fieldAddr 30 (.tmp 0) 1) 0 [v22] C_10 (fun v23=>
 oH prog (.load 3 (.tmp 0)) 3 [v23] C_10 (fun v24=>
 oH prog (.binOp .sub 3 (.tmp 0) (.tmp 1) 3) 3 [v24,(.int .i64 1)] C_10 (fun v25=>
 pureH v14 C_10 (fun v26=>
 oH prog (.binOp .sub 3 (.tmp 0) (.tmp 1) 3) 3 [v25,v26] C_10 (fun v27=>
 ∃ S_21:World → World → Prop,∃ R_22:Value → World → Prop,(∀ v w w_1,S_21 w w_1 → R_22 v w → R_22 v w_1) ∧
 (∀ w,C_10 w → (callM prog 57 #[v17] (fun v w_1=>C_10 w_1 ∧ S_21 w w_1 ∧ R_22 v w_1) w)) ∧
 (∃ R_23:Value → World → Prop,(∀ v w w_1,S_21 w w_1 → R_23 v w → R_23 v w_1) ∧
 (∀ w,C_10 w → (callM prog 126 #[v19] (fun v w_1=>C_10 w_1 ∧ S_21 w w_1 ∧ R_23 v w_1) w)) ∧
 (∃ R_24:Value → World → Prop,(∀ v w w_1,S_21 w w_1 → R_24 v w → R_24 v w_1) ∧
 (∀ w,C_10 w → ∀ v18,R_22 v18 w → ∀ v20,R_23 v20 w → (oM prog (.binOp .add 9 (.tmp 0) (.tmp 1) 9) 9 [v18,v20] (fun v w_1=>C_10 w_1 ∧ S_21 w w_1 ∧ R_24 v w_1) w)) ∧
 (∃ R_27:Value → World → Prop,(∀ v w w_1,S_21 w w_1 → R_27 v w → R_27 v w_1) ∧
 (∀ w,C_10 w → ∀ v21,R_24 v21 w → (callM prog 125 #[v21,v27] (fun v w_1=>C_10 w_1 ∧ S_21 w w_1 ∧ R_27 v w_1) w)) ∧
 (∀ w,C_10 w → ∀ v18,R_22 v18 w → ∀ v20,R_23 v20 w → ∀ v21,R_24 v21 w → ∀ v28,R_27 v28 w → (
 oM prog (.binOp .add 3 (.tmp 0) (.tmp 1) 3) 3 [v16,v28] (fun v29 w=>
 K v29 w) w))))))))))))))))))) w) w) w) w)) w) w) w) w) w
theorem sh_58_ok {a0 a1 a2:Value} {K:Value → World → Prop} {w:World} (h:sh_58 a0 a1 a2 K w):callM prog 58 #[a0,a1,a2] K w:=
 calls_of_code (fun _=>.free [0,1,2,4,7,8,9,10,11,12] [3,5,6,13] [14,15]) (fn:=Tryz.f58) (rs:=[.tmp 6]) Tryz.func58 rfl rfl (by kernel_rfl) (Nat.le_of_ble_eq_true rfl) (Eq.mp (by kernel_rfl) h)
def sh_53 (a0 a1 a2:Value) (K:Value → World → Prop) (w:World):Prop:=
 oM prog (.box 32 (.tmp 0)) 0 [a0] (fun v3 w=>
 oM prog (.box 41 (.tmp 0)) 0 [a2] (fun v5 w=>
 oM prog (.load 32 (.tmp 0)) 32 [v3] (fun v9 w=>
 oM prog (.load 41 (.tmp 0)) 41 [v5] (fun v10 w=>
 callM prog 52 #[v9,v10] (fun v11 w=>
 oM prog (.load 32 (.tmp 0)) 32 [v3] (fun v12 w=>
 callM prog 118 #[v12,a1] (fun v14 w=>
 oM prog (.unOp .not 4 (.tmp 0)) 4 [v14] (fun v15 w=>
 gdM (gd v15 false) (pureM v11) (fun v17 w=>
 gdM (gd v15 false) (oM prog (.binOp .eql 3 (.tmp 0) (.const (.int .i64 0)) 3) 4 [v17]) (fun v18 w=>
 oM prog (.pick (.tmp 0) (.tmp 1) (.tmp 2)) 4 [v15,(.bool true),v18] (fun v19 w=>
 condM v19
 (K (.bool false) w)
 (heldM w (fun C_12 w=>(((true:Bool) = true) ∧ (oH prog (.load 32 (.tmp 0)) 32 [v3] C_12 (fun v20=>
 oH prog (.fieldAddr 32 (.tmp 0) 0) 0 [v3] C_12 (fun v21=>
 oH prog (.fieldAddr 30 (.tmp 0) 2) 0 [v21] C_12 (fun v22=>
 oH prog (.load 3 (.tmp 0)) 3 [v22] C_12 (fun v23=>
 oH prog (.fieldAddr 41 (.tmp 0) 5) 0 [v5] C_12 (fun v24=>
 oH prog (.load 3 (.tmp 0)) 3 [v24] C_12 (fun v25=>
 oH prog (.load 32 (.tmp 0)) 32 [v3] C_12 (fun v27=>
 oH prog (.load 32 (.tmp 0)) 32 [v3] C_12 (fun v28=>
 pureH a1 C_12 (fun v29=>
 pureH v11 C_12 (fun v30=>
 oH prog (.fieldAddr 41 (.tmp 0) 3) 0 [v5] C_12 (fun v32=>
 oH prog (.load 3 (.tmp 0)) 3 [v32] C_12 (fun v33=>
 ∃ S_25:World → World → Prop,∃ R_26:Value → World → Prop,(∀ v w w_1,S_25 w w_1 → R_26 v w → R_26 v w_1) ∧
 (∀ w,C_12 w → (callM prog 119 #[v20,v23,v25] (fun v w_1=>C_12 w_1 ∧ S_25 w w_1 ∧ R_26 v w_1) w)) ∧
 (∃ R_27:Value → World → Prop,(∀ v w w_1,S_25 w w_1 → R_27 v w → R_27 v w_1) ∧
 (∀ w,C_12 w → (callM prog 119 #[v28,v29,v30] (fun v w_1=>C_12 w_1 ∧ S_25 w w_1 ∧ R_27 v w_1) w)) ∧
 (∀ w,C_12 w → ∀ v26,R_26 v26 w → ∀ v31,R_27 v31 w → (
 callM prog 120 #[v27,v31,v33] (fun v34 w=>
 oM prog (.binOp .eql 3 (.tmp 0) (.tmp 1) 3) 4 [v26,v34] (fun v35 w=>
 heldM w (fun C_32 w=>(((true:Bool) = true) ∧ (pureH v35 C_32 (fun v36=>
 pureH v36 C_32 (fun v37=>
 gdH (gd v37 true) (oH prog (.load 32 (.tmp 0)) 32 [v3]) C_32 (fun v38=>
 gdH (gd v37 true) (oH prog (.fieldAddr 41 (.tmp 0) 0) 0 [v5]) C_32 (fun v39=>
 gdH (gd v37 true) (oH prog (.load 3 (.tmp 0)) 3 [v39]) C_32 (fun v40=>
 gdH (gd v37 true) (oH prog (.fieldAddr 41 (.tmp 0) 5) 0 [v5]) C_32 (fun v41=>
 gdH (gd v37 true) (oH prog (.load 3 (.tmp 0)) 3 [v41]) C_32 (fun v42=>
 gdH (gd v37 true) (oH prog (.load 32 (.tmp 0)) 32 [v3]) C_32 (fun v44=>
 gdH (gd v37 true) (oH prog (.load 32 (.tmp 0)) 32 [v3]) C_32 (fun v45=>
 gdH (gd v37 true) (oH prog (.fieldAddr 41 (.tmp 0) 2) 0 [v5]) C_32 (fun v46=>
 gdH (gd v37 true) (oH prog (.load 3 (.tmp 0)) 3 [v46]) C_32 (fun v47=>
 gdH (gd v37 true) (pureH v11) C_32 (fun v48=>
 gdH (gd v37 true) (oH prog (.fieldAddr 41 (.tmp 0) 4) 0 [v5]) C_32 (fun v50=>
 gdH (gd v37 true) (oH prog (.load 3 (.tmp 0)) 3 [v50]) C_32 (fun v51=>
 ∃ S_47:World → World → Prop,∃ R_48:Value → World → Prop,(∀ v w w_1,S_47 w w_1 → R_48 v w → R_48 v w_1) ∧
 (∀ w,C_32 w → (gdM (gd v37 true) (callM prog 119 #[v38,v40,v42]) (fun v w_1=>C_32 w_1 ∧ S_47 w w_1 ∧ R_48 v w_1) w)) ∧
 (∃ R_49:Value → World → Prop,(∀ v w w_1,S_47 w w_1 → R_49 v w → R_49 v w_1) ∧
 (∀ w,C_32 w → (gdM (gd v37 true) (callM prog 119 #[v45,v47,v48]) (fun v w_1=>C_32 w_1 ∧ S_47 w w_1 ∧ R_49 v w_1) w)) ∧
 (∀ w,C_32 w → ∀ v43,R_48 v43 w → ∀ v49,R_49 v49 w → (
 gdM (gd v37 true) (callM prog 120 #[v44,v49,v51]) (fun v52 w=>
 gdM (gd v37 true) (oM prog (.binOp .eql 3 (.tmp 0) (.tmp 1) 3) 4 [v43,v52]) (fun v53 w=>
 oM prog (.pick (.tmp 0) (.tmp 1) (.tmp 2)) 4 [v37,v53,(.bool false)] (fun v54 w=>
 K v54 w) w) w) w))))))))))))))))))))) w) w)))))))))))))))))))) w) w) w) w) w) w) w) w) w) w) w
theorem sh_53_ok {a0 a1 a2:Value} {K:Value → World → Prop} {w:World} (h:sh_53 a0 a1 a2 K w):callM prog 53 #[a0,a1,a2] K w:=
 calls_of_code (fun i=>bif Nat.beq i 4 then .free [0,1,2,3,4,5,7,8,9,10,12,13] [6,11] [14,15,16] else bif Nat.beq i 5 then .free [0,1,2,3,4,5,6,8,9,10,11,12,14,15] [7,13] [16,17,18,19] else 0) (fn:=Tryz.f53) (rs:=[.tmp 6]) Tryz.func53 rfl rfl (by kernel_rfl) (Nat.le_of_ble_eq_true rfl) (Eq.mp (by kernel_rfl) h)
def sh_46 (a0 a1 a2 a3:Value) (K:Value → World → Prop) (w:World):Prop:=
 oM prog (.box 32 (.tmp 0)) 0 [a0] (fun v4 w=>
 oM prog (.box 45 (.tmp 0)) 0 [a2] (fun v6 w=>
 oM prog (.alloc 49) 0 [] (fun v8 w=>
 oM prog (.load 32 (.tmp 0)) 32 [v4] (fun v13 w=>
 callM prog 98 #[v13,a1] (fun v15 w=>
 oM prog (.unOp .not 4 (.tmp 0)) 4 [v15] (fun v16 w=>
 gdM (gd v16 false) (oM prog (.load 32 (.tmp 0)) 32 [v4]) (fun v18 w=>
 gdM (gd v16 false) (oM prog (.load 45 (.tmp 0)) 45 [v6]) (fun v19 w=>
 gdM (gd v16 false) (callM prog 108 #[v18,v19]) (fun v20 w=>
 gdM (gd v16 false) (oM prog (.unOp .not 4 (.tmp 0)) 4 [v20]) (fun v21 w=>
 oM prog (.pick (.tmp 0) (.tmp 1) (.tmp 2)) 4 [v16,(.bool true),v21] (fun v22 w=>
 gdM (gd v22 false) (pureM a3) (fun v24 w=>
 gdM (gd v22 false) (oM prog (.fieldAddr 32 (.tmp 0) 0) 0 [v4]) (fun v25 w=>
 gdM (gd v22 false) (oM prog (.fieldAddr 30 (.tmp 0) 1) 0 [v25]) (fun v26 w=>
 gdM (gd v22 false) (oM prog (.load 3 (.tmp 0)) 3 [v26]) (fun v27 w=>
 gdM (gd v22 false) (oM prog (.binOp .sub 3 (.tmp 0) (.tmp 1) 3) 3 [v27,(.int .i64 1)]) (fun v28 w=>
 gdM (gd v22 false) (callM prog 99 #[v24,(.int .i64 1),v28]) (fun v29 w=>
 gdM (gd v22 false) (oM prog (.unOp .not 4 (.tmp 0)) 4 [v29]) (fun v30 w=>
 oM prog (.pick (.tmp 0) (.tmp 1) (.tmp 2)) 4 [v22,(.bool true),v30] (fun v31 w=>
 condM v31
 (oM prog (.build 49 #[]) 49 [] (fun v32 w=>
 oM prog (.store 49 (.tmp 0) (.tmp 1)) 0 [v8,v32] (fun _ w=>
 ∃ r_21,(do loadVar 49 (← asAddr v8):Sem Value).run prog w = .ok r_21 w ∧ K (.tuple #[r_21,(.bool false)]) w) w) w)
 (oM prog (.build 49 #[(0,(.tmp 0))]) 49 [a3] (fun v34 w=>
 oM prog (.alloc 49) 0 [] (fun v10 w=>
 oM prog (.store 49 (.tmp 0) (.tmp 1)) 0 [v10,v34] (fun _ w=>
 callM prog 105 #[a1] (fun v36 w=>
 loopM [(.int .i64 0)] w (fun J_25 m_26 l_27 u_l_27 w0_l_27=>(fun w=>(
 oM prog (.call (Go.Call.mk (.builtin .len) #[(.tmp 0)] #[22])) 3 [v36] (fun v39 w=>
 oM prog (.binOp .lss 3 (.tmp 0) (.tmp 1) 3) 4 [(l_27.getD 0 undef),v39] (fun v40 w=>
 condM v40
 (heldM w (fun C_30 w=>(((true:Bool) = true) ∧ (oH prog (.fieldAddr 49 (.tmp 0) 1) 0 [v10] C_30 (fun v43=>
 oH prog (.load 22 (.tmp 0)) 22 [v43] C_30 (fun v44=>
 oH prog (.fieldAddr 32 (.tmp 0) 0) 0 [v4] C_30 (fun v45=>
 oH prog (.fieldAddr 30 (.tmp 0) 1) 0 [v45] C_30 (fun v46=>
 oH prog (.load 3 (.tmp 0)) 3 [v46] C_30 (fun v47=>
 oH prog (.fieldAddr 45 (.tmp 0) 3) 0 [v6] C_30 (fun v48=>
 oH prog (.load 22 (.tmp 0)) 22 [v48] C_30 (fun v49=>
 pureH (l_27.getD 0 undef) C_30 (fun v50=>
 oH prog (.indexAddr 22 (.tmp 0) (.tmp 1)) 0 [v49,v50] C_30 (fun v51=>
 oH prog (.load 3 (.tmp 0)) 3 [v51] C_30 (fun v52=>
 oH prog (.load 32 (.tmp 0)) 32 [v4] C_30 (fun v53=>
 oH prog (.load 32 (.tmp 0)) 32 [v4] C_30 (fun v54=>
 pureH a3 C_30 (fun v55=>
 oH prog (.fieldAddr 45 (.tmp 0) 0) 0 [v6] C_30 (fun v56=>
 oH prog (.load 3 (.tmp 0)) 3 [v56] C_30 (fun v57=>
 pureH v36 C_30 (fun v59=>
 pureH (l_27.getD 0 undef) C_30 (fun v60=>
 oH prog (.indexAddr 22 (.tmp 0) (.tmp 1)) 0 [v59,v60] C_30 (fun v61=>
 oH prog (.load 3 (.tmp 0)) 3 [v61] C_30 (fun v62=>
 ∃ S_50:World → World → Prop,∃ R_51:Value → World → Prop,(∀ v w w_1,S_50 w w_1 → R_51 v w → R_51 v w_1) ∧
 (∀ w,C_30 w → (callM prog 102 #[v54,v55,v57] (fun v w_1=>C_30 w_1 ∧ S_50 w w_1 ∧ R_51 v w_1) w)) ∧
 (∃ R_52:Value → World → Prop,(∀ v w w_1,S_50 w w_1 → R_52 v w → R_52 v w_1) ∧
 (∀ w,C_30 w → ∀ v58,R_51 v58 w → (callM prog 102 #[v53,v58,v62] (fun v w_1=>C_30 w_1 ∧ S_50 w w_1 ∧ R_52 v w_1) w)) ∧
 (∃ R_54:Value → World → Prop,(∀ v w w_1,S_50 w w_1 → R_54 v w → R_54 v w_1) ∧
 (∀ w,C_30 w → ∀ v63,R_52 v63 w → (callM prog 109 #[v47,v52,v63] (fun v w_1=>C_30 w_1 ∧ S_50 w w_1 ∧ R_54 v w_1) w)) ∧
 (∃ R_56:Value → World → Prop,(∀ v w w_1,S_50 w w_1 → R_56 v w → R_56 v w_1) ∧
 (∀ w,C_30 w → ∀ v64,R_54 v64 w → (oM prog (.buildSlice 22 1 #[(0,(.tmp 0))]) 22 [v64] (fun v w_1=>C_30 w_1 ∧ S_50 w w_1 ∧ R_56 v w_1) w)) ∧
 (∀ w,C_30 w → ∀ v58,R_51 v58 w → ∀ v63,R_52 v63 w → ∀ v64,R_54 v64 w → ∀ v65,R_56 v65 w → (
 oM prog (.call (Go.Call.mk (.builtin .append) #[(.tmp 0),(.tmp 1)] #[22,22])) 22 [v44,v65] (fun v66 w=>
 oM prog (.fieldAddr 49 (.tmp 0) 1) 0 [v10] (fun v67 w=>
 oM prog (.store 22 (.tmp 0) (.tmp 1)) 0 [v67,v66] (fun _ w=>
 oM prog (.binOp .add 3 (.tmp 0) (.tmp 1) 3) 3 [(l_27.getD 0 undef),(.int .i64 1)] (fun v42 w=>
 J_25 [v42] w ∧ m_26 [v42] w < m_26 l_27 w0_l_27) w) w) w) w))))))))))))))))))))))))))))
 (oM prog (.load 49 (.tmp 0)) 49 [v10] (fun v68 w=>
 oM prog (.store 49 (.tmp 0) (.tmp 1)) 0 [v8,v68] (fun _ w=>
 ∃ r_66,(do loadVar 49 (← asAddr v8):Sem Value).run prog w = .ok r_66 w ∧ K (.tuple #[r_66,(.bool true)]) w) w) w)) w) w)) w0_l_27)) w) w) w) w)) w) w) w) w) w) w) w) w) w) w) w) w) w) w) w) w) w) w) w
theorem sh_46_ok {a0 a1 a2 a3:Value} {K:Value → World → Prop} {w:World} (h:sh_46 a0 a1 a2 a3 K w):callM prog 46 #[a0,a1,a2,a3] K w:=
 calls_of_code (fun _=>.free [0,1,2,3,4,5,6,7,8,9,10,11,12,13,14,16,17,18,19] [15,20,21,22] [23,24,25]) (fn:=Tryz.f46) (rs:=[.cell 8 49,.tmp 9]) Tryz.func46 rfl rfl (by kernel_rfl) (Nat.le_of_ble_eq_true rfl) (Eq.mp (by kernel_rfl) h)
def sh_47 (a0 a1 a2 a3:Value) (K:Value → World → Prop) (w:World):Prop:=
 oM prog (.box 32 (.tmp 0)) 0 [a0] (fun v4 w=>
 oM prog (.box 41 (.tmp 0)) 0 [a1] (fun v5 w=>
 oM prog (.box 49 (.tmp 0)) 0 [a2] (fun v6 w=>
 oM prog (.box 49 (.tmp 0)) 0 [a3] (fun v7 w=>
 oM prog (.load 32 (.tmp 0)) 32 [v4] (fun v14 w=>
 oM prog (.load 41 (.tmp 0)) 41 [v5] (fun v15 w=>
 oM prog (.load 49 (.tmp 0)) 49 [v6] (fun v16 w=>
 callM prog 54 #[v14,v15,v16] (fun v17 w=>
 oM prog (.unOp .not 4 (.tmp 0)) 4 [v17] (fun v18 w=>
 gdM (gd v18 false) (oM prog (.load 32 (.tmp 0)) 32 [v4]) (fun v20 w=>
 gdM (gd v18 false) (oM prog (.load 41 (.tmp 0)) 41 [v5]) (fun v21 w=>
 gdM (gd v18 false) (oM prog (.load 49 (.tmp 0)) 49 [v7]) (fun v22 w=>
 gdM (gd v18 false) (callM prog 54 #[v20,v21,v22]) (fun v23 w=>
 gdM (gd v18 false) (oM prog (.unOp .not 4 (.tmp 0)) 4 [v23]) (fun v24 w=>
 oM prog (.pick (.tmp 0) (.tmp 1) (.tmp 2)) 4 [v18,(.bool true),v24] (fun v25 w=>
 gdM (gd v25 false) (oM prog (.fieldAddr 49 (.tmp 0) 0) 0 [v6]) (fun v27 w=>
 gdM (gd v25 false) (oM prog (.load 3 (.tmp 0)) 3 [v27]) (fun v28 w=>
 gdM (gd v25 false) (oM prog (.fieldAddr 49 (.tmp 0) 0) 0 [v7]) (fun v29 w=>
 gdM (gd v25 false) (oM prog (.load 3 (.tmp 0)) 3 [v29]) (fun v30 w=>
 gdM (gd v25 false) (oM prog (.binOp .eql 3 (.tmp 0) (.tmp 1) 3) 4 [v28,v30]) (fun v31 w=>
 oM prog (.pick (.tmp 0) (.tmp 1) (.tmp 2)) 4 [v25,(.bool true),v31] (fun v32 w=>
 condM v32
 (K (.tuple #[(.slice none 0 0),(.bool false)]) w)
 (oM prog (.fieldAddr 32 (.tmp 0) 0) 0 [v4] (fun v33 w=>
 oM prog (.fieldAddr 30 (.tmp 0) 1) 0 [v33] (fun v34 w=>
 oM prog (.load 3 (.tmp 0)) 3 [v34] (fun v35 w=>
 heldM w (fun C_25 w=>(((true:Bool) = true) ∧ (pureH v35 C_25 (fun v36=>
 oH prog (.fieldAddr 49 (.tmp 0) 1) 0 [v6] C_25 (fun v37=>
 oH prog (.load 22 (.tmp 0)) 22 [v37] C_25 (fun v38=>
 oH prog (.indexAddr 22 (.tmp 0) (.tmp 1)) 0 [v38,(.int .i64 0)] C_25 (fun v39=>
 oH prog (.load 3 (.tmp 0)) 3 [v39] C_25 (fun v40=>
 oH prog (.fieldAddr 49 (.tmp 0) 1) 0 [v7] C_25 (fun v41=>
 oH prog (.load 22 (.tmp 0)) 22 [v41] C_25 (fun v42=>
 oH prog (.indexAddr 22 (.tmp 0) (.tmp 1)) 0 [v42,(.int .i64 0)] C_25 (fun v43=>
 oH prog (.load 3 (.tmp 0)) 3 [v43] C_25 (fun v44=>
 ∃ S_35:World → World → Prop,∀ w,C_25 w → (
 callM prog 104 #[v36,v40,v44] (fun v45 w=>
 oM prog (.binOp .eql 3 (.tmp 0) (.const (.int .i64 0)) 3) 4 [v45] (fun v47 w=>
 condM v47
 (K (.tuple #[(.slice none 0 0),(.bool false)]) w)
 (oM prog (.buildSlice 22 0 #[]) 22 [] (fun v48 w=>
 loopM [v48,(.int .i64 1)] w (fun J_39 m_40 l_41 u_l_41 w0_l_41=>(fun w=>(
 oM prog (.fieldAddr 49 (.tmp 0) 1) 0 [v6] (fun v50 w=>
 oM prog (.load 22 (.tmp 0)) 22 [v50] (fun v51 w=>
 oM prog (.call (Go.Call.mk (.builtin .len) #[(.tmp 0)] #[22])) 3 [v51] (fun v52 w=>
 oM prog (.binOp .lss 3 (.tmp 0) (.tmp 1) 3) 4 [(l_41.getD 1 undef),v52] (fun v53 w=>
 condM v53
 (heldM w (fun C_46 w=>(((true:Bool) = true) ∧ (pureH (l_41.getD 0 undef) C_46 (fun v56=>
 oH prog (.load 32 (.tmp 0)) 32 [v4] C_46 (fun v57=>
 pureH v35 C_46 (fun v58=>
 oH prog (.fieldAddr 49 (.tmp 0) 1) 0 [v6] C_46 (fun v59=>
 oH prog (.load 22 (.tmp 0)) 22 [v59] C_46 (fun v60=>
 pureH (l_41.getD 1 undef) C_46 (fun v61=>
 oH prog (.indexAddr 22 (.tmp 0) (.tmp 1)) 0 [v60,v61] C_46 (fun v62=>
 oH prog (.load 3 (.tmp 0)) 3 [v62] C_46 (fun v63=>
 oH prog (.fieldAddr 49 (.tmp 0) 1) 0 [v7] C_46 (fun v64=>
 oH prog (.load 22 (.tmp 0)) 22 [v64] C_46 (fun v65=>
 pureH (l_41.getD 1 undef) C_46 (fun v66=>
 oH prog (.indexAddr 22 (.tmp 0) (.tmp 1)) 0 [v65,v66] C_46 (fun v67=>
 oH prog (.load 3 (.tmp 0)) 3 [v67] C_46 (fun v68=>
 pureH v45 C_46 (fun v70=>
 ∃ S_61:World → World → Prop,∃ R_62:Value → World → Prop,(∀ v w w_1,S_61 w w_1 → R_62 v w → R_62 v w_1) ∧
 (∀ w,C_46 w → (callM prog 104 #[v58,v63,v68] (fun v w_1=>C_46 w_1 ∧ S_61 w w_1 ∧ R_62 v w_1) w)) ∧
 (∃ R_63:Value → World → Prop,(∀ v w w_1,S_61 w w_1 → R_63 v w → R_63 v w_1) ∧
 (∀ w,C_46 w → ∀ v69,R_62 v69 w → (callM prog 101 #[v57,v69,v70] (fun v w_1=>C_46 w_1 ∧ S_61 w w_1 ∧ R_63 v w_1) w)) ∧
 (∃ R_65:Value → World → Prop,(∀ v w w_1,S_61 w w_1 → R_65 v w → R_65 v w_1) ∧
 (∀ w,C_46 w → ∀ v71,R_63 v71 w → (oM prog (.buildSlice 22 1 #[(0,(.tmp 0))]) 22 [v71] (fun v w_1=>C_46 w_1 ∧ S_61 w w_1 ∧ R_65 v w_1) w)) ∧
 (∀ w,C_46 w → ∀ v69,R_62 v69 w → ∀ v71,R_63 v71 w → ∀ v72,R_65 v72 w → (
 oM prog (.call (Go.Call.mk (.builtin .append) #[(.tmp 0),(.tmp 1)] #[22,22])) 22 [v56,v72] (fun v73 w=>
 oM prog (.binOp .add 3 (.tmp 0) (.tmp 1) 3) 3 [(l_41.getD 1 undef),(.int .i64 1)] (fun v55 w=>
 J_39 [v73,v55] w ∧ m_40 [v73,v55] w < m_40 l_41 w0_l_41) w) w))))))))))))))))))))))
 (K (.tuple #[(l_41.getD 0 undef),(.bool true)]) w)) w) w) w) w)) w0_l_41)) w)) w) w)))))))))))))) w) w) w)) w) w) w) w) w) w) w) w) w) w) w) w) w) w) w) w) w) w) w) w) w
theorem sh_47_ok {a0 a1 a2 a3:Value} {K:Value → World → Prop} {w:World} (h:sh_47 a0 a1 a2 a3 K w):callM prog 47 #[a0,a1,a2,a3] K w:=
 calls_of_code (fun i=>bif Nat.beq i 4 then .free [0,1,2,3,4,5,6,7,8] [] [9,10] else bif Nat.beq i 11 then .free [0,1,2,3,4,5,6,7,8,9,10,11,12,14] [13,15,16] [17,18] else 0) (fn:=Tryz.f47) (rs:=[.tmp 8,.tmp 9]) Tryz.func47 rfl rfl (by kernel_rfl) (Nat.le_of_ble_eq_true rfl) (Eq.mp (by kernel_rfl) h)
def sh_49 (a0:Value) (K:Value → World → Prop) (w:World):Prop:=
 oM prog (.alloc 41) 0 [] (fun v2 w=>
 callM prog 113 #[a0] (fun v7 w=>
 callM prog 114 #[v7] (fun v9 w=>
 callM prog 115 #[v7] (fun v11 w=>
 oM prog (.unOp .not 4 (.tmp 0)) 4 [v11] (fun v12 w=>
 gdM (gd v12 false) (pureM v9) (fun v14 w=>
 gdM (gd v12 false) (oM prog (.call (Go.Call.mk (.builtin .len) #[(.tmp 0)] #[22])) 3 [v14]) (fun v15 w=>
 gdM (gd v12 false) (oM prog (.binOp .neq 3 (.tmp 0) (.const (.int .i64 6)) 3) 4 [v15]) (fun v16 w=>
 oM prog (.pick (.tmp 0) (.tmp 1) (.tmp 2)) 4 [v12,(.bool true),v16] (fun v17 w=>
 condM v17
 (oM prog (.build 41 #[]) 41 [] (fun v18 w=>
 oM prog (.store 41 (.tmp 0) (.tmp 1)) 0 [v2,v18] (fun _ w=>
 ∃ r_11,(do loadVar 41 (← asAddr v2):Sem Value).run prog w = .ok r_11 w ∧ K (.tuple #[r_11,(.bool false)]) w) w) w)
 (heldM w (fun C_12 w=>(((true:Bool) = true) ∧ (pureH v9 C_12 (fun v19=>
 oH prog (.indexAddr 22 (.tmp 0) (.tmp 1)) 0 [v19,(.int .i64 0)] C_12 (fun v20=>
 oH prog (.load 3 (.tmp 0)) 3 [v20] C_12 (fun v21=>
 pureH v9 C_12 (fun v22=>
 oH prog (.indexAddr 22 (.tmp 0) (.tmp 1)) 0 [v22,(.int .i64 1)] C_12 (fun v23=>
 oH prog (.load 3 (.tmp 0)) 3 [v23] C_12 (fun v24=>
 pureH v9 C_12 (fun v25=>
 oH prog (.indexAddr 22 (.tmp 0) (.tmp 1)) 0 [v25,(.int .i64 2)] C_12 (fun v26=>
 oH prog (.load 3 (.tmp 0)) 3 [v26] C_12 (fun v27=>
 pureH v9 C_12 (fun v28=>
 oH prog (.indexAddr 22 (.tmp 0) (.tmp 1)) 0 [v28,(.int .i64 3)] C_12 (fun v29=>
 oH prog (.load 3 (.tmp 0)) 3 [v29] C_12 (fun v30=>
 pureH v9 C_12 (fun v31=>
 oH prog (.indexAddr 22 (.tmp 0) (.tmp 1)) 0 [v31,(.int .i64 4)] C_12 (fun v32=>
 oH prog (.load 3 (.tmp 0)) 3 [v32] C_12 (fun v33=>
 pureH v9 C_12 (fun v34=>
 oH prog (.indexAddr 22 (.tmp 0) (.tmp 1)) 0 [v34,(.int .i64 5)] C_12 (fun v35=>
 oH prog (.load 3 (.tmp 0)) 3 [v35] C_12 (fun v36=>
 ∃ S_31:World → World → Prop,∀ w,C_12 w → (
 oM prog (.build 41 #[(0,(.tmp 0)),(1,(.tmp 1)),(2,(.tmp 2)),(3,(.tmp 3)),(4,(.tmp 4)),(5,(.tmp 5))]) 41 [v21,v24,v27,v30,v33,v36] (fun v37 w=>
 oM prog (.store 41 (.tmp 0) (.tmp 1)) 0 [v2,v37] (fun _ w=>
 ∃ r_33,(do loadVar 41 (← asAddr v2):Sem Value).run prog w = .ok r_33 w ∧ K (.tuple #[r_33,(.bool true)]) w) w) w)))))))))))))))))))))))) w) w) w) w) w) w) w) w) w
theorem sh_49_ok {a0:Value} {K:Value → World → Prop} {w:World} (h:sh_49 a0 K w):callM prog 49 #[a0] K w:=
 calls_of_code (fun _=>.free [0,1,2,3,4,5,6,7,8,9,10,11,12,13,14,15,16,17] [] [18,19,20]) (fn:=Tryz.f49) (rs:=[.cell 2 41,.tmp 3]) Tryz.func49 rfl rfl (by kernel_rfl) (Nat.le_of_ble_eq_true rfl) (Eq.mp (by kernel_rfl) h)
def sh_55 (a0 a1 a2 a3 a4:Value) (K:Value → World → Prop) (w:World):Prop:=
 oM prog (.box 32 (.tmp 0)) 0 [a0] (fun v5 w=>
 oM prog (.box 41 (.tmp 0)) 0 [a1] (fun v6 w=>
 oM prog (.box 49 (.tmp 0)) 0 [a2] (fun v7 w=>
 oM prog (.box 49 (.tmp 0)) 0 [a3] (fun v8 w=>
 oM prog (.load 32 (.tmp 0)) 32 [v5] (fun v14 w=>
 oM prog (.load 41 (.tmp 0)) 41 [v6] (fun v15 w=>
 oM prog (.load 49 (.tmp 0)) 49 [v7] (fun v16 w=>
 oM prog (.load 49 (.tmp 0)) 49 [v8] (fun v17 w=>
 callM prog 47 #[v14,v15,v16,v17] (fun v18 w=>
 oM prog (.extract (.tmp 0) 0) 22 [v18] (fun v19 w=>
 oM prog (.extract (.tmp 0) 1) 4 [v18] (fun v20 w=>
 gdM (gd v20 true) (pureM v19) (fun v23 w=>
 gdM (gd v20 true) (pureM a4) (fun v24 w=>
 gdM (gd v20 true) (callM prog 33 #[v23,v24]) (fun v25 w=>
 oM prog (.pick (.tmp 0) (.tmp 1) (.tmp 2)) 4 [v20,v25,(.bool false)] (fun v26 w=>
 K v26 w) w) w) w) w) w) w) w) w) w) w) w) w) w) w) w
theorem sh_55_ok {a0 a1 a2 a3 a4:Value} {K:Value → World → Prop} {w:World} (h:sh_55 a0 a1 a2 a3 a4 K w):callM prog 55 #[a0,a1,a2,a3,a4] K w:=
 calls_of_code (fun _=>0) (fn:=Tryz.f55) (rs:=[.tmp 10]) Tryz.func55 rfl rfl (by kernel_rfl) (Nat.le_of_ble_eq_true rfl) (Eq.mp (by kernel_rfl) h)
end Go.Proofs
namespace Go.Proofs
open Go Go.Sh Go.RowKit FdSpec TkSpec CodeSpec
section
variable {K:Value → World → Prop} {w w0:World} {L:List (Addr × Value)}
def RfJ (g:Grp) (R:Bool) (l:List Int) (w0:World) (vs:List Value) (w':World):Prop:=Below w0.heap.size w0 w' ∧ ∃ (u:Value) (i:Nat),vs = [u,.int .i64 (i:Int)] ∧ i ≤ l.length ∧ (l.drop i).all (elemG g) = R
theorem rFormed_ok (s:Stp) (t:Tkt) {v:Value} (ht:TktR t) (hs:SetR w s v) (k:∀ w',Below w.heap.size w w' → K (.bool (formedM s t)) w'):callM Tryz.prog 51 #[stpV s v,tktV t] K w:=by
 apply sh_51_ok
 unfold sh_51
 obtain ⟨ad,c,rfl⟩:=hs.ints.isSlice
 refine box_kn (cs:=stpC s (.slice ad s.bases.length c)) rfl (.start w) fun b W hk hb1 hb=>?_
 refine box_kn (cs:=tktC t) rfl hk fun b2 W2 hk hb2 hbb=>?_
 have hQR:=hs.grp.2.1
 unfold I64 at hQR
 unfold formedM at k
 refine Xa hk.cells ?_
 refine rValidSetup_ok s (hs.next hk.below) (fun w1 h=>?_)
 have hk:=hk.next h
 clear h hb1 hb2
 cases hv:validS s with
 | false=>
  rw [hv,Bool.false_and,Bool.false_and,Bool.false_and] at k
  refine Xa0 ?_
  exact k _ hk.below
 | true=>
 have hq:=validS_Q hv
 rw [hv,Bool.true_and] at k
 by_cases hm1:t.mark = 1
 ·rw [decide_eq_true hm1,Bool.not_true,Bool.false_and,Bool.false_and] at k
  refine Xa (An2 hk.cells @hm1) ?_
  exact k _ hk.below
 rw [decide_eq_false hm1,Bool.not_false,Bool.true_and,Bool.and_comm] at k
 refine Xa (An2 hk.cells @hm1) ?_
 refine in_ok t.r 0 _ ?_
 rw [in_eq (by omega)]
 cases hn:numsM s 0 [t.r] with
 | false=>
  rw [hn,Bool.false_and] at k
  refine Xa0 ?_
  exact k _ hk.below
 | true=>
 rw [hn,Bool.true_and] at k
 repeat (any_goals (first
 | ((with_reducible refine mk5 t.mark t.first t.z t.a t.b ht.mark ht.first ht.z ht.a ht.b ?_); intro v8 W8 hb8 hi8)
 | (with_reducible first|refine zC ?_|refine yC ?_|refine yM ?_)
 | ((with_reducible refine oM_gen fun Kv hK=>?_); simp [go_sem,hk.cells]; refine hK _ _ ?_; clear hK Kv)))
 have hk:=hk.next hb8
 obtain ⟨ad8,c8,rfl⟩:=hi8.isSlice
 unfold elementsM at k
 generalize [t.mark,t.first,t.z,t.a,t.b] = l at *
 have hll:=hi8.len
 refine ⟨RfJ s.g (l.all (elemG s.g)) l W8,grMu l.length,⟨Below.refl _ _,_,0,rfl,by omega,rfl⟩,?_⟩
 generalize l.all (elemG s.g) = R at *
 rintro _ _ w6 ⟨h6,u,i,rfl,hi,ha⟩
 have hk:=hk.next h6
 by_cases hin:i = l.length
 ·rw [List.drop_of_length_le (by omega),List.all_nil] at ha
  refine Xa0 ?_
  rw [← ha] at k
  exact k _ hk.below
 ·rw [List.drop_eq_getElem_cons (by omega),List.all_cons] at ha
  obtain ⟨b1,o1,rfl,hb1,ca,ra,_⟩:=hi8.at (i:=i) (by omega)
  refine Xa0 ?_
  have hk:=hk.drew
  have h6:=h6.on (.drawn (B:=w6.heap.size))
  refine ⟨Nx { w6 with drawn:=w6.drawn + 1 },Below.refl _ _,rfl,?_⟩
  generalize ({ w6 with drawn:=w6.drawn + 1 }:World) = W6 at hk h6 ⊢
  refine Xc (fun W0 hW0=>An2 ((hk.next hW0).cells) (ca _ (h6.on hW0))) ?_
  refine ⟨Nx,fun w7 h7=>?_⟩
  refine rElement_ok s.g _ hs.grp (fun w8 h8=>?_)
  have hk:=(hk.next h7).next h8
  cases he:elemG s.g l[i] with
  | false=>
   rw [he,Bool.false_and] at ha
   subst ha
   refine Xa0 ?_
   exact k _ hk.below
  | true=>
   rw [he,Bool.true_and] at ha
   refine Xa0 ?_
   refine ⟨⟨(h6.on h7).on h8,_,i + 1,rfl,by omega,ha⟩,?_⟩
   simp only [grMu_eq]; omega
theorem rInner_ok (s:Stp) (t:Tkt) {v:Value} (ht:TktR t) (hs:SetR w s v) (k:∀ w',Below w.heap.size w w' → K (.int .i64 (innM s t)) w'):callM Tryz.prog 52 #[stpV s v,tktV t] K w:=by
 apply sh_52_ok
 unfold sh_52
 obtain ⟨ad,c,rfl⟩:=hs.ints.isSlice
 refine box_kn (cs:=stpC s (.slice ad s.bases.length c)) rfl (.start w) fun b W hk hb1 hb=>?_
 refine box_kn (cs:=tktC t) rfl hk fun b2 W2 hk hb2 hbb=>?_
 unfold innM at k
 refine Xa hk.cells ?_
 refine rFormed_ok s t ht (hs.next hk.below) (fun w1 h=>?_)
 have hk:=hk.next h
 cases hf:formedM s t with
 | false=>
  rw [hf,if_neg (by decide)] at k
  refine Xa0 ?_
  exact k _ hk.below
 | true=>
 rw [hf,if_pos rfl] at k
 refine Xa hk.cells ?_
 exact number_ok s t ht (hs.next hk.below) (fun w2 h2=>k _ (hk.next h2).below)
end
end Go.Proofs
namespace Go.Proofs
open Go Go.Sh Go.RowKit FdSpec TkSpec CodeSpec
section
variable {K:Value → World → Prop} {w w0:World} {L:List (Addr × Value)}
theorem rVal_ok (s:Stp) (key:Int) (t:Tkt) {v:Value} (ht:TktR t) (hs:SetR w s v) (k:∀ w',Below w.heap.size w w' → K (.bool (validM s key t)) w'):callM Tryz.prog 53 #[stpV s v,.int .i64 key,tktV t] K w:=by
 apply sh_53_ok
 unfold sh_53
 obtain ⟨ad,c,rfl⟩:=hs.ints.isSlice
 refine box_kn (cs:=stpC s (.slice ad s.bases.length c)) rfl (.start w) fun b W hk hb1 hb=>?_
 refine box_kn (cs:=tktC t) rfl hk fun b2 W2 hk hb2 hbb=>?_
 clear hb1 hb2
 refine Xa hk.cells ?_
 refine rInner_ok s t ht (hs.next hk.below) (fun w1 h=>?_)
 have hk:=hk.next h
 clear h
 refine Xa hk.cells ?_
 refine Key_ok s key (hs.next hk.below) (fun w2 h=>?_)
 have hk:=hk.next h
 clear h
 unfold validM at k
 unfold innM
 cases hf:formedM s t with
 | false=>
  rw [hf,Bool.false_and,Bool.false_and,Bool.false_and] at k
  rw [if_neg (by decide)]
  generalize (validS s && keyM s key) = q
  cases q with
  | false=>
   refine Xa0 ?_
   exact k _ hk.below
  | true=>
   refine Xa0 ?_
   exact k _ hk.below
 | true=>
 rw [hf,Bool.true_and] at k
 rw [if_pos rfl]
 have hv:validS s = true:=by
  unfold formedM at hf
  simp only [Bool.and_eq_true] at hf
  exact hf.1.1.1
 rw [hv,Bool.true_and]
 cases hke:keyM s key with
 | false=>
  rw [hke,Bool.false_and,Bool.false_and] at k
  refine Xa0 ?_
  exact k _ hk.below
 | true=>
 rw [hke,Bool.true_and] at k
 by_cases h0:innerQ s t = 0
 ·rw [decide_eq_true h0,Bool.not_true,Bool.false_and] at k
  refine Xa @h0 ?_
  exact k _ hk.below
 rw [decide_eq_false h0,Bool.not_false,Bool.true_and] at k
 unfold signedM genM at k
 dsimp only at k
 generalize innerQ s t = q at *
 refine Xa @h0 ?_
 have hk:=hk.drew
 refine ⟨Nx { w2 with drawn:=w2.drawn + 1 },Below.refl _ _,rfl,?_⟩
 generalize ({ w2 with drawn:=w2.drawn + 1 }:World) = W at hk ⊢
 refine Xc (fun W0 hW0=>(hk.next hW0).cells) ?_
 refine ⟨Nx,?_⟩
 apply monoE
 ·intro w1 h1
  exact qpower_ok s _ t.r (hs.next (hk.next h1).below) (fun w2 h2=>⟨h1.on h2,h2,rfl⟩)
 apply monoE
 ·intro w1 h1
  exact qpower_ok s key q (hs.next (hk.next h1).below) (fun w2 h2=>⟨h1.on h2,h2,rfl⟩)
 rintro w1 h1 _ rfl _ rfl
 have hk:=hk.next h1
 clear h1
 refine qtimes_ok s _ _ (hs.next hk.below) (fun w3 h3=>?_)
 have hk:=hk.next h3
 clear h3
 refine Xa0 ?_
 generalize decide (powerG s.g s.g.G t.r = timesM s (powerG s.g key q) [t.a]) = p1 at *
 have hk:=hk.drew
 refine ⟨Nx { w3 with drawn:=w3.drawn + 1 },Below.refl _ _,rfl,?_⟩
 generalize ({ w3 with drawn:=w3.drawn + 1 }:World) = W at hk ⊢
 cases p1 with
 | false=>
  rw [Bool.false_and] at k
  refine Xc (fun W0 hW0=>(hk.next hW0).cells) ?_
  refine ⟨Nx,?_⟩
  refine Xd0 ?_
  (intro w9 h9; repeat (intro v9 e9; try (obtain rfl:=e9)))
  refine Xa0 ?_
  exact k _ (hk.next h9).below
 | true=>
 rw [Bool.true_and] at k
 refine Xc (fun W0 hW0=>(hk.next hW0).cells) ?_
 refine ⟨Nx,?_⟩
 apply monoE
 ·intro w1 h1
  refine Xa0 ?_
  exact qpower_ok s _ t.r (hs.next (hk.next h1).below) (fun w2 h2=>⟨h1.on h2,h2,rfl⟩)
 apply monoE
 ·intro w1 h1
  refine Xa0 ?_
  exact qpower_ok s _ q (hs.next (hk.next h1).below) (fun w2 h2=>⟨h1.on h2,h2,rfl⟩)
 rintro w1 h1 _ rfl _ rfl
 have hk:=hk.next h1
 clear h1
 refine Xa0 ?_
 refine qtimes_ok s _ _ (hs.next hk.below) (fun w4 h4=>?_)
 have k:=k _ (hk.next h4).below
 refine Xa0 ?_
 exact k
theorem rEncode_ok (t:Tkt) (ht:TktR t) (k:∀ w',Below w.heap.size w w' → K (.string ⟨(encM t).toArray⟩) w'):callM Tryz.prog 57 #[tktV t] K w:=by
 apply sh_57_ok
 unfold sh_57
 refine box_kn (cs:=tktC t) rfl (.start w) fun b W hk hb1 hb=>?_
 repeat (any_goals (first
 | ((with_reducible refine mk6 t ht ?_); intro v8 W8 hb8 hi)
 | ((with_reducible refine oM_gen fun Kv hK=>?_); simp [go_sem,hk.cells]; refine hK _ _ ?_; clear hK Kv)))
 have hk:=hk.next hb8
 refine Cd.qNums_ok (tktL t) v8 (Ints.rowOf hi) (fun x hx=>(InR_iff x).2 (ht.all x hx)) (by have:=encM_len ht; unfold encM encNums at this; omega) (fun w' hb'=>?_)
 exact k _ (hk.next hb').below
theorem rLendDare_ok (s:Stp) (t:Tkt) (m:List UInt8) {v:Value} (hm:m.length ≤ 100000000) (ht:TktR t) (hs:SetR w s v) (k:∀ w',Below w.heap.size w w' → K (.int .i64 (lendM s t m)) w'):callM Tryz.prog 58 #[stpV s v,tktV t,.string ⟨m.toArray⟩] K w:=by
 apply sh_58_ok
 unfold sh_58
 obtain ⟨ad,c,rfl⟩:=hs.ints.isSlice
 refine box_kn (cs:=stpC s (.slice ad s.bases.length c)) rfl (.start w) fun b W hk hb1 hb=>?_
 refine box_kn (cs:=tktC t) rfl hk fun b2 W2 hk hb2 hbb=>?_
 unfold lendM at k
 refine Xa hk.cells ?_
 refine rValidSetup_ok s (hs.next hk.below) (fun w2 h=>?_)
 have hk:=hk.next h
 clear h hb1 hb2
 cases hv:validS s with
 | false=>
  rw [hv,if_neg (by decide)] at k
  refine Xa0 ?_
  exact k _ hk.below
 | true=>
 rw [hv,if_pos rfl] at k
 obtain ⟨hq1,hq2⟩:=validS_bd hv
 have hr:=numberM_range (encT t ++ encText m) _ (lend_nums hq1 hq2)
 have ed:s.g.Q.tdiv 2 = s.g.Q / 2:=Int.tdiv_eq_ediv_of_nonneg (by omega)
 have e0:IntKind.i64.wrap (s.g.Q / 2) = s.g.Q / 2:=wrapI64 _ (by omega) (by omega)
 have e1:IntKind.i64.wrap (s.g.Q / 2 + 1) = s.g.Q / 2 + 1:=wrapI64 _ (by omega) (by omega)
 have e2:IntKind.i64.wrap (s.g.Q - 1) = s.g.Q - 1:=wrapI64 _ (by omega) (by omega)
 have e3:IntKind.i64.wrap (s.g.Q - 1 - s.g.Q / 2) = s.g.Q - 1 - s.g.Q / 2:=wrapI64 _ (by omega) (by omega)
 have e4:IntKind.i64.wrap (s.g.Q / 2 + 1 + numberM (encT t ++ encText m) (s.g.Q - 1 - s.g.Q / 2)) = s.g.Q / 2 + 1 + numberM (encT t ++ encText m) (s.g.Q - 1 - s.g.Q / 2):=wrapI64 _ (by omega) (by omega)
 have hl1:=encM_len ht
 have hl2:=Cd.encText_len m (by omega)
 refine Xa (An3 hk.cells @ed @e0) ?_
 have hk:=hk.drew
 refine ⟨Nx { w2 with drawn:=w2.drawn + 1 },Below.refl _ _,rfl,?_⟩
 generalize ({ w2 with drawn:=w2.drawn + 1 }:World) = W at hk ⊢
 refine Xf (fun W0 hW0=>(hk.next hW0).cells) (An3 @e1 @e2 @e3) ?_
 refine ⟨Nx,?_⟩
 apply monoE
 ·intro w1 h1
  exact rEncode_ok t ht (fun w2 h2=>⟨h1.on h2,h2,rfl⟩)
 apply monoE
 ·intro w1 h1
  exact Cd.qText_ok m (by omega) (fun w2 h2=>⟨h1.on h2,h2,rfl⟩)
 refine Xd0 ?_
 apply monoE
 ·rintro w1 h1 _ rfl
  rw [encT_eq] at hl1 ⊢
  exact rNumber_ok (encT t ++ encText m) _ (by rw [List.length_append]; omega) (fun w2 h2=>⟨h1.on h2,h2,rfl⟩)
 (intro w9 h9; repeat (intro v9 e9; try (obtain rfl:=e9)))
 refine Xa @e4 ?_
 exact k _ (hk.next h9).below
theorem rAccepts_ok (s:Stp) (t:Tkt) (x:Spd) {v xv:Value} (ht:TktR t) (hs:SetR w s v) (hx:SpdR w x xv) (k:∀ w',Below w.heap.size w w' → K (.bool (acceptsM s t x)) w'):callM Tryz.prog 54 #[stpV s v,tktV t,spdV x xv] K w:=by
 apply sh_54_ok
 unfold sh_54
 obtain ⟨ad,c,rfl⟩:=hs.ints.isSlice
 have hans:=hx.answers
 obtain ⟨xad,xc,rfl⟩:=hx.answers.isSlice
 have k2:∀ w' r,acceptsM s t x = r → Below w.heap.size w w' → K (.bool r) w':=fun w' r e hb=>by rw [← e]; exact k w' hb
 clear k
 refine box_kn (cs:=stpC s (.slice ad s.bases.length c)) rfl (.start w) fun b1 W hk hb1 hbb=>?_
 refine box_kn (cs:=tktC t) rfl hk fun b2 W2 hk hb2 hbb=>?_
 refine box_kn (cs:=spdC x (.slice xad x.answers.length xc)) rfl hk fun b3 W3 hk hb3 hbb=>?_
 have hQR:=hs.grp.2.1
 unfold I64 at hQR
 refine Xa hk.cells ?_
 refine rFormed_ok s t ht (hs.next hk.below) (fun w2 h2=>?_)
 have hk:=hk.next h2
 clear hb1 h2 hb2 hb3
 cases hf:formedM s t with
 | false=>
  refine Xa0 ?_
  exact k2 _ _ (acceptsM_no (.inl hf)) hk.below
 | true=>
 have hv:validS s = true:=by
  unfold formedM at hf
  simp only [Bool.and_eq_true] at hf
  exact hf.1.1.1
 have hq:=validS_Q hv
 refine Xa hk.cells ?_
 refine in_ok x.dare 1 _ ?_
 rw [in_eq (by omega)]
 cases hn:numsM s 1 [x.dare] with
 | false=>
  refine Xa0 ?_
  exact k2 _ _ (acceptsM_no (.inr (.inl hn))) hk.below
 | true=>
 refine Xa hk.cells ?_
 refine residues_ok s s.bases.length (by omega) (hs.next hk.below) (hans.next hk.below) (by omega) (fun w3 h3=>?_)
 have hk:=hk.next h3
 clear h3
 by_cases hal:x.answers.length = s.bases.length
 rotate_left
 ·rw [decide_eq_false hal,Bool.false_and]
  refine Xa0 ?_
  exact k2 _ _ (acceptsM_no (.inr (.inr (.inl hal)))) hk.below
 rw [decide_eq_true hal,Bool.true_and]
 cases hn0:numsM s 0 x.answers with
 | false=>
  refine Xa0 ?_
  exact k2 _ _ (acceptsM_no (.inr (.inr (.inr hn0)))) hk.below
 | true=>
 have ey:acceptsM s t x = decide ((prodG s.g s.bases x.answers).1 = timesM s (powerG s.g t.mark x.dare) [t.first]):=by
  unfold acceptsM
  rw [if_pos (by rw [hf,hn,hn0,decide_eq_true hal]; rfl)]
 refine Xa0 ?_
 have hk:=hk.drew
 refine ⟨Nx { w3 with drawn:=w3.drawn + 1 },Below.refl _ _,rfl,?_⟩
 generalize ({ w3 with drawn:=w3.drawn + 1 }:World) = W at hk ⊢
 refine Xc (fun W0 hW0=>(hk.next hW0).cells) ?_
 refine ⟨Nx,?_⟩
 apply monoE
 ·intro w1 h1
  exact qproduct_ok s (hs.next (hk.next h1).below) (hans.next (hk.next h1).below) (fun w2 h2=>⟨h1.on h2,h2,rfl⟩)
 apply monoE
 ·intro w1 h1
  exact qpower_ok s _ x.dare (hs.next (hk.next h1).below) (fun w2 h2=>⟨h1.on h2,h2,rfl⟩)
 rintro w1 h1 _ rfl _ rfl
 have hk:=hk.next h1
 refine qtimes_ok s _ _ (hs.next hk.below) (fun w4 h4=>?_)
 have k:=k2 _ _ ey (hk.next h4).below
 refine Xa0 ?_
 exact k
end
end Go.Proofs
namespace Go.Proofs
open Go Go.Sh Go.RowKit FdSpec TkSpec CodeSpec
section
variable {K:Value → World → Prop} {w w0:World} {L:List (Addr × Value)}
end
end Go.Proofs
namespace Go.Proofs
open Go Go.Sh Go.RowKit FdSpec TkSpec CodeSpec
section
variable {K:Value → World → Prop} {w w0:World} {L:List (Addr × Value)}
end
end Go.Proofs
namespace Go.Proofs
open Go Go.Sh Go.RowKit FdSpec TkSpec CodeSpec
section
variable {K:Value → World → Prop} {w w0:World} {L:List (Addr × Value)}
theorem Exps_okF {lv:Value} {l:List Int} (hl:Ints w lv l) (hll:l.length < 1000000) (k:∀ v w',Below w.heap.size w w' → Ints w' v (expsM l) → (∀ i,Value.inBlock v = some i → w.heap.size ≤ i) → K v w'):callM Tryz.prog 105 #[lv] K w:=by
 apply sh_105_ok
 unfold sh_105
 refine mkI1 1 fun v W h1 ho=>?_
 refine appendI ho h1.size (hl.next h1) (by simp; omega) (fun v' w' ho' h2=>?_)
 have hI:=ho'.ints (by
  intro n hn
  rcases List.mem_cons.1 hn with rfl | hn
  ·exact ⟨by decide,by decide⟩
  ·exact hl.rng n hn) (by simp; omega)
 refine k _ _ (h1.trans h2) hI ?_
 obtain ⟨g',oc,cur,rfl,_,hB,_,_,_,_⟩:=owns_cells ho' (by simp)
 intro i hi
 cases hi
 exact hB
def RuJ (Wl:World) (g:Nat) (T:TypeId) (cs:Value → List Value) (al:List Int) (vs:List Value) (w':World):Prop:=∃ (ov:Value) (i:Nat),vs = [.int .i64 (i:Int)] ∧ i ≤ al.length ∧ GrI Wl w' g T (cs ov) ov (al.take i)
def ruMu (n:Nat) (l:List Value) (_:World):Nat:=match l with | [.int _ i]=>n - i.toNat | _=>0
theorem ruMu_eq (n:Nat) (k:IntKind) (i:Int) (w:World):ruMu n [.int k i] w = n - i.toNat:=rfl
theorem build_spd0 (T:TypeId):oM Tryz.prog (Go.Op.build 49 #[]) T [] = pureM (spdV ⟨0,[]⟩ (.slice none 0 0)):=by
 funext K w
 kernel_rfl
theorem build_spd1 (T:TypeId) (x:Int):oM Tryz.prog (Go.Op.build 49 #[(0,(.tmp 0))]) T [.int .i64 x] = pureM (spdV ⟨x,[]⟩ (.slice none 0 0)):=by
 funext K w
 kernel_rfl
theorem rUse_ok (s:Stp) (b:Bld) (dare:Int) {v bv lv:Value} {l:List Int} (hd:I64 dare) (hs:SetR w s v) (hl:Ints w lv l) (hb:BldR w b bv)
  (k:∀ w' ov,Below w.heap.size w w' → Ints w' ov (useM s l b dare).1.answers → K (.tuple #[spdV (useM s l b dare).1 ov,.bool (useM s l b dare).2]) w'):callM Tryz.prog 46 #[stpV s v,lv,bldV b bv,.int .i64 dare] K w:=by
 apply sh_46_ok
 unfold sh_46
 obtain ⟨ad,c,rfl⟩:=hs.ints.isSlice
 have hys:=hb.ys
 have hb0:=hb
 obtain ⟨yad,yc,rfl⟩:=hb.ys.isSlice
 have k2:∀ w' ov r,useM s l b dare = r → Below w.heap.size w w' → Ints w' ov r.1.answers → K (.tuple #[spdV r.1 ov,.bool r.2]) w':=fun w' ov r e hb hi=>by
  rw [← e] at hi ⊢
  exact k w' ov hb hi
 clear k
 refine box_kn (cs:=stpC s (.slice ad s.bases.length c)) rfl (.start w) fun b1 W hk hb1 hbb=>?_
 refine box_kn (cs:=bldC b (.slice yad b.ys.length yc)) rfl hk fun b2 W2 hk hb2 hbb=>?_
 refine alloc_mine (n:=2) al_spd rfl hk fun g W2 hk hb2 hg=>?_
 clear hb1 hb2
 refine Xa hk.cells ?_
 refine qUsable_ok s (hs.next hk.below) (hl.next hk.below) (fun w2 h2=>?_)
 have hk:=hk.next h2
 clear h2
 have hno:=useM_no (s:=s) (l:=l) (b:=b) (dare:=dare)
 cases hu:(usableM s l).2 with
 | false=>
  refine Xa (An2 hk.cells @build_spd0) ?_
  exact store_spd ⟨0,[]⟩ none 0 0 hk (fun W3 hk hc _=>⟨_,by simp [go_sem,hc],k2 _ _ _ (hno (.inl hu)) hk.below (Ints.nil _)⟩)
 | true=>
 obtain ⟨hll,hv⟩:=usable_len hu
 have hv7:=validS_len hv
 have hQ:=(validS_Q hv).1
 refine Xa hk.cells ?_
 refine Blinds_ok s b hv (hs.next hk.below) (hb0.next hk.below) (fun w3 h3=>?_)
 have hk:=hk.next h3
 clear h3
 cases hbl:blindsM s b with
 | false=>
  refine Xa (An2 hk.cells @build_spd0) ?_
  exact store_spd ⟨0,[]⟩ none 0 0 hk (fun W3 hk hc _=>⟨_,by simp [go_sem,hc],k2 _ _ _ (hno (.inr (.inl hbl))) hk.below (Ints.nil _)⟩)
 | true=>
 have hyl:=blinds_len hbl
 have hQg:-9223372036854775808 < s.g.Q:=by omega
 have ein:=in_eq hQg 1 dare
 have hqw:IntKind.i64.wrap (s.g.Q - 1) = s.g.Q - 1:=wrapI64 _ (by omega) (by have:=hs.grp.2.1; unfold I64 at this; omega)
 refine Xa (An2 hk.cells @hqw) ?_
 refine in_ok dare 1 _ ?_
 rw [in_eq hQg]
 cases hn:numsM s 1 [dare] with
 | false=>
  refine Xa (An2 hk.cells @build_spd0) ?_
  exact store_spd ⟨0,[]⟩ none 0 0 hk (fun W3 hk hc _=>⟨_,by simp [go_sem,hc],k2 _ _ _ (hno (.inr (.inr hn))) hk.below (Ints.nil _)⟩)
 | true=>
 have ey:=useM_yes hu hbl hn
 have hgW:g < w3.heap.size:=mine_lt hk.mine
 have hoffL:=cells_lt hk.cells
 repeat (any_goals (first
 | ((with_reducible refine local_spd ⟨dare,[]⟩ hk ?_); intro g13 W9 hk hb9 hg13 hh13)
 | (with_reducible first|refine zC ?_|refine yC ?_|refine yM ?_)
 | ((with_reducible refine oM_gen fun Kv hK=>?_); simp [go_sem,hk.cells,build_spd1]; refine hK _ _ ?_; clear hK Kv)))
 have hh13:Holds W9 g13 49 (spdC ⟨dare,[]⟩ (.slice none 0 0)):=hh13
 refine Exps_okF (hl.next hk.below) (by omega) (fun ev w5 h5 he hff=>?_)
 have hlt13:=hh13.lt
 have hh:=hh13.next h5
 have hk:=hk.next h5
 have hel:(expsM l).length = l.length + 1:=rfl
 have hal:(ansL s l b dare).length = l.length + 1:=by simp [ansL,hel]; omega
 have hat:∀ (i:Nat) (h1:i < (expsM l).length) (h2:i < b.ys.length),(ansL s l b dare)[i]? = some (plusQ s b.ys[i] (mulQ s dare [b.s,(expsM l)[i]])):=fun i h1 h2=>by
  simp [ansL,h1,h2,List.getElem?_zip_eq_some]
  exact ⟨_,_,⟨rfl,rfl⟩,rfl⟩
 have hrng:∀ n ∈ ansL s l b dare,I64 n:=by
  intro n hn
  obtain ⟨m,_,rfl⟩:=List.mem_map.1 hn
  exact addM_I64 _ _ _
 generalize ansL s l b dare = al at *
 obtain ⟨ead,ec,rfl⟩:=he.isSlice
 have hs5:=h5.size
 have hs9:=hb9.size
 have hing:∀ i,Value.inBlock (.slice ead (expsM l).length ec) = some i → i ≠ g13:=fun i hi=>by
  have:=hff i hi
  omega
 have hne:g ≠ g13:=by omega
 have hoff:∀ p ∈ cellsOf (cellsOf [] b1 0 (stpC s (.slice ad s.bases.length c))) b2 0 (bldC b (.slice yad b.ys.length yc)),p.1.block ≠ g13:=fun p hp=>by have:=hoffL p hp; omega
 have hbase:w.heap.size ≤ g13:=Nat.le_trans hk.base (by omega)
 refine Xa0 ?_
 refine ⟨RuJ w5 g13 49 (fun ov=>spdC ⟨dare,[]⟩ ov) al,ruMu (expsM l).length,⟨.slice none 0 0,0,rfl,by omega,.start hh.lt hh⟩,?_⟩
 have hk0:=hk
 rintro _ _ w6 ⟨ov,i,rfl,hi,hgr⟩
 have hk:=hk0.fr hgr.fr hoff hne hbase
 by_cases hin:i = (expsM l).length
 ·have hgr':=hgr
  rw [List.take_of_length_le (by omega)] at hgr'
  have ho:=hgr'.own
  have hints:=ho.ints hrng (by omega)
  obtain ⟨g',oc,cur,rfl,hlt,hB,_,_,_,_⟩:=owns_cells ho (by omega)
  refine Xa (An2 hk.cells hgr.holds.are) ?_
  refine store_spd ⟨dare,al⟩ (some ⟨g',0,none⟩) al.length oc hk (fun W3 hk hc hg3=>⟨spdV ⟨dare,al⟩ (.slice (some ⟨g',0,none⟩) al.length oc),by simp [go_sem,hc],k2 W3 (.slice (some ⟨g',0,none⟩) al.length oc) _ ey hk.below ⟨hints.row.keep hg3.size (fun i hi hlt=>hg3.block i hlt ?_),hrng,by show al.length ≤ _; omega⟩⟩)
  cases hi
  intro e
  have e2:g' = g:=Option.some.inj e
  omega
 ·have hev:=Ints.fr he hgr.fr hing
  obtain ⟨b8,o8,rfl,hb8,ca,ra,_⟩:=hev.at (i:=i) (by omega)
  obtain ⟨b9,o9,rfl,hb9,cb,rb,_⟩:=hys.at (i:=i) (by omega)
  have hat:=hat i (by omega) (by omega)
  have htk:=take_snoc' hat
  generalize (expsM l)[i] = e at *
  generalize b.ys[i] = y at *
  refine Xa hk.cells ?_
  have hk:=hk.drew
  have hgr:=hgr.next (.drawn (B:=w6.heap.size))
  have hD:Below w6.heap.size w6 { w6 with drawn:=w6.drawn + 1 }:=.drawn
  refine ⟨Nx { w6 with drawn:=w6.drawn + 1 },Below.refl _ _,rfl,?_⟩
  generalize ({ w6 with drawn:=w6.drawn + 1 }:World) = W6 at hk hgr hD ⊢
  refine Xc (fun W0 hW0=>An4 ((hk.next hW0).cells) ((hgr.next hW0).holds.are) (ca _ (hD.on hW0)) (cb _ (hk.next hW0).below)) ?_
  refine ⟨Nx,?_⟩
  apply monoE
  ·intro w1 h1
   exact qmul_ok s dare b.s (hs.next (hk.next h1).below) (fun w2 h2=>⟨h1.on h2,h2,rfl⟩)
  apply monoE
  ·rintro w1 h1 _ rfl
   exact qmul_ok s _ e (hs.next (hk.next h1).below) (fun w2 h2=>⟨h1.on h2,h2,rfl⟩)
  apply monoE
  ·rintro w1 h1 _ rfl
   exact rAdd_ok _ _ _ ⟨h1,Below.refl _ _,rfl⟩
  refine monoR (fun v w'=>Ints w' v [plusQ s y (mulQ s dare [b.s,e])]) (fun v w w1 hS h=>h.next hS) ?_ ?_
  ·rintro w1 h1 _ rfl
   exact mk1 _ (addM_I64 _ _ _) (fun v w2 h2 hi=>⟨h1.on h2,h2,hi⟩)
  rintro w9 h9 _ rfl _ rfl _ rfl v9 hi9
  refine gr_append (hgr.next h9) hi9 (by rw [List.length_take]; omega) (fun ad n c w11 hgr=>?_)
  refine Xa0 ?_
  refine gr_store (i:=1) hgr (show 1 < 2 by decide) (fun w12 hgr=>?_)
  refine Xa0 ?_
  rw [htk] at hgr
  refine ⟨⟨_,i + 1,rfl,by omega,hgr⟩,?_⟩
  rw [ruMu_eq,ruMu_eq]
  omega
end
end Go.Proofs
namespace FdPoly
def ev:List Int → Int → Int
 | [],_=>0
 | c :: p,x=>c + x * ev p x
def U (q a:Int):Prop:=∃ u,q ∣ u * a - 1
theorem U.cancel {q a b:Int} (h:U q a) (hd:q ∣ a * b):q ∣ b:=by
 obtain ⟨u,k,hk⟩:=h
 obtain ⟨m,hm⟩:=hd
 exact ⟨u * m - k * b,by grind⟩
def Z (q:Int) (p:List Int):Prop:=∀ c ∈ p,q ∣ c
theorem Z.ev {q:Int}:∀ {p:List Int},Z q p → ∀ x,q ∣ FdPoly.ev p x
 | [],_,_=>Int.dvd_zero q
 | c :: p,h,x=>by
  have h1:=h c (by simp)
  have h2:=Z.ev (p:=p) (fun d hd=>h d (by simp [hd])) x
  exact Int.dvd_add h1 (Int.dvd_mul_of_dvd_right h2)
def Apart (q:Int):List Int → Prop
 | []=>True
 | a :: xs=>(∀ x ∈ xs,U q (x - a)) ∧ Apart q xs
def addL:List Int → List Int → List Int
 | [],p=>p
 | p,[]=>p
 | c :: p,d :: r=>(c + d) :: addL p r
def scl (k:Int) (p:List Int):List Int:=p.map (fun c=>k * c)
theorem addL_ev (x:Int):∀ p r:List Int,ev (addL p r) x = ev p x + ev r x
 | [],r=>by simp [addL,ev]
 | c :: p,[]=>by simp [addL,ev]
 | c :: p,d :: r=>by
  simp only [addL,ev,addL_ev x p r]
  grind
theorem addL_len:∀ p r:List Int,(addL p r).length = max p.length r.length
 | [],r=>by simp [addL]
 | c :: p,[]=>by simp [addL]
 | c :: p,d :: r=>by simp only [addL,List.length_cons,addL_len p r]; omega
theorem addL_get:∀ (p r:List Int) (i:Nat),(addL p r).getD i 0 = p.getD i 0 + r.getD i 0
 | [],r,i=>by simp [addL]
 | c :: p,[],i=>by simp [addL]
 | c :: p,d :: r,0=>by simp [addL]
 | c :: p,d :: r,i + 1=>by
  have:=addL_get p r i
  simpa [addL] using this
theorem scl_ev (k x:Int) (p:List Int):ev (scl k p) x = k * ev p x:=by
 induction p with
 | nil=>simp [scl,ev]
 | cons c p ih=>
  have e:scl k (c :: p) = (k * c) :: scl k p:=rfl
  rw [e]
  simp only [ev,ih]
  grind
theorem scl_len (k:Int) (p:List Int):(scl k p).length = p.length:=by simp [scl]
theorem scl_get (k:Int) (p:List Int) (i:Nat):(scl k p).getD i 0 = k * p.getD i 0:=by
 induction p generalizing i with
 | nil=>simp [scl]
 | cons c p ih=>
  cases i with
  | zero=>simp [scl]
  | succ i=>simpa [scl] using ih i
def lin (a:Int) (p:List Int):List Int:=addL (0 :: p) (scl (-a) p)
theorem lin_ev (a x:Int) (p:List Int):ev (lin a p) x = (x - a) * ev p x:=by
 unfold lin
 rw [addL_ev,scl_ev]
 simp only [ev]
 grind
theorem lin_len (a:Int) (p:List Int):(lin a p).length = p.length + 1:=by
 unfold lin
 rw [addL_len,scl_len,List.length_cons]; omega
theorem lin_top (a:Int) (p:List Int):(lin a p).getD p.length 0 = p.getD (p.length - 1) 0:=by
 unfold lin
 rw [addL_get,scl_get]
 have h1:p.getD p.length 0 = 0:=by simp [List.getD]
 rw [h1]
 cases p with
 | nil=>simp
 | cons c p=>simp
structure Ip (q:Int) (X Y:Nat → Int) (i n:Nat) (p:List Int) (t:Int):Prop where
 len:p.length = n + 1
 val:∀ j,i ≤ j → j ≤ i + n → q ∣ ev p (X j) - Y j
 top:q ∣ p.getD n 0 - t
theorem Ip.step {q:Int} {X Y:Nat → Int} {i n:Nat} {p r:List Int} {t s u:Int} (h:Ip q X Y i n p t) (h':Ip q X Y (i + 1) n r s) (hu:q ∣ u * (X (i + n + 1) - X i) - 1) :
  Ip q X Y i (n + 1) (scl u (addL (lin (X i) r) (scl (-1) (lin (X (i + n + 1)) p)))) ((s - t) * u):=by
 refine ⟨?_,fun j h1 h2=>?_,?_⟩
 ·rw [scl_len,addL_len,scl_len,lin_len,lin_len,h.len,h'.len]; omega
 ·rw [scl_ev,addL_ev,scl_ev,lin_ev,lin_ev]
  obtain ⟨k,hk⟩:=hu
  by_cases hj:j = i
  ·subst hj
   obtain ⟨a,ha⟩:=h.val j (Nat.le_refl _) (by omega)
   generalize ev p (X j) = P at *
   generalize ev r (X j) = R at *
   generalize X (j + n + 1) = xn at *
   generalize X j = xj at *
   generalize Y j = y at *
   exact ⟨u * (xn - xj) * a + k * y,by grind⟩
  ·by_cases hj2:j = i + n + 1
   ·subst hj2
    obtain ⟨a,ha⟩:=h'.val (i + n + 1) (by omega) (by omega)
    generalize ev p (X (i + n + 1)) = P at *
    generalize ev r (X (i + n + 1)) = R at *
    generalize X (i + n + 1) = xn at *
    generalize X i = xj at *
    generalize Y (i + n + 1) = y at *
    exact ⟨u * (xn - xj) * a + k * y,by grind⟩
   ·obtain ⟨a,ha⟩:=h.val j (by omega) (by omega)
    obtain ⟨b,hb⟩:=h'.val j (by omega) (by omega)
    generalize ev p (X j) = P at *
    generalize ev r (X j) = R at *
    generalize X (i + n + 1) = xn at *
    generalize X i = xi at *
    generalize X j = xj at *
    generalize Y j = y at *
    exact ⟨u * (xj - xi) * b - u * (xj - xn) * a + k * y,by grind⟩
 ·rw [scl_get,addL_get,scl_get]
  have e1:(lin (X i) r).getD (n + 1) 0 = r.getD n 0:=by have:=lin_top (X i) r; rw [h'.len] at this; exact this
  have e2:(lin (X (i + n + 1)) p).getD (n + 1) 0 = p.getD n 0:=by have:=lin_top (X (i + n + 1)) p; rw [h.len] at this; exact this
  rw [e1,e2]
  obtain ⟨a,ha⟩:=h.top
  obtain ⟨b,hb⟩:=h'.top
  exact ⟨u * b - u * a,by grind⟩
theorem Ip.one (q:Int) (X Y:Nat → Int) (i:Nat):Ip q X Y i 0 [Y i] (Y i):=
 ⟨rfl,fun j h1 h2=>by
  have:j = i:=by omega
  subst this
  simp [ev],by simp⟩
def pr (X:Nat → Int):Nat → List Int
 | 0=>[1]
 | n + 1=>lin (X n) (pr X n)
end FdPoly
namespace FdPoly
open FdSpec
theorem addM_dvd {n a b:Int} (hn:okN n):n ∣ addM n a b - (a + b):=by
 unfold addM; rw [if_pos hn]
 have:=Int.emod_add_mul_ediv (a + b) n
 exact ⟨-((a + b) / n),by grind⟩
theorem subM_dvd {n a b:Int} (hn:okN n):n ∣ subM n a b - (a - b):=by
 unfold subM; rw [if_pos hn]
 have:=Int.emod_add_mul_ediv (a - b) n
 exact ⟨-((a - b) / n),by grind⟩
theorem mulM_dvd {n a b:Int} (hn:okN n):n ∣ mulM n a b - a * b:=by
 unfold mulM; rw [if_pos hn]
 have:=Int.emod_add_mul_ediv (a * b) n
 exact ⟨-(a * b / n),by grind⟩
theorem mod_dvd (n a:Int):n ∣ a % n - a:=by
 have:=Int.emod_add_mul_ediv a n
 exact ⟨-(a / n),by grind⟩
theorem euc_inv {n a:Int} (hn:okN n):∀ (m:Nat) (r s x y α β:Int),s.toNat ≤ m → 0 ≤ r → 0 ≤ s → α * r + β * s = 1 → n ∣ x * a - r → n ∣ y * a - s → (eucAll n r s x y).1 = 1 ∧ n ∣ (eucAll n r s x y).2 * a - 1
 | m,r,s,x,y,α,β,hm,hr,hs,hb,hx,hy=>by
  by_cases h0:s = 0
  ·subst h0
   have e:eucAll n r 0 x y = (r,x):=euc_zero n _ r x y
   rw [e]
   have h1:α * r = 1:=by omega
   have h2:r = 1:=by
    have:r ∣ 1:=⟨α,by rw [Int.mul_comm]; exact h1.symm⟩
    have:=Int.le_of_dvd (by omega) this
    by_cases h3:r = 0
    ·rw [h3] at h1; omega
    ·omega
   subst h2
   exact ⟨rfl,hx⟩
  ·have hs':0 < s:=by omega
   rw [euc_step n r s x y hs']
   have h1:=Int.emod_nonneg r h0
   have h2:=Int.emod_lt_of_pos r hs'
   have h3:=Int.emod_add_mul_ediv r s
   have h4:n ∣ subM n x (mulM n (r / s) y) * a - r % s:=by
    obtain ⟨k1,e1⟩:=subM_dvd (a:=x) (b:=mulM n (r / s) y) hn
    obtain ⟨k2,e2⟩:=mulM_dvd (a:=r / s) (b:=y) hn
    obtain ⟨k3,e3⟩:=hx
    obtain ⟨k4,e4⟩:=hy
    generalize subM n x (mulM n (r / s) y) = A at *
    generalize mulM n (r / s) y = B at *
    generalize r / s = d at *
    generalize r % s = e at *
    exact ⟨k1 * a - k2 * a + k3 - d * k4,by grind⟩
   cases m with
   | zero=>omega
   | succ m=>exact euc_inv hn m s (r % s) y _ (β + α * (r / s)) α (by omega) hs h1 (by generalize r / s = d at *; generalize r % s = e at *; grind) hy h4
theorem invM_some {n a:Int} (hn:okN n) (h:U n a):∃ x,invM n a = some x ∧ n ∣ x * a - 1 ∧ 0 ≤ x ∧ x < n:=by
 obtain ⟨u,k,hk⟩:=h
 have hp:0 < n:=by have:=hn.1; omega
 have h1:=Int.emod_nonneg a (b:=n) (by omega)
 have h3:=Int.emod_add_mul_ediv a n
 obtain ⟨e1,e2⟩:=euc_inv (a:=a) hn _ n (a % n) 0 1 (u * (a / n) - k) u (Nat.le_refl _) (by omega) h1 (by generalize a / n = d at *; generalize a % n = e at *; grind) ⟨-1,by omega⟩ (by
  obtain ⟨m,hm⟩:=mod_dvd n a
  exact ⟨-m,by grind⟩)
 refine ⟨(eucAll n n (a % n) 0 1).2 % n,?_,?_,Int.emod_nonneg _ (by omega),Int.emod_lt_of_pos _ hp⟩
 ·unfold invM
  rw [if_pos hn,if_pos e1]
 ·obtain ⟨m,hm⟩:=mod_dvd n (eucAll n n (a % n) 0 1).2
  obtain ⟨l,hl⟩:=e2
  generalize (eucAll n n (a % n) 0 1).2 = z at *
  generalize z % n = zz at *
  exact ⟨m * a + l,by grind⟩
end FdPoly
namespace FdPoly
open FdSpec
theorem res_eq {q a b:Int} (h:q ∣ a - b) (ha:0 ≤ a ∧ a < q) (hb:0 ≤ b ∧ b < q):a = b:=by
 obtain ⟨k,hk⟩:=h
 have h1:k < 1:=by
  refine Classical.byContradiction fun hn=>?_
  have:q * 1 ≤ q * k:=Int.mul_le_mul_of_nonneg_left (by omega) (by omega)
  omega
 have h2:-1 < k:=by
  refine Classical.byContradiction fun hn=>?_
  have:q * k ≤ q * (-1):=Int.mul_le_mul_of_nonneg_left (by omega) (by omega)
  omega
 have:k = 0:=by omega
 subst this
 omega
theorem Ip.cong {q:Int} {X Y:Nat → Int} {i n:Nat} {p:List Int} {t s:Int} (h:Ip q X Y i n p t) (e:q ∣ t - s):Ip q X Y i n p s:=by
 refine ⟨h.len,h.val,?_⟩
 have:=Int.dvd_add h.top e
 have e2:p.getD n 0 - t + (t - s) = p.getD n 0 - s:=by omega
 rwa [e2] at this
theorem U.cong {q a b:Int} (h:U q a) (e:q ∣ b - a):U q b:=by
 obtain ⟨u,k,hk⟩:=h
 obtain ⟨m,hm⟩:=e
 exact ⟨u,k + u * m,by grind⟩
section
variable {q:Int} {xs ys:List Int}
def d0 (q:Int) (ys:List Int):List Int:=ys.map (fun y=>y % q)
end
def hNew (q x d:Int) (o:List Int) (n:Nat):Int:=if n = 0 then addM q (subM q 0 (mulM q (o.getD 0 0) x)) d else addM q (subM q 0 (mulM q (o.getD n 0) x)) (o.getD (n - 1) 0)
def hStep (q x d:Int) (o:List Int):List Int:=(List.range o.length).map (hNew q x d o)
theorem hStep_get (q x d:Int) (o:List Int) (n:Nat):(hStep q x d o).getD n 0 = if n < o.length then hNew q x d o n else 0:=by
 unfold hStep
 rw [List.getD_eq_getElem?_getD,List.getElem?_map]
 by_cases h:n < o.length
 ·rw [List.getElem?_range h,if_pos h]; rfl
 ·rw [if_neg h,List.getElem?_eq_none (by simp; omega)]; rfl
def Zr (c:Nat) (o:List Int):Prop:=∀ n,c ≤ n → o.getD n 0 = 0
theorem mul0 {q x:Int} (hq:okN q):mulM q 0 x = 0:=by unfold mulM; rw [if_pos hq]; simp
theorem sub0 {q:Int} (hq:okN q):subM q 0 0 = 0:=by unfold subM; rw [if_pos hq]; simp
theorem add0 {q:Int} (hq:okN q):addM q 0 0 = 0:=by unfold addM; rw [if_pos hq]; simp
theorem Zr.step {q x d:Int} (hq:okN q) {c:Nat} {o:List Int} (h:Zr c o):Zr (c + 1) (hStep q x d o):=by
 intro n hn
 rw [hStep_get]
 split
 ·unfold hNew
  rw [if_neg (by omega),h n (by omega),h (n - 1) (by omega),mul0 hq,sub0 hq,add0 hq]
 ·rfl
end FdPoly
namespace FdPoly
open FdSpec
theorem U.mul {q a b:Int} (ha:U q a) (hb:U q b):U q (a * b):=by
 obtain ⟨u,k,hk⟩:=ha
 obtain ⟨v,m,hm⟩:=hb
 exact ⟨u * v,v * b * k + m,by grind⟩
theorem U.neg {q a:Int} (ha:U q a):U q (-a):=by
 obtain ⟨u,k,hk⟩:=ha
 exact ⟨-u,k,by grind⟩
theorem U.one (q:Int):U q 1:=⟨1,0,by omega⟩
theorem prime_small {q:Int} (h:primeM q = true):q ∈ smallP ∨ ∀ p ∈ smallP,q % p ≠ 0:=by
 unfold primeM at h
 split at h
 ·cases h
 ·cases hf:smallP.find? (fun p=>decide (q % p = 0)) with
  | some p=>
   rw [hf] at h
   have hm:=List.mem_of_find?_eq_some hf
   have:q = p:=by simpa using h
   rw [this]; exact .inl hm
  | none=>
   rw [List.find?_eq_none] at hf
   exact .inr (fun p hp=>by simpa using hf p hp)
theorem U.list {q:Int} (l:List Int) (h:∀ x ∈ l,U q x) {d:Int} (hd:d = l.foldr (· * ·) 1):U q d:=by
 subst hd
 induction l with
 | nil=>exact U.one q
 | cons x l ih=>exact (h x (by simp)).mul (ih (fun y hy=>h y (by simp [hy])))
end FdPoly
namespace GrLaw
open FdSpec FdPoly TkSpec
def Cg (P a b:Int):Prop:=P ∣ a - b
section
variable {P a b c d x y:Int}
theorem Cg.refl (P a:Int):Cg P a a:=⟨0,by omega⟩
theorem Cg.symm (h:Cg P a b):Cg P b a:=by obtain ⟨k,hk⟩:=h; exact ⟨-k,by grind⟩
theorem Cg.trans (h:Cg P a b) (h2:Cg P b c):Cg P a c:=by obtain ⟨k,hk⟩:=h; obtain ⟨m,hm⟩:=h2; exact ⟨k + m,by grind⟩
theorem Cg.mul (h:Cg P a b) (h2:Cg P c d):Cg P (a * c) (b * d):=by obtain ⟨k,hk⟩:=h; obtain ⟨m,hm⟩:=h2; exact ⟨k * c + b * m,by grind⟩
theorem Cg.pow (h:Cg P a b):∀ n:Nat,Cg P (a ^ n) (b ^ n)
 | 0=>by rw [Int.pow_zero,Int.pow_zero]; exact Cg.refl _ _
 | n + 1=>by rw [Int.pow_succ,Int.pow_succ]; exact (Cg.pow h n).mul h
theorem Cg.mod (P a:Int):Cg P (a % P) a:=mod_dvd P a
theorem Cg.emod (h:Cg P a b):a % P = b % P:=by
 obtain ⟨k,hk⟩:=h
 have:a = b + P * k:=by omega
 rw [this,Int.add_mul_emod_self_left]
theorem Cg.of_emod (h:a % P = b % P):Cg P a b:=(Cg.mod P a).symm.trans (by rw [h]; exact Cg.mod P b)
theorem Cg.eq (h:Cg P a b) (ha:0 ≤ a ∧ a < P) (hb:0 ≤ b ∧ b < P):a = b:=res_eq h ha hb
theorem U.of_cg (h:Cg P (b * a) 1):U P a:=⟨b,h⟩
theorem U.cg (h:U P a) (e:Cg P b a):U P b:=h.cong e
theorem Cg.cancel (hu:U P c) (h:Cg P (a * c) (b * c)):Cg P a b:=by
 refine hu.cancel ?_
 obtain ⟨k,hk⟩:=h
 exact ⟨k,by grind⟩
theorem pow_mod {n:Nat} (h:Cg P (x ^ n) 1) (k:Nat):Cg P (x ^ k) (x ^ (k % n)):=by
 have e:x ^ k = (x ^ n) ^ (k / n) * x ^ (k % n):=by
  rw [← Int.pow_mul,← Int.pow_add,Nat.div_add_mod]
 rw [e]
 have h1:=h.pow (k / n)
 rw [Int.one_pow] at h1
 have:=h1.mul (Cg.refl P (x ^ (k % n)))
 rwa [Int.one_mul] at this
theorem pow_same {n:Nat} (h:Cg P (x ^ n) 1) {j k:Nat} (e:j % n = k % n):Cg P (x ^ j) (x ^ k):=by
 have h1:=pow_mod h j
 rw [e] at h1
 exact h1.trans (pow_mod h k).symm
end
structure Gv (g:Grp):Prop where
 q0:5 ≤ g.Q
 q1:g.Q < 1152921504606846976
 p:g.P = 2 * g.Q + 1
 g0:2 ≤ g.G
 g1:g.G < g.P
 pq:primeM g.Q = true
 gq:pw g.P g.G g.Q.toNat = 1
theorem gv_of {g:Grp} (h:validG g = true):Gv g:=by
 unfold validG at h
 split at h
 ·cases h
 ·simp only [Bool.and_eq_true,decide_eq_true_eq] at h
  exact ⟨by omega,by omega,by omega,by omega,by omega,h.1.1,h.2⟩
def Ex (g:Grp) (x k:Int):Int:=x ^ (k % g.Q).toNat
def El (g:Grp) (x:Int):Prop:=Cg g.P (x ^ g.Q.toNat) 1
section
variable {g:Grp} {x y a b:Int}
theorem Gv.okP (h:Gv g):okN g.P:=by have:=h.q0; have:=h.q1; have:=h.p; exact ⟨by omega,by omega⟩
theorem Gv.okQ (h:Gv g):okN g.Q:=by have:=h.q0; have:=h.q1; exact ⟨by omega,by omega⟩
theorem El.of_pw (h:Gv g) (hx:pw g.P x g.Q.toNat = 1):El g x:=by
 refine Cg.of_emod ?_
 have e:x ^ g.Q.toNat % g.P = 1:=hx
 rw [e,Int.emod_eq_of_lt (by omega) (by have:=h.q0; have:=h.p; omega)]
theorem El.of_elem (h:Gv g) (hx:elemG g x = true):El g x ∧ 1 ≤ x ∧ x < g.P:=by
 unfold elemG at hx
 simp only [Bool.and_eq_true,decide_eq_true_eq] at hx
 exact ⟨El.of_pw h hx.2,hx.1.1.1,hx.1.1.2⟩
theorem El.gen (h:Gv g):El g g.G:=El.of_pw h h.gq
theorem El.mul (hx:El g x) (hy:El g y):El g (x * y):=by
 unfold El
 rw [Int.mul_pow]
 have:=Cg.mul hx hy
 rwa [Int.one_mul] at this
theorem El.cg (hx:El g x) (h:Cg g.P y x):El g y:=(h.pow _).trans hx
theorem El.pow (hx:El g x) (n:Nat):El g (x ^ n):=by
 unfold El
 rw [← Int.pow_mul,Nat.mul_comm,Int.pow_mul]
 have:=Cg.pow hx n
 rwa [Int.one_pow] at this
theorem El.unit (h:Gv g) (hx:El g x):U g.P x:=by
 refine U.of_cg (b:=x ^ (g.Q.toNat - 1)) ?_
 have e:x ^ (g.Q.toNat - 1) * x = x ^ g.Q.toNat:=by
  rw [← Int.pow_succ]; congr 1; have:=h.q0; omega
 rw [e]; exact hx
theorem toNat_mod {Q k:Int} (hQ:0 < Q):(((k % Q).toNat:Nat):Int) = k % Q:=Int.toNat_of_nonneg (Int.emod_nonneg _ (by omega))
theorem nat_mod {Q:Int} (hQ:0 < Q) {m n:Nat} (h:(m:Int) % Q = (n:Int) % Q):m % Q.toNat = n % Q.toNat:=by
 have hq:((Q.toNat:Nat):Int) = Q:=Int.toNat_of_nonneg (by omega)
 have:((m % Q.toNat:Nat):Int) = ((n % Q.toNat:Nat):Int):=by
  rw [Int.natCast_emod,Int.natCast_emod,hq]; exact h
 omega
theorem Ex_add (h:Gv g) (hx:El g x) (a b:Int):Cg g.P (Ex g x (a + b)) (Ex g x a * Ex g x b):=by
 unfold Ex
 rw [← Int.pow_add]
 have hQ:0 < g.Q:=by have:=h.q0; omega
 refine pow_same hx (nat_mod hQ ?_)
 push_cast
 rw [toNat_mod hQ,toNat_mod hQ,toNat_mod hQ]
 rw [Int.emod_emod_of_dvd _ (Int.dvd_refl _),← Int.add_emod]
theorem Ex_mul (h:Gv g) (hx:El g x) (a b:Int):Cg g.P (Ex g x (a * b)) (Ex g x a ^ (b % g.Q).toNat):=by
 unfold Ex
 rw [← Int.pow_mul]
 have hQ:0 < g.Q:=by have:=h.q0; omega
 refine pow_same hx (nat_mod hQ ?_)
 push_cast
 rw [toNat_mod hQ,toNat_mod hQ,toNat_mod hQ]
 rw [Int.emod_emod_of_dvd _ (Int.dvd_refl _),← Int.mul_emod]
theorem Ex_cong (e:a % g.Q = b % g.Q):Ex g x a = Ex g x b:=by unfold Ex; rw [e]
theorem Ex_zero (x:Int):Ex g x 0 = 1:=by simp [Ex]
theorem Ex_cg (h:Cg g.P x y) (a:Int):Cg g.P (Ex g x a) (Ex g y a):=h.pow _
theorem El.ex (hx:El g x) (a:Int):El g (Ex g x a):=hx.pow _
theorem powerG_eq (h:Gv g) (x k:Int):powerG g x k = Ex g x k % g.P:=by
 unfold powerG
 rw [if_pos ⟨h.okP,h.okQ⟩]; rfl
theorem powerG_cg (h:Gv g) (x k:Int):Cg g.P (powerG g x k) (Ex g x k):=by rw [powerG_eq h]; exact Cg.mod _ _
theorem powerG_range (h:Gv g) (x k:Int):0 ≤ powerG g x k ∧ powerG g x k < g.P:=by
 rw [powerG_eq h]
 have:=h.okP.1
 exact ⟨Int.emod_nonneg _ (by omega),Int.emod_lt_of_pos _ (by omega)⟩
theorem timesG_cg (h:Gv g) (a b:Int):Cg g.P (timesG g a b) (a * b):=by
 unfold timesG
 rw [if_pos h.okQ]
 exact mulM_dvd h.okP
theorem timesG_range (h:Gv g) (a b:Int):0 ≤ timesG g a b ∧ timesG g a b < g.P:=by
 unfold timesG
 rw [if_pos h.okQ]
 exact mulM_range _ _ _ h.okP
def PX (g:Grp):List (Int × Int) → Int
 | []=>1
 | (b,e) :: l=>Ex g b e * PX g l
theorem prodL_cg (h:Gv g):∀ (l:List (Int × Int)) (out:Int),Cg g.P (prodL g out l) (out * PX g l)
 | [],out=>by simp [prodL,PX]; exact Cg.refl _ _
 | (b,e) :: l,out=>by
  rw [prodL,PX]
  refine (prodL_cg h l _).trans ?_
  have h1:Cg g.P (mulM g.P out (powerG g b e)) (out * Ex g b e):=(show Cg g.P _ _ from mulM_dvd h.okP).trans ((Cg.refl _ out).mul (powerG_cg h b e))
  have:=h1.mul (Cg.refl g.P (PX g l))
  have e2:out * Ex g b e * PX g l = out * (Ex g b e * PX g l):=Int.mul_assoc _ _ _
  rwa [e2] at this
theorem prodL_range (h:Gv g):∀ (l:List (Int × Int)) (out:Int),0 ≤ out ∧ out < g.P → 0 ≤ prodL g out l ∧ prodL g out l < g.P
 | [],out,ho=>ho
 | (b,e) :: l,out,_=>by rw [prodL]; exact prodL_range h l _ (mulM_range _ _ _ h.okP)
end
end GrLaw
namespace FdPr
open FdSpec FdPoly GrLaw Mr
theorem mrUp_ex {n:Nat} (hn:2 ≤ n):∀ (k:Nat) (x:Int),mrUp n k x = true → ∃ i,i < k ∧ E n (x ^ (2 ^ i)) (-1)
 | 0,x,h=>by simp [mrUp] at h
 | k + 1,x,h=>by
  rw [mrUp] at h
  split at h
  ·rename_i hx
   refine ⟨0,by omega,?_⟩
   rw [hx,Nat.pow_zero,Int.pow_succ,Int.pow_zero]
   exact ⟨1,by omega⟩
  ·obtain ⟨i,hi,h1⟩:=mrUp_ex hn k _ h
   refine ⟨i + 1,by omega,?_⟩
   have h2:E n ((x * x) ^ 2 ^ i) ((x * x % n) ^ 2 ^ i):=(E.emod n (x * x)).symm.pow _
   have e:x ^ 2 ^ (i + 1) = (x * x) ^ 2 ^ i:=by
    rw [Nat.pow_succ,Nat.mul_comm,Int.pow_mul]
    congr 1
    rw [Int.pow_succ,Int.pow_succ,Int.pow_zero,Int.one_mul]
   rw [e]
   exact h2.trans h1
theorem passes_sp {n:Nat} {b:Nat} (hn:2 ≤ n) (h:passes n b = true) {k d:Nat} (hk:k = FdSpec.tz 64 (n - 1)) (hd:d = (n - 1) / 2 ^ k) (e:n - 1 = 2 ^ k * d):Sp n d b ∧ E n ((b:Int) ^ (n - 1)) 1:=by
 have e1:((n:Int) - 1).toNat = n - 1:=by omega
 unfold passes at h
 simp only [e1] at h
 rw [← hk,← hd] at h
 have hx:E n (pw n b d) ((b:Int) ^ d):=E.emod n _
 split at h
 ·rename_i h1
  rw [h1] at hx
  have h2:E n ((b:Int) ^ d) 1:=hx.symm
  refine ⟨Or.inl h2,?_⟩
  rw [e,Nat.mul_comm,Int.pow_mul]
  exact h2.one_pow _
 ·obtain ⟨i,hi,h1⟩:=mrUp_ex hn k _ h
  have h2:E n ((b:Int) ^ (2 ^ i * d)) (-1):=by
   rw [Nat.mul_comm,Int.pow_mul]
   exact (hx.pow _).symm.trans h1
  refine ⟨Or.inr ⟨i,h2⟩,?_⟩
  have h3:=h2.pow (2 ^ (k - i))
  rw [← Int.pow_mul,neg_one_pow,if_pos] at h3
  ·have e2:2 ^ i * d * 2 ^ (k - i) = n - 1:=by
    have:2 ^ k = 2 ^ i * 2 ^ (k - i):=by rw [← Nat.pow_add]; congr 1; omega
    rw [e,this]; grind
   rwa [e2] at h3
  ·have:2 ^ (k - i) = 2 * 2 ^ (k - i - 1):=by rw [← Nat.pow_succ']; congr 1; omega
   omega
theorem small_pr:∀ p < 38,2 ≤ p → (∀ d,d < p → 2 ≤ d → ¬ d ∣ p) → p ∈ Bs:=by decide +kernel
theorem pr_mem {p:Nat} (hp:Pr p) (h:p ≤ 37):p ∈ Bs:=small_pr p (by omega) hp.1 fun d h1 h2 hd=>by
 rcases hp.2 d hd with h3 | h3 <;> omega
theorem smallP_eq:smallP = Bs.map Int.ofNat:=rfl
theorem test_facts {n:Int} (h:primeM n = true) (hs:n ∉ smallP):2 ≤ n ∧ (∀ a ∈ Bs,n.toNat % a ≠ 0) ∧ ∃ d,d % 2 = 1 ∧ ∀ a ∈ Bs,Sp n.toNat d a ∧ E n.toNat ((a:Int) ^ (n.toNat - 1)) 1:=by
 have h1:=(prime_small h).resolve_left hs
 unfold primeM at h
 split at h
 ·cases h
 ·rename_i h0
  have hn:2 ≤ n:=by omega
  have hb:n < 2305843009213693952:=by omega
  have hN:((n.toNat:Nat):Int) = n:=Int.toNat_of_nonneg (by omega)
  have hz:∀ a ∈ Bs,n.toNat % a ≠ 0:=by
   intro a ha h2
   have h3:=h1 (a:Int) (by rw [smallP_eq]; exact List.mem_map.mpr ⟨a,ha,rfl⟩)
   apply h3
   rw [← hN,← Int.natCast_emod,h2]; rfl
  cases hf:smallP.find? (fun p=>decide (n % p = 0)) with
  | some p=>
   have hm:=List.mem_of_find?_eq_some hf
   have h2:=List.find?_some hf
   exact absurd (by simpa using h2) (h1 p hm)
  | none=>
   rw [hf] at h
   have hall:=List.all_eq_true.mp h
   obtain ⟨hk,j,e⟩:=tz_lt 64 (n.toNat - 1) (by omega) (by
    have:(2:Nat) ^ 64 = 18446744073709551616:=by decide
    omega)
   refine ⟨hn,hz,2 * j + 1,by omega,fun a ha=>?_⟩
   have hp:=hall (a:Int) (by rw [smallP_eq]; exact List.mem_map.mpr ⟨a,ha,rfl⟩)
   refine passes_sp (by omega) (by rw [hN]; exact hp) rfl ?_ e
   rw [e]
   conv=>rhs; rw [← e]
   have h4:0 < 2 ^ FdSpec.tz 64 (n.toNat - 1):=Nat.two_pow_pos _
   conv=>rhs; lhs; rw [e]
   rw [Nat.mul_div_cancel_left _ h4]
theorem mem_pr {n:Int} (h:n ∈ smallP):Pr n.toNat:=by
 rw [smallP_eq] at h
 obtain ⟨a,ha,rfl⟩:=List.mem_map.mp h
 exact pr_small a ha
theorem prime_Q {g:Grp} (h:validG g = true):Pr g.Q.toNat:=by
 have hv:=gv_of h
 by_cases hs:g.Q ∈ smallP
 ·exact mem_pr hs
 ·obtain ⟨hn,hz,d,hd,hall⟩:=test_facts hv.pq hs
  have hP:primeM g.P = true:=by
   unfold validG at h
   split at h
   ·cases h
   ·simp only [Bool.and_eq_true,decide_eq_true_eq] at h
    exact h.1.2
  have q0:=hv.q0
  have q1:=hv.q1
  have hp:=hv.p
  have h3:g.P % 3 ≠ 0:=by
   intro h3
   rcases prime_small hP with h4 | h4
   ·have:∀ p ∈ smallP,p % 3 = 0 → p = 3:=by decide
    have:=this g.P h4 h3
    omega
   ·exact h4 3 (by decide) h3
  have z3:=hz 3 (by decide)
  have z2:=hz 2 (by decide)
  refine Ps.prime (d:=d) ⟨by omega,by omega,by omega,fun p hpr hdv=>?_,hd,fun a ha=>(hall a ha).1,fun a ha=>(hall a ha).2⟩ (by omega)
  apply Classical.byContradiction
  intro hc
  exact hz p (pr_mem hpr (by omega)) (Nat.mod_eq_zero_of_dvd hdv)
theorem prime_P {g:Grp} (h:validG g = true):Pr g.P.toNat:=by
 have hv:=gv_of h
 have hQ:=prime_Q h
 have hP:primeM g.P = true:=by
  unfold validG at h
  split at h
  ·cases h
  ·simp only [Bool.and_eq_true,decide_eq_true_eq] at h
   exact h.1.2
 by_cases hs:g.P ∈ smallP
 ·exact mem_pr hs
 ·obtain ⟨hn,hz,d,hd,hall⟩:=test_facts hP hs
  have q0:=hv.q0
  have hp:=hv.p
  have eP:g.P.toNat = 2 * g.Q.toNat + 1:=by omega
  have h2:=(hall 2 (by decide)).2
  obtain ⟨r,hr,hrd⟩:=exists_pr g.P.toNat (by omega)
  have hr37:37 < r:=by
   apply Classical.byContradiction
   intro hc
   exact hz r (pr_mem hr (by omega)) (Nat.mod_eq_zero_of_dvd hrd)
  have r2:=odd_of hr hr37
  have h3:E r ((2:Int) ^ Nat.gcd (2 * g.Q.toNat) (r - 1)) 1:=by
   refine gcd_pow _ _ ?_ (fermat hr r2 (show 2 ∈ Bs by decide) hr37)
   have:=h2.dvd hrd
   rwa [eP,Nat.add_sub_cancel] at this
  have hrP:r = g.P.toNat:=by
   by_cases hq:g.Q.toNat ∣ r - 1
   ·obtain ⟨t,ht⟩:=hq
    have hle:=Nat.le_of_dvd (by omega) hrd
    have t0:t ≠ 0:=by rintro rfl; omega
    have t1:t ≠ 1:=by
     rintro rfl
     rw [Nat.mul_one] at ht
     have q37:37 ≤ g.Q.toNat:=by omega
     rcases hQ.2 2 (Nat.dvd_of_mod_eq_zero (by omega)) with h5 | h5 <;> omega
    have h5:g.Q.toNat * 2 ≤ g.Q.toNat * t:=Nat.mul_le_mul_left _ (by omega)
    omega
   ·exfalso
    have h5:Nat.gcd g.Q.toNat (r - 1) = 1:=by
     rcases hQ.2 (Nat.gcd g.Q.toNat (r - 1)) (Nat.gcd_dvd_left _ _) with h6 | h6
     ·exact h6
     ·exact absurd (h6 ▸ Nat.gcd_dvd_right g.Q.toNat (r - 1)) hq
    have h6:Nat.gcd (2 * g.Q.toNat) (r - 1) ∣ 2:=by
     have h7:Nat.Coprime (Nat.gcd (2 * g.Q.toNat) (r - 1)) g.Q.toNat:=by
      refine Nat.Coprime.coprime_dvd_left (Nat.gcd_dvd_right _ _) ?_
      show Nat.gcd (r - 1) g.Q.toNat = 1
      rw [Nat.gcd_comm]; exact h5
     exact h7.dvd_of_dvd_mul_right (Nat.gcd_dvd_left _ _)
    have h8:=Nat.le_of_dvd (by omega) h6
    have h9:Nat.gcd (2 * g.Q.toNat) (r - 1) = 0 ∨ Nat.gcd (2 * g.Q.toNat) (r - 1) = 1 ∨ Nat.gcd (2 * g.Q.toNat) (r - 1) = 2:=by omega
    rcases h9 with h9 | h9 | h9
    ·rw [h9] at h6; have:=Nat.eq_zero_of_zero_dvd h6; omega
    ·rw [h9] at h3
     have h10:(r:Int) ∣ 1:=h3
     have:=Int.le_of_dvd (by omega) h10
     omega
    ·rw [h9] at h3
     have h10:(r:Int) ∣ 3:=h3
     have:=Int.le_of_dvd (by omega) h10
     omega
  exact hrP ▸ hr
theorem unit_Q {g:Grp} (h:validG g = true) {a:Int} (ha:a % g.Q ≠ 0):U g.Q a:=by
 have hQ:=prime_Q h
 have q0:=(gv_of h).q0
 have hN:((g.Q.toNat:Nat):Int) = g.Q:=Int.toNat_of_nonneg (by omega)
 have r0:=Int.emod_nonneg a (show g.Q ≠ 0 by omega)
 have r1:=Int.emod_lt_of_pos a (show 0 < g.Q by omega)
 have h2:g.Q.toNat % 2 = 1:=by
  rcases Nat.mod_two_eq_zero_or_one g.Q.toNat with h2 | h2
  ·rcases hQ.2 2 (Nat.dvd_of_mod_eq_zero h2) with h3 | h3 <;> omega
  ·exact h2
 have hd:¬ g.Q.toNat ∣ (a % g.Q).toNat:=fun hd=>by have:=Nat.le_of_dvd (by omega) hd; omega
 have h3:=gauss (h:=g.Q.toNat / 2) hQ (by omega) hd
 have h4:=h3.mul h3
 rw [← Int.pow_add,← Int.pow_add,neg_one_pow,if_pos (by omega)] at h4
 have eA:(((a % g.Q).toNat:Nat):Int) = a % g.Q:=Int.toNat_of_nonneg r0
 rw [eA] at h4
 have h5:g.Q ∣ (a % g.Q) ^ (g.Q.toNat / 2 + g.Q.toNat / 2) - 1:=by
  have:((g.Q.toNat:Nat):Int) ∣ (a % g.Q) ^ (g.Q.toNat / 2 + g.Q.toNat / 2) - 1:=h4
  rwa [hN] at this
 have hU:U g.Q (a % g.Q):=by
  refine ⟨(a % g.Q) ^ (g.Q.toNat / 2 + g.Q.toNat / 2 - 1),?_⟩
  rw [← Int.pow_succ,show (g.Q.toNat / 2 + g.Q.toNat / 2 - 1).succ = g.Q.toNat / 2 + g.Q.toNat / 2 by omega]
  exact h5
 refine hU.cong ?_
 exact ⟨a / g.Q,by have:=Int.emod_add_mul_ediv a g.Q; omega⟩
end FdPr
namespace GrPr
open FdSpec FdPoly GrLaw
section
variable {g:Grp} (hv:validG g = true)
include hv
theorem nP:((g.P.toNat:Nat):Int) = g.P:=Int.toNat_of_nonneg (by have:=(gv_of hv).q0; have:=(gv_of hv).p; omega)
theorem cg_E {a b:Int}:Cg g.P a b ↔ Mr.E g.P.toNat a b:=by unfold Cg Mr.E; rw [nP hv]
theorem ord {x:Int} (hx:El g x) (h1:¬ Cg g.P x 1) {k:Nat} (hk:Cg g.P (x ^ k) 1):g.Q.toNat ∣ k:=by
 rw [cg_E hv] at hk h1
 have h2:Mr.E g.P.toNat (x ^ g.Q.toNat) 1:=(cg_E hv).mp hx
 have h3:=Mr.gcd_pow _ _ h2 hk
 rcases (FdPr.prime_Q hv).2 (Nat.gcd g.Q.toNat k) (Nat.gcd_dvd_left _ _) with h4 | h4
 ·rw [h4,Int.pow_succ,Int.pow_zero,Int.one_mul] at h3
  exact absurd h3 h1
 ·exact h4 ▸ Nat.gcd_dvd_right g.Q.toNat k
theorem gen_ne:¬ Cg g.P g.G 1:=by
 intro h
 have hg:=gv_of hv
 have:=hg.g0
 have:=hg.g1
 have:=Int.le_of_dvd (by omega) h
 omega
theorem Ex_inj {x:Int} (hx:El g x) (h1:¬ Cg g.P x 1) {a b:Int} (h:Cg g.P (Ex g x a) (Ex g x b)):a % g.Q = b % g.Q:=by
 have hg:=gv_of hv
 have q0:=hg.q0
 have h2:Cg g.P (Ex g x (a - b)) 1:=by
  have h3:=Ex_add hg hx (a - b) b
  rw [Int.sub_add_cancel] at h3
  have h4:Cg g.P (1 * Ex g x b) (Ex g x (a - b) * Ex g x b):=by rw [Int.one_mul]; exact h.symm.trans h3
  exact (Cg.cancel ((hx.ex b).unit hg) h4).symm
 have h3:=ord hv hx h1 h2
 have r0:=Int.emod_nonneg (a - b) (show g.Q ≠ 0 by omega)
 have r1:=Int.emod_lt_of_pos (a - b) (show 0 < g.Q by omega)
 have h4:((a - b) % g.Q).toNat = 0:=by
  apply Classical.byContradiction
  intro hc
  have:=Nat.le_of_dvd (by omega) h3
  omega
 have h5:(a - b) % g.Q = 0:=by omega
 exact Int.emod_eq_emod_iff_emod_sub_eq_zero.mpr h5
theorem log {x:Int} (hx:El g x):∃ k:Int,Cg g.P x (Ex g g.G k):=by
 have hg:=gv_of hv
 have q0:=hg.q0
 apply Classical.byContradiction
 intro hc
 have hl:∀ k:Nat,¬ Mr.E g.P.toNat x (g.G ^ k):=by
  intro k h
  apply hc
  refine ⟨k,?_⟩
  have h1:Cg g.P x (g.G ^ k):=(cg_E hv).mpr h
  refine h1.trans ?_
  unfold Ex
  refine pow_same (El.gen hg) (nat_mod (by omega) ?_)
  rw [toNat_mod (by omega),Int.emod_emod_of_dvd _ (Int.dvd_refl _)]
 have hp:List.Pairwise (fun a b:Nat=>¬ Mr.E g.P.toNat (g.G ^ a) (g.G ^ b)) (List.range g.Q.toNat):=by
  refine List.Pairwise.imp_of_mem ?_ List.pairwise_lt_range
  intro a b ha hb hab h
  have ha:=List.mem_range.mp ha
  have hb:=List.mem_range.mp hb
  have h1:Cg g.P (Ex g g.G a) (Ex g g.G b):=by
   unfold Ex
   rw [Int.emod_eq_of_lt (by omega) (by omega),Int.emod_eq_of_lt (by omega) (by omega)]
   exact (cg_E hv).mpr h
  have h2:=Ex_inj hv (El.gen hg) (gen_ne hv) h1
  rw [Int.emod_eq_of_lt (by omega) (by omega),Int.emod_eq_of_lt (by omega) (by omega)] at h2
  omega
 have h1:Mr.Apart g.P.toNat (x :: (List.range g.Q.toNat).map fun k=>g.G ^ k):=by
  refine List.pairwise_cons.mpr ⟨fun y hy=>?_,List.pairwise_map.mpr hp⟩
  obtain ⟨k,_,rfl⟩:=List.mem_map.mp hy
  exact hl k
 have h2:=Mr.roots_pow (FdPr.prime_P hv) (k:=g.Q.toNat) (by omega) _ h1 (by
  intro y hy
  rcases List.mem_cons.mp hy with rfl | hy
  ·exact (cg_E hv).mp hx
  ·obtain ⟨k,_,rfl⟩:=List.mem_map.mp hy
   exact (cg_E hv).mp ((El.gen hg).pow k))
 rw [List.length_cons,List.length_map,List.length_range] at h2
 omega
theorem inv_Q {a:Int} (ha:a % g.Q ≠ 0):g.Q ∣ powM g.Q a (-1) * a - 1 ∧ 0 ≤ powM g.Q a (-1) ∧ powM g.Q a (-1) < g.Q:=by
 have hg:=gv_of hv
 obtain ⟨x,e,hx,h0,h1⟩:=invM_some hg.okQ (FdPr.unit_Q hv ha)
 have e1:powM g.Q a (-1) = x:=by
  unfold powM
  rw [if_pos hg.okQ,if_neg (by omega),e]
  show pw g.Q x (-(-1:Int)).toNat = _
  have:(-(-1:Int)).toNat = 1:=by decide
  rw [this]
  unfold pw
  rw [Int.pow_succ,Int.pow_zero,Int.one_mul,Int.emod_eq_of_lt h0 h1]
 rw [e1]
 exact ⟨hx,h0,h1⟩
theorem cancel_Q {a b c:Int} (ha:c % g.Q ≠ 0) (h:g.Q ∣ c * a - c * b):g.Q ∣ a - b:=by
 rw [← Int.mul_sub] at h
 exact (FdPr.unit_Q hv ha).cancel h
end
end GrPr
namespace TpA
open FdSpec FdPoly GrLaw GrPr TkSpec
def dot:List Int → List Int → Int
 | β :: bs,e :: es=>β * e + dot bs es
 | _,_=>0
theorem mod_of_dvd {q a b:Int} (h:q ∣ a - b):a % q = b % q:=Int.emod_eq_emod_iff_emod_sub_eq_zero.mpr (Int.emod_eq_zero_of_dvd h)
theorem dvd_of_mod {q a b:Int} (h:a % q = b % q):q ∣ a - b:=Int.dvd_of_emod_eq_zero (Int.emod_eq_emod_iff_emod_sub_eq_zero.mp h)
section
variable {g:Grp} (hv:validG g = true)
include hv
theorem prodG_log {bases bs es:List Int} (h:∀ es:List Int,Cg g.P (PX g (bases.zip es)) (Ex g g.G (dot bs es))) (hl:bases.length = es.length):(prodG g bases es).2 = true ∧ Cg g.P (prodG g bases es).1 (Ex g g.G (dot bs es)) ∧ 0 ≤ (prodG g bases es).1 ∧ (prodG g bases es).1 < g.P:=by
 have hg:=gv_of hv
 have hP:=hg.okP.1
 unfold prodG
 rw [if_pos ⟨hg.okP,hg.okQ,hl⟩]
 have h1:0 ≤ (1 % g.P) ∧ 1 % g.P < g.P:=⟨Int.emod_nonneg _ (by omega),Int.emod_lt_of_pos _ (by omega)⟩
 refine ⟨rfl,?_,prodL_range hg _ _ h1⟩
 have h2:=prodL_cg hg (bases.zip es) (1 % g.P)
 have h3:=(Cg.mod g.P 1).mul (Cg.refl g.P (PX g (bases.zip es)))
 rw [Int.one_mul] at h3
 exact h2.trans (h3.trans (h es))
theorem Ex_eq {a b:Int} (h:g.Q ∣ a - b):Ex g g.G a = Ex g g.G b:=Ex_cong (mod_of_dvd h)
theorem Ex_dvd {a b:Int} (h:Cg g.P (Ex g g.G a) (Ex g g.G b)):g.Q ∣ a - b:=dvd_of_mod (Ex_inj hv (El.gen (gv_of hv)) (gen_ne hv) h)
theorem pow_log {x k a:Int} (hx:Cg g.P x (Ex g g.G a)):Cg g.P (powerG g x k) (Ex g g.G (a * k)):=by
 have hg:=gv_of hv
 exact (powerG_cg hg x k).trans ((Ex_cg hx k).trans (Ex_mul hg (El.gen hg) a k).symm)
end
theorem valid_facts {s:Stp} (h:validS s = true):validG s.g = true ∧ (∀ b ∈ s.bases,El s.g b) ∧ 2 ≤ s.bases.length:=by
 unfold validS at h
 simp only [Bool.and_eq_true,decide_eq_true_eq] at h
 obtain ⟨⟨⟨⟨h1,h2⟩,h3⟩,h4⟩,h5⟩:=h
 refine ⟨h1,fun b hb=>?_,h2⟩
 have:=List.all_eq_true.mp h4 b hb
 unfold otherM at this
 rw [Bool.and_eq_true] at this
 exact (El.of_elem (gv_of h1) this.2).1
theorem accepts_log {s:Stp} {t:Tkt} {x:Spd} (h:acceptsM s t x = true):formedM s t = true ∧ x.answers.length = s.bases.length ∧ numsM s 1 [x.dare] = true ∧ numsM s 0 x.answers = true ∧
  ∀ bs μ φ,(∀ es:List Int,Cg s.g.P (PX s.g (s.bases.zip es)) (Ex s.g s.g.G (dot bs es))) → Cg s.g.P t.mark (Ex s.g s.g.G μ) → Cg s.g.P t.first (Ex s.g s.g.G φ) → s.g.Q ∣ dot bs x.answers - (μ * x.dare + φ):=by
 unfold acceptsM at h
 split at h
 ·rename_i h0
  simp only [Bool.and_eq_true,decide_eq_true_eq] at h0 h
  obtain ⟨⟨⟨h1,h2⟩,h3⟩,h4⟩:=h0
  refine ⟨h1,h3,h2,h4,fun bs μ φ hb hm hf=>?_⟩
  have hs:validS s = true:=by unfold formedM at h1; simp only [Bool.and_eq_true] at h1; exact h1.1.1.1
  have hv:=(valid_facts hs).1
  have hg:=gv_of hv
  have h5:=(prodG_log hv hb h3.symm).2.1
  rw [h] at h5
  have h6:Cg s.g.P (timesM s (powerG s.g t.mark x.dare) [t.first]) (Ex s.g s.g.G (μ * x.dare + φ)):=by
   show Cg s.g.P (timesG s.g (powerG s.g t.mark x.dare) t.first) _
   refine (timesG_cg hg _ _).trans (((pow_log hv hm).mul hf).trans (Ex_add hg (El.gen hg) _ _).symm)
  exact Ex_dvd hv (h5.symm.trans h6)
 ·cases h
theorem overQ_dvd {s:Stp} (hv:validG s.g = true) {a b:Int} (hb:b % s.g.Q ≠ 0):s.g.Q ∣ overQ s a b * b - a:=by
 obtain ⟨⟨k,hk⟩,_⟩:=inv_Q hv hb
 obtain ⟨l,hl⟩:=mulM_dvd (gv_of hv).okQ (a:=a) (b:=powM s.g.Q b (-1))
 have e:overQ s a b = mulM s.g.Q a (powM s.g.Q b (-1)):=rfl
 rw [e]
 exact ⟨l * b + a * k,by grind⟩
theorem overQ_range {s:Stp} (hv:validG s.g = true) (a b:Int):0 ≤ overQ s a b ∧ overQ s a b < s.g.Q:=mulM_range _ _ _ (gv_of hv).okQ
end TpA
namespace TpA
open FdSpec FdPoly GrLaw GrPr TkSpec
theorem range_eq {q a b:Int} (h:q ∣ a - b) (ha:0 ≤ a ∧ a < q) (hb:0 ≤ b ∧ b < q):a = b:=by
 have:=mod_of_dvd h
 rwa [Int.emod_eq_of_lt ha.1 ha.2,Int.emod_eq_of_lt hb.1 hb.2] at this
end TpA
namespace TpA
open FdSpec FdPoly GrLaw GrPr TkSpec
theorem dot_nil_right (bs:List Int):dot bs [] = 0:=by cases bs <;> rfl
theorem foldl_dot {q:Int} (hq:okN q):∀ (es bs:List Int) (o:Int),q ∣ (es.zip bs).foldl (fun o p=>addM q o (mulM q p.1 p.2)) o - (o + dot bs es)
 | [],bs,o=>by simp [dot_nil_right]
 | e :: es,[],o=>by simp [dot]
 | e :: es,b :: bs,o=>by
  rw [List.zip_cons_cons,List.foldl_cons,dot]
  obtain ⟨k,hk⟩:=foldl_dot hq es bs (addM q o (mulM q e b))
  obtain ⟨l,hl⟩:=addM_dvd hq (a:=o) (b:=mulM q e b)
  obtain ⟨n,hn⟩:=mulM_dvd hq (a:=e) (b:=b)
  exact ⟨k + l + n,by grind⟩
theorem foldl_range {q:Int} (hq:okN q):∀ (l:List (Int × Int)) (o:Int),(0 ≤ o ∧ o < q) → 0 ≤ l.foldl (fun o p=>addM q o (mulM q p.1 p.2)) o ∧ l.foldl (fun o p=>addM q o (mulM q p.1 p.2)) o < q
 | [],o,h=>h
 | p :: l,o,_=>by rw [List.foldl_cons]; exact foldl_range hq l _ (addM_range _ _ _ hq)
theorem logM_eq (s:Stp) (m:Mir) (attrs:List Int):logM s m attrs = ((expsM attrs).zip m.bases).foldl (fun o p=>addM s.g.Q o (mulM s.g.Q p.1 p.2)) 0:=rfl
structure Md (g:Grp) (m:Mir) (s:Stp):Prop where
 eg:s.g = g
 v:validG s.g = true
 vs:validS s = true
 len:s.bases.length = m.bases.length
 b2:2 ≤ m.bases.length
 log:∀ es:List Int,Cg s.g.P (PX s.g (s.bases.zip es)) (Ex s.g s.g.G (dot m.bases es))
 rng:∀ b ∈ m.bases,1 ≤ b ∧ b < s.g.Q
theorem powG_el {g:Grp} (hv:validG g = true) (k:Int):El g (powerG g g.G k):=((El.gen (gv_of hv)).ex k).cg (powerG_cg (gv_of hv) _ _)
theorem el_range {g:Grp} (hv:validG g = true) {x:Int} (hx:El g x) (h0:0 ≤ x) (h1:x < g.P):1 ≤ x:=by
 have hg:=gv_of hv
 have q0:=hg.q0
 apply Classical.byContradiction
 intro hc
 have e:x = 0:=by omega
 have h2:Cg g.P (x ^ g.Q.toNat) 1:=hx
 rw [e,Int.zero_pow (by omega)] at h2
 have h3:g.P ∣ 0 - 1:=h2
 have h4:g.P ∣ 1:=by obtain ⟨k,hk⟩:=h3; exact ⟨-k,by grind⟩
 have:=Int.le_of_dvd (by omega) h4
 have:=hg.p
 omega
theorem el_elem {g:Grp} (hv:validG g = true) {x:Int} (hx:El g x) (h0:0 ≤ x) (h1:x < g.P):elemG g x = true:=by
 have hg:=gv_of hv
 unfold elemG
 have h2:=el_range hv hx h0 h1
 have h3:pw g.P x g.Q.toNat = 1:=by
  have h4:=Cg.emod (show Cg g.P (x ^ g.Q.toNat) 1 from hx)
  rw [Int.emod_eq_of_lt (a:=1) (by omega) (by have:=hg.q0; have:=hg.p; omega)] at h4
  exact h4
 simp [h2,h1,hv,h3]
theorem powG_elem {g:Grp} (hv:validG g = true) (k:Int):elemG g (powerG g g.G k) = true:=by
 have:=powerG_range (gv_of hv) g.G k
 exact el_elem hv (powG_el hv k) this.1 this.2
theorem powG_one {g:Grp} (hv:validG g = true) (k:Int):powerG g g.G k = 1 ↔ k % g.Q = 0:=by
 have hg:=gv_of hv
 have hc:=powerG_cg hg g.G k
 constructor
 ·intro h
  rw [h] at hc
  have h2:Cg g.P (Ex g g.G k) (Ex g g.G 0):=by rw [Ex_zero]; exact hc.symm
  have:=mod_of_dvd (Ex_dvd hv h2)
  simpa using this
 ·intro h
  have e:Ex g g.G k = Ex g g.G 0:=Ex_cong (by simpa using h)
  rw [powerG_eq hg,e,Ex_zero,Int.emod_eq_of_lt (by omega) (by have:=hg.q0; have:=hg.p; omega)]
section
variable {g:Grp} {m:Mir} {s:Stp} (h:Md g m s)
include h
theorem Md.log_dvd (attrs:List Int):s.g.Q ∣ logM s m attrs - dot m.bases (expsM attrs):=by
 have:=foldl_dot (gv_of h.v).okQ (expsM attrs) m.bases 0
 rwa [Int.zero_add] at this
theorem Md.log_range (attrs:List Int):0 ≤ logM s m attrs ∧ logM s m attrs < s.g.Q:=by
 rw [logM_eq]
 exact foldl_range (gv_of h.v).okQ _ 0 ⟨by omega,by have:=(gv_of h.v).q0; omega⟩
def fineA (s:Stp) (attrs:List Int):Bool:=decide (attrs.length + 1 = s.bases.length) && numsM s 0 attrs && !decide (attrs.headD 0 = 0)
theorem Md.marks (attrs:List Int):(fineA s attrs = false → markM s attrs = (0,false)) ∧ (fineA s attrs = true → markM s attrs = (powerG s.g s.g.G (logM s m attrs),true)):=by
 have e:(validS s && decide (attrs.length + 1 = s.bases.length) && numsM s 0 attrs && !decide (attrs.headD 0 = 0)) = fineA s attrs:=by unfold fineA; rw [h.vs]; simp [Bool.and_assoc]
 constructor
 ·intro hf
  unfold markM; rw [e,hf]; rfl
 ·intro hf
  unfold markM
  rw [e,hf,if_pos rfl]
  have hl:s.bases.length = (expsM attrs).length:=by unfold fineA at hf; simp at hf; show _ = attrs.length + 1; omega
  obtain ⟨_,h1,h2,h3⟩:=prodG_log h.v h.log hl
  have h4:=powerG_range (gv_of h.v) s.g.G (logM s m attrs)
  have h5:(prodG s.g s.bases (expsM attrs)).1 = powerG s.g s.g.G (logM s m attrs):=by
   refine Cg.eq (P:=s.g.P) ?_ ⟨h2,h3⟩ h4
   refine h1.trans (Cg.trans ?_ (powerG_cg (gv_of h.v) _ _).symm)
   rw [Ex_eq h.v (a:=logM s m attrs) (h.log_dvd attrs)]
   exact Cg.refl _ _
  rw [h5]
theorem Md.usable (attrs:List Int):(usableM s attrs).2 = (fineA s attrs && !decide (logM s m attrs = 0)):=by
 unfold usableM
 cases hf:fineA s attrs with
 | false=>rw [(h.marks attrs).1 hf]; rfl
 | true=>
  rw [(h.marks attrs).2 hf]
  have h1:=h.log_range attrs
  have h2:powerG s.g s.g.G (logM s m attrs) = 1 ↔ logM s m attrs = 0:=by
   rw [powG_one h.v,Int.emod_eq_of_lt h1.1 h1.2]
  show (true && !decide (powerG s.g s.g.G (logM s m attrs) = 1)) = _
  rw [decide_eq_decide.mpr h2]
end
end TpA
namespace TpA
open FdSpec FdPoly GrLaw GrPr TkSpec
theorem dvd_iff_eq {q a b:Int} (ha:0 ≤ a ∧ a < q) (hb:0 ≤ b ∧ b < q):q ∣ a - b ↔ a = b:=⟨fun h=>range_eq h ha hb,fun h=>⟨0,by omega⟩⟩
theorem eq_iff {g:Grp} (hv:validG g = true) {x y a b:Int} (hx:Cg g.P x (Ex g g.G a)) (hy:Cg g.P y (Ex g g.G b)) (rx:0 ≤ x ∧ x < g.P) (ry:0 ≤ y ∧ y < g.P):x = y ↔ g.Q ∣ a - b:=by
 constructor
 ·intro h
  subst h
  exact Ex_dvd hv (hx.symm.trans hy)
 ·intro h
  refine Cg.eq (P:=g.P) ?_ rx ry
  rw [Ex_eq hv h] at hx
  exact hx.trans hy.symm
theorem signed_iff {s:Stp} (hv:validG s.g = true) {key m c r:Int} {o:Off} {x μ z a b:Int} (hk:Cg s.g.P key (Ex s.g s.g.G x)) (hm:Cg s.g.P m (Ex s.g s.g.G μ)) (hz:Cg s.g.P o.z (Ex s.g s.g.G z)) (ha:Cg s.g.P o.a (Ex s.g s.g.G a)) (hb:Cg s.g.P o.b (Ex s.g s.g.G b)) :
  signedM s key m c r o = true ↔ s.g.Q ∣ r - (x * c + a) ∧ s.g.Q ∣ μ * r - (z * c + b):=by
 have hg:=gv_of hv
 unfold signedM
 rw [Bool.and_eq_true,decide_eq_true_eq,decide_eq_true_eq]
 have t1:∀ k y:Int,timesM s k [y] = timesG s.g k y:=fun _ _=>rfl
 rw [t1,t1]
 show (powerG s.g s.g.G r = timesG s.g (powerG s.g key c) o.a ∧ _) ↔ _
 rw [eq_iff hv (powerG_cg hg s.g.G r) ((timesG_cg hg _ _).trans (((pow_log hv hk).mul ha).trans (Ex_add hg (El.gen hg) _ _).symm)) (powerG_range hg _ _) (timesG_range hg _ _)]
 rw [eq_iff hv (pow_log hv hm) ((timesG_cg hg _ _).trans (((pow_log hv hz).mul hb).trans (Ex_add hg (El.gen hg) _ _).symm)) (powerG_range hg _ _) (timesG_range hg _ _)]
theorem public_log {g:Grp} {m:Mir} {s:Stp} (h:Md g m s) {x:Int} (hx:1 ≤ x ∧ x < s.g.Q):publicM s x = powerG s.g s.g.G x ∧ keyM s (publicM s x) = true:=by
 have e:publicM s x = powerG s.g s.g.G x:=by
  unfold publicM genM
  rw [if_pos]
  have hn:numsM s 1 [x] = true:=by unfold numsM; simp [hx.1,hx.2]
  rw [h.vs,hn]; rfl
 refine ⟨e,?_⟩
 rw [e]
 unfold keyM elementsM
 have h1:powerG s.g s.g.G x ≠ 1:=fun h1=>by
  have:=(powG_one h.v x).mp h1
  rw [Int.emod_eq_of_lt (by omega) hx.2] at this
  omega
 simp [h1,powG_elem h.v x]
end TpA
namespace TpA
open FdSpec FdPoly GrLaw GrPr TkSpec
theorem nums_one {s:Stp} {m x:Int}:numsM s m [x] = true ↔ m ≤ x ∧ x < s.g.Q:=by unfold numsM; simp
structure Hon (g:Grp) (m:Mir) (s:Stp) (attrs:List Int) (b:Bld) (x w:Int):Prop where
 md:Md g m s
 us:(usableM s attrs).2 = true
 bl:blindsM s b = true
 hx:1 ≤ x ∧ x < s.g.Q
 hw:0 ≤ w ∧ w < s.g.Q
section
variable {g:Grp} {m:Mir} {s:Stp} {attrs:List Int} {b:Bld} {x w:Int}
theorem Md.us_facts (h:Md g m s) (hu:(usableM s attrs).2 = true):fineA s attrs = true ∧ logM s m attrs % s.g.Q ≠ 0 ∧ (usableM s attrs).1 = powerG s.g s.g.G (logM s m attrs):=by
 have h1:=h.usable attrs
 rw [hu] at h1
 have h2:=Bool.and_eq_true _ _ |>.mp h1.symm
 have h3:=h.log_range attrs
 refine ⟨h2.1,?_,?_⟩
 ·rw [Int.emod_eq_of_lt h3.1 h3.2]
  simpa using h2.2
 ·unfold usableM
  rw [(h.marks attrs).2 h2.1]
variable (h:Hon g m s attrs b x w)
include h
theorem Hon.offer:proposeM s x attrs w = (⟨powerG s.g (usableM s attrs).1 x,powerG s.g s.g.G w,powerG s.g (usableM s attrs).1 w⟩,0):=by
 unfold proposeM genM
 rw [h.us,nums_one.mpr h.hx,nums_one.mpr h.hw]; rfl
theorem Hon.grant {c:Int} (hc:0 ≤ c ∧ c < s.g.Q):s.g.Q ∣ grantM s x w c - (c * x + w) ∧ 0 ≤ grantM s x w c ∧ grantM s x w c < s.g.Q:=by
 have hg:=gv_of h.md.v
 have e:grantM s x w c = addM s.g.Q (mulM s.g.Q c x) w:=by
  unfold grantM
  have:numsM s 0 [w,c] = true:=by unfold numsM; simp [h.hw.1,h.hw.2,hc.1,hc.2]
  rw [h.md.vs,nums_one.mpr h.hx,this]; rfl
 rw [e]
 obtain ⟨k,hk⟩:=addM_dvd hg.okQ (a:=mulM s.g.Q c x) (b:=w)
 obtain ⟨l,hl⟩:=mulM_dvd hg.okQ (a:=c) (b:=x)
 exact ⟨⟨k + l,by grind⟩,addM_range _ _ _ hg.okQ⟩
theorem Hon.signed {r:Int} (hr:0 ≤ r ∧ r < s.g.Q) {c:Int} (hc:0 ≤ c ∧ c < s.g.Q):signedM s (publicM s x) (usableM s attrs).1 c r (proposeM s x attrs w).1 = true ↔ r = grantM s x w c:=by
 have hv:=h.md.v
 have hg:=gv_of hv
 obtain ⟨_,hA,eM⟩:=h.md.us_facts h.us
 have hM:Cg s.g.P (usableM s attrs).1 (Ex s.g s.g.G (logM s m attrs)):=by rw [eM]; exact powerG_cg hg _ _
 have hk:Cg s.g.P (publicM s x) (Ex s.g s.g.G x):=by rw [(public_log h.md h.hx).1]; exact powerG_cg hg _ _
 have e:=h.offer
 rw [signed_iff (o:=(proposeM s x attrs w).1) (z:=logM s m attrs * x) (a:=w) (b:=logM s m attrs * w) hv hk hM (by rw [e]; exact pow_log hv hM) (by rw [e]; exact powerG_cg hg _ _) (by rw [e]; exact pow_log hv hM)]
 obtain ⟨⟨k,hk⟩,hgr⟩:=h.grant hc
 rw [← dvd_iff_eq hr hgr]
 constructor
 ·rintro ⟨⟨l,hl⟩,_⟩
  exact ⟨l - k,by grind⟩
 ·rintro ⟨l,hl⟩
  refine ⟨⟨l + k,by grind⟩,⟨logM s m attrs * (l + k),?_⟩⟩
  have e1:r = c * x + w + s.g.Q * (l + k):=by grind
  rw [e1]; grind
end
end TpA
namespace TpA
open FdSpec FdPoly GrLaw GrPr TkSpec
section
variable {g:Grp} {m:Mir} {s:Stp} {attrs:List Int} {b:Bld} {x w:Int} (h:Hon g m s attrs b x w)
include h
end
end TpA
namespace TpA
open FdSpec FdPoly GrLaw GrPr TkSpec
section
variable {g:Grp} {m:Mir} {s:Stp} {attrs:List Int} {b:Bld} {x w:Int} (h:Hon g m s attrs b x w)
include h
end
end TpA
namespace TpA
open FdSpec FdPoly GrLaw GrPr TkSpec
section
variable {g:Grp} {m:Mir} {s:Stp} {attrs:List Int} {b:Bld} {x w:Int} (h:Hon g m s attrs b x w)
include h
end
end TpA
namespace TpA
open FdSpec FdPoly GrLaw GrPr TkSpec
section
variable {g:Grp} {m:Mir} {s:Stp} {attrs attrs':List Int} {b:Bld} {x w w' n:Int}
def hT (s:Stp) (attrs:List Int) (b:Bld) (x w:Int):Tkt:=
 { askTkt s attrs (proposeM s x attrs w).1 b with r:=plusQ s (mulQ s (grantM s x w (askC s attrs (proposeM s x attrs w).1 b)) [b.u]) b.v }
end
end TpA
namespace TpA
open FdSpec FdPoly GrLaw GrPr TkSpec
section
variable {g:Grp} {m:Mir} {s:Stp} {attrs attrs':List Int} {b:Bld} {x w w' n:Int}
end
end TpA
namespace TpA
open FdSpec FdPoly GrLaw GrPr TkSpec
section
variable {g:Grp} {m:Mir} {s:Stp} {attrs attrs':List Int} {b:Bld} {x w w' n:Int}
end
end TpA
namespace TpA
open FdSpec FdPoly GrLaw GrPr TkSpec
section
variable {g:Grp} {m:Mir} {s:Stp} {attrs attrs':List Int} {b:Bld} {x w w' n:Int}
end
end TpA
namespace TpA
open FdSpec FdPoly GrLaw GrPr TkSpec
end TpA
namespace TpA
open FdSpec FdPoly GrLaw GrPr TkSpec
end TpA
namespace Go.Proofs
open Go Go.Sh Go.RowKit FdSpec TkSpec CodeSpec
section
variable {K:Value → World → Prop} {w w0:World} {L:List (Addr × Value)}
end
end Go.Proofs
namespace Go.Proofs
open Go Go.Sh Go.RowKit FdSpec TkSpec CodeSpec
section
variable {K:Value → World → Prop} {w w0:World} {L:List (Addr × Value)}
theorem trace_no {s:Stp} {t:Tkt} {x y:Spd} (h:acceptsM s t x = false ∨ acceptsM s t y = false ∨ x.dare = y.dare):traceM s t x y = ([],false):=by
 unfold traceM gapsM
 rcases h with h | h | h <;> simp [h]
theorem trace_yes {s:Stp} {t:Tkt} {x y:Spd} (h1:acceptsM s t x = true) (h2:acceptsM s t y = true) (h3:¬ x.dare = y.dare) :
  traceM s t x y = if (gapL s x y).headD 0 = 0 then ([],false) else ((gapL s x y).tail.map fun n=>overQ s n ((gapL s x y).headD 0),true):=by
 have e:gapsM s t x y = (gapL s x y,!decide ((gapL s x y).headD 0 = 0)):=by
  unfold gapsM
  rw [h1,h2,decide_eq_false h3]
  rfl
 unfold traceM
 rw [e]
 by_cases h0:(gapL s x y).headD 0 = 0
 ·rw [if_pos h0,decide_eq_true h0]; rfl
 ·rw [if_neg h0,decide_eq_false h0]; rfl
def RtrJ (w0:World) (n:Nat) (al:List Int) (vs:List Value) (w':World):Prop:=Below w0.heap.size w0 w' ∧ ∃ (ov:Value) (i:Nat),vs = [ov,.int .i64 ((i:Int) + 1)] ∧ i + 1 ≤ n ∧ OwnI w' w0.heap.size ov (al.take i)
def rtrMu (n:Nat) (l:List Value) (_:World):Nat:=match l with | [_,.int _ i]=>n - i.toNat | _=>0
theorem rtrMu_eq (n:Nat) (u:Value) (k:IntKind) (i:Int) (w:World):rtrMu n [u,.int k i] w = n - i.toNat:=rfl
theorem rTrace_ok (s:Stp) (t:Tkt) (x y:Spd) {v xv yv:Value} (ht:TktR t) (hs:SetR w s v) (hx:SpdR w x xv) (hy:SpdR w y yv)
  (k:∀ w' ov,Below w.heap.size w w' → Ints w' ov (traceM s t x y).1 → K (.tuple #[ov,.bool (traceM s t x y).2]) w'):callM Tryz.prog 47 #[stpV s v,tktV t,spdV x xv,spdV y yv] K w:=by
 apply sh_47_ok
 unfold sh_47
 obtain ⟨ad,c,rfl⟩:=hs.ints.isSlice
 have hx':=hx
 have hy':=hy
 obtain ⟨xad,xc,rfl⟩:=hx.answers.isSlice
 obtain ⟨yad,yc,rfl⟩:=hy.answers.isSlice
 have k2:∀ w' ov r,traceM s t x y = r → Below w.heap.size w w' → Ints w' ov r.1 → K (.tuple #[ov,.bool r.2]) w':=fun w' ov r e hb hi=>by
  rw [← e] at hi ⊢
  exact k w' ov hb hi
 clear k
 have hno:=trace_no (s:=s) (t:=t) (x:=x) (y:=y)
 refine box_kn (cs:=stpC s (.slice ad s.bases.length c)) rfl (.start w) fun b1 W1 hk hb1 hbb=>?_
 refine box_kn (cs:=tktC t) rfl hk fun b2 W2 hk hb2 hbb=>?_
 refine box_kn (cs:=spdC x (.slice xad x.answers.length xc)) rfl hk fun b3 W3 hk hb3 hbb=>?_
 refine box_kn (cs:=spdC y (.slice yad y.answers.length yc)) rfl hk fun b4 W4 hk hb4 hbb=>?_
 clear hb1 hb2 hb3 hb4
 refine Xa hk.cells ?_
 refine rAccepts_ok s t x ht (hs.next hk.below) (hx'.next hk.below) (fun w1 h=>?_)
 have hk:=hk.next h
 clear h
 cases h1:acceptsM s t x with
 | false=>
  refine Xa hk.cells ?_
  exact k2 _ _ _ (hno (.inl h1)) hk.below (Ints.nil _)
 | true=>
 refine Xa hk.cells ?_
 refine rAccepts_ok s t y ht (hs.next hk.below) (hy'.next hk.below) (fun w2 h=>?_)
 have hk:=hk.next h
 clear h
 cases h2:acceptsM s t y with
 | false=>
  refine Xa hk.cells ?_
  exact k2 _ _ _ (hno (.inr (.inl h2))) hk.below (Ints.nil _)
 | true=>
 by_cases h3:x.dare = y.dare
 ·refine Xa (An2 hk.cells @h3) ?_
  exact k2 _ _ _ (hno (.inr (.inr h3))) hk.below (Ints.nil _)
 have eT:=trace_yes h1 h2 h3
 have hxl:=(TpA.accepts_log h1).2.1
 have hyl:=(TpA.accepts_log h2).2.1
 have hvs:validS s = true:=by
  have:=(TpA.accepts_log h1).1
  unfold formedM at this
  simp only [Bool.and_eq_true] at this
  exact this.1.1.1
 have h7:=validS_len hvs
 clear hno h1 h2
 obtain ⟨bx,ox,rfl,hbx,cx,rx,_⟩:=hx'.answers.at (i:=0) (by omega)
 obtain ⟨by',oy,rfl,hby,cy,ry,_⟩:=hy'.answers.at (i:=0) (by omega)
 simp only [Nat.add_zero] at cx cy
 have hgl:(gapL s x y).length = x.answers.length:=by unfold gapL; simp; omega
 have hgi:∀ i (h1:i < x.answers.length) (h2:i < y.answers.length),(gapL s x y)[i]? = some (lessQ s x.answers[i] y.answers[i]):=fun i h1 h2=>by
  unfold gapL
  simp [List.getElem?_zip_eq_some,h1,h2]
  exact ⟨_,_,⟨rfl,rfl⟩,rfl⟩
 have hg0:(gapL s x y).headD 0 = lessQ s x.answers[0] y.answers[0]:=by
  have:=hgi 0 (by omega) (by omega)
  cases hg:gapL s x y with
  | nil=>rw [hg] at this; simp at this
  | cons a l=>rw [hg] at this; simpa using this
 generalize x.answers[0] = x0 at *
 generalize y.answers[0] = y0 at *
 have hxp:(0:Int) < x.answers.length:=by omega
 have hyp:(0:Int) < y.answers.length:=by omega
 refine Xa (An2 hk.cells @h3) ?_
 have hk:=hk.drew
 refine ⟨Nx { w2 with drawn:=w2.drawn + 1 },Below.refl _ _,rfl,?_⟩
 generalize ({ w2 with drawn:=w2.drawn + 1 }:World) = W at hk ⊢
 refine Xf (fun W0 hW0=>An3 ((hk.next hW0).cells) (cx _ (hk.next hW0).below) (cy _ (hk.next hW0).below)) (An2 @hxp @hyp) ?_
 refine ⟨Nx,fun w3 h=>?_⟩
 refine rSub_ok _ _ _ ?_
 have hk:=hk.next h
 clear h
 have e0:subM s.g.Q x0 y0 = lessQ s x0 y0:=rfl
 rw [e0,← hg0]
 clear e0 hg0
 generalize (gapL s x y).headD 0 = f at *
 by_cases hf:f = 0
 ·rw [if_pos hf] at eT
  refine Xa @hf ?_
  exact k2 _ _ _ eT hk.below (Ints.nil _)
 rw [if_neg hf] at eT
 refine Xa @hf ?_
 have hal:((gapL s x y).tail.map fun n=>overQ s n f).length + 1 = x.answers.length:=by rw [List.length_map,List.length_tail]; omega
 have hat:∀ i (h1:i + 1 < x.answers.length) (h2:i + 1 < y.answers.length),((gapL s x y).tail.map fun n=>overQ s n f)[i]? = some (overQ s (lessQ s x.answers[i + 1] y.answers[i + 1]) f):=fun i h1 h2=>by
  rw [List.getElem?_map,List.getElem?_tail,hgi (i + 1) h1 h2]
  rfl
 have hrng:∀ n ∈ (gapL s x y).tail.map fun n=>overQ s n f,I64 n:=by
  intro n hn
  obtain ⟨m,_,rfl⟩:=List.mem_map.1 hn
  exact mulQ_I64 _ _ _ (by simp)
 generalize ((gapL s x y).tail.map fun n=>overQ s n f) = al at *
 have ho0:OwnI (w3.alloc (Obj.cells #[] 3)) w3.heap.size (.slice (some ⟨w3.heap.size,0,none⟩) 0 0) []:=World.ownsRow_lit w3 #[] 0 (Nat.le_refl _) (by decide) rfl
 refine ⟨RtrJ w3 x.answers.length al,rtrMu x.answers.length,⟨(Below.refl _ w3).alloc (Nat.le_refl _) _,_,0,rfl,by omega,ho0⟩,?_⟩
 rintro _ _ w6 ⟨hb,ov,i,rfl,hi,ho⟩
 have hk6:=hk.next hb
 simp only [List.getD_cons_zero,List.getD_cons_succ]
 by_cases hin:i + 1 = x.answers.length
 ·have hil:¬ ((i:Int) + 1 < x.answers.length):=by omega
  rw [List.take_of_length_le (by omega)] at ho
  refine Xa (An2 hk6.cells @hil) ?_
  exact k2 _ _ _ eT hk6.below (ho.ints hrng (by omega))
 have hil:(i:Int) + 1 < x.answers.length:=by omega
 have hil2:(i:Int) + 1 < y.answers.length:=by omega
 obtain ⟨_,_,e,_,cxi,rxi,_⟩:=hx'.answers.at (i:=i + 1) (by omega)
 cases e
 obtain ⟨_,_,e,_,cyi,ryi,_⟩:=hy'.answers.at (i:=i + 1) (by omega)
 cases e
 have hat:=hat i (by omega) (by omega)
 have htk:=take_snoc' hat
 have et:((i:Int) + 1).toNat = i + 1:=by omega
 have ew:IntKind.i64.wrap ((i:Int) + 1 + 1) = (i:Int) + 1 + 1:=wrapI64 _ (by omega) (by have:=hx'.answers.len; omega)
 generalize x.answers[i + 1] = p at *
 generalize y.answers[i + 1] = q at *
 refine Xa (An2 hk6.cells @hil) ?_
 have hD:Below w6.heap.size w6 { w6 with drawn:=w6.drawn + 1 }:=.drawn
 have hk6:=hk6.drew
 refine ⟨Nx { w6 with drawn:=w6.drawn + 1 },Below.refl _ _,trivial,?_⟩
 generalize ({ w6 with drawn:=w6.drawn + 1 }:World) = W at hk6 hD ⊢
 refine Xf (fun W0 hW0=>An3 ((hk6.next hW0).cells) (cxi _ (hk6.next hW0).below) (cyi _ (hk6.next hW0).below)) (An3 @et @hil @hil2) ?_
 refine ⟨Nx,?_⟩
 apply monoE
 ·intro w1 h1
  exact rSub_ok _ _ _ ⟨h1,Below.refl _ _,rfl⟩
 apply monoE
 ·rintro w1 h1 _ rfl
  exact qover_ok s _ f (hs.next (hk6.next h1).below) (fun w2 h2=>⟨h1.on h2,h2,rfl⟩)
 refine monoR (fun v w'=>Ints w' v [overQ s (lessQ s p q) f]) (fun v w w1 hS h=>h.next hS) ?_ ?_
 ·rintro w1 h1 _ rfl
  exact mk1 _ (mulQ_I64 _ _ _ (by simp)) (fun v w2 h2 hi=>⟨h1.on h2,h2,hi⟩)
 rintro w9 h9 _ rfl _ rfl v9 hi9
 have hb9:=hb.on (hD.on h9)
 refine appendI (ho.keep (hD.on h9)) hb9.size hi9 (by rw [List.length_take]; simp; omega) (fun v' w10 ho' h10=>?_)
 rw [htk] at ho'
 refine Xa @ew ?_
 refine ⟨⟨hb9.trans h10,_,i + 1,rfl,by omega,ho'⟩,?_⟩
 rw [rtrMu_eq,rtrMu_eq]
 omega
theorem gaps_yes {s:Stp} {t:Tkt} {x y:Spd} (h:(gapsM s t x y).2 = true):¬ x.dare = y.dare ∧ acceptsM s t x = true ∧ acceptsM s t y = true ∧ (gapsM s t x y).1 = gapL s x y ∧ ¬ (gapL s x y).headD 0 = 0:=by
 unfold gapsM at h ⊢
 split at h
 ·cases h
 ·rename_i hc
  rw [if_neg hc]
  simp only [Bool.or_eq_true,decide_eq_true_eq,Bool.not_eq_true',not_or,Bool.not_eq_false] at hc
  exact ⟨hc.1.1,hc.1.2,hc.2,rfl,by simpa [gapL] using h⟩
theorem over_iff {s:Stp} (hv:validG s.g = true) {f g a:Int} (hf:f % s.g.Q ≠ 0) (hg:0 ≤ g ∧ g < s.g.Q):(0 ≤ a ∧ a < s.g.Q ∧ mulQ s a [f] = g) ↔ overQ s g f = a:=by
 have hq:=(GrLaw.gv_of hv).okQ
 have h1:=TpA.overQ_dvd hv (a:=g) hf
 have h2:=TpA.overQ_range hv g f
 have e:mulQ s a [f] = a * f % s.g.Q:=by show mulM s.g.Q a f = _; rw [mulM,if_pos hq]
 have key:∀ u v:Int,0 ≤ u → u < s.g.Q → 0 ≤ v → v < s.g.Q → s.g.Q ∣ u - v → u = v:=fun u v a b c d h=>by
  obtain ⟨k,hk⟩:=h
  have hk0:k = 0:=by
   rcases Int.lt_trichotomy k 0 with hk1 | hk1 | hk1
   ·have:s.g.Q * k ≤ s.g.Q * (-1):=Int.mul_le_mul_of_nonneg_left (by omega) (by omega)
    omega
   ·exact hk1
   ·have:s.g.Q * 1 ≤ s.g.Q * k:=Int.mul_le_mul_of_nonneg_left (by omega) (by omega)
    omega
  subst hk0
  omega
 constructor
 ·rintro ⟨a0,a1,h⟩
  rw [e] at h
  have hd:s.g.Q ∣ a * f - g:=by
   rw [← h]
   exact Int.dvd_self_sub_of_emod_eq rfl
  refine key _ _ h2.1 h2.2 a0 a1 (GrPr.cancel_Q hv hf ?_)
  obtain ⟨k1,hk1⟩:=h1
  obtain ⟨k2,hk2⟩:=hd
  exact ⟨k1 - k2,by grind⟩
 ·rintro rfl
  refine ⟨h2.1,h2.2,?_⟩
  rw [e]
  refine key _ _ (Int.emod_nonneg _ (by omega)) (Int.emod_lt_of_pos _ (by omega)) hg.1 hg.2 ?_
  obtain ⟨k1,hk1⟩:=h1
  have:=Int.emod_add_mul_ediv (overQ s g f * f) s.g.Q
  exact ⟨k1 - overQ s g f * f / s.g.Q,by grind⟩
theorem over_list {s:Stp} (hv:validG s.g = true) {f:Int} (hf:f % s.g.Q ≠ 0):∀ (gs l:List Int),(∀ g ∈ gs,0 ≤ g ∧ g < s.g.Q) →
  (decide (l.length = gs.length) && numsM s 0 l && (l.zip gs).all fun p=>decide (mulQ s p.1 [f] = p.2)) = decide (gs.map (fun n=>overQ s n f) = l)
 | [],[],_=>by simp [numsM]
 | [],a :: l,_=>by simp
 | g :: gs,[],_=>by simp
 | g :: gs,a :: l,h=>by
  have ih:=over_list hv hf gs l (fun x hx=>h x (by simp [hx]))
  have h1:=over_iff hv (a:=a) hf (h g (by simp))
  rw [numsM_cons,List.map_cons,List.zip_cons_cons,List.all_cons,Bool.eq_iff_iff]
  rw [Bool.eq_iff_iff] at ih
  simp only [Bool.and_eq_true,decide_eq_true_eq,List.length_cons,List.cons.injEq] at ih ⊢
  rw [← ih,← h1]
  constructor
  ·rintro ⟨⟨b1,b2,b3⟩,b4,b5⟩
   exact ⟨⟨b2.1,b2.2,b4⟩,⟨by omega,b3⟩,b5⟩
  ·rintro ⟨⟨b1,b2,b3⟩,⟨b4,b5⟩,b6⟩
   exact ⟨⟨by omega,⟨b1,b2⟩,b5⟩,b3,b6⟩
theorem guilty_trace {s:Stp} {t:Tkt} {x y:Spd} (l:List Int):guiltyM s t x y l = ((traceM s t x y).2 && decide ((traceM s t x y).1 = l)):=by
 unfold guiltyM traceM
 cases h:(gapsM s t x y).2 with
 | false=>simp
 | true=>
 obtain ⟨hd,h1,h2,hG,hne⟩:=gaps_yes h
 have hvs:validS s = true:=by
  have:=(TpA.accepts_log h1).1
  unfold formedM at this
  simp only [Bool.and_eq_true] at this
  exact this.1.1.1
 have hv:=(TpA.valid_facts hvs).1
 have hq:=(GrLaw.gv_of hv).okQ
 rw [hG]
 have hr:∀ g ∈ gapL s x y,0 ≤ g ∧ g < s.g.Q:=fun g hg=>by
  obtain ⟨p,_,rfl⟩:=List.mem_map.1 hg
  exact subM_range _ _ _ hq
 cases hl:gapL s x y with
 | nil=>rw [hl] at hne; simp at hne
 | cons f gs=>
  rw [hl] at hne hr
  have hf:f % s.g.Q ≠ 0:=by
   have:=hr f (by simp)
   rw [Int.emod_eq_of_lt this.1 this.2]
   simpa using hne
  have key:=over_list hv hf gs l (fun g hg=>hr g (by simp [hg]))
  simp only [Bool.true_and,List.length_cons,List.tail_cons,List.headD_cons,if_true]
  rw [← key]
  have e1:decide (l.length + 1 = gs.length + 1) = decide (l.length = gs.length):=decide_eq_decide.mpr (by omega)
  rw [e1]
  cases decide (l.length = gs.length) && numsM s 0 l with
  | false=>simp
  | true=>simp; rfl
theorem rGuilty_ok (s:Stp) (t:Tkt) (x y:Spd) {v xv yv lv:Value} {l:List Int} (ht:TktR t) (hs:SetR w s v) (hx:SpdR w x xv) (hy:SpdR w y yv) (hl:Ints w lv l)
  (k:∀ w',Below w.heap.size w w' → K (.bool (guiltyM s t x y l)) w'):callM Tryz.prog 55 #[stpV s v,tktV t,spdV x xv,spdV y yv,lv] K w:=by
 apply sh_55_ok
 unfold sh_55
 obtain ⟨ad,c,rfl⟩:=hs.ints.isSlice
 have hx':=hx
 have hy':=hy
 obtain ⟨xad,xc,rfl⟩:=hx.answers.isSlice
 obtain ⟨yad,yc,rfl⟩:=hy.answers.isSlice
 rw [guilty_trace] at k
 refine box_kn (cs:=stpC s (.slice ad s.bases.length c)) rfl (.start w) fun b1 W1 hk hb1 hbb=>?_
 refine box_kn (cs:=tktC t) rfl hk fun b2 W2 hk hb2 hbb=>?_
 refine box_kn (cs:=spdC x (.slice xad x.answers.length xc)) rfl hk fun b3 W3 hk hb3 hbb=>?_
 refine box_kn (cs:=spdC y (.slice yad y.answers.length yc)) rfl hk fun b4 W4 hk hb4 hbb=>?_
 clear hb1 hb2 hb3 hb4
 refine Xa hk.cells ?_
 refine rTrace_ok s t x y ht (hs.next hk.below) (hx'.next hk.below) (hy'.next hk.below) (fun w1 ov h ho=>?_)
 have hk:=hk.next h
 clear h
 cases h2:(traceM s t x y).2 with
 | false=>
  rw [h2,Bool.false_and] at k
  refine Xa0 ?_
  exact k _ hk.below
 | true=>
 rw [h2,Bool.true_and] at k
 refine Xa0 ?_
 refine Same_ok ho (hl.next hk.below) (fun w2 h=>?_)
 have k:=k _ (hk.next h).below
 generalize decide ((traceM s t x y).1 = l) = q at *
 refine Xa0 ?_
 exact k
end
end Go.Proofs
namespace Go.Proofs
open Go.Sh Tryz
def sh_215 (a0:Value) (K:Value → World → Prop) (w:World):Prop:=
 joinM (fun M_1=>(oM prog (.call (Go.Call.mk (.builtin .len) #[(.tmp 0)] #[9])) 3 [a0] (fun v8 w=>
 oM prog (.binOp .gtr 3 (.tmp 0) (.tmp 1) 3) 4 [v8,(.int .i64 0)] (fun v9 w=>
 gdM (gd v9 true) (pureM a0) (fun v11 w=>
 gdM (gd v9 true) (oM prog (.index 9 (.tmp 0) (.tmp 1)) 5 [v11,(.int .i64 0)]) (fun v12 w=>
 gdM (gd v9 true) (oM prog (.binOp .eql 5 (.tmp 0) (.const (.int .u8 45)) 5) 4 [v12]) (fun v13 w=>
 oM prog (.pick (.tmp 0) (.tmp 1) (.tmp 2)) 4 [v9,v13,(.bool false)] (fun v14 w=>
 condM v14
 (M_1 [(.int .i64 1)] w)
 (M_1 [(.int .i64 0)] w)) w) w) w) w) w) w))
 (fun l_2 u_l_2 w=>(loopM [(.int .i64 0),(.bool false),(.int .i64 0),(l_2.getD 0 undef)] w (fun J_9 m_10 l_11 u_l_11 w0_l_11=>(fun w=>(
 oM prog (.call (Go.Call.mk (.builtin .len) #[(.tmp 0)] #[9])) 3 [a0] (fun v18 w=>
 oM prog (.binOp .lss 3 (.tmp 0) (.tmp 1) 3) 4 [(l_11.getD 3 undef),v18] (fun v19 w=>
 condM v19
 (oM prog (.index 9 (.tmp 0) (.tmp 1)) 5 [a0,(l_11.getD 3 undef)] (fun v24 w=>
 oM prog (.binOp .lss 5 (.tmp 0) (.tmp 1) 5) 4 [v24,(.int .u8 48)] (fun v25 w=>
 gdM (gd v25 false) (pureM a0) (fun v27 w=>
 gdM (gd v25 false) (pureM (l_11.getD 3 undef)) (fun v28 w=>
 gdM (gd v25 false) (oM prog (.index 9 (.tmp 0) (.tmp 1)) 5 [v27,v28]) (fun v29 w=>
 gdM (gd v25 false) (oM prog (.binOp .gtr 5 (.tmp 0) (.tmp 1) 5) 4 [v29,(.int .u8 57)]) (fun v30 w=>
 oM prog (.pick (.tmp 0) (.tmp 1) (.tmp 2)) 4 [v25,(.bool true),v30] (fun v31 w=>
 gdM (gd v31 false) (pureM (l_11.getD 3 undef)) (fun v33 w=>
 gdM (gd v31 false) (oM prog (.binOp .gtr 3 (.tmp 0) (.tmp 1) 3) 4 [v33,(.int .i64 20)]) (fun v34 w=>
 oM prog (.pick (.tmp 0) (.tmp 1) (.tmp 2)) 4 [v31,(.bool true),v34] (fun v35 w=>
 condM v35
 (K (.tuple #[(.int .i64 0),(.bool false)]) w)
 (oM prog (.binOp .mul 3 (.tmp 0) (.tmp 1) 3) 3 [(.int .i64 10),(l_11.getD 2 undef)] (fun v37 w=>
 oM prog (.index 9 (.tmp 0) (.tmp 1)) 5 [a0,(l_11.getD 3 undef)] (fun v40 w=>
 oM prog (.binOp .sub 5 (.tmp 0) (.tmp 1) 5) 5 [v40,(.int .u8 48)] (fun v41 w=>
 oM prog (.convert 5 3 (.tmp 0)) 3 [v41] (fun v42 w=>
 oM prog (.binOp .sub 3 (.tmp 0) (.tmp 1) 3) 3 [v37,v42] (fun v43 w=>
 oM prog (.binOp .add 3 (.tmp 0) (.tmp 1) 3) 3 [(l_11.getD 3 undef),(.int .i64 1)] (fun v21 w=>
 J_9 [(l_11.getD 0 undef),(l_11.getD 1 undef),v43,v21] w ∧ m_10 [(l_11.getD 0 undef),(l_11.getD 1 undef),v43,v21] w < m_10 l_11 w0_l_11) w) w) w) w) w) w)) w) w) w) w) w) w) w) w) w) w)
 (joinM (fun M_30=>(oM prog (.binOp .eql 3 (.tmp 0) (.const (.int .i64 0)) 3) 4 [(l_2.getD 0 undef)] (fun v45 w=>
 condM v45
 (oM prog (.unOp .neg 3 (.tmp 0)) 3 [(l_11.getD 2 undef)] (fun v47 w=>
 M_30 [v47] w) w)
 (M_30 [(l_11.getD 2 undef)] w)) w))
 (fun l_31 u_l_31 w=>(callM prog 170 #[(l_31.getD 0 undef)] (fun v50 w=>
 oM prog (.binOp .add 9 (.tmp 0) (.tmp 1) 9) 9 [a0,(.string ⟨#[59]⟩)] (fun v52 w=>
 oM prog (.binOp .eql 9 (.tmp 0) (.tmp 1) 9) 4 [v50,v52] (fun v53 w=>
 K (.tuple #[(l_31.getD 0 undef),v53]) w) w) w) w)))) w) w)) w0_l_11)))
theorem sh_215_ok {a0:Value} {K:Value → World → Prop} {w:World} (h:sh_215 a0 K w):callM prog 215 #[a0] K w:=
 calls_of_code (fun _=>0) (fn:=Tryz.f215) (rs:=[.tmp 2,.tmp 3]) Tryz.func215 rfl rfl (by kernel_rfl) (Nat.le_of_ble_eq_true rfl) (Eq.mp (by kernel_rfl) h)
def sh_193 (a0:Value) (K:Value → World → Prop) (w:World):Prop:=
 oM prog (.nilCheck (.tmp 0)) 0 [a0] (fun v4 w=>
 oM prog (.fieldAddr 191 (.tmp 0) 0) 0 [v4] (fun v5 w=>
 oM prog (.store 9 (.tmp 0) (.tmp 1)) 0 [v5,(.string ⟨#[]⟩)] (fun _ w=>
 oM prog (.nilCheck (.tmp 0)) 0 [a0] (fun v7 w=>
 oM prog (.fieldAddr 191 (.tmp 0) 1) 0 [v7] (fun v8 w=>
 oM prog (.store 4 (.tmp 0) (.tmp 1)) 0 [v8,(.bool true)] (fun _ w=>
 K (.int .i64 0) w) w) w) w) w) w) w
theorem sh_193_ok {a0:Value} {K:Value → World → Prop} {w:World} (h:sh_193 a0 K w):callM prog 193 #[a0] K w:=
 calls_of_code (fun _=>0) (fn:=Tryz.f193) (rs:=[.tmp 2]) Tryz.func193 rfl rfl (by kernel_rfl) (Nat.le_of_ble_eq_true rfl) (Eq.mp (by kernel_rfl) h)
def sh_192 (a0 a1:Value) (K:Value → World → Prop) (w:World):Prop:=
 loopM [(.int .i64 0)] w (fun J_1 m_2 l_3 u_l_3 w0_l_3=>(fun w=>(
 oM prog (.nilCheck (.tmp 0)) 0 [a0] (fun v10 w=>
 oM prog (.fieldAddr 191 (.tmp 0) 0) 0 [v10] (fun v11 w=>
 oM prog (.load 9 (.tmp 0)) 9 [v11] (fun v12 w=>
 oM prog (.call (Go.Call.mk (.builtin .len) #[(.tmp 0)] #[9])) 3 [v12] (fun v13 w=>
 oM prog (.binOp .lss 3 (.tmp 0) (.tmp 1) 3) 4 [(l_3.getD 0 undef),v13] (fun v14 w=>
 gdM (gd v14 true) (pureM (l_3.getD 0 undef)) (fun v16 w=>
 gdM (gd v14 true) (oM prog (.binOp .lss 3 (.tmp 0) (.tmp 1) 3) 4 [v16,(.int .i64 21)]) (fun v17 w=>
 oM prog (.pick (.tmp 0) (.tmp 1) (.tmp 2)) 4 [v14,v17,(.bool false)] (fun v18 w=>
 gdM (gd v18 true) (pureM a0) (fun v20 w=>
 gdM (gd v18 true) (oM prog (.nilCheck (.tmp 0)) 0 [v20]) (fun v21 w=>
 gdM (gd v18 true) (oM prog (.fieldAddr 191 (.tmp 0) 0) 0 [v21]) (fun v22 w=>
 gdM (gd v18 true) (oM prog (.load 9 (.tmp 0)) 9 [v22]) (fun v23 w=>
 gdM (gd v18 true) (pureM (l_3.getD 0 undef)) (fun v24 w=>
 gdM (gd v18 true) (oM prog (.index 9 (.tmp 0) (.tmp 1)) 5 [v23,v24]) (fun v25 w=>
 gdM (gd v18 true) (pureM a1) (fun v26 w=>
 gdM (gd v18 true) (oM prog (.binOp .neq 5 (.tmp 0) (.tmp 1) 5) 4 [v25,v26]) (fun v27 w=>
 oM prog (.pick (.tmp 0) (.tmp 1) (.tmp 2)) 4 [v18,v27,(.bool false)] (fun v28 w=>
 condM v28
 (oM prog (.binOp .add 3 (.tmp 0) (.tmp 1) 3) 3 [(l_3.getD 0 undef),(.int .i64 1)] (fun v30 w=>
 J_1 [v30] w ∧ m_2 [v30] w < m_2 l_3 w0_l_3) w)
 (oM prog (.nilCheck (.tmp 0)) 0 [a0] (fun v33 w=>
 oM prog (.fieldAddr 191 (.tmp 0) 0) 0 [v33] (fun v34 w=>
 oM prog (.load 9 (.tmp 0)) 9 [v34] (fun v35 w=>
 oM prog (.call (Go.Call.mk (.builtin .len) #[(.tmp 0)] #[9])) 3 [v35] (fun v36 w=>
 oM prog (.binOp .geq 3 (.tmp 0) (.tmp 1) 3) 4 [(l_3.getD 0 undef),v36] (fun v37 w=>
 condM v37
 (callM prog 193 #[a0] (fun v39 w=>
 K v39 w) w)
 (oM prog (.nilCheck (.tmp 0)) 0 [a0] (fun v41 w=>
 oM prog (.fieldAddr 191 (.tmp 0) 0) 0 [v41] (fun v42 w=>
 oM prog (.load 9 (.tmp 0)) 9 [v42] (fun v43 w=>
 oM prog (.index 9 (.tmp 0) (.tmp 1)) 5 [v43,(l_3.getD 0 undef)] (fun v45 w=>
 oM prog (.binOp .neq 5 (.tmp 0) (.tmp 1) 5) 4 [v45,a1] (fun v47 w=>
 condM v47
 (callM prog 193 #[a0] (fun v49 w=>
 K v49 w) w)
 (oM prog (.nilCheck (.tmp 0)) 0 [a0] (fun v52 w=>
 oM prog (.fieldAddr 191 (.tmp 0) 0) 0 [v52] (fun v53 w=>
 oM prog (.load 9 (.tmp 0)) 9 [v53] (fun v54 w=>
 oM prog (.slice 9 (.tmp 0) none (some (.tmp 1)) none) 9 [v54,(l_3.getD 0 undef)] (fun v56 w=>
 callM prog 215 #[v56] (fun v57 w=>
 oM prog (.extract (.tmp 0) 0) 3 [v57] (fun v58 w=>
 oM prog (.extract (.tmp 0) 1) 4 [v57] (fun v59 w=>
 oM prog (.unOp .not 4 (.tmp 0)) 4 [v59] (fun v61 w=>
 condM v61
 (callM prog 193 #[a0] (fun v63 w=>
 K v63 w) w)
 (oM prog (.nilCheck (.tmp 0)) 0 [a0] (fun v66 w=>
 oM prog (.fieldAddr 191 (.tmp 0) 0) 0 [v66] (fun v67 w=>
 oM prog (.load 9 (.tmp 0)) 9 [v67] (fun v68 w=>
 oM prog (.binOp .add 3 (.tmp 0) (.tmp 1) 3) 3 [(l_3.getD 0 undef),(.int .i64 1)] (fun v70 w=>
 oM prog (.slice 9 (.tmp 0) (some (.tmp 1)) none none) 9 [v68,v70] (fun v71 w=>
 oM prog (.nilCheck (.tmp 0)) 0 [a0] (fun v72 w=>
 oM prog (.fieldAddr 191 (.tmp 0) 0) 0 [v72] (fun v73 w=>
 oM prog (.store 9 (.tmp 0) (.tmp 1)) 0 [v73,v71] (fun _ w=>
 K v58 w) w) w) w) w) w) w) w) w)) w) w) w) w) w) w) w) w)) w) w) w) w) w)) w) w) w) w) w)) w) w) w) w) w) w) w) w) w) w) w) w) w) w) w) w) w)) w0_l_3)
theorem sh_192_ok {a0 a1:Value} {K:Value → World → Prop} {w:World} (h:sh_192 a0 a1 K w):callM prog 192 #[a0,a1] K w:=
 calls_of_code (fun _=>0) (fn:=Tryz.f192) (rs:=[.tmp 4]) Tryz.func192 rfl rfl (by kernel_rfl) (Nat.le_of_ble_eq_true rfl) (Eq.mp (by kernel_rfl) h)
def sh_160 (a0 a1:Value) (K:Value → World → Prop) (w:World):Prop:=
 callM prog 192 #[a0,a1] (fun v8 w=>
 oM prog (.binOp .lss 3 (.tmp 0) (.tmp 1) 3) 4 [v8,(.int .i64 0)] (fun v10 w=>
 condM v10
 (callM prog 193 #[a0] (fun v12 w=>
 K v12 w) w)
 (K v8 w)) w) w
theorem sh_160_ok {a0 a1:Value} {K:Value → World → Prop} {w:World} (h:sh_160 a0 a1 K w):callM prog 160 #[a0,a1] K w:=
 calls_of_code (fun _=>0) (fn:=Tryz.f160) (rs:=[.tmp 4]) Tryz.func160 rfl rfl (by kernel_rfl) (Nat.le_of_ble_eq_true rfl) (Eq.mp (by kernel_rfl) h)
def sh_161 (a0:Value) (K:Value → World → Prop) (w:World):Prop:=
 callM prog 192 #[a0,(.int .u8 59)] (fun v4 w=>
 K v4 w) w
theorem sh_161_ok {a0:Value} {K:Value → World → Prop} {w:World} (h:sh_161 a0 K w):callM prog 161 #[a0] K w:=
 calls_of_code (fun _=>0) (fn:=Tryz.f161) (rs:=[.tmp 2]) Tryz.func161 rfl rfl (by kernel_rfl) (Nat.le_of_ble_eq_true rfl) (Eq.mp (by kernel_rfl) h)
def sh_162 (a0 a1:Value) (K:Value → World → Prop) (w:World):Prop:=
 oM prog (.nilCheck (.tmp 0)) 0 [a0] (fun v6 w=>
 oM prog (.fieldAddr 191 (.tmp 0) 0) 0 [v6] (fun v7 w=>
 oM prog (.load 9 (.tmp 0)) 9 [v7] (fun v8 w=>
 oM prog (.call (Go.Call.mk (.builtin .len) #[(.tmp 0)] #[9])) 3 [v8] (fun v9 w=>
 oM prog (.binOp .eql 3 (.tmp 0) (.const (.int .i64 0)) 3) 4 [v9] (fun v10 w=>
 condM v10
 (callM prog 193 #[a0] (fun v12 w=>
 K (.bool false) w) w)
 (oM prog (.nilCheck (.tmp 0)) 0 [a0] (fun v14 w=>
 oM prog (.fieldAddr 191 (.tmp 0) 0) 0 [v14] (fun v15 w=>
 oM prog (.load 9 (.tmp 0)) 9 [v15] (fun v16 w=>
 oM prog (.index 9 (.tmp 0) (.tmp 1)) 5 [v16,(.int .i64 0)] (fun v17 w=>
 oM prog (.binOp .neq 5 (.tmp 0) (.tmp 1) 5) 4 [v17,a1] (fun v19 w=>
 condM v19
 (callM prog 193 #[a0] (fun v21 w=>
 K (.bool false) w) w)
 (oM prog (.nilCheck (.tmp 0)) 0 [a0] (fun v24 w=>
 oM prog (.fieldAddr 191 (.tmp 0) 0) 0 [v24] (fun v25 w=>
 oM prog (.load 9 (.tmp 0)) 9 [v25] (fun v26 w=>
 oM prog (.slice 9 (.tmp 0) (some (.tmp 1)) none none) 9 [v26,(.int .i64 1)] (fun v27 w=>
 oM prog (.nilCheck (.tmp 0)) 0 [a0] (fun v28 w=>
 oM prog (.fieldAddr 191 (.tmp 0) 0) 0 [v28] (fun v29 w=>
 oM prog (.store 9 (.tmp 0) (.tmp 1)) 0 [v29,v27] (fun _ w=>
 K (.bool true) w) w) w) w) w) w) w) w)) w) w) w) w) w)) w) w) w) w) w
theorem sh_162_ok {a0 a1:Value} {K:Value → World → Prop} {w:World} (h:sh_162 a0 a1 K w):callM prog 162 #[a0,a1] K w:=
 calls_of_code (fun _=>0) (fn:=Tryz.f162) (rs:=[.tmp 4]) Tryz.func162 rfl rfl (by kernel_rfl) (Nat.le_of_ble_eq_true rfl) (Eq.mp (by kernel_rfl) h)
def sh_113 (a0:Value) (K:Value → World → Prop) (w:World):Prop:=
 oM prog (.build 191 #[(0,(.tmp 0))]) 191 [a0] (fun v4 w=>
 oM prog (.box 191 (.tmp 0)) 159 [v4] (fun v5 w=>
 K v5 w) w) w
theorem sh_113_ok {a0:Value} {K:Value → World → Prop} {w:World} (h:sh_113 a0 K w):callM prog 113 #[a0] K w:=
 calls_of_code (fun _=>0) (fn:=Tryz.f113) (rs:=[.tmp 2]) Tryz.func113 rfl rfl (by kernel_rfl) (Nat.le_of_ble_eq_true rfl) (Eq.mp (by kernel_rfl) h)
def sh_115 (a0:Value) (K:Value → World → Prop) (w:World):Prop:=
 oM prog (.nilCheck (.tmp 0)) 0 [a0] (fun v4 w=>
 oM prog (.fieldAddr 191 (.tmp 0) 1) 0 [v4] (fun v5 w=>
 oM prog (.load 4 (.tmp 0)) 4 [v5] (fun v6 w=>
 oM prog (.unOp .not 4 (.tmp 0)) 4 [v6] (fun v7 w=>
 gdM (gd v7 true) (pureM a0) (fun v9 w=>
 gdM (gd v7 true) (oM prog (.nilCheck (.tmp 0)) 0 [v9]) (fun v10 w=>
 gdM (gd v7 true) (oM prog (.fieldAddr 191 (.tmp 0) 0) 0 [v10]) (fun v11 w=>
 gdM (gd v7 true) (oM prog (.load 9 (.tmp 0)) 9 [v11]) (fun v12 w=>
 gdM (gd v7 true) (oM prog (.binOp .eql 9 (.tmp 0) (.const (.string ⟨#[]⟩)) 9) 4 [v12]) (fun v13 w=>
 oM prog (.pick (.tmp 0) (.tmp 1) (.tmp 2)) 4 [v7,v13,(.bool false)] (fun v14 w=>
 K v14 w) w) w) w) w) w) w) w) w) w) w
theorem sh_115_ok {a0:Value} {K:Value → World → Prop} {w:World} (h:sh_115 a0 K w):callM prog 115 #[a0] K w:=
 calls_of_code (fun _=>0) (fn:=Tryz.f115) (rs:=[.tmp 2]) Tryz.func115 rfl rfl (by kernel_rfl) (Nat.le_of_ble_eq_true rfl) (Eq.mp (by kernel_rfl) h)
def sh_114 (a0:Value) (K:Value → World → Prop) (w:World):Prop:=
 callM prog 160 #[a0,(.int .u8 91)] (fun v7 w=>
 loopM [(.slice none 0 0),(.int .i64 0)] w (fun J_2 m_3 l_4 u_l_4 w0_l_4=>(fun w=>(
 oM prog (.binOp .lss 3 (.tmp 0) (.tmp 1) 3) 4 [(l_4.getD 1 undef),v7] (fun v10 w=>
 gdM (gd v10 true) (pureM a0) (fun v12 w=>
 gdM (gd v10 true) (oM prog (.nilCheck (.tmp 0)) 0 [v12]) (fun v13 w=>
 gdM (gd v10 true) (oM prog (.fieldAddr 191 (.tmp 0) 1) 0 [v13]) (fun v14 w=>
 gdM (gd v10 true) (oM prog (.load 4 (.tmp 0)) 4 [v14]) (fun v15 w=>
 gdM (gd v10 true) (oM prog (.unOp .not 4 (.tmp 0)) 4 [v15]) (fun v16 w=>
 oM prog (.pick (.tmp 0) (.tmp 1) (.tmp 2)) 4 [v10,v16,(.bool false)] (fun v17 w=>
 condM v17
 (callM prog 161 #[a0] (fun v22 w=>
 oM prog (.buildSlice 22 1 #[(0,(.tmp 0))]) 22 [v22] (fun v23 w=>
 oM prog (.call (Go.Call.mk (.builtin .append) #[(.tmp 0),(.tmp 1)] #[22,22])) 22 [(l_4.getD 0 undef),v23] (fun v24 w=>
 oM prog (.binOp .add 3 (.tmp 0) (.tmp 1) 3) 3 [(l_4.getD 1 undef),(.int .i64 1)] (fun v19 w=>
 J_2 [v24,v19] w ∧ m_3 [v24,v19] w < m_3 l_4 w0_l_4) w) w) w) w)
 (oM prog (.nilCheck (.tmp 0)) 0 [a0] (fun v26 w=>
 oM prog (.fieldAddr 191 (.tmp 0) 1) 0 [v26] (fun v27 w=>
 oM prog (.load 4 (.tmp 0)) 4 [v27] (fun v28 w=>
 gdM (gd v28 false) (pureM a0) (fun v30 w=>
 gdM (gd v28 false) (callM prog 162 #[v30,(.int .u8 93)]) (fun v31 w=>
 gdM (gd v28 false) (oM prog (.unOp .not 4 (.tmp 0)) 4 [v31]) (fun v32 w=>
 oM prog (.pick (.tmp 0) (.tmp 1) (.tmp 2)) 4 [v28,(.bool true),v32] (fun v33 w=>
 condM v33
 (K (.slice none 0 0) w)
 (K (l_4.getD 0 undef) w)) w) w) w) w) w) w) w)) w) w) w) w) w) w) w)) w0_l_4)) w
theorem sh_114_ok {a0:Value} {K:Value → World → Prop} {w:World} (h:sh_114 a0 K w):callM prog 114 #[a0] K w:=
 calls_of_code (fun _=>0) (fn:=Tryz.f114) (rs:=[.tmp 2]) Tryz.func114 rfl rfl (by kernel_rfl) (Nat.le_of_ble_eq_true rfl) (Eq.mp (by kernel_rfl) h)
end Go.Proofs
namespace Go.Proofs.Cd
open Go Go.Sh Go.RowKit Go.Lib CodeSpec
def IsQd (w:World) (b:Nat) (r:Rd):Prop:=w.heap[b]? = some (.cells #[.string ⟨r.rest.toArray⟩,.bool r.bad] 191 (0,0))
def SameW (w w':World):Prop:=w = w'
theorem IsQd.c0 {w:World} {b:Nat} {r:Rd} (h:IsQd w b r):w.cell? ⟨b,0,none⟩ = some (.string ⟨r.rest.toArray⟩):=by
 unfold IsQd at h; simp [World.cell?,h]
theorem IsQd.c1 {w:World} {b:Nat} {r:Rd} (h:IsQd w b r):w.cell? ⟨b,1,none⟩ = some (.bool r.bad):=by
 unfold IsQd at h; simp [World.cell?,h]
theorem IsQd.fz {w:World} {b:Nat} {r:Rd} (h:IsQd w b r) (i:Nat):w.frozen? ⟨b,i,none⟩ = false:=by
 unfold IsQd at h; simp [World.frozen?,h]
theorem IsQd.lt {w:World} {b:Nat} {r:Rd} (h:IsQd w b r):b < w.heap.size:=(Array.getElem?_eq_some_iff.1 h).1
theorem IsQd.set0 {w:World} {b:Nat} {r:Rd} (h:IsQd w b r) (l:List UInt8):IsQd (w.setCell ⟨b,0,none⟩ (.string ⟨l.toArray⟩)) b ⟨l,r.bad⟩:=by
 unfold IsQd at h ⊢
 rw [heap_set h]; rfl
theorem IsQd.set1 {w:World} {b:Nat} {r:Rd} (h:IsQd w b r) (t:Bool):IsQd (w.setCell ⟨b,1,none⟩ (.bool t)) b ⟨r.rest,t⟩:=by
 unfold IsQd at h ⊢
 rw [heap_set h]; rfl
theorem IsQd.below {w w':World} {b:Nat} {r:Rd} (h:IsQd w b r) {B:Nat} (hb:Below B w w') (hB:b < B):IsQd w' b r:=by
 unfold IsQd at h ⊢
 rw [hb.block _ hB]; exact h
theorem wrap_range (x:Int):InR (IntKind.i64.wrap x):=by
 unfold IntKind.wrap InR
 simp only [IntKind.bits,IntKind.signed]
 simp
 omega
def numL (l:List UInt8):Nat:=l.foldl (fun a c=>10 * a + (c.toNat - 48)) 0
theorem numL_snoc (l:List UInt8) (c:UInt8):numL (l ++ [c]) = 10 * numL l + (c.toNat - 48):=by simp [numL]
theorem numL_dec (u:Nat):numL (decDigits u) = u:=by
 induction u using Nat.strongRecOn with
 | ind u ih=>
  rw [decDigits]
  split
  ·rename_i h
   have:=digit_toNat u h
   simp only [numL,List.foldl_cons,List.foldl_nil,this]
   omega
  ·rename_i h
   rw [numL_snoc,ih (u / 10) (by omega),digit_toNat _ (by omega)]
   omega
theorem numL_mono (l:List UInt8) (k:Nat):numL (l.take k) ≤ numL l:=by
 have key:∀ (m:List UInt8) (a:Nat),a ≤ m.foldl (fun a c=>10 * a + (c.toNat - 48)) a:=by
  intro m
  induction m with
  | nil=>intro a; simp
  | cons c m ih=>
   intro a
   simp only [List.foldl_cons]
   have:=ih (10 * a + (c.toNat - 48))
   omega
 conv=>rhs; rw [← List.take_append_drop k l]
 unfold numL
 rw [List.foldl_append]
 exact key _ _
theorem itoa_head (m:Int):(itoa m).head? = some 45 ↔ m < 0:=by
 by_cases h:m < 0
 ·simp [itoa_neg m h,h]
 ·simp only [h,iff_false]
  rw [itoa_pos m h]
  intro e
  have:(45:UInt8) ∈ decDigits m.natAbs:=by
   cases hd:decDigits m.natAbs with
   | nil=>rw [hd] at e; cases e
   | cons c r=>rw [hd] at e; simp at e; rw [e]; simp
  have:=decDigits_digit _ _ this
  simp at this
def sgn (s:List UInt8):Nat:=if s.head? = some 45 then 1 else 0
theorem itoa_drop (m:Int):(itoa m).drop (sgn (itoa m)) = decDigits m.natAbs:=by
 unfold sgn
 by_cases h:m < 0
 ·rw [if_pos ((itoa_head m).2 h),itoa_neg m h]; rfl
 ·rw [if_neg (fun e=>h ((itoa_head m).1 e)),itoa_pos m h]; rfl
theorem canon_none (s:List UInt8) (h:∀ m,InR m → s ≠ itoa m):canon s = none:=by
 cases hc:canon s with
 | none=>rfl
 | some m=>exact absurd (canon_some s m hc).1 (h m (canon_some s m hc).2)
set_option maxHeartbeats 1600000 in
theorem backInt_ok (s:List UInt8) (hs:s.length < 2^40) {K:Value → World → Prop} {w:World} (k:∀ v w',Below w.heap.size w w' → (∀ n,canon s = some n → v = n) → K (.tuple #[.int .i64 v,.bool (canon s).isSome]) w'):callM Tryz.prog 215 #[.string ⟨s.toArray⟩] K w:=by
 apply sh_215_ok
 unfold sh_215
 have hsg:sgn s ≤ 1:=by unfold sgn; split <;> omega
 refine ⟨fun l w'=>SameW w w' ∧ l = [.int .i64 (sgn s)],?_,?_⟩
 ·cases s with
  | nil=>
   refine Xc0 ?_
   exact ⟨rfl,rfl⟩
  | cons c r=>
   have hc:(c :: r).getD 0 0 = c:=rfl
   repeat (any_goals (first
   | (with_reducible first|refine pureM_in ?_|refine zA ?_|refine yB ?_|((refine idCond ?_); refine yP (fun hg=>?_) fun hg=>?_))
   | ((with_reducible refine oM_gen fun Kv hK=>?_); simp [go_sem]; refine hK _ _ ?_; clear hK Kv)))
   ·refine ⟨rfl,?_⟩
    have:c = 45:=UInt8.toNat_inj.1 (by simp; omega)
    rw [this]; rfl
   ·refine ⟨rfl,?_⟩
    have:c ≠ 45:=fun e=>by subst e; simp at hg
    simp [sgn,this]
   all_goals (simp only [List.length_cons] at *; omega)
 rintro _ _ _ ⟨rfl,rfl⟩
 simp only [List.getD_cons_zero]
 obtain ⟨a,ha⟩:∃ a,a = sgn s:=⟨_,rfl⟩
 rw [← ha] at hsg ⊢
 refine ⟨fun l w'=>SameW w w' ∧ ∃ (n:Int) (i:Nat),l = [.int .i64 0,.bool false,.int .i64 n,.int .i64 i] ∧ a ≤ i ∧ (i ≤ s.length ∨ i = a) ∧ InR n ∧ ∀ m,InR m → s = itoa m → n = -(numL ((s.drop a).take (i - a)):Int),fun l _=>s.length - (match l with | [_,_,_,.int _ n]=>n.toNat | _=>0),⟨rfl,0,a,rfl,by omega,.inr rfl,⟨by omega,by omega⟩,fun m _ _=>by simp [numL]⟩,?_⟩
 rintro _ _ _ ⟨rfl,n,i,rfl,hai,hil,hn,hinv⟩
 simp only [List.getD_cons_zero,List.getD_cons_succ]
 by_cases hlt:i < s.length
 ·obtain ⟨c,hc⟩:∃ c,c = s[i]:=⟨_,rfl⟩
  have hbyte:s[i]?.getD 0 = c:=by rw [List.getElem?_eq_getElem hlt,hc]; rfl
  have hfacts:∀ m,InR m → s = itoa m → 48 ≤ c.toNat ∧ c.toNat ≤ 57 ∧ i ≤ 20:=by
   intro m hm e
   have h1:=itoa_len m hm
   rw [← e] at h1
   have h2:c ∈ decDigits m.natAbs:=by
    rw [← itoa_drop m,← e,← ha,hc]
    rw [List.mem_iff_getElem]
    exact ⟨i - a,by rw [List.length_drop]; omega,by rw [List.getElem_drop]; congr 1; omega⟩
   have h3:=decDigits_digit _ c h2
   omega
  have hstep:∀ m,InR m → s = itoa m → ((s.drop a).take (i + 1 - a)) = ((s.drop a).take (i - a)) ++ [c]:=by
   intro m hm e
   have:i + 1 - a = (i - a) + 1:=by omega
   rw [this,List.take_add_one,List.getElem?_drop]
   have e2:a + (i - a) = i:=by omega
   rw [e2,List.getElem?_eq_getElem hlt,← hc]; rfl
  obtain ⟨hn1,hn2⟩:=hn
  have bad:(∀ m,InR m → s ≠ itoa m) → K (.tuple #[.int .i64 0,.bool false]) w:=by
   intro h
   have h1:=canon_none s h
   have:=k 0 w (Below.refl _ _) (fun n e=>by rw [h1] at e; cases e)
   rw [h1] at this
   exact this
  repeat (any_goals (first
  | (with_reducible first|refine pureM_in ?_|((refine idGd ?_); first|refine zD ?_|((refine idGdD ?_); first|refine zI ?_|refine zJ ?_|refine zK (fun hg=>?_) fun hg=>?_))|((refine idPick ?_); first|refine yB ?_|refine yD ?_|refine yE ?_)|((refine idCond ?_); first|refine yL ?_|refine yN ?_|refine yP (fun hg=>?_) fun hg=>?_))
  | ((with_reducible refine oM_gen fun Kv hK=>?_); simp [go_sem,hbyte]; (try simp (disch:=omega) only [wrapI64,wrapU8,wrapU32,wrapU64]); (first|refine hK _ _ ?_|refine And.intro (by omega) (hK _ _ ?_)); clear hK Kv)))
  ·exact bad (fun m hm e=>by have:=hfacts m hm e; omega)
  ·exact bad (fun m hm e=>by have:=hfacts m hm e; omega)
  ·exact bad (fun m hm e=>by have:=hfacts m hm e; omega)
  ·refine ⟨⟨rfl,_,i + 1,rfl,by omega,.inl hlt,wrap_range _,fun m hm e=>?_⟩,by simp; omega⟩
   have hnum:=hinv m hm e
   have hst:=hstep m hm e
   have hmono:=numL_mono (s.drop a) (i + 1 - a)
   have htot:numL (s.drop a) = m.natAbs:=by
    have h0:s.drop (sgn s) = (itoa m).drop (sgn (itoa m)):=by rw [← e]
    rw [ha,h0,itoa_drop m,numL_dec]
   rw [hst,numL_snoc] at hmono ⊢
   obtain ⟨hm1,hm2⟩:=hm
   rw [htot] at hmono
   generalize numL ((s.drop a).take (i - a)) = A at *
   rw [hnum]
   have hc1:((c.toNat - 48:Nat):Int) = (c.toNat:Int) - 48:=by omega
   rw [wrapI64 (10 * -(A:Int)) (by omega) (by omega),wrapI64 _ (by omega) (by omega)]
   omega
 ·have hfin:∀ m,InR m → s = itoa m → n = -(m.natAbs:Int):=by
   intro m hm e
   have:=hinv m hm e
   have htk:(s.drop a).take (i - a) = s.drop a:=List.take_of_length_le (by rw [List.length_drop]; omega)
   have htot:numL (s.drop a) = m.natAbs:=by
    have h0:s.drop (sgn s) = (itoa m).drop (sgn (itoa m)):=by rw [← e]
    rw [ha,h0,itoa_drop m,numL_dec]
   rw [htk,htot] at this
   exact this
  refine Xc0 ?_
  refine ⟨fun l w'=>SameW w w' ∧ ∃ v,l = [.int .i64 v] ∧ InR v ∧ ∀ m,InR m → s = itoa m → v = m,?_,?_⟩
  ·have hsm:∀ m,s = itoa m → (a = 1 ↔ m < 0):=by
    intro m e
    rw [ha,← itoa_head m,← e]
    unfold sgn
    split <;> simp_all
   repeat (any_goals (first
   | (with_reducible ((refine idCond ?_); refine yP (fun hg=>?_) fun hg=>?_))
   | ((with_reducible refine oM_gen fun Kv hK=>?_); simp [go_sem]; refine hK _ _ ?_; clear hK Kv)))
   ·refine ⟨rfl,_,rfl,wrap_range _,fun m hm e=>?_⟩
    have h1:=hfin m hm e
    have h2:=hsm m e
    obtain ⟨hm1,hm2⟩:=hm
    rw [wrapI64 _ (by omega) (by omega)]
    omega
   ·refine ⟨rfl,_,rfl,hn,fun m hm e=>?_⟩
    have h1:=hfin m hm e
    have h2:=hsm m e
    omega
  ·rintro _ _ _ ⟨rfl,v,rfl,hv,hvm⟩
   simp only [List.getD_cons_zero]
   refine qInt_ok v hv ?_
   intro w1 hb
   have hcan:(canon s).isSome = decide (encInt v = s ++ [59]):=by
    rw [Bool.eq_iff_iff,decide_eq_true_eq]
    unfold encInt
    rw [List.append_left_inj]
    constructor
    ·intro h
     obtain ⟨m,hm⟩:=Option.isSome_iff_exists.1 h
     obtain ⟨h1,h2⟩:=canon_some s m hm
     rw [hvm m h2 h1,← h1]
    ·intro h
     rw [← h,canon_itoa v hv]; rfl
   refine Xc0 ?_
   have:=k v w1 hb (fun m e=>by
    obtain ⟨h1,h2⟩:=canon_some s m e
    exact hvm m h2 h1)
   rw [hcan] at this
   exact this
end Go.Proofs.Cd
namespace Go.Proofs.Cd
open Go Go.Sh Go.RowKit Go.Lib CodeSpec
theorem qfail_ok (b:Nat) (r:Rd) {K:Value → World → Prop} {w:World} (hr:IsQd w b r) (k:∀ w',IsQd w' b failed → w.grownBy w' (some b) → K (.int .i64 0) w'):callM Tryz.prog 193 #[.pointer (some ⟨b,0,none⟩)] K w:=by
 apply sh_193_ok
 unfold sh_193
 have h0:=hr.c0
 have f0:=hr.fz 0
 have hr1:=hr.set0 []
 have f1:=hr1.fz 1
 have h1:=hr1.c1
 refine Xg (An4 @h0 @f0 @h1 @f1) ?_
 exact k _ (hr1.set1 true) (grownBy_trans (grown_set _ _ _ _) (grown_set _ _ _ _))
theorem twl_stop (l:List UInt8) (c:UInt8) (n:Nat) (hn:n ≤ l.length) (h1:∀ j,j < n → l[j]?.getD 0 ≠ c) (h2:n < l.length → l[n]?.getD 0 = c):l.takeWhile (· != c) = l.take n:=by
 induction l generalizing n with
 | nil=>simp at hn; subst hn; rfl
 | cons x l ih=>
  cases n with
  | zero=>
   have:=h2 (by simp)
   simp at this
   simp [this]
  | succ n=>
   have h0:=h1 0 (by omega)
   simp at h0
   have:=ih n (by simpa using hn) (fun j hj=>by have:=h1 (j + 1) (by omega); simpa using this) (fun h=>by have:=h2 (by simpa using h); simpa using this)
   simp [h0,this]
def minI:Int:=-9223372036854775808
theorem rdNumber_zero (r:Rd) (e:UInt8):rdNumber r e 0 = if (rdNumber r e minI).1 < 0 then (0,failed) else rdNumber r e minI:=by
 unfold rdNumber
 split
 ·cases hc:canon ((r.rest.take 21).takeWhile (· != e)) with
  | none=>simp
  | some n=>
   have h:=canon_some _ _ hc
   obtain ⟨h1,h2⟩:=h.2
   simp only
   rw [if_neg (show ¬ n < minI by unfold minI; omega)]
 ·simp
set_option maxHeartbeats 1600000 in
theorem ahead_ok (b:Nat) (r:Rd) (e:UInt8) {K:Value → World → Prop} {w:World} (hlen:r.rest.length < 2^60) (hr:IsQd w b r) (k:∀ w',IsQd w' b (rdNumber r e minI).2 → w.grownBy w' (some b) → K (.int .i64 (rdNumber r e minI).1) w'):callM Tryz.prog 192 #[.pointer (some ⟨b,0,none⟩),.int .u8 e.toNat] K w:=by
 apply sh_192_ok
 unfold sh_192
 have h0:=hr.c0
 have f0:=hr.fz 0
 refine ⟨fun l w'=>w = w' ∧ ∃ (n:Nat),l = [.int .i64 n] ∧ n ≤ r.rest.length ∧ n ≤ 21 ∧ ∀ j,j < n → r.rest[j]?.getD 0 ≠ e,fun l _=>r.rest.length - (match l with | [.int _ n]=>n.toNat | _=>0),⟨rfl,0,rfl,by omega,by omega,fun j hj=>by omega⟩,?_⟩
 rintro _ _ _ ⟨rfl,n,rfl,hn,hn21,hne⟩
 simp only [List.getD_cons_zero]
 obtain ⟨q,hq⟩:∃ q,q = r.rest.take 21:=⟨_,rfl⟩
 have hql:q.length = min 21 r.rest.length:=by rw [hq,List.length_take]
 have hqj:∀ j,j < 21 → q[j]? = r.rest[j]?:=fun j hj=>by rw [hq,List.getElem?_take_of_lt hj]
 have hnum:rdNumber r e minI = if (q.takeWhile (· != e)).length < q.length then (match canon (q.takeWhile (· != e)) with | some n=>if n < minI then (0,failed) else (n,⟨r.rest.drop ((q.takeWhile (· != e)).length + 1),r.bad⟩) | none=>(0,failed)) else (0,failed):=by rw [hq]; rfl
 have fin:∀ w2,Below w.heap.size w w2 → rdNumber r e minI = (0,failed) → callM Tryz.prog 193 #[.pointer (some ⟨b,0,none⟩)] (fun v w=>K v w) w2:=by
  intro w2 hb2 hn
  refine qfail_ok b _ (hr.below hb2 hr.lt) ?_
  intro w3 hr3 hg3
  have:=k w3 (by rw [hn]; exact hr3) (grownBy_trans (grown_of_below hb2 _) hg3)
  rw [hn] at this
  exact this
 obtain ⟨c,hc⟩:∃ c,c = r.rest[n]?.getD 0:=⟨_,rfl⟩
 have hall:(n = r.rest.length ∨ n = 21) → (q.takeWhile (· != e)) = q:=by
  intro h
  have h1:q.takeWhile (· != e) = q.take q.length:=twl_stop q e q.length (Nat.le_refl _) (fun j hj=>by rw [hqj j (by omega)]; exact hne j (by omega)) (fun h=>by omega)
  rw [h1,List.take_length]
 have hpre:n < 21 → n < r.rest.length → c = e → q.takeWhile (· != e) = r.rest.take n:=by
  intro h21 hlt hce
  have h1:q.takeWhile (· != e) = q.take n:=twl_stop q e n (by omega) (fun j hj=>by rw [hqj j (by omega)]; exact hne j hj) (fun h=>by rw [hqj n h21,← hc]; exact hce)
  rw [h1,hq,List.take_take,Nat.min_eq_left (by omega)]
 have hfull:(n = r.rest.length ∨ n = 21) → rdNumber r e minI = (0,failed):=by
  intro h
  rw [hnum,hall h,if_neg (by omega)]
 have hcanon:∀ p:List UInt8,p.length = 21 → canon p = none:=by
  intro p hp
  cases hcp:canon p with
  | none=>rfl
  | some m=>
   obtain ⟨h1,h2⟩:=canon_some _ _ hcp
   have:=itoa_len m h2
   rw [← h1] at this
   omega
 have hlast:∀ v w1,Below w.heap.size w w1 → n < r.rest.length → c = e → (∀ m,canon (r.rest.take n) = some m → v = m) →
   condM (.bool (!(canon (r.rest.take n)).isSome)) (callM Tryz.prog 193 #[.pointer (some ⟨b,0,none⟩)] (fun v w=>K v w) w1)
    (∀ w2,IsQd w2 b ⟨r.rest.drop (n + 1),r.bad⟩ → w1.grownBy w2 (some b) → K (.int .i64 v) w2):=by
  intro v w1 hb1 hlt hce hv
  have hlen:(r.rest.take n).length = n:=by rw [List.length_take]; omega
  cases hcan:canon (r.rest.take n) with
  | none=>
   refine condM_b (fun _=>?_) (fun h=>by cases h)
   refine fin _ hb1 ?_
   by_cases h21:n < 21
   ·rw [hnum,hpre h21 hlt hce,if_pos (by omega),hcan]
   ·exact hfull (.inr (by omega))
  | some m=>
   refine condM_b (fun h=>by cases h) (fun _=>?_)
   have h21:n < 21:=by
    rcases Nat.lt_or_ge n 21 with h | h
    ·exact h
    ·have:=hcanon (r.rest.take n) (by omega)
     rw [this] at hcan; cases hcan
   have hm:=canon_some _ _ hcan
   obtain ⟨hm1,hm2⟩:=hm.2
   have hv:=hv m hcan
   rw [hpre h21 hlt hce,if_pos (by omega),hcan,hlen] at hnum
   simp only at hnum
   rw [if_neg (show ¬ m < minI by unfold minI; omega)] at hnum
   intro w2 hr2 hg2
   have:=k w2 (by rw [hnum]; exact hr2) (grownBy_trans (grown_of_below hb1 _) hg2)
   rw [hnum] at this
   rw [hv]
   exact this
 have hcn:r.rest[n]?.getD 0 = c:=hc.symm
 clear hc
 by_cases hlt:n < r.rest.length
 ·by_cases hce:c = e
  ·have hce':(c.toNat:Int) = e.toNat:=by rw [hce]
   have rest:∀ (F:Value → World → Prop),(∀ v w1,Below w.heap.size w w1 → (∀ m,canon (r.rest.take n) = some m → v = m) → F (.tuple #[.int .i64 v,.bool (canon (r.rest.take n)).isSome]) w1) → callM Tryz.prog 215 #[.string ⟨(r.rest.take n).toArray⟩] F w:=
    fun F h=>backInt_ok (r.rest.take n) (by rw [List.length_take]; omega) (fun v w' hb hv=>h v w' hb hv)
   have tail:∀ v w1,Below w.heap.size w w1 → (∀ m,canon (r.rest.take n) = some m → v = m) → w1.cell? ⟨b,0,none⟩ = some (.string ⟨r.rest.toArray⟩) ∧ w1.frozen? ⟨b,0,none⟩ = false:=by
    intro v w1 hb1 _
    have hr1:=hr.below hb1 hr.lt
    exact ⟨hr1.c0,hr1.fz 0⟩
   by_cases h21:n < 21
   all_goals
    refine Xg (An2 @h0 @hcn) ?_
    refine rest _ (fun v w1 hb1 hv=>?_)
    obtain ⟨h1,f1⟩:=tail v w1 hb1 hv
    have hr1:=hr.below hb1 hr.lt
    have hl:=hlast v w1 hb1 hlt hce hv
    generalize (canon (r.rest.take n)).isSome = t at hl ⊢
    obtain ⟨u,hu,ht,hf⟩:=hl
    cases hu
    cases t with
    | true=>
     refine Xg (An2 @h1 @f1) ?_
     exact hf rfl _ (hr1.set0 _) (grown_set _ _ _ _)
    | false=>
     refine Xc0 ?_
     exact ht rfl
  ·have hce':¬ (c.toNat:Int) = e.toNat:=fun h=>hce (UInt8.toNat_inj.1 (by omega))
   by_cases h21:n < 21
   ·refine Xg (An2 @h0 @hcn) ?_
    refine ⟨⟨rfl,n + 1,rfl,by omega,by omega,fun j hj=>?_⟩,by simp; omega⟩
    by_cases e2:j = n
    ·rw [e2,hcn]; exact hce
    ·exact hne j (by omega)
   ·repeat (any_goals (first
    | (with_reducible refine fin _ (Below.refl _ _) (hfull (.inr (by omega))))
    | (with_reducible first|refine pureM_in ?_|((refine idGd ?_); ((refine idGdD ?_); first|refine zF ?_|refine zG ?_))|((refine idPick ?_); first|refine yD ?_|refine yE ?_)|((refine idCond ?_); first|refine yM ?_|refine yO ?_|refine yQ ?_))
    | ((with_reducible refine oM_gen fun Kv hK=>?_); simp [go_sem,h0,hcn]; (first|refine hK _ _ ?_|refine And.intro (by omega) (hK _ _ ?_)); clear hK Kv)))
 ·repeat (any_goals (first
  | (with_reducible refine fin _ (Below.refl _ _) (hfull (.inl (by omega))))
  | (with_reducible first|((refine idGd ?_); first|refine zB ?_|((refine idGdD ?_); refine zG ?_))|((refine idPick ?_); first|refine yC ?_|refine yE ?_)|((refine idCond ?_); first|refine yM ?_|refine yN ?_))
  | ((with_reducible refine oM_gen fun Kv hK=>?_); simp [go_sem,h0]; refine hK _ _ ?_; clear hK Kv)))
theorem qnumber_ok (b:Nat) (r:Rd) (e:UInt8) {K:Value → World → Prop} {w:World} (hlen:r.rest.length < 2^60) (hr:IsQd w b r) (k:∀ w',IsQd w' b (rdNumber r e 0).2 → w.grownBy w' (some b) → K (.int .i64 (rdNumber r e 0).1) w'):callM Tryz.prog 160 #[.pointer (some ⟨b,0,none⟩),.int .u8 e.toNat] K w:=by
 apply sh_160_ok
 unfold sh_160
 refine ahead_ok b r e hlen hr ?_
 intro w1 hr1 hg1
 rw [rdNumber_zero] at k
 generalize rdNumber r e minI = x at *
 obtain ⟨n,r1⟩:=x
 simp only at *
 by_cases hn:n < 0
 ·rw [if_pos hn] at k
  refine Xc0 ?_
  refine qfail_ok b _ hr1 ?_
  intro w2 hr2 hg2
  exact k w2 hr2 (grownBy_trans hg1 hg2)
 ·rw [if_neg hn] at k
  refine Xc0 ?_
  exact k w1 hr1 hg1
end Go.Proofs.Cd
namespace Go.Proofs.Cd
open Go Go.Sh Go.RowKit Go.Lib CodeSpec
theorem qint_ok (b:Nat) (r:Rd) {K:Value → World → Prop} {w:World} (hlen:r.rest.length < 2^60) (hr:IsQd w b r) (k:∀ w',IsQd w' b (rdInt r).2 → w.grownBy w' (some b) → K (.int .i64 (rdInt r).1) w'):callM Tryz.prog 161 #[.pointer (some ⟨b,0,none⟩)] K w:=by
 apply sh_161_ok
 unfold sh_161
 exact ahead_ok b r 59 hlen hr k
theorem qclose_ok (b:Nat) (r:Rd) (c:UInt8) {K:Value → World → Prop} {w:World} (hlen:r.rest.length < 2^60) (hr:IsQd w b r) (k:∀ w',IsQd w' b (rdClose r c) → w.grownBy w' (some b) → K (.bool (decide (r.rest.head? = some c))) w'):callM Tryz.prog 162 #[.pointer (some ⟨b,0,none⟩),.int .u8 c.toNat] K w:=by
 apply sh_162_ok
 unfold sh_162
 have h0:=hr.c0
 have f0:=hr.fz 0
 cases hrest:r.rest with
 | nil=>
  rw [hrest] at h0 k hlen
  refine Xg @h0 ?_
  refine qfail_ok b r hr ?_
  intro w1 hr1 hg1
  have e:rdClose r c = failed:=by unfold rdClose; rw [hrest]
  exact K_eq (k w1 (by rw [e]; exact hr1) hg1) (by simp)
 | cons x t=>
  rw [hrest] at h0 k hlen
  simp only [List.length_cons] at hlen
  have hx:(x :: t)[0]?.getD 0 = x:=rfl
  have htl:List.take t.length t = t:=List.take_length
  by_cases hc:x = c
  ·have hc':(x.toNat:Int) = c.toNat:=by rw [hc]
   refine Xg (An4 @h0 @f0 @hx @htl) ?_
   have e:rdClose r c = ⟨t,r.bad⟩:=by unfold rdClose; rw [hrest]; simp [hc]
   exact K_eq (k _ (by rw [e]; exact hr.set0 t) (grown_set _ _ _ _)) (by simp [hc])
  ·have hc':¬ (x.toNat:Int) = c.toNat:=fun h=>hc (UInt8.toNat_inj.1 (by omega))
   refine Xg (An4 @h0 @f0 @hx @htl) ?_
   refine qfail_ok b r hr ?_
   intro w1 hr1 hg1
   have e:rdClose r c = failed:=by unfold rdClose; rw [hrest]; simp [hc]
   exact K_eq (k w1 (by rw [e]; exact hr1) hg1) (by simp [hc])
theorem rdClose_eq (r:Rd) (c:UInt8):rdClose r c = if r.rest.head? = some c then ⟨r.rest.drop 1,r.bad⟩ else failed:=by
 unfold rdClose
 cases r.rest with
 | nil=>simp
 | cons x t=>simp
theorem qopen_ok (s:List UInt8) {K:Value → World → Prop} {w:World} (k:∀ w',IsQd w' w.heap.size ⟨s,false⟩ → Below w.heap.size w w' → K (.pointer (some ⟨w.heap.size,0,none⟩)) w'):callM Tryz.prog 113 #[.string ⟨s.toArray⟩] K w:=by
 apply sh_113_ok
 unfold sh_113
 refine Xc0 ?_
 exact k _ (by unfold IsQd; exact heap_alloc_new _ _) ((Below.refl _ _).alloc (Nat.le_refl _) _)
theorem qdone_ok (b:Nat) (r:Rd) {K:Value → World → Prop} {w:World} (hr:IsQd w b r) (k:K (.bool (rdDone r)) w):callM Tryz.prog 115 #[.pointer (some ⟨b,0,none⟩)] K w:=by
 apply sh_115_ok
 unfold sh_115
 have h0:=hr.c0
 have h1:=hr.c1
 repeat (any_goals (first
 | (with_reducible first|refine pureM_in ?_|((refine idGd ?_); first|refine zV ?_|refine zW ?_|refine zX (fun hg=>?_) fun hg=>?_)|((refine idPick ?_); first|refine yJ ?_|refine yK ?_))
 | ((with_reducible refine oM_gen fun Kv hK=>?_); simp [go_sem,h0,h1]; refine hK _ _ ?_; clear hK Kv)))
 ·exact K_eq k (by unfold rdDone; rw [hg]; simp)
 ·exact K_eq k (by unfold rdDone; rw [hg]; simp)
theorem IsQd.own {w2 w3:World} {b B:Nat} {e:TypeId} {sz n:Nat} {v:Value} {xs:List Value} {r:Rd} (h:IsQd w2 b r) (hown:w2.ownsRow B e sz v n xs) (hB:b < B) (hg:w2.grownBy w3 v.ownBlock):IsQd w3 b r:=by
 have hlt:=h.lt
 unfold IsQd at h ⊢
 rw [hg.block b hlt (fun e=>by have:=(hown.lt b e.symm).1; omega)]
 exact h
set_option maxHeartbeats 1600000 in
theorem qNums_ok2 (b:Nat) (r:Rd) {K:Value → World → Prop} {w:World} (hlen:r.rest.length < 2^40) (hok:r.ok) (hr:IsQd w b r)
  (k:∀ v w',IsQd w' b (rdNums r).2 → w.grownBy w' (some b) → w'.ownsRow w.heap.size 3 1 v (rdNums r).1.length ((rdNums r).1.map intV) → K v w'):callM Tryz.prog 114 #[.pointer (some ⟨b,0,none⟩)] K w:=by
 apply sh_114_ok
 unfold sh_114
 refine qnumber_ok b r 91 (by omega) hr ?_
 intro w1 hr1 hg1
 have hle:=rest_le r 91 0
 have hok1:=rdNumber_ok r hok 91 0
 have hnum:rdNums r = if (rdClose (itemsGo rdInt (rdNumber r 91 0).1.toNat (rdNumber r 91 0).2).2 93).bad then ([],rdClose (itemsGo rdInt (rdNumber r 91 0).1.toNat (rdNumber r 91 0).2).2 93)
  else ((itemsGo rdInt (rdNumber r 91 0).1.toNat (rdNumber r 91 0).2).1,rdClose (itemsGo rdInt (rdNumber r 91 0).1.toNat (rdNumber r 91 0).2).2 93):=rfl
 have hnr:InR (rdNumber r 91 0).1:=by
  rcases rdNumber_some r 91 0 with h | ⟨n,t,h,_,h3,_⟩
  ·rw [h]; exact ⟨by simp,by simp⟩
  ·rw [h]; exact h3
 generalize (rdNumber r 91 0).2 = r1 at *
 generalize (rdNumber r 91 0).1 = n at *
 have hbw:=hr.lt
 obtain ⟨hn1,hn2⟩:=hnr
 refine ⟨fun l w'=>∃ (v:Value) (j:Int) (r':Rd) (xs:List (Int)),l = [v,.int .i64 j] ∧ 0 ≤ j ∧ (j ≤ n ∨ j = 0) ∧ IsQd w' b r' ∧ r'.ok ∧ w.grownBy w' (some b) ∧ w'.ownsRow w.heap.size 3 1 v xs.length (xs.map intV) ∧
  itemsGo rdInt n.toNat r1 = (xs ++ (itemsGo rdInt (n - j).toNat r').1,(itemsGo rdInt (n - j).toNat r').2) ∧ (xs.length + r'.rest.length ≤ r1.rest.length + 1) ∧ (r'.bad = false → xs.length + r'.rest.length ≤ r1.rest.length),fun l _=>(match l with | [_,.int _ j]=>(n - j).toNat | _=>0),
  ⟨_,0,r1,[],rfl,by omega,.inr rfl,hr1,hok1,hg1,World.ownsRow_nil _ _ _ _,by simp,(by simp only [List.length_nil]; omega),by simp⟩,?_⟩
 rintro _ _ w2 ⟨v,j,r',xs,rfl,hj1,hj2,hr2,hok2,hg2,hown,hgo,hlx,hlx2⟩
 simp only [List.getD_cons_zero,List.getD_cons_succ]
 have h2:=hr2.c1
 by_cases hrun:j < n ∧ r'.bad = false
 ·obtain ⟨hj,hbad⟩:=hrun
  rw [hbad] at h2
  have hlx2:=hlx2 hbad
  refine Xg @h2 ?_
  refine qint_ok b r' (by omega) hr2 ?_
  intro w3 hr3 hg3
  have hown3:=owns_rd hown hbw hg3
  have hg03:=grownBy_trans hg2 hg3
  have hz3:=hg03.size
  have hless:=rdNum_less r' hok2 hbad
  obtain ⟨j',hj'⟩:∃ j':Nat,(n - j).toNat = j' + 1:=⟨(n - j).toNat - 1,by omega⟩
  have hjj:(n - (j + 1)).toNat = j':=by omega
  rw [hj',itemsGo_step _ _ _ hbad] at hgo
  have hok3:(rdInt r').2.ok:=by
   rcases hless with h | ⟨_,h⟩
   ·rw [h]; exact Rd.ok_failed
   ·intro e; rw [h] at e; cases e
  have hby:(xs.length + 1) * Tryz.t3.bytes ≤ 140737488355328:=by
   have:Tryz.t3.bytes = 8:=by kernel_rfl
   rw [this]
   omega
  refine Xc0 ?_
  refine oM_append_new (base:=w.heap.size) (n:=xs.length) (xs:=xs.map intV) (i:=Tryz.t3) (z:=.int .i64 0) (cs:=#[intV (rdInt r').1]) Tryz.underlying22 (by kernel_rfl) (by kernel_rfl) rfl rfl (by simp) (by simp [Value.oneCell',intV]) hown3 (by omega) (by unfold maxLen; omega) hby ?_
  intro v' w4 ho4 hg4
  refine Xc0 ?_
  refine ⟨⟨v',j + 1,(rdInt r').2,xs ++ [(rdInt r').1],rfl,by omega,.inl (by omega),hr3.own hown3 hbw hg4,hok3,grown_own hg03 hown3 (Nat.le_refl _) hg4,by simpa using ho4,?_,?_,?_⟩,by simp; omega⟩
  ·rw [hjj,hgo]; simp
  ·rcases hless with h | ⟨h,_⟩
   ·rw [h,List.length_append]; simp [failed]; omega
   ·rw [List.length_append]; simp; omega
  ·intro hb
   rcases hless with h | ⟨h,_⟩
   ·rw [h] at hb; cases hb
   ·rw [List.length_append]; simp; omega
 ·have hstop:=itemsGo_stop rdInt (n - j).toNat r' (by
   cases hb:r'.bad with
   | true=>right; rfl
   | false=>left; have:¬ j < n:=fun h=>hrun ⟨h,hb⟩; omega)
  rw [hstop,List.append_nil] at hgo
  rw [hgo] at hnum
  cases hbad:r'.bad with
  | true=>
   have hf:=Rd.eq_failed hok2 hbad
   rw [hbad] at h2
   rw [hf,rdClose_failed,if_pos failed_bad] at hnum
   rw [hf] at hr2
   have hdone:=k (.slice none 0 0) w2 (by rw [hnum]; exact hr2) hg2 (by rw [hnum]; exact World.ownsRow_nil _ _ _ _)
   by_cases hj:j < n
   ·refine Xg @h2 ?_
    exact hdone
   ·refine Xg @h2 ?_
    exact hdone
  | false=>
   have hj:¬ j < n:=fun h=>hrun ⟨h,hbad⟩
   rw [hbad] at h2
   refine Xg @h2 ?_
   refine qclose_ok b r' 93 (by omega) hr2 ?_
   intro w3 hr3 hg3
   have hg03:=grownBy_trans hg2 hg3
   have hce:=rdClose_eq r' 93
   by_cases hh:r'.rest.head? = some 93
   ·rw [if_pos hh] at hce
    rw [hce] at hnum hr3
    simp only [hbad] at hnum
    rw [if_neg (by simp)] at hnum
    simp only [hh,decide_true]
    refine Xc0 ?_
    exact k _ w3 (by rw [hnum]; rw [hbad] at hr3; exact hr3) hg03 (by rw [hnum]; exact owns_rd hown hbw hg3)
   ·rw [if_neg hh] at hce
    rw [hce] at hnum hr3
    rw [if_pos failed_bad] at hnum
    simp only [hh,decide_false]
    refine Xc0 ?_
    exact k _ w3 (by rw [hnum]; exact hr3) hg03 (by rw [hnum]; exact World.ownsRow_nil _ _ _ _)
end Go.Proofs.Cd
namespace Go.Proofs
open Go Go.Sh Go.RowKit FdSpec TkSpec CodeSpec
section
variable {K:Value → World → Prop} {w w0:World} {L:List (Addr × Value)}
theorem build_tkt6 (T:TypeId) (a b c d e f:Int):oM Tryz.prog (Go.Op.build 41 #[(0,(.tmp 0)),(1,(.tmp 1)),(2,(.tmp 2)),(3,(.tmp 3)),(4,(.tmp 4)),(5,(.tmp 5))]) T [.int .i64 a,.int .i64 b,.int .i64 c,.int .i64 d,.int .i64 e,.int .i64 f] = pureM (tktV ⟨a,b,c,d,e,f⟩):=by
 funext K w
 kernel_rfl
theorem build_tktz (T:TypeId):oM Tryz.prog (Go.Op.build 41 #[]) T [] = pureM (tktV zTkt):=by
 funext K w
 kernel_rfl
theorem rDecode_ok (s:Bytes) (hs:s.length < 1099511627776) (k:∀ w',Below w.heap.size w w' → K (.tuple #[tktV (decM s).1,.bool (decM s).2]) w'):callM Tryz.prog 49 #[.string ⟨s.toArray⟩] K w:=by
 apply sh_49_ok
 unfold sh_49
 have k2:∀ w' r,decM s = r → Below w.heap.size w w' → K (.tuple #[tktV r.1,.bool r.2]) w':=fun w' r e hb=>by rw [← e]; exact k w' hb
 clear k
 refine alloc_mine (n:=6) al_tkt rfl (.start w) fun g W2 hk hb2 hg=>?_
 have hgW:=mine_lt hk.mine
 refine Cd.qopen_ok s (fun w1 hr1 hb1=>?_)
 have hk1:=hk.next hb1
 refine Cd.qNums_ok2 W2.heap.size _ (by simpa using hs) Rd.ok_good hr1 (fun v w2 hr2 hg2 ho2=>?_)
 have hfr:FrG W2.heap.size w1 w2:=(Fr.refl _ _).by hg2 (fun i e=>.inl (Option.some.inj e).symm)
 have hk2:=hk1.fr hfr (by simp) (by omega) hb2.size
 have hdec:decM s = if (rdNums ⟨s,false⟩).1.length = 6 ∧ Cd.rdDone (rdNums ⟨s,false⟩).2 = true then (ofL (rdNums ⟨s,false⟩).1,true) else (zTkt,false):=rfl
 obtain ⟨⟨vs,r2⟩,hrd⟩:∃ p,rdNums ⟨s,false⟩ = p:=⟨_,rfl⟩
 rw [hrd] at hdec hr2 ho2
 simp only at hdec hr2 ho2
 obtain ⟨vad,vc,rfl⟩:=owns_len ho2
 refine Cd.qdone_ok _ r2 hr2 ?_
 cases hd:Cd.rdDone r2 with
 | false=>
  rw [if_neg (by simp [hd])] at hdec
  refine Xa @build_tktz ?_
  exact store_tkt zTkt hk2 (fun W3 hk hc=>⟨_,by simp [go_sem,hc],k2 _ _ hdec hk.below⟩)
 | true=>
 by_cases h6:vs.length = 6
 rotate_left
 ·have h6':¬ (vs.length:Int) = 6:=by omega
  rw [if_neg (by simp [h6])] at hdec
  refine Xa (An2 @h6' @build_tktz) ?_
  exact store_tkt zTkt hk2 (fun W3 hk hc=>⟨_,by simp [go_sem,hc],k2 _ _ hdec hk.below⟩)
 have h6':(vs.length:Int) = 6:=by omega
 rw [if_pos ⟨h6,hd⟩] at hdec
 obtain ⟨g',cap,cur,hve,hlt,hB,_,_,_,hcell⟩:=owns_cells ho2 (by omega)
 cases hve
 match vs,h6,hcell,hdec with
 | [a,b,c,d,e,f],_,hcell,hdec=>
  have hdec:decM s = (⟨a,b,c,d,e,f⟩,true):=hdec
  have q0:=hcell 0 _ rfl
  have q1:=hcell 1 _ rfl
  have q2:=hcell 2 _ rfl
  have q3:=hcell 3 _ rfl
  have q4:=hcell 4 _ rfl
  have q5:=hcell 5 _ rfl
  have s1:=hb1.size
  have hne:g' ≠ g:=by omega
  have hk:=(((((hk2.add1 q5 hne).add1 q4 hne).add1 q3 hne).add1 q2 hne).add1 q1 hne).add1 q0 hne
  simp only [Cd.intV] at hk
  refine Xa0 ?_
  have hk:=hk.drew
  refine ⟨Nx { w2 with drawn:=w2.drawn + 1 },Below.refl _ _,rfl,?_⟩
  generalize ({ w2 with drawn:=w2.drawn + 1 }:World) = W at hk ⊢
  refine Xc (fun W0 hW0=>(hk.next hW0).cells) ?_
  refine ⟨Nx,fun w3 h=>?_⟩
  have hk:=hk.next h
  refine Xa @build_tkt6 ?_
  exact store_tkt ⟨a,b,c,d,e,f⟩ hk (fun W3 hk hc=>⟨_,by simp [go_sem,hc],k2 _ _ hdec hk.below⟩)
end
end Go.Proofs
namespace Go.Proofs
open Go.Sh Tryz
end Go.Proofs
namespace Go.Proofs
open Go Go.Sh Go.RowKit FdSpec TkSpec CodeSpec
section
variable {K:Value → World → Prop} {w w0:World} {L:List (Addr × Value)}
def fewM (s:Stp) (ns:List Nat):Bool:=ns.all (fun n=>decide (n ≤ 9)) && decide (s.bases.length ≤ 9)
def FwJ (w:World) (L:List (Addr × Value)) (R:Bool) (ns:List Nat):List Value → World → Prop:=fun l w'=>Kn w L w' ∧ ∃ u i,l = [u,.int .i64 (i:Nat)] ∧ i ≤ ns.length ∧ (ns.drop i).all (fun n=>decide (n ≤ 9)) = R
def fwMu (n:Nat):List Value → World → Nat:=fun l _=>match l with | [_,.int _ i]=>n - i.toNat | _=>0
theorem fwMu_eq (n:Nat) (u:Value) (k:IntKind) (i:Int) (w:World):fwMu n [u,.int k i] w = n - i.toNat:=rfl
@[go_sem] theorem idx_ll (T:TypeId) (b o n c:Nat) (x:Int):oM Tryz.prog (.indexAddr 98 (.tmp 0) (.tmp 1)) T [.slice (some ⟨b,o,none⟩) n c,.int .i64 x] = onM (0 ≤ x ∧ x < n) (.pointer (some ⟨b,o + x.toNat,none⟩)):=by
 funext K w
 rw [oM_indexAddr,run_indexAt_slice (h:=by kernel_rfl)]
 have hs:(sizeOf (Tryz.prog.elem 98)).run Tryz.prog w = .ok 1 w:=by kernel_rfl
 by_cases hi:0 ≤ x ∧ x < n
 ·rw [if_pos hi,hs]
  simp only [Result.andThen,add_none,Nat.mul_one,rM_ok]
  exact propext ⟨fun h=>⟨hi,h⟩,fun h=>h.2⟩
 ·rw [if_neg hi]
  obtain ⟨e',w',he⟩:=halts Value Tryz.prog .i64 x n .index w
  rw [he]
  exact propext ⟨fun h=>h.elim,fun h=>hi h.1⟩
theorem Few_ok (s:Stp) (g c:Nat) (ns:List Nat) {v:Value} (hs:SetR w s v) (hg:g < w.heap.size) (hc:∀ i (h:i < ns.length),∃ ad c,w.cell? ⟨g,i,none⟩ = some (.slice ad ns[i] c)) (hn:ns.length < 1000) (k:∀ w',Below w.heap.size w w' → K (.bool (fewM s ns)) w'):callM Tryz.prog 42 #[stpV s v,.slice (some ⟨g,0,none⟩) ns.length c] K w:=by
 apply sh_42_ok
 unfold sh_42
 obtain ⟨ad,cc,rfl⟩:=hs.ints.isSlice
 refine box_kn (cs:=stpC s (.slice ad s.bases.length cc)) rfl (.start w) fun b W hk hb1 hb=>?_
 unfold fewM at k
 refine Xa0 ?_
 refine ⟨FwJ w _ (ns.all (fun n=>decide (n ≤ 9))) ns,fwMu ns.length,⟨hk,_,0,rfl,by omega,rfl⟩,?_⟩
 generalize ns.all (fun n=>decide (n ≤ 9)) = R at *
 rintro _ _ w1 ⟨hk,u,i,rfl,hi,ha⟩
 by_cases hin:i = ns.length
 ·rw [List.drop_of_length_le (by omega)] at ha
  have el:decide ((s.bases.length:Int) ≤ 9) = decide (s.bases.length ≤ 9):=decide_eq_decide.2 (by omega)
  refine Xa hk.cells ?_
  rw [el]
  rw [show R = true from ha.symm,Bool.true_and] at k
  exact k _ hk.below
 ·rw [List.drop_eq_getElem_cons (by omega),List.all_cons] at ha
  obtain ⟨ad2,c2,hcc⟩:=hc i (by omega)
  have hcell:w1.cell? ⟨g,i,none⟩ = some (.slice ad2 ns[i] c2):=by rw [hk.below.cell hg]; exact hcc
  generalize ns[i] = x at *
  by_cases hx:x ≤ 9
  ·rw [decide_eq_true hx,Bool.true_and] at ha
   have hx':(x:Int) ≤ 9:=by omega
   refine Xa (An2 @hcell @hx') ?_
   refine ⟨⟨hk,_,i + 1,rfl,by omega,ha⟩,?_⟩
   simp only [fwMu_eq]; omega
  ·rw [decide_eq_false hx,Bool.false_and] at ha
   subst ha
   have hx':¬ (x:Int) ≤ 9:=by omega
   refine Xa (An2 @hcell @hx') ?_
   exact k _ hk.below
end
end Go.Proofs
namespace Go.Proofs
open Go Go.Sh Go.RowKit FdSpec TkSpec CodeSpec
section
variable {K:Value → World → Prop} {w w0:World} {L:List (Addr × Value)}
end
end Go.Proofs
namespace Go.Proofs
open Go Go.Sh Go.RowKit FdSpec TkSpec CodeSpec
section
variable {K:Value → World → Prop} {w w0:World} {L:List (Addr × Value)}
end
end Go.Proofs
namespace Go.Proofs
open Go.Sh Tryz
def sh_19 (a0 a1:Value) (K:Value → World → Prop) (w:World):Prop:=
 oM prog (.box 49 (.tmp 0)) 0 [a0] (fun v2 w=>
 oM prog (.box 49 (.tmp 0)) 0 [a1] (fun v3 w=>
 oM prog (.fieldAddr 49 (.tmp 0) 0) 0 [v2] (fun v5 w=>
 oM prog (.load 3 (.tmp 0)) 3 [v5] (fun v6 w=>
 oM prog (.fieldAddr 49 (.tmp 0) 0) 0 [v3] (fun v7 w=>
 oM prog (.load 3 (.tmp 0)) 3 [v7] (fun v8 w=>
 oM prog (.binOp .eql 3 (.tmp 0) (.tmp 1) 3) 4 [v6,v8] (fun v9 w=>
 gdM (gd v9 true) (oM prog (.fieldAddr 49 (.tmp 0) 1) 0 [v2]) (fun v11 w=>
 gdM (gd v9 true) (oM prog (.load 22 (.tmp 0)) 22 [v11]) (fun v12 w=>
 gdM (gd v9 true) (oM prog (.fieldAddr 49 (.tmp 0) 1) 0 [v3]) (fun v13 w=>
 gdM (gd v9 true) (oM prog (.load 22 (.tmp 0)) 22 [v13]) (fun v14 w=>
 gdM (gd v9 true) (callM prog 33 #[v12,v14]) (fun v15 w=>
 oM prog (.pick (.tmp 0) (.tmp 1) (.tmp 2)) 4 [v9,v15,(.bool false)] (fun v16 w=>
 K v16 w) w) w) w) w) w) w) w) w) w) w) w) w) w
theorem sh_19_ok {a0 a1:Value} {K:Value → World → Prop} {w:World} (h:sh_19 a0 a1 K w):callM prog 19 #[a0,a1] K w:=
 calls_of_code (fun _=>0) (fn:=Tryz.f19) (rs:=[.tmp 4]) Tryz.func19 rfl rfl (by kernel_rfl) (Nat.le_of_ble_eq_true rfl) (Eq.mp (by kernel_rfl) h)
end Go.Proofs
namespace Go.Proofs
open Go.Sh Tryz
end Go.Proofs
namespace Go.Proofs
open Go Go.Sh Go.RowKit FdSpec TkSpec CodeSpec
section
variable {K:Value → World → Prop} {w w0:World} {L:List (Addr × Value)}
@[reducible] def zG:Grp:=⟨0,0,0⟩
structure Cas where
 q:Int
 m:Mir
 x:Int
 w:Int
 attrs:List Int
 b:Bld
@[reducible] def casV (c:Cas) (mv av yv:Value):Value:=.agg #[.int .i64 c.q,mv,.int .i64 c.m.blind,.int .i64 c.x,.int .i64 c.w,av,.int .i64 c.b.s,.int .i64 c.b.u,.int .i64 c.b.v,yv]
@[reducible] def casC (c:Cas) (mv av yv:Value):List Value:=[.int .i64 c.q,mv,.int .i64 c.m.blind,.int .i64 c.x,.int .i64 c.w,av,.int .i64 c.b.s,.int .i64 c.b.u,.int .i64 c.b.v,yv]
structure CasR (w:World) (c:Cas) (mv av yv:Value):Prop where
 q:I64 c.q
 m:MirR w c.m mv
 x:I64 c.x
 wn:I64 c.w
 attrs:Ints w av c.attrs
 b:BldR w c.b yv
theorem CasR.next {w1:World} {c:Cas} {mv av yv:Value} (h:CasR w c mv av yv) (hb:Below w.heap.size w w1):CasR w1 c mv av yv:=⟨h.q,h.m.next hb,h.x,h.wn,h.attrs.next hb,h.b.next hb⟩
end
end Go.Proofs
namespace Go.Proofs
open Go Go.Sh Go.RowKit FdSpec TkSpec CodeSpec
section
variable {K:Value → World → Prop} {w w0:World} {L:List (Addr × Value)}
end
end Go.Proofs
namespace Go.Proofs
open Go Go.Sh Go.RowKit FdSpec TkSpec CodeSpec
section
variable {K:Value → World → Prop} {w w0:World} {L:List (Addr × Value)}
end
end Go.Proofs
namespace Go.Proofs
open Go Go.Sh Go.RowKit FdSpec TkSpec CodeSpec
section
variable {K:Value → World → Prop} {w w0:World} {L:List (Addr × Value)}
theorem SameSpend_ok (x y:Spd) {v u:Value} (hx:SpdR w x v) (hy:SpdR w y u) (k:∀ w',Below w.heap.size w w' → K (.bool (decide (x.dare = y.dare) && decide (x.answers = y.answers))) w'):callM Tryz.prog 19 #[spdV x v,spdV y u] K w:=by
 apply sh_19_ok
 unfold sh_19
 have hx':=hx.answers
 have hy':=hy.answers
 obtain ⟨ad,c,rfl⟩:=hx.answers.isSlice
 obtain ⟨ad2,c2,rfl⟩:=hy.answers.isSlice
 refine box_kn (cs:=spdC x (.slice ad x.answers.length c)) rfl (.start w) fun b1 W hk hb1 hbb=>?_
 refine box_kn (cs:=spdC y (.slice ad2 y.answers.length c2)) rfl hk fun b2 W2 hk hb2 hbb=>?_
 by_cases hd:x.dare = y.dare
 rotate_left
 ·rw [decide_eq_false hd,Bool.false_and] at k
  refine Xa (An2 hk.cells @hd) ?_
  exact k _ hk.below
 rw [decide_eq_true hd,Bool.true_and] at k
 refine Xa (An2 hk.cells @hd) ?_
 refine Same_ok (hx'.next hk.below) (hy'.next hk.below) (fun w3 h3=>?_)
 have k:=k _ (hk.next h3).below
 generalize decide (x.answers = y.answers) = q at *
 refine Xa0 ?_
 exact k
def zX:Ses:=⟨[],⟨0,0,0⟩,0,0⟩
end
end Go.Proofs
namespace Go.Proofs
open Go Go.Sh Go.RowKit FdSpec TkSpec CodeSpec
section
variable {K:Value → World → Prop} {w w0:World} {L:List (Addr × Value)}
structure Res3 (w:World) (B g1 g2 g3:Nat) (a b c:List Value):Prop where
 lo:B ≤ g1 ∧ g1 < g2 ∧ g2 < g3
 s:Holds w g1 32 a
 x:Holds w g2 39 b
 t:Holds w g3 41 c
theorem Res3.next {w1:World} {B g1 g2 g3:Nat} {a b c:List Value} (h:Res3 w B g1 g2 g3 a b c) (hb:Below w.heap.size w w1):Res3 w1 B g1 g2 g3 a b c:=⟨h.lo,h.s.next hb,h.x.next hb,h.t.next hb⟩
end
end Go.Proofs
namespace Go.Proofs
open Go Go.Sh Go.RowKit FdSpec TkSpec CodeSpec
section
variable {K:Value → World → Prop} {w w0:World} {L:List (Addr × Value)}
end
end Go.Proofs
namespace Go.Proofs
open Go Go.Sh Go.RowKit FdSpec TkSpec CodeSpec
section
variable {K:Value → World → Prop} {w w0:World} {L:List (Addr × Value)}
@[go_sem] theorem oM_extract4_0 {P:Program} {K:Value → World → Prop} {w:World} (T:TypeId) (a b c d:Value):oM P (.extract (.tmp 0) 0) T [.tuple #[a,b,c,d]] K w = K a w:=oM_of_run rfl
@[go_sem] theorem oM_extract4_1 {P:Program} {K:Value → World → Prop} {w:World} (T:TypeId) (a b c d:Value):oM P (.extract (.tmp 0) 1) T [.tuple #[a,b,c,d]] K w = K b w:=oM_of_run rfl
@[go_sem] theorem oM_extract4_2 {P:Program} {K:Value → World → Prop} {w:World} (T:TypeId) (a b c d:Value):oM P (.extract (.tmp 0) 2) T [.tuple #[a,b,c,d]] K w = K c w:=oM_of_run rfl
@[go_sem] theorem oM_extract4_3 {P:Program} {K:Value → World → Prop} {w:World} (T:TypeId) (a b c d:Value):oM P (.extract (.tmp 0) 3) T [.tuple #[a,b,c,d]] K w = K d w:=oM_of_run rfl
theorem local_spdK {K:Value → World → Prop} {T' T2:TypeId} (x:Spd) (ad:Option Addr) (m c:Nat) (hk:Kn w0 L w)
  (k:∀ b W,Kn w0 (cellsOf L b 0 (spdC x (.slice ad m c))) W → Below w.heap.size w W → w.heap.size ≤ b → K (.pointer (some ⟨b,0,none⟩)) W) :
  oM Tryz.prog (.alloc 49) T' [] (fun v w=>oM Tryz.prog (.store 49 (.tmp 0) (.tmp 1)) T2 [v,spdV x (.slice ad m c)] (fun _ w=>K v w) w) w:=
 local_kn al_spd rfl sz_spd rfl rfl (spd_one x ad m c) hk k
end
end Go.Proofs
namespace TkSpec
open FdSpec
def grp (n:Nat):Grp:=⟨2 * n + 1,n,4⟩
def ordL:List Nat:=[5,11,23,29,41,53,83,89,113,131,173,179,191]
theorem ord_inv:∀ n ∈ ordL,∀ a,a < n → 0 < a → ∃ b,b < n ∧ 0 < b ∧ a * b % n = 1:=by decide +kernel
end TkSpec
namespace TkSpec
open FdSpec
def E (n:Nat) (k:Int):Int:=pw (2 * n + 1) 4 (k % n).toNat
structure Ok (n:Nat):Prop where
 five:5 ≤ n
 le:n ≤ 200
 one:pw (2 * n + 1) 4 n = 1
end TkSpec
namespace TkSpec
open FdSpec
theorem Ok.q {n:Nat} (h:Ok n):okN (n:Int):=by have:=h.five; have:=h.le; unfold okN; omega
theorem Ok.p {n:Nat} (h:Ok n):okN (2 * (n:Int) + 1):=by have:=h.five; have:=h.le; unfold okN; omega
def dot:List Int → List Int → Int
 | a :: l,b :: m=>a * b + dot l m
 | _,_=>0
theorem ord_one:∀ n ∈ ordL,pw (2 * n + 1) 4 n = 1:=by decide +kernel
theorem ord_rng:∀ n ∈ ordL,5 ≤ n ∧ n ≤ 200:=by decide
theorem ok_of {n:Nat} (h:n ∈ ordL):Ok n:=⟨(ord_rng n h).1,(ord_rng n h).2,ord_one n h⟩
end TkSpec
namespace TkSpec
open FdSpec
end TkSpec
namespace TkSpec
open FdSpec
theorem E_dvd {n:Nat} {a b q:Int} (h:a = b + n * q):E n a = E n b:=by
 subst h
 unfold E
 rw [Int.add_mul_emod_self_left]
theorem inv_ex {n:Nat} (hn:n ∈ ordL) {a:Int} (h:0 < a % n):∃ b q:Int,a * b = 1 + n * q:=by
 have h5:=(ok_of hn).five
 have h3:=Int.emod_lt_of_pos a (b:=n) (by omega)
 obtain ⟨b,hb,_,he⟩:=ord_inv n hn (a % n).toNat (by omega) (by omega)
 have e1:((a % n).toNat:Int) = a % n:=Int.toNat_of_nonneg (by omega)
 have h2:=Int.emod_add_mul_ediv a n
 have h4:=Int.emod_add_mul_ediv ((a % n) * b) n
 have he':((a % n) * (b:Int)) % n = 1:=by
  have:=congrArg (fun k:Nat=>(k:Int)) he
  simp only [Int.natCast_emod,Int.natCast_mul,e1] at this
  simpa using this
 rw [he'] at h4
 exact ⟨b,(a % n) * b / n + a / n * b,by grind⟩
end TkSpec
namespace TkSpec
open FdSpec
def Cg (n:Nat) (a b:Int):Prop:=∃ q:Int,a = b + n * q
namespace Cg
variable {n:Nat} {a b c d:Int}
theorem of_eq (h:a = b):Cg n a b:=⟨0,by simp [h]⟩
theorem symm (h:Cg n a b):Cg n b a:=by obtain ⟨q,h⟩:=h; exact ⟨-q,by grind⟩
theorem trans (h:Cg n a b) (k:Cg n b c):Cg n a c:=by obtain ⟨q,h⟩:=h; obtain ⟨r,k⟩:=k; exact ⟨q + r,by grind⟩
theorem add (h:Cg n a b) (k:Cg n c d):Cg n (a + c) (b + d):=by obtain ⟨q,h⟩:=h; obtain ⟨r,k⟩:=k; exact ⟨q + r,by grind⟩
theorem sub (h:Cg n a b) (k:Cg n c d):Cg n (a - c) (b - d):=by obtain ⟨q,h⟩:=h; obtain ⟨r,k⟩:=k; exact ⟨q - r,by grind⟩
theorem mul (h:Cg n a b) (k:Cg n c d):Cg n (a * c) (b * d):=by obtain ⟨q,h⟩:=h; obtain ⟨r,k⟩:=k; exact ⟨q * d + b * r + n * q * r,by grind⟩
theorem mod (n:Nat) (a:Int):Cg n (a % n) a:=⟨-(a / n),by have:=Int.emod_add_mul_ediv a n; grind⟩
theorem eq (h:Cg n a b) (h1:0 ≤ a ∧ a < n) (h2:0 ≤ b ∧ b < n):a = b:=by
 obtain ⟨q,h⟩:=h
 have e:a % n = b % n:=by rw [h,Int.add_mul_emod_self_left]
 rwa [Int.emod_eq_of_lt h1.1 h1.2,Int.emod_eq_of_lt h2.1 h2.2] at e
theorem cancel (hn:n ∈ ordL) (hc:0 < c % n) (h:Cg n (c * a) (c * b)):Cg n a b:=by
 obtain ⟨i,q,hi⟩:=inv_ex hn hc
 obtain ⟨r,h⟩:=h
 exact ⟨i * r - q * a + q * b,by grind⟩
theorem addM {n:Nat} (hn:okN n) (a b:Int):Cg n (addM n a b) (a + b):=by unfold FdSpec.addM; rw [if_pos hn]; exact mod _ _
theorem subM {n:Nat} (hn:okN n) (a b:Int):Cg n (subM n a b) (a - b):=by unfold FdSpec.subM; rw [if_pos hn]; exact mod _ _
theorem mulM {n:Nat} (hn:okN n) (a b:Int):Cg n (mulM n a b) (a * b):=by unfold FdSpec.mulM; rw [if_pos hn]; exact mod _ _
theorem E (h:Cg n a b):E n a = E n b:=by obtain ⟨q,h⟩:=h; exact E_dvd h
end Cg
theorem mul_pos {n:Nat} (hn:n ∈ ordL) {a b:Int} (ha:0 < a % n) (hb:0 < b % n):0 < a * b % n:=by
 have h5:=(ok_of hn).five
 have h1:=Int.emod_nonneg (a * b) (b:=n) (by omega)
 rcases Int.lt_or_eq_of_le h1 with h | h
 ·exact h
 ·exfalso
  have hc:Cg n (a * b) (a * 0):=by
   rw [Int.mul_zero]
   exact (Cg.mod n (a * b)).symm.trans (Cg.of_eq h.symm)
  obtain ⟨q,hq⟩:=hc.cancel hn ha
  rw [hq,Int.zero_add,Int.mul_emod_right] at hb
  omega
end TkSpec
namespace Go.Proofs
open Go Go.Sh Go.RowKit FdSpec TkSpec CodeSpec
end Go.Proofs
namespace Go.Proofs
open Go Go.Sh Go.RowKit FdSpec TkSpec CodeSpec
end Go.Proofs
namespace Go.Proofs
open Go Go.Sh Go.RowKit FdSpec TkSpec CodeSpec
end Go.Proofs
namespace TkSpec
open FdSpec
section
variable {n:Nat} (hn:n ∈ ordL) {s:Stp} {ns:List Int} (hg:s.g = grp n) (hb:s.bases = ns.map (E n))
include hn hg
theorem nums_one {a m:Int}:numsM s a [m] = true ↔ a ≤ m ∧ m < n:=by
 unfold numsM
 rw [hg]
 show ([m].all fun x=>decide (a ≤ x) && decide (x < (n:Int))) = true ↔ _
 simp
include hb
end
end TkSpec
namespace TkSpec
open FdSpec
section
variable {n:Nat} (hn:n ∈ ordL) {s:Stp} {ns:List Int} (hg:s.g = grp n) (hb:s.bases = ns.map (E n))
include hn hg hb
end
end TkSpec
namespace Go.Proofs
open FdSpec TkSpec
end Go.Proofs
namespace Go.Proofs
open Go Go.Sh Go.RowKit FdSpec TkSpec CodeSpec
section
variable {K:Value → World → Prop} {w w0:World} {L:List (Addr × Value)}
end
end Go.Proofs
namespace Go.Proofs
open Go Go.Sh Go.RowKit FdSpec TkSpec CodeSpec
section
variable {K:Value → World → Prop} {w w0:World} {L:List (Addr × Value)}
end
end Go.Proofs
namespace Go.Proofs
open FdSpec TkSpec
section
open TpA
variable {g:Grp} {m:Mir} {s:Stp} {attrs attrs':List Int} {b:Bld} {x w w' n:Int}
end
end Go.Proofs
namespace Go.Proofs
open Go.Sh Tryz
end Go.Proofs
namespace Go.Proofs
open Go Go.Sh Go.RowKit FdSpec TkSpec CodeSpec
section
variable {K:Value → World → Prop} {w w0:World} {L:List (Addr × Value)}
end
end Go.Proofs
namespace Go.Proofs
open Go.Sh Tryz
end Go.Proofs
namespace Go.Proofs
open Go Go.Sh Go.RowKit FdSpec TkSpec CodeSpec
section
variable {K:Value → World → Prop} {w w0:World} {L:List (Addr × Value)}
end
end Go.Proofs
namespace Go.Proofs
open Go.Sh Tryz
def sh_10 (a0 a1 a2 a3 a4 a5 a6 a7:Value) (K:Value → World → Prop) (w:World):Prop:=
 oM prog (.box 32 (.tmp 0)) 0 [a0] (fun v8 w=>
 oM prog (.box 41 (.tmp 0)) 0 [a2] (fun v10 w=>
 oM prog (.box 49 (.tmp 0)) 0 [a3] (fun v11 w=>
 oM prog (.box 49 (.tmp 0)) 0 [a4] (fun v12 w=>
 oM prog (.box 45 (.tmp 0)) 0 [a6] (fun v14 w=>
 callM prog 21 #[] (fun v32 w=>
 oM prog (.load 32 (.tmp 0)) 32 [v8] (fun v33 w=>
 oM prog (.fieldAddr 45 (.tmp 0) 3) 0 [v14] (fun v35 w=>
 oM prog (.load 22 (.tmp 0)) 22 [v35] (fun v36 w=>
 oM prog (.fieldAddr 49 (.tmp 0) 1) 0 [v11] (fun v37 w=>
 oM prog (.load 22 (.tmp 0)) 22 [v37] (fun v38 w=>
 oM prog (.fieldAddr 49 (.tmp 0) 1) 0 [v12] (fun v39 w=>
 oM prog (.load 22 (.tmp 0)) 22 [v39] (fun v40 w=>
 oM prog (.buildSlice 98 4 #[(0,(.tmp 0)),(1,(.tmp 1)),(2,(.tmp 2)),(3,(.tmp 3))]) 98 [a5,v36,v38,v40] (fun v41 w=>
 callM prog 42 #[v33,v41] (fun v42 w=>
 oM prog (.unOp .not 4 (.tmp 0)) 4 [v42] (fun v43 w=>
 gdM (gd v43 false) (pureM a7) (fun v45 w=>
 gdM (gd v43 false) (oM prog (.call (Go.Call.mk (.builtin .len) #[(.tmp 0)] #[9])) 3 [v45]) (fun v46 w=>
 gdM (gd v43 false) (oM prog (.binOp .gtr 3 (.tmp 0) (.tmp 1) 3) 4 [v46,(.int .i64 300)]) (fun v47 w=>
 oM prog (.pick (.tmp 0) (.tmp 1) (.tmp 2)) 4 [v43,(.bool true),v47] (fun v48 w=>
 condM v48
 (K v32 w)
 (oM prog (.load 32 (.tmp 0)) 32 [v8] (fun v51 w=>
 oM prog (.load 45 (.tmp 0)) 45 [v14] (fun v53 w=>
 oM prog (.fieldAddr 49 (.tmp 0) 0) 0 [v11] (fun v54 w=>
 oM prog (.load 3 (.tmp 0)) 3 [v54] (fun v55 w=>
 callM prog 15 #[v51,a5,v53,v55] (fun v56 w=>
 oM prog (.extract (.tmp 0) 0) 49 [v56] (fun v57 w=>
 oM prog (.extract (.tmp 0) 1) 4 [v56] (fun v58 w=>
 oM prog (.alloc 49) 0 [] (fun v18 w=>
 oM prog (.store 49 (.tmp 0) (.tmp 1)) 0 [v18,v57] (fun _ w=>
 oM prog (.load 32 (.tmp 0)) 32 [v8] (fun v60 w=>
 oM prog (.load 45 (.tmp 0)) 45 [v14] (fun v62 w=>
 oM prog (.fieldAddr 49 (.tmp 0) 0) 0 [v11] (fun v63 w=>
 oM prog (.load 3 (.tmp 0)) 3 [v63] (fun v64 w=>
 callM prog 46 #[v60,a5,v62,v64] (fun v65 w=>
 oM prog (.extract (.tmp 0) 0) 49 [v65] (fun v66 w=>
 oM prog (.extract (.tmp 0) 1) 4 [v65] (fun v67 w=>
 oM prog (.alloc 49) 0 [] (fun v20 w=>
 oM prog (.store 49 (.tmp 0) (.tmp 1)) 0 [v20,v66] (fun _ w=>
 oM prog (.load 32 (.tmp 0)) 32 [v8] (fun v69 w=>
 oM prog (.load 41 (.tmp 0)) 41 [v10] (fun v70 w=>
 oM prog (.load 49 (.tmp 0)) 49 [v11] (fun v71 w=>
 oM prog (.load 49 (.tmp 0)) 49 [v12] (fun v72 w=>
 callM prog 31 #[v69,v70,v71,v72] (fun v73 w=>
 oM prog (.extract (.tmp 0) 0) 22 [v73] (fun v74 w=>
 oM prog (.extract (.tmp 0) 1) 4 [v73] (fun v75 w=>
 oM prog (.load 32 (.tmp 0)) 32 [v8] (fun v77 w=>
 oM prog (.load 41 (.tmp 0)) 41 [v10] (fun v78 w=>
 oM prog (.load 49 (.tmp 0)) 49 [v11] (fun v79 w=>
 oM prog (.load 49 (.tmp 0)) 49 [v12] (fun v80 w=>
 callM prog 47 #[v77,v78,v79,v80] (fun v81 w=>
 oM prog (.extract (.tmp 0) 0) 22 [v81] (fun v82 w=>
 oM prog (.extract (.tmp 0) 1) 4 [v81] (fun v83 w=>
 callM prog 48 #[a7] (fun v86 w=>
 oM prog (.extract (.tmp 0) 0) 41 [v86] (fun v87 w=>
 oM prog (.extract (.tmp 0) 1) 4 [v86] (fun v88 w=>
 oM prog (.alloc 41) 0 [] (fun v26 w=>
 oM prog (.store 41 (.tmp 0) (.tmp 1)) 0 [v26,v87] (fun _ w=>
 callM prog 49 #[a7] (fun v91 w=>
 oM prog (.extract (.tmp 0) 0) 41 [v91] (fun v92 w=>
 oM prog (.extract (.tmp 0) 1) 4 [v91] (fun v93 w=>
 oM prog (.alloc 41) 0 [] (fun v28 w=>
 oM prog (.store 41 (.tmp 0) (.tmp 1)) 0 [v28,v92] (fun _ w=>
 heldM w (fun C_59 w=>(((true:Bool) = true) ∧ (oH prog (.load 32 (.tmp 0)) 32 [v8] C_59 (fun v94=>
 oH prog (.load 41 (.tmp 0)) 41 [v10] C_59 (fun v95=>
 oH prog (.load 32 (.tmp 0)) 32 [v8] C_59 (fun v97=>
 oH prog (.load 41 (.tmp 0)) 41 [v10] C_59 (fun v98=>
 ∃ S_64:World → World → Prop,∃ R_65:Value → World → Prop,(∀ v w w_1,S_64 w w_1 → R_65 v w → R_65 v w_1) ∧
 (∀ w,C_59 w → (callM prog 50 #[v94,v95] (fun v w_1=>C_59 w_1 ∧ S_64 w w_1 ∧ R_65 v w_1) w)) ∧
 (∃ R_66:Value → World → Prop,(∀ v w w_1,S_64 w w_1 → R_66 v w → R_66 v w_1) ∧
 (∀ w,C_59 w → (callM prog 51 #[v97,v98] (fun v w_1=>C_59 w_1 ∧ S_64 w w_1 ∧ R_66 v w_1) w)) ∧
 (∃ R_67:Value → World → Prop,(∀ v w w_1,S_64 w w_1 → R_67 v w → R_67 v w_1) ∧
 (∀ w,C_59 w → ∀ v96,R_65 v96 w → ∀ v99,R_66 v99 w → (oM prog (.binOp .eql 4 (.tmp 0) (.tmp 1) 4) 4 [v96,v99] (fun v w_1=>C_59 w_1 ∧ S_64 w w_1 ∧ R_67 v w_1) w)) ∧
 (∃ R_70:Value → World → Prop,(∀ v w w_1,S_64 w w_1 → R_70 v w → R_70 v w_1) ∧
 (∀ w,C_59 w → ∀ v100,R_67 v100 w → (C_59 w ∧ S_64 w w ∧ R_70 v100 w)) ∧
 (∃ R_72:Value → World → Prop,(∀ v w w_1,S_64 w w_1 → R_72 v w → R_72 v w_1) ∧
 (∀ w,C_59 w → ∀ v101,R_70 v101 w → (gdM (gd v101 true) (oM prog (.load 32 (.tmp 0)) 32 [v8]) (fun v w_1=>C_59 w_1 ∧ S_64 w w_1 ∧ R_72 v w_1) w)) ∧
 (∃ R_74:Value → World → Prop,(∀ v w w_1,S_64 w w_1 → R_74 v w → R_74 v w_1) ∧
 (∀ w,C_59 w → ∀ v101,R_70 v101 w → (gdM (gd v101 true) (oM prog (.load 41 (.tmp 0)) 41 [v10]) (fun v w_1=>C_59 w_1 ∧ S_64 w w_1 ∧ R_74 v w_1) w)) ∧
 (∃ R_76:Value → World → Prop,(∀ v w w_1,S_64 w w_1 → R_76 v w → R_76 v w_1) ∧
 (∀ w,C_59 w → ∀ v101,R_70 v101 w → ∀ v102,R_72 v102 w → ∀ v103,R_74 v103 w → (gdM (gd v101 true) (callM prog 25 #[v102,v103]) (fun v w_1=>C_59 w_1 ∧ S_64 w w_1 ∧ R_76 v w_1) w)) ∧
 (∃ R_80:Value → World → Prop,(∀ v w w_1,S_64 w w_1 → R_80 v w → R_80 v w_1) ∧
 (∀ w,C_59 w → ∀ v101,R_70 v101 w → (gdM (gd v101 true) (oM prog (.load 32 (.tmp 0)) 32 [v8]) (fun v w_1=>C_59 w_1 ∧ S_64 w w_1 ∧ R_80 v w_1) w)) ∧
 (∃ R_82:Value → World → Prop,(∀ v w w_1,S_64 w w_1 → R_82 v w → R_82 v w_1) ∧
 (∀ w,C_59 w → ∀ v101,R_70 v101 w → (gdM (gd v101 true) (oM prog (.load 41 (.tmp 0)) 41 [v10]) (fun v w_1=>C_59 w_1 ∧ S_64 w w_1 ∧ R_82 v w_1) w)) ∧
 (∃ R_84:Value → World → Prop,(∀ v w w_1,S_64 w w_1 → R_84 v w → R_84 v w_1) ∧
 (∀ w,C_59 w → ∀ v101,R_70 v101 w → ∀ v105,R_80 v105 w → ∀ v106,R_82 v106 w → (gdM (gd v101 true) (callM prog 52 #[v105,v106]) (fun v w_1=>C_59 w_1 ∧ S_64 w w_1 ∧ R_84 v w_1) w)) ∧
 (∃ R_88:Value → World → Prop,(∀ v w w_1,S_64 w w_1 → R_88 v w → R_88 v w_1) ∧
 (∀ w,C_59 w → ∀ v101,R_70 v101 w → ∀ v104,R_76 v104 w → ∀ v107,R_84 v107 w → (gdM (gd v101 true) (oM prog (.binOp .eql 3 (.tmp 0) (.tmp 1) 3) 4 [v104,v107]) (fun v w_1=>C_59 w_1 ∧ S_64 w w_1 ∧ R_88 v w_1) w)) ∧
 (∃ R_92:Value → World → Prop,(∀ v w w_1,S_64 w w_1 → R_92 v w → R_92 v w_1) ∧
 (∀ w,C_59 w → ∀ v101,R_70 v101 w → ∀ v108,R_88 v108 w → (oM prog (.pick (.tmp 0) (.tmp 1) (.tmp 2)) 4 [v101,v108,(.bool false)] (fun v w_1=>C_59 w_1 ∧ S_64 w w_1 ∧ R_92 v w_1) w)) ∧
 (∃ R_95:Value → World → Prop,(∀ v w w_1,S_64 w w_1 → R_95 v w → R_95 v w_1) ∧
 (∀ w,C_59 w → ∀ v109,R_92 v109 w → (C_59 w ∧ S_64 w w ∧ R_95 v109 w)) ∧
 (∃ R_97:Value → World → Prop,(∀ v w w_1,S_64 w w_1 → R_97 v w → R_97 v w_1) ∧
 (∀ w,C_59 w → ∀ v110,R_95 v110 w → (gdM (gd v110 true) (oM prog (.load 32 (.tmp 0)) 32 [v8]) (fun v w_1=>C_59 w_1 ∧ S_64 w w_1 ∧ R_97 v w_1) w)) ∧
 (∃ R_99:Value → World → Prop,(∀ v w w_1,S_64 w w_1 → R_99 v w → R_99 v w_1) ∧
 (∀ w,C_59 w → ∀ v110,R_95 v110 w → (gdM (gd v110 true) (pureM a1) (fun v w_1=>C_59 w_1 ∧ S_64 w w_1 ∧ R_99 v w_1) w)) ∧
 (∃ R_101:Value → World → Prop,(∀ v w w_1,S_64 w w_1 → R_101 v w → R_101 v w_1) ∧
 (∀ w,C_59 w → ∀ v110,R_95 v110 w → (gdM (gd v110 true) (oM prog (.load 41 (.tmp 0)) 41 [v10]) (fun v w_1=>C_59 w_1 ∧ S_64 w w_1 ∧ R_101 v w_1) w)) ∧
 (∃ R_103:Value → World → Prop,(∀ v w w_1,S_64 w w_1 → R_103 v w → R_103 v w_1) ∧
 (∀ w,C_59 w → ∀ v110,R_95 v110 w → ∀ v111,R_97 v111 w → ∀ v112,R_99 v112 w → ∀ v113,R_101 v113 w → (gdM (gd v110 true) (callM prog 29 #[v111,v112,v113]) (fun v w_1=>C_59 w_1 ∧ S_64 w w_1 ∧ R_103 v w_1) w)) ∧
 (∃ R_108:Value → World → Prop,(∀ v w w_1,S_64 w w_1 → R_108 v w → R_108 v w_1) ∧
 (∀ w,C_59 w → ∀ v110,R_95 v110 w → (gdM (gd v110 true) (oM prog (.load 32 (.tmp 0)) 32 [v8]) (fun v w_1=>C_59 w_1 ∧ S_64 w w_1 ∧ R_108 v w_1) w)) ∧
 (∃ R_110:Value → World → Prop,(∀ v w w_1,S_64 w w_1 → R_110 v w → R_110 v w_1) ∧
 (∀ w,C_59 w → ∀ v110,R_95 v110 w → (gdM (gd v110 true) (pureM a1) (fun v w_1=>C_59 w_1 ∧ S_64 w w_1 ∧ R_110 v w_1) w)) ∧
 (∃ R_112:Value → World → Prop,(∀ v w w_1,S_64 w w_1 → R_112 v w → R_112 v w_1) ∧
 (∀ w,C_59 w → ∀ v110,R_95 v110 w → (gdM (gd v110 true) (oM prog (.load 41 (.tmp 0)) 41 [v10]) (fun v w_1=>C_59 w_1 ∧ S_64 w w_1 ∧ R_112 v w_1) w)) ∧
 (∃ R_114:Value → World → Prop,(∀ v w w_1,S_64 w w_1 → R_114 v w → R_114 v w_1) ∧
 (∀ w,C_59 w → ∀ v110,R_95 v110 w → ∀ v115,R_108 v115 w → ∀ v116,R_110 v116 w → ∀ v117,R_112 v117 w → (gdM (gd v110 true) (callM prog 53 #[v115,v116,v117]) (fun v w_1=>C_59 w_1 ∧ S_64 w w_1 ∧ R_114 v w_1) w)) ∧
 (∃ R_119:Value → World → Prop,(∀ v w w_1,S_64 w w_1 → R_119 v w → R_119 v w_1) ∧
 (∀ w,C_59 w → ∀ v110,R_95 v110 w → ∀ v114,R_103 v114 w → ∀ v118,R_114 v118 w → (gdM (gd v110 true) (oM prog (.binOp .eql 4 (.tmp 0) (.tmp 1) 4) 4 [v114,v118]) (fun v w_1=>C_59 w_1 ∧ S_64 w w_1 ∧ R_119 v w_1) w)) ∧
 (∃ R_123:Value → World → Prop,(∀ v w w_1,S_64 w w_1 → R_123 v w → R_123 v w_1) ∧
 (∀ w,C_59 w → ∀ v110,R_95 v110 w → ∀ v119,R_119 v119 w → (oM prog (.pick (.tmp 0) (.tmp 1) (.tmp 2)) 4 [v110,v119,(.bool false)] (fun v w_1=>C_59 w_1 ∧ S_64 w w_1 ∧ R_123 v w_1) w)) ∧
 (∃ R_126:Value → World → Prop,(∀ v w w_1,S_64 w w_1 → R_126 v w → R_126 v w_1) ∧
 (∀ w,C_59 w → ∀ v120,R_123 v120 w → (C_59 w ∧ S_64 w w ∧ R_126 v120 w)) ∧
 (∃ R_128:Value → World → Prop,(∀ v w w_1,S_64 w w_1 → R_128 v w → R_128 v w_1) ∧
 (∀ w,C_59 w → ∀ v121,R_126 v121 w → (gdM (gd v121 true) (oM prog (.load 32 (.tmp 0)) 32 [v8]) (fun v w_1=>C_59 w_1 ∧ S_64 w w_1 ∧ R_128 v w_1) w)) ∧
 (∃ R_130:Value → World → Prop,(∀ v w w_1,S_64 w w_1 → R_130 v w → R_130 v w_1) ∧
 (∀ w,C_59 w → ∀ v121,R_126 v121 w → (gdM (gd v121 true) (oM prog (.load 41 (.tmp 0)) 41 [v10]) (fun v w_1=>C_59 w_1 ∧ S_64 w w_1 ∧ R_130 v w_1) w)) ∧
 (∃ R_132:Value → World → Prop,(∀ v w w_1,S_64 w w_1 → R_132 v w → R_132 v w_1) ∧
 (∀ w,C_59 w → ∀ v121,R_126 v121 w → (gdM (gd v121 true) (oM prog (.load 49 (.tmp 0)) 49 [v11]) (fun v w_1=>C_59 w_1 ∧ S_64 w w_1 ∧ R_132 v w_1) w)) ∧
 (∃ R_134:Value → World → Prop,(∀ v w w_1,S_64 w w_1 → R_134 v w → R_134 v w_1) ∧
 (∀ w,C_59 w → ∀ v121,R_126 v121 w → ∀ v122,R_128 v122 w → ∀ v123,R_130 v123 w → ∀ v124,R_132 v124 w → (gdM (gd v121 true) (callM prog 36 #[v122,v123,v124]) (fun v w_1=>C_59 w_1 ∧ S_64 w w_1 ∧ R_134 v w_1) w)) ∧
 (∃ R_139:Value → World → Prop,(∀ v w w_1,S_64 w w_1 → R_139 v w → R_139 v w_1) ∧
 (∀ w,C_59 w → ∀ v121,R_126 v121 w → (gdM (gd v121 true) (oM prog (.load 32 (.tmp 0)) 32 [v8]) (fun v w_1=>C_59 w_1 ∧ S_64 w w_1 ∧ R_139 v w_1) w)) ∧
 (∃ R_141:Value → World → Prop,(∀ v w w_1,S_64 w w_1 → R_141 v w → R_141 v w_1) ∧
 (∀ w,C_59 w → ∀ v121,R_126 v121 w → (gdM (gd v121 true) (oM prog (.load 41 (.tmp 0)) 41 [v10]) (fun v w_1=>C_59 w_1 ∧ S_64 w w_1 ∧ R_141 v w_1) w)) ∧
 (∃ R_143:Value → World → Prop,(∀ v w w_1,S_64 w w_1 → R_143 v w → R_143 v w_1) ∧
 (∀ w,C_59 w → ∀ v121,R_126 v121 w → (gdM (gd v121 true) (oM prog (.load 49 (.tmp 0)) 49 [v11]) (fun v w_1=>C_59 w_1 ∧ S_64 w w_1 ∧ R_143 v w_1) w)) ∧
 (∀ w,C_59 w → ∀ v96,R_65 v96 w → ∀ v99,R_66 v99 w → ∀ v100,R_67 v100 w → ∀ v101,R_70 v101 w → ∀ v102,R_72 v102 w → ∀ v103,R_74 v103 w → ∀ v104,R_76 v104 w → ∀ v105,R_80 v105 w → ∀ v106,R_82 v106 w → ∀ v107,R_84 v107 w → ∀ v108,R_88 v108 w → ∀ v109,R_92 v109 w → ∀ v110,R_95 v110 w → ∀ v111,R_97 v111 w → ∀ v112,R_99 v112 w → ∀ v113,R_101 v113 w → ∀ v114,R_103 v114 w → ∀ v115,R_108 v115 w → ∀ v116,R_110 v116 w → ∀ v117,R_112 v117 w → ∀ v118,R_114 v118 w → ∀ v119,R_119 v119 w → ∀ v120,R_123 v120 w → ∀ v121,R_126 v121 w → ∀ v122,R_128 v122 w → ∀ v123,R_130 v123 w → ∀ v124,R_132 v124 w → ∀ v125,R_134 v125 w → ∀ v126,R_139 v126 w → ∀ v127,R_141 v127 w → ∀ v128,R_143 v128 w → (
 gdM (gd v121 true) (callM prog 54 #[v126,v127,v128]) (fun v129 w=>
 gdM (gd v121 true) (oM prog (.binOp .eql 4 (.tmp 0) (.tmp 1) 4) 4 [v125,v129]) (fun v130 w=>
 oM prog (.pick (.tmp 0) (.tmp 1) (.tmp 2)) 4 [v121,v130,(.bool false)] (fun v131 w=>
 heldM w (fun C_179 w=>(((true:Bool) = true) ∧ (oH prog (.load 49 (.tmp 0)) 49 [v18] C_179 (fun v132=>
 oH prog (.load 49 (.tmp 0)) 49 [v20] C_179 (fun v133=>
 ∃ S_182:World → World → Prop,∃ R_183:Value → World → Prop,(∀ v w w_1,S_182 w w_1 → R_183 v w → R_183 v w_1) ∧
 (∀ w,C_179 w → (callM prog 19 #[v132,v133] (fun v w_1=>C_179 w_1 ∧ S_182 w w_1 ∧ R_183 v w_1) w)) ∧
 (∃ R_184:Value → World → Prop,(∀ v w w_1,S_182 w w_1 → R_184 v w → R_184 v w_1) ∧
 (∀ w,C_179 w → ∀ v134,R_183 v134 w → (C_179 w ∧ S_182 w w ∧ R_184 v134 w)) ∧
 (∃ R_186:Value → World → Prop,(∀ v w w_1,S_182 w w_1 → R_186 v w → R_186 v w_1) ∧
 (∀ w,C_179 w → ∀ v135,R_184 v135 w → (gdM (gd v135 true) (pureM v58) (fun v w_1=>C_179 w_1 ∧ S_182 w w_1 ∧ R_186 v w_1) w)) ∧
 (∃ R_188:Value → World → Prop,(∀ v w w_1,S_182 w w_1 → R_188 v w → R_188 v w_1) ∧
 (∀ w,C_179 w → ∀ v135,R_184 v135 w → (gdM (gd v135 true) (pureM v67) (fun v w_1=>C_179 w_1 ∧ S_182 w w_1 ∧ R_188 v w_1) w)) ∧
 (∃ R_190:Value → World → Prop,(∀ v w w_1,S_182 w w_1 → R_190 v w → R_190 v w_1) ∧
 (∀ w,C_179 w → ∀ v135,R_184 v135 w → ∀ v136,R_186 v136 w → ∀ v137,R_188 v137 w → (gdM (gd v135 true) (oM prog (.binOp .eql 4 (.tmp 0) (.tmp 1) 4) 4 [v136,v137]) (fun v w_1=>C_179 w_1 ∧ S_182 w w_1 ∧ R_190 v w_1) w)) ∧
 (∃ R_194:Value → World → Prop,(∀ v w w_1,S_182 w w_1 → R_194 v w → R_194 v w_1) ∧
 (∀ w,C_179 w → ∀ v135,R_184 v135 w → ∀ v138,R_190 v138 w → (oM prog (.pick (.tmp 0) (.tmp 1) (.tmp 2)) 4 [v135,v138,(.bool false)] (fun v w_1=>C_179 w_1 ∧ S_182 w w_1 ∧ R_194 v w_1) w)) ∧
 (∃ R_197:Value → World → Prop,(∀ v w w_1,S_182 w w_1 → R_197 v w → R_197 v w_1) ∧
 (∀ w,C_179 w → ∀ v139,R_194 v139 w → (C_179 w ∧ S_182 w w ∧ R_197 v139 w)) ∧
 (∃ R_199:Value → World → Prop,(∀ v w w_1,S_182 w w_1 → R_199 v w → R_199 v w_1) ∧
 (∀ w,C_179 w → ∀ v140,R_197 v140 w → (gdM (gd v140 true) (pureM v74) (fun v w_1=>C_179 w_1 ∧ S_182 w w_1 ∧ R_199 v w_1) w)) ∧
 (∃ R_201:Value → World → Prop,(∀ v w w_1,S_182 w w_1 → R_201 v w → R_201 v w_1) ∧
 (∀ w,C_179 w → ∀ v140,R_197 v140 w → (gdM (gd v140 true) (pureM v82) (fun v w_1=>C_179 w_1 ∧ S_182 w w_1 ∧ R_201 v w_1) w)) ∧
 (∃ R_203:Value → World → Prop,(∀ v w w_1,S_182 w w_1 → R_203 v w → R_203 v w_1) ∧
 (∀ w,C_179 w → ∀ v140,R_197 v140 w → ∀ v141,R_199 v141 w → ∀ v142,R_201 v142 w → (gdM (gd v140 true) (callM prog 33 #[v141,v142]) (fun v w_1=>C_179 w_1 ∧ S_182 w w_1 ∧ R_203 v w_1) w)) ∧
 (∃ R_207:Value → World → Prop,(∀ v w w_1,S_182 w w_1 → R_207 v w → R_207 v w_1) ∧
 (∀ w,C_179 w → ∀ v140,R_197 v140 w → ∀ v143,R_203 v143 w → (oM prog (.pick (.tmp 0) (.tmp 1) (.tmp 2)) 4 [v140,v143,(.bool false)] (fun v w_1=>C_179 w_1 ∧ S_182 w w_1 ∧ R_207 v w_1) w)) ∧
 (∃ R_210:Value → World → Prop,(∀ v w w_1,S_182 w w_1 → R_210 v w → R_210 v w_1) ∧
 (∀ w,C_179 w → ∀ v144,R_207 v144 w → (C_179 w ∧ S_182 w w ∧ R_210 v144 w)) ∧
 (∃ R_212:Value → World → Prop,(∀ v w w_1,S_182 w w_1 → R_212 v w → R_212 v w_1) ∧
 (∀ w,C_179 w → ∀ v145,R_210 v145 w → (gdM (gd v145 true) (pureM v75) (fun v w_1=>C_179 w_1 ∧ S_182 w w_1 ∧ R_212 v w_1) w)) ∧
 (∃ R_214:Value → World → Prop,(∀ v w w_1,S_182 w w_1 → R_214 v w → R_214 v w_1) ∧
 (∀ w,C_179 w → ∀ v145,R_210 v145 w → (gdM (gd v145 true) (pureM v83) (fun v w_1=>C_179 w_1 ∧ S_182 w w_1 ∧ R_214 v w_1) w)) ∧
 (∃ R_216:Value → World → Prop,(∀ v w w_1,S_182 w w_1 → R_216 v w → R_216 v w_1) ∧
 (∀ w,C_179 w → ∀ v145,R_210 v145 w → ∀ v146,R_212 v146 w → ∀ v147,R_214 v147 w → (gdM (gd v145 true) (oM prog (.binOp .eql 4 (.tmp 0) (.tmp 1) 4) 4 [v146,v147]) (fun v w_1=>C_179 w_1 ∧ S_182 w w_1 ∧ R_216 v w_1) w)) ∧
 (∃ R_220:Value → World → Prop,(∀ v w w_1,S_182 w w_1 → R_220 v w → R_220 v w_1) ∧
 (∀ w,C_179 w → ∀ v145,R_210 v145 w → ∀ v148,R_216 v148 w → (oM prog (.pick (.tmp 0) (.tmp 1) (.tmp 2)) 4 [v145,v148,(.bool false)] (fun v w_1=>C_179 w_1 ∧ S_182 w w_1 ∧ R_220 v w_1) w)) ∧
 (∃ R_223:Value → World → Prop,(∀ v w w_1,S_182 w w_1 → R_223 v w → R_223 v w_1) ∧
 (∀ w,C_179 w → ∀ v149,R_220 v149 w → (C_179 w ∧ S_182 w w ∧ R_223 v149 w)) ∧
 (∃ R_225:Value → World → Prop,(∀ v w w_1,S_182 w w_1 → R_225 v w → R_225 v w_1) ∧
 (∀ w,C_179 w → ∀ v150,R_223 v150 w → (gdM (gd v150 true) (oM prog (.load 41 (.tmp 0)) 41 [v26]) (fun v w_1=>C_179 w_1 ∧ S_182 w w_1 ∧ R_225 v w_1) w)) ∧
 (∃ R_227:Value → World → Prop,(∀ v w w_1,S_182 w w_1 → R_227 v w → R_227 v w_1) ∧
 (∀ w,C_179 w → ∀ v150,R_223 v150 w → (gdM (gd v150 true) (oM prog (.load 41 (.tmp 0)) 41 [v28]) (fun v w_1=>C_179 w_1 ∧ S_182 w w_1 ∧ R_227 v w_1) w)) ∧
 (∃ R_229:Value → World → Prop,(∀ v w w_1,S_182 w w_1 → R_229 v w → R_229 v w_1) ∧
 (∀ w,C_179 w → ∀ v150,R_223 v150 w → ∀ v151,R_225 v151 w → ∀ v152,R_227 v152 w → (gdM (gd v150 true) (oM prog (.binOp .eql 41 (.tmp 0) (.tmp 1) 41) 4 [v151,v152]) (fun v w_1=>C_179 w_1 ∧ S_182 w w_1 ∧ R_229 v w_1) w)) ∧
 (∃ R_233:Value → World → Prop,(∀ v w w_1,S_182 w w_1 → R_233 v w → R_233 v w_1) ∧
 (∀ w,C_179 w → ∀ v150,R_223 v150 w → ∀ v153,R_229 v153 w → (oM prog (.pick (.tmp 0) (.tmp 1) (.tmp 2)) 4 [v150,v153,(.bool false)] (fun v w_1=>C_179 w_1 ∧ S_182 w w_1 ∧ R_233 v w_1) w)) ∧
 (∃ R_236:Value → World → Prop,(∀ v w w_1,S_182 w w_1 → R_236 v w → R_236 v w_1) ∧
 (∀ w,C_179 w → ∀ v154,R_233 v154 w → (C_179 w ∧ S_182 w w ∧ R_236 v154 w)) ∧
 (∃ R_238:Value → World → Prop,(∀ v w w_1,S_182 w w_1 → R_238 v w → R_238 v w_1) ∧
 (∀ w,C_179 w → ∀ v155,R_236 v155 w → (gdM (gd v155 true) (pureM v88) (fun v w_1=>C_179 w_1 ∧ S_182 w w_1 ∧ R_238 v w_1) w)) ∧
 (∃ R_240:Value → World → Prop,(∀ v w w_1,S_182 w w_1 → R_240 v w → R_240 v w_1) ∧
 (∀ w,C_179 w → ∀ v155,R_236 v155 w → (gdM (gd v155 true) (pureM v93) (fun v w_1=>C_179 w_1 ∧ S_182 w w_1 ∧ R_240 v w_1) w)) ∧
 (∃ R_242:Value → World → Prop,(∀ v w w_1,S_182 w w_1 → R_242 v w → R_242 v w_1) ∧
 (∀ w,C_179 w → ∀ v155,R_236 v155 w → ∀ v156,R_238 v156 w → ∀ v157,R_240 v157 w → (gdM (gd v155 true) (oM prog (.binOp .eql 4 (.tmp 0) (.tmp 1) 4) 4 [v156,v157]) (fun v w_1=>C_179 w_1 ∧ S_182 w w_1 ∧ R_242 v w_1) w)) ∧
 (∃ R_246:Value → World → Prop,(∀ v w w_1,S_182 w w_1 → R_246 v w → R_246 v w_1) ∧
 (∀ w,C_179 w → ∀ v155,R_236 v155 w → ∀ v158,R_242 v158 w → (oM prog (.pick (.tmp 0) (.tmp 1) (.tmp 2)) 4 [v155,v158,(.bool false)] (fun v w_1=>C_179 w_1 ∧ S_182 w w_1 ∧ R_246 v w_1) w)) ∧
 (∃ R_249:Value → World → Prop,(∀ v w w_1,S_182 w w_1 → R_249 v w → R_249 v w_1) ∧
 (∀ w,C_179 w → ∀ v159,R_246 v159 w → (C_179 w ∧ S_182 w w ∧ R_249 v159 w)) ∧
 (∃ R_251:Value → World → Prop,(∀ v w w_1,S_182 w w_1 → R_251 v w → R_251 v w_1) ∧
 (∀ w,C_179 w → ∀ v160,R_249 v160 w → (gdM (gd v160 true) (oM prog (.load 32 (.tmp 0)) 32 [v8]) (fun v w_1=>C_179 w_1 ∧ S_182 w w_1 ∧ R_251 v w_1) w)) ∧
 (∃ R_253:Value → World → Prop,(∀ v w w_1,S_182 w w_1 → R_253 v w → R_253 v w_1) ∧
 (∀ w,C_179 w → ∀ v160,R_249 v160 w → (gdM (gd v160 true) (oM prog (.load 41 (.tmp 0)) 41 [v10]) (fun v w_1=>C_179 w_1 ∧ S_182 w w_1 ∧ R_253 v w_1) w)) ∧
 (∃ R_255:Value → World → Prop,(∀ v w w_1,S_182 w w_1 → R_255 v w → R_255 v w_1) ∧
 (∀ w,C_179 w → ∀ v160,R_249 v160 w → (gdM (gd v160 true) (oM prog (.load 49 (.tmp 0)) 49 [v11]) (fun v w_1=>C_179 w_1 ∧ S_182 w w_1 ∧ R_255 v w_1) w)) ∧
 (∃ R_257:Value → World → Prop,(∀ v w w_1,S_182 w w_1 → R_257 v w → R_257 v w_1) ∧
 (∀ w,C_179 w → ∀ v160,R_249 v160 w → (gdM (gd v160 true) (oM prog (.load 49 (.tmp 0)) 49 [v12]) (fun v w_1=>C_179 w_1 ∧ S_182 w w_1 ∧ R_257 v w_1) w)) ∧
 (∃ R_259:Value → World → Prop,(∀ v w w_1,S_182 w w_1 → R_259 v w → R_259 v w_1) ∧
 (∀ w,C_179 w → ∀ v160,R_249 v160 w → (gdM (gd v160 true) (pureM a5) (fun v w_1=>C_179 w_1 ∧ S_182 w w_1 ∧ R_259 v w_1) w)) ∧
 (∃ R_261:Value → World → Prop,(∀ v w w_1,S_182 w w_1 → R_261 v w → R_261 v w_1) ∧
 (∀ w,C_179 w → ∀ v160,R_249 v160 w → ∀ v161,R_251 v161 w → ∀ v162,R_253 v162 w → ∀ v163,R_255 v163 w → ∀ v164,R_257 v164 w → ∀ v165,R_259 v165 w → (gdM (gd v160 true) (callM prog 32 #[v161,v162,v163,v164,v165]) (fun v w_1=>C_179 w_1 ∧ S_182 w w_1 ∧ R_261 v w_1) w)) ∧
 (∃ R_268:Value → World → Prop,(∀ v w w_1,S_182 w w_1 → R_268 v w → R_268 v w_1) ∧
 (∀ w,C_179 w → ∀ v160,R_249 v160 w → (gdM (gd v160 true) (oM prog (.load 32 (.tmp 0)) 32 [v8]) (fun v w_1=>C_179 w_1 ∧ S_182 w w_1 ∧ R_268 v w_1) w)) ∧
 (∃ R_270:Value → World → Prop,(∀ v w w_1,S_182 w w_1 → R_270 v w → R_270 v w_1) ∧
 (∀ w,C_179 w → ∀ v160,R_249 v160 w → (gdM (gd v160 true) (oM prog (.load 41 (.tmp 0)) 41 [v10]) (fun v w_1=>C_179 w_1 ∧ S_182 w w_1 ∧ R_270 v w_1) w)) ∧
 (∃ R_272:Value → World → Prop,(∀ v w w_1,S_182 w w_1 → R_272 v w → R_272 v w_1) ∧
 (∀ w,C_179 w → ∀ v160,R_249 v160 w → (gdM (gd v160 true) (oM prog (.load 49 (.tmp 0)) 49 [v11]) (fun v w_1=>C_179 w_1 ∧ S_182 w w_1 ∧ R_272 v w_1) w)) ∧
 (∃ R_274:Value → World → Prop,(∀ v w w_1,S_182 w w_1 → R_274 v w → R_274 v w_1) ∧
 (∀ w,C_179 w → ∀ v160,R_249 v160 w → (gdM (gd v160 true) (oM prog (.load 49 (.tmp 0)) 49 [v12]) (fun v w_1=>C_179 w_1 ∧ S_182 w w_1 ∧ R_274 v w_1) w)) ∧
 (∃ R_276:Value → World → Prop,(∀ v w w_1,S_182 w w_1 → R_276 v w → R_276 v w_1) ∧
 (∀ w,C_179 w → ∀ v160,R_249 v160 w → (gdM (gd v160 true) (pureM a5) (fun v w_1=>C_179 w_1 ∧ S_182 w w_1 ∧ R_276 v w_1) w)) ∧
 (∀ w,C_179 w → ∀ v134,R_183 v134 w → ∀ v135,R_184 v135 w → ∀ v136,R_186 v136 w → ∀ v137,R_188 v137 w → ∀ v138,R_190 v138 w → ∀ v139,R_194 v139 w → ∀ v140,R_197 v140 w → ∀ v141,R_199 v141 w → ∀ v142,R_201 v142 w → ∀ v143,R_203 v143 w → ∀ v144,R_207 v144 w → ∀ v145,R_210 v145 w → ∀ v146,R_212 v146 w → ∀ v147,R_214 v147 w → ∀ v148,R_216 v148 w → ∀ v149,R_220 v149 w → ∀ v150,R_223 v150 w → ∀ v151,R_225 v151 w → ∀ v152,R_227 v152 w → ∀ v153,R_229 v153 w → ∀ v154,R_233 v154 w → ∀ v155,R_236 v155 w → ∀ v156,R_238 v156 w → ∀ v157,R_240 v157 w → ∀ v158,R_242 v158 w → ∀ v159,R_246 v159 w → ∀ v160,R_249 v160 w → ∀ v161,R_251 v161 w → ∀ v162,R_253 v162 w → ∀ v163,R_255 v163 w → ∀ v164,R_257 v164 w → ∀ v165,R_259 v165 w → ∀ v166,R_261 v166 w → ∀ v167,R_268 v167 w → ∀ v168,R_270 v168 w → ∀ v169,R_272 v169 w → ∀ v170,R_274 v170 w → ∀ v171,R_276 v171 w → (
 gdM (gd v160 true) (callM prog 55 #[v167,v168,v169,v170,v171]) (fun v172 w=>
 gdM (gd v160 true) (oM prog (.binOp .eql 4 (.tmp 0) (.tmp 1) 4) 4 [v166,v172]) (fun v173 w=>
 oM prog (.pick (.tmp 0) (.tmp 1) (.tmp 2)) 4 [v160,v173,(.bool false)] (fun v174 w=>
 heldM w (fun C_319 w=>(((true:Bool) = true) ∧ (pureH v32 C_319 (fun v175=>
 pureH v175 C_319 (fun v176=>
 gdH (gd v176 true) (pureH v131) C_319 (fun v177=>
 oH prog (.pick (.tmp 0) (.tmp 1) (.tmp 2)) 4 [v176,v177,(.bool false)] C_319 (fun v178=>
 pureH v178 C_319 (fun v179=>
 gdH (gd v179 true) (pureH v174) C_319 (fun v180=>
 oH prog (.pick (.tmp 0) (.tmp 1) (.tmp 2)) 4 [v179,v180,(.bool false)] C_319 (fun v181=>
 pureH v181 C_319 (fun v182=>
 gdH (gd v182 true) (oH prog (.load 41 (.tmp 0)) 41 [v10]) C_319 (fun v183=>
 gdH (gd v182 true) (oH prog (.load 41 (.tmp 0)) 41 [v10]) C_319 (fun v185=>
 ∃ S_330:World → World → Prop,∃ R_331:Value → World → Prop,(∀ v w w_1,S_330 w w_1 → R_331 v w → R_331 v w_1) ∧
 (∀ w,C_319 w → (gdM (gd v182 true) (callM prog 56 #[v183]) (fun v w_1=>C_319 w_1 ∧ S_330 w w_1 ∧ R_331 v w_1) w)) ∧
 (∃ R_332:Value → World → Prop,(∀ v w w_1,S_330 w w_1 → R_332 v w → R_332 v w_1) ∧
 (∀ w,C_319 w → (gdM (gd v182 true) (callM prog 57 #[v185]) (fun v w_1=>C_319 w_1 ∧ S_330 w w_1 ∧ R_332 v w_1) w)) ∧
 (∃ R_333:Value → World → Prop,(∀ v w w_1,S_330 w w_1 → R_333 v w → R_333 v w_1) ∧
 (∀ w,C_319 w → ∀ v184,R_331 v184 w → ∀ v186,R_332 v186 w → (gdM (gd v182 true) (oM prog (.binOp .eql 9 (.tmp 0) (.tmp 1) 9) 4 [v184,v186]) (fun v w_1=>C_319 w_1 ∧ S_330 w w_1 ∧ R_333 v w_1) w)) ∧
 (∃ R_336:Value → World → Prop,(∀ v w w_1,S_330 w w_1 → R_336 v w → R_336 v w_1) ∧
 (∀ w,C_319 w → ∀ v187,R_333 v187 w → (oM prog (.pick (.tmp 0) (.tmp 1) (.tmp 2)) 4 [v182,v187,(.bool false)] (fun v w_1=>C_319 w_1 ∧ S_330 w w_1 ∧ R_336 v w_1) w)) ∧
 (∃ R_338:Value → World → Prop,(∀ v w w_1,S_330 w w_1 → R_338 v w → R_338 v w_1) ∧
 (∀ w,C_319 w → ∀ v188,R_336 v188 w → (C_319 w ∧ S_330 w w ∧ R_338 v188 w)) ∧
 (∃ R_340:Value → World → Prop,(∀ v w w_1,S_330 w w_1 → R_340 v w → R_340 v w_1) ∧
 (∀ w,C_319 w → ∀ v189,R_338 v189 w → (gdM (gd v189 true) (oM prog (.load 32 (.tmp 0)) 32 [v8]) (fun v w_1=>C_319 w_1 ∧ S_330 w w_1 ∧ R_340 v w_1) w)) ∧
 (∃ R_342:Value → World → Prop,(∀ v w w_1,S_330 w w_1 → R_342 v w → R_342 v w_1) ∧
 (∀ w,C_319 w → ∀ v189,R_338 v189 w → (gdM (gd v189 true) (oM prog (.load 41 (.tmp 0)) 41 [v10]) (fun v w_1=>C_319 w_1 ∧ S_330 w w_1 ∧ R_342 v w_1) w)) ∧
 (∃ R_344:Value → World → Prop,(∀ v w w_1,S_330 w w_1 → R_344 v w → R_344 v w_1) ∧
 (∀ w,C_319 w → ∀ v189,R_338 v189 w → (gdM (gd v189 true) (pureM a7) (fun v w_1=>C_319 w_1 ∧ S_330 w w_1 ∧ R_344 v w_1) w)) ∧
 (∃ R_346:Value → World → Prop,(∀ v w w_1,S_330 w w_1 → R_346 v w → R_346 v w_1) ∧
 (∀ w,C_319 w → ∀ v189,R_338 v189 w → ∀ v190,R_340 v190 w → ∀ v191,R_342 v191 w → ∀ v192,R_344 v192 w → (gdM (gd v189 true) (callM prog 39 #[v190,v191,v192]) (fun v w_1=>C_319 w_1 ∧ S_330 w w_1 ∧ R_346 v w_1) w)) ∧
 (∃ R_351:Value → World → Prop,(∀ v w w_1,S_330 w w_1 → R_351 v w → R_351 v w_1) ∧
 (∀ w,C_319 w → ∀ v189,R_338 v189 w → (gdM (gd v189 true) (oM prog (.load 32 (.tmp 0)) 32 [v8]) (fun v w_1=>C_319 w_1 ∧ S_330 w w_1 ∧ R_351 v w_1) w)) ∧
 (∃ R_353:Value → World → Prop,(∀ v w w_1,S_330 w w_1 → R_353 v w → R_353 v w_1) ∧
 (∀ w,C_319 w → ∀ v189,R_338 v189 w → (gdM (gd v189 true) (oM prog (.load 41 (.tmp 0)) 41 [v10]) (fun v w_1=>C_319 w_1 ∧ S_330 w w_1 ∧ R_353 v w_1) w)) ∧
 (∃ R_355:Value → World → Prop,(∀ v w w_1,S_330 w w_1 → R_355 v w → R_355 v w_1) ∧
 (∀ w,C_319 w → ∀ v189,R_338 v189 w → (gdM (gd v189 true) (pureM a7) (fun v w_1=>C_319 w_1 ∧ S_330 w w_1 ∧ R_355 v w_1) w)) ∧
 (∀ w,C_319 w → ∀ v184,R_331 v184 w → ∀ v186,R_332 v186 w → ∀ v187,R_333 v187 w → ∀ v188,R_336 v188 w → ∀ v189,R_338 v189 w → ∀ v190,R_340 v190 w → ∀ v191,R_342 v191 w → ∀ v192,R_344 v192 w → ∀ v193,R_346 v193 w → ∀ v194,R_351 v194 w → ∀ v195,R_353 v195 w → ∀ v196,R_355 v196 w → (
 gdM (gd v189 true) (callM prog 58 #[v194,v195,v196]) (fun v197 w=>
 gdM (gd v189 true) (oM prog (.binOp .eql 3 (.tmp 0) (.tmp 1) 3) 4 [v193,v197]) (fun v198 w=>
 oM prog (.pick (.tmp 0) (.tmp 1) (.tmp 2)) 4 [v189,v198,(.bool false)] (fun v199 w=>
 K v199 w) w) w) w))))))))))))))))))))))))))) w) w) w))))))))))))))))))))))))))))))))))))))))))))) w) w) w)))))))))))))))))))))))))))))))))))))))) w) w) w) w) w) w) w) w) w) w) w) w) w) w) w) w) w) w) w) w) w) w) w) w) w) w) w) w) w) w) w) w) w) w) w) w) w) w) w) w) w) w)) w) w) w) w) w) w) w) w) w) w) w) w) w) w) w) w) w) w) w) w
theorem sh_10_ok {a0 a1 a2 a3 a4 a5 a6 a7:Value} {K:Value → World → Prop} {w:World} (h:sh_10 a0 a1 a2 a3 a4 a5 a6 a7 K w):callM prog 10 #[a0,a1,a2,a3,a4,a5,a6,a7] K w:=
 calls_of_code (fun i=>bif Nat.beq i 10 then .free [0,1,3,4] [2,5,6,7,8,9,10,11,12,13,14,15,16,17,18,19,20,21,22,23,24,25,26,27,28,29,30,31,32,33,34] [35,36,37,38] else bif Nat.beq i 11 then .free [0,1] [2,3,4,5,6,7,8,9,10,11,12,13,14,15,16,17,18,19,20,21,22,23,24,25,26,27,28,29,30,31,32,33,34,35,36,37,38,39] [40,41,42,43] else bif Nat.beq i 12 then .free [0,1,2,3,4,5,6,7,8,10] [9,11,12,13,14,15,16,17,18,19,20,21] [22,23,24,25] else 0) (fn:=Tryz.f10) (rs:=[.tmp 16]) Tryz.func10 rfl rfl (by kernel_rfl) (Nat.le_of_ble_eq_true rfl) (Eq.mp (by kernel_rfl) h)
end Go.Proofs
namespace Go.Proofs
open Go Go.Sh Go.RowKit FdSpec TkSpec CodeSpec
section
variable {K:Value → World → Prop} {w w0:World} {L:List (Addr × Value)}
theorem oM_buildSlice4 {P:Program} (T t i0 i1 i2 i3:Nat) (x y z u:Value) (n:Nat):oM P (.buildSlice t n #[(i0,.tmp 0),(i1,.tmp 1),(i2,.tmp 2),(i3,.tmp 3)]) T [x,y,z,u] K w = rM ((Instr.buildSlice t n #[(i0,x),(i1,y),(i2,z),(i3,u)]).run P w) K:=rM_of (by simp [xop,execOp,evalL,evE])
theorem mkLL4 {T:TypeId} (a1 a2 a3 a4:Option Addr) (n1 n2 n3 n4 c1 c2 c3 c4:Nat)
  (k:∀ g W,Below w.heap.size w W → g < W.heap.size → (∀ i (h:i < 4),∃ ad c,W.cell? ⟨g,i,none⟩ = some (.slice ad [n1,n2,n3,n4][i] c)) → K (.slice (some ⟨g,0,none⟩) 4 4) W) :
  oM Tryz.prog (.buildSlice 98 4 #[(0,.tmp 0),(1,.tmp 1),(2,.tmp 2),(3,.tmp 3)]) T [.slice a1 n1 c1,.slice a2 n2 c2,.slice a3 n3 c3,.slice a4 n4 c4] K w:=by
 rw [oM_buildSlice4]
 have e:(Instr.buildSlice 98 4 #[(0,.slice a1 n1 c1),(1,.slice a2 n2 c2),(2,.slice a3 n3 c3),(3,.slice a4 n4 c4)]).run Tryz.prog w = .ok (.slice (some ⟨w.heap.size,0,none⟩) 4 4) (w.alloc (.cells #[.slice a1 n1 c1,.slice a2 n2 c2,.slice a3 n3 c3,.slice a4 n4 c4] 22)):=by kernel_rfl
 rw [e]
 refine k _ _ ((Below.refl _ w).alloc (Nat.le_refl _) _) (by simp) (fun i hi=>?_)
 match i,hi with
 | 0,_=>exact ⟨_,_,(World.cell?_alloc_at _ _ _ _ rfl).trans rfl⟩
 | 1,_=>exact ⟨_,_,(World.cell?_alloc_at _ _ _ _ rfl).trans rfl⟩
 | 2,_=>exact ⟨_,_,(World.cell?_alloc_at _ _ _ _ rfl).trans rfl⟩
 | 3,_=>exact ⟨_,_,(World.cell?_alloc_at _ _ _ _ rfl).trans rfl⟩
theorem checks_law (s:Stp) (key:Int) (t:Tkt) (x y:Spd) (b:Bld) (m:List UInt8) {l:List Int} {v xv yv lv bv:Value} (hkey:I64 key) (hm:m.length ≤ 140737488351232) (hT:Cd.LaidE w) (hs:SetR w s v) (ht:TktR t) (hx:SpdR w x xv) (hy:SpdR w y yv) (hl:Ints w lv l) (hb:BldR w b bv)
  (k:∀ w',Below w.heap.size w w' → K (.bool true) w') :
  callM Tryz.prog 10 #[stpV s v,.int .i64 key,tktV t,spdV x xv,spdV y yv,lv,bldV b bv,.string ⟨m.toArray⟩] K w:=by
 apply sh_10_ok
 unfold sh_10
 have hDb:=hs.db
 have hL:Cd.Laid w:=hT.toLaid
 have hx':=hx
 have hy':=hy
 have hb':=hb
 obtain ⟨ad,c,rfl⟩:=hs.ints.isSlice
 obtain ⟨xad,xc,rfl⟩:=hx.answers.isSlice
 obtain ⟨yad,yc,rfl⟩:=hy.answers.isSlice
 obtain ⟨lad,lc,rfl⟩:=hl.isSlice
 obtain ⟨bad,bc,rfl⟩:=hb.ys.isSlice
 refine box_kn (cs:=stpC s (.slice ad s.bases.length c)) rfl (.start w) fun b1 W1 hk hb1 hbb=>?_
 refine box_kn (cs:=tktC t) rfl hk fun b2 W2 hk hb2 hbb=>?_
 refine box_kn (cs:=spdC x (.slice xad x.answers.length xc)) rfl hk fun b3 W3 hk hb3 hbb=>?_
 refine box_kn (cs:=spdC y (.slice yad y.answers.length yc)) rfl hk fun b4 W4 hk hb4 hbb=>?_
 refine box_kn (cs:=bldC b (.slice bad b.ys.length bc)) rfl hk fun b5 W5 hk hb5 hbb=>?_
 clear hb1 hb2 hb3 hb4 hb5
 refine sane_ok (hDb.next hk.below) (hL.below hk.below hL.size) (fun w1 h=>?_)
 have hk:=hk.next h
 clear h
 refine Xb7 hk.cells ?_
 refine mkLL4 _ _ _ _ _ _ _ _ _ _ _ _ fun gl w2 h2 hgl hc=>?_
 have hk:=hk.next h2
 clear h2
 refine Few_ok s gl 4 [l.length,b.ys.length,x.answers.length,y.answers.length] (hs.next hk.below) hgl hc (by simp) (fun w3 h3=>?_)
 have hk:=hk.next h3
 clear h3 hc
 cases hf:fewM s [l.length,b.ys.length,x.answers.length,y.answers.length] with
 | false=>
  refine Xa0 ?_
  exact k _ hk.below
 | true=>
 clear hf
 by_cases h300:(300:Int) < m.length
 ·refine Xa @h300 ?_
  exact k _ hk.below
 refine Xa (An2 hk.cells @h300) ?_
 refine Use_ok s b x.dare hx'.dare (hs.next hk.below) (hl.next hk.below) (hb'.next hk.below) (fun w4 ov h hu=>?_)
 have hk:=hk.next h
 clear h
 obtain ⟨oad,oc,rfl⟩:=hu.isSlice
 refine Xb2_0 ?_
 refine local_spdK _ _ _ _ hk (fun g1 w5 hk h hg1=>?_)
 have hu:=hu.next h
 clear h
 refine Xa hk.cells ?_
 refine rUse_ok s b x.dare hx'.dare (hs.next hk.below) (hl.next hk.below) (hb'.next hk.below) (fun w6 ov2 h hv=>?_)
 have hk:=hk.next h
 have hu:=hu.next h
 clear h
 obtain ⟨pad,pc,rfl⟩:=hv.isSlice
 refine Xb2_0 ?_
 refine local_spdK _ _ _ _ hk (fun g2 w7 hk h hg2=>?_)
 have hu:=hu.next h
 have hv:=hv.next h
 clear h
 have hud:I64 (useM s l b x.dare).1.dare:=by
  unfold useM
  split
  ·exact hx'.dare
  ·constructor <;> decide
 generalize (useM s l b x.dare).1 = u at *
 generalize (useM s l b x.dare).2 = ub at *
 refine Xa hk.cells ?_
 refine Trace_ok s t x y ht (hs.next hk.below) (hx'.next hk.below) (hy'.next hk.below) (fun w8 tv h hta=>?_)
 have hk:=hk.next h
 have hu:=hu.next h
 have hv:=hv.next h
 clear h
 refine Xa hk.cells ?_
 refine rTrace_ok s t x y ht (hs.next hk.below) (hx'.next hk.below) (hy'.next hk.below) (fun w9 tv2 h htb=>?_)
 have hk:=hk.next h
 have hu:=hu.next h
 have hv:=hv.next h
 have hta:=hta.next h
 clear h
 generalize (traceM s t x y).1 = tr at *
 generalize (traceM s t x y).2 = trb at *
 refine Xa hk.cells ?_
 refine Decode_ok m (by omega) (hT.below hk.below hL.size) (fun w10 h=>?_)
 have hk:=hk.next h
 have hu:=hu.next h
 have hv:=hv.next h
 have hta:=hta.next h
 have htb:=htb.next h
 clear h
 refine Xb2_0 ?_
 refine local_tkt _ hk (fun g3 w11 hk h hg3=>?_)
 have hu:=hu.next h
 have hv:=hv.next h
 have hta:=hta.next h
 have htb:=htb.next h
 clear h
 refine rDecode_ok m (by omega) (fun w12 h=>?_)
 have hk:=hk.next h
 have hu:=hu.next h
 have hv:=hv.next h
 have hta:=hta.next h
 have htb:=htb.next h
 clear h
 refine Xb2_0 ?_
 refine local_tkt _ hk (fun g4 w13 hk h hg4=>?_)
 have hu:=hu.next h
 have hv:=hv.next h
 have hta:=hta.next h
 have htb:=htb.next h
 clear h
 generalize (decM m).1 = dt at *
 generalize (decM m).2 = dtb at *
 refine Xa0 ?_
 have hk:=hk.drew
 have hu:SpdR { w13 with drawn:=w13.drawn + 1 } u _:=⟨hud,hu.next (Below.refl _ w13).drew⟩
 have hv:SpdR { w13 with drawn:=w13.drawn + 1 } u _:=⟨hud,hv.next (Below.refl _ w13).drew⟩
 have hta:Ints { w13 with drawn:=w13.drawn + 1 } _ _:=hta.next (Below.refl _ w13).drew
 have htb:Ints { w13 with drawn:=w13.drawn + 1 } _ _:=htb.next (Below.refl _ w13).drew
 refine ⟨Nx { w13 with drawn:=w13.drawn + 1 },Below.refl _ _,rfl,?_⟩
 generalize ({ w13 with drawn:=w13.drawn + 1 }:World) = W at hk hu hv hta htb ⊢
 refine Xc (fun W0 hW0=>(hk.next hW0).cells) ?_
 refine ⟨Nx,?_⟩
 apply monoE
 ·intro w1 h1
  refine Xa0 ?_
  exact Formed_ok s t ht (hs.next (hk.next h1).below) (fun w2 h2=>⟨h1.on h2,h2,rfl⟩)
 apply monoE
 ·intro w1 h1
  refine Xa0 ?_
  exact rFormed_ok s t ht (hs.next (hk.next h1).below) (fun w2 h2=>⟨h1.on h2,h2,rfl⟩)
 refine Xd (fun w9 h9=>(hk.next h9).cells) ?_
 apply monoE
 ·(intro w9 h9; repeat (intro v9 e9; try (obtain rfl:=e9)))
  refine Xa0 ?_
  exact Inner_ok s t ht (hs.next (hk.next h9).below) (hL.below (hk.next h9).below hL.size) (fun w2 h2=>⟨h9.on h2,h2,rfl⟩)
 refine Xd (fun w9 h9=>(hk.next h9).cells) ?_
 apply monoE
 ·(intro w9 h9; repeat (intro v9 e9; try (obtain rfl:=e9)))
  refine Xa0 ?_
  exact rInner_ok s t ht (hs.next (hk.next h9).below) (fun w2 h2=>⟨h9.on h2,h2,rfl⟩)
 refine Xd (fun w9 h9=>(hk.next h9).cells) ?_
 apply monoE
 ·(intro w9 h9; repeat (intro v9 e9; try (obtain rfl:=e9)))
  refine Xa0 ?_
  exact Valid_ok s key t hkey ht (hs.next (hk.next h9).below) (hL.below (hk.next h9).below hL.size) (fun w2 h2=>⟨h9.on h2,h2,rfl⟩)
 refine Xd (fun w9 h9=>(hk.next h9).cells) ?_
 apply monoE
 ·(intro w9 h9; repeat (intro v9 e9; try (obtain rfl:=e9)))
  refine Xa0 ?_
  exact rVal_ok s key t ht (hs.next (hk.next h9).below) (fun w2 h2=>⟨h9.on h2,h2,rfl⟩)
 refine Xd (fun w9 h9=>(hk.next h9).cells) ?_
 apply monoE
 ·(intro w9 h9; repeat (intro v9 e9; try (obtain rfl:=e9)))
  refine Xa0 ?_
  exact Accepts_ok s t x ht (hs.next (hk.next h9).below) (hx'.next (hk.next h9).below) (fun w2 h2=>⟨h9.on h2,h2,rfl⟩)
 refine Xd (fun w9 h9=>(hk.next h9).cells) ?_
 (intro w9 h9; repeat (intro v9 e9; try (obtain rfl:=e9)))
 have hk:=hk.next h9
 have hu:=hu.next h9
 have hv:=hv.next h9
 have hta:=hta.next h9
 have htb:=htb.next h9
 clear h9
 refine Xa0 ?_
 refine rAccepts_ok s t x ht (hs.next hk.below) (hx'.next hk.below) (fun w9 h=>?_)
 have hk:=hk.next h
 have hu:=hu.next h
 have hv:=hv.next h
 have hta:=hta.next h
 have htb:=htb.next h
 clear h
 refine Xa0 ?_
 have hk:=hk.drew
 have hu:SpdR { w9 with drawn:=w9.drawn + 1 } _ _:=hu.next (Below.refl _ w9).drew
 have hv:SpdR { w9 with drawn:=w9.drawn + 1 } _ _:=hv.next (Below.refl _ w9).drew
 have hta:Ints { w9 with drawn:=w9.drawn + 1 } _ _:=hta.next (Below.refl _ w9).drew
 have htb:Ints { w9 with drawn:=w9.drawn + 1 } _ _:=htb.next (Below.refl _ w9).drew
 refine ⟨Nx { w9 with drawn:=w9.drawn + 1 },Below.refl _ _,rfl,?_⟩
 generalize ({ w9 with drawn:=w9.drawn + 1 }:World) = W at *
 refine Xc (fun W0 hW0=>(hk.next hW0).cells) ?_
 refine ⟨Nx,?_⟩
 apply monoE
 ·(intro w9 h9; repeat (intro v9 e9; try (obtain rfl:=e9)))
  refine Xa0 ?_
  refine SameSpend_ok u u (hu.next h9) (hv.next h9) (fun w2 h2=>?_)
  have e:(decide (u.dare = u.dare) && decide (u.answers = u.answers)) = true:=by simp
  rw [e]
  exact ⟨h9.on h2,h2,rfl⟩
 refine Xd (fun w9 h9=>(hk.next h9).cells) ?_
 apply monoE
 ·(intro w9 h9; repeat (intro v9 e9; try (obtain rfl:=e9)))
  refine Xa0 ?_
  refine Same_ok (hta.next h9) (htb.next h9) (fun w2 h2=>?_)
  rw [decide_eq_true rfl]
  exact ⟨h9.on h2,h2,rfl⟩
 refine Xd (fun w9 h9=>(hk.next h9).cells) ?_
 apply monoE
 ·(intro w9 h9; repeat (intro v9 e9; try (obtain rfl:=e9)))
  refine Xa0 ?_
  exact Guilty_ok s t x y ht (hs.next (hk.next h9).below) (hx'.next (hk.next h9).below) (hy'.next (hk.next h9).below) (hl.next (hk.next h9).below) (fun w2 h2=>⟨h9.on h2,h2,rfl⟩)
 refine Xd (fun w9 h9=>(hk.next h9).cells) ?_
 (intro w9 h9; repeat (intro v9 e9; try (obtain rfl:=e9)))
 have hk:=hk.next h9
 clear h9
 refine Xa0 ?_
 refine rGuilty_ok s t x y ht (hs.next hk.below) (hx'.next hk.below) (hy'.next hk.below) (hl.next hk.below) (fun w10 h=>?_)
 have hk:=hk.next h
 clear h
 refine Xa0 ?_
 have hk:=hk.drew
 refine ⟨Nx { w10 with drawn:=w10.drawn + 1 },Below.refl _ _,rfl,?_⟩
 generalize ({ w10 with drawn:=w10.drawn + 1 }:World) = W at *
 refine Xc (fun W0 hW0=>(hk.next hW0).cells) ?_
 refine ⟨Nx,?_⟩
 apply monoE
 ·(intro w9 h9; repeat (intro v9 e9; try (obtain rfl:=e9)))
  refine Xa0 ?_
  exact Encode_ok t ht (hL.below (hk.next h9).below hL.size) (fun w2 h2=>⟨h9.on h2,h2,rfl⟩)
 apply monoE
 ·(intro w9 h9; repeat (intro v9 e9; try (obtain rfl:=e9)))
  refine Xa0 ?_
  exact rEncode_ok t ht (fun w2 h2=>⟨h9.on h2,h2,rfl⟩)
 refine Xd (fun w9 h9=>(hk.next h9).cells) ?_
 apply monoE
 ·(intro w9 h9; repeat (intro v9 e9; try (obtain rfl:=e9)))
  refine Xa0 ?_
  exact LendDare_ok s t m (by omega) ht (hs.next (hk.next h9).below) (hL.below (hk.next h9).below hL.size) (fun w2 h2=>⟨h9.on h2,h2,rfl⟩)
 refine Xd (fun w9 h9=>(hk.next h9).cells) ?_
 (intro w9 h9; repeat (intro v9 e9; try (obtain rfl:=e9)))
 have hk:=hk.next h9
 clear h9
 refine Xa0 ?_
 refine rLendDare_ok s t m (by omega) ht (hs.next hk.below) (fun w11 h=>?_)
 refine Xa0 ?_
 exact k _ (hk.next h).below
end
end Go.Proofs
