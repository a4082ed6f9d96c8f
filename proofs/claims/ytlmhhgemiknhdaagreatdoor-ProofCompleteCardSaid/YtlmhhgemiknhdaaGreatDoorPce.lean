/- Parts of the proof of the seat's statements (CtR, CtS, CtT, CtU, CtV, PrPrv, HPv, CtW, CtX, CtY, CtZ, PvA, PvB, PvC, PvD, PvE, HLt, HLw, GrS, GrT, PrExt, LwA, LwB, SmFacts, LwC, PrFew, GrU, LwD, RK4, HRa, RfA, RfB): lemmas about the given translation and plain laws. No condition of their own. -/
import Derived.Test.YtlmhhgemiknhdaaGreatDoorPcd
import Derived.Test.YtlmhhgemiknhdaaGreatDoorProg
set_option linter.all false
set_option maxRecDepth 100000
namespace Go.Proofs
open Go Go.Sh Go.RowKit FdSpec TkSpec CodeSpec PrSpec FdPoly
section
variable {K:VK} {w w' w0 W W':World} {L:List (Addr × Value)} {g n B:Nat} {row:Option Nat}
theorem bools_of {l:List Bool} (h:Holds W g 4 (l.map Value.bool)) (hl:l.length ≤ 9223372036854775807):BoolsR W (.slice (some ⟨g,0,none⟩) l.length l.length) l:=by
 refine ⟨⟨_,_,rfl,.inr ⟨g,0,rfl,h.lt,fun i hi=>⟨[.bool l[i]],rfl,fun j u hj=>?_,_,rfl,rfl⟩⟩⟩,hl⟩
 obtain ⟨h1,rfl⟩:=gS hj
 have hj0:j = 0:=by simpa using h1
 subst hj0
 have:=h.cell i (by simpa using hi)
 simpa using this
theorem make_bools {T:TypeId} {n:Nat} (hn:n ≤ 65536) (k:∀ g W,Bw w W → w.heap.size ≤ g → Holds W g 4 ((List.replicate n false).map Value.bool) → K (.slice (some ⟨g,0,none⟩) n n) W):oM Tryz.prog (.makeSlice 61 (.tmp 0) (.tmp 1)) T [.int .i64 n,.int .i64 n] K w:=by
 obtain ⟨w',hr,ho,hg⟩:=run_makeSlice_full (P:=Tryz.prog) (w:=w) w.heap.size 61 4 ((Tryz.prog.info? 4).getD default) (.bool false) 1 (by kernel_rfl) (by kernel_rfl) (by kernel_rfl) (by kernel_rfl) .i64 .i64 n (by omega) (by
  have:((Tryz.prog.info? 4).getD default).bytes = 1:=by kernel_rfl
  rw [this]; omega) (by simp only [maxLen]; omega) (rL)
 rw [oM_makeSlice,hr]
 have hb:Bw w w':=⟨hg.os,hg.tape,hg.output,hg.size,fun k hk=>hg.block k hk (by simp)⟩
 have hcells:(madeCells (Value.bool false).cells (n * 1)).toList = List.replicate n (.bool false):=by
  rw [Nat.mul_one]
  apply List.ext_getElem?
  intro i
  unfold madeCells
  simp [Value.cells,List.getElem?_replicate,Array.getElem?_ofFn]
  try (split <;> simp_all [Nat.mod_one])
 refine k _ _ hb (rL) ?_
 rcases ho.2 with ⟨h1,h2⟩ | ⟨g,cap,cur,h1,hb2,hg2,hc,hm,hs,ht⟩
 ·cases h1
 ·cases h1
  rw [hcells,Nat.mul_one] at ht
  have e:cur.toList = List.replicate n (.bool false):=by
   rw [← ht,List.take_of_length_le (by simp; omega)]
  unfold Holds
  rw [hg2,List.map_replicate,← e]
theorem root_I64 (s:Stp) (goal:List Cls) (ctx:Bytes) (ds:L2) (ns:L3):I64 (rootM s goal ctx ds ns):=by
 unfold rootM
 by_cases h:okN s.g.Q
 ·exact I64_of (numberM_in h _) h
 ·unfold numberM; rw [if_neg h]; exact I64_0
theorem fill_I64 (q:Int) (bs:List Bool) (ds:List Int) (r:Int):∀ n ∈ fillM q bs ds r,I64 n:=by
 intro n hn
 unfold fillM at hn
 obtain ⟨i,_,rfl⟩:=List.mem_map.1 hn
 unfold atM
 cases throughM q (0 :: ptsX 0 bs) (r :: ptsY bs ds) with
 | nil=>exact I64_0
 | cons a l=>exact addM_I64 _ _ _
def VfJ (s:Stp) (goal:List Cls) (ds:L2) (r:Int) (w0:World) (L:List (Addr × Value)) (vs:List Value) (W:World):Prop:=Kn w0 L W ∧ ∃ (u0 u1 u2 u3 u4:Value) (i:Nat),vs = [u0,u1,u2,u3,u4,.int .i64 (i:Int)] ∧ i ≤ goal.length ∧
 ∀ (j:Nat) (c:Cls) (d:List Int),j < i → goal[j]? = some c → ds[j]? = some d → fillM s.g.Q (lastB c.claims.length c.need) d r = d
def VgK (n m:Nat) (g:Nat) (w0:World) (vs:List Value) (W:World):Prop:=Bw w0 W ∧ ∃ (u:Value) (j:Nat),vs = [u,.int .i64 (j:Int)] ∧ j ≤ m ∧ Holds W g 4 ((lastN n j).map Value.bool)
theorem Verify_ok (s:Stp) (goal:List Cls) (ctx:Bytes) (ds:L2) (ns:L3) {sv gv dv nv:Value} (hs:SetR w s sv) (hg:GoalR w gv goal) (hd:ListsR w dv ds) (hn:NumsR w nv ns) (hl:Cd.Laid w)
  (hN:(goalL goal).length ≤ 1000000) (hctx:ctx.length ≤ 1000000)
  (k:∀ w',Bw w w' → K (.bool (verifyM s goal ctx ds ns)) w'):callM Tryz.prog 30 #[stpV s sv,gv,.string ⟨ctx.toArray⟩,prfV dv nv] K w:=by
 apply sh_30_ok
 unfold sh_30
 have hs':=hs
 have hg':=hg
 have hd':=hd
 have hn':=hn
 obtain ⟨ad,c,rfl⟩:=hs.ints.isSlice
 obtain ⟨gad,gc,rfl⟩:=hg.isSlice
 obtain ⟨dad,dc,rfl⟩:=hd.isSlice
 obtain ⟨nad,nc,rfl⟩:=hn.isSlice
 have hlg:=hg.len
 refine box_kn (cs:=stpC s (.slice ad s.bases.length c)) rfl (.start w) fun b1 W hk hb1 hbb=>?_
 refine box_kn (cs:=prfC (.slice dad ds.length dc) (.slice nad ns.length nc)) rfl hk fun b2 W hk hb2 hbb2=>?_
 clear hb1 hb2
 have no:verifyM s goal ctx ds ns = false → ∀ w',Bw w w' → K (.bool false) w':=fun e w' h=>by
  have:=k w' h
  rwa [e] at this
 repeat (any_goals ((with_reducible refine oG fun X Y=>?_); simp [go_sem,hk.cells]; apply Y; clear Y X))
 refine ValidGoal_ok s (hs'.next hk.below) (hg'.next (atOf_stay cls_vstay) hk.below) (fun w2 h2=>?_)
 have hk:=hk.next h2
 cases hgm:goalM s goal with
 | false=>
  repeat (any_goals (first
  | (with_reducible first|refine zD ?_|refine yB ?_|refine yL ?_)
  | ((with_reducible refine oG fun X Y=>?_); simp [go_sem]; apply Y; clear Y X)))
  exact no (by simp [verifyM,hgm]) _ hk.below
 | true=>
 repeat (any_goals (first
 | (with_reducible first|refine pureM_in ?_|refine zC ?_)
 | ((with_reducible refine oG fun X Y=>?_); simp [go_sem,hk.cells]; apply Y; clear Y X)))
 refine shaped_ok s (hs'.next hk.below) (hg'.next (atOf_stay cls_vstay) hk.below) (hd'.next (atOf_stay ints_stay) hk.below) (hn'.next (atOf_stay lists_vstay) hk.below) (fun w3 h3=>?_)
 have hk:=hk.next h3
 cases hsm:shapedM s goal ds ns with
 | false=>
  repeat (any_goals (first
  | (with_reducible first|refine zC ?_|refine yC ?_|refine yL ?_)
  | ((with_reducible refine oG fun X Y=>?_); simp [go_sem]; apply Y; clear Y X)))
  exact no (by simp [verifyM,hsm]) _ hk.below
 | true=>
 repeat (any_goals (first
 | (with_reducible first|refine zC ?_|refine yC ?_|refine yM ?_)
 | ((with_reducible refine oG fun X Y=>?_); simp [go_sem,hk.cells]; apply Y; clear Y X)))
 refine root_ok s goal ctx ds ns (hs'.next hk.below) (hg'.next (atOf_stay cls_vstay) hk.below) (hd'.next (atOf_stay ints_stay) hk.below) (hn'.next (atOf_stay lists_vstay) hk.below) (hl.below hk.below hl.size) hgm hsm hN hctx (fun w4 h4=>?_)
 have hk:=hk.next h4
 have hrI:=root_I64 s goal ctx ds ns
 have hver:verifyM s goal ctx ds ns = fitL s (rootM s goal ctx ds ns) goal ds:=by simp [verifyM,hgm,hsm]
 rw [hver] at k no
 generalize rootM s goal ctx ds ns = r at *
 repeat (any_goals ((with_reducible refine oG fun X Y=>?_); simp [go_sem]; apply Y; clear Y X))
 refine ⟨VfJ s goal ds r w _,(fun vs _=>match vs with | [_,_,_,_,_,.int _ i]=>goal.length - i.toNat | _=>0),⟨hk,_,_,_,_,_,0,rfl,by omega,fun j c d h=>by omega⟩,?_⟩
 clear hk h2 h3 h4
 rintro _ _ W1 ⟨hk,u0,u1,u2,u3,u4,i,rfl,hi,hall⟩
 by_cases hin:i = goal.length
 ·subst hin
  repeat (any_goals (first
  | (with_reducible refine yM ?_)
  | ((with_reducible refine oG fun X Y=>?_); simp [go_sem]; apply Y; clear Y X)))
  have k:=k _ hk.below
  rw [fitL_of (fun j c d h1 h2=>hall j c d (gS h1).1 h1 h2)] at k
  exact k
 have hsm':=hsm
 unfold shapedM at hsm'
 simp only [bA,dE] at hsm'
 obtain ⟨⟨e1,e2⟩,hsl⟩:=hsm'
 have eg:goal[i]? = some goal[i]:=gE (by omega)
 have ed:ds[i]? = some ds[i]:=gE (by omega)
 have en:ns[i]? = some ns[i]:=gE (by omega)
 have hsh:=(shapedL_at hsl eg ed en).1
 obtain ⟨b1',o1,rfl,hlt1,cs1,_,hcell1,v1,rfl,hI1,hrow1⟩:=hg'.at (i:=i) (by omega)
 obtain ⟨bd,od,rfl,hltd,csd,_,hcelld,vd,rfl,hrowd⟩:=hd'.at (i:=i) (by omega)
 have c01:=hcell1 0 _ rfl
 have c11:=hcell1 1 _ rfl
 have cd:=hcelld 0 _ rfl
 simp only [Nat.add_zero,Nat.mul_one] at c01 cd
 have hcf:clsFine s goal[i] = true:=by
  unfold goalM at hgm
  simp only [bA] at hgm
  exact List.all_eq_true.1 hgm.1.2 _ (List.getElem_mem _)
 generalize goal[i] = cl at *
 generalize ds[i] = d at *
 simp only [clsFine,bA,dE] at hcf
 simp only [shapeOf,exponentsM,bA,dE] at hsh
 obtain ⟨ad1,cp1,rfl⟩:=hrow1.isSlice
 obtain ⟨m,hm⟩:∃ m:Nat,cl.need = (m:Int):=⟨cl.need.toNat,by omega⟩
 have hmn:m ≤ cl.claims.length:=by omega
 have hll1:(i:Int) < goal.length:=by omega
 have hll2:(i:Int) < ds.length:=by omega
 have bad:fillM s.g.Q (lastB cl.claims.length cl.need) d r ≠ d → fitL s r goal ds = false:=by
  intro hne
  rw [Bool.eq_false_iff]
  intro h
  exact hne (fitL_at h eg ed)
 rw [hm] at c01 hI1 bad
 iterate 4 (any_goals (first
 | (with_reducible refine yL ?_)
 | ((with_reducible refine oG fun X Y=>?_); simp [go_sem,(hk.below.cell hlt1).trans c01,(hk.below.cell hlt1).trans c11,hll1]; apply Y; clear Y X)))
 refine local_cls _ _ _ _ hk (fun b4 W4 hk4 hb4 hg4=>?_)
 iterate 3 (any_goals ((with_reducible refine oG fun X Y=>?_); simp [go_sem,hk4.cells]; apply Y; clear Y X))
 refine make_bools (by omega) (fun g W5 h5 hg5 hh5=>?_)
 have hk5:=hk4.next h5
 rw [← lastN_zero] at hh5
 repeat (any_goals ((with_reducible refine oG fun X Y=>?_); simp [go_sem,hk5.cells]; apply Y; clear Y X))
 refine ⟨VgK cl.claims.length m g W4,(fun vs _=>match vs with | [_,.int _ j]=>m - j.toNat | _=>0),⟨h5,u3,0,rfl,by omega,hh5⟩,?_⟩
 clear hh5
 rintro _ _ W6 ⟨h6,u5,j,rfl,hj,hh⟩
 by_cases hjm:¬ j = m
 ·have hjm':(j:Int) < m:=by omega
  obtain ⟨a,ha⟩:∃ a:Nat,a = cl.claims.length - 1 - j:=⟨_,rfl⟩
  have hsub:(cl.claims.length:Int) - 1 - (j:Int) = (a:Int):=by omega
  have hac:(a:Int) < cl.claims.length:=by omega
  repeat (any_goals (first
  | (with_reducible refine yL ?_)
  | ((with_reducible refine oG fun X Y=>?_); simp [go_sem,hjm',hsub,hac]; (try simp (disch:=omega) only [wrapI64,wrapU8,wrapU32,wrapU64]); apply Y; clear Y X)))
  refine arr_set sz_bool rfl rfl hh (i:=a) (by rw [List.length_map,lastN_len]; omega) (fun W7 hg7 hh7=>?_)
  have h7:=h6.grown hg7 h6.size (fun q hq=>by cases hq; exact hg5)
  repeat (any_goals ((with_reducible refine oG fun X Y=>?_); simp [go_sem]; (try simp (disch:=omega) only [wrapI64,wrapU8,wrapU32,wrapU64]); apply Y; clear Y X))
  refine ⟨⟨h7,_,j + 1,rfl,by omega,?_⟩,by show m - (((j + 1:Nat):Int)).toNat < m - ((j:Nat):Int).toNat; omega⟩
  rw [← lastN_set (by omega),List.map_set,← ha]
  exact hh7
 have hjm:j = m:=by omega
 subst hjm
 have hjn:¬ (j:Int) < j:=by omega
 have hk6:=hk4.next h6
 have hbr:=bools_of hh (by rw [lastN_len]; omega)
 rw [lastN_len,lastN_eq hmn,← hm] at hbr
 rw [← hm] at bad
 repeat (any_goals (first
 | (with_reducible refine yM ?_)
 | ((with_reducible refine oG fun X Y=>?_); simp [go_sem]; apply Y; clear Y X)))
 have hbl:Below W6.heap.size W6 { W6 with drawn:=W6.drawn + 1 }:=.drawn
 have hk9:=hk6.next hbl
 have hbr:=hbr.next (atOf_stay bools_vstay) hbl
 refine ⟨Nx { W6 with drawn:=W6.drawn + 1 },bR,rfl,?_⟩
 generalize ({ W6 with drawn:=W6.drawn + 1 }:World) = W9 at hk9 hbr ⊢
 repeat (any_goals (first
 | (with_reducible refine pX ?_)
 | ((with_reducible refine idOH ?_); (with_reducible refine oH_of ⟨_,rfl⟩ (fun W0 hW0=>by (refine oG (fun X Y=>?_)); simp [go_sem,(hk9.next hW0).cells,((hk9.next hW0).below.cell hltd).trans cd,hll2]; (first | exact Y _ _ ⟨rfl,rfl⟩ | exact ⟨by omega,Y _ _ ⟨rfl,rfl⟩⟩)) ?_))))
 refine ⟨Nx,?_⟩
 refine monoR (fun v w'=>Ints w' v (fillM s.g.Q (lastB cl.claims.length cl.need) d r)) (fun v w w1 hS h=>h.next hS) ?_ ?_
 ·intro w1 h1
  have hlB:(lastB cl.claims.length cl.need).length = cl.claims.length:=by simp [lastB]
  exact fill_ok s _ d r (hs'.next (hk9.next h1).below) (hbr.next (atOf_stay bools_vstay) h1) (hrowd.next (hk9.next h1).below) hrI (by rw [hlB]; omega) (by rw [hlB]; omega)
   (fun v w2 h2 ho=>⟨h1.on h2,h2,ho.ints (fill_I64 _ _ _ _) (by simp [fillM,hlB]; omega)⟩)
 rintro w10 h10 v10 hi10
 have hk10:=hk9.next h10
 refine Equal_ok hi10 (hrowd.next hk10.below) (fun w11 h11=>?_)
 have hk11:=hk10.next h11
 by_cases heq:fillM s.g.Q (lastB cl.claims.length cl.need) d r = d
 ·rw [decide_eq_true heq]
  repeat (any_goals (first
  | (with_reducible refine yM ?_)
  | ((with_reducible refine oG fun X Y=>?_); simp [go_sem]; (try simp (disch:=omega) only [wrapI64,wrapU8,wrapU32,wrapU64]); apply Y; clear Y X)))
  refine ⟨⟨⟨hk11.below,hk11.cells.2.2⟩,_,_,_,_,_,i + 1,rfl,by omega,?_⟩,?_⟩
  ·intro j' c' d' hj' h1 h2
   by_cases hji:j' < i
   ·exact hall j' c' d' hji h1 h2
   ·obtain rfl:j' = i:=by omega
    rw [eg] at h1
    rw [ed] at h2
    cases h1; cases h2
    exact heq
  ·show goal.length - (((i + 1:Nat):Int)).toNat < goal.length - ((i:Nat):Int).toNat
   omega
 ·rw [decide_eq_false heq]
  repeat (any_goals (first
  | (with_reducible refine yL ?_)
  | ((with_reducible refine oG fun X Y=>?_); simp [go_sem]; apply Y; clear Y X)))
  exact no (bad heq) _ hk11.below
theorem lit_bool {T:TypeId} (b:Bool) (k:∀ g W,Bw w W → w.heap.size ≤ g → Holds W g 4 [.bool b] → K (.slice (some ⟨g,0,none⟩) 1 1) W):oM Tryz.prog (.buildSlice 61 1 #[(0,.tmp 0)]) T [.bool b] K w:=by
 rw [oM_buildSlice1]; exact lit_run (by kernel_rfl) k
abbrev BoolG (B:Nat) (w:World) (v:Value) (l:List Bool):Prop:=GRow 1 4 (VOne BoolR) B (fun _=>False) w v l
theorem bools_append {v:Value} {l:List Bool} {b:Bool} {T:TypeId} (h:BoolG B w v l) (hB:B ≤ w.heap.size) (hh:Holds w g 4 [.bool b]) (hl:l.length < 1099511627776)
  (k:∀ v' w',BoolG B w' v' (l ++ [b]) → w.grownBy w' v.ownBlock → (∀ i,v'.ownBlock = some i → v.ownBlock = some i ∨ w.heap.size ≤ i) → K v' w') :
  oM Tryz.prog (.call { callee:=.builtin .append,args:=#[.tmp 0,.tmp 1],argTypes:=#[61,61] }) T [v,.slice (some ⟨g,0,none⟩) 1 1] K w:=by
 refine grow_append 61 T ((Tryz.prog.info? 4).getD default) (((Tryz.prog.info? 4).getD default).zero.getD undef) 1 (by kernel_rfl) (by kernel_rfl) (by kernel_rfl) (by kernel_rfl) (by kernel_rfl) (by kernel_rfl) (by decide) (by decide)
  h hB (x:=b) (xs:=[.bool b]) rfl (fun j u hj=>?_) (fun u hu=>?_) (fun _ _ _ _ _ _=>⟨_,rfl,rfl⟩) (fun i hi=>hi.elim) hl (fun v' w' h1 h2 h3 _=>k v' w' h1 h2 h3)
 ·obtain ⟨h1,rfl⟩:=gS hj
  have hj0:j = 0:=by simpa using h1
  subst hj0
  exact hh.cell 0 (by simp)
 ·rw [List.mem_singleton] at hu
  subst hu; rfl
structure OutB (w:World) (B g:Nat) (rows:List (List Bool)):Prop where
 ex:∃ vs:List Value,vs.length = rows.length ∧ Holds w g 61 vs ∧ (∀ (i:Nat) (v:Value) (r:List Bool),vs[i]? = some v → rows[i]? = some r → BoolG B w v r) ∧
  (∀ (i j:Nat) (v u:Value),i ≠ j → vs[i]? = some v → vs[j]? = some u → apart v u) ∧ (∀ (i:Nat) (v:Value),vs[i]? = some v → v.ownBlock ≠ some g)
 base:B ≤ g
theorem BoolG.keepS {v:Value} {l:List Bool} {S:Nat → Prop} (h:BoolG B w v l) (hf:Fr S w w') (hv:∀ i,v.ownBlock = some i → ¬ S i):BoolG B w' v l:=GRow.keep h hf (fun i hi=>hi.elim) hv
theorem OutB.next {rows:List (List Bool)} (h:OutB w B g rows) (hb:Bw w w'):OutB w' B g rows:=by
 obtain ⟨vs,h1,h2,h3,h4,h5⟩:=h.ex
 exact ⟨⟨vs,h1,h2.next hb,fun i v r a b=>GRow.next (h3 i v r a b) hb (fun i hi=>hi.elim),h4,h5⟩,h.base⟩
theorem OutB.lt {rows:List (List Bool)} (h:OutB w B g rows):g < w.heap.size:=by
 obtain ⟨vs,_,h2,_⟩:=h.ex
 exact h2.lt
theorem OutB.get {rows:List (List Bool)} {i:Nat} {r:List Bool} (h:OutB w B g rows) (hi:rows[i]? = some r):∃ ad c,w.cell? ⟨g,i,none⟩ = some (.slice ad r.length c):=by
 obtain ⟨vs,h1,h2,h3,_,_⟩:=h.ex
 have hlt:i < vs.length:=by have:=(gS hi).1; omega
 have hv:=gE hlt
 obtain ⟨ad,c,e⟩:=(h3 i _ r hv hi).isSlice
 exact ⟨ad,c,by rw [h2.cell i hlt,e]⟩
theorem sz_bools (w:World):(sizeOf 61).run Tryz.prog w = .ok 1 w:=by kernel_rfl
theorem OutB.push {rows:List (List Bool)} {i q:Nat} {r:List Bool} {b:Bool} {T:TypeId} {ad:Option Addr} {c:Nat} (h:OutB w B g rows) (hi:rows[i]? = some r) (hB:B ≤ w.heap.size) (hv:w.cell? ⟨g,i,none⟩ = some (.slice ad r.length c)) (hh:Holds w q 4 [.bool b]) (hl:r.length < 1099511627776)
  (k:∀ v' w1,(∀ (T':TypeId) (K':VK),(∀ w2,OutB w2 B g (rows.set i (r ++ [b])) → Fr (fun j=>B ≤ j) w w2 → K' undef w2) → oM Tryz.prog (.store 61 (.tmp 0) (.tmp 1)) T' [.pointer (some ⟨g,i,none⟩),v'] K' w1) → K v' w1) :
  oM Tryz.prog (.call { callee:=.builtin .append,args:=#[.tmp 0,.tmp 1],argTypes:=#[61,61] }) T [.slice ad r.length c,.slice (some ⟨q,0,none⟩) 1 1] K w:=by
 obtain ⟨vs,h1,h2,h3,h4,h5⟩:=h.ex
 have hlt:i < vs.length:=by have:=(gS hi).1; omega
 have hvi:=gE hlt
 have he:vs[i] = .slice ad r.length c:=by
  have:=h2.cell i hlt
  rw [hv] at this
  exact (oI this).symm
 rw [he] at hvi
 have hG:=h3 i _ r hvi hi
 have hng:=h5 i _ hvi
 refine bools_append hG hB hh hl (fun v' w1 hG1 hg1 hf1=>k v' w1 (fun T' K' hk=>?_))
 have hgl:=h2.lt
 have hng':v'.ownBlock ≠ some g:=fun e=>by
  rcases hf1 g e with e2 | e2
  ·exact hng e2
  ·omega
 have hH1:Holds w1 g 61 vs:=by
  unfold Holds
  rw [hg1.block g hgl (fun e=>hng (by first | exact e | exact e.symm))]
  exact h2
 obtain ⟨ad',c',rfl⟩:=hG1.isSlice
 refine arr_set sz_bools rfl rfl hH1 hlt (fun w2 hg2 hH2=>hk w2 ⟨⟨_,by simpa using h1,hH2,?_,?_,?_⟩,h.base⟩ ?_)
 ·intro j v r' hj hr'
  rw [List.getElem?_set] at hj hr'
  by_cases hij:i = j
  ·rw [if_pos hij,if_pos hlt] at hj
   rw [if_pos hij,if_pos (by omega)] at hr'
   cases hj; cases hr'
   exact BoolG.keepS hG1 (Fr.of_by hg2) (fun x hx e=>hng' (by rw [hx,e]))
  ·rw [if_neg hij] at hj hr'
   have hGj:=h3 j v r' hj hr'
   have hap:=h4 i j _ _ hij hvi hj
   have h51:=h5 j v hj
   have hGj1:=BoolG.keepS hGj (Fr.of_by' hg1) (fun x hx e=>hap x e hx)
   exact BoolG.keepS hGj1 (Fr.of_by hg2) (fun x hx e=>h51 (by rw [hx,e]))
 ·have key:∀ (j:Nat) (u:Value),i ≠ j → vs[j]? = some u → apart (.slice ad' (r ++ [b]).length c') u:=by
   intro j u hij hj x e1 e2
   rcases hf1 x e1 with e3 | e3
   ·exact h4 i j _ _ hij hvi hj x e3 e2
   ·have hlt2:j < rows.length:=by have:=(gS hj).1; omega
    have:=((h3 j u _ hj (gE hlt2)).own e2).1
    omega
  intro j l v u hjl hj hl'
  rw [List.getElem?_set] at hj hl'
  by_cases hij:i = j
  ·rw [if_pos hij,if_pos hlt] at hj
   rw [if_neg (by omega)] at hl'
   cases hj
   exact key l u (by omega) hl'
  ·rw [if_neg hij] at hj
   by_cases hil:i = l
   ·rw [if_pos hil,if_pos hlt] at hl'
    cases hl'
    exact fun x e1 e2=>key j v hij hj x e2 e1
   ·rw [if_neg hil] at hl'
    exact h4 j l v u hjl hj hl'
 ·intro j v hj
  rw [List.getElem?_set] at hj
  by_cases hij:i = j
  ·rw [if_pos hij,if_pos hlt] at hj
   cases hj
   exact hng'
  ·rw [if_neg hij] at hj
   exact h5 j v hj
 ·refine ⟨hg2.os.trans hg1.os,hg2.tape.trans hg1.tape,hg2.output.trans hg1.output,Nat.le_trans hg1.size hg2.size,fun j hj hn=>?_⟩
  rw [hg2.block j (lL hj hg1.size) (fun e=>hn (by cases e; exact h.base)),hg1.block j hj (fun e=>hn ((hG.own (by first | exact e | exact e.symm)).2))]
theorem make_rows {T:TypeId} {n:Nat} (hn:n ≤ 65536) (k:∀ g W,Bw w W → w.heap.size ≤ g → OutB W w.heap.size g (List.replicate n []) → K (.slice (some ⟨g,0,none⟩) n n) W):oM Tryz.prog (.makeSlice 120 (.tmp 0) (.tmp 1)) T [.int .i64 n,.int .i64 n] K w:=by
 obtain ⟨w',hr,ho,hg⟩:=run_makeSlice_full (P:=Tryz.prog) (w:=w) w.heap.size 120 61 ((Tryz.prog.info? 61).getD default) (.slice none 0 0) 1 (by kernel_rfl) (by kernel_rfl) (by kernel_rfl) (by kernel_rfl) .i64 .i64 n (by omega) (by
  have:((Tryz.prog.info? 61).getD default).bytes = 24:=by kernel_rfl
  rw [this]; omega) (by simp only [maxLen]; omega) (rL)
 rw [oM_makeSlice,hr]
 have hb:Bw w w':=⟨hg.os,hg.tape,hg.output,hg.size,fun k hk=>hg.block k hk (by simp)⟩
 have hcells:(madeCells (Value.slice none 0 0).cells (n * 1)).toList = List.replicate n (.slice none 0 0):=by
  rw [Nat.mul_one]
  apply List.ext_getElem?
  intro i
  unfold madeCells
  simp [Value.cells,List.getElem?_replicate,Array.getElem?_ofFn]
  try (split <;> simp_all [Nat.mod_one])
 refine k _ _ hb (rL) ?_
 rcases ho.2 with ⟨h1,h2⟩ | ⟨g,cap,cur,h1,hb2,hg2,hc,hm,hs,ht⟩
 ·cases h1
 ·cases h1
  rw [hcells,Nat.mul_one] at ht
  have e:cur.toList = List.replicate n (.slice none 0 0):=by
   rw [← ht,List.take_of_length_le (by simp; omega)]
  have rep:∀ (i:Nat) (v:Value),(List.replicate n (Value.slice none 0 0))[i]? = some v → v = .slice none 0 0:=fun i v h=>by
   rw [List.getElem?_replicate] at h
   by_cases hi:i < n
   ·rw [if_pos hi] at h; exact (oI h).symm
   ·rw [if_neg hi] at h; cases h
  refine ⟨⟨List.replicate n (.slice none 0 0),by simp,?_,?_,?_,?_⟩,hb2⟩
  ·unfold Holds
   rw [hg2,← e]
  ·intro i v r hv hr'
   rw [rep i v hv]
   rw [List.getElem?_replicate] at hr'
   by_cases hi:i < n
   ·rw [if_pos hi] at hr'
    cases hr'
    exact GRow.nil
   ·rw [if_neg hi] at hr'; cases hr'
  ·intro i j v u _ hv _ x e1
   rw [rep i v hv] at e1
   cases e1
  ·intro i v hv e1
   rw [rep i v hv] at e1
   cases e1
def ChJ (s:Stp) (goal:List Cls) (know:List (List Knw)) (w0:World) (L:List (Addr × Value)) (B g:Nat) (vs:List Value) (W:World):Prop:=Kn w0 L W ∧ B ≤ W.heap.size ∧ ∃ (u0 u1 u2 u3:Value) (i:Nat) (R:List (List Bool)) (ok:Bool),vs = [u0,u1,u2,u3,.bool ok,.int .i64 (i:Int)] ∧ i ≤ goal.length ∧ R.length = i ∧
 R ++ (chosenL s (goal.drop i) (know.drop i)).1 = (chosenL s goal know).1 ∧ (ok && (chosenL s (goal.drop i) (know.drop i)).2) = (chosenL s goal know).2 ∧ OutB W B g (R ++ List.replicate (goal.length - i) [])
def CiJ (s:Stp) (c:Cls) (ks:List Knw) (R:List (List Bool)) (m:Nat) (w0:World) (L:List (Addr × Value)) (B g:Nat) (vs:List Value) (W:World):Prop:=Kn w0 L W ∧ B ≤ W.heap.size ∧ ∃ (u0 u1:Value) (j:Nat) (r:List Bool) (d:Int),vs = [u0,u1,.int .i64 d,.int .i64 (j:Int)] ∧ j ≤ c.claims.length ∧ I64 d ∧ r.length = j ∧ d ≤ c.need ∧ c.need - j ≤ d ∧
 r ++ (chosenC s d (c.claims.drop j) (ks.drop j)).1 = (chosenC s c.need c.claims ks).1 ∧ (chosenC s d (c.claims.drop j) (ks.drop j)).2 = (chosenC s c.need c.claims ks).2 ∧ OutB W B g (R ++ r :: List.replicate m [])
theorem kn_fr (h:Kn w0 L W) (hL:∀ p ∈ L,p.1.block < B) (hB:w0.heap.size ≤ B) (hf:Fr (fun j=>B ≤ j) W W'):Kn w0 L W':=
 ⟨⟨hf.os.trans h.below.os,hf.tape.trans h.below.tape,hf.output.trans h.below.output,Nat.le_trans h.below.size hf.size,fun j hj=>(hf.block j (lL hj h.below.size) (by omega)).trans (h.below.block j hj)⟩,
  cells_fr h.cells hf fun p hp=>⟨cells_lt h.cells p hp,by have:=hL p hp; omega⟩⟩
@[go_sem] theorem idx_bb (T:TypeId) (b o n c:Nat) (x:Int):oM Tryz.prog (.indexAddr 120 (.tmp 0) (.tmp 1)) T [.slice (some ⟨b,o,none⟩) n c,.int .i64 x] = onM (0 ≤ x ∧ x < n) (.pointer (some ⟨b,o + x.toNat,none⟩)):=by
 have:=idx_row (K:=fun _ _=>True) (P:=Tryz.prog) (n:=1) 120 T (by kernel_rfl) (fun w=>by kernel_rfl) b o n c x
 rwa [Nat.mul_one] at this
set_option maxHeartbeats 4000000 in
theorem chosen_ok (s:Stp) {sv gv kv:Value} {goal:List Cls} {know:List (List Knw)} (hs:SetR w s sv) (hg:GoalR w gv goal) (hk0:KnowR w kv know) (hgm:goalM s goal = true) (hft:fitsM s goal know = true)
  (k:∀ g B w',Bw w w' → w.heap.size ≤ B → OutB w' B g (chosenL s goal know).1 → K (.tuple #[.slice (some ⟨g,0,none⟩) goal.length goal.length,.bool (chosenL s goal know).2]) w'):callM Tryz.prog 92 #[stpV s sv,gv,kv] K w:=by
 apply sh_92_ok
 unfold sh_92
 have hs':=hs
 have hg':=hg
 obtain ⟨ad,c,rfl⟩:=hs.ints.isSlice
 obtain ⟨gad,gc,rfl⟩:=hg.isSlice
 obtain ⟨kad,kc,rfl⟩:=hk0.isSlice
 have hgm':=hgm
 unfold goalM at hgm'
 simp only [bA,dE] at hgm'
 refine box_kn (cs:=stpC s (.slice ad s.bases.length c)) rfl (.start w) fun b1 W hk hb1 hbb=>?_
 clear hb1
 repeat (any_goals ((with_reducible refine oG fun X Y=>?_); simp [go_sem]; apply Y; clear Y X))
 refine make_rows (by omega) (fun g W2 h2 hg2 hO=>?_)
 have hL:∀ p ∈ cellsOf [] b1 0 (stpC s (.slice ad s.bases.length c)),p.1.block < W.heap.size:=cells_lt hk.cells
 have hk2:=hk.next h2
 have hWB:=hk.below.size
 repeat (any_goals ((with_reducible refine oG fun X Y=>?_); simp [go_sem]; apply Y; clear Y X))
 refine ⟨ChJ s goal know w _ W.heap.size g,(fun vs _=>match vs with | [_,_,_,_,_,.int _ i]=>goal.length - i.toNat | _=>0),⟨hk2,h2.size,_,_,_,_,0,[],true,rfl,by omega,rfl,by simp,by simp,by simpa using hO⟩,?_⟩
 clear hk2 hO hg2
 rintro _ _ W3 ⟨hk3,hB3,u0,u1,u2,u3,i,R,ok,rfl,hi,hRl,hR,hok,hO⟩
 by_cases hin:i = goal.length
 ·repeat (any_goals (first
  | (with_reducible refine yO ?_)
  | ((with_reducible refine oG fun X Y=>?_); simp [go_sem]; apply Y; clear Y X)))
  rw [hin,List.drop_of_length_le (rL)] at hR hok
  have e1:(chosenL s [] (know.drop goal.length)) = ([],true):=by unfold chosenL; cases know.drop goal.length <;> rfl
  rw [e1] at hR hok
  simp only [List.append_nil,Bool.and_true] at hR hok
  have k:=k g _ _ hk3.below hWB (by rw [hin] at hO; simpa [hR] using hO)
  rwa [← hok] at k
 have hft':=hft
 unfold fitsM at hft'
 simp only [bA,dE] at hft'
 have hkl:=hft'.1
 have eg:goal[i]? = some goal[i]:=gE (by omega)
 have ek:know[i]? = some know[i]:=gE (by omega)
 have hfi:=fitsL_at hft'.2 eg ek
 have hgd:goal.drop i = goal[i] :: goal.drop (i + 1):=List.drop_eq_getElem_cons (by omega)
 have hkd:know.drop i = know[i] :: know.drop (i + 1):=List.drop_eq_getElem_cons (by omega)
 have hcf:clsFine s goal[i] = true:=List.all_eq_true.1 hgm'.1.2 _ (List.getElem_mem _)
 have hcm:∀ x ∈ goal[i].claims,claimM s x = true:=fun x hx=>List.all_eq_true.1 (List.all_eq_true.1 hgm'.2 _ (List.getElem_mem _)) x hx
 obtain ⟨b4,o4,rfl,hlt4,cs4,_,hcell4,v4,rfl,hI4,hrow4⟩:=hg'.at (i:=i) (by omega)
 obtain ⟨b5,o5,rfl,hlt5,cs5,_,hcell5,v5,rfl,hrow5⟩:=hk0.at (i:=i) (by omega)
 have c40:=hcell4 0 _ rfl
 have c41:=hcell4 1 _ rfl
 have c50:=hcell5 0 _ rfl
 simp only [Nat.add_zero,Nat.mul_one] at c40 c50
 rw [hgd,hkd] at hR hok
 have e2:chosenL s (goal[i] :: goal.drop (i + 1)) (know[i] :: know.drop (i + 1)) = ((chosenC s goal[i].need goal[i].claims know[i]).1 :: (chosenL s (goal.drop (i + 1)) (know.drop (i + 1))).1,decide ((chosenC s goal[i].need goal[i].claims know[i]).2 = 0) && (chosenL s (goal.drop (i + 1)) (know.drop (i + 1))).2):=rfl
 rw [e2] at hR hok
 clear e2 hgd hkd
 generalize goal[i] = cl at *
 generalize know[i] = ks at *
 simp only [clsFine,bA,dE] at hcf
 obtain ⟨ad4,cp4,rfl⟩:=hrow4.isSlice
 obtain ⟨ad5,cp5,rfl⟩:=hrow5.isSlice
 have hig:(i:Int) < goal.length:=by omega
 have hik:(i:Int) < know.length:=by omega
 have hrep:List.replicate (goal.length - i) ([]:List Bool) = [] :: List.replicate (goal.length - (i + 1)) []:=by
  rw [show goal.length - i = goal.length - (i + 1) + 1 by omega]; rfl
 rw [hrep] at hO
 iterate 4 (any_goals (first
 | (with_reducible refine yL ?_)
 | ((with_reducible refine oG fun X Y=>?_); simp [go_sem,(hk3.below.cell hlt4).trans c40,(hk3.below.cell hlt4).trans c41,hig]; apply Y; clear Y X)))
 refine local_cls _ _ _ _ (.start W3) (fun b6 W6 hk6 hb6 hg6=>?_)
 have hk36:=hk3.next hb6
 repeat (any_goals ((with_reducible refine oG fun X Y=>?_); simp [go_sem,hk6.cells]; apply Y; clear Y X))
 refine ⟨CiJ s cl ks R (goal.length - (i + 1)) w _ W.heap.size g,(fun vs _=>match vs with | [_,_,_,.int _ j]=>cl.claims.length - j.toNat | _=>0),⟨hk36,Nat.le_trans hB3 hb6.size,u2,u3,0,[],cl.need,rfl,by omega,hI4,rfl,by omega,by omega,rfl,rfl,hO.next hb6⟩,?_⟩
 clear hO hk36 hb6 hk6
 rintro _ _ W7 ⟨hk7,hB7,u5,u6,j,r,d,rfl,hj,hId,hrl,hd1,hd2,hr1,hr2,hO7⟩
 by_cases hjn:j = cl.claims.length
 ·rw [hjn,List.drop_of_length_le (rL)] at hr1 hr2
  have e3:chosenC s d [] (ks.drop cl.claims.length) = ([],d):=by unfold chosenC; cases ks.drop cl.claims.length <;> rfl
  rw [e3,List.append_nil] at hr1
  rw [e3] at hr2
  rw [← hr1,← hr2] at hR
  rw [← hr2] at hok
  have hnx:∀ W8,W8 = W7 → ChJ s goal know w (cellsOf [] b1 0 (stpC s (.slice ad s.bases.length c))) W.heap.size g [.int .i64 (i:Int),.int .i64 d,u5,u6,.bool (ok && decide (d = 0)),.int .i64 ((i + 1:Nat):Int)] W8:=by
   rintro _ rfl
   refine ⟨hk7,hB7,_,_,_,_,i + 1,R ++ [r],ok && decide (d = 0),rfl,by omega,by simp [hRl],by simpa using hR,?_,by simpa using hO7⟩
   rw [← hok,Bool.and_assoc]
  have hwi:IntKind.i64.wrap ((i:Int) + 1) = ((i + 1:Nat):Int):=by rw [wrapI64 _ (by omega) (by omega)]; rfl
  cases ok with
  | false=>
   have e4:([u0,u1,u2,u3,Value.bool false,Value.int IntKind.i64 (i:Int)]:List Value).getD 4 undef = Value.bool false:=rfl
   repeat (any_goals (first
   | (with_reducible refine yO ?_)
   | ((with_reducible refine oG fun X Y=>?_); simp [go_sem]; apply Y; clear Y X)))
   simp only [e4]
   repeat (any_goals (first
   | (with_reducible first|refine zB ?_|refine yC ?_)
   | ((with_reducible refine oG fun X Y=>?_); simp [go_sem]; (try simp (disch:=omega) only [wrapI64,wrapU8,wrapU32,wrapU64]); apply Y; clear Y X)))
   exact ⟨hnx _ rfl,by show goal.length - (((i + 1:Nat):Int)).toNat < goal.length - ((i:Nat):Int).toNat; omega⟩
  | true=>
   have e4:([u0,u1,u2,u3,Value.bool true,Value.int IntKind.i64 (i:Int)]:List Value).getD 4 undef = Value.bool true:=rfl
   by_cases hd0:d = 0
   ·rw [decide_eq_true hd0] at hnx
    rw [hd0] at hnx ⊢
    simp only [e4]
    repeat (any_goals (first
    | (with_reducible first|refine pureM_in ?_|refine zA ?_|refine yB ?_|refine yO ?_)
    | ((with_reducible refine oG fun X Y=>?_); simp [go_sem]; (try simp (disch:=omega) only [wrapI64,wrapU8,wrapU32,wrapU64]); apply Y; clear Y X)))
    exact ⟨hnx _ rfl,by show goal.length - (((i + 1:Nat):Int)).toNat < goal.length - ((i:Nat):Int).toNat; omega⟩
   ·rw [decide_eq_false hd0] at hnx
    have hbe:(d == 0) = false:=by simp [hd0]
    simp only [e4]
    repeat (any_goals (first
    | (with_reducible first|refine pureM_in ?_|refine zA ?_|refine yB ?_|refine yO ?_)
    | ((with_reducible refine oG fun X Y=>?_); simp [go_sem,hd0,hbe]; (try simp (disch:=omega) only [wrapI64,wrapU8,wrapU32,wrapU64]); apply Y; clear Y X)))
    exact ⟨hnx _ rfl,by show goal.length - (((i + 1:Nat):Int)).toNat < goal.length - ((i:Nat):Int).toNat; omega⟩
 have ec:cl.claims[j]? = some cl.claims[j]:=gE (by omega)
 have ekn:ks[j]? = some ks[j]:=gE (by have:=hfi.1; omega)
 have hcd:cl.claims.drop j = cl.claims[j] :: cl.claims.drop (j + 1):=List.drop_eq_getElem_cons (by omega)
 have hkd:ks.drop j = ks[j] :: ks.drop (j + 1):=List.drop_eq_getElem_cons (by have:=hfi.1; omega)
 have hxm:=hcm _ (List.getElem_mem (by omega:j < cl.claims.length))
 obtain ⟨b8,o8,rfl,hlt8,cs8,_,hcell8,v8,rfl,hm8⟩:=hrow4.at (i:=j) (by omega)
 obtain ⟨b9,o9,rfl,hlt9,cs9,_,hcell9,v9,rfl,hv9⟩:=hrow5.at (i:=j) (by have:=hfi.1; omega)
 have c80:=hcell8 0 _ rfl
 have c81:=hcell8 1 _ rfl
 have c90:=hcell9 0 _ rfl
 have c91:=hcell9 1 _ rfl
 simp only [Nat.add_zero] at c80 c90
 generalize cl.claims[j] = x at *
 generalize ks[j] = kn at *
 obtain ⟨ad8,cp8,hv8⟩:=hm8.eqs.isSlice
 subst hv8
 obtain ⟨ad9,cp9,rfl⟩:=hv9.isSlice
 have hjc:(j:Int) < cl.claims.length:=by omega
 have hjk:(j:Int) < ks.length:=by have:=hfi.1; omega
 have hrow:(R ++ r :: List.replicate (goal.length - (i + 1)) [])[i]? = some r:=by
  rw [List.getElem?_append_right (by omega),hRl,Nat.sub_self]; rfl
 have hset:∀ b:Bool,(R ++ r :: List.replicate (goal.length - (i + 1)) []).set i (r ++ [b]) = R ++ (r ++ [b]) :: List.replicate (goal.length - (i + 1)) []:=fun b=>by
  rw [List.set_append,if_neg (by omega),hRl,Nat.sub_self]; rfl
 have hlen9:=hrow4.len
 iterate 4 (any_goals (first
 | (with_reducible refine yL ?_)
 | ((with_reducible refine oG fun X Y=>?_); simp [go_sem,(hk7.below.cell hlt8).trans c80,(hk7.below.cell hlt8).trans c81,hjc]; apply Y; clear Y X)))
 refine local_clm _ _ _ _ hk7 (fun b10 W8 hk8 hb8 hg8=>?_)
 have hb8:=hb8.on (.drawn (B:=W8.heap.size))
 have hk8:=hk8.drew
 refine ⟨Nx { W8 with drawn:=W8.drawn + 1 },bR,rfl,?_⟩
 generalize ({ W8 with drawn:=W8.drawn + 1 }:World) = W9 at hk8 hb8 ⊢
 by_cases hdp:¬ (0:Int) < d
 ·repeat (any_goals (first
  | (with_reducible first|refine pX ?_|((refine idGdH ?_); refine gdH_conv fun _=>?_)|refine zB ?_)
  | ((with_reducible refine idOH ?_); first|(with_reducible refine vB ?_)|(with_reducible refine oH_of ⟨_,rfl⟩ (fun W0 hW0=>by (refine oG (fun X Y=>?_)); simp [go_sem,hdp]; (first | exact Y _ _ ⟨rfl,rfl⟩ | exact ⟨by omega,Y _ _ ⟨rfl,rfl⟩⟩)) ?_))))
  refine ⟨Nx,fun w10 h10=>?_⟩
  have hb10:=hb8.on h10
  repeat (any_goals (with_reducible first|refine zB ?_|refine yC ?_))
  refine ⟨fun l W=>l = [.int .i64 (d)] ∧ W = w10,?_,?_⟩
  ·repeat (any_goals (with_reducible refine yM ?_))
   exact ⟨rfl,rfl⟩
  ·rintro _ _ _ ⟨rfl,rfl⟩
   obtain ⟨rad,rc,hrc⟩:=(hO7.next hb10).get hrow
   iterate 2 (any_goals ((with_reducible refine oG fun X Y=>?_); simp [go_sem,hrc,hig]; apply Y; clear Y X))
   refine lit_bool false (fun q w11 h11 hq11 hh11=>?_)
   have hrc11:=(h11.cell (hO7.next hb10).lt).trans hrc
   refine OutB.push ((hO7.next hb10).next h11) hrow (by have:=hb10.size; have:=h11.size; omega) hrc11 hh11 (by omega) (fun v' w12 hst=>?_)
   repeat (any_goals ((with_reducible refine oG fun X Y=>?_); simp [go_sem,hig]; apply Y; clear Y X))
   refine hst _ _ (fun w13 hO13 hf13=>?_)
   repeat (any_goals ((with_reducible refine oG fun X Y=>?_); simp [go_sem]; (try simp (disch:=omega) only [wrapI64,wrapU8,wrapU32,wrapU64]); apply Y; clear Y X))
   rw [hset] at hO13
   have hk13:=kn_fr ((hk7.next hb10).next h11) hL hWB hf13
   refine ⟨⟨hk13,by have:=hb10.size; have:=h11.size; have:=hf13.size; omega,_,_,j + 1,r ++ [false],d,rfl,by omega,by unfold I64 at hId ⊢; omega,by simp [hrl],by omega,by omega,?_,?_,hO13⟩,by show cl.claims.length - (((j + 1:Nat):Int)).toNat < cl.claims.length - ((j:Nat):Int).toNat; omega⟩
   ·rw [← hr1,hcd,hkd,List.append_assoc]
    simp [chosenC,hdp]
   ·rw [← hr2,hcd,hkd]
    simp [chosenC,hdp]
 have hdp:(0:Int) < d:=by omega
 cases hhas:kn.has with
 | false=>
  rw [hhas] at c90
  repeat (any_goals (first
  | (with_reducible first|refine pX ?_|((refine idGdH ?_); refine gdH_conv fun _=>?_)|((refine idGd ?_); first|refine zA ?_|refine zB ?_))
  | ((with_reducible refine idOH ?_); first|(with_reducible refine vA ?_)|(with_reducible refine oH_of ⟨_,rfl⟩ (fun W0 hW0=>by (refine oG (fun X Y=>?_)); simp [go_sem,(hk8.next hW0).cells,((hk8.next hW0).below.cell hlt5).trans c50,((hk8.next hW0).below.cell hlt9).trans c90,((hk8.next hW0).below.cell hlt9).trans c91,hdp,hik,hjk]; (first | exact Y _ _ ⟨rfl,rfl⟩ | exact ⟨by omega,Y _ _ ⟨rfl,rfl⟩⟩)) ?_))))
  refine ⟨Nx,fun w10 h10=>?_⟩
  have hb10:=hb8.on h10
  repeat (any_goals (with_reducible first|refine zB ?_|refine yC ?_))
  refine ⟨fun l W=>l = [.int .i64 (d)] ∧ W = w10,?_,?_⟩
  ·repeat (any_goals (with_reducible refine yM ?_))
   exact ⟨rfl,rfl⟩
  ·rintro _ _ _ ⟨rfl,rfl⟩
   obtain ⟨rad,rc,hrc⟩:=(hO7.next hb10).get hrow
   iterate 2 (any_goals ((with_reducible refine oG fun X Y=>?_); simp [go_sem,hrc,hig]; apply Y; clear Y X))
   refine lit_bool false (fun q w11 h11 hq11 hh11=>?_)
   have hrc11:=(h11.cell (hO7.next hb10).lt).trans hrc
   refine OutB.push ((hO7.next hb10).next h11) hrow (by have:=hb10.size; have:=h11.size; omega) hrc11 hh11 (by omega) (fun v' w12 hst=>?_)
   repeat (any_goals ((with_reducible refine oG fun X Y=>?_); simp [go_sem,hig]; apply Y; clear Y X))
   refine hst _ _ (fun w13 hO13 hf13=>?_)
   repeat (any_goals ((with_reducible refine oG fun X Y=>?_); simp [go_sem]; (try simp (disch:=omega) only [wrapI64,wrapU8,wrapU32,wrapU64]); apply Y; clear Y X))
   rw [hset] at hO13
   have hk13:=kn_fr ((hk7.next hb10).next h11) hL hWB hf13
   refine ⟨⟨hk13,by have:=hb10.size; have:=h11.size; have:=hf13.size; omega,_,_,j + 1,r ++ [false],d,rfl,by omega,by unfold I64 at hId ⊢; omega,by simp [hrl],by omega,by omega,?_,?_,hO13⟩,by show cl.claims.length - (((j + 1:Nat):Int)).toNat < cl.claims.length - ((j:Nat):Int).toNat; omega⟩
   ·rw [← hr1,hcd,hkd,List.append_assoc]
    simp [chosenC,hhas]
   ·rw [← hr2,hcd,hkd]
    simp [chosenC,hhas]
 | true=>
  rw [hhas] at c90
  repeat (any_goals (first
  | (with_reducible first|refine pX ?_|((refine idGdH ?_); refine gdH_conv fun _=>?_)|refine zA ?_)
  | ((with_reducible refine idOH ?_); first|(with_reducible refine vA ?_)|(with_reducible refine oH_of ⟨_,rfl⟩ (fun W0 hW0=>by (refine oG (fun X Y=>?_)); simp [go_sem,(hk8.next hW0).cells,((hk8.next hW0).below.cell hlt5).trans c50,((hk8.next hW0).below.cell hlt9).trans c90,((hk8.next hW0).below.cell hlt9).trans c91,hdp,hik,hjk]; (first | exact Y _ _ ⟨rfl,rfl⟩ | exact ⟨by omega,Y _ _ ⟨rfl,rfl⟩⟩)) ?_))))
  refine ⟨Nx,fun w9 h9=>?_⟩
  have hk9:=hk8.next h9
  iterate 1 (any_goals (with_reducible refine zA ?_))
  refine holds_ok s x kn.values (hs'.next hk9.below) (hm8.next hk9.below) (hv9.next hk9.below) (claim_fit hxm) (fun w10 h10=>?_)
  have hb10:=(hb8.on h9).on h10
  cases hho:holdsM s x kn.values with
  | false=>
   repeat (any_goals (with_reducible refine yB ?_))
   refine ⟨fun l W=>l = [.int .i64 (d)] ∧ W = w10,?_,?_⟩
   ·repeat (any_goals (with_reducible refine yM ?_))
    exact ⟨rfl,rfl⟩
   ·rintro _ _ _ ⟨rfl,rfl⟩
    obtain ⟨rad,rc,hrc⟩:=(hO7.next hb10).get hrow
    iterate 2 (any_goals ((with_reducible refine oG fun X Y=>?_); simp [go_sem,hrc,hig]; apply Y; clear Y X))
    refine lit_bool false (fun q w11 h11 hq11 hh11=>?_)
    have hrc11:=(h11.cell (hO7.next hb10).lt).trans hrc
    refine OutB.push ((hO7.next hb10).next h11) hrow (by have:=hb10.size; have:=h11.size; omega) hrc11 hh11 (by omega) (fun v' w12 hst=>?_)
    repeat (any_goals ((with_reducible refine oG fun X Y=>?_); simp [go_sem,hig]; apply Y; clear Y X))
    refine hst _ _ (fun w13 hO13 hf13=>?_)
    repeat (any_goals ((with_reducible refine oG fun X Y=>?_); simp [go_sem]; (try simp (disch:=omega) only [wrapI64,wrapU8,wrapU32,wrapU64]); apply Y; clear Y X))
    rw [hset] at hO13
    have hk13:=kn_fr ((hk7.next hb10).next h11) hL hWB hf13
    refine ⟨⟨hk13,by have:=hb10.size; have:=h11.size; have:=hf13.size; omega,_,_,j + 1,r ++ [false],d,rfl,by omega,by unfold I64 at hId ⊢; omega,by simp [hrl],by omega,by omega,?_,?_,hO13⟩,by show cl.claims.length - (((j + 1:Nat):Int)).toNat < cl.claims.length - ((j:Nat):Int).toNat; omega⟩
    ·rw [← hr1,hcd,hkd,List.append_assoc]
     simp [chosenC,hho,hhas]
    ·rw [← hr2,hcd,hkd]
     simp [chosenC,hho,hhas]
  | true=>
   repeat (any_goals (with_reducible refine yB ?_))
   refine ⟨fun l W=>l = [.int .i64 (d - 1)] ∧ W = w10,?_,?_⟩
   ·repeat (any_goals (first
    | (with_reducible refine yL ?_)
    | ((with_reducible refine oG fun X Y=>?_); simp [go_sem]; (try simp (disch:=omega) only [wrapI64,wrapU8,wrapU32,wrapU64]); apply Y; clear Y X)))
    exact ⟨rfl,rfl⟩
   ·rintro _ _ _ ⟨rfl,rfl⟩
    obtain ⟨rad,rc,hrc⟩:=(hO7.next hb10).get hrow
    iterate 2 (any_goals ((with_reducible refine oG fun X Y=>?_); simp [go_sem,hrc,hig]; apply Y; clear Y X))
    refine lit_bool true (fun q w11 h11 hq11 hh11=>?_)
    have hrc11:=(h11.cell (hO7.next hb10).lt).trans hrc
    refine OutB.push ((hO7.next hb10).next h11) hrow (by have:=hb10.size; have:=h11.size; omega) hrc11 hh11 (by omega) (fun v' w12 hst=>?_)
    repeat (any_goals ((with_reducible refine oG fun X Y=>?_); simp [go_sem,hig]; apply Y; clear Y X))
    refine hst _ _ (fun w13 hO13 hf13=>?_)
    repeat (any_goals ((with_reducible refine oG fun X Y=>?_); simp [go_sem]; (try simp (disch:=omega) only [wrapI64,wrapU8,wrapU32,wrapU64]); apply Y; clear Y X))
    rw [hset] at hO13
    have hk13:=kn_fr ((hk7.next hb10).next h11) hL hWB hf13
    refine ⟨⟨hk13,by have:=hb10.size; have:=h11.size; have:=hf13.size; omega,_,_,j + 1,r ++ [true],d - 1,rfl,by omega,by unfold I64 at hId ⊢; omega,by simp [hrl],by omega,by omega,?_,?_,hO13⟩,by show cl.claims.length - (((j + 1:Nat):Int)).toNat < cl.claims.length - ((j:Nat):Int).toNat; omega⟩
    ·rw [← hr1,hcd,hkd,List.append_assoc]
     simp [chosenC,hho,hhas,hdp]
    ·rw [← hr2,hcd,hkd]
     simp [chosenC,hho,hhas,hdp]
end
end Go.Proofs
namespace Go.Proofs
open FdSpec TkSpec CodeSpec PrSpec
theorem answersC_at {q:Int}:∀ {b:List Bool} {d:List Int} {n:List (List Int)} {ks:List Knw} {k:Nat} {x:Bool} {y:Int} {z:List Int} {u:Knw},b[k]? = some x → d[k]? = some y → n[k]? = some z → ks[k]? = some u →
  (answersC q b d n ks)[k]? = some (if x then shiftM q z y u.values else z)
 | b :: bs,d :: ds,n :: ns,k :: ks,0,x,y,z,u,h1,h2,h3,h4=>by
  simp at h1 h2 h3 h4
  subst h1 h2 h3 h4
  rfl
 | b :: bs,d :: ds,n :: ns,k :: ks,i + 1,x,y,z,u,h1,h2,h3,h4=>answersC_at (b:=bs) (d:=ds) (n:=ns) (ks:=ks) (k:=i) (by simpa using h1) (by simpa using h2) (by simpa using h3) (by simpa using h4)
 | [],_,_,_,_,_,_,_,_,h,_,_,_=>by simp at h
 | _ :: _,[],_,_,_,_,_,_,_,_,h,_,_=>by simp at h
 | _ :: _,_ :: _,[],_,_,_,_,_,_,_,_,h,_=>by simp at h
 | _ :: _,_ :: _,_ :: _,[],_,_,_,_,_,_,_,_,h=>by simp at h
theorem answersC_len {q:Int}:∀ {b:List Bool} {d:List Int} {n:List (List Int)} {ks:List Knw},d.length = b.length → n.length = b.length → ks.length = b.length → (answersC q b d n ks).length = b.length
 | [],_,_,_,_,_,_=>by simp [answersC]
 | b :: bs,d :: ds,n :: ns,k :: ks,h1,h2,h3=>by
  have:=answersC_len (q:=q) (b:=bs) (d:=ds) (n:=ns) (ks:=ks) (by simpa using h1) (by simpa using h2) (by simpa using h3)
  simp [answersC,this]
 | b :: bs,[],_,_,h,_,_=>by simp at h
 | b :: bs,_ :: _,[],_,_,h,_=>by simp at h
 | b :: bs,_ :: _,_ :: _,[],_,_,h=>by simp at h
theorem backC_at {q:Int}:∀ {b:List Bool} {d:List Int} {n:List (List Int)} {ks:List Knw} {k:Nat} {x:Bool} {y:Int} {z:List Int} {u:Knw},b[k]? = some x → d[k]? = some y → n[k]? = some z → ks[k]? = some u →
  (backC q b d n ks)[k]? = some (if x then shiftM q z (-y) u.values else z)
 | b :: bs,d :: ds,n :: ns,k :: ks,0,x,y,z,u,h1,h2,h3,h4=>by
  simp at h1 h2 h3 h4
  subst h1 h2 h3 h4
  rfl
 | b :: bs,d :: ds,n :: ns,k :: ks,i + 1,x,y,z,u,h1,h2,h3,h4=>backC_at (b:=bs) (d:=ds) (n:=ns) (ks:=ks) (k:=i) (by simpa using h1) (by simpa using h2) (by simpa using h3) (by simpa using h4)
 | [],_,_,_,_,_,_,_,_,h,_,_,_=>by simp at h
 | _ :: _,[],_,_,_,_,_,_,_,_,h,_,_=>by simp at h
 | _ :: _,_ :: _,[],_,_,_,_,_,_,_,_,h,_=>by simp at h
 | _ :: _,_ :: _,_ :: _,[],_,_,_,_,_,_,_,_,h=>by simp at h
theorem backC_len {q:Int}:∀ {b:List Bool} {d:List Int} {n:List (List Int)} {ks:List Knw},d.length = b.length → n.length = b.length → ks.length = b.length → (backC q b d n ks).length = b.length
 | [],_,_,_,_,_,_=>by simp [backC]
 | b :: bs,d :: ds,n :: ns,k :: ks,h1,h2,h3=>by
  have:=backC_len (q:=q) (b:=bs) (d:=ds) (n:=ns) (ks:=ks) (by simpa using h1) (by simpa using h2) (by simpa using h3)
  simp [backC,this]
 | b :: bs,[],_,_,h,_,_=>by simp at h
 | b :: bs,_ :: _,[],_,_,h,_=>by simp at h
 | b :: bs,_ :: _,_ :: _,[],_,_,h=>by simp at h
theorem zeroed_at:∀ {b:List Bool} {d:List Int} {k:Nat} {x:Bool} {y:Int},b[k]? = some x → d[k]? = some y → (zeroed b d)[k]? = some (if x then 0 else y)
 | b :: bs,d :: ds,0,x,y,h1,h2=>by
  simp at h1 h2
  subst h1 h2
  rfl
 | b :: bs,d :: ds,i + 1,x,y,h1,h2=>zeroed_at (b:=bs) (d:=ds) (k:=i) (by simpa using h1) (by simpa using h2)
 | [],_,_,_,_,h,_=>by simp at h
 | _ :: _,[],_,_,_,_,h=>by simp at h
theorem zeroed_len:∀ {b:List Bool} {d:List Int},d.length = b.length → (zeroed b d).length = b.length
 | [],_,_=>by simp [zeroed]
 | b :: bs,d :: ds,h=>by
  have:=zeroed_len (b:=bs) (d:=ds) (by simpa using h)
  simp [zeroed,this]
 | b :: bs,[],h=>by simp at h
theorem proveL_at {s:Stp} {r:Int}:∀ {bs:List (List Bool)} {ds:List (List Int)} {ns:List (List (List Int))} {ks:List (List Knw)} {i:Nat} {b:List Bool} {d:List Int} {n:List (List Int)} {k:List Knw},bs[i]? = some b → ds[i]? = some d → ns[i]? = some n → ks[i]? = some k →
  (proveL s r bs ds ns ks).1[i]? = some (fillM s.g.Q b d r) ∧ (proveL s r bs ds ns ks).2[i]? = some (answersC s.g.Q b (fillM s.g.Q b d r) n k)
 | b :: bs,d :: ds,n :: ns,k :: ks,0,x,y,z,u,h1,h2,h3,h4=>by
  simp at h1 h2 h3 h4
  subst h1 h2 h3 h4
  exact ⟨rfl,rfl⟩
 | b :: bs,d :: ds,n :: ns,k :: ks,i + 1,x,y,z,u,h1,h2,h3,h4=>proveL_at (bs:=bs) (ds:=ds) (ns:=ns) (ks:=ks) (i:=i) (by simpa using h1) (by simpa using h2) (by simpa using h3) (by simpa using h4)
 | [],_,_,_,_,_,_,_,_,h,_,_,_=>by simp at h
 | _ :: _,[],_,_,_,_,_,_,_,_,h,_,_=>by simp at h
 | _ :: _,_ :: _,[],_,_,_,_,_,_,_,_,h,_=>by simp at h
 | _ :: _,_ :: _,_ :: _,[],_,_,_,_,_,_,_,_,h=>by simp at h
theorem proveL_len {s:Stp} {r:Int}:∀ {bs:List (List Bool)} {ds:List (List Int)} {ns:List (List (List Int))} {ks:List (List Knw)},ds.length = bs.length → ns.length = bs.length → ks.length = bs.length →
  (proveL s r bs ds ns ks).1.length = bs.length ∧ (proveL s r bs ds ns ks).2.length = bs.length
 | [],_,_,_,_,_,_=>by simp [proveL]
 | b :: bs,d :: ds,n :: ns,k :: ks,h1,h2,h3=>by
  have:=proveL_len (s:=s) (r:=r) (bs:=bs) (ds:=ds) (ns:=ns) (ks:=ks) (by simpa using h1) (by simpa using h2) (by simpa using h3)
  simp [proveL,this]
 | b :: bs,[],_,_,h,_,_=>by simp at h
 | b :: bs,_ :: _,[],_,_,h,_=>by simp at h
 | b :: bs,_ :: _,_ :: _,[],_,_,h=>by simp at h
theorem explainL_at {s:Stp}:∀ {bs:List (List Bool)} {ds:List (List Int)} {ns:List (List (List Int))} {ks:List (List Knw)} {i:Nat} {b:List Bool} {d:List Int} {n:List (List Int)} {k:List Knw},bs[i]? = some b → ds[i]? = some d → ns[i]? = some n → ks[i]? = some k →
  (explainL s bs ds ns ks).1[i]? = some (zeroed b d) ∧ (explainL s bs ds ns ks).2[i]? = some (backC s.g.Q b d n k)
 | b :: bs,d :: ds,n :: ns,k :: ks,0,x,y,z,u,h1,h2,h3,h4=>by
  simp at h1 h2 h3 h4
  subst h1 h2 h3 h4
  exact ⟨rfl,rfl⟩
 | b :: bs,d :: ds,n :: ns,k :: ks,i + 1,x,y,z,u,h1,h2,h3,h4=>explainL_at (bs:=bs) (ds:=ds) (ns:=ns) (ks:=ks) (i:=i) (by simpa using h1) (by simpa using h2) (by simpa using h3) (by simpa using h4)
 | [],_,_,_,_,_,_,_,_,h,_,_,_=>by simp at h
 | _ :: _,[],_,_,_,_,_,_,_,_,h,_,_=>by simp at h
 | _ :: _,_ :: _,[],_,_,_,_,_,_,_,_,h,_=>by simp at h
 | _ :: _,_ :: _,_ :: _,[],_,_,_,_,_,_,_,_,h=>by simp at h
theorem explainL_len {s:Stp}:∀ {bs:List (List Bool)} {ds:List (List Int)} {ns:List (List (List Int))} {ks:List (List Knw)},ds.length = bs.length → ns.length = bs.length → ks.length = bs.length →
  (explainL s bs ds ns ks).1.length = bs.length ∧ (explainL s bs ds ns ks).2.length = bs.length
 | [],_,_,_,_,_,_=>by simp [explainL]
 | b :: bs,d :: ds,n :: ns,k :: ks,h1,h2,h3=>by
  have:=explainL_len (s:=s) (bs:=bs) (ds:=ds) (ns:=ns) (ks:=ks) (by simpa using h1) (by simpa using h2) (by simpa using h3)
  simp [explainL,this]
 | b :: bs,[],_,_,h,_,_=>by simp at h
 | b :: bs,_ :: _,[],_,_,h,_=>by simp at h
 | b :: bs,_ :: _,_ :: _,[],_,_,h=>by simp at h
theorem chosenL_at {s:Stp}:∀ {goal:List Cls} {know:List (List Knw)} {i:Nat} {c:Cls} {k:List Knw},goal[i]? = some c → know[i]? = some k → (chosenL s goal know).1[i]? = some (chosenC s c.need c.claims k).1
 | c :: cs,k :: ks,0,c',k',h1,h2=>by
  simp at h1 h2
  subst h1 h2
  rfl
 | c :: cs,k :: ks,i + 1,c',k',h1,h2=>chosenL_at (goal:=cs) (know:=ks) (i:=i) (by simpa using h1) (by simpa using h2)
 | [],_,_,_,_,h,_=>by simp at h
 | _ :: _,[],_,_,_,_,h=>by simp at h
theorem chosenL_len {s:Stp}:∀ {goal:List Cls} {know:List (List Knw)},know.length = goal.length → (chosenL s goal know).1.length = goal.length
 | [],_,_=>by simp [chosenL]
 | c :: cs,k :: ks,h=>by
  have:=chosenL_len (s:=s) (goal:=cs) (know:=ks) (by simpa using h)
  simp [chosenL,this]
 | c :: cs,[],h=>by simp at h
theorem zeroC_at:∀ {b:List Bool} {d:List Int} {k:Nat} {x:Bool} {y:Int},zeroC b d = true → b[k]? = some x → d[k]? = some y → x = true → y = 0
 | b :: bs,d :: ds,0,x,y,h,h1,h2,hx=>by
  simp at h1 h2
  subst h1 h2
  unfold zeroC at h
  simp only [hx,Bool.not_true,Bool.false_or,Bool.and_eq_true,decide_eq_true_eq] at h
  exact h.1
 | b :: bs,d :: ds,i + 1,x,y,h,h1,h2,hx=>by
  unfold zeroC at h
  rw [Bool.and_eq_true] at h
  exact zeroC_at (b:=bs) (d:=ds) (k:=i) h.2 (by simpa using h1) (by simpa using h2) hx
 | [],_,_,_,_,_,h,_,_=>by simp at h
 | _ :: _,[],_,_,_,_,_,h,_=>by simp at h
theorem zeroC_of:∀ {b:List Bool} {d:List Int},(∀ (k:Nat) (x:Bool) (y:Int),b[k]? = some x → d[k]? = some y → x = true → y = 0) → zeroC b d = true
 | [],_,_=>by simp [zeroC]
 | _ :: _,[],_=>by simp [zeroC]
 | b :: bs,d :: ds,h=>by
  have h1:=h 0 b d rfl rfl
  have h2:=zeroC_of (b:=bs) (d:=ds) (fun k x y a c=>h (k + 1) x y (by simpa using a) (by simpa using c))
  cases b <;> simp_all [zeroC]
theorem zeroL_at:∀ {bs:List (List Bool)} {ds:List (List Int)} {i:Nat} {b:List Bool} {d:List Int},zeroL bs ds = true → bs[i]? = some b → ds[i]? = some d → zeroC b d = true
 | b :: bs,d :: ds,0,x,y,h,h1,h2=>by
  simp at h1 h2
  subst h1 h2
  unfold zeroL at h
  rw [Bool.and_eq_true] at h
  exact h.1
 | b :: bs,d :: ds,i + 1,x,y,h,h1,h2=>by
  unfold zeroL at h
  rw [Bool.and_eq_true] at h
  exact zeroL_at (bs:=bs) (ds:=ds) (i:=i) h.2 (by simpa using h1) (by simpa using h2)
 | [],_,_,_,_,_,h,_=>by simp at h
 | _ :: _,[],_,_,_,_,_,h=>by simp at h
theorem zeroL_of:∀ {bs:List (List Bool)} {ds:List (List Int)},(∀ (i:Nat) (b:List Bool) (d:List Int),bs[i]? = some b → ds[i]? = some d → zeroC b d = true) → zeroL bs ds = true
 | [],_,_=>by simp [zeroL]
 | _ :: _,[],_=>by simp [zeroL]
 | b :: bs,d :: ds,h=>by
  unfold zeroL
  rw [h 0 b d rfl rfl,zeroL_of (bs:=bs) (ds:=ds) (fun i b' d' a c=>h (i + 1) b' d' (by simpa using a) (by simpa using c))]
  rfl
end Go.Proofs
namespace Go.Proofs
open Go Go.Sh Tryz
def held_18_43 (kn_39 kr_40:WK) (l_37:List Value) (v10 v11 v12 v9:Value) (w:World):Prop:=
 heldM w (fun C_43 w=>(((true:Bool) = true) ∧ (jL 120 v12 C_43 (fun v58=>
 jF 127 0 (l_37.getD 0 undef) C_43 (fun v59=>
 jL 3 v59 C_43 (fun v60=>
 jI 120 v58 v60 C_43 (fun v61=>
 jL 61 v61 C_43 (fun v62=>
 jF 127 1 (l_37.getD 0 undef) C_43 (fun v63=>
 jL 3 v63 C_43 (fun v64=>
 jI 61 v62 v64 C_43 (fun v65=>
 jL 4 v65 C_43 (fun v66=>
 pureH v66 C_43 (fun v67=>
 jT v67 (jF 32 1 v9) C_43 (fun v68=>
 jT v67 (jL 30 v68) C_43 (fun v69=>
 jT v67 (jF 127 0 (l_37.getD 0 undef)) C_43 (fun v70=>
 jT v67 (jL 3 v70) C_43 (fun v71=>
 jT v67 (jI 30 v69 v71) C_43 (fun v72=>
 jT v67 (jL 24 v72) C_43 (fun v73=>
 jT v67 (jF 127 1 (l_37.getD 0 undef)) C_43 (fun v74=>
 jT v67 (jL 3 v74) C_43 (fun v75=>
 jT v67 (jI 24 v73 v75) C_43 (fun v76=>
 jT v67 (jL 3 v76) C_43 (fun v77=>
 jT v67 (jC .neq 3 0 4 v77) C_43 (fun v78=>
 jP v67 v78 (.bool false) C_43 (fun v79=>
 ∃ S_66:World → WK,∀ w,C_43 w → (
 condM v79
 (oM prog (.build 34 #[]) 34 [] (fun v80 w=>
 kS 34 v10 v80 (fun _ w=>
 kS 39 v11 (.int .i64 3) (fun _ w=>
 kr_40 w) w) w) w)
 (kn_39 w)))))))))))))))))))))))))))
def held_18_119 (M_102:List Value → World → Prop) (a3:Value) (l_100 l_79:List Value) (v109 v116 v5:Value) (w:World):Prop:=
 heldM w (fun C_119 w=>(((true:Bool) = true) ∧ (pureH v109 C_119 (fun v136=>
 pureH (l_100.getD 2 undef) C_119 (fun v137=>
 jF 26 0 v5 C_119 (fun v138=>
 jF 23 1 v138 C_119 (fun v139=>
 jL 3 v139 C_119 (fun v140=>
 pureH v109 C_119 (fun v141=>
 pureH (l_100.getD 2 undef) C_119 (fun v142=>
 jI 30 v141 v142 C_119 (fun v143=>
 jL 24 v143 C_119 (fun v144=>
 pureH v116 C_119 (fun v145=>
 pureH a3 C_119 (fun v146=>
 pureH (l_79.getD 5 undef) C_119 (fun v147=>
 jI 28 v146 v147 C_119 (fun v148=>
 jL 114 v148 C_119 (fun v149=>
 pureH (l_100.getD 2 undef) C_119 (fun v150=>
 jI 114 v149 v150 C_119 (fun v151=>
 jF 113 1 v151 C_119 (fun v152=>
 jL 24 v152 C_119 (fun v153=>
 ∃ S_138:World → WK,∃ R_139:VK,(∀ v w w_1,S_138 w w_1 → R_139 v w → R_139 v w_1) ∧
 (∀ w,C_119 w → (callM prog 97 #[v140,v144,v145,v153] (fun v w_1=>C_119 w_1 ∧ S_138 w w_1 ∧ R_139 v w_1) w)) ∧
 (∀ w,C_119 w → ∀ v154,R_139 v154 w → (
 kI 30 v136 v137 (fun v155 w=>
 kS 24 v155 v154 (fun _ w=>
 M_102 [(l_100.getD 2 undef),v116] w) w) w)))))))))))))))))))))))
def pre_18_102 (a3:Value) (l_100 l_79:List Value) (v106 v109 v12 v5 v9:Value) (M_102:List Value → World → Prop) (w:World):Prop:=
 kI 24 v106 (l_100.getD 2 undef) (fun v115 w=>
 kL 3 v115 (fun v116 w=>
 kF 32 0 v9 (fun v119 w=>
 kL 29 v119 (fun v120 w=>
 kI 29 v120 (l_79.getD 5 undef) (fun v122 w=>
 kL 30 v122 (fun v123 w=>
 kI 30 v123 (l_100.getD 2 undef) (fun v125 w=>
 kL 24 v125 (fun v126 w=>
 callM prog 96 #[v126] (fun v127 w=>
 kI 30 v109 (l_100.getD 2 undef) (fun v128 w=>
 kS 24 v128 v127 (fun _ w=>
 kL 120 v12 (fun v129 w=>
 kI 120 v129 (l_79.getD 5 undef) (fun v131 w=>
 kL 61 v131 (fun v132 w=>
 kI 61 v132 (l_100.getD 2 undef) (fun v134 w=>
 kL 4 v134 (fun v135 w=>
 condM v135
 (held_18_119 M_102 a3 l_100 l_79 v109 v116 v5 w)
 (M_102 [(l_100.getD 2 undef),v116] w)) w) w) w) w) w) w) w) w) w) w) w) w) w) w) w) w
def held_18_143 (J_77:List Value → World → Prop) (l_100 l_79:List Value) (m_78:List Value → World → Nat) (v106 v109 v16:Value) (w0_l_79 w:World):Prop:=
 heldM w (fun C_143 w=>(((true:Bool) = true) ∧ (jF 34 0 v16 C_143 (fun v157=>
 jL 30 v157 C_143 (fun v158=>
 pureH v106 C_143 (fun v159=>
 jF 34 1 v16 C_143 (fun v162=>
 jL 29 v162 C_143 (fun v163=>
 pureH v109 C_143 (fun v164=>
 ∃ S_150:World → WK,∃ R_151:VK,(∀ v w w_1,S_150 w w_1 → R_151 v w → R_151 v w_1) ∧
 (∀ w,C_143 w → (oM prog (.buildSlice 30 1 #[(0,(.tmp 0))]) 30 [v159] (fun v w_1=>C_143 w_1 ∧ S_150 w w_1 ∧ R_151 v w_1) w)) ∧
 (∃ R_152:VK,(∀ v w w_1,S_150 w w_1 → R_152 v w → R_152 v w_1) ∧
 (∀ w,C_143 w → ∀ v160,R_151 v160 w → (oM prog (.call (Go.Call.mk (.builtin .append) #[(.tmp 0),(.tmp 1)] #[30,30])) 30 [v158,v160] (fun v w_1=>C_143 w_1 ∧ S_150 w w_1 ∧ R_152 v w_1) w)) ∧
 (∃ R_154:VK,(∀ v w w_1,S_150 w w_1 → R_154 v w → R_154 v w_1) ∧
 (∀ w,C_143 w → (oM prog (.buildSlice 29 1 #[(0,(.tmp 0))]) 29 [v164] (fun v w_1=>C_143 w_1 ∧ S_150 w w_1 ∧ R_154 v w_1) w)) ∧
 (∃ R_155:VK,(∀ v w w_1,S_150 w w_1 → R_155 v w → R_155 v w_1) ∧
 (∀ w,C_143 w → ∀ v165,R_154 v165 w → (oM prog (.call (Go.Call.mk (.builtin .append) #[(.tmp 0),(.tmp 1)] #[29,29])) 29 [v163,v165] (fun v w_1=>C_143 w_1 ∧ S_150 w w_1 ∧ R_155 v w_1) w)) ∧
 (∃ R_157:VK,(∀ v w w_1,S_150 w w_1 → R_157 v w → R_157 v w_1) ∧
 (∀ w,C_143 w → (kF 34 0 v16 (fun v w_1=>C_143 w_1 ∧ S_150 w w_1 ∧ R_157 v w_1) w)) ∧
 (∀ w,C_143 w → ∀ v160,R_151 v160 w → ∀ v161,R_152 v161 w → ∀ v165,R_154 v165 w → ∀ v166,R_155 v166 w → ∀ v167,R_157 v167 w → (
 kS 30 v167 v161 (fun _ w=>
 kF 34 1 v16 (fun v168 w=>
 kS 29 v168 v166 (fun _ w=>
 kB .add 3 3 (l_79.getD 5 undef) (.int .i64 1) (fun v169 w=>
 J_77 [(l_79.getD 5 undef),v106,v109,(l_100.getD 0 undef),(l_100.getD 1 undef),v169] w ∧ m_78 [(l_79.getD 5 undef),v106,v109,(l_100.getD 0 undef),(l_100.getD 1 undef),v169] w < m_78 l_79 w0_l_79) w) w) w) w)))))))))))))))
def loop_18_98 (J_77 J_98:List Value → World → Prop) (a3:Value) (l_100 l_79:List Value) (m_78 m_99:List Value → World → Nat) (v106 v109 v111 v12 v16 v5 v9:Value) (w0_l_79 w0_l_100:World):Prop:=
(fun w=>(
 kB .lss 3 0 (l_100.getD 2 undef) v111 (fun v113 w=>
 condM v113
 (joinM (fun M_102=>(pre_18_102 a3 l_100 l_79 v106 v109 v12 v5 v9 M_102 w))
 (fun l_103 u_l_103 w=>(kB .add 3 3 (l_100.getD 2 undef) (.int .i64 1) (fun v156 w=>
 J_98 [(l_103.getD 0 undef),(l_103.getD 1 undef),v156] w ∧ m_99 [(l_103.getD 0 undef),(l_103.getD 1 undef),v156] w < m_99 l_100 w0_l_100) w)))
 (held_18_143 J_77 l_100 l_79 m_78 v106 v109 v16 w0_l_79 w)) w)) w0_l_100
def held_18_81 (J_77:List Value → World → Prop) (a3:Value) (l_79:List Value) (m_78:List Value → World → Nat) (v12 v16 v5 v88 v9:Value) (w0_l_79 w:World):Prop:=
 heldM w (fun C_81 w=>(((true:Bool) = true) ∧ (jL 26 v5 C_81 (fun v95=>
 jL 120 v12 C_81 (fun v96=>
 pureH (l_79.getD 5 undef) C_81 (fun v97=>
 jI 120 v96 v97 C_81 (fun v98=>
 jL 61 v98 C_81 (fun v99=>
 jF 32 1 v9 C_81 (fun v100=>
 jL 30 v100 C_81 (fun v101=>
 pureH (l_79.getD 5 undef) C_81 (fun v102=>
 jI 30 v101 v102 C_81 (fun v103=>
 jL 24 v103 C_81 (fun v104=>
 pureH v88 C_81 (fun v105=>
 ∃ S_93:World → WK,∀ w,C_81 w → (
 callM prog 95 #[v95,v99,v104,v105] (fun v106 w=>
 kN 24 v106 (fun v108 w=>
 oM prog (.makeSlice 30 (.tmp 0) (.tmp 1)) 30 [v108,v108] (fun v109 w=>
 kN 24 v106 (fun v111 w=>
 loopM [(l_79.getD 3 undef),(l_79.getD 4 undef),(.int .i64 0)] w (fun J_98 m_99 l_100 u_l_100 w0_l_100=>loop_18_98 J_77 J_98 a3 l_100 l_79 m_78 m_99 v106 v109 v111 v12 v16 v5 v9 w0_l_79 w0_l_100)) w) w) w) w)))))))))))))))
def loop_18_77 (D_41:Nat) (J_77:List Value → World → Prop) (K:VK) (a3:Value) (l_79:List Value) (m_78:List Value → World → Nat) (v10 v11 v12 v16 v5 v88 v91 v9:Value) (w0_l_79:World):Prop:=
(fun w=>(
 kB .lss 3 0 (l_79.getD 5 undef) v91 (fun v93 w=>
 condM v93
 (held_18_81 J_77 a3 l_79 m_78 v12 v16 v5 v88 v9 w0_l_79 w)
 (kL 34 v16 (fun v170 w=>
 kS 34 v10 v170 (fun _ w=>
 kS 39 v11 (.int .i64 0) (fun _ w=>
 w.heap[D_41]? = some (.deferred (some [])) ∧ ∃ r_166,(do loadVar 34 (← asAddr v10):Sem Value).run prog (w.putObj D_41 (.deferred none)) = .ok r_166 (w.putObj D_41 (.deferred none)) ∧ ∃ r_167,(do loadVar 39 (← asAddr v11):Sem Value).run prog (w.putObj D_41 (.deferred none)) = .ok r_167 (w.putObj D_41 (.deferred none)) ∧ K (.tuple #[r_166,r_167]) (w.putObj D_41 (.deferred none))) w) w) w)) w)) w0_l_79
def sh_18c (a0 a1 a2 a3 a4:Value) (K:VK) (w:World):Prop:=
 oM prog (.box 26 (.tmp 0)) 0 [a0] (fun v5 w=>
 oM prog (.box 32 (.tmp 0)) 0 [a4] (fun v9 w=>
 kA 34 (fun v10 w=>
 kA 39 (fun v11 w=>
 kL 26 v5 (fun v22 w=>
 callM prog 23 #[v22,a1] (fun v24 w=>
 kU v24 (fun v25 w=>
 gF v25 (kL 26 v5) (fun v27 w=>
 gF v25 (pureM a1) (fun v28 w=>
 gF v25 (pureM a3) (fun v29 w=>
 gF v25 (callM prog 90 #[v27,v28,v29]) (fun v30 w=>
 gF v25 (kU v30) (fun v31 w=>
 kP v25 (.bool true) v31 (fun v32 w=>
 gF v32 (kL 26 v5) (fun v34 w=>
 gF v32 (pureM a1) (fun v35 w=>
 gF v32 (kF 32 1 v9) (fun v36 w=>
 gF v32 (kL 30 v36) (fun v37 w=>
 gF v32 (kF 32 0 v9) (fun v38 w=>
 gF v32 (kL 29 v38) (fun v39 w=>
 gF v32 (callM prog 91 #[v34,v35,v37,v39]) (fun v40 w=>
 gF v32 (kU v40) (fun v41 w=>
 kP v32 (.bool true) v41 (fun v42 w=>
 condM v42
 (oM prog (.build 34 #[]) 34 [] (fun v43 w=>
 kS 34 v10 v43 (fun _ w=>
 kS 39 v11 (.int .i64 1) (fun _ w=>
 ∃ r_24,(do loadVar 34 (← asAddr v10):Sem Value).run prog w = .ok r_24 w ∧ ∃ r_25,(do loadVar 39 (← asAddr v11):Sem Value).run prog w = .ok r_25 w ∧ K (.tuple #[r_24,r_25]) w) w) w) w)
 (kL 26 v5 (fun v45 w=>
 callM prog 92 #[v45,a1,a3] (fun v48 w=>
 kE 0 120 v48 (fun v49 w=>
 kE 1 4 v48 (fun v50 w=>
 kA 120 (fun v12 w=>
 kS 120 v12 v49 (fun _ w=>
 kU v50 (fun v52 w=>
 condM v52
 (oM prog (.build 34 #[]) 34 [] (fun v53 w=>
 kS 34 v10 v53 (fun _ w=>
 kS 39 v11 (.int .i64 13) (fun _ w=>
 ∃ r_33,(do loadVar 34 (← asAddr v10):Sem Value).run prog w = .ok r_33 w ∧ ∃ r_34,(do loadVar 39 (← asAddr v11):Sem Value).run prog w = .ok r_34 w ∧ K (.tuple #[r_33,r_34]) w) w) w) w)
 (callM prog 93 #[a1] (fun v55 w=>
 rangeM prog v55 2 w
 (fun vs_36 k_38 w=>(kA 127 (fun v14 w=>
 kS 127 v14 (vs_36.getD 0 undef) (fun _ w=>
 k_38 [v14] w) w) w))
 (fun vs_36 l_37 u_l_37 kn_39 kr_40 w=>(held_18_43 kn_39 kr_40 l_37 v10 v11 v12 v9 w))
 (fun D_41 w=>(kL 26 v5 (fun v81 w=>
 kF 32 1 v9 (fun v84 w=>
 kL 30 v84 (fun v85 w=>
 kF 32 0 v9 (fun v86 w=>
 kL 29 v86 (fun v87 w=>
 callM prog 94 #[v81,a1,a2,v85,v87] (fun v88 w=>
 oM prog (.build 34 #[]) 34 [] (fun v89 w=>
 kA 34 (fun v16 w=>
 kS 34 v16 v89 (fun _ w=>
 kN 27 a1 (fun v91 w=>
 loopM [undef,undef,undef,undef,undef,(.int .i64 0)] w (fun J_77 m_78 l_79 u_l_79 w0_l_79=>loop_18_77 D_41 J_77 K a3 l_79 m_78 v10 v11 v12 v16 v5 v88 v91 v9 w0_l_79)) w) w) w) w) w) w) w) w) w) w))
 (fun D_41 w=>(w.heap[D_41]? = some (.deferred (some [])) ∧ ∃ r_168,(do loadVar 34 (← asAddr v10):Sem Value).run prog (w.putObj D_41 (.deferred none)) = .ok r_168 (w.putObj D_41 (.deferred none)) ∧ ∃ r_169,(do loadVar 39 (← asAddr v11):Sem Value).run prog (w.putObj D_41 (.deferred none)) = .ok r_169 (w.putObj D_41 (.deferred none)) ∧ K (.tuple #[r_168,r_169]) (w.putObj D_41 (.deferred none))))) w)) w) w) w) w) w) w) w)) w) w) w) w) w) w) w) w) w) w) w) w) w) w) w) w) w) w) w) w) w) w
theorem sh_18c_ok {a0 a1 a2 a3 a4:Value} {K:VK} {w:World} (h:sh_18c a0 a1 a2 a3 a4 K w):callM prog 18 #[a0,a1,a2,a3,a4] K w:=
 callsF_of_code (fun i=>bif Nat.beq i 8 then .free [0,1,2,3,4,5,6,7,8,9,10,11,12,13,14,15,16,17,18,19,20,21] [] [] else bif Nat.beq i 15 then .free [0,1,2,3,4,5,6,7,8,9,10] [] [11,12] else bif Nat.beq i 22 then .free [0,1,2,3,4,5,6,7,8,9,10,11,12,13,14,15,16,17] [18] [19,20] else bif Nat.beq i 24 then .free [0,1,2,5,6,7] [3,4,8,9,10] [11,12,13] else 0) (fn:=Tryz.f18) (rs:=[.cell 10 34,.cell 11 39]) Tryz.func18 rfl rfl (by kernel_rfl) (nB rfl) (Eq.mp (by kernel_rfl) h)
def held_27_54 (M_48:List Value → World → Prop) (a4:Value) (l_28 l_39:List Value) (v55 v5 v70:Value) (w:World):Prop:=
 heldM w (fun C_54 w=>(((true:Bool) = true) ∧ (jF 26 0 v5 C_54 (fun v78=>
 jF 23 1 v78 C_54 (fun v79=>
 jL 3 v79 C_54 (fun v80=>
 pureH v70 C_54 (fun v81=>
 pureH v55 C_54 (fun v82=>
 pureH (l_39.getD 3 undef) C_54 (fun v83=>
 jI 24 v82 v83 C_54 (fun v84=>
 jL 3 v84 C_54 (fun v85=>
 oH prog (.unOp .neg 3 (.tmp 0)) 3 [v85] C_54 (fun v86=>
 pureH a4 C_54 (fun v87=>
 pureH (l_28.getD 5 undef) C_54 (fun v88=>
 jI 28 v87 v88 C_54 (fun v89=>
 jL 114 v89 C_54 (fun v90=>
 pureH (l_39.getD 3 undef) C_54 (fun v91=>
 jI 114 v90 v91 C_54 (fun v92=>
 jF 113 1 v92 C_54 (fun v93=>
 jL 24 v93 C_54 (fun v94=>
 ∃ S_72:World → WK,∀ w,C_54 w → (
 callM prog 97 #[v80,v81,v86,v94] (fun v95 w=>
 kI 24 v55 (l_39.getD 3 undef) (fun v98 w=>
 kS 3 v98 (.int .i64 0) (fun _ w=>
 M_48 [v95] w) w) w) w)))))))))))))))))))))
def pre_27_48 (a4:Value) (l_28 l_39:List Value) (v39 v55 v5 v70:Value) (M_48:List Value → World → Prop) (w:World):Prop:=
 kI 120 v39 (l_28.getD 5 undef) (fun v73 w=>
 kL 61 v73 (fun v74 w=>
 kI 61 v74 (l_39.getD 3 undef) (fun v76 w=>
 kL 4 v76 (fun v77 w=>
 condM v77
 (held_27_54 M_48 a4 l_28 l_39 v55 v5 v70 w)
 (M_48 [v70] w)) w) w) w) w
def post_27_48 (J_37:List Value → World → Prop) (l_39:List Value) (m_38:List Value → World → Nat) (w0_l_39:World) (l_49:List Value) (w:World):Prop:=
 oM prog (.buildSlice 30 1 #[(0,(.tmp 0))]) 30 [(l_49.getD 0 undef)] (fun v101 w=>
 oM prog (.call (Go.Call.mk (.builtin .append) #[(.tmp 0),(.tmp 1)] #[30,30])) 30 [(l_39.getD 2 undef),v101] (fun v102 w=>
 kB .add 3 3 (l_39.getD 3 undef) (.int .i64 1) (fun v103 w=>
 J_37 [(l_39.getD 3 undef),(l_49.getD 0 undef),v102,v103] w ∧ m_38 [(l_39.getD 3 undef),(l_49.getD 0 undef),v102,v103] w < m_38 l_39 w0_l_39) w) w) w
def held_27_78 (J_26:List Value → World → Prop) (l_28 l_39:List Value) (m_27:List Value → World → Nat) (v14 v55:Value) (w0_l_28 w:World):Prop:=
 heldM w (fun C_78 w=>(((true:Bool) = true) ∧ (jF 32 1 v14 C_78 (fun v104=>
 jL 30 v104 C_78 (fun v105=>
 pureH v55 C_78 (fun v106=>
 jF 32 0 v14 C_78 (fun v109=>
 jL 29 v109 C_78 (fun v110=>
 pureH (l_39.getD 2 undef) C_78 (fun v111=>
 ∃ S_85:World → WK,∃ R_86:VK,(∀ v w w_1,S_85 w w_1 → R_86 v w → R_86 v w_1) ∧
 (∀ w,C_78 w → (oM prog (.buildSlice 30 1 #[(0,(.tmp 0))]) 30 [v106] (fun v w_1=>C_78 w_1 ∧ S_85 w w_1 ∧ R_86 v w_1) w)) ∧
 (∃ R_87:VK,(∀ v w w_1,S_85 w w_1 → R_87 v w → R_87 v w_1) ∧
 (∀ w,C_78 w → ∀ v107,R_86 v107 w → (oM prog (.call (Go.Call.mk (.builtin .append) #[(.tmp 0),(.tmp 1)] #[30,30])) 30 [v105,v107] (fun v w_1=>C_78 w_1 ∧ S_85 w w_1 ∧ R_87 v w_1) w)) ∧
 (∃ R_89:VK,(∀ v w w_1,S_85 w w_1 → R_89 v w → R_89 v w_1) ∧
 (∀ w,C_78 w → (oM prog (.buildSlice 29 1 #[(0,(.tmp 0))]) 29 [v111] (fun v w_1=>C_78 w_1 ∧ S_85 w w_1 ∧ R_89 v w_1) w)) ∧
 (∃ R_90:VK,(∀ v w w_1,S_85 w w_1 → R_90 v w → R_90 v w_1) ∧
 (∀ w,C_78 w → ∀ v112,R_89 v112 w → (oM prog (.call (Go.Call.mk (.builtin .append) #[(.tmp 0),(.tmp 1)] #[29,29])) 29 [v110,v112] (fun v w_1=>C_78 w_1 ∧ S_85 w w_1 ∧ R_90 v w_1) w)) ∧
 (∃ R_92:VK,(∀ v w w_1,S_85 w w_1 → R_92 v w → R_92 v w_1) ∧
 (∀ w,C_78 w → (kF 32 1 v14 (fun v w_1=>C_78 w_1 ∧ S_85 w w_1 ∧ R_92 v w_1) w)) ∧
 (∀ w,C_78 w → ∀ v107,R_86 v107 w → ∀ v108,R_87 v108 w → ∀ v112,R_89 v112 w → ∀ v113,R_90 v113 w → ∀ v114,R_92 v114 w → (
 kS 30 v114 v108 (fun _ w=>
 kF 32 0 v14 (fun v115 w=>
 kS 29 v115 v113 (fun _ w=>
 kB .add 3 3 (l_28.getD 5 undef) (.int .i64 1) (fun v116 w=>
 J_26 [(l_28.getD 5 undef),v55,(l_39.getD 2 undef),(l_39.getD 0 undef),(l_39.getD 1 undef),v116] w ∧ m_27 [(l_28.getD 5 undef),v55,(l_39.getD 2 undef),(l_39.getD 0 undef),(l_39.getD 1 undef),v116] w < m_27 l_28 w0_l_28) w) w) w) w)))))))))))))))
def loop_27_37 (J_26 J_37:List Value → World → Prop) (a4:Value) (l_28 l_39:List Value) (m_27 m_38:List Value → World → Nat) (v14 v39 v55 v58 v5 v8:Value) (w0_l_28 w0_l_39:World):Prop:=
(fun w=>(
 kB .lss 3 0 (l_39.getD 3 undef) v58 (fun v60 w=>
 condM v60
 (kF 34 1 v8 (fun v62 w=>
 kL 29 v62 (fun v63 w=>
 kI 29 v63 (l_28.getD 5 undef) (fun v65 w=>
 kL 30 v65 (fun v66 w=>
 kI 30 v66 (l_39.getD 3 undef) (fun v68 w=>
 kL 24 v68 (fun v69 w=>
 callM prog 96 #[v69] (fun v70 w=>
 joinM (fun M_48=>(pre_27_48 a4 l_28 l_39 v39 v55 v5 v70 M_48 w))
 (fun l_49 u_l_49 w=>(post_27_48 J_37 l_39 m_38 w0_l_39 l_49 w))) w) w) w) w) w) w) w)
 (held_27_78 J_26 l_28 l_39 m_27 v14 v55 w0_l_28 w)) w)) w0_l_39
def loop_27_26 (J_26:List Value → World → Prop) (K:VK) (a4:Value) (l_28:List Value) (m_27:List Value → World → Nat) (v10 v14 v39 v46 v5 v8:Value) (w0_l_28:World):Prop:=
(fun w=>(
 kB .lss 3 0 (l_28.getD 5 undef) v46 (fun v48 w=>
 condM v48
 (kF 34 0 v8 (fun v50 w=>
 kL 30 v50 (fun v51 w=>
 kI 30 v51 (l_28.getD 5 undef) (fun v53 w=>
 kL 24 v53 (fun v54 w=>
 callM prog 96 #[v54] (fun v55 w=>
 oM prog (.buildSlice 30 0 #[]) 30 [] (fun v56 w=>
 kN 24 v55 (fun v58 w=>
 loopM [(l_28.getD 3 undef),(l_28.getD 4 undef),v56,(.int .i64 0)] w (fun J_37 m_38 l_39 u_l_39 w0_l_39=>loop_27_37 J_26 J_37 a4 l_28 l_39 m_27 m_38 v14 v39 v55 v58 v5 v8 w0_l_28 w0_l_39)) w) w) w) w) w) w) w)
 (kL 32 v14 (fun v117 w=>
 kS 32 v10 v117 (fun _ w=>
 ∃ r_101,(do loadVar 32 (← asAddr v10):Sem Value).run prog w = .ok r_101 w ∧ K (.tuple #[r_101,(.bool true)]) w) w) w)) w)) w0_l_28
def sh_27c (a0 a1 a2 a3 a4:Value) (K:VK) (w:World):Prop:=
 oM prog (.box 26 (.tmp 0)) 0 [a0] (fun v5 w=>
 oM prog (.box 34 (.tmp 0)) 0 [a3] (fun v8 w=>
 kA 32 (fun v10 w=>
 kL 26 v5 (fun v20 w=>
 kL 34 v8 (fun v23 w=>
 callM prog 30 #[v20,a1,a2,v23] (fun v24 w=>
 kU v24 (fun v25 w=>
 gF v25 (kL 26 v5) (fun v27 w=>
 gF v25 (pureM a1) (fun v28 w=>
 gF v25 (pureM a4) (fun v29 w=>
 gF v25 (callM prog 90 #[v27,v28,v29]) (fun v30 w=>
 gF v25 (kU v30) (fun v31 w=>
 kP v25 (.bool true) v31 (fun v32 w=>
 condM v32
 (oM prog (.build 32 #[]) 32 [] (fun v33 w=>
 kS 32 v10 v33 (fun _ w=>
 ∃ r_15,(do loadVar 32 (← asAddr v10):Sem Value).run prog w = .ok r_15 w ∧ K (.tuple #[r_15,(.bool false)]) w) w) w)
 (kL 26 v5 (fun v35 w=>
 callM prog 92 #[v35,a1,a4] (fun v38 w=>
 kE 0 120 v38 (fun v39 w=>
 kE 1 4 v38 (fun v40 w=>
 kU v40 (fun v42 w=>
 condM v42
 (oM prog (.build 32 #[]) 32 [] (fun v43 w=>
 kS 32 v10 v43 (fun _ w=>
 ∃ r_22,(do loadVar 32 (← asAddr v10):Sem Value).run prog w = .ok r_22 w ∧ K (.tuple #[r_22,(.bool false)]) w) w) w)
 (oM prog (.build 32 #[]) 32 [] (fun v44 w=>
 kA 32 (fun v14 w=>
 kS 32 v14 v44 (fun _ w=>
 kN 27 a1 (fun v46 w=>
 loopM [undef,undef,undef,undef,undef,(.int .i64 0)] w (fun J_26 m_27 l_28 u_l_28 w0_l_28=>loop_27_26 J_26 K a4 l_28 m_27 v10 v14 v39 v46 v5 v8 w0_l_28)) w) w) w) w)) w) w) w) w) w)) w) w) w) w) w) w) w) w) w) w) w) w) w
theorem sh_27c_ok {a0 a1 a2 a3 a4:Value} {K:VK} {w:World} (h:sh_27c a0 a1 a2 a3 a4 K w):callM prog 27 #[a0,a1,a2,a3,a4] K w:=
 calls_of_code (fun i=>bif Nat.beq i 16 then .free [0,1,2,3,4,5,6,7,8,9,10,11,12,13,14,15,16] [] [17,18] else bif Nat.beq i 20 then .free [0,1,2,5,6,7] [3,4,8,9,10] [11,12,13] else 0) (fn:=Tryz.f27) (rs:=[.cell 10 32,.tmp 11]) Tryz.func27 rfl rfl (by kernel_rfl) (nB rfl) (Eq.mp (by kernel_rfl) h)
end Go.Proofs
namespace Go.Proofs
open Go Go.Sh Go.RowKit FdSpec TkSpec CodeSpec PrSpec FdPoly
section
variable {K:VK} {w w' w0 W W':World} {L:List (Addr × Value)} {g n B:Nat} {row:Option Nat}
abbrev BoolRows (w:World) (v:Value) (l:List (List Bool)):Prop:=SRow 1 (AtOf 1 (VOne BoolsR)) w v l
theorem boolsr_vstay:VStay (VOne BoolsR):=rows_stay bools_vstay
theorem OutB.rows {rows:List (List Bool)} (h:OutB w B g rows) (hl:rows.length ≤ 9223372036854775807) (hr:∀ r ∈ rows,r.length ≤ 9223372036854775807):BoolRows w (.slice (some ⟨g,0,none⟩) rows.length rows.length) rows:=by
 obtain ⟨vs,h1,h2,h3,_,_⟩:=h.ex
 refine ⟨⟨_,_,rfl,.inr ⟨g,0,rfl,h2.lt,fun i hi=>?_⟩⟩,hl⟩
 have hiv:i < vs.length:=by omega
 have ev:vs[i]? = some vs[i]:=gE hiv
 have er:rows[i]? = some rows[i]:=gE hi
 refine ⟨[vs[i]],rfl,fun j u hj=>?_,_,rfl,GRow.srow (by decide) (h3 i _ _ ev er) (hr _ (List.getElem_mem hi))⟩
 obtain ⟨h4,rfl⟩:=gS hj
 have hj0:j = 0:=by simpa using h4
 subst hj0
 have:=h2.cell i hiv
 simpa using this
def Yng (B g:Nat) (w:World):Nat → Prop:=fun i=>B ≤ i ∧ i < w.heap.size ∧ i ≠ g
theorem Yng.mono (hs:w.heap.size ≤ w'.heap.size):∀ i,Yng B g w i → Yng B g w' i:=fun i h=>⟨h.1,lL h.2.1 hs,h.2.2⟩
structure OutI (B g:Nat) (w:World) (rows:L2):Prop where
 ex:∃ vs:List Value,vs.length = rows.length ∧ Holds w g 24 vs ∧ FP (Yng B g w) w (fun w=>∀ (i:Nat) (v:Value) (r:List Int),vs[i]? = some v → rows[i]? = some r → Ints w v r)
 base:B ≤ g
theorem OutI.lt {rows:L2} (h:OutI B g w rows):g < w.heap.size:=by
 obtain ⟨vs,_,h2,_⟩:=h.ex
 exact h2.lt
theorem OutI.next {rows:L2} (h:OutI B g w rows) (hb:Bw w w'):OutI B g w' rows:=by
 obtain ⟨vs,h1,h2,h3⟩:=h.ex
 exact ⟨⟨vs,h1,h2.next hb,(h3.next hb (fun i hi=>hi.2.1)).mono (Yng.mono hb.size)⟩,h.base⟩
theorem OutI.get {rows:L2} {i:Nat} {r:List Int} (h:OutI B g w rows) (hi:rows[i]? = some r):∃ ad c,w.cell? ⟨g,i,none⟩ = some (.slice ad r.length c) ∧ Ints w (.slice ad r.length c) r:=by
 obtain ⟨vs,h1,h2,h3⟩:=h.ex
 have hlt:i < vs.length:=by have:=(gS hi).1; omega
 have ev:vs[i]? = some vs[i]:=gE hlt
 have hI:=h3.here i _ r ev hi
 obtain ⟨ad,c,e⟩:=hI.isSlice
 exact ⟨ad,c,by rw [h2.cell i hlt,e],by rw [← e]; exact hI⟩
theorem OutI.set {rows:L2} {i m c:Nat} {ad:Option Addr} {r:List Int} {T':TypeId} (h:OutI B g w rows) (hi:i < rows.length) (hv:FP (Yng B g w) w (fun w=>Ints w (.slice ad m c) r))
  (k:∀ w1,w.grownBy w1 (some g) → OutI B g w1 (rows.set i r) → K undef w1):oM Tryz.prog (.store 24 (.tmp 0) (.tmp 1)) T' [.pointer (some ⟨g,i,none⟩),.slice ad m c] K w:=by
 obtain ⟨vs,h1,h2,h3⟩:=h.ex
 refine arr_set sz_intsR rfl rfl h2 (by omega) (fun w1 hg hh=>k w1 hg ⟨⟨vs.set i (.slice ad m c),by simpa using h1,hh,?_⟩,h.base⟩)
 have hoff:∀ j,Yng B g w j → j < w.heap.size ∧ some g ≠ some j:=fun j hj=>⟨hj.2.1,fun e=>hj.2.2 (oI e).symm⟩
 refine (((h3.by hg hoff).both (hv.by hg hoff)).imp ?_).mono (Yng.mono hg.size)
 rintro w2 ⟨a,b⟩ j v r' hj hr'
 rw [List.getElem?_set] at hj hr'
 by_cases hij:i = j
 ·subst hij
  rw [if_pos rfl,if_pos (by omega)] at hj
  rw [if_pos rfl,if_pos hi] at hr'
  cases hj; cases hr'
  exact b
 ·rw [if_neg hij] at hj hr'
  exact a j v r' hj hr'
theorem OutI.fp {rows:L2} (h:OutI B g w rows) (hl:rows.length ≤ 9223372036854775807):FP (fun i=>B ≤ i ∧ i < w.heap.size) w (fun w=>ListsR w (.slice (some ⟨g,0,none⟩) rows.length rows.length) rows):=by
 obtain ⟨vs,h1,h2,h3⟩:=h.ex
 have hg:=h2.lt
 refine ((h3.mono (fun i hi=>⟨hi.1,hi.2.1⟩)).both (h2.fp.mono (fun i hi=>by subst hi; exact ⟨h.base,hg⟩))).imp ?_
 rintro w2 ⟨a,b⟩
 refine ⟨⟨_,_,rfl,.inr ⟨g,0,rfl,b.lt,fun i hi=>?_⟩⟩,hl⟩
 have hiv:i < vs.length:=by omega
 refine ⟨[vs[i]],rfl,fun j u hj=>?_,_,rfl,a i _ _ (gE hiv) (gE hi)⟩
 obtain ⟨h4,rfl⟩:=gS hj
 have hj0:j = 0:=by simpa using h4
 subst hj0
 have:=b.cell i hiv
 simpa using this
theorem own_fp {B':Nat} {v:Value} {l:List Int} (h:OwnI w B' v l) (hr:∀ x ∈ l,I64 x) (hl:l.length ≤ 9223372036854775807) (hB:B ≤ B') (hg:g < B'):FP (Yng B g w) w (fun w=>Ints w v l):=
 (h.ints hr hl).fp.mono (fun i hi=>by have:=(owns_own h (own_inB h hi.1)).2.1; exact ⟨by omega,hi.2,by omega⟩)
theorem make_lists {T:TypeId} {n:Nat} (hn:n ≤ 65536) (k:∀ g W,Bw w W → w.heap.size ≤ g → OutI w.heap.size g W (List.replicate n []) → K (.slice (some ⟨g,0,none⟩) n n) W):oM Tryz.prog (.makeSlice 30 (.tmp 0) (.tmp 1)) T [.int .i64 n,.int .i64 n] K w:=by
 obtain ⟨w',hr,ho,hg⟩:=run_makeSlice_full (P:=Tryz.prog) (w:=w) w.heap.size 30 24 ((Tryz.prog.info? 24).getD default) (.slice none 0 0) 1 (by kernel_rfl) (by kernel_rfl) (by kernel_rfl) (by kernel_rfl) .i64 .i64 n (by omega) (by
  have:((Tryz.prog.info? 24).getD default).bytes = 24:=by kernel_rfl
  rw [this]; omega) (by simp only [maxLen]; omega) (rL)
 rw [oM_makeSlice,hr]
 have hb:Bw w w':=⟨hg.os,hg.tape,hg.output,hg.size,fun k hk=>hg.block k hk (by simp)⟩
 have hcells:(madeCells (Value.slice none 0 0).cells (n * 1)).toList = List.replicate n (.slice none 0 0):=by
  rw [Nat.mul_one]
  apply List.ext_getElem?
  intro i
  unfold madeCells
  simp [Value.cells,List.getElem?_replicate,Array.getElem?_ofFn]
  try (split <;> simp_all [Nat.mod_one])
 refine k _ _ hb (rL) ?_
 rcases ho.2 with ⟨h1,h2⟩ | ⟨g,cap,cur,h1,hb2,hg2,hc,hm,hs,ht⟩
 ·cases h1
 ·cases h1
  rw [hcells,Nat.mul_one] at ht
  have e:cur.toList = List.replicate n (.slice none 0 0):=by
   rw [← ht,List.take_of_length_le (by simp; omega)]
  refine ⟨⟨List.replicate n (.slice none 0 0),by simp,?_,?_⟩,hb2⟩
  ·unfold Holds
   rw [hg2,← e]
  ·refine FP.pure (p:=∀ (i:Nat) (v:Value) (r:List Int),(List.replicate n (Value.slice none 0 0))[i]? = some v → (List.replicate n ([]:List Int))[i]? = some r → v = .slice none 0 0 ∧ r = []) ?_ |>.imp ?_
   ·intro i v r hv hr'
    rw [List.getElem?_replicate] at hv hr'
    by_cases hi:i < n
    ·rw [if_pos hi] at hv hr'
     exact ⟨(oI hv).symm,(oI hr').symm⟩
    ·rw [if_neg hi] at hv; cases hv
   ·intro w2 h i v r hv hr'
    obtain ⟨rfl,rfl⟩:=h i v r hv hr'
    exact Ints.nil _
structure OutQ (B b:Nat) (T:TypeId) (f:Value → Value → List Value) (w:World) (dl:L2) (al:L3):Prop where
 ex:∃ (dv av:Value) (D:Nat → Prop),Holds w b T (f dv av) ∧ ListG B D w dv dl ∧ NumG B D w av al ∧ Off D w dv ∧ Off D w av ∧ apart dv av ∧ (∀ j,D j → B ≤ j)
 lt:b < B
section
variable {b:Nat} {T:TypeId} {f:Value → Value → List Value} {dl:L2} {al:L3}
theorem OutQ.fr {S:Nat → Prop} (h:OutQ B b T f w dl al) (hf:Fr S w w') (hS:∀ j,S j → j < B ∧ j ≠ b):OutQ B b T f w' dl al:=by
 obtain ⟨dv,av,D,h1,h2,h3,h4,h5,h6,h7⟩:=h.ex
 refine ⟨⟨dv,av,D,?_,h2.keep hf (fun i hi=>⟨(h4 i hi).1,fun e=>by have:=(hS i e).1; have:=h7 i hi; omega⟩) (fun i hi e=>by have:=(hS i e).1; have:=(h2.own hi).2; omega),
  h3.keep hf (fun i hi=>⟨(h4 i hi).1,fun e=>by have:=(hS i e).1; have:=h7 i hi; omega⟩) (fun i hi e=>by have:=(hS i e).1; have:=(h3.own hi).2; omega),h4.next hf.size,h5.next hf.size,h6,h7⟩,h.lt⟩
 unfold Holds
 rw [hf.block b h1.lt (fun e=>(hS b e).2 rfl)]
 exact h1
theorem OutQ.next (h:OutQ B b T f w dl al) (hb:Bw w w'):OutQ B b T f w' dl al:=h.fr (S:=fun _=>False) (Fr.of_below' hb) (fun _ h=>h.elim)
theorem OutQ.start (hlt:b < B) (h:Holds w b T (f (.slice none 0 0) (.slice none 0 0))):OutQ B b T f w [] []:=
 ⟨⟨_,_,fun _=>False,h,.nil,.nil,fun i h=>h.elim,fun i h=>h.elim,(fun i h=>by cases h),fun i h=>h.elim⟩,hlt⟩
end
theorem _root_.Go.Sh.Holds.fr {S:Nat → Prop} {T:TypeId} {vs:List Value} (h:Holds w g T vs) (hf:Fr S w w') (hn:¬ S g):Holds w' g T vs:=(hf.block g h.lt hn).trans h
theorem _root_.Go.Sh.Holds.mine {T:TypeId} {vs:List Value} (h:Holds w g T vs) (hl:vs.length = n):Mine w g n:=⟨_,_,h,by simpa using hl⟩
theorem own_holds {T:TypeId} {vs:List Value} (h:Holds W g T vs) (hf:Fr (OwnS B W) W W'):Holds W' g T vs:=h.fr hf (own_not h rfl)
end
section
variable {K:VK} {w w' w0 W W':World} {L:List (Addr × Value)} {g n B:Nat} {row:Option Nat}
theorem un_prf:Tryz.prog.underlying 34 = some ((Tryz.prog.underlying 34).getD default):=by kernel_rfl
theorem un_nse:Tryz.prog.underlying 32 = some ((Tryz.prog.underlying 32).getD default):=by kernel_rfl
theorem ret_prf {a b:Value} (hh:Holds W g 34 [a,b]) (k:K (.agg #[a,b]) W):∃ r,(do loadVar 34 (← asAddr (ptr g 0)):Sem Value).run Tryz.prog W = .ok r W ∧ K r W:=
 arr_ret hh un_prf (by kernel_rfl) (by kernel_rfl) k
theorem ret_nse {a b:Value} (hh:Holds W g 32 [a,b]) (k:K (.agg #[a,b]) W):∃ r,(do loadVar 32 (← asAddr (ptr g 0)):Sem Value).run Tryz.prog W = .ok r W ∧ K r W:=
 arr_ret hh un_nse (by kernel_rfl) (by kernel_rfl) k
theorem ld_prf {a b:Value} {T T0:TypeId} (hh:Holds W g T0 [a,b]) (k:K (.agg #[a,b]) W):oM Tryz.prog (.load 34 (.tmp 0)) T [ptr g 0] K W:=
 arr_load hh un_prf (by kernel_rfl) (by kernel_rfl) k
theorem ld_nse {a b:Value} {T T0:TypeId} (hh:Holds W g T0 [a,b]) (k:K (.agg #[a,b]) W):oM Tryz.prog (.load 32 (.tmp 0)) T [ptr g 0] K W:=
 arr_load hh un_nse (by kernel_rfl) (by kernel_rfl) k
theorem al_eno (w:World):(Instr.alloc 39 true (.tuple #[])).run Tryz.prog w = .ok (.pointer (some ⟨w.heap.size,0,none⟩)) (w.alloc (.cells [.int .i64 0].toArray 39)):=by kernel_rfl
theorem sz_eno (w:World):(sizeOf 39).run Tryz.prog w = .ok 1 w:=by kernel_rfl
theorem eno_one (e:Int):∀ u ∈ ([.int .i64 e]:List Value),u.oneCell' = true:=by
 intro u hu
 simp only [List.mem_cons,List.not_mem_nil,or_false] at hu
 rcases hu with rfl; rfl
theorem ret_eno {e:Int} (hh:Holds W g 39 [.int .i64 e]) (k:K (.int .i64 e) W):∃ r,(do loadVar 39 (← asAddr (ptr g 0)):Sem Value).run Tryz.prog W = .ok r W ∧ K r W:=by
 refine ⟨.int .i64 e,?_,k⟩
 have hc:=hh.cell 0 (by simp)
 show (Instr.loadAt 39 (ptr g 0)).run Tryz.prog W = _
 simp [go_sem,hc]
structure Res2 (W:World) (r1 r2:Nat) (a b:Value) (e:Int):Prop where
 p:Holds W r1 34 [a,b]
 e:Holds W r2 39 [.int .i64 e]
 ne:r1 ≠ r2
theorem Res2.next {r1 r2:Nat} {a b:Value} {e:Int} (h:Res2 W r1 r2 a b e) (hb:Bw W W'):Res2 W' r1 r2 a b e:=⟨h.p.next hb,h.e.next hb,h.ne⟩
theorem Res2.own {r1 r2:Nat} {a b:Value} {e:Int} (h:Res2 W r1 r2 a b e) (hf:Fr (OwnS B W) W W'):Res2 W' r1 r2 a b e:=⟨own_holds h.p hf,own_holds h.e hf,h.ne⟩
theorem Res2.ret {r1 r2:Nat} {a b:Value} {e:Int} (h:Res2 W r1 r2 a b e) (k:K (.tuple #[.agg #[a,b],.int .i64 e]) W) :
  ∃ r,(do loadVar 34 (← asAddr (ptr r1 0)):Sem Value).run Tryz.prog W = .ok r W ∧ ∃ r',(do loadVar 39 (← asAddr (ptr r2 0)):Sem Value).run Tryz.prog W = .ok r' W ∧ K (.tuple #[r,r']) W:=
 ret_prf (K:=fun r W=>∃ r',(do loadVar 39 (← asAddr (ptr r2 0)):Sem Value).run Tryz.prog W = .ok r' W ∧ K (.tuple #[r,r']) W) h.p (ret_eno (K:=fun r' W=>K (.tuple #[.agg #[a,b],r']) W) h.e k)
theorem Res2.set {r1 r2:Nat} {a b:Value} {ad ad2:Option Addr} {n c n2 c2:Nat} {e e':Int} {T T':TypeId} {Q:WK} (h:Res2 W r1 r2 a b e)
  (k:∀ W',Fr (fun j=>j = r1 ∨ j = r2) W W' → Res2 W' r1 r2 (.slice ad n c) (.slice ad2 n2 c2) e' → Q W') :
  oM Tryz.prog (.store 34 (.tmp 0) (.tmp 1)) T [ptr r1 0,.agg #[.slice ad n c,.slice ad2 n2 c2]] (fun _ w=>oM Tryz.prog (.store 39 (.tmp 0) (.tmp 1)) T' [ptr r2 0,.int .i64 e'] (fun _ w=>Q w) w) W:=by
 refine arr_store sz_prf (xs:=prfC (.slice ad n c) (.slice ad2 n2 c2)) rfl rfl (prf_one ad ad2 n c n2 c2) h.p rfl (fun W1 hg1 hh1=>?_)
 refine arr_store sz_eno (xs:=[.int .i64 e']) rfl rfl (eno_one e') (h.e.other hg1 (fun e=>h.ne e.symm)) rfl (fun W2 hg2 hh2=>?_)
 exact k W2 (((Fr.of_by hg1).mono (fun i _ e=>.inl e)).trans (Fr.of_by hg2) (fun i e=>.inl (.inr e))) ⟨hh1.other hg2 h.ne,hh2,h.ne⟩
theorem Res2.fr {r1 r2:Nat} {a b:Value} {e:Int} {S:Nat → Prop} (h:Res2 W r1 r2 a b e) (hf:Fr S W W') (h1:¬ S r1) (h2:¬ S r2):Res2 W' r1 r2 a b e:=⟨h.p.fr hf h1,h.e.fr hf h2,h.ne⟩
end
section
variable {K:VK} {w w' w0 W W' We:World} {L:List (Addr × Value)} {g n B b i:Nat} {row:Option Nat}
theorem OutQ.duo {T:TypeId} {f:Value → Value → List Value} {dl:L2} {al:L3} {x:List Int} {y:L2} {xad yad:Option Addr} {nx cx ny cy:Nat} (hQ:OutQ B b T f We dl al) (hb:Bw We W) (hB:B ≤ We.heap.size)
  (hx:FP (fun j=>We.heap.size ≤ j ∧ j < W.heap.size) W (fun w=>Ints w (.slice xad nx cx) x)) (hy:FP (fun j=>We.heap.size ≤ j ∧ j < W.heap.size) W (fun w=>ListsR w (.slice yad ny cy) y)) (hdl:dl.length < 1099511627776) (hal:al.length < 1099511627776) :
  ∃ (dad aad:Option Addr) (dc ac:Nat) (D:Nat → Prop),Holds W b T (f (.slice dad dl.length dc) (.slice aad al.length ac)) ∧ DuoI B D W (.slice dad dl.length dc) (.slice aad al.length ac) (.slice xad nx cx) (.slice yad ny cy) dl al x y ∧
   (∀ j,D j → B ≤ j) ∧ (∀ j,(Value.slice dad dl.length dc).ownBlock = some j → B ≤ j) ∧ (∀ j,(Value.slice aad al.length ac).ownBlock = some j → B ≤ j):=by
 obtain ⟨dv,av,D,h1,h2,h3,h4,h5,h6,h7⟩:=hQ.ex
 obtain ⟨dad,dc,rfl⟩:=h2.isSlice
 obtain ⟨aad,ac,rfl⟩:=h3.isSlice
 have hs:=hb.size
 refine ⟨dad,aad,dc,ac,fun j=>D j ∨ (We.heap.size ≤ j ∧ j < W.heap.size),h1.next hb,⟨(h2.next hb (fun i hi=>(h4 i hi).1)).mono (fun i hi=>.inl hi),(h3.next hb (fun i hi=>(h4 i hi).1)).mono (fun i hi=>.inl hi),?_,?_,h6,Nat.le_trans hB hs,hx.mono (fun i hi=>.inr hi),hy.mono (fun i hi=>.inr hi),hdl,hal⟩,?_,fun j hj=>(h2.own hj).2,fun j hj=>(h3.own hj).2⟩
 ·rintro j (hj | hj)
  ·exact ⟨lL (h4 j hj).1 hs,(h4 j hj).2⟩
  ·exact ⟨hj.2,fun e=>by have:=(h2.own e).1; omega⟩
 ·rintro j (hj | hj)
  ·exact ⟨lL (h5 j hj).1 hs,(h5 j hj).2⟩
  ·exact ⟨hj.2,fun e=>by have:=(h3.own e).1; omega⟩
 ·rintro j (hj | hj)
  ·exact h7 j hj
  ·omega
theorem prove_tail {J:List Value → World → Prop} {m:List Value → World → Nat} {wl:World} {l100:List Value} {u0 u1 u2 u3 u4:Value} {dl:L2} {al:L3} {x:List Int} {y:L2} {xad yad:Option Addr} {nx cx ny cy:Nat}
  (hQ:OutQ B b 34 prfC We dl al) (hb:Bw We W) (hB:B ≤ We.heap.size) (hi:i < 100000)
  (hx:FP (fun j=>We.heap.size ≤ j ∧ j < W.heap.size) W (fun w=>Ints w (.slice xad nx cx) x)) (hy:FP (fun j=>We.heap.size ≤ j ∧ j < W.heap.size) W (fun w=>ListsR w (.slice yad ny cy) y)) (hdl:dl.length < 1099511627776) (hal:al.length < 1099511627776)
  (k:∀ W' vs,Fr (fun j=>j = b ∨ B ≤ j) W W' → W.heap.size ≤ W'.heap.size → OutQ B b 34 prfC W' (dl ++ [x]) (al ++ [y]) → (∃ a0 a1 a2 a3 a4,vs = [a0,a1,a2,a3,a4,.int .i64 ((i + 1:Nat):Int)]) → J vs W' ∧ m vs W' < m [u0,u1,u2,u3,u4,.int .i64 (i:Int)] wl) :
  held_18_143 J l100 [u0,u1,u2,u3,u4,.int .i64 (i:Int)] m (.slice xad nx cx) (.slice yad ny cy) (ptr b 0) wl W:=by
 unfold held_18_143
 have hbl:=hQ.lt
 have hwi:IntKind.i64.wrap ((i:Int) + 1) = ((i + 1:Nat):Int):=by rw [wrapI64 _ (by omega) (by omega)]; rfl
 have hodr:Below W.heap.size W { W with drawn:=W.drawn + 1 }:=.drawn
 have hfd:Fr (fun j=>j = b ∨ B ≤ j) W { W with drawn:=W.drawn + 1 }:=Fr.of_below' hodr
 have hsz:W.heap.size = ({ W with drawn:=W.drawn + 1 }:World).heap.size:=rfl
 obtain ⟨dad,aad,dc,ac,D,hH,hduo,hDB,hdB,haB⟩:=hQ.duo (hb.on hodr) hB ((hx.next hodr (fun i hi=>hi.2))) ((hy.next hodr (fun i hi=>hi.2))) hdl hal
 generalize hW9:({ W with drawn:=W.drawn + 1 }:World) = W9 at *
 have hcell:∀ w',Fr (fun i=>(Value.slice dad dl.length dc).ownBlock = some i ∨ (Value.slice aad al.length ac).ownBlock = some i) W9 w' → Holds w' b 34 [.slice dad dl.length dc,.slice aad al.length ac]:=fun w' h=>hH.fr h (fun e=>by
  rcases e with e | e
  ·have:=hdB _ e; omega
  ·have:=haB _ e; omega)
 have hcellC:∀ w',DuoC B D W9 (.slice dad dl.length dc) (.slice aad al.length ac) dl al w' → Holds w' b 34 [.slice dad dl.length dc,.slice aad al.length ac]:=fun w' h=>hcell w' h.1
 refine ⟨DuoC B D W9 (.slice dad dl.length dc) (.slice aad al.length ac) dl al,by rw [hW9]; exact ⟨Fr.refl _ _,hduo.a,hduo.b⟩,rfl,?_⟩
 repeat (any_goals (first
 | (with_reducible refine pX ?_)
 | ((with_reducible refine idOH ?_); (with_reducible refine oH_of ⟨_,rfl⟩ (fun W0 hW0=>by (refine oG (fun X Y=>?_)); simp [go_sem,(hcellC _ hW0).are]; (first | exact Y _ _ ⟨rfl,rfl⟩ | exact ⟨by omega,Y _ _ ⟨rfl,rfl⟩⟩)) ?_))))
 refine duo_free hduo (i1:=0) (fun K' w h=>?_) (fun w v u hfr hA hB' hap'=>?_)
 ·repeat (any_goals ((with_reducible refine oG fun X Y=>?_); simp [go_sem]; apply Y; clear Y X))
  exact h
 have hh10:=hcell w hfr
 obtain ⟨vad',vc',rfl⟩:=hA.1.isSlice
 obtain ⟨uad',uc',rfl⟩:=hB'.1.isSlice
 refine arr_set (i:=0) sz_intsR rfl rfl hh10 (by simp) (fun w11 hg11 hh11=>?_)
 iterate 1 (any_goals ((with_reducible refine oG fun X Y=>?_); simp [go_sem]; apply Y; clear Y X))
 refine arr_set (i:=1) sz_intsR rfl rfl hh11 (by simp) (fun w12 hg12 hh12=>?_)
 repeat (any_goals ((with_reducible refine oG fun X Y=>?_); simp [go_sem]; (try simp (disch:=omega) only [wrapI64,wrapU8,wrapU32,wrapU64]); apply Y; clear Y X))
 have hg13:=grown_two hg11 hg12
 have hDb:∀ i,D i → i < w.heap.size ∧ ¬ i = b:=fun i hi=>⟨(hA.2.1 i hi).1,fun e=>by have:=hDB i hi; omega⟩
 refine k w12 _ ((hfd.trans hfr (fun i e=>.inl (.inr (e.elim (hdB i) (haB i))))).by hg13 (fun i e=>.inl (.inl (oI e).symm))) (by have:=hfr.size; have:=hg13.size; omega) ⟨⟨_,_,D,hh12,hA.1.keep (Fr.of_by hg13) hDb (fun i hi e=>by have:=(hA.1.own hi).2; omega),hB'.1.keep (Fr.of_by hg13) hDb (fun i hi e=>by have:=(hB'.1.own hi).2; omega),hA.2.1.next hg13.size,hB'.2.1.next hg13.size,hap',hDB⟩,hbl⟩ ⟨_,_,_,_,_,rfl⟩
end
section
variable {K:VK} {w w' w0 W W' We W2:World} {L:List (Addr × Value)} {g n B b i:Nat} {row:Option Nat}
theorem shift_I64 (q f:Int) (a b:List Int):∀ x ∈ shiftM q a f b,I64 x:=by
 intro x hx
 unfold shiftM at hx
 obtain ⟨p,_,rfl⟩:=List.mem_map.1 hx
 exact addM_I64 _ _ _
theorem shift_len (q f:Int) (a b:List Int):(shiftM q a f b).length ≤ a.length:=by
 unfold shiftM; rw [List.length_map,List.length_zip]; omega
def AnsI (ans:L2) (n k:Nat):L2:=ans.take k ++ List.replicate (n - k) []
theorem ansI_len {ans:L2} {k:Nat} (h:ans.length = n) (hk:k ≤ n):(AnsI ans n k).length = n:=by
 unfold AnsI; rw [List.length_append,List.length_take,List.length_replicate]; omega
theorem ansI_set {ans:L2} {k:Nat} {x:List Int} (h:ans.length = n) (hx:ans[k]? = some x):(AnsI ans n k).set k x = AnsI ans n (k + 1):=by
 have hk:=(gS hx).1
 unfold AnsI
 rw [List.set_append,if_neg (by rw [List.length_take]; omega),List.length_take,Nat.min_eq_left (by omega),Nat.sub_self,show n - k = n - (k + 1) + 1 by omega,List.replicate_succ,List.set_cons_zero,List.take_add_one,hx,List.append_assoc]
 rfl
theorem ansI_full {ans:L2} (h:ans.length = n):AnsI ans n n = ans:=by
 unfold AnsI; rw [List.take_of_length_le (by omega),Nat.sub_self]; simp
def PiJ (ans:L2) (n g:Nat) (W2:World) (vs:List Value) (W:World):Prop:=Bw W2 W ∧ ∃ (u0 u1:Value) (k:Nat),vs = [u0,u1,.int .i64 (k:Int)] ∧ k ≤ n ∧ OutI W2.heap.size g W (AnsI ans n k)
def piMu (n:Nat) (vs:List Value) (_:World):Nat:=match vs with | [_,_,.int _ k]=>n - k.toNat | _=>0
structure AnsC (q:Int) (ans:L2) (n:Nat) (Bs:List Bool) (D:List Int) (N:L2) (Ks:List Knw):Prop where
 eq:ans = answersC q Bs D N Ks
 lb:Bs.length = n
 ld:D.length = n
 ln:N.length = n
 lk:Ks.length = n
 max:n ≤ 16
 fit:∀ (k:Nat) (u:Knw) (z:List Int),Bs[k]? = some true → Ks[k]? = some u → N[k]? = some z → u.values.length = z.length
 len:∀ (k:Nat) (z:List Int),N[k]? = some z → z.length < 1000
theorem prove_step (s:Stp) {J:List Value → World → Prop} {m:List Value → World → Nat} {wl:World} {l100:List Value} {u0 u1 u2 u3 u4:Value} {ad nad kad xad:Option Addr} {c nc kc xc b1 b2 b12 gb mb:Nat} {dv:Value} {ns:L3} {know:List (List Knw)} {rows:List (List Bool)}
  {ans N:L2} {D:List Int} {Bs:List Bool} {Ks:List Knw}
  (hk:Kn w (cellsOf (cellsOf (cellsOf [] b1 0 (stpC s (.slice ad s.bases.length c))) b2 0 (prfC (.slice nad ns.length nc) dv)) b12 0 [.slice (some ⟨gb,0,none⟩) mb mb]) W2)
  (hn:NumsR w (.slice nad ns.length nc) ns) (hkn:KnowR w (.slice kad know.length kc) know) (hbr:BoolRows W2 (.slice (some ⟨gb,0,none⟩) mb mb) rows) (hmb:rows.length = mb)
  (hx:Ints W2 (.slice xad n xc) D) (hA:AnsC s.g.Q ans n Bs D N Ks) (en:ns[i]? = some N) (ek:know[i]? = some Ks) (eb:rows[i]? = some Bs) (hg:W2.heap.size ≤ g) (hJ:PiJ ans n g W2 l100 W)
  (hend:∀ l W,Bw W2 W → OutI W2.heap.size g W ans → held_18_143 J l [u0,u1,u2,u3,u4,.int .i64 (i:Int)] m (.slice xad n xc) (.slice (some ⟨g,0,none⟩) n n) (ptr b 0) wl W) :
  loop_18_98 J (PiJ ans n g W2) (.slice kad know.length kc) l100 [u0,u1,u2,u3,u4,.int .i64 (i:Int)] m (piMu n) (.slice xad n xc) (.slice (some ⟨g,0,none⟩) n n) (.int .i64 n) (ptr b12 0) (ptr b 0) (ptr b1 0) (ptr b2 0) wl W:=by
 obtain ⟨hb2,v0,v1,k,rfl,hkn',hO⟩:=hJ
 have hmax:=hA.max
 have hal:ans.length = n:=by rw [hA.eq]; rw [answersC_len (by rw [hA.ld,hA.lb]) (by rw [hA.ln,hA.lb]) (by rw [hA.lk,hA.lb]),hA.lb]
 unfold loop_18_98
 by_cases hkn2:k = n
 ·subst hkn2
  repeat (any_goals (first
  | (with_reducible refine yM ?_)
  | ((with_reducible refine oG fun X Y=>?_); simp [go_sem]; apply Y; clear Y X)))
  rw [ansI_full hal] at hO
  exact hend _ _ hb2 hO
 have hkl:k < n:=by omega
 have hki:(k:Int) < n:=by omega
 have hkB0:k < Bs.length:=by have:=hA.lb; omega
 have hkD0:k < D.length:=by have:=hA.ld; omega
 have hkN0:k < N.length:=by have:=hA.ln; omega
 have hkK0:k < Ks.length:=by have:=hA.lk; omega
 have ebk:Bs[k]? = some Bs[k]:=gE hkB0
 have edk:D[k]? = some D[k]:=gE hkD0
 have enk:N[k]? = some N[k]:=gE hkN0
 have ekk:Ks[k]? = some Ks[k]:=gE hkK0
 have hans:=answersC_at (q:=s.g.Q) ebk edk enk ekk
 rw [← hA.eq] at hans
 have hin:=(gS en).1
 have hik:=(gS ek).1
 have hib:=(gS eb).1
 have hiN:(i:Int) < ns.length:=by omega
 have hiK:(i:Int) < know.length:=by omega
 have hiB:(i:Int) < mb:=by omega
 have e1:ns[i] = N:=(gS en).2
 have e2:know[i] = Ks:=(gS ek).2
 have e3:rows[i] = Bs:=(gS eb).2
 obtain ⟨bx,ox,rfl,hltx,cellx,_,_⟩:=hx.at (i:=k) (by have:=hA.ld; omega)
 obtain ⟨bn,on,rfl,hltn,csn,_,hcelln,vn,rfl,hrown⟩:=hn.at (i:=i) hin
 obtain ⟨bk,ok,rfl,hltk,csk,_,hcellk,vk,rfl,hrowk⟩:=hkn.at (i:=i) hik
 obtain ⟨bb,ob,ebb,hltb,csb,_,hcellb,vb,rfl,hrowb⟩:=hbr.at (i:=i) hib
 cases ebb
 rw [e1] at hrown
 rw [e2] at hrowk
 rw [e3] at hrowb
 obtain ⟨nad2,nc2,rfl⟩:=hrown.isSlice
 obtain ⟨kad2,kc2,rfl⟩:=hrowk.isSlice
 obtain ⟨bad2,bc2,rfl⟩:=hrowb.isSlice
 have cn:=hcelln 0 _ rfl
 have ck:=hcellk 0 _ rfl
 have cb:=hcellb 0 _ rfl
 have hNl:=hA.ln
 have hKl:=hA.lk
 have hBl:=hA.lb
 obtain ⟨bl,ol,rfl,hltl,csl,_,hcelll,vl,rfl,hrowl⟩:=hrown.at (i:=k) (by omega)
 obtain ⟨bu,ou,rfl,hltu,csu,_,hcellu,vu,rfl,hvu⟩:=hrowk.at (i:=k) (by omega)
 obtain ⟨bt,ot,rfl,hltt,cst,_,hcellt,vt,rfl,hvt⟩:=hrowb.at (i:=k) (by omega)
 have cl:=hcelll 0 _ rfl
 have cu:=hcellu 1 _ rfl
 have ct:=hcellt 0 _ rfl
 simp only [Nat.add_zero,Nat.mul_one,Nat.zero_add] at cn ck cb cl cu ct
 unfold BoolR at hvt
 subst hvt
 have hfit:Bs[k] = true → (Ks[k]).values.length = (N[k]).length:=fun e=>hA.fit k _ _ (by rw [ebk,e]) ekk enk
 have hzl:=hA.len k _ enk
 have hzr:=hrowl.rng
 have hkB:(k:Int) < Bs.length:=by omega
 have hkN:(k:Int) < N.length:=by omega
 have hkK:(k:Int) < Ks.length:=by omega
 generalize Bs[k] = bv at *
 generalize D[k] = d at *
 generalize N[k] = z at *
 generalize Ks[k] = u at *
 have hkW:=hk.next hb2
 have hal2:(AnsI ans n k).length = n:=ansI_len hal hkn'
 repeat (any_goals (first
 | (with_reducible refine yN ?_)
 | ((with_reducible refine oG fun X Y=>?_); simp [go_sem]; apply Y; clear Y X)))
 refine ⟨fun l W=>l = [.int .i64 (k:Int),.int .i64 d] ∧ Bw W2 W ∧ OutI W2.heap.size g W (AnsI ans n (k + 1)),?_,?_⟩
 ·unfold pre_18_102
  obtain ⟨lad,lc,hlv⟩:=hrowl.isSlice
  repeat (any_goals ((with_reducible refine oG fun X Y=>?_); simp [go_sem,cellx _ hb2,hkW.cells,(hkW.below.cell hltn).trans cn,(hkW.below.cell hltl).trans cl,hiN,hkN,hki]; apply Y; clear Y X))
  refine Clone_ok (hrowl.next hkW.below) (by omega) (fun v3 w3 ho3 h3 hb3=>?_)
  have ho:OwnI w3 W.heap.size v3 z:=owns_up ho3 hb3
  obtain ⟨zad,zc,rfl⟩:=owns_len ho
  have hO3:=hO.next h3
  have hb3':=hb2.on h3
  have hk3:=hkW.next h3
  repeat (any_goals ((with_reducible refine oG fun X Y=>?_); simp [go_sem,hki]; apply Y; clear Y X))
  refine hO3.set (i:=k) (by omega) (own_fp ho hzr (by omega) hb2.size hO.lt) (fun w4 hg4 hO4=>?_)
  have hb4:Bw W2 w4:=hb3'.grown hg4 hb3'.size (fun j hj=>by cases hj; exact hg)
  have hk4:=hk.next hb4
  cases bv with
  | false=>
   repeat (any_goals (first
   | (with_reducible refine yM ?_)
   | ((with_reducible refine oG fun X Y=>?_); simp [go_sem,hk4.cells,(hb4.cell hltb).trans cb,(hb4.cell hltt).trans ct,hiB,hkB]; apply Y; clear Y X)))
   have hans:ans[k]? = some z:=hans
   rw [ansI_set hal hans] at hO4
   exact ⟨rfl,hb4,hO4⟩
  | true=>
   repeat (any_goals (first
   | (with_reducible refine yL ?_)
   | ((with_reducible refine oG fun X Y=>?_); simp [go_sem,hk4.cells,(hb4.cell hltb).trans cb,(hb4.cell hltt).trans ct,hiB,hkB]; apply Y; clear Y X)))
   have hfit:=hfit rfl
   unfold held_18_119
   have hrow4:((AnsI ans n k).set k z)[k]? = some z:=by rw [List.getElem?_set_self (by omega)]
   have hb9:Below w4.heap.size w4 { w4 with drawn:=w4.drawn + 1 }:=.drawn
   have hk9:=hk4.next hb9
   have hO9:=hO4.next hb9
   have hbb9:=hb4.on hb9
   refine ⟨Nx { w4 with drawn:=w4.drawn + 1 },bR,rfl,?_⟩
   generalize ({ w4 with drawn:=w4.drawn + 1 }:World) = W9 at hk9 hO9 hbb9 ⊢
   obtain ⟨rad,rc,hrc,hri⟩:=hO9.get hrow4
   obtain ⟨uad,uc,rfl⟩:=hvu.isSlice
   repeat (any_goals (first
   | (with_reducible refine pX ?_)
   | ((with_reducible refine idOH ?_); (with_reducible refine oH_of ⟨_,rfl⟩ (fun W0 hW0=>by (refine oG (fun X Y=>?_)); simp [go_sem,(hk9.next hW0).cells,(hW0.cell hO9.lt).trans hrc,((hk9.next hW0).below.cell hltk).trans ck,((hk9.next hW0).below.cell hltu).trans cu,hiK,hkK,hki]; (first | exact Y _ _ ⟨rfl,rfl⟩ | exact ⟨by omega,Y _ _ ⟨rfl,rfl⟩⟩)) ?_))))
   refine ⟨Nx,?_⟩
   refine monoR (fun v w'=>OwnI w' W9.heap.size v (shiftM s.g.Q z d u.values)) (fun v w w1 hS h=>h.keep hS) ?_ ?_
   ·intro w1 h1
    exact shift_ok s.g.Q d z u.values (hri.next h1) (hvu.next (hk9.next h1).below) hfit (by omega) (fun v w2 h2 ho=>⟨h1.on h2,h2,owns_up ho (fun j hj=>by have:=(owns_own ho hj).2.1; have:=h1.size; omega)⟩)
   rintro w10 h10 v10 ho10
   obtain ⟨sad,sc,rfl⟩:=owns_len ho10
   repeat (any_goals ((with_reducible refine oG fun X Y=>?_); simp [go_sem,hki]; apply Y; clear Y X))
   refine (hO9.next h10).set (i:=k) (by rw [List.length_set]; omega) (own_fp ho10 (shift_I64 _ _ _ _) (by have:=shift_len s.g.Q d z u.values; omega) hbb9.size hO9.lt) (fun w11 hg11 hO11=>?_)
   skip
   have hans:ans[k]? = some (shiftM s.g.Q z d u.values):=hans
   rw [List.set_set,ansI_set hal hans] at hO11
   exact ⟨rfl,(hbb9.on h10).grown hg11 (hbb9.on h10).size (fun j hj=>by cases hj; exact hg),hO11⟩
 ·rintro _ _ W5 ⟨rfl,hb5,hO5⟩
  repeat (any_goals ((with_reducible refine oG fun X Y=>?_); simp [go_sem]; (try simp (disch:=omega) only [wrapI64,wrapU8,wrapU32,wrapU64]); apply Y; clear Y X))
  exact ⟨⟨hb5,_,_,k + 1,rfl,by omega,hO5⟩,by show n - (((k + 1:Nat):Int)).toNat < n - ((k:Nat):Int).toNat; omega⟩
end
section
variable {K:VK} {w w' w0 W W' We W1 W2:World} {L:List (Addr × Value)} {g n B b i:Nat} {row:Option Nat}
theorem chosen_has {s:Stp}:∀ {cs:List Clm} {ks:List Knw} {need:Int} {k:Nat} {u:Knw},(chosenC s need cs ks).1[k]? = some true → ks[k]? = some u → u.has = true
 | [],_,_,_,_,h,_=>by simp [chosenC] at h
 | c :: cs,[],_,_,_,h,_=>by simp [chosenC] at h
 | c :: cs,x :: ks,need,0,u,h,hu=>by
  simp at hu
  subst hu
  unfold chosenC at h
  split at h
  ·rename_i h1
   simp only [bA] at h1
   exact h1.1.2
  ·simp at h
 | c :: cs,x :: ks,need,k + 1,u,h,hu=>by
  unfold chosenC at h
  have hu:ks[k]? = some u:=by simpa using hu
  split at h
  ·exact chosen_has (cs:=cs) (by simpa using h) hu
  ·exact chosen_has (cs:=cs) (by simpa using h) hu
theorem ansC_of {s:Stp} {goal:List Cls} {know:List (List Knw)} {ds:L2} {ns:L3} (hgm:goalM s goal = true) (hft:fitsM s goal know = true) (hsm:shapedM s goal ds ns = true) {c:Cls} {Ks:List Knw} {d:List Int} {N:L2}
  (eg:goal[i]? = some c) (ek:know[i]? = some Ks) (ed:ds[i]? = some d) (en:ns[i]? = some N) (D:List Int) (hD:D.length = c.claims.length) :
  AnsC s.g.Q (answersC s.g.Q (chosenC s c.need c.claims Ks).1 D N Ks) c.claims.length (chosenC s c.need c.claims Ks).1 D N Ks ∧ d.length = c.claims.length:=by
 have hgc:clsFine s c = true ∧ c.claims.all (claimM s) = true:=by
  unfold goalM at hgm
  simp only [bA] at hgm
  have hm:=List.mem_of_getElem? eg
  exact ⟨List.all_eq_true.1 hgm.1.2 _ hm,List.all_eq_true.1 hgm.2 _ hm⟩
 unfold fitsM at hft
 simp only [bA,dE] at hft
 unfold shapedM at hsm
 simp only [bA,dE] at hsm
 have hf:=fitsL_at hft.2 eg ek
 have hs:=shapedL_at hsm.2 eg ed en
 have hs1:=hs.1
 simp only [shapeOf,exponentsM,bA,dE] at hs1
 have h16:=hgc.1
 simp only [clsFine,bA,dE] at h16
 have hvars:∀ (k:Nat) (z:List Int) (x:Clm),N[k]? = some z → c.claims[k]? = some x → (z.length:Int) = x.vars ∧ x.vars ≤ 120:=fun k z x h1 h2=>by
  have h3:=shapedC_at hs.2 h2 h1
  simp only [exponentsM,bA,dE] at h3
  have h4:=List.all_eq_true.1 hgc.2 x (List.mem_of_getElem? h2)
  simp only [claimM,bA,dE] at h4
  exact ⟨h3.1,h4.1.1.1.2⟩
 refine ⟨⟨rfl,chosen_len s c.claims Ks c.need hf.1,hD,hs1.2,hf.1,by omega,fun k u z h1 h2 h3=>?_,fun k z h=>?_⟩,by omega⟩
 ·have hlt:=(gS h3).1
  have ex:c.claims[k]? = some c.claims[k]:=gE (by omega)
  have h4:=fitsC_at hf.2 ex h2
  have h5:=chosen_has h1 h2
  simp only [fitK,h5,Bool.not_true,Bool.false_or,exponentsM,bA,dE] at h4
  have h6:=(hvars k z _ h3 ex).1
  omega
 ·have hlt:=(gS h).1
  have ex:c.claims[k]? = some c.claims[k]:=gE (by omega)
  have h6:=hvars k z _ h ex
  omega
def PoJ (P:L2 × L3) (B b:Nat) (W1:World) (n:Nat) (vs:List Value) (W:World):Prop:=Bw W1 W ∧ B ≤ W.heap.size ∧ ∃ (u0 u1 u2 u3 u4:Value) (i:Nat),vs = [u0,u1,u2,u3,u4,.int .i64 (i:Int)] ∧ i ≤ n ∧ OutQ B b 34 prfC W (P.1.take i) (P.2.take i)
def poMu (n:Nat) (vs:List Value) (_:World):Nat:=match vs with | [_,_,_,_,_,.int _ i]=>n - i.toNat | _=>0
theorem below_fr {S:Nat → Prop} (h:Bw w0 W) (hf:Fr S W W') (hS:∀ j,S j → w0.heap.size ≤ j):Bw w0 W':=
 ⟨hf.os.trans h.os,hf.tape.trans h.tape,hf.output.trans h.output,Nat.le_trans h.size hf.size,fun j hj=>(hf.block j (lL hj h.size) (fun e=>by have:=hS j e; omega)).trans (h.block j hj)⟩
@[go_sem] theorem idx_bbr (T:TypeId) (b o n c:Nat) (x:Int):oM Tryz.prog (.indexAddr 120 (.tmp 0) (.tmp 1)) T [.slice (some ⟨b,o,none⟩) n c,.int .i64 x] = onM (0 ≤ x ∧ x < n) (.pointer (some ⟨b,o + x.toNat,none⟩)):=idx_bb T b o n c x
set_option maxHeartbeats 2000000 in
theorem prove_loop (s:Stp) {ad nad dad kad:Option Addr} {c nc dc kc b1 b2 b12 gb r1 r2 Dd:Nat} {ns:L3} {ds:L2} {goal:List Cls} {know:List (List Knw)} {r:Int} {l79:List Value} {pa pb:Value} {e0:Int}
  (hs:SetR w s (.slice ad s.bases.length c))
  (hk:Kn w (cellsOf (cellsOf (cellsOf [] b1 0 (stpC s (.slice ad s.bases.length c))) b2 0 (prfC (.slice nad ns.length nc) (.slice dad ds.length dc))) b12 0 [.slice (some ⟨gb,0,none⟩) goal.length goal.length]) W1)
  (hR:Res2 W1 r1 r2 pa pb e0) (hr1:w.heap.size ≤ r1) (hr2:w.heap.size ≤ r2) (hDd:W1.heap[Dd]? = some (.deferred (some []))) (hwD:w.heap.size ≤ Dd)
  (hn:NumsR w (.slice nad ns.length nc) ns) (hd:ListsR w (.slice dad ds.length dc) ds) (hkn:KnowR w (.slice kad know.length kc) know) (hbr:BoolRows W1 (.slice (some ⟨gb,0,none⟩) goal.length goal.length) (chosenL s goal know).1)
  (hgm:goalM s goal = true) (hft:fitsM s goal know = true) (hsm:shapedM s goal ds ns = true) (hrI:I64 r) (hb1:W1.heap.size ≤ b) (hbB:b < B)
  (hJ:PoJ (proveL s r (chosenL s goal know).1 ds ns know) B b W1 goal.length l79 W)
  (k:∀ w' pv av,Bw w w' → ListsR w' pv (proveL s r (chosenL s goal know).1 ds ns know).1 → NumsR w' av (proveL s r (chosenL s goal know).1 ds ns know).2 → K (.tuple #[prfV pv av,.int .i64 0]) w') :
  loop_18_77 Dd (PoJ (proveL s r (chosenL s goal know).1 ds ns know) B b W1 goal.length) K (.slice kad know.length kc) l79 (poMu goal.length) (ptr r1 0) (ptr r2 0) (ptr b12 0) (ptr b 0) (ptr b1 0) (.int .i64 r) (.int .i64 goal.length) (ptr b2 0) W:=by
 obtain ⟨hb,hBW,u0,u1,u2,u3,u4,i,rfl,hi,hQ⟩:=hJ
 have hgm':=hgm
 unfold goalM at hgm'
 simp only [bA,dE] at hgm'
 have hft':=hft
 unfold fitsM at hft'
 simp only [bA,dE] at hft'
 have hsm':=hsm
 unfold shapedM at hsm'
 simp only [bA,dE] at hsm'
 have hcl:=chosenL_len (s:=s) hft'.1
 have hpl:=proveL_len (s:=s) (r:=r) (bs:=(chosenL s goal know).1) (ds:=ds) (ns:=ns) (ks:=know) (by omega) (by omega) (by omega)
 have hkW:=hk.next hb
 unfold loop_18_77
 by_cases hin:i = goal.length
 ·subst hin
  rw [List.take_of_length_le (by omega),List.take_of_length_le (by omega)] at hQ
  generalize proveL s r (chosenL s goal know).1 ds ns know = P at *
  obtain ⟨dv,av,D,h1,h2,h3,h4,h5,h6,h7⟩:=hQ.ex
  have h2':=h2
  have h3':=h3
  obtain ⟨xad,xc,rfl⟩:=h2.isSlice
  obtain ⟨yad,yc,rfl⟩:=h3.isSlice
  iterate 2 (any_goals (first
  | (with_reducible refine yM ?_)
  | ((with_reducible refine oG fun X Y=>?_); simp [go_sem]; apply Y; clear Y X)))
  refine ld_prf h1 ?_
  refine (hR.next hb).set (e':=0) (fun W3 hf3 hR3=>?_)
  have hs1:=hR.p.lt
  have hs2:=hR.e.lt
  have hdlt:=(Array.getElem?_eq_some_iff.1 hDd).1
  have hD3:W3.heap[Dd]? = some (.deferred (some [])):=by
   rw [hf3.block Dd (lL hdlt hb.size) ?_,hb.block Dd hdlt]
   ·exact hDd
   ·rintro (rfl | rfl)
    ·have:=hR.p; unfold Holds at this; rw [hDd] at this; cases this
    ·have:=hR.e; unfold Holds at this; rw [hDd] at this; cases this
  have hf4:=put_fr (B:=w.heap.size) (.deferred none) hwD hD3 rfl
  refine ⟨hD3,(hR3.own hf4).ret (K:=K) ?_⟩
  have hS4:∀ j,B ≤ j → ¬ (j = r1 ∨ j = r2):=by rintro j hj (rfl | rfl) <;> omega
  have hf5:Fr (fun j=>j = Dd) W3 (W3.putObj Dd (.deferred none)):=Fr.of_by (grownBy_putObj' W3 Dd _)
  have hsz:=hf3.size
  have g2:=(h2'.keep hf3 (fun j hj=>⟨(h4 j hj).1,hS4 j (h7 j hj)⟩) (fun j hj=>hS4 j (h2'.own hj).2)).keep hf5 (fun j hj=>⟨by have:=(h4 j hj).1; omega,fun e=>by have:=h7 j hj; omega⟩) (fun j hj e=>by have:=(h2'.own hj).2; omega)
  have g3:=(h3'.keep hf3 (fun j hj=>⟨(h5 j hj).1,hS4 j (h7 j hj)⟩) (fun j hj=>hS4 j (h3'.own hj).2)).keep hf5 (fun j hj=>⟨by have:=(h5 j hj).1; omega,fun e=>by have:=h7 j hj; omega⟩) (fun j hj e=>by have:=(h3'.own hj).2; omega)
  exact k _ _ _ (below_fr (below_fr hkW.below hf3 (by rintro j (rfl | rfl) <;> assumption)) hf5 (by rintro j rfl; exact hwD)) (g2.srow (by decide) (by omega)) (g3.srow (by decide) (by omega))
 have eg:goal[i]? = some goal[i]:=gE (by omega)
 have ek:know[i]? = some know[i]:=gE (by omega)
 have ed:ds[i]? = some ds[i]:=gE (by omega)
 have en:ns[i]? = some ns[i]:=gE (by omega)
 have eb:=chosenL_at (s:=s) eg ek
 have hP:=proveL_at (s:=s) (r:=r) eb ed en ek
 have hlF:(fillM s.g.Q (chosenC s goal[i].need goal[i].claims know[i]).1 ds[i] r).length = (chosenC s goal[i].need goal[i].claims know[i]).1.length:=by simp [fillM]
 have hcln:=chosen_len s goal[i].claims know[i] goal[i].need (fitsL_at hft'.2 eg ek).1
 obtain ⟨hA,hdl⟩:=ansC_of hgm hft hsm eg ek ed en (fillM s.g.Q (chosenC s goal[i].need goal[i].claims know[i]).1 ds[i] r) (by rw [hlF,hcln])
 obtain ⟨bb,ob,ebb,hltb,csb,_,hcellb,vb,rfl,hrowb⟩:=hbr.at (i:=i) (by omega)
 cases ebb
 obtain ⟨bd,od,rfl,hltd,csd,_,hcelld,vd,rfl,hrowd⟩:=hd.at (i:=i) (by omega)
 have e3:(chosenL s goal know).1[i]'(by omega) = (chosenC s goal[i].need goal[i].claims know[i]).1:=(gS eb).2
 rw [e3] at hrowb
 generalize hBs:(chosenC s goal[i].need goal[i].claims know[i]).1 = Bs at *
 generalize hFs:fillM s.g.Q Bs ds[i] r = F at *
 generalize ds[i] = d at *
 generalize ns[i] = N at *
 generalize know[i] = Ks at *
 generalize goal[i] = cl at *
 have hFI:∀ x ∈ F,I64 x:=by rw [← hFs]; exact fill_I64 _ _ _ _
 have hmax:=hA.max
 have hFl:=hA.ld
 obtain ⟨bad2,bc2,rfl⟩:=hrowb.isSlice
 obtain ⟨dad2,dc2,rfl⟩:=hrowd.isSlice
 have cb:=hcellb 0 _ rfl
 have cd:=hcelld 0 _ rfl
 simp only [Nat.add_zero,Nat.mul_one,Nat.zero_add] at cb cd
 have hiB:(i:Int) < goal.length:=by omega
 have hiD:(i:Int) < ds.length:=by omega
 repeat (any_goals (first
 | (with_reducible refine yN ?_)
 | ((with_reducible refine oG fun X Y=>?_); simp [go_sem]; apply Y; clear Y X)))
 unfold held_18_81
 have hb9:Below W.heap.size W { W with drawn:=W.drawn + 1 }:=.drawn
 have hk9:=hkW.next hb9
 have hbb9:=hb.on hb9
 refine ⟨Nx { W with drawn:=W.drawn + 1 },bR,rfl,?_⟩
 have hsz9:({ W with drawn:=W.drawn + 1 }:World).heap.size = W.heap.size:=rfl
 generalize ({ W with drawn:=W.drawn + 1 }:World) = W9 at hk9 hb9 hbb9 hsz9 ⊢
 repeat (any_goals (first
 | (with_reducible refine pX ?_)
 | ((with_reducible refine idOH ?_); (with_reducible refine oH_of ⟨_,rfl⟩ (fun W0 hW0=>by (refine oG (fun X Y=>?_)); simp [go_sem,(hk9.next hW0).cells,((hbb9.on hW0).cell hltb).trans cb,((hk9.next hW0).below.cell hltd).trans cd,hiB,hiD]; (first | exact Y _ _ ⟨rfl,rfl⟩ | exact ⟨by omega,Y _ _ ⟨rfl,rfl⟩⟩)) ?_))))
 refine ⟨Nx,fun w10 h10=>?_⟩
 have hk10:=hk9.next h10
 have hb10:=hbb9.on h10
 refine fill_ok s Bs d r (hs.next hk10.below) (hrowb.next (atOf_stay bools_vstay) hb10) (hrowd.next hk10.below) hrI (by have:=hA.lb; omega) (by have:=hA.lb; omega) (fun v11 W2 h11 ho11=>?_)
 rw [hFs] at ho11
 obtain ⟨xad,xc,rfl⟩:=owns_len ho11
 have hk2:=hk10.next h11
 have hb2:=hb10.on h11
 have hW2:Bw W W2:=(hb9.on h10).on h11
 have hx2:Ints W2 (.slice xad F.length xc) F:=ho11.ints hFI (by omega)
 iterate 1 (any_goals ((with_reducible refine oG fun X Y=>?_); simp [go_sem]; apply Y; clear Y X))
 rw [hFl] at hx2 ho11 ⊢
 refine make_lists (by omega) (fun gg W3 h3 hgg hO=>?_)
 repeat (any_goals ((with_reducible refine oG fun X Y=>?_); simp [go_sem]; apply Y; clear Y X))
 refine ⟨PiJ (answersC s.g.Q Bs F N Ks) cl.claims.length gg W2,piMu cl.claims.length,⟨h3,_,_,0,rfl,by omega,by unfold AnsI; simpa using hO⟩,?_⟩
 intro l100 u100 W4 hJ4
 refine prove_step s hk2 hn hkn (hbr.next (atOf_stay boolsr_vstay) hb2) hcl hx2 hA en ek eb hgg hJ4 (fun l W5 hb5 hO5=>?_)
 have hlA:(answersC s.g.Q Bs F N Ks).length = cl.claims.length:=by
  rw [answersC_len (by rw [hA.ld,hA.lb]) (by rw [hA.ln,hA.lb]) (by rw [hA.lk,hA.lb]),hA.lb]
 have hO5f:=hO5.fp (by omega)
 rw [hlA] at hO5f
 refine prove_tail (x:=F) (y:=answersC s.g.Q Bs F N Ks) hQ (hW2.on hb5) hBW (by omega) ?_ (hO5f.mono (fun j hj=>⟨by have:=hW2.size; omega,hj.2⟩)) ?_ ?_ (fun W6 vs hf6 hs6 hQ6 hvs=>?_)
 ·have ho:=ho11.keep hb5
  have:=(ho.ints hFI (by omega)).fp
  refine FP.mono (this) (fun j hj=>⟨?_,hj.2⟩)
  have:=(owns_own ho (own_inB ho hj.1)).2.1
  have:=h10.size
  omega
 ·rw [List.length_take]; omega
 ·rw [List.length_take]; omega
 ·obtain ⟨a0,a1,a2,a3,a4,rfl⟩:=hvs
  rw [take_snoc2 hP.1,take_snoc2 hP.2] at hQ6
  refine ⟨⟨below_fr ((hb.on hW2).on hb5) hf6 (by rintro j (rfl | h) <;> omega),by have:=hf6.size; have:=hb5.size; have:=hW2.size; omega,_,_,_,_,_,i + 1,rfl,by omega,hQ6⟩,by show goal.length - (((i + 1:Nat):Int)).toNat < goal.length - ((i:Nat):Int).toNat; omega⟩
def PlcM {goal:List Cls} (x:Itm goal w) (l:List Value) (W:World):Prop:=∃ p,l = [.pointer (some ⟨p,0,none⟩)] ∧ cellsAre W (cellsOf [] p 0 [.int .i64 x.i,.int .i64 x.k])
theorem al_bbs (w:World):(Instr.alloc 120 true (.tuple #[])).run Tryz.prog w = .ok (.pointer (some ⟨w.heap.size,0,none⟩)) (w.alloc (.cells [.slice none 0 0].toArray 120)):=by kernel_rfl
theorem sz_bbs (w:World):(sizeOf 120).run Tryz.prog w = .ok 1 w:=by kernel_rfl
theorem chosen_rows {s:Stp} {goal:List Cls} {know:List (List Knw)} {gb:Nat} (hgm:goalM s goal = true) (hft:fitsM s goal know = true) (hO5:OutB W B gb (chosenL s goal know).1):BoolRows W (.slice (some ⟨gb,0,none⟩) goal.length goal.length) (chosenL s goal know).1:=by
 have hft':=hft
 unfold fitsM at hft'
 simp only [bA,dE] at hft'
 have hgm':=hgm
 unfold goalM at hgm'
 simp only [bA,dE] at hgm'
 have hcl:=chosenL_len (s:=s) hft'.1
 have:=hO5.rows (by omega) (fun r hr=>by
  obtain ⟨j,hj⟩:=List.getElem?_of_mem hr
  have hjl:=(gS hj).1
  have e1:goal[j]? = some goal[j]:=gE (by omega)
  have e2:know[j]? = some know[j]:=gE (by omega)
  have e3:=chosenL_at (s:=s) e1 e2
  rw [hj] at e3
  rw [oI e3,chosen_len s _ _ _ (fitsL_at hft'.2 e1 e2).1]
  have:=List.all_eq_true.1 hgm'.1.2 _ (List.getElem_mem (by omega:j < goal.length))
  simp only [clsFine,bA,dE] at this
  omega)
 rwa [hcl] at this
theorem keeps_two {r1 r2:Nat} {a b:Value} {e:Int} (hR:Res2 W r1 r2 a b e) (hf:Fr (fun j=>j = r1 ∨ j = r2) W W'):KeepsFrom B W W':=⟨hf.size,fun k o _ hk ho=>by
 rw [hf.block k (Array.getElem?_eq_some_iff.1 hk).1 (fun e=>by
  rcases e with rfl | rfl
  ·have:=hR.p; unfold Holds at this; rw [hk] at this; cases this; cases ho
  ·have:=hR.e; unfold Holds at this; rw [hk] at this; cases this; cases ho)]
 exact hk⟩
set_option maxHeartbeats 4000000 in
theorem Prove_ok (s:Stp) (goal:List Cls) (ctx:Bytes) (know:List (List Knw)) (ns:L3) (ds:L2) {sv gv kv nv dv:Value} (hs:SetR w s sv) (hg:GoalR w gv goal) (hk0:KnowR w kv know) (hn:NumsR w nv ns) (hd:ListsR w dv ds) (hl:Cd.Laid w)
  (hN:(goalL goal).length ≤ 1000000) (hctx:ctx.length ≤ 1000000)
  (k:∀ w' pv av,Bw w w' → ListsR w' pv (proveM s goal ctx know ns ds).1.1 → NumsR w' av (proveM s goal ctx know ns ds).1.2 → K (.tuple #[prfV pv av,.int .i64 (proveM s goal ctx know ns ds).2]) w'):callM Tryz.prog 18 #[stpV s sv,gv,.string ⟨ctx.toArray⟩,kv,prfV nv dv] K w:=by
 apply sh_18c_ok
 unfold sh_18c
 have hs':=hs
 have hg':=hg
 have hd':=hd
 have hn':=hn
 have hk0':=hk0
 obtain ⟨ad,c,rfl⟩:=hs.ints.isSlice
 obtain ⟨gad,gc,rfl⟩:=hg.isSlice
 obtain ⟨dad,dc,rfl⟩:=hd.isSlice
 obtain ⟨nad,nc,rfl⟩:=hn.isSlice
 obtain ⟨kad,kc,rfl⟩:=hk0.isSlice
 have hlg:=hg.len
 refine box_kn (cs:=stpC s (.slice ad s.bases.length c)) rfl (.start w) fun b1 W hk hb1 hbb=>?_
 refine box_kn (cs:=prfC (.slice nad ns.length nc) (.slice dad ds.length dc)) rfl hk fun b2 W hk hb2 hbb2=>?_
 refine arr_alloc al_prf (fun r1 W3 h3 hr1 hh1=>?_)
 have hk:=hk.next h3
 refine arr_alloc al_eno (fun r2 W4 h4 hr2 hh2=>?_)
 have hr1w:w.heap.size ≤ r1:=by have:=hb1.size; have:=hb2.size; omega
 have hr2w:w.heap.size ≤ r2:=by have:=hb1.size; have:=hb2.size; have:=h3.size; omega
 have hk:=hk.next h4
 have hR:Res2 W4 r1 r2 (.slice none 0 0) (.slice none 0 0) 0:=⟨hh1.next h4,hh2,by have:=hh1.lt; omega⟩
 clear hb1 hb2 hbb hbb2 h3 h4 hr1 hr2 hh1 hh2
 have no:∀ (e:Int) (W:World) {T1 T2:TypeId},proveM s goal ctx know ns ds = (([],[]),e) → Bw w W → Res2 W r1 r2 (.slice none 0 0) (.slice none 0 0) 0 →
   oM Tryz.prog (.store 34 (.tmp 0) (.tmp 1)) T1 [ptr r1 0,.agg #[.slice none 0 0,.slice none 0 0]] (fun _ w=>oM Tryz.prog (.store 39 (.tmp 0) (.tmp 1)) T2 [ptr r2 0,.int .i64 e] (fun _ w=>
    ∃ r,(do loadVar 34 (← asAddr (ptr r1 0)):Sem Value).run Tryz.prog w = .ok r w ∧ ∃ r',(do loadVar 39 (← asAddr (ptr r2 0)):Sem Value).run Tryz.prog w = .ok r' w ∧ K (.tuple #[r,r']) w) w) W:=by
  intro e W T1 T2 he hb hR
  refine hR.set (fun W' hf hR'=>hR'.ret (K:=K) ?_)
  have:=k W' _ _ (below_fr hb hf (by rintro j (rfl | rfl) <;> assumption)) (by rw [he]; exact SRow.nil) (by rw [he]; exact SRow.nil)
  rwa [he] at this
 repeat (any_goals ((with_reducible refine oG fun X Y=>?_); simp [go_sem,hk.cells]; apply Y; clear Y X))
 refine ValidGoal_ok s (hs'.next hk.below) (hg'.next (atOf_stay cls_vstay) hk.below) (fun w2 h2=>?_)
 have hk:=hk.next h2
 have hR:=hR.next h2
 cases hgm:goalM s goal with
 | false=>
  repeat (any_goals (first
  | (with_reducible first|refine zD ?_|refine yB ?_|refine yL ?_)
  | ((with_reducible refine oG fun X Y=>?_); simp [go_sem]; apply Y; clear Y X)))
  exact no 1 _ (by simp [proveM,hgm]) hk.below hR
 | true=>
 repeat (any_goals (first
 | (with_reducible first|refine pureM_in ?_|refine zC ?_)
 | ((with_reducible refine oG fun X Y=>?_); simp [go_sem,hk.cells]; apply Y; clear Y X)))
 refine fits_ok s (hs'.next hk.below) (hg'.next (atOf_stay cls_vstay) hk.below) (hk0'.next (atOf_stay knws_vstay) hk.below) (fun w3 h3=>?_)
 have hk:=hk.next h3
 have hR:=hR.next h3
 cases hft:fitsM s goal know with
 | false=>
  repeat (any_goals (first
  | (with_reducible first|((refine idGd ?_); first|refine zC ?_|refine zD ?_)|((refine idPick ?_); first|refine yB ?_|refine yC ?_)|refine yL ?_)
  | ((with_reducible refine oG fun X Y=>?_); simp [go_sem]; apply Y; clear Y X)))
  exact no 1 _ (by simp [proveM,hft]) hk.below hR
 | true=>
 repeat (any_goals (first
 | (with_reducible first|refine pureM_in ?_|refine zC ?_|refine yC ?_)
 | ((with_reducible refine oG fun X Y=>?_); simp [go_sem,hk.cells]; apply Y; clear Y X)))
 refine shaped_ok s (hs'.next hk.below) (hg'.next (atOf_stay cls_vstay) hk.below) (hd'.next (atOf_stay ints_stay) hk.below) (hn'.next (atOf_stay lists_vstay) hk.below) (fun w4 h4=>?_)
 have hk:=hk.next h4
 have hR:=hR.next h4
 cases hsm:shapedM s goal ds ns with
 | false=>
  repeat (any_goals (first
  | (with_reducible first|refine zC ?_|refine yC ?_|refine yL ?_)
  | ((with_reducible refine oG fun X Y=>?_); simp [go_sem]; apply Y; clear Y X)))
  exact no 1 _ (by simp [proveM,hsm]) hk.below hR
 | true=>
 repeat (any_goals (first
 | (with_reducible first|refine zC ?_|refine yC ?_|refine yM ?_)
 | ((with_reducible refine oG fun X Y=>?_); simp [go_sem,hk.cells]; apply Y; clear Y X)))
 refine chosen_ok s (hs'.next hk.below) (hg'.next (atOf_stay cls_vstay) hk.below) (hk0'.next (atOf_stay knws_vstay) hk.below) hgm hft (fun gb B w5 h5 hB5 hO5=>?_)
 have hk:=hk.next h5
 have hR:=hR.next h5
 have hft':=hft
 unfold fitsM at hft'
 simp only [bA,dE] at hft'
 have hsm':=hsm
 unfold shapedM at hsm'
 simp only [bA,dE] at hsm'
 have hgm':=hgm
 unfold goalM at hgm'
 simp only [bA,dE] at hgm'
 have hcl:=chosenL_len (s:=s) hft'.1
 have hbr:=chosen_rows hgm hft hO5
 clear hO5
 iterate 2 (any_goals ((with_reducible refine oG fun X Y=>?_); simp [go_sem]; apply Y; clear Y X))
 refine local_kn al_bbs rfl sz_bbs rfl rfl (row_one (some ⟨gb,0,none⟩) goal.length goal.length) hk (fun b12 w6 hk h6 hb12=>?_)
 have hR:=hR.next h6
 have hbr:=hbr.next (atOf_stay boolsr_vstay) h6
 cases hch:(chosenL s goal know).2 with
 | false=>
  repeat (any_goals (first
  | (with_reducible refine yL ?_)
  | ((with_reducible refine oG fun X Y=>?_); simp [go_sem]; apply Y; clear Y X)))
  exact no 13 _ (by simp [proveM,hgm,hft,hsm,hch]) hk.below hR
 | true=>
 repeat (any_goals (first
 | (with_reducible refine yM ?_)
 | ((with_reducible refine oG fun X Y=>?_); simp [go_sem]; apply Y; clear Y X)))
 refine claims_ok (hg'.next (atOf_stay cls_vstay) hk.below) (fun cb W2 hb2 hcb hlt hcell=>?_)
 have hk2:=hk.next hb2
 have hR2:=hR.next hb2
 have hw6:w.heap.size ≤ W2.heap.size:=hk2.below.size
 refine range_claims (w:=w) hg' hk2.below hlt hcell
  (fun pre W=>Kn w (cellsOf (cellsOf (cellsOf [] b1 0 (stpC s (.slice ad s.bases.length c))) b2 0 (prfC (.slice nad ns.length nc) (.slice dad ds.length dc))) b12 0 [.slice (some ⟨gb,0,none⟩) goal.length goal.length]) W ∧ Bw w6 W ∧ Res2 W r1 r2 (.slice none 0 0) (.slice none 0 0) 0 ∧
   ∀ x ∈ pre,∀ b d,(chosenL s goal know).1[x.i]? = some b → ds[x.i]? = some d → ∀ bb dd,b[x.k]? = some bb → d[x.k]? = some dd → bb = true → dd = 0)
  (fun pre W=>Bw w W ∧ Res2 W r1 r2 (.slice none 0 0) (.slice none 0 0) 3 ∧ zeroL (chosenL s goal know).1 ds = false)
  PlcM
  (fun pre W W' h hf=>⟨own_kn h.1 hw6 hf,own_below h.2.1 hb2.size hf,h.2.2.1.own hf,h.2.2.2⟩)
  (fun pre W W' h hf=>⟨own_below h.1 hw6 hf,h.2.1.own hf,h.2.2⟩)
  (fun x l W W' h hf=>by obtain ⟨p,e,h⟩:=h; exact ⟨p,e,own_cells h hf⟩)
  ⟨hk2,hb2,hR2,fun x hx=>by cases hx⟩ ?_ ?_ ?_ ?_
 ·rintro pre x W ⟨hkp,hbp,hRp,hp⟩
  dsimp only
  rw [enc0]
  refine local_plc _ _ (.start W) (fun p W1 hk1 hb1 hgp=>?_)
  exact ⟨keeps_below hb1,hb1.mono hkp.below.size,⟨hkp.next hb1,hbp.on hb1,hRp.next hb1,hp⟩,p,rfl,hk1.cells⟩
 ·rintro pre x l u W ⟨hkp,hbp,hRp,hp⟩ ⟨p,rfl,hm⟩ hlen
  have hxi:=(gS x.hi).1
  have hxk:=(gS x.hk).1
  have ek:know[x.i]? = some know[x.i]:=gE (by omega)
  have ed:ds[x.i]? = some ds[x.i]:=gE (by omega)
  have en:ns[x.i]? = some ns[x.i]:=gE (by omega)
  have eb:=chosenL_at (s:=s) x.hi ek
  have hbl:=chosen_len s _ _ (x.cl).need (fitsL_at hft'.2 x.hi ek).1
  have hsh:=(shapedL_at hsm'.2 x.hi ed en).1
  simp only [shapeOf,exponentsM,bA,dE] at hsh
  obtain ⟨bb,ob,ebb,hltb,csb,_,hcellb,vb,rfl,hrowb⟩:=hbr.at (i:=x.i) (by omega)
  cases ebb
  obtain ⟨bd,od,rfl,hltd,csd,_,hcelld,vd,rfl,hrowd⟩:=hd'.at (i:=x.i) (by omega)
  have e3:(chosenL s goal know).1[x.i]'(by omega) = (chosenC s x.cl.need x.cl.claims know[x.i]).1:=(gS eb).2
  rw [e3] at hrowb
  generalize (chosenC s x.cl.need x.cl.claims know[x.i]).1 = Bs at *
  generalize ds[x.i] = dd at *
  have hkB:x.k < Bs.length:=by omega
  have hkD:x.k < dd.length:=by omega
  obtain ⟨bad2,bc2,rfl⟩:=hrowb.isSlice
  obtain ⟨dad2,dc2,rfl⟩:=hrowd.isSlice
  have cb:=hcellb 0 _ rfl
  have cd:=hcelld 0 _ rfl
  have ebk:Bs[x.k]? = some Bs[x.k]:=gE hkB
  have edk:dd[x.k]? = some dd[x.k]:=gE hkD
  obtain ⟨bt,ot,rfl,hltt,cst,_,hcellt,vt,rfl,hvt⟩:=hrowb.at (i:=x.k) hkB
  obtain ⟨be,oe,rfl,hlte,celle,_,_⟩:=hrowd.at (i:=x.k) hkD
  have ct:=hcellt 0 _ rfl
  unfold BoolR at hvt
  subst hvt
  simp only [Nat.add_zero,Nat.mul_one,Nat.zero_add] at cb cd ct
  generalize Bs[x.k] = bv at *
  generalize dd[x.k] = dv at *
  have hiB:(x.i:Int) < goal.length:=by omega
  have hiD:(x.i:Int) < ds.length:=by omega
  have hkB:(x.k:Int) < Bs.length:=by omega
  have hkD:(x.k:Int) < dd.length:=by omega
  unfold held_18_43
  have hk9:=hkp.drew
  have hb9:Below W.heap.size W { W with drawn:=W.drawn + 1 }:=.drawn
  have hm:=cellsAre_keep hm (fun a ha=>hb9.cell ha)
  have hbp9:=hbp.on hb9
  have hRp9:=hRp.next hb9
  refine ⟨Nx { W with drawn:=W.drawn + 1 },bR,rfl,?_⟩
  generalize ({ W with drawn:=W.drawn + 1 }:World) = W9 at hk9 hb9 hm hbp9 hRp9 ⊢
  have fin:∀ w7,Nx W9 w7 → (bv = true → dv = 0) → KeepsFrom W2.heap.size W w7 ∧ Below w.heap.size W w7 → KeepsFrom W2.heap.size W w7 ∧ Below w.heap.size W w7 ∧ Kn w (cellsOf (cellsOf (cellsOf [] b1 0 (stpC s (.slice ad s.bases.length c))) b2 0 (prfC (.slice nad ns.length nc) (.slice (some ⟨bd,od,none⟩) ds.length dc))) b12 0 [.slice (some ⟨gb,0,none⟩) goal.length goal.length]) w7 ∧ Bw w6 w7 ∧ Res2 w7 r1 r2 (.slice none 0 0) (.slice none 0 0) 0 ∧
   ∀ y ∈ pre ++ [x],∀ b d,(chosenL s goal know).1[y.i]? = some b → ds[y.i]? = some d → ∀ bb dd,b[y.k]? = some bb → d[y.k]? = some dd → bb = true → dd = 0:=by
   intro w7 h7 hz h0
   refine ⟨h0.1,h0.2,hk9.next h7,hbp9.on h7,hRp9.next h7,fun y hy=>?_⟩
   rcases List.mem_append.1 hy with hy | hy
   ·exact hp y hy
   ·rw [List.mem_singleton.1 hy]
    intro b d h1 h2 bb' dd' h3 h4 h5
    rw [eb] at h1
    rw [ed] at h2
    cases h1; cases h2
    rw [ebk] at h3
    rw [edk] at h4
    cases h3; cases h4
    exact hz h5
  cases bv with
  | false=>
   repeat (any_goals (first
   | (with_reducible first|refine pX ?_|((refine idGdH ?_); refine gdH_conv fun _=>?_)|refine zB ?_)
   | ((with_reducible refine idOH ?_); first|(with_reducible refine vB ?_)|(with_reducible refine oH_of ⟨_,rfl⟩ (fun W0 hW0=>by (refine oG (fun X Y=>?_)); simp [go_sem,(hk9.next hW0).cells,cellsAre_keep hm (fun a ha=>hW0.cell ha),((hbp9.on hW0).cell hltb).trans cb,((hbp9.on hW0).cell hltt).trans ct,((hk9.next hW0).below.cell hltd).trans cd,celle _ (hk9.next hW0).below,hiB,hiD,hkB,hkD]; (first | exact Y _ _ ⟨rfl,rfl⟩ | exact ⟨by omega,Y _ _ ⟨rfl,rfl⟩⟩)) ?_))))
   refine ⟨Nx,fun w7 h7=>?_⟩
   repeat (any_goals (with_reducible refine yM ?_))
   exact fin w7 h7 (fun e=>by cases e) ⟨keeps_below (hb9.on h7),(hb9.on h7).mono hkp.below.size⟩
  | true=>
   by_cases hz:dv = 0
   ·repeat (any_goals (first
    | (with_reducible first|refine pX ?_|((refine idGdH ?_); refine gdH_conv fun _=>?_)|refine zA ?_)
    | ((with_reducible refine idOH ?_); first|(with_reducible refine vA ?_)|(with_reducible refine oH_of ⟨_,rfl⟩ (fun W0 hW0=>by (refine oG (fun X Y=>?_)); simp [go_sem,(hk9.next hW0).cells,cellsAre_keep hm (fun a ha=>hW0.cell ha),((hbp9.on hW0).cell hltb).trans cb,((hbp9.on hW0).cell hltt).trans ct,((hk9.next hW0).below.cell hltd).trans cd,celle _ (hk9.next hW0).below,hiB,hiD,hkB,hkD]; (first | exact Y _ _ ⟨rfl,rfl⟩ | exact ⟨by omega,Y _ _ ⟨rfl,rfl⟩⟩)) ?_))))
    refine ⟨Nx,fun w7 h7=>?_⟩
    repeat (any_goals (with_reducible refine yR ?_))
    exact fin w7 h7 (fun _=>hz) ⟨keeps_below (hb9.on h7),(hb9.on h7).mono hkp.below.size⟩
   ·repeat (any_goals (first
    | (with_reducible first|refine pX ?_|((refine idGdH ?_); refine gdH_conv fun _=>?_)|refine zA ?_)
    | ((with_reducible refine idOH ?_); first|(with_reducible refine vA ?_)|(with_reducible refine oH_of ⟨_,rfl⟩ (fun W0 hW0=>by (refine oG (fun X Y=>?_)); simp [go_sem,(hk9.next hW0).cells,cellsAre_keep hm (fun a ha=>hW0.cell ha),((hbp9.on hW0).cell hltb).trans cb,((hbp9.on hW0).cell hltt).trans ct,((hk9.next hW0).below.cell hltd).trans cd,celle _ (hk9.next hW0).below,hiB,hiD,hkB,hkD]; (first | exact Y _ _ ⟨rfl,rfl⟩ | exact ⟨by omega,Y _ _ ⟨rfl,rfl⟩⟩)) ?_))))
    refine ⟨Nx,fun w7 h7=>?_⟩
    repeat (any_goals (first
    | (with_reducible refine yQ ?_)
    | ((with_reducible refine oG fun X Y=>?_); simp [go_sem]; apply Y; clear Y X)))
    refine (hRp9.next h7).set (e':=3) (fun W8 hf8 hR8=>?_)
    refine ⟨(keeps_below (hb9.on h7)).trans (keeps_two (hRp9.next h7) hf8),below_fr (hk9.next h7).below hf8 (by rintro j (rfl | rfl) <;> assumption),hR8,?_⟩
    rw [Bool.eq_false_iff]
    intro hzl
    exact hz (zeroC_at (zeroL_at hzl eb ed) ebk edk rfl)
 ·rintro D xs W hD hxs ⟨hk3,hb3,hR3,hp⟩ hh
  have hz:zeroL (chosenL s goal know).1 ds = true:=zeroL_of (fun i b d h1 h2=>zeroC_of (fun k' bb dd h3 h4 h5=>by
   have hil:=(gS h1).1
   have e1:goal[i]? = some goal[i]:=gE (by omega)
   have e2:know[i]? = some know[i]:=gE (by omega)
   have e3:=chosenL_at (s:=s) e1 e2
   rw [h1] at e3
   cases e3
   have hkl:=(gS h3).1
   rw [chosen_len s _ _ _ (fitsL_at hft'.2 e1 e2).1] at hkl
   have e4:goal[i].claims[k']? = some goal[i].claims[k']:=gE hkl
   have hm:=places_mem e1 e4
   rw [← hxs,List.mem_map] at hm
   obtain ⟨y,hy,hye⟩:=hm
   simp only [Itm.at,Prod.mk.injEq] at hye
   obtain ⟨rfl,rfl,_⟩:=hye
   exact hp y hy _ _ h1 h2 _ _ h3 h4 h5))
  repeat (any_goals ((with_reducible refine oG fun X Y=>?_); simp [go_sem,hk3.cells]; apply Y; clear Y X))
  refine root_ok s goal ctx ds ns (hs'.next hk3.below) (hg'.next (atOf_stay cls_vstay) hk3.below) (hd'.next (atOf_stay ints_stay) hk3.below) (hn'.next (atOf_stay lists_vstay) hk3.below) (hl.below hk3.below hl.size) hgm hsm hN hctx (fun w4 h4=>?_)
  have hk4:=hk3.next h4
  have hR4:=hR3.next h4
  have hb4:=hb3.on h4
  have hh4:w4.heap[D]? = some (.deferred (some [])):=(h4.block D (Array.getElem?_eq_some_iff.1 hh).1).trans hh
  iterate 1 (any_goals ((with_reducible refine oG fun X Y=>?_); simp [go_sem]; apply Y; clear Y X))
  refine arr_alloc al_prf (fun b16 w7 h7 hb16 hh7=>?_)
  refine arr_store sz_prf (xs:=prfC (.slice none 0 0) (.slice none 0 0)) rfl rfl (prf_one none none 0 0 0 0) hh7 rfl (fun w8 hg8 hh8=>?_)
  have h48:Bw w4 w8:=grown_below h7 hg8 hb16
  have hrI:=root_I64 s goal ctx ds ns
  have hpr:proveM s goal ctx know ns ds = (proveL s (rootM s goal ctx ds ns) (chosenL s goal know).1 ds ns know,0):=by simp [proveM,hgm,hft,hsm,hch,hz]
  rw [hpr] at k
  generalize rootM s goal ctx ds ns = r at *
  iterate 1 (any_goals ((with_reducible refine oG fun X Y=>?_); simp [go_sem]; apply Y; clear Y X))
  refine ⟨PoJ (proveL s r (chosenL s goal know).1 ds ns know) w8.heap.size b16 w4 goal.length,poMu goal.length,⟨h48,rL,_,_,_,_,_,0,rfl,by omega,.start hh8.lt (by simpa using hh8)⟩,?_⟩
  intro l79 u79 W9 hJ
  exact prove_loop s hs' hk4 hR4 hr1w hr2w hh4 (Nat.le_trans hw6 hD) hn' hd' hk0' (hbr.next (atOf_stay boolsr_vstay) hb4) hgm hft hsm hrI hb16 hh8.lt hJ k
 ·rintro D pre W hD hpre ⟨hb3,hR3,hz⟩ hh
  have hf:=put_fr (B:=W2.heap.size) (.deferred none) hD hh rfl
  refine ⟨hh,(hR3.own hf).ret (K:=K) ?_⟩
  have e:proveM s goal ctx know ns ds = (([],[]),3):=by simp [proveM,hgm,hft,hsm,hch,hz]
  have:=k _ (.slice none 0 0) (.slice none 0 0) (own_below hb3 hw6 hf) (by rw [e]; exact SRow.nil) (by rw [e]; exact SRow.nil)
  rwa [e] at this
theorem mkL0 {T:TypeId} (k:∀ ad c W,Bw w W → ListG w.heap.size (fun _=>False) W (.slice ad 0 c) [] → K (.slice ad 0 c) W):oM Tryz.prog (.buildSlice 30 0 #[]) T [] K w:=by
 rw [oM_buildSlice0]
 have e:(Instr.buildSlice 30 0 #[]).run Tryz.prog w = .ok (.slice (some ⟨w.heap.size,0,none⟩) 0 0) (w.alloc (.cells #[] 24)):=by kernel_rfl
 rw [e]
 refine k _ _ _ ((Below.refl _ w).alloc (rL) _) ⟨[],⟨rfl,.inr ⟨_,0,#[],rfl,rL,heap_alloc_new w _,rL,by decide,rfl,rfl⟩⟩,fun _ _ _ _ _ _=>⟨rfl,fun _ _ _ h=>by simp at h⟩⟩
structure ExI (B:Nat) (dv nv:Value) (D:Nat → Prop) (W:World) (dr:List Int) (nl:L2):Prop where
 d:OwnI W B dv dr
 n:ListG B D W nv nl
 od:Off D W dv
 on:Off D W nv
 ap:apart dv nv
 low:∀ j,D j → B ≤ j
section
variable {dv nv:Value} {D E:Nat → Prop} {dr:List Int} {nl:L2}
theorem ExI.next (h:ExI B dv nv D W dr nl) (hb:Bw W W'):ExI B dv nv D W' dr nl:=
 ⟨h.d.keep hb,h.n.next hb (fun j hj=>(h.on j hj).1),h.od.next hb.size,h.on.next hb.size,h.ap,h.low⟩
theorem ExI.setd {ad:Option Addr} {c k:Nat} {x:Int} {T:TypeId} {b o:Nat} (h:ExI B (.slice ad dr.length c) nv D W dr nl) (hk:k < dr.length) (had:ad = some ⟨b,o,none⟩)
  (kk:∀ W',W.grownBy W' (some b) → B ≤ b → b < W.heap.size → ¬ D b → ExI B (.slice ad dr.length c) nv D W' (dr.set k x) nl → K undef W') :
  oM Tryz.prog (.store 3 (.tmp 0) (.tmp 1)) T [.pointer (some ⟨b,o + k,none⟩),.int .i64 x] K W:=by
 have hne:dr ≠ []:=by intro e; rw [e] at hk; simp at hk
 obtain ⟨g,e,hR⟩:=RowP.of h.d hne
 rw [had] at e
 cases e
 have hgl:=hR.lt
 rw [Nat.zero_add]
 have hDg:¬ D b:=fun hj=>(h.od b hj).2 (by rw [had]; rfl)
 refine hR.set hk (fun W2 hg2 hR2=>kk W2 hg2 hR.base hgl hDg ?_)
 have ho:=hR2.owns
 rw [List.length_set] at ho
 subst had
 exact ⟨ho,h.n.keep (Fr.of_by hg2) (fun j hj=>⟨(h.on j hj).1,fun e=>hDg (by rw [← e]; exact hj)⟩) (fun j hj e=>h.ap b rfl (by rw [← e]; exact hj)),h.od.next hg2.size,h.on.next hg2.size,h.ap,h.low⟩
theorem ExI.push {T:TypeId} {gb gc m c:Nat} {ad:Option Addr} {x:List Int} (h:ExI B dv nv D W dr nl) (hB:B ≤ W.heap.size) (hh:Holds W gb 24 [.slice ad m c]) (hx:FP E W (fun w=>Ints w (.slice ad m c) x)) (hE:∀ i,E i → B ≤ i ∧ i < W.heap.size ∧ dv.ownBlock ≠ some i ∧ nv.ownBlock ≠ some i) (hl:nl.length < 1099511627776)
  (k:∀ v W',W.grownBy W' nv.ownBlock → (∀ j,nv.ownBlock = some j → B ≤ j) → ExI B dv v (fun i=>D i ∨ E i) W' dr (nl ++ [x]) → K v W'):oM Tryz.prog (.call { callee:=.builtin .append,args:=#[.tmp 0,.tmp 1],argTypes:=#[30,30] }) T [nv,.slice (some ⟨gb,0,none⟩) 1 gc] K W:=by
 have hD':Off (fun i=>D i ∨ E i) W nv:=fun i hi=>hi.elim (h.on i) (fun hi=>⟨(hE i hi).2.1,(hE i hi).2.2.2⟩)
 have hD2:Off (fun i=>D i ∨ E i) W dv:=fun i hi=>hi.elim (h.od i) (fun hi=>⟨(hE i hi).2.1,(hE i hi).2.2.1⟩)
 refine ints_append (h.n.mono fun i hi=>.inl hi) hB hh (hx.mono fun i hi=>.inr hi) hD' hl (fun v w' hg hb hv ho=>k v w' hb (fun j hj=>(h.n.own hj).2) ⟨owns_keep h.d (fun i hi=>hb.block i (owns_own h.d hi).1 (fun e=>h.ap i hi (by first | exact e | exact e.symm))),hg,hD2.next hb.size,ho,?_,?_⟩)
 ·intro i e1 e2
  rcases hv i e2 with h1 | h1
  ·exact h.ap i e1 h1
  ·have:=(owns_own h.d e1).1; omega
 ·rintro i (hi | hi)
  ·exact h.low i hi
  ·exact (hE i hi).1
end
theorem explain_tail {J:List Value → World → Prop} {m:List Value → World → Nat} {wl:World} {u0 u1 u2 u3 u4 v0 v1 v3:Value} {dl:L2} {al:L3} {x:List Int} {y:L2} {xad yad:Option Addr} {nx cx ny cy:Nat}
  (hQ:OutQ B b 32 (fun d a=>prfC a d) We dl al) (hb:Bw We W) (hB:B ≤ We.heap.size) (hi:i < 100000)
  (hx:FP (fun j=>We.heap.size ≤ j ∧ j < W.heap.size) W (fun w=>Ints w (.slice xad nx cx) x)) (hy:FP (fun j=>We.heap.size ≤ j ∧ j < W.heap.size) W (fun w=>ListsR w (.slice yad ny cy) y)) (hdl:dl.length < 1099511627776) (hal:al.length < 1099511627776)
  (k:∀ W' vs,Fr (fun j=>j = b ∨ B ≤ j) W W' → W.heap.size ≤ W'.heap.size → OutQ B b 32 (fun d a=>prfC a d) W' (dl ++ [x]) (al ++ [y]) → (∃ a0 a1 a2 a3 a4,vs = [a0,a1,a2,a3,a4,.int .i64 ((i + 1:Nat):Int)]) → J vs W' ∧ m vs W' < m [u0,u1,u2,u3,u4,.int .i64 (i:Int)] wl) :
  held_27_78 J [u0,u1,u2,u3,u4,.int .i64 (i:Int)] [v0,v1,.slice yad ny cy,v3] m (ptr b 0) (.slice xad nx cx) wl W:=by
 unfold held_27_78
 have hbl:=hQ.lt
 have hwi:IntKind.i64.wrap ((i:Int) + 1) = ((i + 1:Nat):Int):=by rw [wrapI64 _ (by omega) (by omega)]; rfl
 have hodr:Below W.heap.size W { W with drawn:=W.drawn + 1 }:=.drawn
 have hfd:Fr (fun j=>j = b ∨ B ≤ j) W { W with drawn:=W.drawn + 1 }:=Fr.of_below' hodr
 have hsz:W.heap.size = ({ W with drawn:=W.drawn + 1 }:World).heap.size:=rfl
 obtain ⟨dad,aad,dc,ac,D,hH,hduo,hDB,hdB,haB⟩:=hQ.duo (hb.on hodr) hB ((hx.next hodr (fun i hi=>hi.2))) ((hy.next hodr (fun i hi=>hi.2))) hdl hal
 generalize hW9:({ W with drawn:=W.drawn + 1 }:World) = W9 at *
 have hcell:∀ w',Fr (fun i=>(Value.slice dad dl.length dc).ownBlock = some i ∨ (Value.slice aad al.length ac).ownBlock = some i) W9 w' → Holds w' b 32 [.slice aad al.length ac,.slice dad dl.length dc]:=fun w' h=>hH.fr h (fun e=>by
  rcases e with e | e
  ·have:=hdB _ e; omega
  ·have:=haB _ e; omega)
 have hcellC:∀ w',DuoC B D W9 (.slice dad dl.length dc) (.slice aad al.length ac) dl al w' → Holds w' b 32 [.slice aad al.length ac,.slice dad dl.length dc]:=fun w' h=>hcell w' h.1
 refine ⟨DuoC B D W9 (.slice dad dl.length dc) (.slice aad al.length ac) dl al,by rw [hW9]; exact ⟨Fr.refl _ _,hduo.a,hduo.b⟩,rfl,?_⟩
 repeat (any_goals (first
 | (with_reducible refine pX ?_)
 | ((with_reducible refine idOH ?_); (with_reducible refine oH_of ⟨_,rfl⟩ (fun W0 hW0=>by (refine oG (fun X Y=>?_)); simp [go_sem,(hcellC _ hW0).are]; (first | exact Y _ _ ⟨rfl,rfl⟩ | exact ⟨by omega,Y _ _ ⟨rfl,rfl⟩⟩)) ?_))))
 refine duo_free hduo (i1:=1) (fun K' w h=>?_) (fun w v u hfr hA hB' hap'=>?_)
 ·repeat (any_goals ((with_reducible refine oG fun X Y=>?_); simp [go_sem]; apply Y; clear Y X))
  exact h
 have hh10:=hcell w hfr
 obtain ⟨vad',vc',rfl⟩:=hA.1.isSlice
 obtain ⟨uad',uc',rfl⟩:=hB'.1.isSlice
 refine arr_set (i:=1) sz_intsR rfl rfl hh10 (by simp) (fun w11 hg11 hh11=>?_)
 iterate 1 (any_goals ((with_reducible refine oG fun X Y=>?_); simp [go_sem]; apply Y; clear Y X))
 refine arr_set (i:=0) sz_intsR rfl rfl hh11 (by simp) (fun w12 hg12 hh12=>?_)
 repeat (any_goals ((with_reducible refine oG fun X Y=>?_); simp [go_sem]; (try simp (disch:=omega) only [wrapI64,wrapU8,wrapU32,wrapU64]); apply Y; clear Y X))
 have hg13:=grown_two hg11 hg12
 have hDb:∀ i,D i → i < w.heap.size ∧ ¬ i = b:=fun i hi=>⟨(hA.2.1 i hi).1,fun e=>by have:=hDB i hi; omega⟩
 refine k w12 _ ((hfd.trans hfr (fun i e=>.inl (.inr (e.elim (hdB i) (haB i))))).by hg13 (fun i e=>.inl (.inl (oI e).symm))) (by have:=hfr.size; have:=hg13.size; omega) ⟨⟨_,_,D,hh12,hA.1.keep (Fr.of_by hg13) hDb (fun i hi e=>by have:=(hA.1.own hi).2; omega),hB'.1.keep (Fr.of_by hg13) hDb (fun i hi e=>by have:=(hB'.1.own hi).2; omega),hA.2.1.next hg13.size,hB'.2.1.next hg13.size,hap',hDB⟩,hbl⟩ ⟨_,_,_,_,_,rfl⟩
end
section
variable {K:VK} {w w' w0 W W' We W1 W2:World} {L:List (Addr × Value)} {g n B b i:Nat} {row:Option Nat}
theorem rowI_keep {T l:List Int} {i:Nat} {x:Int} (h:T.length = l.length) (hl:l[i]? = some x) (hx:T[i]? = some x):rowI T l (i + 1) = rowI T l i:=by
 have hi:=(gS hl).1
 rw [← rowI_set h hi hx]
 apply List.ext_getElem?
 intro j
 rw [List.getElem?_set]
 by_cases hij:i = j
 ·subst hij
  rw [if_pos rfl,if_pos (by rw [rowI_len h (by omega)]; exact hi),rowI_at h hi,hl]
 ·rw [if_neg hij]
def ExJ (Z d:List Int) (bk:L2) (n:Nat) (dv:Value) (W2:World) (vs:List Value) (W:World):Prop:=Bw W2 W ∧ ∃ (u0 u1 nv:Value) (k:Nat) (D:Nat → Prop),vs = [u0,u1,nv,.int .i64 (k:Int)] ∧ k ≤ n ∧ ExI W2.heap.size dv nv D W (rowI Z d k) (bk.take k)
def exMu (n:Nat) (vs:List Value) (_:World):Nat:=match vs with | [_,_,_,.int _ k]=>n - k.toNat | _=>0
theorem explain_step (s:Stp) {J:List Value → World → Prop} {m:List Value → World → Nat} {wl:World} {l39:List Value} {u0 u1 u2 u3 u4:Value} {ad nad kad xad:Option Addr} {c nc kc xc b1 b2 gb mb:Nat} {dv:Value} {ns:L3} {know:List (List Knw)} {rows:List (List Bool)}
  {ans bk N:L2} {d:List Int} {Bs:List Bool} {Ks:List Knw}
  (hk:Kn w (cellsOf (cellsOf [] b1 0 (stpC s (.slice ad s.bases.length c))) b2 0 (prfC dv (.slice nad ns.length nc))) W2)
  (hn:NumsR w (.slice nad ns.length nc) ns) (hkn:KnowR w (.slice kad know.length kc) know) (hbr:BoolRows W2 (.slice (some ⟨gb,0,none⟩) mb mb) rows) (hmb:rows.length = mb)
  (hA:AnsC s.g.Q ans n Bs d N Ks) (hbk:bk = backC s.g.Q Bs d N Ks) (hdr:∀ y ∈ d,0 ≤ y ∧ y < 9223372036854775808) (en:ns[i]? = some N) (ek:know[i]? = some Ks) (eb:rows[i]? = some Bs)
  (hJ:ExJ (zeroed Bs d) d bk n (.slice xad n xc) W2 l39 W)
  (hend:∀ v0 v1 nv v3 W D,Bw W2 W → ExI W2.heap.size (.slice xad n xc) nv D W (zeroed Bs d) bk → held_27_78 J [u0,u1,u2,u3,u4,.int .i64 (i:Int)] [v0,v1,nv,v3] m (ptr b 0) (.slice xad n xc) wl W) :
  loop_27_37 J (ExJ (zeroed Bs d) d bk n (.slice xad n xc) W2) (.slice kad know.length kc) [u0,u1,u2,u3,u4,.int .i64 (i:Int)] l39 m (exMu n) (ptr b 0) (.slice (some ⟨gb,0,none⟩) mb mb) (.slice xad n xc) (.int .i64 n) (ptr b1 0) (ptr b2 0) wl W:=by
 obtain ⟨hb2,v0,v1,nv,k,D,rfl,hkn',hE⟩:=hJ
 have hmax:=hA.max
 have hbl:bk.length = n:=by rw [hbk,backC_len (by rw [hA.ld,hA.lb]) (by rw [hA.ln,hA.lb]) (by rw [hA.lk,hA.lb]),hA.lb]
 have hzl:(zeroed Bs d).length = d.length:=by rw [zeroed_len (by rw [hA.ld,hA.lb]),hA.lb,hA.ld]
 have hdl:=hA.ld
 unfold loop_27_37
 by_cases hkn2:k = n
 ·subst hkn2
  repeat (any_goals (first
  | (with_reducible refine yM ?_)
  | ((with_reducible refine oG fun X Y=>?_); simp [go_sem]; apply Y; clear Y X)))
  rw [List.take_of_length_le (by omega)] at hE
  unfold rowI at hE
  rw [List.take_of_length_le (by omega),List.drop_of_length_le (by omega),List.append_nil] at hE
  exact hend _ _ _ _ _ _ hb2 hE
 have hkl:k < n:=by omega
 have hki:(k:Int) < n:=by omega
 have hkB0:k < Bs.length:=by have:=hA.lb; omega
 have hkD0:k < d.length:=by have:=hA.ld; omega
 have hkN0:k < N.length:=by have:=hA.ln; omega
 have hkK0:k < Ks.length:=by have:=hA.lk; omega
 have ebk:Bs[k]? = some Bs[k]:=gE hkB0
 have edk:d[k]? = some d[k]:=gE hkD0
 have enk:N[k]? = some N[k]:=gE hkN0
 have ekk:Ks[k]? = some Ks[k]:=gE hkK0
 have hans:=backC_at (q:=s.g.Q) ebk edk enk ekk
 rw [← hbk] at hans
 have hzer:=zeroed_at ebk edk
 have hdk:=hdr _ (List.getElem_mem hkD0)
 have hin:=(gS en).1
 have hik:=(gS ek).1
 have hib:=(gS eb).1
 have hiN:(i:Int) < ns.length:=by omega
 have hiK:(i:Int) < know.length:=by omega
 have hiB:(i:Int) < mb:=by omega
 have e1:ns[i] = N:=(gS en).2
 have e2:know[i] = Ks:=(gS ek).2
 have e3:rows[i] = Bs:=(gS eb).2
 obtain ⟨bn,on,rfl,hltn,csn,_,hcelln,vn,rfl,hrown⟩:=hn.at (i:=i) hin
 obtain ⟨bk',ok,rfl,hltk,csk,_,hcellk,vk,rfl,hrowk⟩:=hkn.at (i:=i) hik
 obtain ⟨bb,ob,ebb,hltb,csb,_,hcellb,vb,rfl,hrowb⟩:=hbr.at (i:=i) hib
 cases ebb
 rw [e1] at hrown
 rw [e2] at hrowk
 rw [e3] at hrowb
 obtain ⟨nad2,nc2,rfl⟩:=hrown.isSlice
 obtain ⟨kad2,kc2,rfl⟩:=hrowk.isSlice
 obtain ⟨bad2,bc2,rfl⟩:=hrowb.isSlice
 have cn:=hcelln 0 _ rfl
 have ck:=hcellk 0 _ rfl
 have cb:=hcellb 0 _ rfl
 have hNl:=hA.ln
 have hKl:=hA.lk
 have hBl:=hA.lb
 obtain ⟨bl,ol,rfl,hltl,csl,_,hcelll,vl,rfl,hrowl⟩:=hrown.at (i:=k) (by omega)
 obtain ⟨bu,ou,rfl,hltu,csu,_,hcellu,vu,rfl,hvu⟩:=hrowk.at (i:=k) (by omega)
 obtain ⟨bt,ot,rfl,hltt,cst,_,hcellt,vt,rfl,hvt⟩:=hrowb.at (i:=k) (by omega)
 have cl:=hcelll 0 _ rfl
 have cu:=hcellu 1 _ rfl
 have ct:=hcellt 0 _ rfl
 simp only [Nat.add_zero,Nat.mul_one,Nat.zero_add] at cn ck cb cl cu ct
 unfold BoolR at hvt
 subst hvt
 have hfit:Bs[k] = true → (Ks[k]).values.length = (N[k]).length:=fun e=>hA.fit k _ _ (by rw [ebk,e]) ekk enk
 have hzl2:=hA.len k _ enk
 have hzr:=hrowl.rng
 have hkB:(k:Int) < Bs.length:=by omega
 have hkN:(k:Int) < N.length:=by omega
 have hkK:(k:Int) < Ks.length:=by omega
 have hrl:=rowI_len (i:=k) hzl (by omega)
 have hra:=rowI_at (i:=k) hzl (by omega)
 rw [edk] at hra
 generalize Bs[k] = bv at *
 generalize d[k] = dk at *
 generalize N[k] = z at *
 generalize Ks[k] = u at *
 have hkW:=hk.next hb2
 obtain ⟨lad,lc,hlv⟩:=hrowl.isSlice
 repeat (any_goals (first
 | (with_reducible refine yL ?_)
 | ((with_reducible refine oG fun X Y=>?_); simp [go_sem,hkW.cells,(hkW.below.cell hltn).trans cn,(hkW.below.cell hltl).trans cl,hiN,hkN,hki]; apply Y; clear Y X)))
 refine Clone_ok (hrowl.next hkW.below) (by omega) (fun v3 w3 ho3 h3 hb3=>?_)
 have ho:OwnI w3 W.heap.size v3 z:=owns_up ho3 hb3
 obtain ⟨zad,zc,rfl⟩:=owns_len ho
 have hE3:=hE.next h3
 have hb3':=hb2.on h3
 have hk3:=hkW.next h3
 skip
 have hdown:∀ j,(Value.slice xad n xc).ownBlock = some j → W2.heap.size ≤ j ∧ j < W.heap.size:=fun j hj=>⟨(owns_own hE.d hj).2.1,(owns_own hE.d hj).1⟩
 have hnown:∀ j,nv.ownBlock = some j → W2.heap.size ≤ j ∧ j < W.heap.size:=fun j hj=>⟨(hE.n.own hj).2,(hE.n.own hj).1⟩
 refine ⟨fun l W'=>Bw W2 W' ∧ W.heap.size ≤ W'.heap.size ∧ ∃ (lad:Option Addr) (lm lc:Nat) (x:List Int),l = [.slice lad lm lc] ∧ bk[k]? = some x ∧ FP (fun j=>W.heap.size ≤ j ∧ j < W'.heap.size) W' (fun w=>Ints w (.slice lad lm lc) x) ∧ ExI W2.heap.size (.slice xad n xc) nv D W' (rowI (zeroed Bs d) d (k + 1)) (bk.take k),?_,?_⟩
 ·unfold pre_27_48
  cases bv with
  | false=>
   repeat (any_goals (first
   | (with_reducible refine yM ?_)
   | ((with_reducible refine oG fun X Y=>?_); simp [go_sem,hk3.cells,(hb3'.cell hltb).trans cb,(hb3'.cell hltt).trans ct,hiB,hkB]; apply Y; clear Y X)))
   have hans:bk[k]? = some z:=hans
   have hzer:(zeroed Bs d)[k]? = some dk:=hzer
   rw [rowI_keep hzl edk hzer]
   exact ⟨hb3',h3.size,_,_,_,_,rfl,hans,((ho.ints hzr (by omega)).fp).mono (fun j hj=>⟨(owns_own ho (own_inB ho hj.1)).2.1,hj.2⟩),hE3⟩
  | true=>
   repeat (any_goals (first
   | (with_reducible refine yL ?_)
   | ((with_reducible refine oG fun X Y=>?_); simp [go_sem,hk3.cells,(hb3'.cell hltb).trans cb,(hb3'.cell hltt).trans ct,hiB,hkB]; apply Y; clear Y X)))
   have hfit:=hfit rfl
   have hans:bk[k]? = some (shiftM s.g.Q z (-dk) u.values):=hans
   have hzer:(zeroed Bs d)[k]? = some 0:=hzer
   unfold held_27_54
   have hb9:Below w3.heap.size w3 { w3 with drawn:=w3.drawn + 1 }:=.drawn
   have hk9:=hk3.next hb9
   have hE9:=hE3.next hb9
   have hbb9:=hb3'.on hb9
   have ho9:=ho.keep hb9
   have h39:=h3.on hb9
   refine ⟨Nx { w3 with drawn:=w3.drawn + 1 },bR,rfl,?_⟩
   generalize ({ w3 with drawn:=w3.drawn + 1 }:World) = W9 at hk9 hE9 hbb9 ho9 h39 ⊢
   obtain ⟨uad,uc,rfl⟩:=hvu.isSlice
   have hne:rowI (zeroed Bs d) d k ≠ []:=by intro e; rw [e] at hrl; simp at hrl; omega
   have hE9':ExI W2.heap.size (.slice xad (rowI (zeroed Bs d) d k).length xc) nv D W9 (rowI (zeroed Bs d) d k) (bk.take k):=by rw [hrl,hdl]; exact hE9
   obtain ⟨gx,rfl,hRx⟩:=RowP.of hE9'.d hne
   have hcx:=hRx.cell hra
   have hwn:IntKind.i64.wrap (-dk) = -dk:=wrapI64 _ (by omega) (by omega)
   repeat (any_goals (first
   | (with_reducible refine pX ?_)
   | ((with_reducible refine idOH ?_); (with_reducible refine oH_of ⟨_,rfl⟩ (fun W0 hW0=>by (refine oG (fun X Y=>?_)); simp [go_sem,(hk9.next hW0).cells,(hW0.cell hRx.lt).trans hcx,((hk9.next hW0).below.cell hltk).trans ck,((hk9.next hW0).below.cell hltu).trans cu,hiK,hkK,hki,hwn]; (first | exact Y _ _ ⟨rfl,rfl⟩ | exact ⟨by omega,Y _ _ ⟨rfl,rfl⟩⟩)) ?_))))
   refine ⟨Nx,fun w10 h10=>?_⟩
   have hE10:=hE9'.next h10
   have hI10:=((ho9.keep h10).ints hzr (by omega))
   refine shift_ok s.g.Q (-dk) z u.values hI10 (hvu.next (hk9.next h10).below) hfit (by omega) (fun v11 w11 h11 ho11=>?_)
   obtain ⟨sad,sc,rfl⟩:=owns_len ho11
   have hb11:=(hbb9.on h10).on h11
   repeat (any_goals ((with_reducible refine oG fun X Y=>?_); simp [go_sem,hki]; apply Y; clear Y X))
   have hs10:=h10.size
   have hs11:=h11.size
   have hs39:=h39.size
   have hset:=(hE10.next h11).setd (T:=0) (x:=0) (k:=k) (b:=gx) (o:=0) (K:=fun _ W'=>Bw W2 W' ∧ W.heap.size ≤ W'.heap.size ∧ ∃ (lad:Option Addr) (lm lc:Nat) (x:List Int),[Value.slice sad (shiftM s.g.Q z (-dk) u.values).length sc] = [.slice lad lm lc] ∧ bk[k]? = some x ∧ FP (fun j=>W.heap.size ≤ j ∧ j < W'.heap.size) W' (fun w=>Ints w (.slice lad lm lc) x) ∧ ExI W2.heap.size (.slice (some ⟨gx,0,none⟩) n xc) nv D W' (rowI (zeroed Bs d) d (k + 1)) (bk.take k)) (by omega) rfl (fun W12 hg12 hgB hgl hgD hE12=>?_)
   ·rw [Nat.zero_add] at hset
    exact hset
   ·rw [rowI_set hzl (by omega) hzer,hrl,hdl] at hE12
    have hgW:=(hdown gx rfl).2
    refine ⟨hb11.grown hg12 hb11.size (fun j hj=>by cases hj; exact hgB),by have:=hg12.size; omega,_,_,_,_,rfl,hans,?_,hE12⟩
    have hf:=((ho11.ints (shift_I64 _ _ _ _) (by have:=shift_len s.g.Q (-dk) z u.values; omega)).fp).mono (E:=fun j=>W.heap.size ≤ j ∧ j < w11.heap.size) (fun j hj=>⟨by have:=(owns_own ho11 (own_inB ho11 hj.1)).2.1; omega,hj.2⟩)
    exact (hf.by hg12 (fun j hj=>⟨hj.2,fun e=>by have:=oI e; omega⟩)).mono (fun j hj=>⟨hj.1,lL hj.2 hg12.size⟩)
 ·rintro _ _ W5 ⟨hb5,hs5,lad,lm,lc,x,rfl,hx,hf5,hE5⟩
  unfold post_27_48
  skip
  refine lit_ints _ _ _ (fun gl W6 h6 hgl hh6=>?_)
  have hE6:=hE5.next h6
  have hs6:=h6.size
  refine hE6.push (E:=fun j=>W.heap.size ≤ j ∧ j < W5.heap.size) (by have:=hb5.size; omega) hh6 (hf5.next h6 (fun j hj=>hj.2)) (fun j hj=>⟨by have:=hb2.size; omega,by omega,fun e=>by have:=(hdown j e).2; omega,fun e=>by have:=(hnown j e).2; omega⟩) (by rw [List.length_take]; omega) (fun nv7 W7 hg7 hnb hE7=>?_)
  rw [take_snoc2 hx] at hE7
  repeat (any_goals ((with_reducible refine oG fun X Y=>?_); simp [go_sem]; (try simp (disch:=omega) only [wrapI64,wrapU8,wrapU32,wrapU64]); apply Y; clear Y X))
  exact ⟨⟨(hb5.on h6).grown hg7 (hb5.on h6).size (fun j hj=>hnb j hj),_,_,_,k + 1,_,rfl,by omega,hE7⟩,by show n - (((k + 1:Nat):Int)).toNat < n - ((k:Nat):Int).toNat; omega⟩
theorem al_nse (w:World):(Instr.alloc 32 true (.tuple #[])).run Tryz.prog w = .ok (.pointer (some ⟨w.heap.size,0,none⟩)) (w.alloc (.cells [.slice none 0 0,.slice none 0 0].toArray 32)):=by kernel_rfl
theorem sz_nse (w:World):(sizeOf 32).run Tryz.prog w = .ok 2 w:=by kernel_rfl
def EoJ (P:L2 × L3) (B b:Nat) (W1:World) (n:Nat) (vs:List Value) (W:World):Prop:=Bw W1 W ∧ B ≤ W.heap.size ∧ ∃ (u0 u1 u2 u3 u4:Value) (i:Nat),vs = [u0,u1,u2,u3,u4,.int .i64 (i:Int)] ∧ i ≤ n ∧ OutQ B b 32 (fun d a=>prfC a d) W (P.1.take i) (P.2.take i)
set_option maxHeartbeats 2000000 in
theorem explain_loop (s:Stp) {ad nad dad kad:Option Addr} {c nc dc kc b1 b2 gb r1:Nat} {ns:L3} {ds:L2} {goal:List Cls} {know:List (List Knw)} {l28:List Value} {pa pb:Value}
  (hs:SetR w s (.slice ad s.bases.length c))
  (hk:Kn w (cellsOf (cellsOf [] b1 0 (stpC s (.slice ad s.bases.length c))) b2 0 (prfC (.slice dad ds.length dc) (.slice nad ns.length nc))) W1)
  (hR:Holds W1 r1 32 [pa,pb]) (hr1:w.heap.size ≤ r1)
  (hn:NumsR w (.slice nad ns.length nc) ns) (hd:ListsR w (.slice dad ds.length dc) ds) (hkn:KnowR w (.slice kad know.length kc) know) (hbr:BoolRows W1 (.slice (some ⟨gb,0,none⟩) goal.length goal.length) (chosenL s goal know).1)
  (hgm:goalM s goal = true) (hft:fitsM s goal know = true) (hsm:shapedM s goal ds ns = true) (hb1:W1.heap.size ≤ b) (hbB:b < B)
  (hJ:EoJ (explainL s (chosenL s goal know).1 ds ns know) B b W1 goal.length l28 W)
  (k:∀ w' nv dv,Bw w w' → NumsR w' nv (explainL s (chosenL s goal know).1 ds ns know).2 → ListsR w' dv (explainL s (chosenL s goal know).1 ds ns know).1 → K (.tuple #[prfV nv dv,.bool true]) w') :
  loop_27_26 (EoJ (explainL s (chosenL s goal know).1 ds ns know) B b W1 goal.length) K (.slice kad know.length kc) l28 (poMu goal.length) (ptr r1 0) (ptr b 0) (.slice (some ⟨gb,0,none⟩) goal.length goal.length) (.int .i64 goal.length) (ptr b1 0) (ptr b2 0) W:=by
 obtain ⟨hb,hBW,u0,u1,u2,u3,u4,i,rfl,hi,hQ⟩:=hJ
 have hgm':=hgm
 unfold goalM at hgm'
 simp only [bA,dE] at hgm'
 have hft':=hft
 unfold fitsM at hft'
 simp only [bA,dE] at hft'
 have hsm':=hsm
 unfold shapedM at hsm'
 simp only [bA,dE] at hsm'
 have hcl:=chosenL_len (s:=s) hft'.1
 have hpl:=explainL_len (s:=s) (bs:=(chosenL s goal know).1) (ds:=ds) (ns:=ns) (ks:=know) (by omega) (by omega) (by omega)
 have hkW:=hk.next hb
 unfold loop_27_26
 by_cases hin:i = goal.length
 ·subst hin
  rw [List.take_of_length_le (by omega),List.take_of_length_le (by omega)] at hQ
  generalize explainL s (chosenL s goal know).1 ds ns know = P at *
  obtain ⟨dv,av,D,h1,h2,h3,h4,h5,h6,h7⟩:=hQ.ex
  have h2':=h2
  have h3':=h3
  obtain ⟨xad,xc,rfl⟩:=h2.isSlice
  obtain ⟨yad,yc,rfl⟩:=h3.isSlice
  iterate 2 (any_goals (first
  | (with_reducible refine yM ?_)
  | ((with_reducible refine oG fun X Y=>?_); simp [go_sem]; apply Y; clear Y X)))
  refine ld_nse h1 ?_
  have hR2:=hR.next hb
  refine arr_store sz_nse (xs:=prfC (.slice yad P.2.length yc) (.slice xad P.1.length xc)) rfl rfl (prf_one _ _ _ _ _ _) hR2 rfl (fun W3 hg3 hh3=>?_)
  refine ret_nse (K:=fun r W=>K (.tuple #[r,.bool true]) W) hh3 ?_
  have hs1:=hR.lt
  have hf3:Fr (fun j=>j = r1) W W3:=Fr.of_by hg3
  have hsz:=hf3.size
  have g2:=h2'.keep hf3 (fun j hj=>⟨(h4 j hj).1,fun e=>by have:=h7 j hj; omega⟩) (fun j hj e=>by have:=(h2'.own hj).2; omega)
  have g3:=h3'.keep hf3 (fun j hj=>⟨(h5 j hj).1,fun e=>by have:=h7 j hj; omega⟩) (fun j hj e=>by have:=(h3'.own hj).2; omega)
  exact k _ _ _ (below_fr hkW.below hf3 (by rintro j rfl; exact hr1)) (g3.srow (by decide) (by omega)) (g2.srow (by decide) (by omega))
 have eg:goal[i]? = some goal[i]:=gE (by omega)
 have ek:know[i]? = some know[i]:=gE (by omega)
 have ed:ds[i]? = some ds[i]:=gE (by omega)
 have en:ns[i]? = some ns[i]:=gE (by omega)
 have eb:=chosenL_at (s:=s) eg ek
 have hP:=explainL_at (s:=s) eb ed en ek
 have hdl0:=(shapedL_at hsm'.2 eg ed en).1
 simp only [shapeOf,bA,dE] at hdl0
 have hdl1:=hdl0.1
 simp only [exponentsM,bA,dE,Bool.not_eq_true',List.any_eq_false,exponentM,Bool.not_eq_true,Bool.not_eq_false',Bool.not_not] at hdl1
 have hokQ:=(gv_setup hgm'.1.1.1.1).okQ
 have hdr:∀ y ∈ ds[i],0 ≤ y ∧ y < 9223372036854775808:=fun y hy=>by
  have:=hdl1.2 y hy
  unfold okN at hokQ
  simp at this
  omega
 have hcf:clsFine s goal[i] = true:=List.all_eq_true.1 hgm'.1.2 _ (List.getElem_mem _)
 simp only [clsFine,bA,dE] at hcf
 obtain ⟨hA,hdl⟩:=ansC_of hgm hft hsm eg ek ed en ds[i] (by omega)
 obtain ⟨bd,od,rfl,hltd,csd,_,hcelld,vd,rfl,hrowd⟩:=hd.at (i:=i) (by omega)
 generalize hBs:(chosenC s goal[i].need goal[i].claims know[i]).1 = Bs at *
 generalize ds[i] = d at *
 generalize ns[i] = N at *
 generalize know[i] = Ks at *
 generalize goal[i] = cl at *
 have hmax:=hA.max
 obtain ⟨dad2,dc2,rfl⟩:=hrowd.isSlice
 have cd:=hcelld 0 _ rfl
 simp only [Nat.add_zero,Nat.mul_one,Nat.zero_add] at cd
 have hiB:(i:Int) < goal.length:=by omega
 have hiD:(i:Int) < ds.length:=by omega
 repeat (any_goals (first
 | (with_reducible refine yN ?_)
 | ((with_reducible refine oG fun X Y=>?_); simp [go_sem,hkW.cells,(hkW.below.cell hltd).trans cd,hiD]; apply Y; clear Y X)))
 refine Clone_ok (hrowd.next hkW.below) (by omega) (fun v3 W3 ho3 h3 hb3=>?_)
 have ho:OwnI W3 W.heap.size v3 d:=owns_up ho3 hb3
 obtain ⟨xad,xc,rfl⟩:=owns_len ho
 refine mkL0 (fun lad lc W4 h4 hL4=>?_)
 have ho4:=ho.keep h4
 have h34:=h3.on h4
 have hE0:ExI W.heap.size (.slice xad d.length xc) (.slice lad 0 lc) (fun _=>False) W4 (rowI (zeroed Bs d) d 0) ((backC s.g.Q Bs d N Ks).take 0):=by
  obtain ⟨cs,a1,a2⟩:=hL4.ex
  refine ⟨by simpa [rowI] using ho4,⟨cs,owns_up a1 (fun j hj=>by have:=(owns_own a1 hj).2.1; have:=h3.size; omega),a2⟩,fun j h=>h.elim,fun j h=>h.elim,fun j e1 e2=>?_,fun j h=>h.elim⟩
  ·have:=(owns_own ho e1).1
   have:=(hL4.own e2).2
   omega
 repeat (any_goals ((with_reducible refine oG fun X Y=>?_); simp [go_sem]; apply Y; clear Y X))
 have hkb:=hk.next hb
 refine ⟨ExJ (zeroed Bs d) d (backC s.g.Q Bs d N Ks) cl.claims.length (.slice xad d.length xc) W,exMu cl.claims.length,⟨h34,_,_,_,0,_,rfl,by omega,hE0⟩,?_⟩
 intro l39 u39 W5 hJ5
 rw [hdl] at hJ5 ⊢
 have hlA:(backC s.g.Q Bs d N Ks).length = cl.claims.length:=by
  rw [backC_len (by rw [hA.ld,hA.lb]) (by rw [hA.ln,hA.lb]) (by rw [hA.lk,hA.lb]),hA.lb]
 refine explain_step s hkb hn hkn (hbr.next (atOf_stay boolsr_vstay) hb) hcl hA rfl hdr en ek eb hJ5 (fun v0 v1 nv v3 W6 D6 hb6 hE6=>?_)
 obtain ⟨nad6,nc6,hnv⟩:=hE6.n.isSlice
 subst hnv
 rw [hlA]
 have hzl:(zeroed Bs d).length = cl.claims.length:=by rw [zeroed_len (by rw [hA.ld,hA.lb]),hA.lb]
 have hzI:∀ x ∈ zeroed Bs d,I64 x:=by
  intro x hx
  obtain ⟨j,hj⟩:=List.getElem?_of_mem hx
  have hjl:=(gS hj).1
  have h1:Bs[j]? = some (Bs[j]'(by have:=hA.lb; omega)):=gE _
  have h2:d[j]? = some (d[j]'(by omega)):=gE _
  rw [zeroed_at h1 h2] at hj
  have h3:=hdr _ (List.getElem_mem (by omega:j < d.length))
  cases Bs[j]'(by have:=hA.lb; omega) <;> simp at hj <;> subst hj <;> unfold I64 <;> omega
 have hf6:=(hE6.n.fp (by decide) (by omega)).mono (E:=fun j=>W.heap.size ≤ j ∧ j < W6.heap.size) (fun j hj=>hj.elim (fun h=>⟨hE6.low j h,(hE6.on j h).1⟩) (fun h=>⟨(hE6.n.own h).2,(hE6.n.own h).1⟩))
 rw [hlA] at hf6
 refine explain_tail (x:=zeroed Bs d) (y:=backC s.g.Q Bs d N Ks) hQ hb6 hBW (by omega) ?_ hf6 ?_ ?_ (fun W7 vs hf7 hs7 hQ7 hvs=>?_)
 ·exact ((hE6.d.ints hzI (by omega)).fp).mono (fun j hj=>⟨(owns_own hE6.d (own_inB hE6.d hj.1)).2.1,hj.2⟩)
 ·rw [List.length_take]; omega
 ·rw [List.length_take]; omega
 ·obtain ⟨a0,a1,a2,a3,a4,rfl⟩:=hvs
  rw [take_snoc2 hP.1,take_snoc2 hP.2] at hQ7
  refine ⟨⟨below_fr (hb.on hb6) hf7 (by rintro j (rfl | h) <;> omega),by have:=hf7.size; have:=hb6.size; omega,_,_,_,_,_,i + 1,rfl,by omega,hQ7⟩,by show goal.length - (((i + 1:Nat):Int)).toNat < goal.length - ((i:Nat):Int).toNat; omega⟩
set_option maxHeartbeats 4000000 in
theorem Explain_ok (s:Stp) (goal:List Cls) (ctx:Bytes) (know:List (List Knw)) (ns:L3) (ds:L2) {sv gv kv nv dv:Value} (hs:SetR w s sv) (hg:GoalR w gv goal) (hk0:KnowR w kv know) (hn:NumsR w nv ns) (hd:ListsR w dv ds) (hl:Cd.Laid w)
  (hN:(goalL goal).length ≤ 1000000) (hctx:ctx.length ≤ 1000000)
  (k:∀ w' nv' dv',Bw w w' → NumsR w' nv' (PrSpec.explainM s goal ctx ds ns know).1.2 → ListsR w' dv' (PrSpec.explainM s goal ctx ds ns know).1.1 → K (.tuple #[prfV nv' dv',.bool (PrSpec.explainM s goal ctx ds ns know).2]) w'):callM Tryz.prog 27 #[stpV s sv,gv,.string ⟨ctx.toArray⟩,prfV dv nv,kv] K w:=by
 apply sh_27c_ok
 unfold sh_27c
 have hs':=hs
 have hg':=hg
 have hd':=hd
 have hn':=hn
 have hk0':=hk0
 obtain ⟨ad,c,rfl⟩:=hs.ints.isSlice
 obtain ⟨gad,gc,rfl⟩:=hg.isSlice
 obtain ⟨dad,dc,rfl⟩:=hd.isSlice
 obtain ⟨nad,nc,rfl⟩:=hn.isSlice
 obtain ⟨kad,kc,rfl⟩:=hk0.isSlice
 have hlg:=hg.len
 refine box_kn (cs:=stpC s (.slice ad s.bases.length c)) rfl (.start w) fun b1 W hk hb1 hbb=>?_
 refine box_kn (cs:=prfC (.slice dad ds.length dc) (.slice nad ns.length nc)) rfl hk fun b2 W hk hb2 hbb2=>?_
 refine arr_alloc al_nse (fun r1 W3 h3 hr1 hR=>?_)
 have hr1w:w.heap.size ≤ r1:=by have:=hb1.size; have:=hb2.size; omega
 have hk:=hk.next h3
 clear hb1 hb2 hbb hbb2 h3 hr1
 have no:∀ (W:World) {T1:TypeId},PrSpec.explainM s goal ctx ds ns know = (([],[]),false) → Bw w W → Holds W r1 32 [.slice none 0 0,.slice none 0 0] →
   oM Tryz.prog (.store 32 (.tmp 0) (.tmp 1)) T1 [ptr r1 0,.agg #[.slice none 0 0,.slice none 0 0]] (fun _ w=>
    ∃ r,(do loadVar 32 (← asAddr (ptr r1 0)):Sem Value).run Tryz.prog w = .ok r w ∧ K (.tuple #[r,.bool false]) w) W:=by
  intro W T1 he hb hR
  refine arr_store sz_nse (xs:=prfC (.slice none 0 0) (.slice none 0 0)) rfl rfl (prf_one _ _ _ _ _ _) hR rfl (fun W' hg hh=>ret_nse (K:=fun r W=>K (.tuple #[r,.bool false]) W) hh ?_)
  have:=k W' (.slice none 0 0) (.slice none 0 0) (grown_below hb hg hr1w) (by rw [he]; exact SRow.nil) (by rw [he]; exact SRow.nil)
  rwa [he] at this
 repeat (any_goals ((with_reducible refine oG fun X Y=>?_); simp [go_sem,hk.cells]; apply Y; clear Y X))
 refine Verify_ok s goal ctx ds ns (hs'.next hk.below) (hg'.next (atOf_stay cls_vstay) hk.below) (hd'.next (atOf_stay ints_stay) hk.below) (hn'.next (atOf_stay lists_vstay) hk.below) (hl.below hk.below hl.size) hN hctx (fun w2 h2=>?_)
 have hk:=hk.next h2
 have hR:=hR.next h2
 cases hvm:verifyM s goal ctx ds ns with
 | false=>
  repeat (any_goals (first
  | (with_reducible first|refine zD ?_|refine yB ?_|refine yL ?_)
  | ((with_reducible refine oG fun X Y=>?_); simp [go_sem]; apply Y; clear Y X)))
  exact no _ (by simp [PrSpec.explainM,hvm]) hk.below hR
 | true=>
 repeat (any_goals (first
 | (with_reducible first|refine pureM_in ?_|refine zC ?_)
 | ((with_reducible refine oG fun X Y=>?_); simp [go_sem,hk.cells]; apply Y; clear Y X)))
 refine fits_ok s (hs'.next hk.below) (hg'.next (atOf_stay cls_vstay) hk.below) (hk0'.next (atOf_stay knws_vstay) hk.below) (fun w3 h3=>?_)
 have hk:=hk.next h3
 have hR:=hR.next h3
 cases hft:fitsM s goal know with
 | false=>
  repeat (any_goals (first
  | (with_reducible first|refine zC ?_|refine yC ?_|refine yL ?_)
  | ((with_reducible refine oG fun X Y=>?_); simp [go_sem]; apply Y; clear Y X)))
  exact no _ (by simp [PrSpec.explainM,hft]) hk.below hR
 | true=>
 repeat (any_goals (first
 | (with_reducible first|refine zC ?_|refine yC ?_|refine yM ?_)
 | ((with_reducible refine oG fun X Y=>?_); simp [go_sem,hk.cells]; apply Y; clear Y X)))
 have hvm':=hvm
 unfold verifyM at hvm'
 rw [bA,bA] at hvm'
 have hgm:=hvm'.1.1
 have hsm:=hvm'.1.2
 refine chosen_ok s (hs'.next hk.below) (hg'.next (atOf_stay cls_vstay) hk.below) (hk0'.next (atOf_stay knws_vstay) hk.below) hgm hft (fun gb B w5 h5 hB5 hO5=>?_)
 have hk:=hk.next h5
 have hR:=hR.next h5
 have hbr:=chosen_rows hgm hft hO5
 cases hch:(chosenL s goal know).2 with
 | false=>
  repeat (any_goals (first
  | (with_reducible refine yL ?_)
  | ((with_reducible refine oG fun X Y=>?_); simp [go_sem]; apply Y; clear Y X)))
  exact no _ (by simp [PrSpec.explainM,hch]) hk.below hR
 | true=>
 iterate 5 (any_goals (first
 | (with_reducible refine yM ?_)
 | ((with_reducible refine oG fun X Y=>?_); simp [go_sem]; apply Y; clear Y X)))
 refine arr_alloc al_nse (fun b16 w7 h7 hb16 hh7=>?_)
 refine arr_store sz_nse (xs:=prfC (.slice none 0 0) (.slice none 0 0)) rfl rfl (prf_one none none 0 0 0 0) hh7 rfl (fun w8 hg8 hh8=>?_)
 have h48:Bw w5 w8:=grown_below h7 hg8 hb16
 have hpr:PrSpec.explainM s goal ctx ds ns know = (explainL s (chosenL s goal know).1 ds ns know,true):=by simp [PrSpec.explainM,hvm,hft,hch]
 rw [hpr] at k
 iterate 1 (any_goals ((with_reducible refine oG fun X Y=>?_); simp [go_sem]; apply Y; clear Y X))
 refine ⟨EoJ (explainL s (chosenL s goal know).1 ds ns know) w8.heap.size b16 w5 goal.length,poMu goal.length,⟨h48,rL,_,_,_,_,_,0,rfl,by omega,.start hh8.lt (by simpa using hh8)⟩,?_⟩
 intro l28 u28 W9 hJ
 exact explain_loop s hs' hk hR hr1w hn' hd' hk0' hbr hgm hft hsm hb16 hh8.lt hJ k
end
end Go.Proofs
namespace Go.Proofs
open Go Go.Sh Tryz
def sh_87 (a0 a1:Value) (K:VK) (w:World):Prop:=
 oM prog (.box 26 (.tmp 0)) 0 [a0] (fun v2 w=>
 kA 69 (fun v4 w=>
 kF 26 0 v2 (fun v6 w=>
 kF 23 2 v6 (fun v7 w=>
 kL 3 v7 (fun v8 w=>
 oM prog (.build 146 #[(0,(.tmp 0)),(1,(.tmp 1))]) 146 [(.int .i64 0),v8] (fun v9 w=>
 kF 26 2 v2 (fun v10 w=>
 kL 3 v10 (fun v11 w=>
 oM prog (.build 146 #[(0,(.tmp 0)),(1,(.tmp 1))]) 146 [(.int .i64 1),v11] (fun v12 w=>
 oM prog (.buildSlice 142 2 #[(0,(.tmp 0)),(1,(.tmp 1))]) 142 [v9,v12] (fun v13 w=>
 oM prog (.build 144 #[(0,(.tmp 0)),(1,(.tmp 1))]) 144 [a1,v13] (fun v14 w=>
 oM prog (.buildSlice 67 1 #[(0,(.tmp 0))]) 67 [v14] (fun v15 w=>
 oM prog (.build 69 #[(0,(.tmp 0)),(1,(.tmp 1))]) 69 [(.int .i64 2),v15] (fun v16 w=>
 kS 69 v4 v16 (fun _ w=>
 ∃ r_14,(do loadVar 69 (← asAddr v4):Sem Value).run prog w = .ok r_14 w ∧ K r_14 w) w) w) w) w) w) w) w) w) w) w) w) w) w) w
theorem sh_87_ok {a0 a1:Value} {K:VK} {w:World} (h:sh_87 a0 a1 K w):callM prog 87 #[a0,a1] K w:=
 calls_of_code (fun _=>0) (fn:=Tryz.f87) (rs:=[.cell 4 69]) Tryz.func87 rfl rfl (by kernel_rfl) (nB rfl) (Eq.mp (by kernel_rfl) h)
def sh_29 (a0 a1:Value) (K:VK) (w:World):Prop:=
 oM prog (.box 32 (.tmp 0)) 0 [a0] (fun v2 w=>
 oM prog (.box 32 (.tmp 0)) 0 [a1] (fun v3 w=>
 kF 32 1 v2 (fun v5 w=>
 kL 30 v5 (fun v6 w=>
 kF 32 1 v3 (fun v7 w=>
 kL 30 v7 (fun v8 w=>
 callM prog 105 #[v6,v8] (fun v9 w=>
 gT v9 (kF 32 0 v2) (fun v11 w=>
 gT v9 (kL 29 v11) (fun v12 w=>
 gT v9 (kF 32 0 v3) (fun v13 w=>
 gT v9 (kL 29 v13) (fun v14 w=>
 gT v9 (callM prog 106 #[v12,v14]) (fun v15 w=>
 kP v9 v15 (.bool false) (fun v16 w=>
 K v16 w) w) w) w) w) w) w) w) w) w) w) w) w) w
theorem sh_29_ok {a0 a1:Value} {K:VK} {w:World} (h:sh_29 a0 a1 K w):callM prog 29 #[a0,a1] K w:=
 calls_of_code (fun _=>0) (fn:=Tryz.f29) (rs:=[.tmp 4]) Tryz.func29 rfl rfl (by kernel_rfl) (nB rfl) (Eq.mp (by kernel_rfl) h)
def sh_36 (a0:Value) (K:VK) (w:World):Prop:=
 loopM [(.bool false),undef,(.int .i64 0)] w (fun J_1 m_2 l_3 u_l_3 w0_l_3=>(fun w=>(
 kN 28 a0 (fun v7 w=>
 kB .lss 3 4 (l_3.getD 2 undef) v7 (fun v8 w=>
 gT v8 (pureM (l_3.getD 2 undef)) (fun v10 w=>
 gT v8 (kB .lss 3 4 v10 (.int .i64 7)) (fun v11 w=>
 kP v8 v11 (.bool false) (fun v12 w=>
 condM v12
 (kI 28 a0 (l_3.getD 2 undef) (fun v17 w=>
 kL 114 v17 (fun v18 w=>
 kN 114 v18 (fun v19 w=>
 kB .gtr 3 4 v19 (.int .i64 6) (fun v20 w=>
 condM v20
 (K (.bool false) w)
 (loopM [(l_3.getD 0 undef),(.int .i64 0)] w (fun J_13 m_14 l_15 u_l_15 w0_l_15=>(fun w=>(
 kI 28 a0 (l_3.getD 2 undef) (fun v24 w=>
 kL 114 v24 (fun v25 w=>
 kN 114 v25 (fun v26 w=>
 kB .lss 3 4 (l_15.getD 1 undef) v26 (fun v27 w=>
 condM v27
 (kI 28 a0 (l_3.getD 2 undef) (fun v32 w=>
 kL 114 v32 (fun v33 w=>
 kI 114 v33 (l_15.getD 1 undef) (fun v35 w=>
 kF 113 1 v35 (fun v36 w=>
 kL 24 v36 (fun v37 w=>
 kN 24 v37 (fun v38 w=>
 kB .gtr 3 4 v38 (.int .i64 8) (fun v39 w=>
 condM v39
 (K (.bool false) w)
 (kB .add 3 3 (l_15.getD 1 undef) (.int .i64 1) (fun v29 w=>
 J_13 [(l_15.getD 0 undef),v29] w ∧ m_14 [(l_15.getD 0 undef),v29] w < m_14 l_15 w0_l_15) w)) w) w) w) w) w) w) w)
 (kB .add 3 3 (l_3.getD 2 undef) (.int .i64 1) (fun v14 w=>
 J_1 [(l_15.getD 0 undef),(l_15.getD 1 undef),v14] w ∧ m_2 [(l_15.getD 0 undef),(l_15.getD 1 undef),v14] w < m_2 l_3 w0_l_3) w)) w) w) w) w)) w0_l_15))) w) w) w) w)
 (kN 28 a0 (fun v41 w=>
 kB .leq 3 4 v41 (.int .i64 6) (fun v42 w=>
 K v42 w) w) w)) w) w) w) w) w)) w0_l_3)
theorem sh_36_ok {a0:Value} {K:VK} {w:World} (h:sh_36 a0 K w):callM prog 36 #[a0] K w:=
 calls_of_code (fun _=>0) (fn:=Tryz.f36) (rs:=[.tmp 2]) Tryz.func36 rfl rfl (by kernel_rfl) (nB rfl) (Eq.mp (by kernel_rfl) h)
def sh_16 (a0:Value) (K:VK) (w:World):Prop:=
 oM prog (.box 32 (.tmp 0)) 0 [a0] (fun v1 w=>
 kF 32 0 v1 (fun v3 w=>
 kL 29 v3 (fun v4 w=>
 callM prog 88 #[v4] (fun v5 w=>
 gT v5 (kF 32 1 v1) (fun v7 w=>
 gT v5 (kL 30 v7) (fun v8 w=>
 gT v5 (callM prog 89 #[v8]) (fun v9 w=>
 kP v5 v9 (.bool false) (fun v10 w=>
 K v10 w) w) w) w) w) w) w) w) w
theorem sh_16_ok {a0:Value} {K:VK} {w:World} (h:sh_16 a0 K w):callM prog 16 #[a0] K w:=
 calls_of_code (fun _=>0) (fn:=Tryz.f16) (rs:=[.tmp 2]) Tryz.func16 rfl rfl (by kernel_rfl) (nB rfl) (Eq.mp (by kernel_rfl) h)
def sh_15 (a0 a1 a2 a3:Value) (K:VK) (w:World):Prop:=
 oM prog (.box 26 (.tmp 0)) 0 [a0] (fun v4 w=>
 kL 26 v4 (fun v9 w=>
 callM prog 50 #[v9,a1] (fun v11 w=>
 gT v11 (pureM a2) (fun v13 w=>
 gT v11 (kN 9 v13) (fun v14 w=>
 gT v11 (kB .leq 3 4 v14 (.int .i64 100)) (fun v15 w=>
 kP v11 v15 (.bool false) (fun v16 w=>
 gT v16 (pureM a3) (fun v18 w=>
 gT v16 (callM prog 36 #[v18]) (fun v19 w=>
 kP v16 v19 (.bool false) (fun v20 w=>
 K v20 w) w) w) w) w) w) w) w) w) w) w
theorem sh_15_ok {a0 a1 a2 a3:Value} {K:VK} {w:World} (h:sh_15 a0 a1 a2 a3 K w):callM prog 15 #[a0,a1,a2,a3] K w:=
 calls_of_code (fun _=>0) (fn:=Tryz.f15) (rs:=[.tmp 8]) Tryz.func15 rfl rfl (by kernel_rfl) (nB rfl) (Eq.mp (by kernel_rfl) h)
def sh_14 (K:VK) (w:World):Prop:=
 callM prog 86 #[] (fun v16 w=>
 kA 26 (fun v1 w=>
 kS 26 v1 v16 (fun _ w=>
 kL 26 v1 (fun v17 w=>
 callM prog 87 #[v17,(.int .i64 16)] (fun v18 w=>
 kA 69 (fun v2 w=>
 kS 69 v2 v18 (fun _ w=>
 kL 26 v1 (fun v19 w=>
 callM prog 21 #[v19] (fun v20 w=>
 kU v20 (fun v21 w=>
 gF v21 (kL 26 v1) (fun v23 w=>
 gF v21 (callM prog 44 #[v23,(.int .i64 3),(.int .i64 2)]) (fun v24 w=>
 gF v21 (kC .neq 3 16 4 v24) (fun v25 w=>
 kP v21 (.bool true) v25 (fun v26 w=>
 gF v26 (kL 26 v1) (fun v28 w=>
 gF v26 (callM prog 44 #[v28,(.int .i64 14),(.int .i64 (-9))]) (fun v29 w=>
 gF v26 (kC .neq 3 16 4 v29) (fun v30 w=>
 kP v26 (.bool true) v30 (fun v31 w=>
 gF v31 (kL 26 v1) (fun v33 w=>
 gF v31 (kL 69 v2) (fun v34 w=>
 gF v31 (oM prog (.buildSlice 24 2 #[(0,(.tmp 0)),(1,(.tmp 1))]) 24 [(.int .i64 3),(.int .i64 2)]) (fun v35 w=>
 gF v31 (callM prog 41 #[v33,v34,v35]) (fun v36 w=>
 gF v31 (kU v36) (fun v37 w=>
 kP v31 (.bool true) v37 (fun v38 w=>
 gF v38 (kL 26 v1) (fun v40 w=>
 gF v38 (kL 69 v2) (fun v41 w=>
 gF v38 (oM prog (.buildSlice 24 2 #[(0,(.tmp 0)),(1,(.tmp 1))]) 24 [(.int .i64 2),(.int .i64 0)]) (fun v42 w=>
 gF v38 (callM prog 41 #[v40,v41,v42]) (fun v43 w=>
 gF v38 (kU v43) (fun v44 w=>
 kP v38 (.bool true) v44 (fun v45 w=>
 gF v45 (kL 26 v1) (fun v47 w=>
 gF v45 (kL 69 v2) (fun v48 w=>
 gF v45 (oM prog (.buildSlice 24 2 #[(0,(.tmp 0)),(1,(.tmp 1))]) 24 [(.int .i64 2),(.int .i64 1)]) (fun v49 w=>
 gF v45 (callM prog 41 #[v47,v48,v49]) (fun v50 w=>
 kP v45 (.bool true) v50 (fun v51 w=>
 condM v51
 (K (.bool false) w)
 (kL 26 v1 (fun v52 w=>
 kL 69 v2 (fun v53 w=>
 oM prog (.buildSlice 24 2 #[(0,(.tmp 0)),(1,(.tmp 1))]) 24 [(.int .i64 4),(.int .i64 2)] (fun v54 w=>
 callM prog 63 #[v52,v53,(.int .i64 1),v54] (fun v55 w=>
 kL 26 v1 (fun v57 w=>
 kL 69 v2 (fun v58 w=>
 oM prog (.buildSlice 24 2 #[(0,(.tmp 0)),(1,(.tmp 1))]) 24 [(.int .i64 4),(.int .i64 2)] (fun v59 w=>
 oM prog (.buildSlice 24 2 #[(0,(.tmp 0)),(1,(.tmp 1))]) 24 [(.int .i64 10),(.int .i64 6)] (fun v60 w=>
 callM prog 65 #[v57,v58,(.int .i64 1),v59,(.int .i64 3),v60] (fun v61 w=>
 kE 0 24 v61 (fun v62 w=>
 kE 1 4 v61 (fun v63 w=>
 oM prog (.buildSlice 24 1 #[(0,(.tmp 0))]) 24 [(.int .i64 4)] (fun v65 w=>
 callM prog 62 #[v55,v65] (fun v66 w=>
 kU v66 (fun v67 w=>
 gF v67 (pureM v63) (fun v69 w=>
 gF v67 (kU v69) (fun v70 w=>
 kP v67 (.bool true) v70 (fun v71 w=>
 gF v71 (pureM v62) (fun v73 w=>
 gF v71 (oM prog (.buildSlice 24 2 #[(0,(.tmp 0)),(1,(.tmp 1))]) 24 [(.int .i64 3),(.int .i64 2)]) (fun v74 w=>
 gF v71 (callM prog 62 #[v73,v74]) (fun v75 w=>
 gF v71 (kU v75) (fun v76 w=>
 kP v71 (.bool true) v76 (fun v77 w=>
 condM v77
 (K (.bool false) w)
 (heldM w (fun C_56 w=>(((true:Bool) = true) ∧ (jL 69 v2 C_56 (fun v78=>
 jL 26 v1 C_56 (fun v79=>
 ∃ S_59:World → WK,∃ R_60:VK,(∀ v w w_1,S_59 w w_1 → R_60 v w → R_60 v w_1) ∧
 (∀ w,C_56 w → (callM prog 87 #[v79,(.int .i64 3)] (fun v w_1=>C_56 w_1 ∧ S_59 w w_1 ∧ R_60 v w_1) w)) ∧
 (∀ w,C_56 w → ∀ v80,R_60 v80 w → (
 oM prog (.buildSlice 63 2 #[(0,(.tmp 0)),(1,(.tmp 1))]) 63 [v78,v80] (fun v81 w=>
 oM prog (.build 65 #[(0,(.tmp 0)),(1,(.tmp 1))]) 65 [(.int .i64 1),v81] (fun v82 w=>
 oM prog (.buildSlice 27 1 #[(0,(.tmp 0))]) 27 [v82] (fun v83 w=>
 oM prog (.buildSlice 24 2 #[(0,(.tmp 0)),(1,(.tmp 1))]) 24 [(.int .i64 3),(.int .i64 2)] (fun v84 w=>
 oM prog (.build 113 #[(0,(.tmp 0)),(1,(.tmp 1))]) 113 [(.bool true),v84] (fun v85 w=>
 oM prog (.build 113 #[]) 113 [] (fun v86 w=>
 oM prog (.buildSlice 114 2 #[(0,(.tmp 0)),(1,(.tmp 1))]) 114 [v85,v86] (fun v87 w=>
 oM prog (.buildSlice 28 1 #[(0,(.tmp 0))]) 28 [v87] (fun v88 w=>
 oM prog (.buildSlice 24 2 #[(0,(.tmp 0)),(1,(.tmp 1))]) 24 [(.int .i64 5),(.int .i64 6)] (fun v89 w=>
 oM prog (.buildSlice 24 2 #[(0,(.tmp 0)),(1,(.tmp 1))]) 24 [(.int .i64 7),(.int .i64 8)] (fun v90 w=>
 oM prog (.buildSlice 30 2 #[(0,(.tmp 0)),(1,(.tmp 1))]) 30 [v89,v90] (fun v91 w=>
 oM prog (.buildSlice 29 1 #[(0,(.tmp 0))]) 29 [v91] (fun v92 w=>
 oM prog (.buildSlice 24 2 #[(0,(.tmp 0)),(1,(.tmp 1))]) 24 [(.int .i64 0),(.int .i64 9)] (fun v93 w=>
 oM prog (.buildSlice 30 1 #[(0,(.tmp 0))]) 30 [v93] (fun v94 w=>
 oM prog (.build 32 #[(0,(.tmp 0)),(1,(.tmp 1))]) 32 [v92,v94] (fun v95 w=>
 kA 32 (fun v8 w=>
 kS 32 v8 v95 (fun _ w=>
 kL 26 v1 (fun v97 w=>
 kL 32 v8 (fun v100 w=>
 callM prog 18 #[v97,v83,(.string ⟨#[104,101,114,101]⟩),v88,v100] (fun v101 w=>
 kE 0 34 v101 (fun v102 w=>
 kE 1 39 v101 (fun v103 w=>
 kA 34 (fun v9 w=>
 kS 34 v9 v102 (fun _ w=>
 oM prog (.buildSlice 24 2 #[(0,(.tmp 0)),(1,(.tmp 1))]) 24 [(.int .i64 3),(.int .i64 3)] (fun v104 w=>
 oM prog (.build 113 #[(0,(.tmp 0)),(1,(.tmp 1))]) 113 [(.bool true),v104] (fun v105 w=>
 oM prog (.build 113 #[]) 113 [] (fun v106 w=>
 oM prog (.buildSlice 114 2 #[(0,(.tmp 0)),(1,(.tmp 1))]) 114 [v105,v106] (fun v107 w=>
 oM prog (.buildSlice 28 1 #[(0,(.tmp 0))]) 28 [v107] (fun v108 w=>
 kL 26 v1 (fun v110 w=>
 kL 32 v8 (fun v113 w=>
 callM prog 18 #[v110,v83,(.string ⟨#[104,101,114,101]⟩),v108,v113] (fun v114 w=>
 kE 0 34 v114 (fun v115 w=>
 kE 1 39 v114 (fun v116 w=>
 kA 34 (fun v12 w=>
 kS 34 v12 v115 (fun _ w=>
 kL 26 v1 (fun v118 w=>
 kL 34 v9 (fun v120 w=>
 callM prog 27 #[v118,v83,(.string ⟨#[104,101,114,101]⟩),v120,v88] (fun v122 w=>
 kE 0 32 v122 (fun v123 w=>
 kE 1 4 v122 (fun v124 w=>
 kA 32 (fun v14 w=>
 kS 32 v14 v123 (fun _ w=>
 kC .eql 39 0 4 v103 (fun v126 w=>
 gT v126 (pureM v116) (fun v128 w=>
 gT v126 (kC .eql 39 13 4 v128) (fun v129 w=>
 kP v126 v129 (.bool false) (fun v130 w=>
 gT v130 (kL 26 v1) (fun v132 w=>
 gT v130 (pureM v83) (fun v133 w=>
 gT v130 (kL 34 v9) (fun v134 w=>
 gT v130 (callM prog 30 #[v132,v133,(.string ⟨#[104,101,114,101]⟩),v134]) (fun v135 w=>
 kP v130 v135 (.bool false) (fun v136 w=>
 gT v136 (pureM v124) (fun v138 w=>
 kP v136 v138 (.bool false) (fun v139 w=>
 gT v139 (kL 32 v8) (fun v141 w=>
 gT v139 (kL 32 v14) (fun v142 w=>
 gT v139 (callM prog 29 #[v141,v142]) (fun v143 w=>
 kP v139 v143 (.bool false) (fun v144 w=>
 K v144 w) w) w) w) w) w) w) w) w) w) w) w) w) w) w) w) w) w) w) w) w) w) w) w) w) w) w) w) w) w) w) w) w) w) w) w) w) w) w) w) w) w) w) w) w) w) w) w) w) w) w) w) w) w) w) w) w) w) w))))))))) w) w) w) w) w) w) w) w) w) w) w) w) w) w) w) w) w) w) w) w) w) w)) w) w) w) w) w) w) w) w) w) w) w) w) w) w) w) w) w) w) w) w) w) w) w) w) w) w) w) w) w) w) w) w) w) w) w
theorem sh_14_ok {K:VK} {w:World} (h:sh_14 K w):callM prog 14 #[] K w:=
 calls_of_code (fun _=>.free [0,1] [2] [3,4,5,6]) (fn:=Tryz.f14) (rs:=[.tmp 0]) Tryz.func14 rfl rfl (by kernel_rfl) (nB rfl) (Eq.mp (by kernel_rfl) h)
def held_65_40 (J_36:List Value → World → Prop) (a3 a5:Value) (l_38:List Value) (m_37:List Value → World → Nat) (v47 v55:Value) (w0_l_38 w:World):Prop:=
 heldM w (fun C_40 w=>(((true:Bool) = true) ∧ (pureH (l_38.getD 1 undef) C_40 (fun v63=>
 pureH v47 C_40 (fun v64=>
 pureH v47 C_40 (fun v65=>
 pureH a3 C_40 (fun v66=>
 pureH (l_38.getD 2 undef) C_40 (fun v67=>
 jI 24 v66 v67 C_40 (fun v68=>
 jL 3 v68 C_40 (fun v69=>
 pureH a5 C_40 (fun v70=>
 pureH (l_38.getD 2 undef) C_40 (fun v71=>
 jI 24 v70 v71 C_40 (fun v72=>
 jL 3 v72 C_40 (fun v73=>
 pureH v55 C_40 (fun v75=>
 ∃ S_53:World → WK,∃ R_54:VK,(∀ v w w_1,S_53 w w_1 → R_54 v w → R_54 v w_1) ∧
 (∀ w,C_40 w → (callM prog 48 #[v65,v69,v73] (fun v w_1=>C_40 w_1 ∧ S_53 w w_1 ∧ R_54 v w_1) w)) ∧
 (∃ R_55:VK,(∀ v w w_1,S_53 w w_1 → R_55 v w → R_55 v w_1) ∧
 (∀ w,C_40 w → ∀ v74,R_54 v74 w → (callM prog 43 #[v64,v74,v75] (fun v w_1=>C_40 w_1 ∧ S_53 w w_1 ∧ R_55 v w_1) w)) ∧
 (∃ R_57:VK,(∀ v w w_1,S_53 w w_1 → R_57 v w → R_57 v w_1) ∧
 (∀ w,C_40 w → ∀ v76,R_55 v76 w → (oM prog (.buildSlice 24 1 #[(0,(.tmp 0))]) 24 [v76] (fun v w_1=>C_40 w_1 ∧ S_53 w w_1 ∧ R_57 v w_1) w)) ∧
 (∀ w,C_40 w → ∀ v74,R_54 v74 w → ∀ v76,R_55 v76 w → ∀ v77,R_57 v77 w → (
 oM prog (.call (Go.Call.mk (.builtin .append) #[(.tmp 0),(.tmp 1)] #[24,24])) 24 [v63,v77] (fun v78 w=>
 kB .add 3 3 (l_38.getD 2 undef) (.int .i64 1) (fun v79 w=>
 J_36 [(l_38.getD 2 undef),v78,v79] w ∧ m_37 [(l_38.getD 2 undef),v78,v79] w < m_37 l_38 w0_l_38) w) w)))))))))))))))))))
def held_65_3 (K:VK) (a2 a3 a4 a5 v6 v7:Value) (w:World):Prop:=
 heldM w (fun C_3 w=>(((true:Bool) = true) ∧ (jL 26 v6 C_3 (fun v21=>
 jL 69 v7 C_3 (fun v22=>
 pureH a2 C_3 (fun v23=>
 pureH a3 C_3 (fun v24=>
 jL 26 v6 C_3 (fun v26=>
 jL 69 v7 C_3 (fun v27=>
 pureH a4 C_3 (fun v28=>
 pureH a5 C_3 (fun v29=>
 ∃ S_12:World → WK,∃ R_13:VK,(∀ v w w_1,S_12 w w_1 → R_13 v w → R_13 v w_1) ∧
 (∀ w,C_3 w → (callM prog 63 #[v21,v22,v23,v24] (fun v w_1=>C_3 w_1 ∧ S_12 w w_1 ∧ R_13 v w_1) w)) ∧
 (∀ w,C_3 w → ∀ v25,R_13 v25 w → (
 callM prog 63 #[v26,v27,v28,v29] (fun v30 w=>
 kN 24 v25 (fun v32 w=>
 kC .eql 3 0 4 v32 (fun v33 w=>
 gF v33 (pureM v25) (fun v35 w=>
 gF v33 (pureM v30) (fun v36 w=>
 gF v33 (callM prog 117 #[v35,v36]) (fun v37 w=>
 gF v33 (kU v37) (fun v38 w=>
 kP v33 (.bool true) v38 (fun v39 w=>
 gF v39 (pureM a2) (fun v41 w=>
 gF v39 (pureM a4) (fun v42 w=>
 gF v39 (kB .eql 3 4 v41 v42) (fun v43 w=>
 kP v39 (.bool true) v43 (fun v44 w=>
 condM v44
 (K (.tuple #[(.slice none 0 0),(.bool false)]) w)
 (kF 26 0 v6 (fun v45 w=>
 kF 23 1 v45 (fun v46 w=>
 kL 3 v46 (fun v47 w=>
 callM prog 48 #[v47,a2,a4] (fun v53 w=>
 callM prog 143 #[v47,v53] (fun v54 w=>
 kE 0 3 v54 (fun v55 w=>
 kE 1 4 v54 (fun v56 w=>
 oM prog (.buildSlice 24 0 #[]) 24 [] (fun v57 w=>
 kN 24 a3 (fun v59 w=>
 loopM [undef,v57,(.int .i64 0)] w (fun J_36 m_37 l_38 u_l_38 w0_l_38=>(fun w=>(
 kB .lss 3 0 (l_38.getD 2 undef) v59 (fun v61 w=>
 condM v61
 (held_65_40 J_36 a3 a5 l_38 m_37 v47 v55 w0_l_38 w)
 (K (.tuple #[(l_38.getD 1 undef),(.bool true)]) w)) w)) w0_l_38)) w) w) w) w) w) w) w) w) w)) w) w) w) w) w) w) w) w) w) w) w) w)))))))))))))
def sh_65c (a0 a1 a2 a3 a4 a5:Value) (K:VK) (w:World):Prop:=
 oM prog (.box 26 (.tmp 0)) 0 [a0] (fun v6 w=>
 oM prog (.box 69 (.tmp 0)) 0 [a1] (fun v7 w=>
 held_65_3 K a2 a3 a4 a5 v6 v7 w) w) w
theorem sh_65c_ok {a0 a1 a2 a3 a4 a5:Value} {K:VK} {w:World} (h:sh_65c a0 a1 a2 a3 a4 a5 K w):callM prog 65 #[a0,a1,a2,a3,a4,a5] K w:=
 calls_of_code (fun i=>bif Nat.beq i 1 then .free [0,1,2,3,5,6,7,8] [4] [9,10,11] else bif Nat.beq i 10 then .free [0,1,2,3,4,5,6,7,8,9,10,12] [11,13,14] [15,16] else 0) (fn:=Tryz.f65) (rs:=[.tmp 12,.tmp 13]) Tryz.func65 rfl rfl (by kernel_rfl) (nB rfl) (Eq.mp (by kernel_rfl) h)
end Go.Proofs
namespace Go.Proofs
open Go Go.Sh Go.RowKit FdSpec TkSpec CodeSpec PrSpec
section
variable {K:VK} {w w' w0 W:World} {L:List (Addr × Value)}
def FewC (c:Clm):Prop:=c.eqs.length ≤ 4 ∧ ∀ e ∈ c.eqs,e.terms.length ≤ 6
def FcJ (l:List Eqn) (w0:World) (L:List (Addr × Value)) (vs:List Value) (w':World):Prop:=Kn w0 L w' ∧ ∃ (u:Value) (i:Nat),vs = [u,.int .i64 (i:Int)] ∧ i ≤ l.length ∧ i ≤ 5 ∧ ∀ (j:Nat) (y:Eqn),j < i → l[j]? = some y → y.terms.length ≤ 6
theorem FewClaim_ok (c:Clm) {v:Value} (hc:ClmR w c v) (k:∀ w' q,Bw w w' → (q = true → FewC c) → K (.bool q) w'):callM Tryz.prog 54 #[clmV c v] K w:=by
 apply sh_54_ok
 unfold sh_54
 have hc':=hc
 obtain ⟨ad,cc,rfl⟩:=hc.eqs.isSlice
 have hll:=hc'.eqs.len
 refine box_kn (cs:=clmC c (.slice ad c.eqs.length cc)) rfl (.start w) fun b1 W hk hb1 hbb=>?_
 clear hb1 hbb
 refine ⟨FcJ c.eqs w _,(fun vs _=>match vs with | [_,.int _ i]=>c.eqs.length - i.toNat | _=>0),⟨hk,_,0,rfl,by omega,by omega,fun j y h=>by omega⟩,?_⟩
 rintro _ _ w1 ⟨hk,u,i,rfl,hi,hi7,hy⟩
 by_cases hin:¬ (i:Int) < c.eqs.length
 ·by_cases h6:(c.eqs.length:Int) ≤ 4
  ·have hfew:FewC c:=⟨by omega,fun y hm=>by
    obtain ⟨j,hj,rfl⟩:=List.getElem_of_mem hm
    exact hy j _ (by omega) (gE hj)⟩
   by_cases h1:c.vars ≤ 6
   ·repeat (any_goals (first
    | (with_reducible first|refine pureM_in ?_|((refine idGd ?_); first|refine zA ?_|refine zB ?_|refine zD ?_|refine zE ?_)|((refine idPick ?_); first|refine yB ?_|refine yC ?_)|refine yM ?_)
    | ((with_reducible refine oG fun X Y=>?_); simp [go_sem,hk.cells,hin,h6,h1]; apply Y; clear Y X)))
    exact k _ _ hk.below (fun _=>hfew)
   by_cases h2:(120:Int) < c.vars
   ·by_cases h3:c.vars ≤ 130
    ·repeat (any_goals (first
     | (with_reducible first|refine pureM_in ?_|((refine idGd ?_); first|refine zA ?_|refine zB ?_|refine zC ?_)|((refine idPick ?_); first|refine yB ?_|refine yC ?_)|refine yM ?_)
     | ((with_reducible refine oG fun X Y=>?_); simp [go_sem,hk.cells,hin,h6,h1,h2,h3]; apply Y; clear Y X)))
     exact k _ _ hk.below (fun _=>hfew)
    ·repeat (any_goals (first
     | (with_reducible first|refine pureM_in ?_|((refine idGd ?_); first|refine zA ?_|refine zB ?_|refine zC ?_)|((refine idPick ?_); first|refine yB ?_|refine yC ?_)|refine yM ?_)
     | ((with_reducible refine oG fun X Y=>?_); simp [go_sem,hk.cells,hin,h6,h1,h2,h3]; apply Y; clear Y X)))
     exact k _ _ hk.below (fun _=>hfew)
   ·repeat (any_goals (first
    | (with_reducible first|refine pureM_in ?_|((refine idGd ?_); first|refine zA ?_|refine zB ?_|refine zC ?_)|((refine idPick ?_); first|refine yB ?_|refine yC ?_)|refine yM ?_)
    | ((with_reducible refine oG fun X Y=>?_); simp [go_sem,hk.cells,hin,h6,h1,h2]; apply Y; clear Y X)))
    exact k _ _ hk.below (fun _=>hfew)
  ·repeat (any_goals (first
   | (with_reducible first|((refine idGd ?_); first|refine zB ?_|refine zE ?_)|refine yC ?_|refine yM ?_)
   | ((with_reducible refine oG fun X Y=>?_); simp [go_sem,hk.cells,hin,h6]; apply Y; clear Y X)))
   exact k _ _ hk.below (fun h=>by cases h)
 have hin:(i:Int) < c.eqs.length:=by omega
 by_cases h7:¬ (i:Int) < 5
 ·have h6:¬ (c.eqs.length:Int) ≤ 4:=by omega
  repeat (any_goals (first
  | (with_reducible first|refine pureM_in ?_|((refine idGd ?_); first|refine zA ?_|refine zB ?_|refine zE ?_)|((refine idPick ?_); first|refine yB ?_|refine yC ?_)|refine yM ?_)
  | ((with_reducible refine oG fun X Y=>?_); simp [go_sem,hk.cells,hin,h7,h6]; apply Y; clear Y X)))
  exact k w1 _ hk.below (fun h=>by cases h)
 have h7:(i:Int) < 5:=by omega
 obtain ⟨b5,o5,rfl,hb5,v5,c5,c6,i5,_⟩:=hc'.eqs.at (i:=i) (by omega)
 have e5:c.eqs[i]? = some c.eqs[i]:=gE (by omega)
 generalize c.eqs[i] = d at *
 obtain ⟨ad5,cp5,rfl⟩:=i5.isSlice
 by_cases h8:(6:Int) < d.terms.length
 ·repeat (any_goals (first
  | (with_reducible first|refine pureM_in ?_|refine zA ?_|refine yB ?_|refine yL ?_)
  | ((with_reducible refine oG fun X Y=>?_); simp [go_sem,hk.cells,hin,h7,(hk.below.cell hb5).trans c6,h8]; apply Y; clear Y X)))
  exact k w1 _ hk.below (fun h=>by cases h)
 repeat (any_goals (first
 | (with_reducible first|refine pureM_in ?_|refine zA ?_|refine yB ?_|((refine idCond ?_); first|refine yL ?_|refine yM ?_))
 | ((with_reducible refine oG fun X Y=>?_); simp [go_sem,hk.cells,hin,h7,(hk.below.cell hb5).trans c6,h8]; (try simp (disch:=omega) only [wrapI64,wrapU8,wrapU32,wrapU64]); apply Y; clear Y X)))
 refine ⟨⟨hk,_,i + 1,rfl,by omega,by omega,fun j y hj e=>?_⟩,by show c.eqs.length - (((i + 1:Nat):Int)).toNat < c.eqs.length - ((i:Nat):Int).toNat; omega⟩
 by_cases h:j = i
 ·subst h; rw [e5] at e; cases e; omega
 ·exact hy j y (by omega) e
def FewG (l:List Cls):Prop:=l.length ≤ 5 ∧ ∀ c ∈ l,c.claims.length ≤ 5 ∧ ∀ m ∈ c.claims,FewC m
def FgJ (l:List Cls) (w0:World) (L:List (Addr × Value)) (vs:List Value) (w':World):Prop:=Kn w0 L w' ∧ ∃ (u u2:Value) (i:Nat),vs = [u,u2,.int .i64 (i:Int)] ∧ i ≤ l.length ∧ i ≤ 6 ∧ ∀ (j:Nat) (c:Cls),j < i → l[j]? = some c → c.claims.length ≤ 5 ∧ ∀ m ∈ c.claims,FewC m
def FhJ (l:List Clm) (w0:World) (L:List (Addr × Value)) (vs:List Value) (w':World):Prop:=Kn w0 L w' ∧ ∃ (u:Value) (i:Nat),vs = [u,.int .i64 (i:Int)] ∧ i ≤ l.length ∧ ∀ (j:Nat) (y:Clm),j < i → l[j]? = some y → FewC y
theorem Few_ok (s:Stp) (goal:List Cls) {v gv:Value} (hs:SetR w s v) (hg:GoalR w gv goal) (k:∀ w' q,Bw w w' → (q = true → FewG goal ∧ s.bases.length ≤ 9) → K (.bool q) w'):callM Tryz.prog 50 #[stpV s v,gv] K w:=by
 apply sh_50_ok
 unfold sh_50
 have hs':=hs
 obtain ⟨ad,ca,rfl⟩:=hs.ints.isSlice
 have hg':=hg
 obtain ⟨gad,gc,rfl⟩:=hg.isSlice
 have hll:=hg'.len
 refine box_kn (cs:=stpC s (.slice ad s.bases.length ca)) rfl (.start w) fun b1 W hk hb1 hbb=>?_
 clear hb1 hbb
 refine ⟨FgJ goal w _,(fun vs _=>match vs with | [_,_,.int _ i]=>goal.length - i.toNat | _=>0),⟨hk,_,_,0,rfl,by omega,by omega,fun j y h=>by omega⟩,?_⟩
 rintro _ _ w1 ⟨hk,u,u2,i,rfl,hi,hi7,hy⟩
 by_cases hin:¬ (i:Int) < goal.length
 ·by_cases h6:(goal.length:Int) ≤ 5
  ·have hfew:FewG goal:=⟨by omega,fun y hm=>by
    obtain ⟨j,hj,rfl⟩:=List.getElem_of_mem hm
    exact hy j _ (by omega) (gE hj)⟩
   repeat (any_goals (first
   | (with_reducible first|((refine idGd ?_); first|refine zA ?_|refine zB ?_)|refine yC ?_|refine yM ?_)
   | ((with_reducible refine oG fun X Y=>?_); simp [go_sem,hk.cells,hin,h6]; apply Y; clear Y X)))
   refine FewSetup_ok s (hs'.next hk.below) (fun w2 h2=>?_)
   have hk:=hk.next h2
   generalize hq:decide ((s.bases.length:Int) ≤ 9) = q
   repeat (any_goals (with_reducible refine yB ?_))
   refine k _ _ hk.below (fun e=>⟨hfew,?_⟩)
   subst e
   have:=of_decide_eq_true hq
   omega
  ·repeat (any_goals (first
   | (with_reducible first|refine zB ?_|refine yC ?_|refine yM ?_)
   | ((with_reducible refine oG fun X Y=>?_); simp [go_sem,hk.cells,hin,h6]; apply Y; clear Y X)))
   exact k _ _ hk.below (fun h=>by cases h)
 have hin:(i:Int) < goal.length:=by omega
 by_cases h7:¬ (i:Int) < 6
 ·have h6:¬ (goal.length:Int) ≤ 5:=by omega
  repeat (any_goals (first
  | (with_reducible first|refine pureM_in ?_|((refine idGd ?_); first|refine zA ?_|refine zB ?_)|((refine idPick ?_); first|refine yB ?_|refine yC ?_)|refine yM ?_)
  | ((with_reducible refine oG fun X Y=>?_); simp [go_sem,hk.cells,hin,h7,h6]; apply Y; clear Y X)))
  exact k w1 _ hk.below (fun h=>by cases h)
 have h7:(i:Int) < 6:=by omega
 obtain ⟨b5,o5,rfl,hb5,_,_,hcell,v5,rfl,_,i5⟩:=hg'.at (i:=i) (by omega)
 have c1:=hcell 1 _ rfl
 have e5:goal[i]? = some goal[i]:=gE (by omega)
 generalize goal[i] = d at *
 obtain ⟨ad5,cp5,rfl⟩:=i5.isSlice
 have hdl:=i5.len
 have C1:=(hk.below.cell hb5).trans c1
 by_cases h8:(5:Int) < d.claims.length
 ·repeat (any_goals (first
  | (with_reducible first|refine pureM_in ?_|refine zA ?_|refine yB ?_|refine yL ?_)
  | ((with_reducible refine oG fun X Y=>?_); simp [go_sem,hk.cells,hin,h7,C1,h8]; apply Y; clear Y X)))
  exact k w1 _ hk.below (fun h=>by cases h)
 repeat (any_goals (first
 | (with_reducible first|refine pureM_in ?_|refine zA ?_|refine yB ?_|((refine idCond ?_); first|refine yL ?_|refine yM ?_))
 | ((with_reducible refine oG fun X Y=>?_); simp [go_sem,hk.cells,hin,h7,C1,h8]; apply Y; clear Y X)))
 refine ⟨FhJ d.claims w _,(fun vs _=>match vs with | [_,.int _ i]=>d.claims.length - i.toNat | _=>0),⟨hk,_,0,rfl,by omega,fun j y h=>by omega⟩,?_⟩
 rintro _ _ w2 ⟨hk,u3,j,rfl,hj,hyj⟩
 have C1:=(hk.below.cell hb5).trans c1
 by_cases hjn:¬ (j:Int) < d.claims.length
 ·repeat (any_goals (first
  | (with_reducible refine yM ?_)
  | ((with_reducible refine oG fun X Y=>?_); simp [go_sem,hk.cells,hin,h7,C1,hjn]; (try simp (disch:=omega) only [wrapI64,wrapU8,wrapU32,wrapU64]); apply Y; clear Y X)))
  refine ⟨⟨hk,_,_,i + 1,rfl,by omega,by omega,fun j' z hj' e=>?_⟩,by show goal.length - (((i + 1:Nat):Int)).toNat < goal.length - ((i:Nat):Int).toNat; omega⟩
  by_cases h:j' = i
  ·subst h; rw [e5] at e; cases e
   refine ⟨by omega,fun y hm=>?_⟩
   obtain ⟨j',hj',rfl⟩:=List.getElem_of_mem hm
   exact hyj j' _ (by omega) (gE hj')
  ·exact hy j' z (by omega) e
 have hjn:(j:Int) < d.claims.length:=by omega
 obtain ⟨b6,o6,rfl,hb6,_,_,hcell6,v6,rfl,hm⟩:=i5.at (i:=j) (by omega)
 have m0:=hcell6 0 _ rfl
 have m1:=hcell6 1 _ rfl
 simp only [Nat.add_zero] at m0
 have e6:d.claims[j]? = some d.claims[j]:=gE (by omega)
 generalize d.claims[j] = m at *
 have hm':=hm
 obtain ⟨ad6,cp6,rfl⟩:=hm.eqs.isSlice
 repeat (any_goals (first
 | (with_reducible refine yL ?_)
 | ((with_reducible refine oG fun X Y=>?_); simp [go_sem,hk.cells,hin,h7,C1,(hk.below.cell hb6).trans m0,(hk.below.cell hb6).trans m1,hjn]; apply Y; clear Y X)))
 refine FewClaim_ok m (hm'.next hk.below) (fun w3 q h3 hq=>?_)
 have hk:=hk.next h3
 cases q with
 | false=>
  repeat (any_goals (first
  | (with_reducible refine yL ?_)
  | ((with_reducible refine oG fun X Y=>?_); simp [go_sem]; apply Y; clear Y X)))
  exact k _ _ hk.below (fun h=>by cases h)
 | true=>
 repeat (any_goals (first
 | (with_reducible refine yM ?_)
 | ((with_reducible refine oG fun X Y=>?_); simp [go_sem]; (try simp (disch:=omega) only [wrapI64,wrapU8,wrapU32,wrapU64]); apply Y; clear Y X)))
 refine ⟨⟨hk,_,j + 1,rfl,by omega,fun j' y' hj' e=>?_⟩,by show d.claims.length - (((j + 1:Nat):Int)).toNat < d.claims.length - ((j:Nat):Int).toNat; omega⟩
 by_cases h:j' = j
 ·subst h; rw [e6] at e; cases e; exact hq rfl
 ·exact hyj j' y' (by omega) e
end
end Go.Proofs
namespace PrSpec
open FdSpec TkSpec CodeSpec FdPoly
def extL (s:Stp) (a1 a2:List Int) (over:Int):List Int:=(a1.zip a2).map fun p=>mulM s.g.Q (subM s.g.Q p.1 p.2) over
def extractM (s:Stp) (c:Clm) (d1:Int) (a1:List Int) (d2:Int) (a2:List Int):List Int × Bool:=
 if decide ((simM s c d1 a1).length = 0) || !decide (simM s c d1 a1 = simM s c d2 a2) || decide (d1 = d2) then ([],false) else (extL s a1 a2 ((invM s.g.Q (subM s.g.Q d1 d2)).getD 0),true)
def openedM (s:Stp) (c:Int):Clm:=⟨2,[⟨c,[⟨0,s.g.G⟩,⟨1,s.blind⟩]⟩]⟩
end PrSpec
namespace Go.Proofs
open Go Go.Sh Go.RowKit FdSpec TkSpec CodeSpec PrSpec FdPoly
section
variable {K:VK} {w w' w0 W W' We W1 W2:World} {L:List (Addr × Value)} {g n B b i:Nat} {row:Option Nat}
theorem lit_trm2 {T:TypeId} (a b a2 b2:Int) (k:∀ g W,Bw w W → w.heap.size ≤ g → Holds W g 146 [.int .i64 a,.int .i64 b,.int .i64 a2,.int .i64 b2] → K (.slice (some ⟨g,0,none⟩) 2 2) W):oM Tryz.prog (.buildSlice 142 2 #[(0,.tmp 0),(1,.tmp 1)]) T [.agg #[.int .i64 a,.int .i64 b],.agg #[.int .i64 a2,.int .i64 b2]] K w:=by
 rw [oM_buildSlice2]; exact lit_run (by kernel_rfl) k
theorem open_clm {s:Stp} {t:Int} {g1 g2 c1 c2:Nat} {T1 T2:TypeId} (ht:I64 t) (hG:I64 s.g.G) (hb:I64 s.blind) (h1:Holds w g1 T1 [.int .i64 0,.int .i64 s.g.G,.int .i64 1,.int .i64 s.blind]) (h2:Holds w g2 T2 [.int .i64 t,.slice (some ⟨g1,0,none⟩) 2 c1]):ClmR w (openedM s t) (.slice (some ⟨g2,0,none⟩) 1 c2):=by
 refine ⟨by show I64 2; unfold I64; decide,⟨⟨_,c2,rfl,.inr ⟨g2,0,rfl,h2.lt,fun i hi=>?_⟩⟩,by simp [openedM]⟩⟩
 obtain rfl:i = 0:=by simpa [openedM] using hi
 refine ⟨_,?_,?_,⟨⟨_,c1,rfl,.inr ⟨g1,0,rfl,h1.lt,fun i hi=>?_⟩⟩,by simp [openedM]⟩,ht⟩
 ·rw [cell_of_block h2]; simp [openedM]
 ·rw [cell_of_block h2]; simp [openedM]
 ·match i,hi with
  | 0,_=>
   refine ⟨?_,?_,?_,hG⟩
   ·rw [cell_of_block h1]; simp [openedM]
   ·rw [cell_of_block h1]; simp [openedM]
   ·simp [openedM,I64]
  | 1,_=>
   refine ⟨?_,?_,?_,hb⟩
   ·rw [cell_of_block h1]; simp [openedM]
   ·rw [cell_of_block h1]; simp [openedM]
   ·simp [openedM,I64]
  | i + 2,h=>exact absurd h (by simp [openedM])
theorem opened_ok (s:Stp) (t:Int) {sv:Value} (hs:SetR w s sv) (ht:I64 t) (k:∀ w' v,Bw w w' → ClmF w w' (openedM s t) v → K v w'):callM Tryz.prog 87 #[stpV s sv,.int .i64 t] K w:=by
 apply sh_87_ok
 unfold sh_87
 have hs':=hs
 obtain ⟨ad,c,rfl⟩:=hs.ints.isSlice
 refine box_kn (cs:=stpC s (.slice ad s.bases.length c)) rfl (.start w) fun b1 W hk hb1 hbb=>?_
 refine arr_alloc al_clm (fun g2 w2 h2 hg2 hh=>?_)
 have hk:=hk.next h2
 have hglt:=hh.lt
 have hW:=hb1.size
 have h2s:=h2.size
 iterate 7 (any_goals ((with_reducible refine oG fun X Y=>?_); simp [go_sem,hk.cells]; apply Y; clear Y X))
 refine lit_trm2 _ _ _ _ (fun g3 w3 h3 hg3 hh3=>?_)
 iterate 1 (any_goals ((with_reducible refine oG fun X Y=>?_); simp [go_sem]; apply Y; clear Y X))
 refine lit_eqn _ _ _ _ (fun g4 w4 h4 hg4 hh4=>?_)
 iterate 1 (any_goals ((with_reducible refine oG fun X Y=>?_); simp [go_sem]; apply Y; clear Y X))
 have hh3:=hh3.next h4
 have hh:=(hh.next h3).next h4
 refine arr_store sz_clm (xs:=[.int .i64 2,.slice (some ⟨g4,0,none⟩) 1 1]) rfl rfl (clm_one 2 _ 1 1) hh rfl (fun w5 hg5 hh5=>?_)
 have hh3:=hh3.other hg5 (by omega)
 have hh4:=hh4.other hg5 (by have:=h3.size; omega)
 have hb:=(hk.next h3).next h4 |>.below
 have hgg:w.heap.size ≤ g2:=by omega
 refine arr_ret hh5 un_clm (by kernel_rfl) (by kernel_rfl) (k _ _ (grown_below hb hg5 hgg) ⟨some ⟨g4,0,none⟩,1,rfl,?_⟩)
 have h3s:=h3.size
 refine ((hh3.fresh (W:=w) (by omega)).both (hh4.fresh (W:=w) (by omega))).imp ?_
 rintro w' ⟨e1,e2⟩
 exact open_clm ht hs'.grp.2.2 hs'.blind e1 e2
theorem SameNoise_ok {dv av dv2 av2:Value} {d d2:L2} {a a2:L3} (hd:ListsR w dv d) (ha:NumsR w av a) (hd2:ListsR w dv2 d2) (ha2:NumsR w av2 a2) (k:∀ w',Bw w w' → K (.bool (decide (d = d2) && decide (a = a2))) w'):callM Tryz.prog 29 #[prfV av dv,prfV av2 dv2] K w:=by
 apply sh_29_ok
 unfold sh_29
 have hd':=hd
 have ha':=ha
 have hd2':=hd2
 have ha2':=ha2
 obtain ⟨ad1,c1,rfl⟩:=hd.isSlice
 obtain ⟨ad2,c2,rfl⟩:=ha.isSlice
 obtain ⟨ad3,c3,rfl⟩:=hd2.isSlice
 obtain ⟨ad4,c4,rfl⟩:=ha2.isSlice
 refine box_kn (cs:=prfC (.slice ad2 a.length c2) (.slice ad1 d.length c1)) rfl (.start w) fun b1 W hk hb1 hbb=>?_
 refine box_kn (cs:=prfC (.slice ad4 a2.length c4) (.slice ad3 d2.length c3)) rfl hk fun b2 W2 hk hb2 hbb=>?_
 clear hb1 hb2 hbb
 repeat (any_goals ((with_reducible refine oG fun X Y=>?_); simp [go_sem,hk.cells]; apply Y; clear Y X))
 refine SameLists_ok (hd'.next (atOf_stay ints_stay) hk.below) (hd2'.next (atOf_stay ints_stay) hk.below) (fun w3 h3=>?_)
 have hk:=hk.next h3
 by_cases hx:d = d2
 ·rw [decide_eq_true hx]
  rw [decide_eq_true hx,bT] at k
  repeat (any_goals (first
  | (with_reducible refine zA ?_)
  | ((with_reducible refine oG fun X Y=>?_); simp [go_sem,hk.cells]; apply Y; clear Y X)))
  refine SameNums_ok (ha'.next (atOf_stay lists_vstay) hk.below) (ha2'.next (atOf_stay lists_vstay) hk.below) (fun w4 h4=>?_)
  have hk:=hk.next h4
  repeat (any_goals (with_reducible refine yB ?_))
  exact k _ hk.below
 ·rw [decide_eq_false hx]
  rw [decide_eq_false hx,bF] at k
  repeat (any_goals (with_reducible first|refine zB ?_|refine yC ?_))
  exact k _ hk.below
theorem commits_I64 (s:Stp) (c:Clm) (d:Int) (a:List Int):∀ x ∈ commitsM s c d a,I64 x:=by
 intro x hx
 unfold commitsM at hx
 obtain ⟨e,_,rfl⟩:=List.mem_map.1 hx
 exact overG_I64 _ _ _
theorem Simulate_ok (s:Stp) (c:Clm) (dare:Int) (an:List Int) {sv cv av:Value} (hs:SetR w s sv) (hc:ClmR w c cv) (hd:I64 dare) (ha:Ints w av an)
  (k:∀ v w',Bw w w' → Ints w' v (simM s c dare an) → K v w'):callM Tryz.prog 63 #[stpV s sv,clmV c cv,.int .i64 dare,av] K w:=by
 apply sh_63_ok
 unfold sh_63
 have hs':=hs
 have hc':=hc
 obtain ⟨ad,cc,rfl⟩:=hs.ints.isSlice
 obtain ⟨ead,ec,rfl⟩:=hc.eqs.isSlice
 refine box_kn (cs:=stpC s (.slice ad s.bases.length cc)) rfl (.start w) fun b1 W hk hb1 hbb=>?_
 refine box_kn (cs:=clmC c (.slice ead c.eqs.length ec)) rfl hk fun b2 W hk hb2 hbb2=>?_
 clear hb1 hb2
 have no:simM s c dare an = [] → ∀ w',Bw w w' → K (.slice none 0 0) w':=fun e w' h=>by
  have:=k (.slice none 0 0) w' h
  rw [e] at this
  exact this (Ints.nil _)
 repeat (any_goals ((with_reducible refine oG fun X Y=>?_); simp [go_sem,hk.cells]; apply Y; clear Y X))
 refine ValidSetup_ok s (hs'.next hk.below) (fun w2 h2=>?_)
 have hk:=hk.next h2
 cases hv:validS s with
 | false=>
  repeat (any_goals (first
  | (with_reducible first|refine zD ?_|refine yB ?_|refine yL ?_)
  | ((with_reducible refine oG fun X Y=>?_); simp [go_sem]; apply Y; clear Y X)))
  exact no (by simp [simM,hv]) _ hk.below
 | true=>
 repeat (any_goals (first
 | (with_reducible refine zC ?_)
 | ((with_reducible refine oG fun X Y=>?_); simp [go_sem,hk.cells]; apply Y; clear Y X)))
 refine validClaim_ok s c (hs'.next hk.below) (hc'.next hk.below) (fun w2 h2=>?_)
 have hk:=hk.next h2
 cases hcm:claimM s c with
 | false=>
  repeat (any_goals (first
  | (with_reducible first|((refine idGd ?_); first|refine zC ?_|refine zD ?_)|((refine idPick ?_); first|refine yB ?_|refine yC ?_)|refine yL ?_)
  | ((with_reducible refine oG fun X Y=>?_); simp [go_sem]; apply Y; clear Y X)))
  exact no (by simp [simM,hcm]) _ hk.below
 | true=>
 repeat (any_goals (first
 | (with_reducible first|refine pureM_in ?_|refine zC ?_|refine yC ?_)
 | ((with_reducible refine oG fun X Y=>?_); simp [go_sem,hk.cells]; apply Y; clear Y X)))
 refine exponent_ok s dare (hs'.next hk.below) (fun w2 h2=>?_)
 have hk:=hk.next h2
 cases hem:exponentM s dare with
 | false=>
  repeat (any_goals (first
  | (with_reducible first|((refine idGd ?_); first|refine zC ?_|refine zD ?_)|((refine idPick ?_); first|refine yB ?_|refine yC ?_)|refine yL ?_)
  | ((with_reducible refine oG fun X Y=>?_); simp [go_sem]; apply Y; clear Y X)))
  exact no (by simp [simM,hem]) _ hk.below
 | true=>
 repeat (any_goals (first
 | (with_reducible first|refine pureM_in ?_|refine zC ?_|refine yC ?_)
 | ((with_reducible refine oG fun X Y=>?_); simp [go_sem,hk.cells]; apply Y; clear Y X)))
 refine exponents_ok s c.vars (hs'.next hk.below) (ha.next hk.below) (fun w2 h2=>?_)
 have hk:=hk.next h2
 cases hes:exponentsM s an c.vars with
 | false=>
  repeat (any_goals (first
  | (with_reducible first|refine zC ?_|refine yC ?_|refine yL ?_)
  | ((with_reducible refine oG fun X Y=>?_); simp [go_sem]; apply Y; clear Y X)))
  exact no (by simp [simM,hes]) _ hk.below
 | true=>
 repeat (any_goals (first
 | (with_reducible first|refine zC ?_|refine yC ?_|refine yM ?_)
 | ((with_reducible refine oG fun X Y=>?_); simp [go_sem,hk.cells]; apply Y; clear Y X)))
 have e:simM s c dare an = commitsM s c dare an:=by simp [simM,hv,hcm,hem,hes]
 rw [e] at k
 have hcf:=claim_fit hcm
 have hlen:(an.length:Int) = c.vars:=by
  simp only [exponentsM,bA,dE] at hes
  exact hes.1
 have hcm2:=hcm
 simp only [claimM,bA,dE] at hcm2
 refine commitments_ok s c dare an (hs'.next hk.below) (hc'.next hk.below) hd (ha.next hk.below) (by omega) (fun e he=>?_) (fun v w3 h3 ho=>?_)
 ·have:=hcf e he
  exact ⟨this.1,fun t ht=>by have:=this.2 t ht; omega⟩
 ·skip
  exact k _ _ (hk.below.on h3) (ho.ints (commits_I64 _ _ _ _) (by simp [commitsM]; omega))
theorem mkI0 {T:TypeId} (k:∀ ad c W,Bw w W → OwnI W w.heap.size (.slice ad 0 c) [] → K (.slice ad 0 c) W):oM Tryz.prog (.buildSlice 24 0 #[]) T [] K w:=by
 rw [oM_buildSlice0]
 have e:(Instr.buildSlice 24 0 #[]).run Tryz.prog w = .ok (.slice (some ⟨w.heap.size,0,none⟩) 0 0) (w.alloc (.cells #[] 3)):=by kernel_rfl
 rw [e]
 exact k _ _ _ ((Below.refl _ w).alloc (rL) _) ⟨rfl,.inr ⟨_,0,#[],rfl,rL,heap_alloc_new w _,rL,by decide,rfl,rfl⟩⟩
theorem sim_len {s:Stp} {c:Clm} {d:Int} {a:List Int} (h:¬ (simM s c d a).length = 0):(a.length:Int) = c.vars ∧ c.vars ≤ 120:=by
 unfold simM at h
 by_cases hx:(validS s && claimM s c && exponentM s d && exponentsM s a c.vars) = true
 ·simp only [bA] at hx
  have h1:=hx.2
  have h2:=hx.1.1.2
  simp only [exponentsM,claimM,bA,dE] at h1 h2
  exact ⟨h1.1,h2.1.1.1.2⟩
 ·rw [if_neg hx] at h
  exact absurd rfl h
def EtJ (T:List Int) (w0:World) (vs:List Value) (W:World):Prop:=Bw w0 W ∧ ∃ (u v:Value) (i:Nat),vs = [u,v,.int .i64 (i:Int)] ∧ i ≤ T.length ∧ OwnI W w0.heap.size v (T.take i)
theorem Extract_ok (s:Stp) (c:Clm) (d1:Int) (a1:List Int) (d2:Int) (a2:List Int) {sv cv av av2:Value} (hs:SetR w s sv) (hc:ClmR w c cv) (hd1:I64 d1) (ha1:Ints w av a1) (hd2:I64 d2) (ha2:Ints w av2 a2)
  (k:∀ v w',Bw w w' → Ints w' v (extractM s c d1 a1 d2 a2).1 → K (.tuple #[v,.bool (extractM s c d1 a1 d2 a2).2]) w'):callM Tryz.prog 65 #[stpV s sv,clmV c cv,.int .i64 d1,av,.int .i64 d2,av2] K w:=by
 apply sh_65c_ok
 unfold sh_65c
 have hs':=hs
 have hc':=hc
 have ha1':=ha1
 have ha2':=ha2
 obtain ⟨ad,cc,rfl⟩:=hs.ints.isSlice
 obtain ⟨ead,ec,rfl⟩:=hc.eqs.isSlice
 obtain ⟨aad,ac,rfl⟩:=ha1.isSlice
 obtain ⟨bad,bc,rfl⟩:=ha2.isSlice
 refine box_kn (cs:=stpC s (.slice ad s.bases.length cc)) rfl (.start w) fun b1 W hk hb1 hbb=>?_
 refine box_kn (cs:=clmC c (.slice ead c.eqs.length ec)) rfl hk fun b2 W hk hb2 hbb2=>?_
 clear hb1 hb2
 have no:extractM s c d1 a1 d2 a2 = ([],false) → ∀ w',Bw w w' → K (.tuple #[.slice none 0 0,.bool false]) w':=fun e w' h=>by
  have:=k (.slice none 0 0) w' h
  rw [e] at this
  exact this (Ints.nil _)
 unfold held_65_3
 have hb9:Below W.heap.size W { W with drawn:=W.drawn + 1 }:=.drawn
 have hk9:=hk.next hb9
 refine ⟨Nx { W with drawn:=W.drawn + 1 },bR,rfl,?_⟩
 generalize ({ W with drawn:=W.drawn + 1 }:World) = W9 at hk9 ⊢
 repeat (any_goals (first
 | (with_reducible refine pX ?_)
 | ((with_reducible refine idOH ?_); (with_reducible refine oH_of ⟨_,rfl⟩ (fun W0 hW0=>by (refine oG (fun X Y=>?_)); simp [go_sem,(hk9.next hW0).cells]; (first | exact Y _ _ ⟨rfl,rfl⟩ | exact ⟨by omega,Y _ _ ⟨rfl,rfl⟩⟩)) ?_))))
 refine ⟨Nx,?_⟩
 refine monoR (fun v w'=>Ints w' v (simM s c d1 a1)) (fun v w w1 hS h=>h.next hS) ?_ ?_
 ·intro w1 h1
  exact Simulate_ok s c d1 a1 (hs'.next (hk9.next h1).below) (hc'.next (hk9.next h1).below) hd1 (ha1'.next (hk9.next h1).below) (fun v w2 h2 ho=>⟨h1.on h2,h2,ho⟩)
 rintro w10 h10 v10 hi10
 have hk10:=hk9.next h10
 refine Simulate_ok s c d2 a2 (hs'.next hk10.below) (hc'.next hk10.below) hd2 (ha2'.next hk10.below) (fun v11 w11 h11 hi11=>?_)
 have hk11:=hk10.next h11
 have hi10:=hi10.next h11
 obtain ⟨xad,xc,rfl⟩:=id hi10.isSlice
 obtain ⟨yad,yc,rfl⟩:=id hi11.isSlice
 by_cases h0:simM s c d1 a1 = []
 ·repeat (any_goals (first
  | (with_reducible first|((refine idGd ?_); first|refine zD ?_|((refine idGdD ?_); refine zJ ?_))|((refine idPick ?_); first|refine yB ?_|refine yD ?_)|refine yL ?_)
  | ((with_reducible refine oG fun X Y=>?_); simp [go_sem]; apply Y; clear Y X)))
  exact no (by simp [extractM,h0]) _ hk11.below
 have h0':¬ (simM s c d1 a1).length = 0:=fun e=>h0 (List.eq_nil_of_length_eq_zero e)
 repeat (any_goals (first
 | (with_reducible first|refine pureM_in ?_|refine zC ?_)
 | ((with_reducible refine oG fun X Y=>?_); simp [go_sem,h0]; apply Y; clear Y X)))
 refine Equal_ok hi10 hi11 (fun w12 h12=>?_)
 have hk12:=hk11.next h12
 by_cases heq:simM s c d1 a1 = simM s c d2 a2
 ·rw [decide_eq_true heq]
  by_cases hdd:d1 = d2
  ·repeat (any_goals (first
   | (with_reducible first|refine pureM_in ?_|refine zC ?_|refine yC ?_|refine yN ?_)
   | ((with_reducible refine oG fun X Y=>?_); simp [go_sem]; apply Y; clear Y X)))
   exact no (by simp [extractM,hdd]) _ hk12.below
  ·repeat (any_goals (first
   | (with_reducible first|refine pureM_in ?_|refine zC ?_|refine yC ?_|refine yO ?_)
   | ((with_reducible refine oG fun X Y=>?_); simp [go_sem,hk12.cells]; apply Y; clear Y X)))
   refine Sub_ok _ _ _ ?_
   refine Inv_ok _ _ (fun w13 h13=>?_)
   have hk13:=hk12.next h13
   iterate 2 (any_goals ((with_reducible refine oG fun X Y=>?_); simp [go_sem]; apply Y; clear Y X))
   refine mkI0 (fun oad oc w14 h14 ho14=>?_)
   have hk14:=hk13.next h14
   iterate 1 (any_goals ((with_reducible refine oG fun X Y=>?_); simp [go_sem]; apply Y; clear Y X))
   have hl1:=sim_len h0'
   have hl2:=sim_len (by rw [← heq]; exact h0')
   have hem:extractM s c d1 a1 d2 a2 = (extL s a1 a2 ((invM s.g.Q (subM s.g.Q d1 d2)).getD 0),true):=by unfold extractM; rw [decide_eq_false h0',decide_eq_true heq,decide_eq_false hdd]; rfl
   rw [hem] at k
   generalize (invM s.g.Q (subM s.g.Q d1 d2)).getD 0 = over at *
   have hTl:(extL s a1 a2 over).length = a1.length:=by unfold extL; rw [List.length_map,List.length_zip]; omega
   have hTI:∀ x ∈ extL s a1 a2 over,I64 x:=by
    intro x hx
    unfold extL at hx
    obtain ⟨p,_,rfl⟩:=List.mem_map.1 hx
    exact mulM_I64 _ _ _
   have hTe:∀ i (h1:i < a1.length) (h2:i < a2.length),(extL s a1 a2 over)[i]? = some (mulM s.g.Q (subM s.g.Q a1[i] a2[i]) over):=fun i h1 h2=>by
    unfold extL
    rw [List.getElem?_map,List.getElem?_zip_eq_some (z:=(a1[i],a2[i])) |>.2 ⟨gE h1,gE h2⟩]
    rfl
   generalize extL s a1 a2 over = T at *
   refine ⟨EtJ T w13,(fun vs _=>match vs with | [_,_,.int _ i]=>a1.length - i.toNat | _=>0),⟨h14,_,_,0,rfl,by omega,ho14⟩,?_⟩
   rintro _ _ w15 ⟨h15,u,v,i,rfl,hi,ho⟩
   have hk15:=hk13.next h15
   by_cases hin:i = a1.length
   ·subst hin
    repeat (any_goals (first
    | (with_reducible refine yM ?_)
    | ((with_reducible refine oG fun X Y=>?_); simp [go_sem]; apply Y; clear Y X)))
    rw [List.take_of_length_le (by omega)] at ho
    exact k _ _ hk15.below (ho.ints hTI (by have:=ha1'.len; omega))
   have h1:i < a1.length:=by omega
   have h2:i < a2.length:=by omega
   obtain ⟨bx,ox,rfl,hltx,cellx,_,_⟩:=ha1'.at (i:=i) h1
   obtain ⟨by',oy,rfl,hlty,celly,_,_⟩:=ha2'.at (i:=i) h2
   have hTi:=hTe i h1 h2
   generalize a1[i] = x at *
   generalize a2[i] = y at *
   have hi1:(i:Int) < a1.length:=by omega
   have hi2:(i:Int) < a2.length:=by omega
   repeat (any_goals (first
   | (with_reducible refine yN ?_)
   | ((with_reducible refine oG fun X Y=>?_); simp [go_sem]; apply Y; clear Y X)))
   unfold held_65_40
   have hb9:Below w15.heap.size w15 { w15 with drawn:=w15.drawn + 1 }:=.drawn
   have hk16:=hk15.next hb9
   have ho:=ho.keep hb9
   have h16:=h15.on hb9
   refine ⟨Nx { w15 with drawn:=w15.drawn + 1 },bR,rfl,?_⟩
   generalize ({ w15 with drawn:=w15.drawn + 1 }:World) = W16 at hk16 ho h16 ⊢
   repeat (any_goals (first
   | (with_reducible refine pX ?_)
   | ((with_reducible refine idOH ?_); (with_reducible refine oH_of ⟨_,rfl⟩ (fun W0 hW0=>by (refine oG (fun X Y=>?_)); simp [go_sem,(hk16.next hW0).cells,cellx _ (hk16.next hW0).below,celly _ (hk16.next hW0).below,hi1,hi2]; (first | exact Y _ _ ⟨rfl,rfl⟩ | exact ⟨by omega,Y _ _ ⟨rfl,rfl⟩⟩)) ?_))))
   refine ⟨Nx,?_⟩
   apply monoE
   ·intro w5 h5
    exact Sub_ok _ _ _ ⟨h5,bR,rfl⟩
   apply monoE
   ·rintro w5 h5 _ rfl
    exact Mul_ok _ _ _ (fun w6 h6=>⟨h5.on h6,h6,rfl⟩)
   refine monoR (fun v w'=>Ints w' v [mulM s.g.Q (subM s.g.Q x y) over]) (fun v w w1 hS h=>h.next hS) ?_ ?_
   ·rintro w5 h5 _ rfl
    exact mk1 _ (mulM_I64 _ _ _) (fun v8 W8 h8 hi8=>⟨h5.on h8,h8,hi8⟩)
   rintro w17 h17 _ rfl _ rfl v18 hi18
   refine append1 (ho.keep h17) (Nat.le_trans h16.size h17.size) hi18 (by simp only [List.length_take]; omega) (fun v9 W9 ho9 h9=>?_)
   repeat (any_goals ((with_reducible refine oG fun X Y=>?_); simp [go_sem]; (try simp (disch:=omega) only [wrapI64,wrapU8,wrapU32,wrapU64]); apply Y; clear Y X))
   refine ⟨⟨(h16.on h17).trans h9,_,_,i + 1,rfl,by omega,?_⟩,by show a1.length - (((i + 1:Nat):Int)).toNat < a1.length - ((i:Nat):Int).toNat; omega⟩
   rw [← take_snoc' hTi]
   exact ho9
 ·rw [decide_eq_false heq]
  repeat (any_goals (first
  | (with_reducible first|((refine idGd ?_); first|refine zC ?_|refine zD ?_)|((refine idPick ?_); first|refine yB ?_|refine yC ?_)|refine yL ?_)
  | ((with_reducible refine oG fun X Y=>?_); simp [go_sem]; apply Y; clear Y X)))
  exact no (by simp [extractM,heq]) _ hk12.below
end
end Go.Proofs
namespace PrSpec
open FdSpec TkSpec CodeSpec FdPoly
def here:Bytes:=[104,101,114,101]
def goalE:List Cls:=[⟨1,[openedM ex 16,openedM ex 3]⟩]
def knowE:List (List Knw):=[[⟨true,[3,2]⟩,⟨false,[]⟩]]
def noneE:List (List Knw):=[[⟨true,[3,3]⟩,⟨false,[]⟩]]
def numsE:List (List (List Int)):=[[[5,6],[7,8]]]
def daresE:List (List Int):=[[0,9]]
theorem small_facts:validS ex = true ∧ commitM ex 3 2 = 16 ∧ commitM ex 14 (-9) = 16 ∧ HoldsM ex (openedM ex 16) [3,2] = true ∧ HoldsM ex (openedM ex 16) [2,0] = true ∧ HoldsM ex (openedM ex 16) [2,1] = false ∧
  simM ex (openedM ex 16) 1 [4,2] = [4] ∧ extractM ex (openedM ex 16) 1 [4,2] 3 [10,6] = ([3,2],true) ∧ goalM ex goalE = true ∧ fitsM ex goalE knowE = true ∧ fitsM ex goalE noneE = true ∧ shapedM ex goalE daresE numsE = true ∧
  chosenL ex goalE knowE = ([[true,false]],true) ∧ (chosenL ex goalE noneE).2 = false ∧ zeroL [[true,false]] daresE = true:=by
 refine ⟨?_,?_,?_,?_,?_,?_,?_,?_,?_,?_,?_,?_,?_,?_,?_⟩ <;> decide +kernel
theorem small_prove:(proveM ex goalE here knowE numsE daresE).2 = 0 ∧ proveM ex goalE here noneE numsE daresE = (([],[]),13):=by
 obtain ⟨_,_,_,_,_,_,_,_,h1,h2,h3,h4,h5,h6,h7⟩:=small_facts
 constructor
 ·rw [prove_errs h1 h2 h4,h5]
  simp [h7]
 ·simp [proveM,h1,h3,h4,h6]
end PrSpec
namespace Go.Proofs
open Go Go.Sh Go.RowKit FdSpec TkSpec CodeSpec PrSpec FdPoly
section
variable {K:VK} {w w' w0 W W' We W1 W2:World} {L:List (Addr × Value)} {g n B b i:Nat} {row:Option Nat}
theorem lit_knw2 {T:TypeId} (a a2:Bool) (ad ad2:Option Addr) (n c n2 c2:Nat) (k:∀ g W,Bw w W → w.heap.size ≤ g → Holds W g 113 ([.bool a,.slice ad n c] ++ [.bool a2,.slice ad2 n2 c2]) → K (.slice (some ⟨g,0,none⟩) 2 2) W):oM Tryz.prog (.buildSlice 114 2 #[(0,.tmp 0),(1,.tmp 1)]) T [.agg #[.bool a,.slice ad n c],.agg #[.bool a2,.slice ad2 n2 c2]] K w:=by
 rw [oM_buildSlice2]; exact lit_run (by kernel_rfl) k
theorem lit_ints2 {T:TypeId} (ad ad2:Option Addr) (n c n2 c2:Nat) (k:∀ g W,Bw w W → w.heap.size ≤ g → Holds W g 24 ([.slice ad n c] ++ [.slice ad2 n2 c2]) → K (.slice (some ⟨g,0,none⟩) 2 2) W):oM Tryz.prog (.buildSlice 30 2 #[(0,.tmp 0),(1,.tmp 1)]) T [.slice ad n c,.slice ad2 n2 c2] K w:=by
 rw [oM_buildSlice2]; exact lit_run (by kernel_rfl) k
theorem local_nse {T' T2:TypeId} (ad ad2:Option Addr) (n c n2 c2:Nat) (hk:Kn w0 L w)
  (k:∀ b W,Kn w0 (cellsOf L b 0 (prfC (.slice ad n c) (.slice ad2 n2 c2))) W → Bw w W → w.heap.size ≤ b → K (.pointer (some ⟨b,0,none⟩)) W) :
  oM Tryz.prog (.alloc 32) T' [] (fun v w=>oM Tryz.prog (.store 32 (.tmp 0) (.tmp 1)) T2 [v,prfV (.slice ad n c) (.slice ad2 n2 c2)] (fun _ w=>K v w) w) w:=
 local_kn al_nse rfl sz_nse rfl rfl (prf_one ad ad2 n c n2 c2) hk k
set_option maxHeartbeats 4000000 in
theorem small_ok (hT:DbT w) (hl:Cd.Laid w) (k:∀ w',Bw w w' → K (.bool true) w'):callM Tryz.prog 14 #[] K w:=by
 apply sh_14_ok
 unfold sh_14
 obtain ⟨f1,f2,f3,f4,f5,f6,f7,f8,f9,f10,f11,f12,f13,f14,f15⟩:=small_facts
 obtain ⟨p1,p2⟩:=small_prove
 refine example_ok hT (fun w1 v1 h1 hs=>?_)
 have hs':=hs
 obtain ⟨ad,c,rfl⟩:=hs.ints.isSlice
 refine local_stp ex ad 2 c (.next (.start w) h1) (fun b1 W1 hk hb1 hg1=>?_)
 have hs1:=hs'.next hb1
 repeat (any_goals ((with_reducible refine oG fun X Y=>?_); simp [go_sem,hk.cells]; apply Y; clear Y X))
 refine opened_ok ex 16 hs1 i64lit (fun w2 cv h2 hcl=>?_)
 obtain ⟨cad,cc,rfl,hcl⟩:=hcl
 have hk:=hk.next h2
 have hs1:=hs1.next h2
 have hclm:=hcl.here
 refine local_clm _ _ _ _ hk (fun b2 W3 hk hb3 hg3=>?_)
 have hclm:=hclm.next hb3
 have hs1:=hs1.next hb3
 repeat (any_goals ((with_reducible refine oG fun X Y=>?_); simp [go_sem,hk.cells]; apply Y; clear Y X))
 refine ValidSetup_ok ex hs1 (fun w4 h4=>?_)
 rw [f1]
 have hk:=hk.next h4
 have hclm:=hclm.next h4
 have hs1:=hs1.next h4
 repeat (any_goals (first
 | (with_reducible refine zC ?_)
 | ((with_reducible refine oG fun X Y=>?_); simp [go_sem,hk.cells]; apply Y; clear Y X)))
 refine Commit_ok ex 3 2 hs1 i64lit i64lit (fun w5 h5=>?_)
 rw [f2]
 have hk:=hk.next h5
 have hclm:=hclm.next h5
 have hs1:=hs1.next h5
 repeat (any_goals (first
 | (with_reducible first|refine zC ?_|refine yC ?_)
 | ((with_reducible refine oG fun X Y=>?_); simp [go_sem,hk.cells]; apply Y; clear Y X)))
 refine Commit_ok ex 14 (-9) hs1 i64lit i64lit (fun w5 h5=>?_)
 rw [f3]
 have hk:=hk.next h5
 have hclm:=hclm.next h5
 have hs1:=hs1.next h5
 repeat (any_goals (first
 | ((with_reducible refine mk2 3 2 i64lit i64lit ?_); intro v9 W9 hb9 hi9)
 | (with_reducible first|refine zC ?_|refine yC ?_)
 | ((with_reducible refine oG fun X Y=>?_); simp [go_sem,hk.cells]; apply Y; clear Y X)))
 have hk:=hk.next hb9
 have hclm:=hclm.next hb9
 have hs1:=hs1.next hb9
 refine Holds_ok ex (openedM ex 16) [3,2] hs1 hclm hi9 (fun w6 h6=>?_)
 rw [f4]
 have hk:=hk.next h6
 have hclm:=hclm.next h6
 have hs1:=hs1.next h6
 repeat (any_goals (first
 | ((with_reducible refine mk2 2 0 i64lit i64lit ?_); intro v9 W9 hb9 hi9)
 | (with_reducible first|refine zC ?_|refine yC ?_)
 | ((with_reducible refine oG fun X Y=>?_); simp [go_sem,hk.cells]; apply Y; clear Y X)))
 have hk:=hk.next hb9
 have hclm:=hclm.next hb9
 have hs1:=hs1.next hb9
 refine Holds_ok ex (openedM ex 16) [2,0] hs1 hclm hi9 (fun w6 h6=>?_)
 rw [f5]
 have hk:=hk.next h6
 have hclm:=hclm.next h6
 have hs1:=hs1.next h6
 repeat (any_goals (first
 | ((with_reducible refine mk2 2 1 i64lit i64lit ?_); intro v9 W9 hb9 hi9)
 | (with_reducible first|refine zC ?_|refine yC ?_)
 | ((with_reducible refine oG fun X Y=>?_); simp [go_sem,hk.cells]; apply Y; clear Y X)))
 have hk:=hk.next hb9
 have hclm:=hclm.next hb9
 have hs1:=hs1.next hb9
 refine Holds_ok ex (openedM ex 16) [2,1] hs1 hclm hi9 (fun w6 h6=>?_)
 rw [f6]
 have hk:=hk.next h6
 have hclm:=hclm.next h6
 have hs1:=hs1.next h6
 repeat (any_goals (first
 | ((with_reducible refine mk2 4 2 i64lit i64lit ?_); intro v9 W9 hb9 hi9)
 | (with_reducible first|refine yC ?_|refine yM ?_)
 | ((with_reducible refine oG fun X Y=>?_); simp [go_sem,hk.cells]; apply Y; clear Y X)))
 have hk:=hk.next hb9
 have hclm:=hclm.next hb9
 have hs1:=hs1.next hb9
 refine Simulate_ok ex (openedM ex 16) 1 [4,2] hs1 hclm i64lit hi9 (fun lv w7 h7 hlv=>?_)
 rw [f7] at hlv
 have hk:=hk.next h7
 have hclm:=hclm.next h7
 have hs1:=hs1.next h7
 iterate 2 (any_goals ((with_reducible refine oG fun X Y=>?_); simp [go_sem,hk.cells]; apply Y; clear Y X))
 refine mk2 4 2 i64lit i64lit (fun v9 W9 hb9 hi9=>?_)
 have hk:=hk.next hb9
 have hclm:=hclm.next hb9
 have hs1:=hs1.next hb9
 have hlv:=hlv.next hb9
 refine mk2 10 6 i64lit i64lit (fun v10 W10 hb10 hi10=>?_)
 have hk:=hk.next hb10
 have hclm:=hclm.next hb10
 have hs1:=hs1.next hb10
 have hlv:=hlv.next hb10
 refine Extract_ok ex (openedM ex 16) 1 [4,2] 3 [10,6] hs1 hclm i64lit (hi9.next hb10) i64lit hi10 (fun ev w11 h11 hev=>?_)
 rw [f8] at hev ⊢
 have hev:Ints w11 ev [3,2]:=hev
 have hk:=hk.next h11
 have hclm:=hclm.next h11
 have hs1:=hs1.next h11
 have hlv:=hlv.next h11
 repeat (any_goals (first
 | ((with_reducible refine mk1 4 i64lit ?_); intro v9 W9 hb9 hi9)
 | ((with_reducible refine oG fun X Y=>?_); simp [go_sem,hk.cells]; apply Y; clear Y X)))
 have hk:=hk.next hb9
 have hclm:=hclm.next hb9
 have hs1:=hs1.next hb9
 refine SameInts_ok (hlv.next hb9) hi9 (fun w12 h12=>?_)
 rw [decide_eq_true rfl]
 have hev:=(hev.next hb9).next h12
 have hk:=hk.next h12
 have hclm:=hclm.next h12
 have hs1:=hs1.next h12
 repeat (any_goals (first
 | ((with_reducible refine mk2 3 2 i64lit i64lit ?_); intro v9 W9 hb9 hi9)
 | (with_reducible first|refine pureM_in ?_|refine zC ?_|refine yC ?_)
 | ((with_reducible refine oG fun X Y=>?_); simp [go_sem,hk.cells]; apply Y; clear Y X)))
 have hk:=hk.next hb9
 have hclm:=hclm.next hb9
 have hs1:=hs1.next hb9
 refine SameInts_ok (hev.next hb9) hi9 (fun w13 h13=>?_)
 rw [decide_eq_true rfl]
 have hk:=hk.next h13
 have hclm:=hclm.next h13
 have hs1:=hs1.next h13
 repeat (any_goals (first
 | (with_reducible first|refine zC ?_|refine yC ?_|refine yM ?_)
 | ((with_reducible refine oG fun X Y=>?_); simp [go_sem]; apply Y; clear Y X)))
 have hodr:Below w13.heap.size w13 { w13 with drawn:=w13.drawn + 1 }:=.drawn
 have hk:=hk.next hodr
 have hclm:=hclm.next hodr
 have hs1:=hs1.next hodr
 refine ⟨Nx { w13 with drawn:=w13.drawn + 1 },bR,rfl,?_⟩
 generalize ({ w13 with drawn:=w13.drawn + 1 }:World) = W at hk hs1 hclm ⊢
 repeat (any_goals ((with_reducible refine idOH ?_); (with_reducible refine oH_of ⟨_,rfl⟩ (fun W0 hW0=>by (refine oG (fun X Y=>?_)); simp [go_sem,(hk.next hW0).cells]; (first | exact Y _ _ ⟨rfl,rfl⟩ | exact ⟨by omega,Y _ _ ⟨rfl,rfl⟩⟩)) ?_)))
 refine ⟨Nx,?_⟩
 refine monoR (fun v w'=>∃ ad c,v = clmV (openedM ex 3) (.slice ad 1 c) ∧ ClmR w' (openedM ex 3) (.slice ad 1 c)) (fun v w w1 hS h=>by obtain ⟨ad,c,e,h⟩:=h; exact ⟨ad,c,e,h.next hS⟩) ?_ ?_
 ·intro w1 h1
  exact opened_ok ex 3 (hs1.next h1) i64lit (fun w2 v h2 hc=>by obtain ⟨ad,c,e,h⟩:=hc; exact ⟨h1.on h2,h2,ad,c,e,h.here⟩)
 rintro w14 h14 _ ⟨cad2,cc2,rfl,hclm2⟩
 have hk:=hk.next h14
 have hclm:=hclm.next h14
 have hs1:=hs1.next h14
 refine lit_clm2 _ _ _ _ _ _ _ _ (fun g15 w15 h15 hg15 hh15=>?_)
 have hgl:SRow 2 (AtOf 2 VClm) w15 (.slice (some ⟨g15,0,none⟩) 2 2) [openedM ex 16,openedM ex 3]:=srow_lit2 hh15 rfl rfl ⟨_,rfl,hclm.next h15⟩ ⟨_,rfl,hclm2.next h15⟩
 have hk:=hk.next h15
 have hs1:=hs1.next h15
 iterate 1 (any_goals ((with_reducible refine oG fun X Y=>?_); simp [go_sem]; apply Y; clear Y X))
 refine lit_cls _ _ _ _ (fun g16 w16 h16 hg16 hh16=>?_)
 have hgoal:GoalR w16 (.slice (some ⟨g16,0,none⟩) 1 1) goalE:=srow_lit1 hh16 rfl ⟨_,rfl,i64lit,hgl.next (atOf_stay clm_vstay) h16⟩
 have hk:=hk.next h16
 have hs1:=hs1.next h16
 refine mk2 3 2 i64lit i64lit (fun v17 w17 h17 hi17=>?_)
 obtain ⟨ad17,c17,rfl⟩:=id hi17.isSlice
 iterate 2 (any_goals ((with_reducible refine oG fun X Y=>?_); simp [go_sem]; apply Y; clear Y X))
 refine lit_knw2 _ _ _ _ _ _ _ _ (fun g18 w18 h18 hg18 hh18=>?_)
 have hkl:KnwsR w18 (.slice (some ⟨g18,0,none⟩) 2 2) [⟨true,[3,2]⟩,⟨false,[]⟩]:=srow_lit2 hh18 rfl rfl ⟨_,rfl,hi17.next h18⟩ ⟨_,rfl,Ints.nil _⟩
 refine lit_knws _ _ _ (fun g19 w19 h19 hg19 hh19=>?_)
 have hknow:KnowR w19 (.slice (some ⟨g19,0,none⟩) 1 1) knowE:=srow_lit1 hh19 rfl ⟨_,rfl,hkl.next (atOf_stay knw_vstay) h19⟩
 have hgoal:=((hgoal.next (atOf_stay cls_vstay) h17).next (atOf_stay cls_vstay) h18).next (atOf_stay cls_vstay) h19
 have hk:=((hk.next h17).next h18).next h19
 have hs1:=((hs1.next h17).next h18).next h19
 refine mk2 5 6 i64lit i64lit (fun v20 w20 h20 hi20=>?_)
 obtain ⟨ad20,c20,rfl⟩:=id hi20.isSlice
 refine mk2 7 8 i64lit i64lit (fun v21 w21 h21 hi21=>?_)
 obtain ⟨ad21,c21,rfl⟩:=id hi21.isSlice
 refine lit_ints2 _ _ _ _ _ _ (fun g22 w22 h22 hg22 hh22=>?_)
 have hnl:ListsR w22 (.slice (some ⟨g22,0,none⟩) 2 2) [[5,6],[7,8]]:=srow_lit2 hh22 rfl rfl ⟨_,rfl,(hi20.next h21).next h22⟩ ⟨_,rfl,hi21.next h22⟩
 refine lit_lists _ _ _ (fun g23 w23 h23 hg23 hh23=>?_)
 have hnums:NumsR w23 (.slice (some ⟨g23,0,none⟩) 1 1) numsE:=srow_lit1 hh23 rfl ⟨_,rfl,hnl.next (atOf_stay ints_stay) h23⟩
 refine mk2 0 9 i64lit i64lit (fun v24 w24 h24 hi24=>?_)
 obtain ⟨ad24,c24,rfl⟩:=id hi24.isSlice
 refine lit_ints _ _ _ (fun g25 w25 h25 hg25 hh25=>?_)
 have hdares:ListsR w25 (.slice (some ⟨g25,0,none⟩) 1 1) daresE:=srow_lit1 hh25 rfl ⟨_,rfl,hi24.next h25⟩
 have h1925:=((((h20.on h21).on h22).on h23).on h24).on h25
 have hk:=hk.next h1925
 have hs1:=hs1.next h1925
 have hgoal:=hgoal.next (atOf_stay cls_vstay) h1925
 have hknow:=hknow.next (atOf_stay knws_vstay) h1925
 have hnums:=hnums.next (atOf_stay lists_vstay) (h24.on h25)
 iterate 1 (any_goals ((with_reducible refine oG fun X Y=>?_); simp [go_sem]; apply Y; clear Y X))
 refine local_nse _ _ 1 1 1 1 hk (fun b26 w26 hk h26 hg26=>?_)
 have hs1:=hs1.next h26
 have hgoal:=hgoal.next (atOf_stay cls_vstay) h26
 have hknow:=hknow.next (atOf_stay knws_vstay) h26
 have hnums:=hnums.next (atOf_stay lists_vstay) h26
 have hdares:=hdares.next (atOf_stay ints_stay) h26
 have hlE:Cd.Laid w26:=hl.below hk.below hl.size
 repeat (any_goals ((with_reducible refine oG fun X Y=>?_); simp [go_sem,hk.cells]; apply Y; clear Y X))
 refine Prove_ok ex goalE here knowE numsE daresE hs1 hgoal hknow hnums hdares hlE (by decide) (by decide) (fun w27 pv av h27 hpv hav=>?_)
 have hver:=complete p1
 have hexp:=explained p1
 rw [p1]
 obtain ⟨pd,hpd⟩:∃ x,x = (proveM ex goalE here knowE numsE daresE).1.1:=⟨_,rfl⟩
 obtain ⟨pa,hpa⟩:∃ x,x = (proveM ex goalE here knowE numsE daresE).1.2:=⟨_,rfl⟩
 rw [← hpd] at hpv
 rw [← hpa] at hav
 rw [← hpd,← hpa] at hver hexp
 clear hpd hpa
 obtain ⟨pad,pc,rfl⟩:=id hpv.isSlice
 obtain ⟨aad,ac,rfl⟩:=id hav.isSlice
 have hk:=hk.next h27
 have hs1:=hs1.next h27
 have hgoal:=hgoal.next (atOf_stay cls_vstay) h27
 have hknow:=hknow.next (atOf_stay knws_vstay) h27
 have hnums:=hnums.next (atOf_stay lists_vstay) h27
 have hdares:=hdares.next (atOf_stay ints_stay) h27
 iterate 2 (any_goals ((with_reducible refine oG fun X Y=>?_); simp [go_sem]; apply Y; clear Y X))
 refine local_prf _ _ _ _ _ _ hk (fun b28 w28 hk h28 hg28=>?_)
 have hs1:=hs1.next h28
 have hgoal:=hgoal.next (atOf_stay cls_vstay) h28
 have hknow:=hknow.next (atOf_stay knws_vstay) h28
 have hnums:=hnums.next (atOf_stay lists_vstay) h28
 have hdares:=hdares.next (atOf_stay ints_stay) h28
 have hpv:=hpv.next (atOf_stay ints_stay) h28
 have hav:=hav.next (atOf_stay lists_vstay) h28
 refine mk2 3 3 i64lit i64lit (fun v29 w29 h29 hi29=>?_)
 obtain ⟨ad29,c29,rfl⟩:=id hi29.isSlice
 iterate 2 (any_goals ((with_reducible refine oG fun X Y=>?_); simp [go_sem]; apply Y; clear Y X))
 refine lit_knw2 _ _ _ _ _ _ _ _ (fun g30 w30 h30 hg30 hh30=>?_)
 have hkl:KnwsR w30 (.slice (some ⟨g30,0,none⟩) 2 2) [⟨true,[3,3]⟩,⟨false,[]⟩]:=srow_lit2 hh30 rfl rfl ⟨_,rfl,hi29.next h30⟩ ⟨_,rfl,Ints.nil _⟩
 refine lit_knws _ _ _ (fun g31 w31 h31 hg31 hh31=>?_)
 have hnone:KnowR w31 (.slice (some ⟨g31,0,none⟩) 1 1) noneE:=srow_lit1 hh31 rfl ⟨_,rfl,hkl.next (atOf_stay knw_vstay) h31⟩
 have h2831:=(h29.on h30).on h31
 have hk:=hk.next h2831
 have hs1:=hs1.next h2831
 have hgoal:=hgoal.next (atOf_stay cls_vstay) h2831
 have hknow:=hknow.next (atOf_stay knws_vstay) h2831
 have hnums:=hnums.next (atOf_stay lists_vstay) h2831
 have hdares:=hdares.next (atOf_stay ints_stay) h2831
 have hpv:=hpv.next (atOf_stay ints_stay) h2831
 have hav:=hav.next (atOf_stay lists_vstay) h2831
 have hlE:Cd.Laid w31:=hl.below hk.below hl.size
 repeat (any_goals ((with_reducible refine oG fun X Y=>?_); simp [go_sem,hk.cells]; apply Y; clear Y X))
 refine Prove_ok ex goalE here noneE numsE daresE hs1 hgoal hnone hnums hdares hlE (by decide) (by decide) (fun w32 pv2 av2 h32 hpv2 hav2=>?_)
 rw [p2] at hpv2 hav2 ⊢
 obtain ⟨pad2,pc2,rfl⟩:=id hpv2.isSlice
 obtain ⟨aad2,ac2,rfl⟩:=id hav2.isSlice
 have hk:=hk.next h32
 iterate 2 (any_goals ((with_reducible refine oG fun X Y=>?_); simp [go_sem]; apply Y; clear Y X))
 refine local_prf _ _ _ _ _ _ hk (fun b33 w33 hk h33 hg33=>?_)
 have h3133:=h32.on h33
 have hs1:=hs1.next h3133
 have hgoal:=hgoal.next (atOf_stay cls_vstay) h3133
 have hknow:=hknow.next (atOf_stay knws_vstay) h3133
 have hnums:=hnums.next (atOf_stay lists_vstay) h3133
 have hdares:=hdares.next (atOf_stay ints_stay) h3133
 have hpv:=hpv.next (atOf_stay ints_stay) h3133
 have hav:=hav.next (atOf_stay lists_vstay) h3133
 have hlE:Cd.Laid w33:=hl.below hk.below hl.size
 repeat (any_goals ((with_reducible refine oG fun X Y=>?_); simp [go_sem,hk.cells]; apply Y; clear Y X))
 refine Explain_ok ex goalE here knowE pa pd hs1 hgoal hknow hav hpv hlE (by decide) (by decide) (fun w34 nv dv h34 hnv hdv=>?_)
 rw [hexp] at hnv hdv ⊢
 have hnv:NumsR w34 nv numsE:=hnv
 have hdv:ListsR w34 dv daresE:=hdv
 obtain ⟨nad,nc,rfl⟩:=id hnv.isSlice
 obtain ⟨dad,dc,rfl⟩:=id hdv.isSlice
 have hk:=hk.next h34
 iterate 2 (any_goals ((with_reducible refine oG fun X Y=>?_); simp [go_sem]; apply Y; clear Y X))
 refine local_nse _ _ _ _ _ _ hk (fun b35 w35 hk h35 hg35=>?_)
 have h3335:=h34.on h35
 have hs1:=hs1.next h3335
 have hgoal:=hgoal.next (atOf_stay cls_vstay) h3335
 have hnums:=hnums.next (atOf_stay lists_vstay) h3335
 have hdares:=hdares.next (atOf_stay ints_stay) h3335
 have hpv:=hpv.next (atOf_stay ints_stay) h3335
 have hav:=hav.next (atOf_stay lists_vstay) h3335
 have hnv:=hnv.next (atOf_stay lists_vstay) h35
 have hdv:=hdv.next (atOf_stay ints_stay) h35
 have hlE:Cd.Laid w35:=hl.below hk.below hl.size
 repeat (any_goals (first
 | (with_reducible first|refine pureM_in ?_|refine zA ?_|refine yB ?_)
 | ((with_reducible refine oG fun X Y=>?_); simp [go_sem,hk.cells]; apply Y; clear Y X)))
 refine Verify_ok ex goalE here pd pa hs1 hgoal hpv hav hlE (by decide) (by decide) (fun w36 h36=>?_)
 rw [hver]
 have hk:=hk.next h36
 repeat (any_goals (first
 | (with_reducible first|refine pureM_in ?_|refine zA ?_|refine yB ?_)
 | ((with_reducible refine oG fun X Y=>?_); simp [go_sem,hk.cells]; apply Y; clear Y X)))
 refine SameNoise_ok (hdares.next (atOf_stay ints_stay) h36) (hnums.next (atOf_stay lists_vstay) h36) (hdv.next (atOf_stay ints_stay) h36) (hnv.next (atOf_stay lists_vstay) h36) (fun w37 h37=>?_)
 have hk:=hk.next h37
 rw [decide_eq_true rfl,decide_eq_true rfl]
 repeat (any_goals (with_reducible refine yB ?_))
 exact k _ hk.below
end
end Go.Proofs
namespace PrSpec
open FdSpec TkSpec CodeSpec FdPoly GrLaw
theorem flat_max {α:Type} (f:α → List Int) (N:Nat):∀ (l:List α),(∀ x ∈ l,(f x).length ≤ N) → (l.flatMap f).length ≤ N * l.length
 | [],_=>by simp
 | a :: l,h=>by
  have ih:=flat_max f N l (fun x hx=>h x (by simp [hx]))
  have:=h a (by simp)
  simp only [List.flatMap_cons,List.length_append,List.length_cons,Nat.mul_add,Nat.mul_one]
  omega
end PrSpec
namespace Go.Proofs
open Go Go.Sh Go.RowKit FdSpec TkSpec CodeSpec PrSpec
section
variable {K:VK} {w w' w0 W:World} {L:List (Addr × Value)}
theorem few_goal {l:List Cls} (h:FewG l):(goalL l).length ≤ 1000000:=by
 have h1:∀ c ∈ l,(clsL c).length ≤ 400:=fun c hc=>by
  obtain ⟨h2,h3⟩:=h.2 c hc
  have h4:∀ m ∈ c.claims,(clmL m).length ≤ 70:=fun m hm=>by
   obtain ⟨h5,h6⟩:=h3 m hm
   have h7:∀ e ∈ m.eqs,(eqnL e).length ≤ 14:=fun e he=>by
    have:=flat_max trmL 2 e.terms (fun t _=>by simp [trmL])
    have:=h6 e he
    simp only [eqnL,List.length_cons]
    omega
   have:=flat_max eqnL 14 m.eqs h7
   simp only [clmL,List.length_cons]
   omega
  have:=flat_max clmL 70 c.claims h4
  simp only [clsL,List.length_cons]
  omega
 have:=flat_max clsL 400 l h1
 have:=h.1
 simp only [goalL,List.length_cons]
 omega
end
end Go.Proofs
namespace Go.Proofs
open Go Go.Sh Go.RowKit FdSpec TkSpec CodeSpec PrSpec FdPoly
section
variable {K:VK} {w w' w0 W W' We W1 W2:World} {L:List (Addr × Value)} {g n B b i:Nat} {row:Option Nat}
def FkJ (N:Nat) (w0:World) (vs:List Value) (w':World):Prop:=Bw w0 w' ∧ ∃ (u u2:Value) (i:Nat),vs = [u,u2,.int .i64 (i:Int)] ∧ i ≤ N
def FmJ (N:Nat) (w0:World) (vs:List Value) (w':World):Prop:=Bw w0 w' ∧ ∃ (u:Value) (i:Nat),vs = [u,.int .i64 (i:Int)] ∧ i ≤ N
theorem FewKnow_ok {v:Value} {l:List (List Knw)} (hl:KnowR w v l) (k:∀ w' q,Bw w w' → K (.bool q) w'):callM Tryz.prog 36 #[v] K w:=by
 apply sh_36_ok
 unfold sh_36
 obtain ⟨ad,c,rfl⟩:=hl.isSlice
 have hll:=hl.len
 refine ⟨FkJ l.length w,(fun vs _=>match vs with | [_,_,.int _ i]=>l.length - i.toNat | _=>0),⟨bR,_,_,0,rfl,by omega⟩,?_⟩
 rintro _ _ w1 ⟨h1,u,u2,i,rfl,hi⟩
 by_cases hin:¬ (i:Int) < l.length
 ·repeat (any_goals (first
  | (with_reducible first|refine zB ?_|refine yC ?_|refine yM ?_)
  | ((with_reducible refine oG fun X Y=>?_); simp [go_sem,hin]; apply Y; clear Y X)))
  exact k _ _ h1
 have hin:(i:Int) < l.length:=by omega
 by_cases h7:¬ (i:Int) < 7
 ·repeat (any_goals (first
  | (with_reducible first|refine pureM_in ?_|refine zA ?_|refine yB ?_|refine yM ?_)
  | ((with_reducible refine oG fun X Y=>?_); simp [go_sem,hin,h7]; apply Y; clear Y X)))
  exact k _ _ h1
 have h7:(i:Int) < 7:=by omega
 obtain ⟨b5,o5,v5,rfl,hb5,c5,i5⟩:=hl.one (i:=i) (by omega)
 generalize l[i] = d at *
 obtain ⟨ad5,cp5,rfl⟩:=i5.isSlice
 have hld:=i5.len
 by_cases h8:(6:Int) < d.length
 ·repeat (any_goals (first
  | (with_reducible first|refine pureM_in ?_|refine zA ?_|refine yB ?_|refine yL ?_)
  | ((with_reducible refine oG fun X Y=>?_); simp [go_sem,hin,h7,(h1.cell hb5).trans c5,h8]; apply Y; clear Y X)))
  exact k w1 _ h1
 repeat (any_goals (first
 | (with_reducible first|refine pureM_in ?_|refine zA ?_|refine yB ?_|((refine idCond ?_); first|refine yL ?_|refine yM ?_))
 | ((with_reducible refine oG fun X Y=>?_); simp [go_sem,hin,h7,(h1.cell hb5).trans c5,h8]; apply Y; clear Y X)))
 refine ⟨FmJ d.length w,(fun vs _=>match vs with | [_,.int _ i]=>d.length - i.toNat | _=>0),⟨h1,_,0,rfl,by omega⟩,?_⟩
 rintro _ _ w2 ⟨h2,u3,j,rfl,hj⟩
 by_cases hjn:¬ (j:Int) < d.length
 ·repeat (any_goals (first
  | (with_reducible refine yM ?_)
  | ((with_reducible refine oG fun X Y=>?_); simp [go_sem,hin,(h2.cell hb5).trans c5,hjn]; (try simp (disch:=omega) only [wrapI64,wrapU8,wrapU32,wrapU64]); apply Y; clear Y X)))
  exact ⟨⟨h2,_,_,i + 1,rfl,by omega⟩,by show l.length - (((i + 1:Nat):Int)).toNat < l.length - ((i:Nat):Int).toNat; omega⟩
 have hjn:(j:Int) < d.length:=by omega
 obtain ⟨b6,o6,rfl,hb6,cs6,_,hcell6,v6,rfl,hv6⟩:=i5.at (i:=j) (by omega)
 have c6:=hcell6 1 _ rfl
 generalize d[j] = kn at *
 obtain ⟨ad6,cp6,rfl⟩:=hv6.isSlice
 by_cases h9:(8:Int) < kn.values.length
 ·repeat (any_goals (first
  | (with_reducible refine yL ?_)
  | ((with_reducible refine oG fun X Y=>?_); simp [go_sem,hin,(h2.cell hb5).trans c5,hjn,(h2.cell hb6).trans c6,h9]; apply Y; clear Y X)))
  exact k _ _ h2
 repeat (any_goals (first
 | (with_reducible ((refine idCond ?_); first|refine yL ?_|refine yM ?_))
 | ((with_reducible refine oG fun X Y=>?_); simp [go_sem,hin,(h2.cell hb5).trans c5,hjn,(h2.cell hb6).trans c6,h9]; (try simp (disch:=omega) only [wrapI64,wrapU8,wrapU32,wrapU64]); apply Y; clear Y X)))
 exact ⟨⟨h2,_,j + 1,rfl,by omega⟩,by show d.length - (((j + 1:Nat):Int)).toNat < d.length - ((j:Nat):Int).toNat; omega⟩
theorem fewNoise_ok {dv av:Value} {ds:L2} {al:L3} (hd:ListsR w dv ds) (ha:NumsR w av al) (k:∀ w' q,Bw w w' → (q = true → FewL ds ∧ FewN al) → K (.bool q) w'):callM Tryz.prog 16 #[prfV av dv] K w:=by
 apply sh_16_ok
 unfold sh_16
 have hd':=hd
 have ha':=ha
 obtain ⟨ad1,c1,rfl⟩:=hd.isSlice
 obtain ⟨ad2,c2,rfl⟩:=ha.isSlice
 refine box_kn (cs:=prfC (.slice ad2 al.length c2) (.slice ad1 ds.length c1)) rfl (.start w) fun b1 W hk hb1 hbb=>?_
 clear hb1 hbb
 repeat (any_goals ((with_reducible refine oG fun X Y=>?_); simp [go_sem,hk.cells]; apply Y; clear Y X))
 refine FewNums_ok (ha'.next (atOf_stay lists_vstay) hk.below) (fun w3 q h3 hq=>?_)
 have hk:=hk.next h3
 cases q with
 | false=>
  repeat (any_goals (with_reducible first|refine zB ?_|refine yC ?_))
  exact k _ _ hk.below (fun h=>by cases h)
 | true=>
 repeat (any_goals (first
 | (with_reducible refine zA ?_)
 | ((with_reducible refine oG fun X Y=>?_); simp [go_sem,hk.cells]; apply Y; clear Y X)))
 refine FewLists_ok (hd'.next (atOf_stay ints_stay) hk.below) (fun w4 q h4 hq2=>?_)
 have hk:=hk.next h4
 cases q with
 | false=>
  repeat (any_goals (with_reducible refine yB ?_))
  exact k _ _ hk.below (fun h=>by cases h)
 | true=>
  repeat (any_goals (with_reducible refine yB ?_))
  exact k _ _ hk.below (fun _=>⟨hq2 rfl,hq rfl⟩)
theorem few_ok (s:Stp) (goal:List Cls) (ctx:Bytes) (know:List (List Knw)) {sv gv kv:Value} (hs:SetR w s sv) (hg:GoalR w gv goal) (hk0:KnowR w kv know) (hc:ctx.length < 1000000000000000) (k:∀ w' q,Bw w w' → (q = true → (goalL goal).length ≤ 1000000 ∧ ctx.length ≤ 1000000) → K (.bool q) w') :
  callM Tryz.prog 15 #[stpV s sv,gv,.string ⟨ctx.toArray⟩,kv] K w:=by
 apply sh_15_ok
 unfold sh_15
 have hs':=hs
 obtain ⟨ad,c,rfl⟩:=hs.ints.isSlice
 refine box_kn (cs:=stpC s (.slice ad s.bases.length c)) rfl (.start w) fun b1 W hk hb1 hbb=>?_
 clear hb1 hbb
 repeat (any_goals ((with_reducible refine oG fun X Y=>?_); simp [go_sem,hk.cells]; apply Y; clear Y X))
 refine Few_ok s goal (hs'.next hk.below) (hg.next (atOf_stay cls_vstay) hk.below) (fun w3 q h3 hq=>?_)
 have hk:=hk.next h3
 cases q with
 | false=>
  repeat (any_goals (with_reducible first|refine zB ?_|refine yC ?_))
  exact k _ _ hk.below (fun h=>by cases h)
 | true=>
 by_cases h1:¬ (ctx.length:Int) ≤ 100
 ·repeat (any_goals (first
  | (with_reducible first|refine pureM_in ?_|((refine idGd ?_); first|refine zA ?_|refine zB ?_)|((refine idPick ?_); first|refine yB ?_|refine yC ?_))
  | ((with_reducible refine oG fun X Y=>?_); simp [go_sem,hk.cells,h1]; apply Y; clear Y X)))
  exact k _ _ hk.below (fun h=>by cases h)
 have h1:(ctx.length:Int) ≤ 100:=by omega
 repeat (any_goals (first
 | (with_reducible first|refine pureM_in ?_|refine zA ?_|refine yB ?_)
 | ((with_reducible refine oG fun X Y=>?_); simp [go_sem,hk.cells,h1]; apply Y; clear Y X)))
 refine FewKnow_ok (hk0.next (atOf_stay knws_vstay) hk.below) (fun w4 q h4=>?_)
 have hk:=hk.next h4
 cases q with
 | false=>
  repeat (any_goals (with_reducible refine yB ?_))
  exact k _ _ hk.below (fun h=>by cases h)
 | true=>
  repeat (any_goals (with_reducible refine yB ?_))
  exact k _ _ hk.below (fun _=>⟨few_goal (hq rfl).1,by omega⟩)
end
end Go.Proofs
namespace Go.Proofs
open Go Go.Sh Go.RowKit Go.Lib CodeSpec TkSpec FdSpec PrSpec Go.ChangeShapes Go.WideShapes Go.ChangeAt Go.Deep
section
variable {H:Type} {enc:TypeId × Value → H} {w:World} {sp:Nat → Bool} {hd:Bool}
theorem open_nse {b0:Nat} {v:Value} {d:DataW H} {ps:List MemPlace} (hval:Value.okWide Tryz.prog w .any b0 32 v) (h:DataW.Trod enc Tryz.prog w 0 sp hd 32 v d ps):∃ nv dv al ds,v = prfV nv dv ∧ NumsR w nv al ∧ ListsR w dv ds:=by
 obtain ⟨cs,rfl,hs⟩:=okWide_struct Tryz.underlying32 hval
 obtain ⟨fuel,hf⟩:=h
 obtain ⟨hcl,hf⟩:=open_fields Tryz.underlying32 (by kernel_rfl) (by kernel_rfl) hf
 obtain ⟨v0,y0,m0,c0,f0⟩:=hf 0 _ rfl
 obtain ⟨v1,y1,m1,c1,f1⟩:=hf 1 _ rfl
 obtain ⟨al,ha⟩:=open_nums f0
 obtain ⟨ds,hd⟩:=open_lists f1
 refine ⟨v0,v1,al,ds,?_,ha,hd⟩
 have h6:cs.toList.length = 2:=hcl
 have c0:cs.toList[0]? = some v0:=c0
 have c1:cs.toList[1]? = some v1:=c1
 have hcs:cs = cs.toList.toArray:=by simp
 rw [hcs]
 clear hs hcs
 generalize cs.toList = l at *
 match l,h6 with
 | [x0,x1],_=>
  simp only [List.getElem?_cons_zero,List.getElem?_cons_succ,Option.some.injEq] at c0 c1
  rw [c0,c1]
theorem open_knws {v:Value} {n:Nat} {D:DataW H × List MemPlace} (h:DataW.trod enc Tryz.prog w 0 sp hd n 114 [v] = some D):∃ l,KnwsR w v l:=
 rowsOpen Tryz.underlying114 (by kernel_rfl) (by decide) (fun cs b p m D hl hc ht=>by
  match cs,hl with
  | [x0,x1],_=>
   obtain ⟨_,hf⟩:=open_fields Tryz.underlying113 (by kernel_rfl) (by kernel_rfl) ht
   obtain ⟨v0,y0,m0,c0,f0⟩:=hf 0 _ rfl
   obtain ⟨v1,y1,m1,c1,f1⟩:=hf 1 _ rfl
   obtain ⟨k0,e0,_⟩:=DataW.trod_bool Tryz.underlying4 f0
   obtain ⟨l1,h1⟩:=open_ints f1
   simp only [List.cons.injEq,and_true] at e0
   simp only [List.getElem?_cons_zero,List.getElem?_cons_succ,Option.some.injEq] at c0 c1
   subst c0; subst c1; subst e0
   exact ⟨⟨k0,l1⟩,[.bool k0,x1],rfl,hc,x1,rfl,h1⟩) h
theorem open_knwss {v:Value} {n:Nat} {D:DataW H × List MemPlace} (h:DataW.trod enc Tryz.prog w 0 sp hd n 28 [v] = some D):∃ l,KnowR w v l:=
 rowsOpen Tryz.underlying28 (by kernel_rfl) (by decide) (fun cs b p m D hl hc ht=>by
  match cs,hl with
  | [u],_=>
   obtain ⟨l,hl⟩:=open_knws ht
   exact ⟨l,[u],rfl,hc,u,rfl,hl⟩) h
theorem open_know {b0:Nat} {v:Value} {d:DataW H} {ps:List MemPlace} (hval:Value.okWide Tryz.prog w .any b0 28 v) (h:DataW.Trod enc Tryz.prog w 0 sp hd 28 v d ps):∃ l,KnowR w v l:=by
 obtain ⟨a,n,c,rfl⟩:=okWide_slice Tryz.underlying28 hval
 obtain ⟨fu,hf⟩:=h
 exact open_knwss hf
end
end Go.Proofs
namespace Go.Proofs
open Go.Sh Tryz
def sh_167 (a0:Value) (K:VK) (w:World):Prop:=
 kB .geq 3 4 a0 (.int .i64 1) (fun v4 w=>
 gT v4 (pureM a0) (fun v6 w=>
 gT v4 (kB .lss 3 4 v6 (.int .i64 2305843009213693952)) (fun v7 w=>
 kP v4 v7 (.bool false) (fun v8 w=>
 K v8 w) w) w) w) w
theorem sh_167_ok {a0:Value} {K:VK} {w:World} (h:sh_167 a0 K w):callM prog 167 #[a0] K w:=
 calls_of_code (fun _=>0) (fn:=Tryz.f167) (rs:=[.tmp 2]) Tryz.func167 rfl rfl (by kernel_rfl) (nB rfl) (Eq.mp (by kernel_rfl) h)
def sh_168 (a0 a1:Value) (K:VK) (w:World):Prop:=
 kB .rem 3 3 a1 a0 (fun v8 w=>
 joinM (fun M_2=>(kB .lss 3 4 v8 (.int .i64 0) (fun v10 w=>
 condM v10
 (kB .add 3 3 v8 a0 (fun v13 w=>
 M_2 [v13] w) w)
 (M_2 [v8] w)) w))
 (fun l_3 u_l_3 w=>(K (l_3.getD 0 undef) w))) w
theorem sh_168_ok {a0 a1:Value} {K:VK} {w:World} (h:sh_168 a0 a1 K w):callM prog 168 #[a0,a1] K w:=
 calls_of_code (fun _=>0) (fn:=Tryz.f168) (rs:=[.tmp 4]) Tryz.func168 rfl rfl (by kernel_rfl) (nB rfl) (Eq.mp (by kernel_rfl) h)
def sh_104 (a0 a1 a2:Value) (K:VK) (w:World):Prop:=
 callM prog 167 #[a0] (fun v14 w=>
 kU v14 (fun v15 w=>
 condM v15
 (K (.int .i64 0) w)
 (callM prog 168 #[a0,a1] (fun v18 w=>
 callM prog 168 #[a0,a2] (fun v21 w=>
 kB .leq 3 4 a0 (.int .i64 2147483648) (fun v23 w=>
 condM v23
 (kB .mul 3 3 v18 v21 (fun v26 w=>
 kB .rem 3 3 v26 a0 (fun v28 w=>
 K v28 w) w) w)
 (loopM [(.int .i64 0),undef,undef,(.int .i64 60)] w (fun J_8 m_9 l_10 u_l_10 w0_l_10=>(fun w=>(
 kB .geq 3 4 (l_10.getD 3 undef) (.int .i64 0) (fun v30 w=>
 condM v30
 (kB .mul 3 3 (.int .i64 4) (l_10.getD 0 undef) (fun v34 w=>
 kB .rem 3 3 v34 a0 (fun v36 w=>
 kB .shr 3 3 v21 (l_10.getD 3 undef) (fun v39 w=>
 kB .and 3 3 v39 (.int .i64 3) (fun v40 w=>
 loopM [v36,(.int .i64 0)] w (fun J_16 m_17 l_18 u_l_18 w0_l_18=>(fun w=>(
 kB .lss 3 4 (l_18.getD 1 undef) v40 (fun v43 w=>
 condM v43
 (kB .add 3 3 (l_18.getD 0 undef) v18 (fun v48 w=>
 kB .rem 3 3 v48 a0 (fun v50 w=>
 kB .add 3 3 (l_18.getD 1 undef) (.int .i64 1) (fun v45 w=>
 J_16 [v50,v45] w ∧ m_17 [v50,v45] w < m_17 l_18 w0_l_18) w) w) w)
 (kB .sub 3 3 (l_10.getD 3 undef) (.int .i64 2) (fun v32 w=>
 J_8 [(l_18.getD 0 undef),v40,(l_18.getD 1 undef),v32] w ∧ m_9 [(l_18.getD 0 undef),v40,(l_18.getD 1 undef),v32] w < m_9 l_10 w0_l_10) w)) w)) w0_l_18)) w) w) w) w)
 (K (l_10.getD 0 undef) w)) w)) w0_l_10))) w) w) w)) w) w
theorem sh_104_ok {a0 a1 a2:Value} {K:VK} {w:World} (h:sh_104 a0 a1 a2 K w):callM prog 104 #[a0,a1,a2] K w:=
 calls_of_code (fun _=>0) (fn:=Tryz.f104) (rs:=[.tmp 6]) Tryz.func104 rfl rfl (by kernel_rfl) (nB rfl) (Eq.mp (by kernel_rfl) h)
def sh_172 (a0 a1 a2:Value) (K:VK) (w:World):Prop:=
 kB .rem 3 3 (.int .i64 1) a0 (fun v10 w=>
 callM prog 168 #[a0,a1] (fun v13 w=>
 loopM [v10,v13,a2] w (fun J_3 m_4 l_5 u_l_5 w0_l_5=>(fun w=>(
 kB .gtr 3 4 (l_5.getD 2 undef) (.int .i64 0) (fun v15 w=>
 condM v15
 (joinM (fun M_7=>(kB .rem 3 3 (l_5.getD 2 undef) (.int .i64 2) (fun v17 w=>
 kC .eql 3 1 4 v17 (fun v18 w=>
 condM v18
 (callM prog 104 #[a0,(l_5.getD 0 undef),(l_5.getD 1 undef)] (fun v22 w=>
 M_7 [v22] w) w)
 (M_7 [(l_5.getD 0 undef)] w)) w) w))
 (fun l_8 u_l_8 w=>(callM prog 104 #[a0,(l_5.getD 1 undef),(l_5.getD 1 undef)] (fun v26 w=>
 kB .quo 3 3 (l_5.getD 2 undef) (.int .i64 2) (fun v28 w=>
 J_3 [(l_8.getD 0 undef),v26,v28] w ∧ m_4 [(l_8.getD 0 undef),v26,v28] w < m_4 l_5 w0_l_5) w) w)))
 (K (l_5.getD 0 undef) w)) w)) w0_l_5)) w) w
theorem sh_172_ok {a0 a1 a2:Value} {K:VK} {w:World} (h:sh_172 a0 a1 a2 K w):callM prog 172 #[a0,a1,a2] K w:=
 calls_of_code (fun _=>0) (fn:=Tryz.f172) (rs:=[.tmp 6]) Tryz.func172 rfl rfl (by kernel_rfl) (nB rfl) (Eq.mp (by kernel_rfl) h)
def sh_204 (a0 a1:Value) (K:VK) (w:World):Prop:=
 kB .sub 3 3 a0 (.int .i64 1) (fun v10 w=>
 loopM [v10,(.int .i64 0)] w (fun J_2 m_3 l_4 u_l_4 w0_l_4=>(fun w=>(
 kB .rem 3 3 (l_4.getD 0 undef) (.int .i64 2) (fun v12 w=>
 kC .eql 3 0 4 v12 (fun v13 w=>
 condM v13
 (kB .quo 3 3 (l_4.getD 0 undef) (.int .i64 2) (fun v15 w=>
 kB .add 3 3 (l_4.getD 1 undef) (.int .i64 1) (fun v17 w=>
 J_2 [v15,v17] w ∧ m_3 [v15,v17] w < m_3 l_4 w0_l_4) w) w)
 (callM prog 172 #[a0,a1,(l_4.getD 0 undef)] (fun v21 w=>
 kC .eql 3 1 4 v21 (fun v23 w=>
 condM v23
 (K (.bool true) w)
 (loopM [(.bool false),v21,(.int .i64 0)] w (fun J_11 m_12 l_13 u_l_13 w0_l_13=>(fun w=>(
 kB .lss 3 4 (l_13.getD 2 undef) (l_4.getD 1 undef) (fun v26 w=>
 condM v26
 (kB .sub 3 3 a0 (.int .i64 1) (fun v31 w=>
 kB .eql 3 4 (l_13.getD 1 undef) v31 (fun v32 w=>
 condM v32
 (K (.bool true) w)
 (callM prog 104 #[a0,(l_13.getD 1 undef),(l_13.getD 1 undef)] (fun v36 w=>
 kB .add 3 3 (l_13.getD 2 undef) (.int .i64 1) (fun v28 w=>
 J_11 [(l_13.getD 0 undef),v36,v28] w ∧ m_12 [(l_13.getD 0 undef),v36,v28] w < m_12 l_13 w0_l_13) w) w)) w) w)
 (K (.bool false) w)) w)) w0_l_13))) w) w)) w) w)) w0_l_4)) w
theorem sh_204_ok {a0 a1:Value} {K:VK} {w:World} (h:sh_204 a0 a1 K w):callM prog 204 #[a0,a1] K w:=
 calls_of_code (fun _=>0) (fn:=Tryz.f204) (rs:=[.tmp 4]) Tryz.func204 rfl rfl (by kernel_rfl) (nB rfl) (Eq.mp (by kernel_rfl) h)
def sh_203 (K:VK) (w:World):Prop:=
 oM prog (.buildSlice 24 12 #[(0,(.tmp 0)),(1,(.tmp 1)),(2,(.tmp 2)),(3,(.tmp 3)),(4,(.tmp 4)),(5,(.tmp 5)),(6,(.tmp 6)),(7,(.tmp 7)),(8,(.tmp 8)),(9,(.tmp 9)),(10,(.tmp 10)),(11,(.tmp 11))]) 24 [(.int .i64 2),(.int .i64 3),(.int .i64 5),(.int .i64 7),(.int .i64 11),(.int .i64 13),(.int .i64 17),(.int .i64 19),(.int .i64 23),(.int .i64 29),(.int .i64 31),(.int .i64 37)] (fun v1 w=>
 K v1 w) w
theorem sh_203_ok {K:VK} {w:World} (h:sh_203 K w):callM prog 203 #[] K w:=
 calls_of_code (fun _=>0) (fn:=Tryz.f203) (rs:=[.tmp 0]) Tryz.func203 rfl rfl (by kernel_rfl) (nB rfl) (Eq.mp (by kernel_rfl) h)
def sh_171 (a0:Value) (K:VK) (w:World):Prop:=
 kB .lss 3 4 a0 (.int .i64 2) (fun v7 w=>
 gF v7 (pureM a0) (fun v9 w=>
 gF v7 (kB .geq 3 4 v9 (.int .i64 2305843009213693952)) (fun v10 w=>
 kP v7 (.bool true) v10 (fun v11 w=>
 condM v11
 (K (.bool false) w)
 (callM prog 203 #[] (fun v12 w=>
 loopM [(.bool false),(.int .i64 0)] w (fun J_6 m_7 l_8 u_l_8 w0_l_8=>(fun w=>(
 kN 24 v12 (fun v15 w=>
 kB .lss 3 4 (l_8.getD 1 undef) v15 (fun v16 w=>
 condM v16
 (kI 24 v12 (l_8.getD 1 undef) (fun v22 w=>
 kL 3 v22 (fun v23 w=>
 kB .rem 3 3 a0 v23 (fun v24 w=>
 kC .eql 3 0 4 v24 (fun v25 w=>
 condM v25
 (kI 24 v12 (l_8.getD 1 undef) (fun v29 w=>
 kL 3 v29 (fun v30 w=>
 kB .eql 3 4 a0 v30 (fun v31 w=>
 K v31 w) w) w) w)
 (kB .add 3 3 (l_8.getD 1 undef) (.int .i64 1) (fun v18 w=>
 J_6 [(l_8.getD 0 undef),v18] w ∧ m_7 [(l_8.getD 0 undef),v18] w < m_7 l_8 w0_l_8) w)) w) w) w) w)
 (loopM [(l_8.getD 0 undef),(.int .i64 0)] w (fun J_19 m_20 l_21 u_l_21 w0_l_21=>(fun w=>(
 kN 24 v12 (fun v34 w=>
 kB .lss 3 4 (l_21.getD 1 undef) v34 (fun v35 w=>
 condM v35
 (kI 24 v12 (l_21.getD 1 undef) (fun v41 w=>
 kL 3 v41 (fun v42 w=>
 callM prog 204 #[a0,v42] (fun v43 w=>
 kU v43 (fun v44 w=>
 condM v44
 (K (.bool false) w)
 (kB .add 3 3 (l_21.getD 1 undef) (.int .i64 1) (fun v37 w=>
 J_19 [(l_21.getD 0 undef),v37] w ∧ m_20 [(l_21.getD 0 undef),v37] w < m_20 l_21 w0_l_21) w)) w) w) w) w)
 (K (.bool true) w)) w) w)) w0_l_21))) w) w)) w0_l_8)) w)) w) w) w) w
theorem sh_171_ok {a0:Value} {K:VK} {w:World} (h:sh_171 a0 K w):callM prog 171 #[a0] K w:=
 calls_of_code (fun _=>0) (fn:=Tryz.f171) (rs:=[.tmp 2]) Tryz.func171 rfl rfl (by kernel_rfl) (nB rfl) (Eq.mp (by kernel_rfl) h)
def sh_110 (a0:Value) (K:VK) (w:World):Prop:=
 oM prog (.box 23 (.tmp 0)) 0 [a0] (fun v1 w=>
 kF 23 1 v1 (fun v3 w=>
 kL 3 v3 (fun v4 w=>
 kB .lss 3 4 v4 (.int .i64 5) (fun v5 w=>
 gF v5 (kF 23 1 v1) (fun v7 w=>
 gF v5 (kL 3 v7) (fun v8 w=>
 gF v5 (kB .geq 3 4 v8 (.int .i64 1152921504606846976)) (fun v9 w=>
 kP v5 (.bool true) v9 (fun v10 w=>
 gF v10 (kF 23 0 v1) (fun v12 w=>
 gF v10 (kL 3 v12) (fun v13 w=>
 gF v10 (kF 23 1 v1) (fun v14 w=>
 gF v10 (kL 3 v14) (fun v15 w=>
 gF v10 (kB .mul 3 3 (.int .i64 2) v15) (fun v16 w=>
 gF v10 (kB .add 3 3 v16 (.int .i64 1)) (fun v17 w=>
 gF v10 (kB .neq 3 4 v13 v17) (fun v18 w=>
 kP v10 (.bool true) v18 (fun v19 w=>
 gF v19 (kF 23 0 v1) (fun v21 w=>
 gF v19 (kL 3 v21) (fun v22 w=>
 gF v19 (kB .geq 3 4 v22 (.int .i64 2305843009213693952)) (fun v23 w=>
 kP v19 (.bool true) v23 (fun v24 w=>
 gF v24 (kF 23 2 v1) (fun v26 w=>
 gF v24 (kL 3 v26) (fun v27 w=>
 gF v24 (kB .lss 3 4 v27 (.int .i64 2)) (fun v28 w=>
 kP v24 (.bool true) v28 (fun v29 w=>
 gF v29 (kF 23 2 v1) (fun v31 w=>
 gF v29 (kL 3 v31) (fun v32 w=>
 gF v29 (kF 23 0 v1) (fun v33 w=>
 gF v29 (kL 3 v33) (fun v34 w=>
 gF v29 (kB .geq 3 4 v32 v34) (fun v35 w=>
 kP v29 (.bool true) v35 (fun v36 w=>
 condM v36
 (K (.bool false) w)
 (kF 23 1 v1 (fun v37 w=>
 kL 3 v37 (fun v38 w=>
 callM prog 171 #[v38] (fun v39 w=>
 gT v39 (kF 23 0 v1) (fun v41 w=>
 gT v39 (kL 3 v41) (fun v42 w=>
 gT v39 (callM prog 171 #[v42]) (fun v43 w=>
 kP v39 v43 (.bool false) (fun v44 w=>
 gT v44 (kF 23 0 v1) (fun v46 w=>
 gT v44 (kL 3 v46) (fun v47 w=>
 gT v44 (kF 23 2 v1) (fun v48 w=>
 gT v44 (kL 3 v48) (fun v49 w=>
 gT v44 (kF 23 1 v1) (fun v50 w=>
 gT v44 (kL 3 v50) (fun v51 w=>
 gT v44 (callM prog 172 #[v47,v49,v51]) (fun v52 w=>
 gT v44 (kC .eql 3 1 4 v52) (fun v53 w=>
 kP v44 v53 (.bool false) (fun v54 w=>
 K v54 w) w) w) w) w) w) w) w) w) w) w) w) w) w) w) w) w)) w) w) w) w) w) w) w) w) w) w) w) w) w) w) w) w) w) w) w) w) w) w) w) w) w) w) w) w) w) w
theorem sh_110_ok {a0:Value} {K:VK} {w:World} (h:sh_110 a0 K w):callM prog 110 #[a0] K w:=
 calls_of_code (fun _=>0) (fn:=Tryz.f110) (rs:=[.tmp 2]) Tryz.func110 rfl rfl (by kernel_rfl) (nB rfl) (Eq.mp (by kernel_rfl) h)
def sh_173 (a0 a1:Value) (K:VK) (w:World):Prop:=
 oM prog (.box 23 (.tmp 0)) 0 [a0] (fun v2 w=>
 kB .geq 3 4 a1 (.int .i64 1) (fun v6 w=>
 gT v6 (pureM a1) (fun v8 w=>
 gT v6 (kF 23 0 v2) (fun v9 w=>
 gT v6 (kL 3 v9) (fun v10 w=>
 gT v6 (kB .lss 3 4 v8 v10) (fun v11 w=>
 kP v6 v11 (.bool false) (fun v12 w=>
 gT v12 (kF 23 0 v2) (fun v14 w=>
 gT v12 (kL 3 v14) (fun v15 w=>
 gT v12 (pureM a1) (fun v16 w=>
 gT v12 (kF 23 1 v2) (fun v17 w=>
 gT v12 (kL 3 v17) (fun v18 w=>
 gT v12 (callM prog 172 #[v15,v16,v18]) (fun v19 w=>
 gT v12 (kC .eql 3 1 4 v19) (fun v20 w=>
 kP v12 v20 (.bool false) (fun v21 w=>
 K v21 w) w) w) w) w) w) w) w) w) w) w) w) w) w) w) w
theorem sh_173_ok {a0 a1:Value} {K:VK} {w:World} (h:sh_173 a0 a1 K w):callM prog 173 #[a0,a1] K w:=
 calls_of_code (fun _=>0) (fn:=Tryz.f173) (rs:=[.tmp 4]) Tryz.func173 rfl rfl (by kernel_rfl) (nB rfl) (Eq.mp (by kernel_rfl) h)
def sh_146 (a0 a1:Value) (K:VK) (w:World):Prop:=
 oM prog (.box 23 (.tmp 0)) 0 [a0] (fun v2 w=>
 kB .geq 3 4 a1 (.int .i64 1) (fun v6 w=>
 gT v6 (pureM a1) (fun v8 w=>
 gT v6 (kF 23 0 v2) (fun v9 w=>
 gT v6 (kL 3 v9) (fun v10 w=>
 gT v6 (kB .lss 3 4 v8 v10) (fun v11 w=>
 kP v6 v11 (.bool false) (fun v12 w=>
 gT v12 (kL 23 v2) (fun v14 w=>
 gT v12 (callM prog 110 #[v14]) (fun v15 w=>
 kP v12 v15 (.bool false) (fun v16 w=>
 gT v16 (kL 23 v2) (fun v18 w=>
 gT v16 (pureM a1) (fun v19 w=>
 gT v16 (callM prog 173 #[v18,v19]) (fun v20 w=>
 kP v16 v20 (.bool false) (fun v21 w=>
 K v21 w) w) w) w) w) w) w) w) w) w) w) w) w) w) w
theorem sh_146_ok {a0 a1:Value} {K:VK} {w:World} (h:sh_146 a0 a1 K w):callM prog 146 #[a0,a1] K w:=
 calls_of_code (fun _=>0) (fn:=Tryz.f146) (rs:=[.tmp 4]) Tryz.func146 rfl rfl (by kernel_rfl) (nB rfl) (Eq.mp (by kernel_rfl) h)
def sh_137 (a0 a1 a2:Value) (K:VK) (w:World):Prop:=
 oM prog (.box 23 (.tmp 0)) 0 [a0] (fun v3 w=>
 kF 23 0 v3 (fun v7 w=>
 kL 3 v7 (fun v8 w=>
 callM prog 167 #[v8] (fun v9 w=>
 kU v9 (fun v10 w=>
 gF v10 (kF 23 1 v3) (fun v12 w=>
 gF v10 (kL 3 v12) (fun v13 w=>
 gF v10 (callM prog 167 #[v13]) (fun v14 w=>
 gF v10 (kU v14) (fun v15 w=>
 kP v10 (.bool true) v15 (fun v16 w=>
 condM v16
 (K (.int .i64 0) w)
 (heldM w (fun C_11 w=>(((true:Bool) = true) ∧ (jF 23 0 v3 C_11 (fun v17=>
 jL 3 v17 C_11 (fun v18=>
 pureH a1 C_11 (fun v19=>
 jF 23 1 v3 C_11 (fun v20=>
 jL 3 v20 C_11 (fun v21=>
 pureH a2 C_11 (fun v22=>
 ∃ S_18:World → WK,∀ w,C_11 w → (
 callM prog 168 #[v21,v22] (fun v23 w=>C_11 w ∧ (
 callM prog 172 #[v18,v19,v23] (fun v24 w=>C_11 w ∧ (
 C_11 w ∧ (K v24 w))) w)) w)))))))))))) w) w) w) w) w) w) w) w) w) w
theorem sh_137_ok {a0 a1 a2:Value} {K:VK} {w:World} (h:sh_137 a0 a1 a2 K w):callM prog 137 #[a0,a1,a2] K w:=
 calls_of_code (fun _=>.mono [0,1,2,3,4,5] [] [6,7,8]) (fn:=Tryz.f137) (rs:=[.tmp 6]) Tryz.func137 rfl rfl (by kernel_rfl) (nB rfl) (Eq.mp (by kernel_rfl) h)
def sh_138 (a0 a1 a2:Value) (K:VK) (w:World):Prop:=
 oM prog (.box 23 (.tmp 0)) 0 [a0] (fun v3 w=>
 kF 23 1 v3 (fun v7 w=>
 kL 3 v7 (fun v8 w=>
 callM prog 167 #[v8] (fun v9 w=>
 kU v9 (fun v10 w=>
 condM v10
 (K (.int .i64 0) w)
 (kF 23 0 v3 (fun v11 w=>
 kL 3 v11 (fun v12 w=>
 callM prog 104 #[v12,a1,a2] (fun v15 w=>
 K v15 w) w) w) w)) w) w) w) w) w
theorem sh_138_ok {a0 a1 a2:Value} {K:VK} {w:World} (h:sh_138 a0 a1 a2 K w):callM prog 138 #[a0,a1,a2] K w:=
 calls_of_code (fun _=>0) (fn:=Tryz.f138) (rs:=[.tmp 6]) Tryz.func138 rfl rfl (by kernel_rfl) (nB rfl) (Eq.mp (by kernel_rfl) h)
def sh_111 (a0 a1:Value) (K:VK) (w:World):Prop:=
 oM prog (.box 23 (.tmp 0)) 0 [a0] (fun v2 w=>
 kC .neq 3 1 4 a1 (fun v6 w=>
 gT v6 (kL 23 v2) (fun v8 w=>
 gT v6 (pureM a1) (fun v9 w=>
 gT v6 (callM prog 173 #[v8,v9]) (fun v10 w=>
 kP v6 v10 (.bool false) (fun v11 w=>
 K v11 w) w) w) w) w) w) w
theorem sh_111_ok {a0 a1:Value} {K:VK} {w:World} (h:sh_111 a0 a1 K w):callM prog 111 #[a0,a1] K w:=
 calls_of_code (fun _=>0) (fn:=Tryz.f111) (rs:=[.tmp 4]) Tryz.func111 rfl rfl (by kernel_rfl) (nB rfl) (Eq.mp (by kernel_rfl) h)
def sh_22 (a0:Value) (K:VK) (w:World):Prop:=
 oM prog (.box 26 (.tmp 0)) 0 [a0] (fun v1 w=>
 kF 26 0 v1 (fun v4 w=>
 kL 23 v4 (fun v5 w=>
 callM prog 110 #[v5] (fun v6 w=>
 kU v6 (fun v7 w=>
 gF v7 (kF 26 1 v1) (fun v9 w=>
 gF v7 (kL 24 v9) (fun v10 w=>
 gF v7 (kN 24 v10) (fun v11 w=>
 gF v7 (kB .lss 3 4 v11 (.int .i64 2)) (fun v12 w=>
 kP v7 (.bool true) v12 (fun v13 w=>
 gF v13 (kF 26 1 v1) (fun v15 w=>
 gF v13 (kL 24 v15) (fun v16 w=>
 gF v13 (kN 24 v16) (fun v17 w=>
 gF v13 (kB .gtr 3 4 v17 (.int .i64 7)) (fun v18 w=>
 kP v13 (.bool true) v18 (fun v19 w=>
 gF v19 (kF 26 0 v1) (fun v21 w=>
 gF v19 (kL 23 v21) (fun v22 w=>
 gF v19 (kF 26 2 v1) (fun v23 w=>
 gF v19 (kL 3 v23) (fun v24 w=>
 gF v19 (callM prog 111 #[v22,v24]) (fun v25 w=>
 gF v19 (kU v25) (fun v26 w=>
 kP v19 (.bool true) v26 (fun v27 w=>
 condM v27
 (K (.bool false) w)
 (loopM [(.bool false),(.int .i64 0)] w (fun J_23 m_24 l_25 u_l_25 w0_l_25=>(fun w=>(
 kF 26 1 v1 (fun v29 w=>
 kL 24 v29 (fun v30 w=>
 kN 24 v30 (fun v31 w=>
 kB .lss 3 4 (l_25.getD 1 undef) v31 (fun v32 w=>
 condM v32
 (heldM w (fun C_30 w=>(((true:Bool) = true) ∧ (jF 26 0 v1 C_30 (fun v35=>
 jL 23 v35 C_30 (fun v36=>
 jF 26 1 v1 C_30 (fun v37=>
 jL 24 v37 C_30 (fun v38=>
 pureH (l_25.getD 1 undef) C_30 (fun v39=>
 jI 24 v38 v39 C_30 (fun v40=>
 jL 3 v40 C_30 (fun v41=>
 ∃ S_38:World → WK,∀ w,C_30 w → (
 callM prog 111 #[v36,v41] (fun v42 w=>C_30 w ∧ (
 kU v42 (fun v43 w=>C_30 w ∧ (
 condM v43
 (K (.bool false) w)
 (kB .add 3 3 (l_25.getD 1 undef) (.int .i64 1) (fun v34 w=>
 J_23 [(l_25.getD 0 undef),v34] w ∧ m_24 [(l_25.getD 0 undef),v34] w < m_24 l_25 w0_l_25) w))) w)) w))))))))))))
 (K (.bool true) w)) w) w) w) w)) w0_l_25))) w) w) w) w) w) w) w) w) w) w) w) w) w) w) w) w) w) w) w) w) w) w
theorem sh_22_ok {a0:Value} {K:VK} {w:World} (h:sh_22 a0 K w):callM prog 22 #[a0] K w:=
 calls_of_code (fun _=>.mono [0,1,2,3,4,5,6] [] [7,8]) (fn:=Tryz.f22) (rs:=[.tmp 2]) Tryz.func22 rfl rfl (by kernel_rfl) (nB rfl) (Eq.mp (by kernel_rfl) h)
end Go.Proofs
namespace Go.Proofs
open Go Go.Sh Go.RowKit FdSpec
section
variable {K:VK} {w:World}
theorem oM_shrI {P:Program} (t t' T:TypeId) (yk:IntKind) (x y:Int) (h0:0 ≤ y) (h1:y ≤ 64):oM P (.binOp .shr t (.tmp 0) (.tmp 1) t') T [.int .i64 x,.int yk y] = pureM (.int .i64 (x / 2 ^ y.toNat)):=by
 funext K w
 simp [oM,opM,xop,execOp,evalL,evE,binOp]
 rfl
theorem oM_andI {P:Program} (t t' T:TypeId) (x y:Int):oM P (.binOp .and t (.tmp 0) (.tmp 1) t') T [.int .i64 x,.int .i64 y] = pureM (.int .i64 (bits .and .i64 x y)):=by
 funext K w
 simp [oM,opM,xop,execOp,evalL,evE,binOp,go_sem]
theorem bits_andI (x:Int) (hx:0 ≤ x ∧ x < 9223372036854775808):bits .and .i64 x 3 = x % 4:=by
 obtain ⟨a,rfl⟩:=Int.eq_ofNat_of_zero_le hx.1
 simp only [bits]
 rw [show (3:Int) = ((3:Nat):Int) from rfl,BitVec.ofInt_natCast,BitVec.ofInt_natCast,BitVec.toNat_and]
 simp only [BitVec.toNat_ofNat]
 rw [show IntKind.i64.bits = 64 from rfl,Nat.mod_eq_of_lt (show a < 2 ^ 64 by omega),Nat.mod_eq_of_lt (show 3 < 2 ^ 64 by decide),show 3 = 2 ^ 2 - 1 from rfl,Nat.and_two_pow_sub_one_eq_mod]
 rw [wrapI64 _ (by omega) (by omega)]
 omega
theorem rValid_ok (n:Int) (h:K (.bool (decide (okN n))) w):callM Tryz.prog 167 #[.int .i64 n] K w:=by
 apply sh_167_ok
 unfold sh_167
 have e:decide (okN n) = (decide (1 ≤ n) && decide (n < 2305843009213693952)):=by
  by_cases h1:1 ≤ n <;> by_cases h2:n < 2305843009213693952 <;> simp [okN,h1,h2]
 rw [e] at h
 by_cases h1:1 ≤ n
 ·repeat (any_goals (first
  | (with_reducible first|refine pureM_in ?_|refine zA ?_|refine yB ?_)
  | ((with_reducible refine oG fun Kv hK=>?_); simp [go_sem,h1]; apply hK; clear hK Kv)))
  simpa [h1] using h
 ·repeat (any_goals (first
  | (with_reducible first|refine zB ?_|refine yC ?_)
  | ((with_reducible refine oG fun Kv hK=>?_); simp [go_sem,h1]; apply hK; clear hK Kv)))
  simpa [h1] using h
theorem rResidue_ok (n a:Int) (hn:okN n) (h:K (.int .i64 (a % n)) w):callM Tryz.prog 168 #[.int .i64 n,.int .i64 a] K w:=by
 apply sh_168_ok
 unfold sh_168
 obtain ⟨h1,h2⟩:=hn
 have e:=residue_eq n a (by omega)
 have h3:=Int.emod_nonneg a (b:=n) (by omega)
 have h4:=Int.emod_lt_of_pos a (b:=n) (by omega)
 obtain ⟨r,hr⟩:∃ r,r = a.tmod n:=⟨_,rfl⟩
 rw [← hr] at e
 have hjm:∀ (l:List Value) (u:Env) (w':World),(fun l w'=>l = [Value.int .i64 (a % n)] ∧ w' = w) l w' → K (l.getD 0 undef) w':=by
  rintro l u w' ⟨rfl,rfl⟩; exact h
 repeat (any_goals ((with_reducible refine oG fun Kv hK=>?_); simp [go_sem,← hr]; refine And.intro (by omega) (hK _ _ ?_); clear hK Kv))
 refine ⟨fun l w'=>l = [Value.int .i64 (a % n)] ∧ w' = w,?_,fun l u w' hl=>hjm l u w' hl⟩
 repeat (any_goals (first
 | (with_reducible ((refine idCond ?_); refine yP (fun hg=>?_) fun hg=>?_))
 | ((with_reducible refine oG fun Kv hK=>?_); simp [go_sem]; (try simp (disch:=omega) only [wrapI64,wrapU8,wrapU32,wrapU64]); apply hK; clear hK Kv)))
 ·rw [if_pos (by assumption)] at e; rw [e]; exact ⟨rfl,rfl⟩
 ·rw [if_neg (by assumption)] at e; rw [e]; exact ⟨rfl,rfl⟩
def MuJ (n x y:Int) (w0:World) (l:List Value) (w':World):Prop:=w' = w0 ∧ ∃ (o:Int) (u v:Value) (j:Nat),l = [.int .i64 o,u,v,.int .i64 (60 - 2 * (j:Int))] ∧ j ≤ 31 ∧ o = x * (y / 2 ^ (62 - 2 * j)) % n
def muMu (l:List Value) (_:World):Nat:=match l with | [_,_,_,.int _ k]=>(k + 2).toNat | _=>0
theorem muMu_eq (a b c:Value) (q:IntKind) (k:Int) (w:World):muMu [a,b,c,.int q k] w = (k + 2).toNat:=rfl
def MiJ (n x o:Int) (d:Int) (w0:World) (l:List Value) (w':World):Prop:=w' = w0 ∧ ∃ (p:Int) (i:Nat),l = [.int .i64 p,.int .i64 (i:Int)] ∧ (i:Int) ≤ d ∧ p = (o + (i:Int) * x) % n
def miMu (d:Int) (l:List Value) (_:World):Nat:=match l with | [_,.int _ k]=>(d - k).toNat | _=>0
theorem miMu_eq (d:Int) (a:Value) (q:IntKind) (k:Int) (w:World):miMu d [a,.int q k] w = (d - k).toNat:=rfl
theorem rMul_ok (n a b:Int) (h:K (.int .i64 (mulM n a b)) w):callM Tryz.prog 104 #[.int .i64 n,.int .i64 a,.int .i64 b] K w:=by
 apply sh_104_ok
 unfold sh_104
 refine rValid_ok n ?_
 by_cases hn:okN n
 ·repeat (any_goals (first
  | (with_reducible refine yR ?_)
  | ((with_reducible refine oG fun Kv hK=>?_); simp [go_sem]; apply hK; clear hK Kv)))
  refine rResidue_ok n a hn ?_
  refine rResidue_ok n b hn ?_
  rw [← mulM_eq n a b hn] at h
  have a1:=Int.emod_nonneg a (show n ≠ 0 by have:=hn.1; omega)
  have a2:=Int.emod_lt_of_pos a (show 0 < n by have:=hn.1; omega)
  have b1:=Int.emod_nonneg b (show n ≠ 0 by have:=hn.1; omega)
  have b2:=Int.emod_lt_of_pos b (show 0 < n by have:=hn.1; omega)
  obtain ⟨h1,h2⟩:=hn
  generalize a % n = x at *
  generalize b % n = y at *
  have hxy:0 ≤ x * y:=Int.mul_nonneg a1 b1
  by_cases hs:n ≤ 2147483648
  ·have hb:x * y ≤ 2147483648 * 2147483648:=Int.mul_le_mul (by omega) (by omega) b1 (by omega)
   have e:(x * y).tmod n = x * y % n:=Int.tmod_eq_emod_of_nonneg hxy
   repeat (any_goals (first
   | (with_reducible refine yN ?_)
   | ((with_reducible refine oG fun Kv hK=>?_); simp [go_sem,e]; (try simp (disch:=omega) only [wrapI64,wrapU8,wrapU32,wrapU64]); (first|refine hK _ _ ?_|refine And.intro (by omega) (hK _ _ ?_)); clear hK Kv)))
   exact h
  ·repeat (any_goals (first
   | (with_reducible refine yO ?_)
   | ((with_reducible refine oG fun Kv hK=>?_); simp [go_sem]; apply hK; clear hK Kv)))
   refine ⟨MuJ n x y w,muMu,⟨rfl,0,_,_,0,rfl,by omega,?_⟩,?_⟩
   ·rw [show y / 2 ^ (62 - 2 * 0) = 0 by omega]; simp
   rintro _ _ w1 ⟨rfl,o,u,v,j,rfl,hj,ho⟩
   by_cases hj31:j = 31
   ·subst hj31
    have:o = x * y % n:=by rw [ho]; simp
    repeat (any_goals (first
    | (with_reducible refine yM ?_)
    | ((with_reducible refine oG fun Kv hK=>?_); simp [go_sem]; apply hK; clear hK Kv)))
    rw [this]
    exact h
   ·have o1:0 ≤ o:=by rw [ho]; exact Int.emod_nonneg _ (by omega)
    have o2:o < n:=by rw [ho]; exact Int.emod_lt_of_pos _ (by omega)
    have e4:(4 * o).tmod n = 4 * o % n:=Int.tmod_eq_emod_of_nonneg (by omega)
    have sh:=fun t t' T=>oM_shrI (P:=Tryz.prog) t t' T .i64 y (60 - 2 * (j:Int)) (by omega) (by omega)
    have ek:(60 - 2 * (j:Int)).toNat = 60 - 2 * j:=by omega
    rw [ek] at sh
    have ey:y / 2 ^ (60 - 2 * j) = 4 * (y / 2 ^ (62 - 2 * j)) + y / 2 ^ (60 - 2 * j) % 4:=by
     have:y / 2 ^ (62 - 2 * j) = y / 2 ^ (60 - 2 * j) / 4:=by
      rw [show 62 - 2 * j = (60 - 2 * j) + 2 by omega,Int.pow_add]
      exact (Int.ediv_ediv_of_nonneg (Int.le_of_lt (Int.pow_pos (by omega)))).symm
     rw [this]; omega
    have q1:0 ≤ y / 2 ^ (60 - 2 * j):=Int.ediv_nonneg b1 (Int.le_of_lt (Int.pow_pos (by omega)))
    have q2:y / 2 ^ (60 - 2 * j) ≤ y:=Int.ediv_le_self _ b1
    obtain ⟨q,hq⟩:∃ q,q = y / 2 ^ (60 - 2 * j):=⟨_,rfl⟩
    rw [← hq] at sh ey q1 q2
    have eb:=bits_andI q (by omega)
    repeat (any_goals (first
    | (with_reducible refine yN ?_)
    | ((with_reducible refine oG fun Kv hK=>?_); simp [go_sem,e4,sh,oM_andI,eb]; (try simp (disch:=omega) only [wrapI64,wrapU8,wrapU32,wrapU64]); (first|refine hK _ _ ?_|refine And.intro (by omega) (hK _ _ ?_)); clear hK Kv)))
    generalize hd:q % 4 = d at *
    have d1:0 ≤ d:=by omega
    have d2:d < 4:=by omega
    refine ⟨MiJ n x (4 * o) d w1,miMu d,⟨rfl,_,0,rfl,by omega,by simp⟩,?_⟩
    rintro _ _ w2 ⟨rfl,p,i,rfl,hi,hp⟩
    have p1:0 ≤ p:=by rw [hp]; exact Int.emod_nonneg _ (by omega)
    have p2:p < n:=by rw [hp]; exact Int.emod_lt_of_pos _ (by omega)
    by_cases hid:(i:Int) < d
    ·have ep:(p + x).tmod n = (p + x) % n:=Int.tmod_eq_emod_of_nonneg (by omega)
     repeat (any_goals (first
     | (with_reducible refine yN ?_)
     | ((with_reducible refine oG fun Kv hK=>?_); simp [go_sem,ep]; (try simp (disch:=omega) only [wrapI64,wrapU8,wrapU32,wrapU64]); (first|refine hK _ _ ?_|refine And.intro (by omega) (hK _ _ ?_)); clear hK Kv)))
     refine ⟨⟨rfl,_,i + 1,rfl,by omega,?_⟩,?_⟩
     ·rw [hp,Int.emod_add_emod]; congr 1; rw [Int.natCast_add,Int.add_mul]; omega
     ·simp only [miMu_eq]; omega
    ·have hid2:(i:Int) = d:=by omega
     repeat (any_goals (first
     | (with_reducible refine yO ?_)
     | ((with_reducible refine oG fun Kv hK=>?_); simp [go_sem]; (try simp (disch:=omega) only [wrapI64,wrapU8,wrapU32,wrapU64]); apply hK; clear hK Kv)))
     refine ⟨⟨rfl,_,_,_,j + 1,by rw [show 60 - 2 * (j:Int) - 2 = 60 - 2 * ((j + 1:Nat):Int) by omega]; rfl,by omega,?_⟩,?_⟩
     ·rw [hp,hid2,ho,show 62 - 2 * (j + 1) = 60 - 2 * j by omega]
      rw [← hq,ey]
      generalize y / 2 ^ (62 - 2 * j) = Y
      rw [Int.add_emod,Int.mul_emod,Int.emod_emod_of_dvd _ (Int.dvd_refl n),← Int.mul_emod,← Int.add_emod,Int.mul_add,Int.mul_comm d x]
      congr 2
      rw [← Int.mul_assoc,← Int.mul_assoc,Int.mul_comm 4 x]
     ·simp only [muMu_eq]; omega
 ·unfold mulM at h
  rw [if_neg hn] at h
  repeat (any_goals (first
  | (with_reducible refine yQ ?_)
  | ((with_reducible refine oG fun Kv hK=>?_); simp [go_sem]; apply hK; clear hK Kv)))
  exact h
def RpJ (n R:Int) (w0:World) (l:List Value) (w':World):Prop:=w' = w0 ∧ ∃ (o a:Int) (b:Nat),l = [.int .i64 o,.int .i64 a,.int .i64 (b:Int)] ∧ (0 ≤ o ∧ o < n) ∧ (0 ≤ a ∧ a < n) ∧ b < 9223372036854775808 ∧ o * a ^ b % n = R
def rpMu (l:List Value) (_:World):Nat:=match l with | [_,_,.int _ k]=>k.toNat | _=>0
theorem rpMu_eq (a b:Value) (q:IntKind) (k:Int) (w:World):rpMu [a,b,.int q k] w = k.toNat:=rfl
theorem mulM_res (n a b:Int) (hn:okN n):mulM n a b = a * b % n:=by rw [mulM,if_pos hn]
theorem rpow_ok (n a:Int) (b:Nat) (hn:okN n) (hb:b < 9223372036854775808) (h:K (.int .i64 (pw n a b)) w):callM Tryz.prog 172 #[.int .i64 n,.int .i64 a,.int .i64 (b:Int)] K w:=by
 apply sh_172_ok
 unfold sh_172
 have hn1:=hn.1
 have hn2:=hn.2
 have e1:(1:Int).tmod n = 1 % n:=Int.tmod_eq_emod_of_nonneg (by omega)
 repeat (any_goals ((with_reducible refine oG fun Kv hK=>?_); simp [go_sem,e1]; refine And.intro (by omega) (hK _ _ ?_); clear hK Kv))
 refine rResidue_ok n a hn ?_
 have m1:=Int.emod_nonneg 1 (show n ≠ 0 by omega)
 have m2:=Int.emod_lt_of_pos 1 (show 0 < n by omega)
 have a1:=Int.emod_nonneg a (show n ≠ 0 by omega)
 have a2:=Int.emod_lt_of_pos a (show 0 < n by omega)
 have hR0:1 % n * (a % n) ^ b % n = pw n a b:=by
  rw [Int.mul_emod,Int.emod_emod_of_dvd _ (Int.dvd_refl n),← Int.mul_emod,Int.one_mul]
  exact pw_emod n a b
 generalize pw n a b = R at h hR0
 refine ⟨RpJ n R w,rpMu,⟨rfl,_,_,b,rfl,⟨m1,m2⟩,⟨a1,a2⟩,hb,hR0⟩,?_⟩
 clear m1 m2 a1 a2 hb hR0
 rintro _ _ w1 ⟨rfl,o,c,b,rfl,ho,hc,hb,hR⟩
 by_cases hb0:b = 0
 ·subst hb0
  have:o = R:=by
   rw [← hR]; simp
   exact (Int.emod_eq_of_lt ho.1 ho.2).symm
  repeat (any_goals (first
  | (with_reducible refine yM ?_)
  | ((with_reducible refine oG fun Kv hK=>?_); simp [go_sem]; apply hK; clear hK Kv)))
  rw [this]; exact h
 ·have e2:(b:Int).tmod 2 = ((b % 2:Nat):Int):=by rw [Int.tmod_eq_emod_of_nonneg (by omega)]; omega
  have e3:(b:Int).tdiv 2 = ((b / 2:Nat):Int):=by rw [Int.tdiv_eq_ediv_of_nonneg (by omega)]; omega
  repeat (any_goals (first
  | (with_reducible refine yN ?_)
  | ((with_reducible refine oG fun Kv hK=>?_); simp [go_sem]; apply hK; clear hK Kv)))
  refine ⟨fun l w'=>w' = w1 ∧ ∃ o',l = [.int .i64 o'] ∧ (0 ≤ o' ∧ o' < n) ∧ o' * (c * c % n) ^ (b / 2) % n = R,?_,?_⟩
  ·rcases Nat.mod_two_eq_zero_or_one b with h2 | h2
   ·rw [h2] at e2
    repeat (any_goals (first
    | (with_reducible refine yM ?_)
    | ((with_reducible refine oG fun Kv hK=>?_); simp [go_sem,e2]; apply hK; clear hK Kv)))
    exact ⟨rfl,o,rfl,ho,by rw [pw_even n c o b h2]; exact hR⟩
   ·rw [h2] at e2
    repeat (any_goals (first
    | (with_reducible refine yL ?_)
    | ((with_reducible refine oG fun Kv hK=>?_); simp [go_sem,e2]; apply hK; clear hK Kv)))
    refine rMul_ok n o c ?_
    rw [mulM_res n o c hn]
    exact ⟨rfl,_,rfl,⟨Int.emod_nonneg _ (by omega),Int.emod_lt_of_pos _ (by omega)⟩,by rw [pw_odd n c o b h2]; exact hR⟩
  ·rintro _ _ w2 ⟨rfl,o',rfl,ho',hR'⟩
   refine rMul_ok n c c ?_
   rw [mulM_res n c c hn]
   repeat (any_goals ((with_reducible refine oG fun Kv hK=>?_); simp [go_sem,e3]; (try simp (disch:=omega) only [wrapI64,wrapU8,wrapU32,wrapU64]); apply hK; clear hK Kv))
   refine ⟨⟨rfl,o',c * c % n,b / 2,by simp,ho',⟨Int.emod_nonneg _ (by omega),Int.emod_lt_of_pos _ (by omega)⟩,by omega,hR'⟩,?_⟩
   simp only [rpMu_eq]; omega
end
end Go.Proofs
namespace Go.Proofs
open Go Go.Sh Go.RowKit FdSpec TkSpec
section
variable {K:VK} {w:World}
def TzJ (m:Nat) (w:World) (l:List Value) (w':World):Prop:=w' = w ∧ ∃ (d k:Nat),l = [.int .i64 (d:Int),.int .i64 (k:Int)] ∧ k ≤ tz 64 m ∧ m / 2 ^ k = d ∧ 0 < d
def tzMu (l:List Value) (_:World):Nat:=match l with | [.int _ d,_]=>d.toNat | _=>0
theorem tzMu_eq (a:Value) (q:IntKind) (d:Int) (w:World):tzMu [.int q d,a] w = d.toNat:=rfl
theorem tz_step (k:Nat):∀ (f m:Nat),0 < m → m < 2 ^ f → k ≤ tz f m → (m / 2 ^ k % 2 = 0 ↔ k < tz f m) ∧ 0 < m / 2 ^ k:=by
 induction k with
 | zero=>
  intro f m hm hf _
  cases f with
  | zero=>omega
  | succ f=>
   unfold tz
   split
   ·rename_i h; simp [h]; omega
   ·rename_i h; simp [h]; omega
 | succ k ih=>
  intro f m hm hf hk
  cases f with
  | zero=>simp [tz] at hk
  | succ f=>
   unfold tz at hk ⊢
   split at hk
   ·rename_i h
    rw [if_pos h]
    have:=ih f (m / 2) (by omega) (by rw [Nat.pow_succ] at hf; omega) (by omega)
    rw [Nat.div_div_eq_div_mul,← Nat.pow_succ'] at this
    exact ⟨by rw [this.1]; omega,this.2⟩
   ·omega
theorem rpasses_ok (n b:Int) (hn:okN n) (h2:2 ≤ n) (k:K (.bool (passes n b)) w):callM Tryz.prog 204 #[.int .i64 n,.int .i64 b] K w:=by
 apply sh_204_ok
 unfold sh_204
 have hn1:=hn.1
 have hn2:=hn.2
 obtain ⟨m,hm⟩:=natN (n - 1) (by omega)
 have hm2:(n - 1).toNat = m:=by omega
 unfold passes at k
 rw [hm2] at k
 have ht:=tz_lt 64 m (by omega) (by omega)
 repeat (any_goals ((with_reducible refine oG fun X Y=>?_); simp [go_sem,hm]; (try simp (disch:=omega) only [wrapI64,wrapU8,wrapU32,wrapU64]); apply Y; clear Y X))
 refine ⟨TzJ m w,tzMu,⟨rfl,m,0,rfl,by omega,by simp,by omega⟩,?_⟩
 rintro _ _ w1 ⟨rfl,d,t,rfl,hd,hmd,hd0⟩
 have hst:=tz_step t 64 m (by omega) (by omega) hd
 rw [hmd] at hst
 have hdm:d ≤ m:=by rw [← hmd]; exact Nat.div_le_self _ _
 have e2:(d:Int).tmod 2 = ((d % 2:Nat):Int):=by rw [Int.tmod_eq_emod_of_nonneg (by omega)]; omega
 have e3:(d:Int).tdiv 2 = ((d / 2:Nat):Int):=by rw [Int.tdiv_eq_ediv_of_nonneg (by omega)]; omega
 by_cases hev:d % 2 = 0
 ·have hlt:=hst.1.1 hev
  rw [hev] at e2
  repeat (any_goals (first
  | (with_reducible refine yL ?_)
  | ((with_reducible refine oG fun X Y=>?_); simp [go_sem,e2,e3]; (try simp (disch:=omega) only [wrapI64,wrapU8,wrapU32,wrapU64]); apply Y; clear Y X)))
  refine ⟨⟨rfl,d / 2,t + 1,by simp,by omega,?_,by omega⟩,?_⟩
  ·rw [Nat.pow_succ,← Nat.div_div_eq_div_mul,hmd]
  ·simp only [tzMu_eq]; omega
 ·have htt:t = tz 64 m:=by have:=mt hst.1.2 hev; omega
  have hodd:d % 2 = 1:=by omega
  rw [hodd] at e2
  have k:K (.bool (if pw n b d = 1 then true else mrUp n t (pw n b d))) w1:=by rw [← hmd,htt]; exact k
  repeat (any_goals (first
  | (with_reducible refine yM ?_)
  | ((with_reducible refine oG fun X Y=>?_); simp [go_sem,e2]; apply Y; clear Y X)))
  refine rpow_ok n b d hn (by omega) ?_
  have hp:=pw_nonneg n b d (by omega)
  generalize pw n b d = x at *
  by_cases hx1:x = 1
  ·simp only [if_pos hx1] at k
   repeat (any_goals (first
   | (with_reducible refine yL ?_)
   | ((with_reducible refine oG fun X Y=>?_); simp [go_sem,hx1]; apply Y; clear Y X)))
   exact k
  ·simp only [if_neg hx1] at k
   repeat (any_goals (first
   | (with_reducible refine yM ?_)
   | ((with_reducible refine oG fun X Y=>?_); simp [go_sem,hx1]; apply Y; clear Y X)))
   refine ⟨fun l w'=>w' = w1 ∧ ∃ (v:Value) (y:Int) (i:Nat),l = [v,.int .i64 y,.int .i64 (i:Int)] ∧ i ≤ t ∧ (0 ≤ y ∧ y < n) ∧ mrUp n (t - i) y = mrUp n t x,wiMu t,⟨rfl,_,x,0,rfl,by omega,hp,rfl⟩,?_⟩
   generalize mrUp n t x = R at *
   rintro _ _ w2 ⟨rfl,v,y,i,rfl,hi,hy,hR⟩
   by_cases hit:i = t
   ·subst hit
    rw [Nat.sub_self] at hR
    have hR2:R = false:=by rw [← hR]; rfl
    subst hR2
    repeat (any_goals (first
    | (with_reducible refine yM ?_)
    | ((with_reducible refine oG fun X Y=>?_); simp [go_sem]; apply Y; clear Y X)))
    exact k
   ·obtain ⟨j,hj⟩:∃ j,t - i = j + 1:=⟨t - i - 1,by omega⟩
    rw [hj] at hR
    unfold mrUp at hR
    by_cases hxn:y = n - 1
    ·rw [if_pos hxn] at hR
     subst hR
     rw [hm] at hxn
     repeat (any_goals (first
     | (with_reducible ((refine idCond ?_); first|refine yL ?_|refine yN ?_))
     | ((with_reducible refine oG fun X Y=>?_); simp [go_sem,hm,hxn]; (try simp (disch:=omega) only [wrapI64,wrapU8,wrapU32,wrapU64]); apply Y; clear Y X)))
     exact k
    ·rw [if_neg hxn] at hR
     rw [hm] at hxn
     repeat (any_goals (first
     | (with_reducible ((refine idCond ?_); first|refine yM ?_|refine yN ?_))
     | ((with_reducible refine oG fun X Y=>?_); simp [go_sem,hm,hxn]; (try simp (disch:=omega) only [wrapI64,wrapU8,wrapU32,wrapU64]); apply Y; clear Y X)))
     refine rMul_ok n y y ?_
     rw [mulM_res n y y hn]
     repeat (any_goals ((with_reducible refine oG fun X Y=>?_); simp [go_sem]; (try simp (disch:=omega) only [wrapI64,wrapU8,wrapU32,wrapU64]); apply Y; clear Y X))
     refine ⟨⟨rfl,_,_,i + 1,rfl,by omega,⟨Int.emod_nonneg _ (by omega),Int.emod_lt_of_pos _ (by omega)⟩,?_⟩,?_⟩
     ·rw [show t - (i + 1) = j by omega]; exact hR
     ·simp only [wiMu_eq]; omega
end
end Go.Proofs
