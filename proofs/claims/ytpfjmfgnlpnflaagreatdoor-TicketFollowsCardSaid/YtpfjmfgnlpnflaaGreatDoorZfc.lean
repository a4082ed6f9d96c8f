/- Parts of the proof of the seat's statements (TkG, TkH, TkI, TkJ, TkK, TkL, TkM, TkN, HTd, ShelfT4, CodeSpec, TcB, TcE, TcR, TcR2, TcI, TkO, TkP0, TkP, HTa, HSha, ShaSpec, ShW, SaA, SaB, SaC, SaD, SaE, TkSpec2, TkR, TkS, TkT, TkSpec3): lemmas about the given translation and plain laws. No condition of their own. -/
import Derived.Test.YtpfjmfgnlpnflaaGreatDoorZfb
import Derived.Test.YtpfjmfgnlpnflaaGreatDoorProg
import Derived.Shelf.Strings.Builder1
import Derived.Shelf.Small.Strs
import Derived.Shelf.Small.Wraps
import Derived.Shelf.Strings.BuilderF
import Derived.Shelf.Strings.BuilderK
import Derived.Shelf.Strconv.Atoi
import Derived.Shelf.Strconv.Itoa0
import Derived.Shelf.Strconv.Itoa1
import Derived.Shelf.LaysM
import Derived.Shelf.Strconv.Itoa2
import Derived.Shelf.Strconv.Itoa3
import Derived.Shelf.Strconv.AtoiErrFast
import Derived.Shelf.Strconv.ParseIntEmpty
import Derived.Shelf.Strconv.AtoiFail
import Derived.Shelf.Strconv.Clone
import Derived.Shelf.Strconv.SyntaxError
import Derived.Shelf.LaysC
import Derived.Shelf.Strconv.ToError
import Derived.Shelf.Strconv.Lower
import Derived.Shelf.Strconv.ParseUint10
import Derived.Shelf.Strconv.ParseUint10Empty
import Derived.Shelf.Strconv.ParseUint10Any
import Derived.Shelf.Strconv.ParseInt10
import Derived.Shelf.Strconv.AtoiLong
import Derived.Shelf.Strconv.AtoiInnerAll
import Derived.Shelf.Strconv.RangeError
import Derived.Shelf.Strconv.ToErrorRange
import Derived.Shelf.Strconv.AtoiAll
import Derived.Shelf.Strconv.ErrVarAll
import Derived.Shelf.Strings.Search1
import Derived.Shelf.Strings.Prefix
import Derived.Shelf.Bits.Mul64
import Derived.Test.YtpfjmfgnlpnflaaGreatDoorRows
import Derived.Lib.ItoaNum
import Derived.Lib.AtoiAllCases
import Derived.Lib.Builder
import Derived.Lib.AppendStr
import Derived.Lib.AppendIntMem
import Derived.Laws.StructEq
set_option linter.all false
set_option maxRecDepth 100000
namespace Go.Proofs
open Go Go.Sh Go.RowKit FdSpec TkSpec
section
variable {K:Value → World → Prop} {w w0:World} {L:List (Addr × Value)}
@[reducible] def offV (o:Off):Value:=.agg #[.int .i64 o.z,.int .i64 o.a,.int .i64 o.b]
@[reducible] def tktV (t:Tkt):Value:=.agg #[.int .i64 t.mark,.int .i64 t.first,.int .i64 t.z,.int .i64 t.a,.int .i64 t.b,.int .i64 t.r]
@[reducible] def tktC (t:Tkt):List Value:=[.int .i64 t.mark,.int .i64 t.first,.int .i64 t.z,.int .i64 t.a,.int .i64 t.b,.int .i64 t.r]
@[reducible] def bldV (b:Bld) (v:Value):Value:=.agg #[.int .i64 b.s,.int .i64 b.u,.int .i64 b.v,v]
@[reducible] def bldC (b:Bld) (v:Value):List Value:=[.int .i64 b.s,.int .i64 b.u,.int .i64 b.v,v]
@[reducible] def spdV (x:Spd) (v:Value):Value:=.agg #[.int .i64 x.dare,v]
@[reducible] def spdC (x:Spd) (v:Value):List Value:=[.int .i64 x.dare,v]
structure TktR (t:Tkt):Prop where
 mark:I64 t.mark
 first:I64 t.first
 z:I64 t.z
 a:I64 t.a
 b:I64 t.b
 r:I64 t.r
structure BldR (w:World) (b:Bld) (bv:Value):Prop where
 s:I64 b.s
 u:I64 b.u
 v:I64 b.v
 ys:Ints w bv b.ys
structure SpdR (w:World) (x:Spd) (v:Value):Prop where
 dare:I64 x.dare
 answers:Ints w v x.answers
theorem BldR.next {w w':World} {b:Bld} {v:Value} (h:BldR w b v) (hb:Below w.heap.size w w'):BldR w' b v:=⟨h.s,h.u,h.v,h.ys.next hb⟩
theorem SpdR.next {w w':World} {x:Spd} {v:Value} (h:SpdR w x v) (hb:Below w.heap.size w w'):SpdR w' x v:=⟨h.dare,h.answers.next hb⟩
theorem sz_off (w:World):(sizeOf 37).run Tryz.prog w = .ok 3 w:=by kernel_rfl
theorem al_off (w:World):(Instr.alloc 37 true (.tuple #[])).run Tryz.prog w = .ok (.pointer (some ⟨w.heap.size,0,none⟩)) (w.alloc (.cells [.int .i64 0,.int .i64 0,.int .i64 0].toArray 37)):=by kernel_rfl
theorem off_one (o:Off):∀ u ∈ [Value.int .i64 o.z,.int .i64 o.a,.int .i64 o.b],u.oneCell' = true:=by
 intro u hu
 simp only [List.mem_cons,List.not_mem_nil,or_false] at hu
 rcases hu with rfl | rfl | rfl <;> rfl
theorem store_off {K:Value → World → Prop} {T':TypeId} {g:Nat} (o:Off) (hk:KnM w0 L g 3 w)
  (k:∀ W,KnM w0 L g 3 W → cellsAre W (cellsOf [] g 0 [.int .i64 o.z,.int .i64 o.a,.int .i64 o.b]) → K undef W):oM Tryz.prog (.store 37 (.tmp 0) (.tmp 1)) T' [.pointer (some ⟨g,0,none⟩),offV o] K w:=
 store_mine sz_off rfl rfl (off_one o) hk k
theorem propose_no {s:Stp} {x:Int} {l:List Int} {y:Int} (h:(usableM s l).2 = false ∨ numsM s 1 [x] = false ∨ numsM s 0 [y] = false):proposeM s x l y = (⟨0,0,0⟩,1):=by
 unfold proposeM
 rw [if_neg]
 rcases h with h | h | h <;> simp [h]
theorem Propose_ok (s:Stp) (x y:Int) {v lv:Value} {l:List Int} (hx:I64 x) (hy:I64 y) (hs:SetR w s v) (hl:Ints w lv l) (k:∀ w',Below w.heap.size w w' → K (.tuple #[offV (proposeM s x l y).1,.int .i64 (proposeM s x l y).2]) w'):callM Tryz.prog 34 #[stpV s v,.int .i64 x,lv,.int .i64 y] K w:=by
 apply sh_34_ok
 unfold sh_34
 obtain ⟨ad,c,rfl⟩:=hs.ints.isSlice
 have k2:∀ w' r,proposeM s x l y = r → Below w.heap.size w w' → K (.tuple #[offV r.1,.int .i64 r.2]) w':=fun w' r e hb=>by rw [← e]; exact k w' hb
 clear k
 refine box_kn (cs:=stpC s (.slice ad s.bases.length c)) rfl (.start w) fun b W hk hb1 hb=>?_
 refine alloc_mine al_off rfl hk fun g W2 hk hb2 hg=>?_
 refine Xa hk.cells ?_
 refine usable_ok s (hs.next hk.below) (hl.next hk.below) (fun w2 h2=>?_)
 have hk:=hk.next h2
 clear hb1 h2 hb2
 obtain ⟨⟨m,u⟩,hm⟩:∃ x,usableM s l = x:=⟨_,rfl⟩
 rw [hm]
 cases u with
 | false=>
  repeat (any_goals (first
  | ((with_reducible refine local_desk s ad s.bases.length c hk ?_); intro b7 W7 hk hb7 hg7)
  | (with_reducible first|refine zD ?_|refine yB ?_|refine yL ?_)
  | ((with_reducible refine oM_gen fun Kv hK=>?_); simp [go_sem,hk.cells]; refine hK _ _ ?_; clear hK Kv)))
  refine store_off ⟨0,0,0⟩ hk (fun W3 hk hc=>⟨_,by simp [go_sem,hc],k2 _ _ (propose_no (.inl (by rw [hm]))) hk.below⟩)
 | true=>
  repeat (any_goals (first
  | ((with_reducible refine local_desk s ad s.bases.length c hk ?_); intro b7 W7 hk hb7 hg7) | ((with_reducible refine mk1 x hx ?_); intro v8 W8 hb8 hi)
  | (with_reducible first|refine pureM_in ?_|refine zC ?_)
  | ((with_reducible refine oM_gen fun Kv hK=>?_); simp [go_sem,hk.cells]; refine hK _ _ ?_; clear hK Kv)))
  have hk:=hk.next hb8
  refine nums_ok s 1 (hs.next hk.below) hi (fun w3 h3=>?_)
  have hk:=hk.next h3
  cases hn:numsM s 1 [x] with
  | false=>
   refine Xa hk.cells ?_
   refine store_off ⟨0,0,0⟩ hk (fun W3 hk hc=>⟨_,by simp [go_sem,hc],k2 _ _ (propose_no (.inr (.inl hn))) hk.below⟩)
  | true=>
   repeat (any_goals (first
   | ((with_reducible refine mk1 y hy ?_); intro v9 W9 hb9 hi)
   | (with_reducible first|refine pureM_in ?_|refine zC ?_|refine yC ?_)
   | ((with_reducible refine oM_gen fun Kv hK=>?_); simp [go_sem,hk.cells]; refine hK _ _ ?_; clear hK Kv)))
   have hk:=hk.next hb9
   refine nums_ok s 0 (hs.next hk.below) hi (fun w4 h4=>?_)
   have hk:=hk.next h4
   cases hn2:numsM s 0 [y] with
   | false=>
    refine Xa hk.cells ?_
    refine store_off ⟨0,0,0⟩ hk (fun W3 hk hc=>⟨_,by simp [go_sem,hc],k2 _ _ (propose_no (.inr (.inr hn2))) hk.below⟩)
   | true=>
    have e:proposeM s x l y = (⟨powerG s.g m x,genM s y,powerG s.g m y⟩,0):=by
     unfold proposeM
     rw [if_pos (by rw [hm,hn,hn2]; rfl),hm]
    refine Xa hk.cells ?_
    refine ⟨KnM w _ g 3,hk.drew,?_⟩
    have hk:=hk.drew
    repeat (any_goals (first
    | (with_reducible refine pureH_in ?_)
    | ((with_reducible refine idOH ?_); (with_reducible refine oH_of ⟨_,rfl⟩ (fun W0 hW0=>by (refine oM_gen (fun Kv hK=>?_)); simp [go_sem,hW0.cells]; (first | exact hK _ _ ⟨rfl,rfl⟩ | exact ⟨by omega,hK _ _ ⟨rfl,rfl⟩⟩)) ?_))))
    refine tpower_ok s m x (hs.next hk.below) (fun w5 h5=>?_)
    have hk:=hk.next h5
    refine ⟨hk,generated_ok s y (hs.next hk.below) (fun w6 h6=>?_)⟩
    have hk:=hk.next h6
    refine ⟨hk,tpower_ok s m y (hs.next hk.below) (fun w7 h7=>?_)⟩
    have hk:=hk.next h7
    refine ⟨hk,?_⟩
    generalize powerG s.g m x = p1 at *
    generalize genM s y = p2 at *
    generalize powerG s.g m y = p3 at *
    refine Xa0 ?_
    refine ⟨hk,store_off ⟨p1,p2,p3⟩ hk (fun W3 hk hc=>⟨hk,hk,_,by simp [go_sem,hc],k2 _ _ e hk.below⟩)⟩
theorem blinds_ok (s:Stp) (b:Bld) {v bv:Value} (hs:SetR w s v) (hb:BldR w b bv) (k:∀ w',Below w.heap.size w w' → K (.bool (blindsM s b)) w'):callM Tryz.prog 68 #[stpV s v,bldV b bv] K w:=by
 apply sh_68_ok
 unfold sh_68
 obtain ⟨ad,c,rfl⟩:=hs.ints.isSlice
 have hys:=hb.ys
 obtain ⟨yad,yc,rfl⟩:=hb.ys.isSlice
 have k2:∀ w' r,blindsM s b = r → Below w.heap.size w w' → K (.bool r) w':=fun w' r e hb=>by rw [← e]; exact k w' hb
 clear k
 unfold blindsM at k2
 refine box_kn (cs:=stpC s (.slice ad s.bases.length c)) rfl (.start w) fun b1 W hk hb1 hbb=>?_
 refine box_kn (cs:=bldC b (.slice yad b.ys.length yc)) rfl hk fun b2 W2 hk hb2 hbb=>?_
 repeat (any_goals (first
 | ((with_reducible refine mk2 b.s b.u hb.s hb.u ?_); intro v8 W8 hb8 hi)
 | ((with_reducible refine oM_gen fun Kv hK=>?_); simp [go_sem,hk.cells]; refine hK _ _ ?_; clear hK Kv)))
 have hk:=hk.next hb8
 refine nums_ok s 1 (hs.next hk.below) hi (fun w3 h3=>?_)
 have hk:=hk.next h3
 cases hn:numsM s 1 [b.s,b.u] with
 | false=>
  refine Xa hk.cells ?_
  exact k2 _ _ (by rw [hn]; rfl) hk.below
 | true=>
  repeat (any_goals (first
  | ((with_reducible refine mk1 b.v hb.v ?_); intro v9 W9 hb9 hi)
  | (with_reducible refine zA ?_)
  | ((with_reducible refine oM_gen fun Kv hK=>?_); simp [go_sem,hk.cells]; refine hK _ _ ?_; clear hK Kv)))
  have hk:=hk.next hb9
  refine nums_ok s 0 (hs.next hk.below) hi (fun w4 h4=>?_)
  have hk:=hk.next h4
  cases hn2:numsM s 0 [b.v] with
  | false=>
   refine Xa hk.cells ?_
   exact k2 _ _ (by rw [hn,hn2]; rfl) hk.below
  | true=>
   by_cases hlen:b.ys.length = s.bases.length
   ·refine Xa (An2 hk.cells @hlen) ?_
    have hys2:Ints w (.slice yad s.bases.length yc) b.ys:=by rw [← hlen]; exact hys
    refine nums_ok s 0 (hs.next hk.below) (hys2.next hk.below) (fun w5 h5=>?_)
    have hk:=hk.next h5
    refine Xa0 ?_
    exact k2 _ _ (by rw [hn,hn2]; simp [hlen]) hk.below
   ·have hl':¬ (b.ys.length:Int) = s.bases.length:=by omega
    refine Xa (An2 hk.cells @hl') ?_
    exact k2 _ _ (by rw [hn,hn2]; simp [hlen]) hk.below
end
end Go.Proofs
namespace Go.Proofs
open Go Go.Sh Go.RowKit FdSpec TkSpec
section
variable {K:Value → World → Prop} {w w0:World} {L:List (Addr × Value)}
theorem formed_ok (s:Stp) (t:Tkt) {v:Value} (ht:TktR t) (hs:SetR w s v) (k:∀ w',Below w.heap.size w w' → K (.tuple #[stpV s v,.bool (formedM s t)]) w'):callM Tryz.prog 85 #[stpV s v,tktV t] K w:=by
 apply sh_85_ok
 unfold sh_85
 obtain ⟨ad,c,rfl⟩:=hs.ints.isSlice
 have k2:∀ w' r,formedM s t = r → Below w.heap.size w w' → K (.tuple #[stpV s (.slice ad s.bases.length c),.bool r]) w':=fun w' r e hb=>by rw [← e]; exact k w' hb
 clear k
 unfold formedM at k2
 refine box_kn (cs:=stpC s (.slice ad s.bases.length c)) rfl (.start w) fun b1 W hk hb1 hbb=>?_
 refine box_kn (cs:=tktC t) rfl hk fun b2 W2 hk hb2 hbb=>?_
 refine alloc_mine (n:=5) al_desk rfl hk fun g W2 hk hb2 hg=>?_
 refine Xg hk.cells ?_
 refine open_ok s (hs.next hk.below) (fun w2 h2=>?_)
 have hk:=hk.next h2
 clear hb1 h2 hb2
 cases hv:validS s with
 | false=>
  repeat (any_goals (first
  | ((with_reducible refine local_desk s ad s.bases.length c hk ?_); intro b7 W7 hk hb7 hg7)
  | ((with_reducible refine oM_gen fun Kv hK=>?_); simp [go_sem,hk.cells]; refine hK _ _ ?_; clear hK Kv)))
  refine ⟨KnM w _ g 5,hk.drew,?_⟩
  have hk:=hk.drew
  repeat (any_goals (first
  | (with_reducible refine And.intro hk ?_)
  | (with_reducible first|refine pureH_in ?_|((refine idGdH ?_); refine gdH_conv fun _=>?_)|refine zB ?_)
  | ((with_reducible refine idOH ?_); first|(with_reducible refine vB ?_)|(with_reducible refine oH_of ⟨_,rfl⟩ (fun W0 hW0=>by (refine oM_gen (fun Kv hK=>?_)); simp [go_sem,hW0.cells]; (first | exact hK _ _ ⟨rfl,rfl⟩ | exact ⟨by omega,hK _ _ ⟨rfl,rfl⟩⟩)) ?_))))
  exact store_desk s ad _ c hk (fun W3 hk hc=>⟨hk,hk,_,by simp [go_sem,hc],k2 _ _ (by rw [hv]; rfl) hk.below⟩)
 | true=>
  repeat (any_goals (first
  | ((with_reducible refine local_desk s ad s.bases.length c hk ?_); intro b7 W7 hk hb7 hg7)
  | ((with_reducible refine oM_gen fun Kv hK=>?_); simp [go_sem,hk.cells]; refine hK _ _ ?_; clear hK Kv)))
  refine ⟨KnM w _ g 5,hk.drew,?_⟩
  have hk:=hk.drew
  by_cases hm:t.mark = 1
  ·repeat (any_goals (first
   | (with_reducible refine And.intro hk ?_)
   | (with_reducible first|refine pureH_in ?_|((refine idGdH ?_); refine gdH_conv fun _=>?_)|((refine idGd ?_); first|refine zA ?_|refine zB ?_))
   | ((with_reducible refine idOH ?_); first|(with_reducible first|refine vA ?_|refine vB ?_)|(with_reducible refine oH_of ⟨_,rfl⟩ (fun W0 hW0=>by (refine oM_gen (fun Kv hK=>?_)); simp [go_sem,hW0.cells,hm]; (first | exact hK _ _ ⟨rfl,rfl⟩ | exact ⟨by omega,hK _ _ ⟨rfl,rfl⟩⟩)) ?_))))
   exact store_desk s ad _ c hk (fun W3 hk hc=>⟨hk,hk,_,by simp [go_sem,hc],k2 _ _ (by rw [hv,hm]; rfl) hk.below⟩)
  ·repeat (any_goals (first
   | (with_reducible refine And.intro hk ?_)
   | ((with_reducible refine mk5 t.mark t.first t.z t.a t.b ht.mark ht.first ht.z ht.a ht.b ?_); intro v8 W8 hb8 hi)
   | (with_reducible first|refine pureH_in ?_|((refine idGdH ?_); refine gdH_conv fun _=>?_)|refine zA ?_)
   | ((with_reducible refine idOH ?_); first|(with_reducible refine vA ?_)|(with_reducible refine oH_of ⟨_,rfl⟩ (fun W0 hW0=>by (refine oM_gen (fun Kv hK=>?_)); simp [go_sem,hW0.cells,hm]; (first | exact hK _ _ ⟨rfl,rfl⟩ | exact ⟨by omega,hK _ _ ⟨rfl,rfl⟩⟩)) ?_))))
   have hk:=hk.next hb8
   refine ⟨hk,elements_ok s (hs.next hk.below) hi (fun w3 h3=>?_)⟩
   have hk:=hk.next h3
   refine ⟨hk,?_⟩
   cases he:elementsM s [t.mark,t.first,t.z,t.a,t.b] with
   | false=>
    repeat (any_goals (first
    | (with_reducible refine And.intro hk ?_)
    | (with_reducible first|refine pureH_in ?_|((refine idGdH ?_); refine gdH_conv fun _=>?_)|refine zB ?_)
    | ((with_reducible refine idOH ?_); (with_reducible first|refine vA ?_|refine vB ?_))))
    exact store_desk s ad _ c hk (fun W3 hk hc=>⟨hk,hk,_,by simp [go_sem,hc],k2 _ _ (by rw [hv,he]; simp) hk.below⟩)
   | true=>
    repeat (any_goals (first
    | (with_reducible refine And.intro hk ?_)
    | ((with_reducible refine mk1 t.r ht.r ?_); intro v9 W9 hb9 hi9)
    | (with_reducible first|refine pureH_in ?_|((refine idGdH ?_); refine gdH_conv fun _=>?_)|refine zA ?_)
    | ((with_reducible refine idOH ?_); first|(with_reducible refine vA ?_)|(with_reducible refine oH_of ⟨_,rfl⟩ (fun W0 hW0=>by (refine oM_gen (fun Kv hK=>?_)); simp [go_sem,hW0.cells]; (first | exact hK _ _ ⟨rfl,rfl⟩ | exact ⟨by omega,hK _ _ ⟨rfl,rfl⟩⟩)) ?_))))
    have hk:=hk.next hb9
    refine ⟨hk,nums_ok s 0 (hs.next hk.below) hi9 (fun w4 h4=>?_)⟩
    have hk:=hk.next h4
    refine ⟨hk,?_⟩
    repeat (any_goals (first
    | (with_reducible refine And.intro hk ?_)
    | ((with_reducible refine idOH ?_); (with_reducible refine vA ?_))))
    exact store_desk s ad _ c hk (fun W3 hk hc=>⟨hk,hk,_,by simp [go_sem,hc],k2 _ _ (by rw [hv,he]; simp [hm]) hk.below⟩)
theorem acceptsM_no {s:Stp} {t:Tkt} {x:Spd} (h:formedM s t = false ∨ numsM s 1 [x.dare] = false ∨ x.answers.length ≠ s.bases.length ∨ numsM s 0 x.answers = false):acceptsM s t x = false:=by
 unfold acceptsM
 rw [if_neg]
 rcases h with h | h | h | h <;> simp [h]
theorem Accepts_ok (s:Stp) (t:Tkt) (x:Spd) {v xv:Value} (ht:TktR t) (hs:SetR w s v) (hx:SpdR w x xv) (k:∀ w',Below w.heap.size w w' → K (.bool (acceptsM s t x)) w'):callM Tryz.prog 36 #[stpV s v,tktV t,spdV x xv] K w:=by
 apply sh_36_ok
 unfold sh_36
 obtain ⟨ad,c,rfl⟩:=hs.ints.isSlice
 have hans:=hx.answers
 obtain ⟨xad,xc,rfl⟩:=hx.answers.isSlice
 have k2:∀ w' r,acceptsM s t x = r → Below w.heap.size w w' → K (.bool r) w':=fun w' r e hb=>by rw [← e]; exact k w' hb
 clear k
 refine box_kn (cs:=stpC s (.slice ad s.bases.length c)) rfl (.start w) fun b1 W hk hb1 hbb=>?_
 refine box_kn (cs:=tktC t) rfl hk fun b2 W2 hk hb2 hbb=>?_
 refine box_kn (cs:=spdC x (.slice xad x.answers.length xc)) rfl hk fun b3 W3 hk hb3 hbb=>?_
 refine Xg hk.cells ?_
 refine formed_ok s t ht (hs.next hk.below) (fun w2 h2=>?_)
 have hk:=hk.next h2
 clear hb1 h2 hb2 hb3
 cases hv:formedM s t with
 | false=>
  repeat (any_goals (first
  | ((with_reducible refine local_desk' s ad s.bases.length c hk ?_); intro b7 W7 hk hb7 hg7)
  | (with_reducible first|refine zD ?_|refine yB ?_|refine yL ?_)
  | ((with_reducible refine oM_gen fun Kv hK=>?_); simp [go_sem,hk.cells]; refine hK _ _ ?_; clear hK Kv)))
  exact k2 _ _ (acceptsM_no (.inl hv)) hk.below
 | true=>
  repeat (any_goals (first
  | ((with_reducible refine local_desk' s ad s.bases.length c hk ?_); intro b7 W7 hk hb7 hg7) | ((with_reducible refine mk1 x.dare hx.dare ?_); intro v8 W8 hb8 hi)
  | (with_reducible refine zC ?_)
  | ((with_reducible refine oM_gen fun Kv hK=>?_); simp [go_sem,hk.cells]; refine hK _ _ ?_; clear hK Kv)))
  have hk:=hk.next hb8
  refine nums_ok s 1 (hs.next hk.below) hi (fun w3 h3=>?_)
  have hk:=hk.next h3
  cases hn:numsM s 1 [x.dare] with
  | false=>
   refine Xg hk.cells ?_
   exact k2 _ _ (acceptsM_no (.inr (.inl hn))) hk.below
  | true=>
   by_cases hlen:x.answers.length = s.bases.length
   ·refine Xg (An2 hk.cells @hlen) ?_
    have hans2:Ints w (.slice xad s.bases.length xc) x.answers:=by rw [← hlen]; exact hans
    refine nums_ok s 0 (hs.next hk.below) (hans2.next hk.below) (fun w5 h5=>?_)
    have hk:=hk.next h5
    cases hn2:numsM s 0 x.answers with
    | false=>
     refine Xg hk.cells ?_
     exact k2 _ _ (acceptsM_no (.inr (.inr (.inr hn2)))) hk.below
    | true=>
     refine Xg hk.cells ?_
     have e:acceptsM s t x = decide ((prodG s.g s.bases x.answers).1 = timesM s (powerG s.g t.mark x.dare) [t.first]):=by
      unfold acceptsM
      rw [if_pos (by rw [hv,hn,hn2]; simp [hlen])]
     refine ⟨Kn w _,hk.drew,?_⟩
     have hk:=hk.drew
     repeat (any_goals ((with_reducible refine idOH ?_); (with_reducible refine oH_of ⟨_,rfl⟩ (fun W0 hW0=>by (refine oM_gen (fun Kv hK=>?_)); simp [go_sem,hW0.cells,hlen]; (first | exact hK _ _ ⟨rfl,rfl⟩ | exact ⟨by omega,hK _ _ ⟨rfl,rfl⟩⟩)) ?_)))
     refine ⟨?_,?_⟩
     ·refine product_t_ok s (hs.next hk.below) (hans2.next hk.below) (fun w6 h6=>?_)
      have hk:=hk.next h6
      refine ⟨hk,?_,?_⟩
      ·refine tpower_ok s t.mark x.dare (hs.next hk.below) (fun w7 h7=>?_)
       have hk:=hk.next h7
       refine ⟨hk,mk1 t.first ht.first (fun v8 w8 h8 hi=>?_)⟩
       have hk:=hk.next h8
       refine ⟨hk,times_ok s _ (hs.next hk.below) hi (fun w9 h9=>?_)⟩
       have hk:=hk.next h9
       refine ⟨hk,?_⟩
       refine Xc0 ?_
       exact ⟨hk,k2 _ _ e hk.below⟩
      ·refine mk1 t.first ht.first (fun v8 w8 h8 hi=>?_)
       have hk:=hk.next h8
       refine ⟨hk,tpower_ok s t.mark x.dare (hs.next hk.below) (fun w7 h7=>?_)⟩
       have hk:=hk.next h7
       refine ⟨hk,times_ok s _ (hs.next hk.below) (hi.next h7) (fun w9 h9=>?_)⟩
       have hk:=hk.next h9
       refine ⟨hk,?_⟩
       refine Xc0 ?_
       exact ⟨hk,k2 _ _ e hk.below⟩
     ·refine mk1 t.first ht.first (fun v8 w8 h8 hi=>?_)
      have hk:=hk.next h8
      refine ⟨hk,product_t_ok s (hs.next hk.below) (hans2.next hk.below) (fun w6 h6=>?_)⟩
      have hk:=hk.next h6
      refine ⟨hk,tpower_ok s t.mark x.dare (hs.next hk.below) (fun w7 h7=>?_)⟩
      have hk:=hk.next h7
      refine ⟨hk,times_ok s _ (hs.next hk.below) ((hi.next h6).next h7) (fun w9 h9=>?_)⟩
      have hk:=hk.next h9
      refine ⟨hk,?_⟩
      refine Xc0 ?_
      exact ⟨hk,k2 _ _ e hk.below⟩
   ·have hl':¬ (x.answers.length:Int) = s.bases.length:=by omega
    refine Xg (An2 hk.cells @hl') ?_
    exact k2 _ _ (acceptsM_no (.inr (.inr (.inl hlen)))) hk.below
end
end Go.Proofs
namespace Go.Proofs
open Go Go.Sh Go.RowKit FdSpec TkSpec
section
variable {K:Value → World → Prop} {w w0:World} {L:List (Addr × Value)}
abbrev OwnI (w:World) (B:Nat) (v:Value) (l:List Int):Prop:=w.ownsRow B 3 1 v l.length (flat intC l)
theorem OwnI.ints {B:Nat} {v:Value} {l:List Int} (h:OwnI w B v l) (hr:∀ n ∈ l,I64 n) (hl:l.length ≤ 9223372036854775807):Ints w v l:=Ints.of_owns h hr hl
theorem owns_up {B C:Nat} {e:TypeId} {sz:Nat} {v:Value} {n:Nat} {xs:List Value} (h:w.ownsRow B e sz v n xs) (hc:∀ i,v.ownBlock = some i → C ≤ i):w.ownsRow C e sz v n xs:=by
 refine ⟨h.1,h.2.imp id ?_⟩
 rintro ⟨g,cap,cur,rfl,hb,hr⟩
 exact ⟨g,cap,cur,rfl,hc g rfl,hr⟩
theorem OwnI.keep {B:Nat} {v:Value} {l:List Int} {w':World} (h:OwnI w B v l) (hb:Below w.heap.size w w'):OwnI w' B v l:=
 owns_keep h (fun i hi=>hb.block i (owns_own h hi).1)
theorem append1 {B:Nat} {T:TypeId} {v xv:Value} {l:List Int} {x:Int} (ho:OwnI w B v l) (hB:B ≤ w.heap.size) (hx:Ints w xv [x]) (hl:l.length < 1099511627776)
  (k:∀ v' w',OwnI w' B v' (l ++ [x]) → Below B w w' → K v' w'):oM Tryz.prog (.call { callee:=.builtin .append,args:=#[.tmp 0,.tmp 1],argTypes:=#[22,22] }) T [v,xv] K w:=by
 obtain ⟨⟨ad,c,rfl,h0,hc⟩,hr,_⟩:=hx
 have hc:=hc.resolve_left (by simp)
 obtain ⟨b,o,rfl,hlt,hcell⟩:=hc
 refine append_at 22 T 3 ((Tryz.prog.info? 3).getD default) (.int .i64 0) 1 8 (by kernel_rfl) (by kernel_rfl) (by kernel_rfl) (by kernel_rfl) (by kernel_rfl) (by kernel_rfl) (by omega) (owns_base ho (Nat.zero_le _)) [.int .i64 x] (by simp) (by simp) ?_ ?_ (by simp only [maxLen,List.length_singleton]; omega) (by simp only [List.length_singleton]; omega) ?_
 ·rintro a ha j u hj
  cases ha
  rw [add_none]
  exact hcell j u hj
 ·intro u hu
  simp only [List.mem_singleton] at hu
  subst hu; rfl
 ·intro v' w' ho' hg hv
  have hbl:∀ i,v.ownBlock = some i → B ≤ i:=fun i hi=>(owns_own ho hi).2.1
  refine k v' w' ?_ ((Below.refl B w).grown hg hB hbl)
  have e1:(l ++ [x]).length = l.length + [x].length:=by simp
  have e2:flat intC (l ++ [x]) = flat intC l ++ [Value.int .i64 x]:=by rw [flat_int,flat_int]; simp
  show w'.ownsRow B 3 1 v' (l ++ [x]).length (flat intC (l ++ [x]))
  rw [e1,e2]
  exact owns_up ho' (fun i hi=>(hv i hi).elim (hbl i) (fun h=>Nat.le_trans hB h))
theorem Same_ok {v u:Value} {a b:List Int} (ha:Ints w v a) (hb:Ints w u b) (k:∀ w',Below w.heap.size w w' → K (.bool (decide (a = b))) w'):callM Tryz.prog 33 #[v,u] K w:=by
 apply sh_33_ok
 unfold sh_33
 obtain ⟨ad1,c1,rfl⟩:=ha.isSlice
 obtain ⟨ad2,c2,rfl⟩:=hb.isSlice
 have l1:=ha.len
 have l2:=hb.len
 by_cases hl:a.length = b.length
 ·refine Xa @hl ?_
  refine ⟨fun vs w'=>Below w.heap.size w w' ∧ ∃ (v:Value) (i:Nat),vs = [v,.int .i64 (i:Int)] ∧ i ≤ a.length ∧ a.take i = b.take i,fun vs _=>match vs with | [_,.int _ i]=>b.length - i.toNat | _=>0,⟨Below.refl _ _,_,0,rfl,by omega,rfl⟩,?_⟩
  rintro _ _ w1 ⟨h1,u1,i,rfl,hi,he⟩
  by_cases hin:i = b.length
  ·have e:a = b:=by
    rw [List.take_of_length_le (by omega),List.take_of_length_le (by omega)] at he
    exact he
   have k:=k _ h1
   rw [decide_eq_true e] at k
   refine Xa @hl ?_
   exact k
  ·obtain ⟨b1,o1,rfl,hb1,ca,ra,_⟩:=ha.at (i:=i) (by omega)
   obtain ⟨b2,o2,rfl,hb2,cb,rb,_⟩:=hb.at (i:=i) (by omega)
   refine Xa @hl ?_
   refine ⟨Below w.heap.size w,h1.trans .drawn,?_⟩
   by_cases hx:a[i] = b[i]
   ·refine Xf (fun W0 hW0=>An2 (ca _ hW0) (cb _ hW0)) (An2 @hl @hx) ?_
    intro w2 h2
    refine Xa @hx ?_
    refine ⟨⟨h2,_,i + 1,rfl,by omega,?_⟩,by show b.length - (((i + 1:Nat):Int)).toNat < b.length - ((i:Nat):Int).toNat; omega⟩
    rw [List.take_succ_eq_append_getElem (by omega),List.take_succ_eq_append_getElem (by omega),he,hx]
   ·refine Xf (fun W0 hW0=>An2 (ca _ hW0) (cb _ hW0)) (An2 @hl @hx) ?_
    intro w2 h2
    have k:=k _ h2
    rw [decide_eq_false (by rintro rfl; exact hx rfl)] at k
    refine Xa @hx ?_
    exact k
 ·have hl':¬ (a.length:Int) = b.length:=by omega
  have k:=k _ (Below.refl _ _)
  rw [decide_eq_false (by rintro rfl; exact hl rfl)] at k
  refine Xa @hl' ?_
  exact k
end
end Go.Proofs
namespace Go.Proofs
open Go Go.Sh Go.RowKit FdSpec TkSpec
section
variable {K:Value → World → Prop} {w w0:World} {L:List (Addr × Value)}
theorem accepts_len {s:Stp} {t:Tkt} {x:Spd} (h:acceptsM s t x = true):x.answers.length = s.bases.length ∧ validS s = true:=by
 unfold acceptsM at h
 split at h
 ·rename_i hc
  simp only [Bool.and_eq_true,decide_eq_true_eq] at hc
  refine ⟨hc.1.2,?_⟩
  have hf:=hc.1.1.1
  unfold formedM at hf
  simp only [Bool.and_eq_true] at hf
  exact hf.1.1.1
 ·cases h
def gapL (s:Stp) (a b:Spd):List Int:=(a.answers.zip b.answers).map fun p=>lessQ s p.1 p.2
theorem gapL_len {s:Stp} {a b:Spd} {n:Nat} (ha:a.answers.length = n) (hb:b.answers.length = n):(gapL s a b).length = n:=by
 simp [gapL,ha,hb]
theorem gapL_at {s:Stp} {a b:Spd} {i:Nat} (ha:i < a.answers.length) (hb:i < b.answers.length) (hg:i < (gapL s a b).length):(gapL s a b)[i] = lessQ s a.answers[i] b.answers[i]:=by
 simp [gapL]
theorem gapL_rng {s:Stp} {a b:Spd}:∀ n ∈ gapL s a b,I64 n:=by
 intro n hn
 obtain ⟨p,_,rfl⟩:=List.mem_map.1 hn
 exact subM_I64 _ _ _
theorem gapsM_no {s:Stp} {t:Tkt} {a b:Spd} (h:a.dare = b.dare ∨ acceptsM s t a = false ∨ acceptsM s t b = false):gapsM s t a b = ([],false):=by
 unfold gapsM
 rw [if_pos]
 rcases h with h | h | h <;> simp [h]
theorem gapsM_yes {s:Stp} {t:Tkt} {a b:Spd} (h1:¬ a.dare = b.dare) (h2:acceptsM s t a = true) (h3:acceptsM s t b = true):gapsM s t a b = (gapL s a b,!decide ((gapL s a b).headD 0 = 0)):=by
 unfold gapsM
 rw [if_neg (by simp [h1,h2,h3])]
 rfl
theorem _root_.Go.Sh.KnM.add1 {g n:Nat} (h:KnM w0 L g n w) {b o:Nat} {v:Value} (hc:w.cell? ⟨b,o,none⟩ = some v) (hne:b ≠ g):KnM w0 ((⟨b,o,none⟩,v) :: L) g n w:=
 ⟨⟨h.kn.below,hc,h.kn.cells⟩,h.mine,h.base,fun p hp=>(List.mem_cons.1 hp).elim (fun e=>by rw [e]; exact hne) (h.off p)⟩
theorem store_desk2 {K:Value → World → Prop} {T':TypeId} {g:Nat} (s:Stp) (ad:Option Addr) (m c:Nat) (hk:KnM w0 L g 5 w)
  (k:∀ W,KnM w0 L g 5 W → cellsAre W (cellsOf [] g 0 (stpC s (.slice ad m c))) → w.grownBy W (some g) → K undef W):oM Tryz.prog (.store 116 (.tmp 0) (.tmp 1)) T' [.pointer (some ⟨g,0,none⟩),stpV s (.slice ad m c)] K w:=by
 obtain ⟨W,e,hg,hm,hc⟩:=store_run (P:=Tryz.prog) (W:=w) sz_desk (x:=stpV s (.slice ad m c)) rfl rfl (stp_one s ad m c) hk.mine
 rw [oM_store,e]
 exact k W ⟨hk.kn.wrote hg hk.base hk.off,hm,hk.base,hk.off⟩ hc hg
@[reducible] def zstp:Stp:=⟨⟨0,0,0⟩,[],0⟩
def GpJ (gl:List Int) (Wl:World) (vs:List Value) (w':World):Prop:=Below Wl.heap.size Wl w' ∧ ∃ (v u o:Value) (i:Nat),vs = [v,u,o,.int .i64 (i:Int)] ∧ i ≤ gl.length ∧ OwnI w' Wl.heap.size o (gl.take i)
theorem gaps_ok (s:Stp) (t:Tkt) (x y:Spd) {v xv yv:Value} (ht:TktR t) (hs:SetR w s v) (hx:SpdR w x xv) (hy:SpdR w y yv)
  (k:∀ w' s' ad n c ov,Below w.heap.size w w' → Ints w' ov (gapsM s t x y).1 → (∃ ad n c,ov = .slice ad n c ∧ n ≤ c) → ((gapsM s t x y).2 = true → stpV s' (.slice ad n c) = stpV s v) → K (.tuple #[stpV s' (.slice ad n c),ov,.bool (gapsM s t x y).2]) w'):callM Tryz.prog 88 #[stpV s v,tktV t,spdV x xv,spdV y yv] K w:=by
 apply sh_88_ok
 unfold sh_88
 obtain ⟨ad,c,rfl⟩:=hs.ints.isSlice
 have hxa:=hx.answers
 have hya:=hy.answers
 have hx0:=hx
 have hy0:=hy
 obtain ⟨xad,xc,rfl⟩:=hx.answers.isSlice
 obtain ⟨yad,yc,rfl⟩:=hy.answers.isSlice
 have k0:∀ w',gapsM s t x y = ([],false) → Below w.heap.size w w' → K (.tuple #[stpV zstp (.slice none 0 0),.slice none 0 0,.bool false]) w':=fun w' e hb=>by
  rw [e] at k
  exact k w' zstp none 0 0 _ hb (Ints.nil _) ⟨_,_,_,rfl,Nat.le_refl _⟩ (by simp)
 have k2:∀ w' ov l r,gapsM s t x y = (l,r) → Below w.heap.size w w' → Ints w' ov l → (∃ ad n c,ov = .slice ad n c ∧ n ≤ c) → K (.tuple #[stpV s (.slice ad s.bases.length c),ov,.bool r]) w':=fun w' ov l r e hb hi hcp=>by
  rw [e] at k
  exact k w' s _ _ _ ov hb hi hcp (fun _=>rfl)
 clear k
 refine box_kn (cs:=stpC s (.slice ad s.bases.length c)) rfl (.start w) fun b1 W hk hb1 hbb=>?_
 refine box_kn (cs:=tktC t) rfl hk fun b2 W2 hk hb2 hbb=>?_
 refine box_kn (cs:=spdC x (.slice xad x.answers.length xc)) rfl hk fun b3 W3 hk hb3 hbb=>?_
 refine box_kn (cs:=spdC y (.slice yad y.answers.length yc)) rfl hk fun b4 W4 hk hb4 hbb=>?_
 refine alloc_mine (n:=5) al_desk rfl hk fun g W2 hk hb2 hg=>?_
 clear hb1 hb2 hb3 hb4
 by_cases hd:x.dare = y.dare
 ·refine Xa (An2 hk.cells @hd) ?_
  exact store_desk zstp none 0 0 hk (fun W3 hk hc=>⟨_,by simp [go_sem,hc],k0 _ (gapsM_no (.inl hd)) hk.below⟩)
 refine Xa (An2 hk.cells @hd) ?_
 refine Accepts_ok s t x ht (hs.next hk.below) (hx0.next hk.below) (fun w2 h2=>?_)
 have hk:=hk.next h2
 cases ha:acceptsM s t x with
 | false=>
  refine Xa hk.cells ?_
  exact store_desk zstp none 0 0 hk (fun W3 hk hc=>⟨_,by simp [go_sem,hc],k0 _ (gapsM_no (.inr (.inl ha))) hk.below⟩)
 | true=>
  refine Xa hk.cells ?_
  refine Accepts_ok s t y ht (hs.next hk.below) (hy0.next hk.below) (fun w3 h3=>?_)
  have hk:=hk.next h3
  cases hb:acceptsM s t y with
  | false=>
   refine Xa hk.cells ?_
   exact store_desk zstp none 0 0 hk (fun W3 hk hc=>⟨_,by simp [go_sem,hc],k0 _ (gapsM_no (.inr (.inr hb))) hk.below⟩)
  | true=>
   have e0:=gapsM_yes hd ha hb
   obtain ⟨l1,hv⟩:=accepts_len ha
   obtain ⟨l2,_⟩:=accepts_len hb
   have hv7:=validS_len hv
   have hgl:=gapL_len (s:=s) l1 l2
   have hat:=fun i h1 h2 h3=>gapL_at (s:=s) (a:=x) (b:=y) (i:=i) h1 h2 h3
   have hrng:=gapL_rng (s:=s) (a:=x) (b:=y)
   generalize gapL s x y = gl at *
   repeat (any_goals (first
   | ((with_reducible refine local_desk s ad s.bases.length c hk ?_); intro b7 W7 hk hb7 hg7)
   | (with_reducible first|refine zC ?_|refine yC ?_|refine yM ?_)
   | ((with_reducible refine oM_gen fun Kv hK=>?_); simp [go_sem,hk.cells]; refine hK _ _ ?_; clear hK Kv)))
   have hgW:g < W7.heap.size:=mine_lt hk.mine
   have hk0:=hk
   refine ⟨GpJ gl W7,pdMu x.answers.length,⟨Below.refl _ _,_,_,_,0,rfl,by omega,World.ownsRow_nil _ _ _ _⟩,?_⟩
   rintro _ _ w5 ⟨h5,u1,u2,o,i,rfl,hi,ho⟩
   have hk:=hk.next h5
   by_cases hin:i = x.answers.length
   ·rw [List.take_of_length_le (by omega)] at ho
    have hints:=ho.ints hrng (by omega)
    obtain ⟨g',cap,cur,rfl,hlt,hB,_,_,hcp,hcell⟩:=owns_cells ho (by omega)
    obtain ⟨x0,hx0⟩:∃ x0,gl.headD 0 = x0:=⟨_,rfl⟩
    rw [hx0] at e0
    have c8:w5.cell? ⟨g',0,none⟩ = some (.int .i64 x0):=hcell 0 _ (by
     rw [flat_int,← hx0]
     cases hgl2:gl with
     | nil=>rw [hgl2] at hgl; simp at hgl; omega
     | cons a l=>rfl)
    have hk:=hk.add1 c8 (by omega)
    have hgl8:0 < gl.length:=by omega
    refine Xa0 ?_
    refine ⟨KnM w _ g 5,hk.drew,?_⟩
    have hints:=hints.next .drawn
    have hk:=hk.drew
    repeat (any_goals (first
    | (with_reducible refine And.intro hk ?_)
    | (with_reducible refine pureH_in ?_)
    | ((with_reducible refine idOH ?_); (with_reducible refine oH_of ⟨_,rfl⟩ (fun W0 hW0=>by (refine oM_gen (fun Kv hK=>?_)); simp [go_sem,hW0.cells]; (first | exact hK _ _ ⟨rfl,rfl⟩ | exact ⟨by omega,hK _ _ ⟨rfl,rfl⟩⟩)) ?_))))
    refine store_desk2 s ad _ c hk (fun W3 hk hc hgr=>⟨hk,hk,hk,_,by simp [go_sem,hc],k2 _ _ _ _ e0 hk.below ⟨hints.row.keep hgr.size (fun i hi hlt=>hgr.block i hlt ?_),hrng,by omega⟩ ⟨_,_,_,rfl,hcp⟩⟩)
    cases hi
    intro e
    have e2:g' = g:=Option.some.inj e
    omega
   ·obtain ⟨b1,o1,rfl,hb1,ca,ra,_⟩:=hxa.at (i:=i) (by omega)
    obtain ⟨b2,o2,rfl,hb2,cb,rb,_⟩:=hya.at (i:=i) (by omega)
    refine Xa (An2 (ca _ hk.below) hk.cells) ?_
    refine ⟨KnM w _ g 5,hk.drew,?_⟩
    have h5:=h5.trans (Below.drawn (w:=w5))
    have ho:=ho.keep (Below.drawn (w:=w5))
    have hk:=hk.drew
    repeat (any_goals (first
    | (with_reducible refine And.intro hk ?_)
    | (with_reducible refine pureH_in ?_)
    | ((with_reducible refine idOH ?_); (with_reducible refine oH_of ⟨_,rfl⟩ (fun W0 hW0=>by (refine oM_gen (fun Kv hK=>?_)); simp [go_sem,hW0.cells,cb _ hW0.below]; (first | exact hK _ _ ⟨rfl,rfl⟩ | exact ⟨by omega,hK _ _ ⟨rfl,rfl⟩⟩)) ?_))))
    refine less_ok s _ _ (hs.next hk.below) (fun w6 h6=>?_)
    have hk:=hk.next h6
    have ho:=ho.keep h6
    have h5:=h5.on h6
    refine ⟨hk,mk1 _ (subM_I64 _ _ _) (fun v7 w7 h7 hi7=>?_)⟩
    have hk:=hk.next h7
    have ho:=ho.keep h7
    have h5:=h5.on h7
    refine ⟨hk,append1 ho h5.size hi7 (by simp; omega) (fun v8 w8 ho8 h8=>?_)⟩
    have h5:=h5.trans h8
    have hk:=hk0.next h5
    refine ⟨hk,?_⟩
    repeat (any_goals (first
    | (with_reducible refine And.intro hk ?_)
    | ((with_reducible refine oM_gen fun Kv hK=>?_); simp [go_sem]; (try simp (disch:=omega) only [wrapI64,wrapU8,wrapU64]); refine hK _ _ ?_; clear hK Kv)))
    refine ⟨⟨h5,_,_,_,i + 1,rfl,by omega,?_⟩,?_⟩
    ·rw [List.take_succ_eq_append_getElem (by omega),hat i (by omega) (by omega) (by omega)]
     exact ho8
    ·simp only [pdMu_eq]; omega
end
end Go.Proofs
namespace Go.Proofs
open Go Go.Sh Go.RowKit FdSpec TkSpec
section
variable {K:Value → World → Prop} {w w0:World} {L:List (Addr × Value)}
theorem _root_.Go.Sh.Ints.tail {b o n c:Nat} {l:List Int} (h:Ints w (.slice (some ⟨b,o,none⟩) n c) l) (hne:0 < l.length):Ints w (.slice (some ⟨b,o + 1,none⟩) (n - 1) (c - 1)) l.tail:=by
 obtain ⟨⟨ad,c',hv,h0,hc⟩,hr,hl⟩:=h
 cases hv
 refine ⟨⟨some ⟨b,o + 1,none⟩,c - 1,by rw [List.length_tail],by simp,?_⟩,fun n hn=>hr n (List.mem_of_mem_tail hn),by rw [List.length_tail]; omega⟩
 rcases hc with rfl | ⟨b',o',hbo,hlt,hcell⟩
 ·simp at hne
 ·cases hbo
  refine .inr ⟨b,o + 1,rfl,hlt,fun k x hk=>?_⟩
  have:=hcell (k + 1) x (by
   rw [flat_int] at hk ⊢
   rw [← hk]
   simp)
  rw [show o + 1 + k = o + (k + 1) by omega]
  exact this
theorem traceM_no {s:Stp} {t:Tkt} {a b:Spd} (h:(gapsM s t a b).2 = false):traceM s t a b = ([],false):=by
 unfold traceM; rw [if_neg (by simp [h])]
theorem gapsM_len {s:Stp} {t:Tkt} {a b:Spd} (h:(gapsM s t a b).2 = true):(gapsM s t a b).1.length = s.bases.length ∧ validS s = true:=by
 by_cases h1:a.dare = b.dare
 ·rw [gapsM_no (.inl h1)] at h; cases h
 cases h2:acceptsM s t a with
 | false=>rw [gapsM_no (.inr (.inl h2))] at h; cases h
 | true=>
  cases h3:acceptsM s t b with
  | false=>rw [gapsM_no (.inr (.inr h3))] at h; cases h
  | true=>
   rw [gapsM_yes h1 h2 h3]
   obtain ⟨l1,hv⟩:=accepts_len h2
   obtain ⟨l2,_⟩:=accepts_len h3
   exact ⟨gapL_len l1 l2,hv⟩
def TrJ (n:Nat) (tl:List Int) (Wl:World) (vs:List Value) (w':World):Prop:=Below Wl.heap.size Wl w' ∧ ∃ (v o:Value) (i:Nat),vs = [v,o,.int .i64 (i:Int)] ∧ i ≤ n ∧ OwnI w' Wl.heap.size o (tl.take i)
theorem Trace_ok (s:Stp) (t:Tkt) (x y:Spd) {v xv yv:Value} (ht:TktR t) (hs:SetR w s v) (hx:SpdR w x xv) (hy:SpdR w y yv)
  (k:∀ w' ov,Below w.heap.size w w' → Ints w' ov (traceM s t x y).1 → K (.tuple #[ov,.bool (traceM s t x y).2]) w'):callM Tryz.prog 31 #[stpV s v,tktV t,spdV x xv,spdV y yv] K w:=by
 apply sh_31_ok
 unfold sh_31
 obtain ⟨ad,c,rfl⟩:=hs.ints.isSlice
 have hx0:=hx
 have hy0:=hy
 obtain ⟨xad,xc,rfl⟩:=hx.answers.isSlice
 obtain ⟨yad,yc,rfl⟩:=hy.answers.isSlice
 have k2:∀ w' ov r,traceM s t x y = r → Below w.heap.size w w' → Ints w' ov r.1 → K (.tuple #[ov,.bool r.2]) w':=fun w' ov r e hb hi=>by
  rw [← e] at hi ⊢
  exact k w' ov hb hi
 clear k
 refine box_kn (cs:=stpC s (.slice ad s.bases.length c)) rfl (.start w) fun b1 W hk hb1 hbb=>?_
 refine box_kn (cs:=tktC t) rfl hk fun b2 W2 hk hb2 hbb=>?_
 refine box_kn (cs:=spdC x (.slice xad x.answers.length xc)) rfl hk fun b3 W3 hk hb3 hbb=>?_
 refine box_kn (cs:=spdC y (.slice yad y.answers.length yc)) rfl hk fun b4 W4 hk hb4 hbb=>?_
 clear hb1 hb2 hb3 hb4
 refine Xa hk.cells ?_
 refine gaps_ok s t x y ht (hs.next hk.below) (hx0.next hk.below) (hy0.next hk.below) (fun w2 s' ad' n' c' ov h2 hgi hcap hds=>?_)
 have hk:=hk.next h2
 have hT:=traceM_no (s:=s) (t:=t) (a:=x) (b:=y)
 have hG:=gapsM_len (s:=s) (t:=t) (a:=x) (b:=y)
 have eT:(gapsM s t x y).2 = true → traceM s t x y = ((gapsM s t x y).1.tail.map fun n=>overQ s n ((gapsM s t x y).1.headD 0),true):=fun h=>by unfold traceM; rw [if_pos h]
 obtain ⟨⟨gl,u⟩,hg⟩:∃ p,gapsM s t x y = p:=⟨_,rfl⟩
 rw [hg] at hT hG eT hgi hds ⊢
 simp only at hT hG eT hgi hds ⊢
 cases u with
 | false=>
  repeat (any_goals (first
  | ((with_reducible refine local_desk' s' ad' n' c' hk ?_); intro b7 W7 hk hb7 hg7)
  | (with_reducible refine yL ?_)
  | ((with_reducible refine oM_gen fun Kv hK=>?_); simp [go_sem,hk.cells]; refine hK _ _ ?_; clear hK Kv)))
  exact k2 _ _ _ (hT rfl) hk.below (Ints.nil _)
 | true=>
  have hds:=hds rfl
  obtain ⟨hG,hv⟩:=hG rfl
  have hv7:=validS_len hv
  have eT2:=eT rfl
  clear eT
  rw [hds]
  obtain ⟨oad,n0,oc,rfl,hcp⟩:=hcap
  obtain ⟨ob,oo,rfl,c8,r8⟩:=hgi.headD (by omega)
  obtain ⟨oad2,oc2,hoe⟩:=hgi.isSlice
  cases hoe
  obtain ⟨x0,hx0⟩:∃ x0,gl.headD 0 = x0:=⟨_,rfl⟩
  rw [hx0] at c8 r8 eT2
  repeat (any_goals (first
  | ((with_reducible refine local_desk' s ad s.bases.length c hk ?_); intro b7 W7 hk hb7 hg7)
  | (with_reducible refine yM ?_)
  | ((with_reducible refine oM_gen fun Kv hK=>?_); simp [go_sem,hk.cells]; refine hK _ _ ?_; clear hK Kv)))
  refine sliceFrom_at (by kernel_rfl) (sz:=1) (fun w=>by kernel_rfl) 1 (by omega) (by omega) ?_
  have hti:=(hgi.tail (by omega)).next hb7
  have c8:=fun w' hb=>c8 w' (hb7.on hb)
  have htl:gl.tail.length = gl.length - 1:=List.length_tail
  have hat:∀ (i:Nat) (y:Int),gl.tail[i]? = some y → (gl.tail.map fun n=>overQ s n x0)[i]? = some (overQ s y x0):=fun i y h=>by rw [List.getElem?_map,h]; rfl
  have hml:(gl.tail.map fun n=>overQ s n x0).length = gl.tail.length:=by simp
  have hrng:∀ n ∈ (gl.tail.map fun n=>overQ s n x0),I64 n:=by
   intro n hn
   obtain ⟨m,_,rfl⟩:=List.mem_map.1 hn
   exact mulQ_I64 _ _ _ (by simp)
  generalize (gl.tail.map fun n=>overQ s n x0) = tl at *
  generalize gl.tail = gt at *
  refine Xa0 ?_
  refine ⟨TrJ gt.length tl W7,vsMu gt.length,⟨Below.refl _ _,_,_,0,rfl,by omega,World.ownsRow_nil _ _ _ _⟩,?_⟩
  have hk0:=hk
  rintro _ _ w5 ⟨h5,u1,o,i,rfl,hi,ho⟩
  have hk:=hk0.next h5
  by_cases hin:i = gt.length
  ·rw [List.take_of_length_le (by omega)] at ho
   refine Xa0 ?_
   exact k2 _ _ _ eT2 hk.below (ho.ints hrng (by omega))
  ·obtain ⟨b1,o1,hbe,hb1,ca,ra,hnn⟩:=hti.at (i:=i) (by omega)
   cases hbe
   refine Xa (ca _ h5) ?_
   refine ⟨fun w'=>Kn w _ w' ∧ Below W7.heap.size W7 w',⟨hk.drew,h5.trans .drawn⟩,?_⟩
   have h5:=h5.trans (Below.drawn (w:=w5))
   have ho:=ho.keep (Below.drawn (w:=w5))
   have hk:=hk.drew
   have hgl8:0 < gl.length:=by omega
   repeat (any_goals (first
   | (with_reducible refine pureH_in ?_)
   | ((with_reducible refine idOH ?_); (with_reducible refine oH_of ⟨_,rfl⟩ (fun W0 hW0=>by (refine oM_gen (fun Kv hK=>?_)); simp [go_sem,hW0.1.cells,c8 _ hW0.2]; (first | exact hK _ _ ⟨rfl,rfl⟩ | exact ⟨by omega,hK _ _ ⟨rfl,rfl⟩⟩)) ?_))))
   refine over_ok s _ _ (hs.next hk.below) (fun w6 h6=>?_)
   have hk:=hk.next h6
   have ho:=ho.keep h6
   have h5:=h5.on h6
   refine ⟨⟨hk,h5⟩,mk1 _ (mulQ_I64 _ _ _ (by simp)) (fun v7 w7 h7 hi7=>?_)⟩
   have hk:=hk.next h7
   have ho:=ho.keep h7
   have h5:=h5.on h7
   refine ⟨⟨hk,h5⟩,append1 ho h5.size hi7 (by simp; omega) (fun v8 w8 ho8 h8=>?_)⟩
   have h5:=h5.trans h8
   have hk:=hk0.next h5
   refine ⟨⟨hk,h5⟩,⟨hk,h5⟩,?_⟩
   refine Xa0 ?_
   refine ⟨⟨h5,_,_,i + 1,rfl,by omega,?_⟩,?_⟩
   ·have e2:tl.take (i + 1) = tl.take i ++ [overQ s gt[i] x0]:=by
     rw [List.take_add_one,hat i _ (List.getElem?_eq_getElem (by omega))]
     rfl
    rw [e2]
    exact ho8
   ·simp only [vsMu_eq]; omega
end
end Go.Proofs
namespace Go.Proofs
open Go Go.Sh Go.RowKit FdSpec TkSpec
section
variable {K:Value → World → Prop} {w w0:World} {L:List (Addr × Value)}
theorem guiltyM_no {s:Stp} {t:Tkt} {a b:Spd} {l:List Int} (h:(gapsM s t a b).2 = false ∨ l.length + 1 ≠ (gapsM s t a b).1.length ∨ numsM s 0 l = false):guiltyM s t a b l = false:=by
 unfold guiltyM
 rw [if_neg]
 rcases h with h | h | h <;> simp [h]
def GuJ (ps:List (Int × Int)) (f:Int × Int → Bool) (R:Bool) (Wl:World) (vs:List Value) (w':World):Prop:=Below Wl.heap.size Wl w' ∧ ∃ (v u o:Value) (i:Nat),vs = [v,u,o,.int .i64 (i:Int)] ∧ i ≤ ps.length ∧ (ps.drop i).all f = R
theorem Guilty_ok (s:Stp) (t:Tkt) (x y:Spd) {v xv yv lv:Value} {l:List Int} (ht:TktR t) (hs:SetR w s v) (hx:SpdR w x xv) (hy:SpdR w y yv) (hl:Ints w lv l)
  (k:∀ w',Below w.heap.size w w' → K (.bool (guiltyM s t x y l)) w'):callM Tryz.prog 32 #[stpV s v,tktV t,spdV x xv,spdV y yv,lv] K w:=by
 apply sh_32_ok
 unfold sh_32
 obtain ⟨ad,c,rfl⟩:=hs.ints.isSlice
 have hx0:=hx
 have hy0:=hy
 obtain ⟨xad,xc,rfl⟩:=hx.answers.isSlice
 obtain ⟨yad,yc,rfl⟩:=hy.answers.isSlice
 obtain ⟨lad,lc,rfl⟩:=hl.isSlice
 have hll:=hl.len
 have k2:∀ w' r,guiltyM s t x y l = r → Below w.heap.size w w' → K (.bool r) w':=fun w' r e hb=>by
  rw [← e]
  exact k w' hb
 clear k
 refine box_kn (cs:=stpC s (.slice ad s.bases.length c)) rfl (.start w) fun b1 W hk hb1 hbb=>?_
 refine box_kn (cs:=tktC t) rfl hk fun b2 W2 hk hb2 hbb=>?_
 refine box_kn (cs:=spdC x (.slice xad x.answers.length xc)) rfl hk fun b3 W3 hk hb3 hbb=>?_
 refine box_kn (cs:=spdC y (.slice yad y.answers.length yc)) rfl hk fun b4 W4 hk hb4 hbb=>?_
 clear hb1 hb2 hb3 hb4
 refine Xa hk.cells ?_
 refine gaps_ok s t x y ht (hs.next hk.below) (hx0.next hk.below) (hy0.next hk.below) (fun w2 s' ad' n' c' ov h2 hgi hcap hds=>?_)
 have hk:=hk.next h2
 have hN:=guiltyM_no (s:=s) (t:=t) (a:=x) (b:=y) (l:=l)
 have hG:=gapsM_len (s:=s) (t:=t) (a:=x) (b:=y)
 have eT:(gapsM s t x y).2 = true → l.length + 1 = (gapsM s t x y).1.length → numsM s 0 l = true → guiltyM s t x y l = (l.zip (gapsM s t x y).1.tail).all fun p=>decide (mulQ s p.1 [(gapsM s t x y).1.headD 0] = p.2):=fun h1 h2 h3=>by
  unfold guiltyM; rw [if_pos (by rw [h1,h3,decide_eq_true h2]; rfl)]
 obtain ⟨⟨gl,u⟩,hg⟩:∃ p,gapsM s t x y = p:=⟨_,rfl⟩
 rw [hg] at hN hG eT hgi hds ⊢
 simp only at hN hG eT hgi hds ⊢
 obtain ⟨oad0,oc0,rfl⟩:=hgi.isSlice
 have hgl:=hgi.len
 cases u with
 | false=>
  repeat (any_goals (first
  | ((with_reducible refine local_desk' s' ad' n' c' hk ?_); intro b7 W7 hk hb7 hg7)
  | (with_reducible first|refine zD ?_|refine yB ?_|refine yL ?_)
  | ((with_reducible refine oM_gen fun Kv hK=>?_); simp [go_sem,hk.cells]; refine hK _ _ ?_; clear hK Kv)))
  exact k2 _ _ (hN (.inl rfl)) hk.below
 | true=>
  have hds:=hds rfl
  obtain ⟨hG,hv⟩:=hG rfl
  have hv7:=validS_len hv
  rw [hds]
  by_cases hlen:l.length + 1 = gl.length
  ·repeat (any_goals (first
   | ((with_reducible refine local_desk' s ad s.bases.length c hk ?_); intro b7 W7 hk hb7 hg7)
   | (with_reducible first|refine pureM_in ?_|((refine idGd ?_); first|refine zC ?_|((refine idGdN ?_); refine zO ?_))|refine yC ?_)
   | ((with_reducible refine oM_gen fun Kv hK=>?_); simp [go_sem,hk.cells]; (try simp (disch:=omega) only [wrapI64,wrapU8,wrapU64]); refine hK _ _ ?_; clear hK Kv)))
   have hk0:=hk
   refine nums_ok s 0 (hs.next hk.below) (hl.next hk.below) (fun w3 h3=>?_)
   have hk:=hk.next h3
   cases hn:numsM s 0 l with
   | false=>
    refine Xa hk.cells ?_
    exact k2 _ _ (hN (.inr (.inr hn))) hk.below
   | true=>
    have eT2:=eT rfl hlen hn
    obtain ⟨x0,hx0⟩:∃ x0,gl.headD 0 = x0:=⟨_,rfl⟩
    obtain ⟨ob,oo,rfl,c8,r8⟩:=hgi.headD (by omega)
    rw [hx0] at c8 r8 eT2
    have c8:=fun w' hb=>c8 w' (hb7.on (h3.on hb))
    have hgi3:=(hgi.next hb7).next h3
    have hzl:(l.zip gl.tail).length = l.length:=by simp; omega
    refine Xa hk.cells ?_
    refine ⟨GuJ (l.zip gl.tail) (fun p=>decide (mulQ s p.1 [x0] = p.2)) _ w3,pdMu l.length,⟨Below.refl _ _,_,_,_,0,rfl,by omega,rfl⟩,?_⟩
    have hk0:=hk
    rintro _ _ w5 ⟨h5,u1,u2,u3,i,rfl,hi,hall⟩
    rw [hzl] at hi
    have hk:=hk0.next h5
    by_cases hin:i = l.length
    ·rw [List.drop_of_length_le (by omega),List.all_nil] at hall
     refine Xa0 ?_
     exact k2 _ _ (eT2.trans hall.symm) hk.below
    ·rw [zip_drop l gl.tail i (by omega) (by rw [List.length_tail]; omega),List.all_cons] at hall
     simp only [List.getElem_tail] at hall
     obtain ⟨b1,o1,rfl,hb1,ca,ra,_⟩:=hl.at (i:=i) (by omega)
     obtain ⟨b2,o2,hbe,hb2,cb,rb,_⟩:=hgi3.at (i:=i + 1) (by omega)
     cases hbe
     refine Xa (An2 (ca _ hk.below) hk.cells) ?_
     refine ⟨fun w'=>Kn w _ w' ∧ Below w3.heap.size w3 w',⟨hk.drew,h5.trans .drawn⟩,?_⟩
     have h5:=h5.trans (Below.drawn (w:=w5))
     have hk:=hk.drew
     have hgl8:0 < gl.length:=by omega
     have e7:IntKind.i64.wrap ((i:Int) + 1) = ((i + 1:Nat):Int):=by rw [wrapI64 _ (by omega) (by omega)]; omega
     repeat (any_goals (first
     | ((with_reducible refine mk1 x0 r8 ?_); intro v7 w7 h7 hi7)
     | (with_reducible refine pureH_in ?_)
     | ((with_reducible refine idOH ?_); (with_reducible refine oH_of ⟨_,rfl⟩ (fun W0 hW0=>by (refine oM_gen (fun Kv hK=>?_)); simp [go_sem,hW0.1.cells,c8 _ hW0.2,e7,cb _ hW0.2]; (first | exact hK _ _ ⟨rfl,rfl⟩ | exact ⟨by omega,hK _ _ ⟨rfl,rfl⟩⟩)) ?_))))
     have hk:=hk.next h7
     have h5:=h5.on h7
     refine ⟨⟨hk,h5⟩,mul_ok s _ (hs.next hk.below) hi7 (fun w8 h8=>?_)⟩
     have hk:=hk.next h8
     have h5:=h5.on h8
     refine ⟨⟨hk,h5⟩,?_⟩
     by_cases he:mulQ s l[i] [x0] = gl[i + 1]
     ·refine Xg @he ?_
      refine ⟨⟨hk,h5⟩,?_⟩
      refine Xa @he ?_
      rw [decide_eq_true he,Bool.true_and] at hall
      refine ⟨⟨h5,_,_,_,i + 1,rfl,by omega,hall⟩,?_⟩
      simp only [pdMu_eq]; omega
     ·refine Xg @he ?_
      refine ⟨⟨hk,h5⟩,?_⟩
      refine Xa @he ?_
      rw [decide_eq_false he,Bool.false_and] at hall
      exact k2 _ _ (eT2.trans hall.symm) hk.below
  ·repeat (any_goals (first
   | ((with_reducible refine local_desk' s ad s.bases.length c hk ?_); intro b7 W7 hk hb7 hg7)
   | (with_reducible first|refine pureM_in ?_|((refine idGd ?_); first|refine zC ?_|((refine idGdN ?_); refine zP ?_))|((refine idPick ?_); first|refine yC ?_|refine yF ?_)|refine yL ?_)
   | ((with_reducible refine oM_gen fun Kv hK=>?_); simp [go_sem,hk.cells]; (try simp (disch:=omega) only [wrapI64,wrapU8,wrapU64]); refine hK _ _ ?_; clear hK Kv)))
   exact k2 _ _ (hN (.inr (.inl hlen))) hk.below
end
end Go.Proofs
namespace Go.Proofs
open Go Go.Sh Go.RowKit FdSpec TkSpec
section
variable {K:Value → World → Prop} {w w0 w1:World} {L:List (Addr × Value)}
theorem sz_spd (w:World):(sizeOf 49).run Tryz.prog w = .ok 2 w:=by kernel_rfl
theorem sz_ints (w:World):(sizeOf 22).run Tryz.prog w = .ok 1 w:=by kernel_rfl
theorem al_spd (w:World):(Instr.alloc 49 true (.tuple #[])).run Tryz.prog w = .ok (.pointer (some ⟨w.heap.size,0,none⟩)) (w.alloc (.cells [.int .i64 0,.slice none 0 0].toArray 49)):=by kernel_rfl
theorem spd_one (x:Spd) (ad:Option Addr) (n c:Nat):∀ u ∈ spdC x (.slice ad n c),u.oneCell' = true:=by
 intro u hu
 simp only [spdC,List.mem_cons,List.not_mem_nil,or_false] at hu
 rcases hu with rfl | rfl <;> rfl
theorem store_spd {K:Value → World → Prop} {T':TypeId} {g:Nat} (x:Spd) (ad:Option Addr) (m c:Nat) (hk:KnM w0 L g 2 w)
  (k:∀ W,KnM w0 L g 2 W → cellsAre W (cellsOf [] g 0 (spdC x (.slice ad m c))) → w.grownBy W (some g) → K undef W):oM Tryz.prog (.store 49 (.tmp 0) (.tmp 1)) T' [.pointer (some ⟨g,0,none⟩),spdV x (.slice ad m c)] K w:=by
 obtain ⟨W,e,hg,hm,hc⟩:=store_run (P:=Tryz.prog) (W:=w) sz_spd (x:=spdV x (.slice ad m c)) rfl rfl (spd_one x ad m c) hk.mine
 rw [oM_store,e]
 exact k W ⟨hk.kn.wrote hg hk.base hk.off,hm,hk.base,hk.off⟩ hc hg
theorem store_row {P:Program} {T T0:TypeId} {g o n:Nat} {cur:Array Value} {x:Value} {xs:List Value} (hT:∀ w,(sizeOf T).run P w = .ok n w) (hx:x.cells = xs.toArray) (hl:xs.length = n) (h1:∀ u ∈ xs,u.oneCell' = true) (hg:w.heap[g]? = some (.cells cur T0 (0,0))) (hfit:o + n ≤ cur.size) :
  (Instr.storeAt T (.pointer (some ⟨g,o,none⟩)) x).run P w = .ok () (w.setRow g (cur.toList.take o ++ xs ++ cur.toList.drop (o + xs.length)).toArray):=by
 have hst:=run_storeCells_at P g o T0 xs 0 cur w hg (by omega) h1
 rw [Nat.add_zero] at hst
 unfold Instr.storeAt storeVar
 have e2:x.cells.toList = xs:=by rw [hx]
 have e3:x.cells.size = n:=by rw [hx]; simpa using hl
 rw [e2,e3]
 rw [List.append_assoc] at hst ⊢
 simp [hT,go_sem]
 exact hst
theorem local_spd {K:Value → World → Prop} {T' T2:TypeId} {g n:Nat} (x:Spd) (hk:KnM w0 L g n w)
  (k:∀ b W,KnM w0 L g n W → Below w.heap.size w W → w.heap.size ≤ b → W.heap[b]? = some (.cells #[.int .i64 x.dare,.slice none 0 0] 49 (0,0)) → K (.pointer (some ⟨b,0,none⟩)) W) :
  oM Tryz.prog (.alloc 49) T' [] (fun v w=>oM Tryz.prog (.store 49 (.tmp 0) (.tmp 1)) T2 [v,spdV x (.slice none 0 0)] (fun _ w=>K v w) w) w:=by
 rw [oM_alloc,al_spd,rM_ok]
 have hb:=(Below.refl w.heap.size w).alloc (Nat.le_refl _) (.cells [Value.int .i64 0,.slice none 0 0].toArray 49)
 have hg0:(w.alloc (.cells [Value.int .i64 0,.slice none 0 0].toArray 49)).heap[w.heap.size]? = some (.cells [Value.int .i64 0,.slice none 0 0].toArray 49 (0,0)):=Array.getElem?_push_size
 generalize w.alloc (.cells [Value.int .i64 0,.slice none 0 0].toArray 49) = W at *
 have hrun:=store_row (P:=Tryz.prog) (w:=W) (o:=0) sz_spd (x:=spdV x (.slice none 0 0)) rfl rfl (spd_one x none 0 0) hg0 (by simp)
 have e1:([Value.int .i64 0,.slice none 0 0].toArray.toList.take 0 ++ spdC x (.slice none 0 0) ++ [Value.int .i64 0,.slice none 0 0].toArray.toList.drop (0 + (spdC x (.slice none 0 0)).length)).toArray = #[.int .i64 x.dare,.slice none 0 0]:=by simp
 rw [e1] at hrun
 have hh:=setRow_heap W w.heap.size _ #[Value.int .i64 x.dare,.slice none 0 0] 49 (0,0) hg0
 rw [oM_store,hrun]
 have hb2:Below w.heap.size w (W.setRow w.heap.size #[Value.int .i64 x.dare,.slice none 0 0]):=hb.grown (grown_setRow _ _ _) hb.size (fun k hk=>by cases hk; exact Nat.le_refl _)
 exact k _ _ (hk.next hb2) hb2 (Nat.le_refl _) hh
theorem store_second {K:Value → World → Prop} {T':TypeId} {g:Nat} {ad:Option Addr} {m c:Nat} {a b:Value} (hg:w.heap[g]? = some (.cells #[a,b] 49 (0,0)))
  (k:∀ W,w.grownBy W (some g) → W.heap[g]? = some (.cells #[a,.slice ad m c] 49 (0,0)) → K undef W):oM Tryz.prog (.store 22 (.tmp 0) (.tmp 1)) T' [.pointer (some ⟨g,1,none⟩),.slice ad m c] K w:=by
 have hrun:=store_row (P:=Tryz.prog) (o:=1) sz_ints (x:=.slice ad m c) rfl rfl (xs:=[Value.slice ad m c]) (by intro u hu; simp at hu; subst hu; rfl) hg (by simp)
 have hh:=setRow_heap w g _ #[a,.slice ad m c] 49 (0,0) hg
 have e1:(#[a,b].toList.take 1 ++ [Value.slice ad m c] ++ #[a,b].toList.drop (1 + [Value.slice ad m c].length)).toArray = #[a,.slice ad m c]:=by simp
 rw [e1] at hrun
 rw [oM_store,hrun]
 exact k _ (grown_setRow _ _ _) hh
abbrev FrG (g:Nat) (w w':World):Prop:=Fr (fun i=>i = g) w w'
theorem FrG.next {g:Nat} {w':World} (h:FrG g w w1) (hb:Below w1.heap.size w1 w'):FrG g w w':=
 h.trans (S':=fun _=>False) ⟨hb.os,hb.tape,hb.output,hb.size,fun i hi _=>hb.block i hi⟩ (fun _ h=>h.elim)
theorem FrG.below {g:Nat} {w':World} (h0:Below w.heap.size w w1) (h:FrG g w1 w') (hg:w.heap.size ≤ g):Below w.heap.size w w':=
 ⟨h.os.trans h0.os,h.tape.trans h0.tape,h.output.trans h0.output,Nat.le_trans h0.size h.size,fun i hi=>(h.block i (Nat.lt_of_lt_of_le hi h0.size) (fun e=>by omega)).trans (h0.block i hi)⟩
theorem cellsAre_fr {g:Nat} {w':World} (hL:cellsAre w L) (h:FrG g w w') (hn:∀ p ∈ L,p.1.block ≠ g):cellsAre w' L:=
 cellsAre_keepBut hL hn fun a ha hna=>World.cell?_of_block (w:=w) (h.block _ ha hna)
theorem _root_.Go.Sh.KnM.fr {g n g':Nat} {w':World} (hk:KnM w0 L g n w) (h:FrG g' w w') (hoff:∀ p ∈ L,p.1.block ≠ g') (hne:g ≠ g') (hb:w0.heap.size ≤ g'):KnM w0 L g n w':=by
 obtain ⟨cur,T,h1,h2⟩:=hk.mine
 exact ⟨⟨FrG.below hk.below h hb,cellsAre_fr hk.cells h hoff⟩,⟨cur,T,by rw [h.block g (mine_lt hk.mine) hne]; exact h1,h2⟩,hk.base,hk.off⟩
theorem Ints.fr {g:Nat} {w':World} {v:Value} {l:List Int} (hi:Ints w v l) (h:FrG g w w') (hne:∀ i,Value.inBlock v = some i → i ≠ g):Ints w' v l:=
 ⟨hi.row.keep h.size (fun i e hlt=>h.block i hlt (hne i e)),hi.rng,hi.len⟩
def UsC (St:World → Prop) (j:Nat) (w':World):Prop:=j ≤ 4 → St w'
theorem usGet {St:World → Prop} {n:Nat} {w':World} (h:upto (UsC St) n w') (hn:n ≤ 4):St w':=by
 obtain ⟨s,hs,hc⟩:=h
 exact hc (Nat.le_trans hs hn)
end
end Go.Proofs
namespace Go.Proofs
open Go Go.Sh Go.RowKit FdSpec TkSpec
section
variable {K:Value → World → Prop} {w w0 w1:World} {L:List (Addr × Value)}
def ansL (s:Stp) (l:List Int) (b:Bld) (dare:Int):List Int:=((expsM l).zip b.ys).map fun p=>plusQ s p.2 (mulQ s dare [b.s,p.1])
theorem useM_no {s:Stp} {l:List Int} {b:Bld} {dare:Int} (h:(usableM s l).2 = false ∨ blindsM s b = false ∨ numsM s 1 [dare] = false):useM s l b dare = (⟨0,[]⟩,false):=by
 unfold useM
 rw [if_neg]
 rcases h with h | h | h <;> simp [h]
theorem useM_yes {s:Stp} {l:List Int} {b:Bld} {dare:Int} (h1:(usableM s l).2 = true) (h2:blindsM s b = true) (h3:numsM s 1 [dare] = true):useM s l b dare = (⟨dare,ansL s l b dare⟩,true):=by
 unfold useM
 rw [if_pos (by rw [h1,h2,h3]; rfl)]
 rfl
theorem usable_len {s:Stp} {l:List Int} (h:(usableM s l).2 = true):l.length + 1 = s.bases.length ∧ validS s = true:=by
 unfold usableM at h
 simp only [Bool.and_eq_true] at h
 have h:=h.1
 unfold markM at h
 split at h
 ·rename_i hc
  simp only [Bool.and_eq_true,decide_eq_true_eq] at hc
  exact ⟨hc.1.1.2,hc.1.1.1⟩
 ·cases h
theorem blinds_len {s:Stp} {b:Bld} (h:blindsM s b = true):b.ys.length = s.bases.length:=by
 unfold blindsM at h
 simp only [Bool.and_eq_true,decide_eq_true_eq] at h
 exact h.1.2
def UsJ (al:List Int) (dare:Int) (g13:Nat) (Wl:World) (vs:List Value) (w':World):Prop:=FrG g13 Wl w' ∧ ∃ (v u ov:Value) (i:Nat),vs = [v,u,.int .i64 (i:Int)] ∧ i ≤ al.length ∧ OwnI w' Wl.heap.size ov (al.take i) ∧ w'.heap[g13]? = some (.cells #[.int .i64 dare,ov] 49 (0,0))
theorem Use_ok (s:Stp) (b:Bld) (dare:Int) {v bv lv:Value} {l:List Int} (hd:I64 dare) (hs:SetR w s v) (hl:Ints w lv l) (hb:BldR w b bv)
  (k:∀ w' ov,Below w.heap.size w w' → Ints w' ov (useM s l b dare).1.answers → K (.tuple #[spdV (useM s l b dare).1 ov,.bool (useM s l b dare).2]) w'):callM Tryz.prog 15 #[stpV s v,lv,bldV b bv,.int .i64 dare] K w:=by
 apply sh_15_ok
 unfold sh_15
 obtain ⟨ad,c,rfl⟩:=hs.ints.isSlice
 have hys:=hb.ys
 have hb0:=hb
 obtain ⟨yad,yc,rfl⟩:=hb.ys.isSlice
 have k2:∀ w' ov r,useM s l b dare = r → Below w.heap.size w w' → Ints w' ov r.1.answers → K (.tuple #[spdV r.1 ov,.bool r.2]) w':=fun w' ov r e hb hi=>by
  rw [← e] at hi ⊢
  exact k w' ov hb hi
 clear k
 refine box_kn (cs:=stpC s (.slice ad s.bases.length c)) rfl (.start w) fun b1 W hk hb1 hbb=>?_
 refine box_kn (cs:=bldC b (.slice yad b.ys.length yc)) rfl hk fun b2 W2 hk hb2 hbb=>?_
 refine alloc_mine (n:=2) al_spd rfl hk fun g W2 hk hb2 hg=>?_
 clear hb1 hb2
 refine Xa hk.cells ?_
 refine usable_ok s (hs.next hk.below) (hl.next hk.below) (fun w2 h2=>?_)
 have hk:=hk.next h2
 clear h2
 have hno:=useM_no (s:=s) (l:=l) (b:=b) (dare:=dare)
 cases hu:(usableM s l).2 with
 | false=>
  repeat (any_goals (first
  | ((with_reducible refine local_desk s ad s.bases.length c hk ?_); intro b7 W7 hk hb7 hg7)
  | (with_reducible first|refine zD ?_|refine yB ?_|refine yL ?_)
  | ((with_reducible refine oM_gen fun Kv hK=>?_); simp [go_sem,hk.cells]; refine hK _ _ ?_; clear hK Kv)))
  exact store_spd ⟨0,[]⟩ none 0 0 hk (fun W3 hk hc _=>⟨_,by simp [go_sem,hc],k2 _ _ _ (hno (.inl hu)) hk.below (Ints.nil _)⟩)
 | true=>
  obtain ⟨hll,hv⟩:=usable_len hu
  have hv7:=validS_len hv
  repeat (any_goals (first
  | ((with_reducible refine local_desk s ad s.bases.length c hk ?_); intro b7 W7 hk hb7 hg7)
  | (with_reducible refine zC ?_)
  | ((with_reducible refine oM_gen fun Kv hK=>?_); simp [go_sem,hk.cells]; refine hK _ _ ?_; clear hK Kv)))
  refine blinds_ok s b (hs.next hk.below) (hb0.next hk.below) (fun w3 h3=>?_)
  have hk:=hk.next h3
  cases hbl:blindsM s b with
  | false=>
   refine Xa hk.cells ?_
   exact store_spd ⟨0,[]⟩ none 0 0 hk (fun W3 hk hc _=>⟨_,by simp [go_sem,hc],k2 _ _ _ (hno (.inr (.inl hbl))) hk.below (Ints.nil _)⟩)
  | true=>
   have hyl:=blinds_len hbl
   repeat (any_goals (first
   | ((with_reducible refine mk1 dare hd ?_); intro v8 W8 hb8 hi)
   | (with_reducible first|refine pureM_in ?_|refine zC ?_|refine yC ?_)
   | ((with_reducible refine oM_gen fun Kv hK=>?_); simp [go_sem,hk.cells]; refine hK _ _ ?_; clear hK Kv)))
   have hk:=hk.next hb8
   refine nums_ok s 1 (hs.next hk.below) hi (fun w4 h4=>?_)
   have hk:=hk.next h4
   cases hn:numsM s 1 [dare] with
   | false=>
    refine Xa hk.cells ?_
    exact store_spd ⟨0,[]⟩ none 0 0 hk (fun W3 hk hc _=>⟨_,by simp [go_sem,hc],k2 _ _ _ (hno (.inr (.inr hn))) hk.below (Ints.nil _)⟩)
   | true=>
    have ey:=useM_yes hu hbl hn
    have hgW:g < w4.heap.size:=mine_lt hk.mine
    have hoffL:=cells_lt hk.cells
    repeat (any_goals (first
    | ((with_reducible refine local_spd ⟨dare,[]⟩ hk ?_); intro g13 W9 hk hb9 hg13 hh13)
    | (with_reducible first|refine zC ?_|refine yC ?_|refine yM ?_)
    | ((with_reducible refine oM_gen fun Kv hK=>?_); simp [go_sem,hk.cells]; refine hK _ _ ?_; clear hK Kv)))
    refine exps_ok (hl.next hk.below) (by omega) (by omega) (fun ev w5 he h5 hff=>?_)
    have hg13W:=(Array.getElem?_eq_some_iff.1 hh13).1
    have hh13:w5.heap[g13]? = some (.cells #[.int .i64 dare,.slice none 0 0] 49 (0,0)):=by rw [h5.block g13 hg13W]; exact hh13
    have hk:=hk.next h5
    have hel:(expsM l).length = l.length + 1:=rfl
    have hal:(ansL s l b dare).length = l.length + 1:=by simp [ansL,hel]; omega
    have hat:∀ (i:Nat) (h1:i < (expsM l).length) (h2:i < b.ys.length),(ansL s l b dare)[i]? = some (plusQ s b.ys[i] (mulQ s dare [b.s,(expsM l)[i]])):=fun i h1 h2=>by
     simp [ansL,h1,h2,List.getElem?_zip_eq_some]
     exact ⟨_,_,⟨rfl,rfl⟩,rfl⟩
    have hrng:∀ n ∈ ansL s l b dare,I64 n:=by
     intro n hn
     obtain ⟨m,_,rfl⟩:=List.mem_map.1 hn
     exact addM_I64 _ _ _
    generalize ansL s l b dare = al at *
    obtain ⟨ead,ec,rfl⟩:=he.isSlice
    have hs5:=h5.size
    have hs9:=hb9.size
    have hing:∀ i,Value.inBlock (.slice ead (expsM l).length ec) = some i → i ≠ g13:=fun i hi=>by
     have:=hff i hi
     omega
    refine Xa0 ?_
    refine ⟨UsJ al dare g13 w5,vsMu (expsM l).length,⟨Fr.refl _ _,_,_,.slice none 0 0,0,rfl,by omega,World.ownsRow_nil _ _ _ _,hh13⟩,?_⟩
    have hk0:=hk
    have hgne:g ≠ g13:=by omega
    have hoff13:∀ p ∈ cellsOf (cellsOf (cellsOf [] b1 0 (stpC s (.slice ad s.bases.length c))) b2 0 (bldC b (.slice yad b.ys.length yc))) b7 0 (stpC s (.slice ad s.bases.length c)),p.1.block ≠ g13:=fun p hp=>by have:=hoffL p hp; omega
    have hw13:w.heap.size ≤ g13:=Nat.le_trans hk0.base (by omega)
    rintro _ _ w6 ⟨h6,u1,u2,ov,i,rfl,hi,ho,hh⟩
    have hk:=hk0.fr h6 hoff13 hgne hw13
    by_cases hin:i = (expsM l).length
    ·rw [List.take_of_length_le (by omega)] at ho
     have hints:=ho.ints hrng (by omega)
     obtain ⟨g',cap,cur,rfl,hlt,hB,_,_,_,hcell⟩:=owns_cells ho (by omega)
     have c0:w6.cell? ⟨g13,0,none⟩ = some (.int .i64 dare):=by rw [cell_of_block hh]; rfl
     have c1:w6.cell? ⟨g13,1,none⟩ = some (.slice (some ⟨g',0,none⟩) al.length cap):=by rw [cell_of_block hh]; rfl
     refine Xa (An2 @c0 @c1) ?_
     refine store_spd ⟨dare,al⟩ _ _ _ hk (fun W3 hk hc hgr=>⟨_,by simp [go_sem,hc],k2 _ _ _ ey hk.below ⟨hints.row.keep hgr.size (fun i hi hlt=>hgr.block i hlt ?_),hrng,by show al.length ≤ _; omega⟩⟩)
     cases hi
     intro e
     have e2:g' = g:=Option.some.inj e
     omega
    ·have hev:=Ints.fr he h6 hing
     have hed:=FrG.below hk0.below h6 hw13
     obtain ⟨b8,o8,rfl,hb8',ca,ra,_⟩:=hev.at (i:=i) (by omega)
     obtain ⟨b9,o9,rfl,hb9',cb,rb,_⟩:=hys.at (i:=i) (by omega)
     have c1:∀ w',Below w6.heap.size w6 w' → w'.heap[g13]? = some (.cells #[.int .i64 dare,ov] 49 (0,0)):=fun w' hw=>by rw [hw.block g13 (Array.getElem?_eq_some_iff.1 hh).1]; exact hh
     refine Xa (ca _ (Below.refl _ _)) ?_
     refine ⟨UsC (fun w'=>KnM w _ g 2 w' ∧ Below w.heap.size w w' ∧ w'.cell? ⟨g13,1,none⟩ = some ov),fun _=>⟨hk.drew,hk.drew.below,by rw [cell_of_block (c1 _ .drawn)]; rfl⟩,?_⟩
     have hk:=hk.drew
     have ho:=ho.keep (Below.drawn (w:=w6))
     have h7:Below w6.heap.size w6 { w6 with drawn:=w6.drawn + 1 }:=.drawn
     have hfr:=FrG.next h6 h7
     have hh1:=c1 _ h7
     repeat (any_goals (first
     | ((with_reducible refine mk2 b.s _ hb.s ra ?_); intro v10 w10 h10 hi10)
     | (with_reducible refine pureH_in ?_)
     | ((with_reducible refine idOH ?_); (with_reducible refine oH_of ⟨_,rfl⟩ (fun W0 hW0=>by (refine oM_gen (fun Kv hK=>?_)); simp [go_sem,(usGet hW0 (by omega)).1.cells,(usGet hW0 (by omega)).2.2,cb _ (usGet hW0 (by omega)).2.1]; (first | exact hK _ _ ⟨rfl,rfl⟩ | exact ⟨by omega,hK _ _ ⟨rfl,rfl⟩⟩)) ?_))))
     have hk:=hk.next h10
     have hh1:w10.heap[g13]? = _:=(h10.block g13 (Array.getElem?_eq_some_iff.1 hh1).1).trans hh1
     have ho:=ho.keep h10
     have hfr:=hfr.next h10
     refine ⟨fun _=>⟨hk,hk.below,by rw [cell_of_block hh1]; rfl⟩,mul_ok s _ (hs.next hk.below) hi10 (fun w11 h11=>?_)⟩
     have hk:=hk.next h11
     have hh1:w11.heap[g13]? = _:=(h11.block g13 (Array.getElem?_eq_some_iff.1 hh1).1).trans hh1
     have ho:=ho.keep h11
     have hfr:=hfr.next h11
     refine ⟨fun _=>⟨hk,hk.below,by rw [cell_of_block hh1]; rfl⟩,plus_ok s _ _ (hs.next hk.below) (fun w12 h12=>?_)⟩
     have hk:=hk.next h12
     have hh1:w12.heap[g13]? = _:=(h12.block g13 (Array.getElem?_eq_some_iff.1 hh1).1).trans hh1
     have ho:=ho.keep h12
     have hfr:=hfr.next h12
     refine ⟨fun _=>⟨hk,hk.below,by rw [cell_of_block hh1]; rfl⟩,mk1 _ (addM_I64 _ _ _) (fun v13 w13 h13 hi13=>?_)⟩
     have hk:=hk.next h13
     have hh1:w13.heap[g13]? = _:=(h13.block g13 (Array.getElem?_eq_some_iff.1 hh1).1).trans hh1
     have ho:=ho.keep h13
     have hfr:=hfr.next h13
     refine ⟨fun _=>⟨hk,hk.below,by rw [cell_of_block hh1]; rfl⟩,append1 ho hfr.size hi13 (by simp; omega) (fun v14 w14 ho h14=>?_)⟩
     have hg5:g13 < w5.heap.size:=by omega
     have hh1:w14.heap[g13]? = _:=(h14.block g13 hg5).trans hh1
     have hfr:FrG g13 w5 w14:=hfr.trans (S':=fun i=>w5.heap.size ≤ i) ⟨h14.os,h14.tape,h14.output,h14.size,fun i hi hn=>h14.block i (by omega)⟩ (fun i h=>.inr h)
     refine ⟨fun h=>absurd h (by omega),?_⟩
     have hli:((al.take i) ++ [plusQ s b.ys[i] (mulQ s dare [b.s,(expsM l)[i]])]) = al.take (i + 1):=by
      rw [List.take_add_one,hat i (by omega) (by omega)]
      rfl
     rw [hli] at ho
     obtain ⟨oad,oc,hov⟩:=owns_len ho
     subst hov
     refine Xa0 ?_
     refine ⟨fun h=>absurd h (by omega),store_second hh1 (fun w15 hgr hh2=>⟨fun h=>absurd h (by omega),?_⟩)⟩
     have hfr:FrG g13 w5 w15:=hfr.by hgr (fun i e=>.inl (Option.some.inj e).symm)
     have ho:OwnI w15 w5.heap.size _ _:=owns_keep ho (fun j hj=>hgr.block j (owns_own ho hj).1 (fun e=>by have:=(owns_own ho hj).2.1; have:=Option.some.inj e; omega))
     refine Xa0 ?_
     refine ⟨⟨hfr,_,_,_,i + 1,rfl,by omega,ho,hh2⟩,?_⟩
     simp only [vsMu_eq]; omega
end
end Go.Proofs
namespace Go.Proofs
open Go.Sh Tryz
def sh_21 (K:Value → World → Prop) (w:World):Prop:=
 oM prog (.build 30 #[(0,(.tmp 0)),(1,(.tmp 1)),(2,(.tmp 2))]) 30 [(.int .i64 23),(.int .i64 11),(.int .i64 4)] (fun v18 w=>
 oM prog (.buildSlice 22 3 #[(0,(.tmp 0)),(1,(.tmp 1)),(2,(.tmp 2))]) 22 [(.int .i64 4),(.int .i64 16),(.int .i64 18)] (fun v19 w=>
 oM prog (.build 32 #[(0,(.tmp 0)),(1,(.tmp 1)),(2,(.tmp 2))]) 32 [v18,v19,(.int .i64 3)] (fun v20 w=>
 oM prog (.alloc 32) 0 [] (fun v1 w=>
 oM prog (.store 32 (.tmp 0) (.tmp 1)) 0 [v1,v20] (fun _ w=>
 oM prog (.buildSlice 22 2 #[(0,(.tmp 0)),(1,(.tmp 1))]) 22 [(.int .i64 5),(.int .i64 7)] (fun v21 w=>
 oM prog (.buildSlice 22 3 #[(0,(.tmp 0)),(1,(.tmp 1)),(2,(.tmp 2))]) 22 [(.int .i64 1),(.int .i64 2),(.int .i64 3)] (fun v22 w=>
 oM prog (.build 45 #[(0,(.tmp 0)),(1,(.tmp 1)),(3,(.tmp 2))]) 45 [(.int .i64 4),(.int .i64 1),v22] (fun v23 w=>
 oM prog (.alloc 45) 0 [] (fun v3 w=>
 oM prog (.store 45 (.tmp 0) (.tmp 1)) 0 [v3,v23] (fun _ w=>
 oM prog (.load 32 (.tmp 0)) 32 [v1] (fun v25 w=>
 callM prog 34 #[v25,(.int .i64 3),v21,(.int .i64 2)] (fun v27 w=>
 oM prog (.extract (.tmp 0) 0) 37 [v27] (fun v28 w=>
 oM prog (.extract (.tmp 0) 1) 54 [v27] (fun v29 w=>
 oM prog (.alloc 37) 0 [] (fun v4 w=>
 oM prog (.store 37 (.tmp 0) (.tmp 1)) 0 [v4,v28] (fun _ w=>
 oM prog (.load 32 (.tmp 0)) 32 [v1] (fun v31 w=>
 oM prog (.load 45 (.tmp 0)) 45 [v3] (fun v33 w=>
 callM prog 15 #[v31,v21,v33,(.int .i64 2)] (fun v34 w=>
 oM prog (.extract (.tmp 0) 0) 49 [v34] (fun v35 w=>
 oM prog (.extract (.tmp 0) 1) 4 [v34] (fun v36 w=>
 oM prog (.alloc 49) 0 [] (fun v6 w=>
 oM prog (.store 49 (.tmp 0) (.tmp 1)) 0 [v6,v35] (fun _ w=>
 oM prog (.load 32 (.tmp 0)) 32 [v1] (fun v38 w=>
 oM prog (.load 45 (.tmp 0)) 45 [v3] (fun v40 w=>
 callM prog 15 #[v38,v21,v40,(.int .i64 5)] (fun v41 w=>
 oM prog (.extract (.tmp 0) 0) 49 [v41] (fun v42 w=>
 oM prog (.extract (.tmp 0) 1) 4 [v41] (fun v43 w=>
 oM prog (.alloc 49) 0 [] (fun v8 w=>
 oM prog (.store 49 (.tmp 0) (.tmp 1)) 0 [v8,v42] (fun _ w=>
 oM prog (.build 41 #[(0,(.tmp 0)),(1,(.tmp 1)),(2,(.tmp 2)),(3,(.tmp 3)),(4,(.tmp 4))]) 41 [(.int .i64 8),(.int .i64 18),(.int .i64 9),(.int .i64 16),(.int .i64 13)] (fun v44 w=>
 oM prog (.alloc 41) 0 [] (fun v10 w=>
 oM prog (.store 41 (.tmp 0) (.tmp 1)) 0 [v10,v44] (fun _ w=>
 oM prog (.load 32 (.tmp 0)) 32 [v1] (fun v46 w=>
 oM prog (.load 41 (.tmp 0)) 41 [v10] (fun v47 w=>
 oM prog (.load 49 (.tmp 0)) 49 [v6] (fun v48 w=>
 oM prog (.load 49 (.tmp 0)) 49 [v8] (fun v49 w=>
 callM prog 31 #[v46,v47,v48,v49] (fun v50 w=>
 oM prog (.extract (.tmp 0) 0) 22 [v50] (fun v51 w=>
 oM prog (.extract (.tmp 0) 1) 4 [v50] (fun v52 w=>
 oM prog (.load 32 (.tmp 0)) 32 [v1] (fun v54 w=>
 oM prog (.load 41 (.tmp 0)) 41 [v10] (fun v55 w=>
 oM prog (.load 49 (.tmp 0)) 49 [v6] (fun v56 w=>
 oM prog (.load 49 (.tmp 0)) 49 [v6] (fun v57 w=>
 callM prog 31 #[v54,v55,v56,v57] (fun v58 w=>
 oM prog (.extract (.tmp 0) 0) 22 [v58] (fun v59 w=>
 oM prog (.extract (.tmp 0) 1) 4 [v58] (fun v60 w=>
 oM prog (.fieldAddr 49 (.tmp 0) 1) 0 [v6] (fun v61 w=>
 oM prog (.load 22 (.tmp 0)) 22 [v61] (fun v62 w=>
 oM prog (.buildSlice 22 3 #[(0,(.tmp 0)),(1,(.tmp 1)),(2,(.tmp 2))]) 22 [(.int .i64 9),(.int .i64 9),(.int .i64 4)] (fun v63 w=>
 callM prog 33 #[v62,v63] (fun v64 w=>
 oM prog (.unOp .not 4 (.tmp 0)) 4 [v64] (fun v65 w=>
 gdM (gd v65 false) (oM prog (.fieldAddr 49 (.tmp 0) 1) 0 [v8]) (fun v67 w=>
 gdM (gd v65 false) (oM prog (.load 22 (.tmp 0)) 22 [v67]) (fun v68 w=>
 gdM (gd v65 false) (oM prog (.buildSlice 22 3 #[(0,(.tmp 0)),(1,(.tmp 1)),(2,(.tmp 2))]) 22 [(.int .i64 10),(.int .i64 3),(.int .i64 0)]) (fun v69 w=>
 gdM (gd v65 false) (callM prog 33 #[v68,v69]) (fun v70 w=>
 gdM (gd v65 false) (oM prog (.unOp .not 4 (.tmp 0)) 4 [v70]) (fun v71 w=>
 oM prog (.pick (.tmp 0) (.tmp 1) (.tmp 2)) 4 [v65,(.bool true),v71] (fun v72 w=>
 gdM (gd v72 false) (pureM v36) (fun v74 w=>
 gdM (gd v72 false) (oM prog (.unOp .not 4 (.tmp 0)) 4 [v74]) (fun v75 w=>
 oM prog (.pick (.tmp 0) (.tmp 1) (.tmp 2)) 4 [v72,(.bool true),v75] (fun v76 w=>
 gdM (gd v76 false) (pureM v43) (fun v78 w=>
 gdM (gd v76 false) (oM prog (.unOp .not 4 (.tmp 0)) 4 [v78]) (fun v79 w=>
 oM prog (.pick (.tmp 0) (.tmp 1) (.tmp 2)) 4 [v76,(.bool true),v79] (fun v80 w=>
 gdM (gd v80 false) (pureM v51) (fun v82 w=>
 gdM (gd v80 false) (pureM v21) (fun v83 w=>
 gdM (gd v80 false) (callM prog 33 #[v82,v83]) (fun v84 w=>
 gdM (gd v80 false) (oM prog (.unOp .not 4 (.tmp 0)) 4 [v84]) (fun v85 w=>
 oM prog (.pick (.tmp 0) (.tmp 1) (.tmp 2)) 4 [v80,(.bool true),v85] (fun v86 w=>
 gdM (gd v86 false) (pureM v52) (fun v88 w=>
 gdM (gd v86 false) (oM prog (.unOp .not 4 (.tmp 0)) 4 [v88]) (fun v89 w=>
 oM prog (.pick (.tmp 0) (.tmp 1) (.tmp 2)) 4 [v86,(.bool true),v89] (fun v90 w=>
 gdM (gd v90 false) (pureM v60) (fun v92 w=>
 oM prog (.pick (.tmp 0) (.tmp 1) (.tmp 2)) 4 [v90,(.bool true),v92] (fun v93 w=>
 condM v93
 (K (.bool false) w)
 (oM prog (.fieldAddr 49 (.tmp 0) 1) 0 [v6] (fun v94 w=>
 oM prog (.load 22 (.tmp 0)) 22 [v94] (fun v95 w=>
 oM prog (.build 49 #[(0,(.tmp 0)),(1,(.tmp 1))]) 49 [(.int .i64 3),v95] (fun v96 w=>
 oM prog (.alloc 49) 0 [] (fun v15 w=>
 oM prog (.store 49 (.tmp 0) (.tmp 1)) 0 [v15,v96] (fun _ w=>
 oM prog (.load 32 (.tmp 0)) 32 [v1] (fun v97 w=>
 callM prog 80 #[v97,v21] (fun v99 w=>
 oM prog (.binOp .eql 3 (.tmp 0) (.const (.int .i64 6)) 3) 4 [v99] (fun v100 w=>
 gdM (gd v100 true) (oM prog (.load 32 (.tmp 0)) 32 [v1]) (fun v102 w=>
 gdM (gd v100 true) (pureM v21) (fun v103 w=>
 gdM (gd v100 true) (callM prog 81 #[v102,v103]) (fun v104 w=>
 oM prog (.pick (.tmp 0) (.tmp 1) (.tmp 2)) 4 [v100,v104,(.bool false)] (fun v105 w=>
 gdM (gd v105 true) (oM prog (.load 32 (.tmp 0)) 32 [v1]) (fun v107 w=>
 gdM (gd v105 true) (oM prog (.buildSlice 22 2 #[(0,(.tmp 0)),(1,(.tmp 1))]) 22 [(.int .i64 5),(.int .i64 0)]) (fun v108 w=>
 gdM (gd v105 true) (callM prog 81 #[v107,v108]) (fun v109 w=>
 gdM (gd v105 true) (oM prog (.unOp .not 4 (.tmp 0)) 4 [v109]) (fun v110 w=>
 oM prog (.pick (.tmp 0) (.tmp 1) (.tmp 2)) 4 [v105,v110,(.bool false)] (fun v111 w=>
 gdM (gd v111 true) (oM prog (.load 32 (.tmp 0)) 32 [v1]) (fun v113 w=>
 gdM (gd v111 true) (callM prog 13 #[v113,(.int .i64 3)]) (fun v114 w=>
 gdM (gd v111 true) (oM prog (.binOp .eql 3 (.tmp 0) (.const (.int .i64 18)) 3) 4 [v114]) (fun v115 w=>
 oM prog (.pick (.tmp 0) (.tmp 1) (.tmp 2)) 4 [v111,v115,(.bool false)] (fun v116 w=>
 gdM (gd v116 true) (oM prog (.load 32 (.tmp 0)) 32 [v1]) (fun v118 w=>
 gdM (gd v116 true) (callM prog 13 #[v118,(.int .i64 0)]) (fun v119 w=>
 gdM (gd v116 true) (oM prog (.binOp .eql 3 (.tmp 0) (.const (.int .i64 0)) 3) 4 [v119]) (fun v120 w=>
 oM prog (.pick (.tmp 0) (.tmp 1) (.tmp 2)) 4 [v116,v120,(.bool false)] (fun v121 w=>
 oM prog (.binOp .eql 54 (.tmp 0) (.const (.int .i64 0)) 54) 4 [v29] (fun v123 w=>
 gdM (gd v123 true) (oM prog (.load 37 (.tmp 0)) 37 [v4]) (fun v125 w=>
 gdM (gd v123 true) (oM prog (.build 37 #[(0,(.tmp 0)),(1,(.tmp 1)),(2,(.tmp 2))]) 37 [(.int .i64 9),(.int .i64 16),(.int .i64 13)]) (fun v126 w=>
 gdM (gd v123 true) (oM prog (.binOp .eql 37 (.tmp 0) (.tmp 1) 37) 4 [v125,v126]) (fun v127 w=>
 oM prog (.pick (.tmp 0) (.tmp 1) (.tmp 2)) 4 [v123,v127,(.bool false)] (fun v128 w=>
 gdM (gd v128 true) (oM prog (.load 32 (.tmp 0)) 32 [v1]) (fun v130 w=>
 gdM (gd v128 true) (callM prog 35 #[v130,(.int .i64 3),(.int .i64 2),(.int .i64 6)]) (fun v131 w=>
 gdM (gd v128 true) (oM prog (.binOp .eql 3 (.tmp 0) (.const (.int .i64 9)) 3) 4 [v131]) (fun v132 w=>
 oM prog (.pick (.tmp 0) (.tmp 1) (.tmp 2)) 4 [v128,v132,(.bool false)] (fun v133 w=>
 gdM (gd v133 true) (oM prog (.load 32 (.tmp 0)) 32 [v1]) (fun v135 w=>
 gdM (gd v133 true) (oM prog (.load 41 (.tmp 0)) 41 [v10]) (fun v136 w=>
 gdM (gd v133 true) (oM prog (.load 49 (.tmp 0)) 49 [v6]) (fun v137 w=>
 gdM (gd v133 true) (callM prog 36 #[v135,v136,v137]) (fun v138 w=>
 oM prog (.pick (.tmp 0) (.tmp 1) (.tmp 2)) 4 [v133,v138,(.bool false)] (fun v139 w=>
 gdM (gd v139 true) (oM prog (.load 32 (.tmp 0)) 32 [v1]) (fun v141 w=>
 gdM (gd v139 true) (oM prog (.load 41 (.tmp 0)) 41 [v10]) (fun v142 w=>
 gdM (gd v139 true) (oM prog (.load 49 (.tmp 0)) 49 [v8]) (fun v143 w=>
 gdM (gd v139 true) (callM prog 36 #[v141,v142,v143]) (fun v144 w=>
 oM prog (.pick (.tmp 0) (.tmp 1) (.tmp 2)) 4 [v139,v144,(.bool false)] (fun v145 w=>
 gdM (gd v145 true) (oM prog (.load 32 (.tmp 0)) 32 [v1]) (fun v147 w=>
 gdM (gd v145 true) (oM prog (.load 41 (.tmp 0)) 41 [v10]) (fun v148 w=>
 gdM (gd v145 true) (oM prog (.load 49 (.tmp 0)) 49 [v15]) (fun v149 w=>
 gdM (gd v145 true) (callM prog 36 #[v147,v148,v149]) (fun v150 w=>
 gdM (gd v145 true) (oM prog (.unOp .not 4 (.tmp 0)) 4 [v150]) (fun v151 w=>
 oM prog (.pick (.tmp 0) (.tmp 1) (.tmp 2)) 4 [v145,v151,(.bool false)] (fun v152 w=>
 gdM (gd v121 true) (pureM v152) (fun v155 w=>
 oM prog (.pick (.tmp 0) (.tmp 1) (.tmp 2)) 4 [v121,v155,(.bool false)] (fun v156 w=>
 gdM (gd v156 true) (oM prog (.load 32 (.tmp 0)) 32 [v1]) (fun v158 w=>
 gdM (gd v156 true) (oM prog (.load 41 (.tmp 0)) 41 [v10]) (fun v159 w=>
 gdM (gd v156 true) (oM prog (.load 49 (.tmp 0)) 49 [v6]) (fun v160 w=>
 gdM (gd v156 true) (oM prog (.load 49 (.tmp 0)) 49 [v8]) (fun v161 w=>
 gdM (gd v156 true) (pureM v21) (fun v162 w=>
 gdM (gd v156 true) (callM prog 32 #[v158,v159,v160,v161,v162]) (fun v163 w=>
 oM prog (.pick (.tmp 0) (.tmp 1) (.tmp 2)) 4 [v156,v163,(.bool false)] (fun v164 w=>
 gdM (gd v164 true) (oM prog (.load 41 (.tmp 0)) 41 [v10]) (fun v166 w=>
 gdM (gd v164 true) (callM prog 56 #[v166]) (fun v167 w=>
 gdM (gd v164 true) (oM prog (.binOp .eql 9 (.tmp 0) (.const (.string ⟨#[54,91,56,59,49,56,59,57,59,49,54,59,49,51,59,48,59,93]⟩)) 9) 4 [v167]) (fun v168 w=>
 oM prog (.pick (.tmp 0) (.tmp 1) (.tmp 2)) 4 [v164,v168,(.bool false)] (fun v169 w=>
 K v169 w) w) w) w) w) w) w) w) w) w) w) w) w) w) w) w) w) w) w) w) w) w) w) w) w) w) w) w) w) w) w) w) w) w) w) w) w) w) w) w) w) w) w) w) w) w) w) w) w) w) w) w) w) w) w) w) w) w) w) w) w) w) w) w)) w) w) w) w) w) w) w) w) w) w) w) w) w) w) w) w) w) w) w) w) w) w) w) w) w) w) w) w) w) w) w) w) w) w) w) w) w) w) w) w) w) w) w) w) w) w) w) w) w) w) w) w) w) w) w) w) w) w) w) w) w) w) w) w) w) w) w) w) w) w) w) w) w) w
theorem sh_21_ok {K:Value → World → Prop} {w:World} (h:sh_21 K w):callM prog 21 #[] K w:=
 calls_of_code (fun _=>2) (fn:=Tryz.f21) (rs:=[.tmp 0]) Tryz.func21 rfl rfl (by kernel_rfl) (Nat.le_of_ble_eq_true rfl) (Eq.mp (by kernel_rfl) h)
def sh_56 (a0:Value) (K:Value → World → Prop) (w:World):Prop:=
 oM prog (.box 41 (.tmp 0)) 0 [a0] (fun v1 w=>
 oM prog (.fieldAddr 41 (.tmp 0) 0) 0 [v1] (fun v3 w=>
 oM prog (.load 3 (.tmp 0)) 3 [v3] (fun v4 w=>
 oM prog (.fieldAddr 41 (.tmp 0) 1) 0 [v1] (fun v5 w=>
 oM prog (.load 3 (.tmp 0)) 3 [v5] (fun v6 w=>
 oM prog (.fieldAddr 41 (.tmp 0) 2) 0 [v1] (fun v7 w=>
 oM prog (.load 3 (.tmp 0)) 3 [v7] (fun v8 w=>
 oM prog (.fieldAddr 41 (.tmp 0) 3) 0 [v1] (fun v9 w=>
 oM prog (.load 3 (.tmp 0)) 3 [v9] (fun v10 w=>
 oM prog (.fieldAddr 41 (.tmp 0) 4) 0 [v1] (fun v11 w=>
 oM prog (.load 3 (.tmp 0)) 3 [v11] (fun v12 w=>
 oM prog (.fieldAddr 41 (.tmp 0) 5) 0 [v1] (fun v13 w=>
 oM prog (.load 3 (.tmp 0)) 3 [v13] (fun v14 w=>
 oM prog (.buildSlice 22 6 #[(0,(.tmp 0)),(1,(.tmp 1)),(2,(.tmp 2)),(3,(.tmp 3)),(4,(.tmp 4)),(5,(.tmp 5))]) 22 [v4,v6,v8,v10,v12,v14] (fun v15 w=>
 callM prog 123 #[v15] (fun v16 w=>
 K v16 w) w) w) w) w) w) w) w) w) w) w) w) w) w) w) w
theorem sh_56_ok {a0:Value} {K:Value → World → Prop} {w:World} (h:sh_56 a0 K w):callM prog 56 #[a0] K w:=
 calls_of_code (fun _=>2) (fn:=Tryz.f56) (rs:=[.tmp 2]) Tryz.func56 rfl rfl (by kernel_rfl) (Nat.le_of_ble_eq_true rfl) (Eq.mp (by kernel_rfl) h)
end Go.Proofs
namespace Go.Proofs
abbrev tabName:String:=(YtpfjmfgnlpnflaaGreatDoor.Rows.ticketHonestRow.laid.map (fun x=>x.1)).getD 2 default
open Go.Shelf
def Tryz.lays169_ren:Go.Shelf.Ren:=⟨fun | 169=>195 | n=>n,fun | 70=>207 | 9=>9 | 0=>0 | 72=>209 | 37=>181 | 127=>233 | 3=>3 | 5=>5 | n=>n,fun | n=>n⟩
theorem Tryz.lays169:Go.Proofs.Lays.n169 Tryz.prog Tryz.lays169_ren:={
 mixed:=by kernel_rfl
 f169:=Tryz.func195.trans (congrArg some (by kernel_rfl))
 t0:=Tryz.underlying0
 a0:=Tryz.isAgg0
 z0:=Tryz.sizeOf0
 v0:=Tryz.zeroValue0
 t3:=Tryz.underlying3
 a3:=Tryz.isAgg3
 z3:=Tryz.sizeOf3
 v3:=Tryz.zeroValue3
 t9:=Tryz.underlying9
 a9:=Tryz.isAgg9
 z9:=Tryz.sizeOf9
 v9:=Tryz.zeroValue9
 t37:=Tryz.underlying181
 a37:=Tryz.isAgg181
 z37:=Tryz.sizeOf181
 v37:=Tryz.zeroValue181
 t70:=Tryz.underlying207
 a70:=Tryz.isAgg207
 z70:=Tryz.sizeOf207
 v70:=Tryz.zeroValue207
 t72:=Tryz.underlying209
 a72:=Tryz.isAgg209
 z72:=Tryz.sizeOf209
 v72:=Tryz.zeroValue209
 t127:=Tryz.underlying233
 a127:=Tryz.isAgg233
 z127:=Tryz.sizeOf233
 v127:=Tryz.zeroValue233 }
theorem Tryz.Builder_Extra_169:Builder.Extra Tryz.prog Tryz.lays169_ren:={
 sizeBuilder:=by kernel_rfl
 liesBuilder:=by kernel_rfl
 t5:=Tryz.underlying5
 a5:=Tryz.isAgg5
 z5:=Tryz.sizeOf5
 v5:=Tryz.zeroValue5
 infoByte:=by kernel_rfl
 cellsByte:=by kernel_rfl
 sizeByte:=by kernel_rfl
 neB5:=by decide }
open Go.RowKit in
theorem Tryz.Builder_String_any (B b:Nat) (l:List UInt8) (w:World) (h:Lib.IsBuilder 209 5 B b (Lib.byteCells l) w) (hBw:B ≤ w.heap.size) :
  Calls Tryz.prog 195 #[.pointer (some ⟨b,0,none⟩)] w fun e w'=>e = .returned (.string ⟨l.toArray⟩) ∧ Below B w w':=Any.Builder_String_any Tryz.lays169 Tryz.Builder_Extra_169 B b l w h hBw
def Tryz.laysM171_ren:Go.Shelf.Ren:=⟨fun | 171=>145 | 243=>186 | 246=>208 | 283=>223 | 284=>224 | 285=>225 | 286=>226 | 129=>222 | 317=>232 | 318=>233 | 319=>234 | 320=>235 | 337=>243 | 338=>220 | n=>n,fun | 3=>3 | 9=>9 | 2=>2 | 4=>4 | 171=>236 | 0=>0 | 53=>139 | 37=>181 | 5=>5 | 173=>238 | 212=>245 | 51=>200 | 20=>20 | 213=>246 | 46=>174 | 232=>261 | 233=>243 | n=>n,fun | 17=>3 | 18=>7 | 19=>2 | n=>n⟩
theorem Tryz.laysM171:Go.Proofs.LaysM.n171 Tryz.prog Tryz.laysM171_ren:={
 mixed:=by kernel_rfl
 f129:=Tryz.func222.trans (congrArg some (by kernel_rfl))
 f171:=Tryz.func145.trans (congrArg some (by kernel_rfl))
 f243:=Tryz.func186.trans (congrArg some (by kernel_rfl))
 f246:=Tryz.func208.trans (congrArg some (by kernel_rfl))
 f283:=Tryz.func223.trans (congrArg some (by kernel_rfl))
 f284:=Tryz.func224.trans (congrArg some (by kernel_rfl))
 f285:=Tryz.func225.trans (congrArg some (by kernel_rfl))
 f286:=Tryz.func226.trans (congrArg some (by kernel_rfl))
 f317:=Tryz.func232.trans (congrArg some (by kernel_rfl))
 f318:=Tryz.func233.trans (congrArg some (by kernel_rfl))
 f319:=Tryz.func234.trans (congrArg some (by kernel_rfl))
 f320:=Tryz.func235.trans (congrArg some (by kernel_rfl))
 f337:=Tryz.func243.trans (congrArg some (by kernel_rfl))
 f338:=Tryz.func220.trans (congrArg some (by kernel_rfl))
 t0:=Tryz.underlying0
 a0:=Tryz.isAgg0
 z0:=Tryz.sizeOf0
 v0:=Tryz.zeroValue0
 t2:=Tryz.underlying2
 a2:=Tryz.isAgg2
 z2:=Tryz.sizeOf2
 v2:=Tryz.zeroValue2
 t3:=Tryz.underlying3
 a3:=Tryz.isAgg3
 z3:=Tryz.sizeOf3
 v3:=Tryz.zeroValue3
 t4:=Tryz.underlying4
 a4:=Tryz.isAgg4
 z4:=Tryz.sizeOf4
 v4:=Tryz.zeroValue4
 t5:=Tryz.underlying5
 a5:=Tryz.isAgg5
 z5:=Tryz.sizeOf5
 v5:=Tryz.zeroValue5
 t9:=Tryz.underlying9
 a9:=Tryz.isAgg9
 z9:=Tryz.sizeOf9
 v9:=Tryz.zeroValue9
 t20:=Tryz.underlying20
 a20:=Tryz.isAgg20
 z20:=Tryz.sizeOf20
 v20:=Tryz.zeroValue20
 t37:=Tryz.underlying181
 a37:=Tryz.isAgg181
 z37:=Tryz.sizeOf181
 v37:=Tryz.zeroValue181
 t46:=Tryz.underlying174
 a46:=Tryz.isAgg174
 z46:=Tryz.sizeOf174
 v46:=Tryz.zeroValue174
 t51:=Tryz.underlying200
 a51:=Tryz.isAgg200
 z51:=Tryz.sizeOf200
 v51:=Tryz.zeroValue200
 t53:=Tryz.underlying139
 a53:=Tryz.isAgg139
 z53:=Tryz.sizeOf139
 v53:=Tryz.zeroValue139
 t171:=Tryz.underlying236
 a171:=Tryz.isAgg236
 z171:=Tryz.sizeOf236
 v171:=Tryz.zeroValue236
 t173:=Tryz.underlying238
 a173:=Tryz.isAgg238
 z173:=Tryz.sizeOf238
 v173:=Tryz.zeroValue238
 t212:=Tryz.underlying245
 a212:=Tryz.isAgg245
 z212:=Tryz.sizeOf245
 v212:=Tryz.zeroValue245
 t213:=Tryz.underlying246
 a213:=Tryz.isAgg246
 z213:=Tryz.sizeOf246
 t232:=Tryz.underlying261
 a232:=Tryz.isAgg261
 z232:=Tryz.sizeOf261
 v232:=Tryz.zeroValue261
 t233:=Tryz.underlying243
 a233:=Tryz.isAgg243
 z233:=Tryz.sizeOf243
 v233:=Tryz.zeroValue243
 g17:=by kernel_rfl
 g18:=by kernel_rfl
 g19:=by kernel_rfl
 i0:=by kernel_rfl
 i2:=by kernel_rfl
 i3:=by kernel_rfl
 i4:=by kernel_rfl
 i5:=by kernel_rfl
 i9:=by kernel_rfl
 i20:=by kernel_rfl
 i37:=by kernel_rfl
 i46:=by kernel_rfl
 i51:=by kernel_rfl
 i53:=by kernel_rfl
 i171:=by kernel_rfl
 i173:=by kernel_rfl
 i212:=by kernel_rfl
 i232:=by kernel_rfl
 i233:=by kernel_rfl
 m17:=by kernel_rfl
 m18:=by kernel_rfl
 m19:=by kernel_rfl }
open Go.RowKit Go.Sort Go.Lib in
theorem Tryz.strconv_Itoa (n:Int) (h0:-9223372036854775808 ≤ n) (h1:n ≤ 9223372036854775807) (w:World) (htab:Lib.TabIs Tryz.prog w tabName .u64 Lib.pow10Tab) :
  Calls Tryz.prog 145 #[.int .i64 n] w fun e w'=>e = .returned (.string ⟨(Lib.itoa n).toArray⟩) ∧ ∃ k os,w' = grow (w.drewN k) os:=Any.strconv_Itoa Tryz.laysM171 n h0 h1 w htab
end Go.Proofs
namespace CodeSpec
open Go.Lib
abbrev Bytes:=List UInt8
def InR (n:Int):Prop:=-9223372036854775808 ≤ n ∧ n ≤ 9223372036854775807
def encInt (n:Int):Bytes:=itoa n ++ [59]
def encText (s:Bytes):Bytes:=itoa s.length ++ 58 :: (s ++ [44])
def encList (l:List Bytes):Bytes:=itoa l.length ++ 91 :: (l.flatten ++ [93])
def encNums (l:List Int):Bytes:=encList (l.map encInt)
theorem digit_toNat (d:Nat) (h:d < 10):(UInt8.ofNat (48 + d)).toNat = 48 + d:=by
 rw [UInt8.toNat_ofNat']; omega
theorem decDigits_len (u:Nat) (k:Nat) (hk:1 ≤ k) (h:u < 10 ^ k):(decDigits u).length ≤ k:=by
 induction k generalizing u with
 | zero=>omega
 | succ k ih=>
  rw [decDigits]
  split
  ·simp
  ·rename_i h10
   have hk1:1 ≤ k:=by
    rcases Nat.eq_zero_or_pos k with rfl | h0
    ·simp at h; omega
    ·exact h0
   have:=ih (u / 10) hk1 (by rw [Nat.pow_succ] at h; omega)
   simp only [List.length_append,List.length_singleton]
   omega
theorem itoa_len (n:Int) (h:InR n):(itoa n).length ≤ 20:=by
 obtain ⟨h1,h2⟩:=h
 unfold itoa
 split
 ·have:=decDigits_len n.natAbs 19 (by omega) (by omega)
  simp; omega
 ·have:=decDigits_len n.toNat 19 (by omega) (by omega)
  omega
end CodeSpec
namespace Go.Proofs.Cd
open Go Go.Sh Go.RowKit Go.Lib CodeSpec
attribute [go_sem] ba_size ba_append
theorem K_eq {K:Value → World → Prop} {w:World} {a b:Value} (h:K a w) (e:b = a):K b w:=by rw [e]; exact h
theorem call_of_calls {f:FuncId} {args:Array Value} {w:World} {v:Value} {Q:World → Prop} {K:Value → World → Prop} (h:Calls Tryz.prog f args w fun e w'=>e = .returned v ∧ Q w') (k:∀ w',Q w' → K v w'):callM Tryz.prog f args K w:=
 Calls.mono h (fun _ w' ⟨he,hq⟩=>⟨v,he,k w' hq⟩)
structure Laid (w:World):Prop where
 tab:TabIs Tryz.prog w tabName .u64 pow10Tab
 size:8 ≤ w.heap.size
theorem gTab:Tryz.prog.globalNamed tabName = some 3:=by kernel_rfl
theorem Laid.keep {w w':World} (h:Laid w) (hb:∀ k,k < 8 → w'.heap[k]? = w.heap[k]?) (hs:w.heap.size ≤ w'.heap.size):Laid w':=by
 refine ⟨?_,Nat.le_trans h.size hs⟩
 have h1:=h.tab
 unfold TabIs World.var? at h1 ⊢
 rw [gTab] at h1 ⊢
 simp only [Option.bind_some] at h1 ⊢
 rw [hb _ (by omega)]
 exact h1
theorem Laid.below {w w':World} (h:Laid w) {B:Nat} (hb:Below B w w') (hB:8 ≤ B):Laid w':=h.keep (fun k hk=>hb.block k (by omega)) hb.size
theorem grown_of_below {w w':World} (h:Below w.heap.size w w') (b:Option Nat):w.grownBy w' b:=⟨h.os,h.tape,h.output,h.size,fun k hk _=>h.block k hk⟩
theorem below_of_grown {B:Nat} {w w':World} {row:Option Nat} (h:w.grownBy w' row) (hB:B ≤ w.heap.size) (hr:∀ k,row = some k → B ≤ k):Below B w w':=
 (Below.refl B w).grown h hB hr
theorem itoa_ok (n:Int) (hn:InR n) {K:Value → World → Prop} {w:World} (hl:Laid w) (k:∀ w',Below w.heap.size w w' → K (.string ⟨(itoa n).toArray⟩) w'):callM Tryz.prog 145 #[.int .i64 n] K w:=by
 refine call_of_calls (Tryz.strconv_Itoa n hn.1 hn.2 w hl.tab) ?_
 rintro w' ⟨d,os,rfl⟩
 exact k _ (below_grow _ _ (Nat.le_refl _) _ _)
theorem infoB:Tryz.prog.info? 209 = some Tryz.t209:=by kernel_rfl
theorem sizeB:Tryz.t209.size = 2:=by kernel_rfl
theorem liesB (b:Nat):liesAt Tryz.prog Tryz.prog.depth 209 (2 / Tryz.prog.cellsOf 209) (⟨b,0,none⟩:Addr).off 209 1 = true:=by kernel_rfl
theorem runNE (x:Value) (w:World):(callFunc 231 #[x]).run Tryz.prog w = .ok (.value x) w:=by kernel_rfl
theorem extNE {x:Value} {K:Value → World → Prop} {w:World} (k:K x w):extM Tryz.prog 231 #[x] K w:=by
 unfold extM opM
 rw [runNE]
 exact k
theorem copyCheck_nil (B b:Nat) (bs:List Value) (w:World) (h:BuilderAt 209 5 B b (.pointer none) bs w) {K:Value → World → Prop}
  (k:K (.tuple #[]) (w.setCell ⟨b,0,none⟩ (.pointer (some ⟨b,0,none⟩)))):callM Tryz.prog 216 #[.pointer (some ⟨b,0,none⟩)] K w:=by
 apply sh_216_ok
 unfold sh_216
 have hc:=h.cell0
 have hf:=h.frozen0
 have hv1:(convert 207 241 (.pointer (some ⟨b,0,none⟩))).run Tryz.prog w = .ok (.pointer (some ⟨b,0,none⟩)) w:=
  run_to_unsafe (P:=Tryz.prog) (w:=w) (a:=⟨b,0,none⟩) Tryz.underlying207 Tryz.underlying241 (t:=209) (j:=Tryz.t209) infoB (by rw [sizeB]; omega) h.shape (by show (0:Nat) < 2; omega)
 have hv2:(convert 241 207 (.pointer (some ⟨b,0,none⟩))).run Tryz.prog w = .ok (.pointer (some ⟨b,0,none⟩)) w:=
  run_from_unsafe (P:=Tryz.prog) (w:=w) (a:=⟨b,0,none⟩) Tryz.underlying241 Tryz.underlying207 (u:=209) (j:=Tryz.t209) infoB h.shape (liesB b)
 repeat (any_goals (first
 | (with_reducible refine extNE ?_)
 | (with_reducible refine yL ?_)
 | ((with_reducible refine oM_gen fun Kv hK=>?_); simp [go_sem,oM_eqc,eqGuard,hc,hf,hv1,hv2]; refine hK _ _ ?_; clear hK Kv)))
 exact k
theorem copyCheck_self (B b:Nat) (bs:List Value) (w:World) (h:BuilderAt 209 5 B b (.pointer (some ⟨b,0,none⟩)) bs w) {K:Value → World → Prop}
  (k:K (.tuple #[]) w):callM Tryz.prog 216 #[.pointer (some ⟨b,0,none⟩)] K w:=by
 apply sh_216_ok
 unfold sh_216
 have hc:=h.cell0
 have hf:=h.frozen0
 have hn:=run_neq_ptr_same (P:=Tryz.prog) (w:=w) (tp:=207) (te:=209) (j:=Tryz.t209) (a:=⟨b,0,none⟩) Tryz.underlying207 infoB
 repeat (any_goals (first
 | (with_reducible refine yM ?_)
 | ((with_reducible refine oM_gen fun Kv hK=>?_); simp [go_sem,oM_eqc,oM_net,eqGuard,hc,hf,hn]; refine hK _ _ ?_; clear hK Kv)))
 exact k
theorem copyCheck_ok (B b:Nat) (bs:List Value) (w:World) (h:IsBuilder 209 5 B b bs w) {K:Value → World → Prop}
  (k:∀ w',BuilderAt 209 5 B b (.pointer (some ⟨b,0,none⟩)) bs w' → w.grownBy w' (some b) → w'.heap.size = w.heap.size → K (.tuple #[]) w'):callM Tryz.prog 216 #[.pointer (some ⟨b,0,none⟩)] K w:=by
 rcases h with h | h
 ·refine copyCheck_nil B b bs w h (k _ (h.used _) ⟨rfl,rfl,rfl,by simp [World.setCell],fun i _ hi=>Below.heap_setCell _ _ _ _ (fun e=>hi (by simp [e]))⟩ (by simp [World.setCell]))
 ·exact copyCheck_self B b bs w h (k _ h ⟨rfl,rfl,rfl,Nat.le_refl _,fun _ _ _=>rfl⟩ rfl)
theorem ownsRow_slice {w:World} {B:Nat} {e:TypeId} {sz:Nat} {v:Value} {n:Nat} {xs:List Value} (h:w.ownsRow B e sz v n xs):∃ a m c,v = .slice a m c:=by
 rcases h.2 with ⟨h,_⟩ | ⟨g,cap,cur,h,_⟩
 ·exact ⟨_,_,_,h⟩
 ·exact ⟨_,_,_,h⟩
theorem builderString_ok (B b:Nat) (l:List UInt8) (w:World) (h:IsBuilder 209 5 B b (Lib.byteCells l) w) (hBw:B ≤ w.heap.size) {K:Value → World → Prop} (k:∀ w',Below B w w' → K (.string ⟨l.toArray⟩) w'):callM Tryz.prog 195 #[.pointer (some ⟨b,0,none⟩)] K w:=
 call_of_calls (Tryz.Builder_String_any B b l w h hBw) k
theorem writeString_ok (B b:Nat) (l s:List UInt8) (w:World) (h:IsBuilder 209 5 B b (Lib.byteCells l) w) (hlen:l.length + s.length ≤ 140737488355328) (hBw:B ≤ w.heap.size) {K:Value → World → Prop}
  (k:∀ w',IsBuilder 209 5 B b (Lib.byteCells (l ++ s)) w' → Below B w w' → K (.tuple #[.int .i64 s.length,.nilIface]) w'):callM Tryz.prog 194 #[.pointer (some ⟨b,0,none⟩),.string ⟨s.toArray⟩] K w:=by
 apply sh_194_ok
 unfold sh_194
 refine copyCheck_ok B b _ w h ?_
 intro w1 h1 hg1 hs1
 obtain ⟨hB,v,hb,hown,hne⟩:=h1
 have hc1:w1.cell? ⟨b,1,none⟩ = some v:=by simp [World.cell?,hb]
 have hbl:Below B w w1:=below_of_grown hg1 hBw (fun k hk=>by cases hk; exact hB)
 have hbl5:(Lib.byteCells l).length = l.length:=by simp [Lib.byteCells]
 refine Xa @hc1 ?_
 obtain ⟨v',w2,hrun,ho,hg,_⟩:=run_append_own_string (P:=Tryz.prog) w1 B 181 9 181 5 Tryz.t5 Tryz.underlying181 Tryz.underlying9 (by kernel_rfl) (by kernel_rfl) (by kernel_rfl) (by kernel_rfl) v (Lib.byteCells l).length (Lib.byteCells l) hown ⟨s.toArray⟩ (by unfold maxLen; rw [ba_size]; omega) (by rw [ba_size]; omega) (by omega)
 rw [oM_value (S:=Builtin.append_ #[181,9] 181 #[v,.string ⟨s.toArray⟩]) (by simp [xop,execOp,evalL,evE,resolve,invoke,builtin]),hrun,ok_iff]
 have hb2:w2.heap[b]? = some (.cells #[.pointer (some ⟨b,0,none⟩),v] 209 (0,0)):=by
  rw [hg.block b (by have:=(Array.getElem?_eq_some_iff.1 hb).1; exact this) (fun e=>hne e.symm)]
  exact hb
 have hc2:w2.cell? ⟨b,1,none⟩ = some v:=by simp [World.cell?,hb2]
 have hf2:w2.frozen? ⟨b,1,none⟩ = false:=by simp [World.frozen?,hb2]
 have ho':w2.ownsRow B 5 1 v' (Lib.byteCells (l ++ s)).length (Lib.byteCells (l ++ s)):=by
  have e:Lib.byteCells l ++ strCells ⟨s.toArray⟩ = Lib.byteCells (l ++ s):=by simp [Lib.byteCells,strCells]
  have e2:(Lib.byteCells l).length + (⟨s.toArray⟩:ByteArray).size = (Lib.byteCells (l ++ s)).length:=by rw [ba_size]; simp [Lib.byteCells]
  rw [e,e2] at ho
  exact ho
 have hput:=BuilderAt.put (p:=.pointer (some ⟨b,0,none⟩)) hB hb2 ho' (by decide)
 have hbl2:Below B w w2:=hbl.trans (below_of_grown hg (by omega) (fun k hk=>(hown.lt k hk).1))
 obtain ⟨av,nv,cv,rfl⟩:=ownsRow_slice ho
 refine Xa (An2 @hc2 @hf2) ?_
 exact k _ (.inr hput) (hbl2.setCell hB _)
end Go.Proofs.Cd
namespace Go.Proofs.Cd
open Go Go.Sh Go.RowKit Go.Lib CodeSpec
def intV (n:Int):Value:=.int .i64 n
def RowOf {α:Type} (mk:α → Value) (w:World) (v:Value) (l:List α):Prop:=
 ∃ ad c,v = .slice ad l.length c ∧ (l = [] ∨ ∃ b o,ad = some ⟨b,o,none⟩ ∧ b < w.heap.size ∧ ∀ (i:Nat) (h:i < l.length),w.cell? ⟨b,o + i,none⟩ = some (mk l[i]))
theorem addr_add (b o k:Nat):(⟨b,o,none⟩:Addr).add k = ⟨b,o + k,none⟩:=by
 unfold Addr.add
 split
 ·rename_i h0; rw [h0]; simp
 ·rfl
theorem idx22 {b o n c k:Nat} (hk:k < n) (w:World):(Instr.indexAt 22 (.slice (some ⟨b,o,none⟩) n c) (.int .i64 k)).run Tryz.prog w = .ok (.pointer (some ⟨b,o + k,none⟩)) w:=by
 rw [run_indexAt_slice (h:=by kernel_rfl),if_pos (by omega)]
 have hs:(sizeOf (Tryz.prog.elem 22)).run Tryz.prog w = .ok 1 w:=by kernel_rfl
 rw [hs]
 simp only [Result.andThen,Int.toNat_natCast,addr_add,Nat.mul_one]
theorem encInt_len (n:Int) (h:InR n):(encInt n).length ≤ 21:=by
 have:=itoa_len n h
 simp [encInt]; omega
theorem pInt_ok (n:Int) (hn:InR n) {K:Value → World → Prop} {w:World} (hl:Laid w) (k:∀ w',Below w.heap.size w w' → K (.string ⟨(encInt n).toArray⟩) w'):callM Tryz.prog 168 #[.int .i64 n] K w:=by
 apply sh_168_ok
 unfold sh_168
 refine itoa_ok n hn hl ?_
 intro w1 hb
 have:=itoa_len n hn
 refine Xa0 ?_
 exact K_eq (k _ hb) (by simp [encInt])
theorem encText_len (s:List UInt8) (hs:(s.length:Int) ≤ 9223372036854775807):(encText s).length ≤ s.length + 22:=by
 have:=itoa_len s.length ⟨by omega,hs⟩
 simp [encText]; omega
theorem flat_snoc {α:Type} (enc:α → List UInt8) (xs:List α) (k:Nat) (h:k < xs.length):((xs.take (k + 1)).map enc).flatten = ((xs.take k).map enc).flatten ++ enc xs[k]:=by
 rw [List.take_add_one,List.getElem?_eq_getElem h]
 simp only [Option.toList_some,List.map_append,List.map_cons,List.map_nil,List.flatten_append,List.flatten_cons,List.flatten_nil,List.append_nil]
theorem flat_le {α:Type} (enc:α → List UInt8) (xs:List α) (k:Nat):((xs.take k).map enc).flatten.length ≤ (xs.map enc).flatten.length:=by
 conv=>rhs; rw [← List.take_append_drop k xs]
 rw [List.map_append,List.flatten_append,List.length_append]
 omega
theorem IsBuilder.below {T e:TypeId} {B b:Nat} {bs:List Value} {w w':World} (h:IsBuilder T e B b bs w) (hb:Below w.heap.size w w'):IsBuilder T e B b bs w':=by
 have key:∀ p,BuilderAt T e B b p bs w → BuilderAt T e B b p bs w':=by
  rintro p ⟨hB,v,hh,hown,hne⟩
  have hlt:=(Array.getElem?_eq_some_iff.1 hh).1
  refine ⟨hB,v,by rw [hb.block _ hlt]; exact hh,?_,hne⟩
  exact hown.kept (grown_of_below hb none) (by
   rcases hown.2 with ⟨rfl,_⟩ | ⟨g,cap,cur,rfl,_⟩
   ·left; rfl
   ·right; simp [Value.ownBlock])
 exact h.imp (key _) (key _)
theorem encodedNum_ok (xs:List (Int)) (v:Value) {K:Value → World → Prop} {w:World} (hl:Laid w) (hrow:RowOf intV w v xs) (hx:∀ x ∈ xs,InR x) (hlen:(encList (xs.map encInt)).length < 2^40)
  (k:∀ w',Below w.heap.size w w' → K (.string ⟨(encList (xs.map encInt)).toArray⟩) w'):callM Tryz.prog 167 #[v,.func (.func 168) #[] #[]] K w:=by
 apply sh_167_ok
 unfold sh_167
 have hsz:(encList (xs.map encInt)).length = (itoa (xs.length:Nat)).length + 1 + ((xs.map encInt).flatten).length + 1:=by simp [encList]; omega
 have hxl:xs.length ≤ (xs.map encInt).flatten.length:=by
  rw [List.length_flatten]
  clear hrow hlen hsz k
  induction xs with
  | nil=>simp
  | cons x xs ih=>
   have:=ih (fun y hy=>hx y (List.mem_cons_of_mem _ hy))
   have h1:1 ≤ (encInt x).length:=by simp [encInt]; try omega
   simp only [List.length_cons,List.map_cons,List.sum_cons]
   omega
 have hin:InR (xs.length:Nat):=⟨by omega,by omega⟩
 have hil:=itoa_len _ hin
 obtain ⟨ad,c,rfl,hcell⟩:=hrow
 have hl0:Laid (w.alloc (.cells #[.pointer none,.slice none 0 0] 209)):=hl.below ((Below.refl _ _).alloc (Nat.le_refl _) _) hl.size
 refine Xa0 ?_
 refine itoa_ok _ hin hl0 (fun w1 hb1=>?_)
 have hb1':Below w.heap.size w w1:=((Below.refl _ _).alloc (Nat.le_refl _) _).trans (hb1.mono (by simp))
 have hB1:=IsBuilder.below (fresh_isBuilder 209 5 w) hb1
 have hz1:=hb1'.size
 refine Xa0 ?_
 refine writeString_ok w.heap.size _ [] _ _ hB1 (by simp; omega) (by omega) ?_
 intro w2 hB2 hb2
 have hb2':=hb1'.trans hb2
 refine Xa0 ?_
 refine ⟨fun l w'=>∃ (x:Value) (k:Nat),l = [x,.int .i64 k] ∧ k ≤ xs.length ∧ IsBuilder 209 5 w.heap.size w.heap.size (Lib.byteCells (itoa (xs.length:Nat) ++ 91 :: ((xs.take k).map encInt).flatten)) w' ∧ Below w.heap.size w w',fun l _=>xs.length - (match l with | [_,.int _ n]=>n.toNat | _=>0),⟨_,0,rfl,by omega,by simpa using hB2,hb2'⟩,?_⟩
 rintro _ _ w3 ⟨x,j,rfl,hj,hB3,hb3⟩
 have hz3:=hb3.size
 simp only [List.getD_cons_zero,List.getD_cons_succ]
 have hfl:=flat_le encInt xs j
 by_cases hlt:j < xs.length
 ·rcases hcell with rfl | ⟨b,o,rfl,hbw,hcells⟩
  ·simp at hlt
  have hc:=hcells j hlt
  rw [← hb3.cell hbw] at hc
  simp only [intV] at hc
  have hix:=idx22 (b:=b) (o:=o) (c:=c) hlt w3
  have hl3:Laid w3:=hl.below hb3 hl.size
  have hP:=hx xs[j] (List.getElem_mem hlt)
  have hfl1:=flat_le encInt xs (j + 1)
  rw [flat_snoc _ _ _ hlt,List.length_append] at hfl1
  repeat (any_goals (first
  | (rw [oM_indexAddr,hix,rM_ok])
  | (with_reducible refine yN ?_)
  | ((with_reducible refine oM_gen fun Kv hK=>?_); simp [go_sem,hc]; refine hK _ _ ?_; clear hK Kv)))
  refine oM_callv1 (by kernel_rfl) ?_
  refine pInt_ok _ hP hl3 ?_
  intro w4 hb4
  have hz4:=hb4.size
  have hB4:IsBuilder 209 5 w.heap.size w.heap.size (Lib.byteCells (itoa (xs.length:Nat) ++ 91 :: ((xs.take j).map encInt).flatten)) w4:=IsBuilder.below hB3 hb4
  refine writeString_ok w.heap.size _ _ _ _ hB4 (by simp only [List.length_append,List.length_cons]; omega) (by omega) ?_
  intro w5 hB5 hb5
  refine Xa0 ?_
  refine ⟨⟨_,j + 1,rfl,hlt,?_,(hb3.trans (hb4.mono hz3)).trans hb5⟩,by simp; omega⟩
  rw [flat_snoc _ _ _ hlt]
  simpa using hB5
 ·obtain rfl:j = xs.length:=by omega
  rw [List.take_length] at hB3 hfl
  obtain ⟨F,hF⟩:∃ F,F = (xs.map encInt).flatten:=⟨_,rfl⟩
  rw [← hF] at hB3 hfl hsz
  refine Xa0 ?_
  refine builderString_ok _ _ _ _ hB3 (by omega) ?_
  intro w4 hb4
  refine Xa0 ?_
  exact K_eq (k _ (hb3.trans hb4)) (by simp [encList,hF])
theorem pNums_ok (xs:List (Int)) (v:Value) {K:Value → World → Prop} {w:World} (hl:Laid w) (hrow:RowOf intV w v xs) (hx:∀ x ∈ xs,InR x) (hlen:(encList (xs.map encInt)).length < 2^40)
  (k:∀ w',Below w.heap.size w w' → K (.string ⟨(encList (xs.map encInt)).toArray⟩) w'):callM Tryz.prog 123 #[v] K w:=by
 apply sh_123_ok
 unfold sh_123
 refine Xa0 ?_
 exact encodedNum_ok xs v hl hrow hx hlen k
end Go.Proofs.Cd
namespace Go.Proofs.Cd
open Go Go.Sh Go.RowKit Go.Lib CodeSpec
end Go.Proofs.Cd
namespace Go.Proofs.Cd
open Go Go.Sh Go.RowKit Go.Lib CodeSpec
end Go.Proofs.Cd
namespace Go.Proofs.Cd
open Go Go.Sh Go.RowKit Go.Lib CodeSpec
end Go.Proofs.Cd
namespace Go.Proofs
open Go Go.Sh Go.RowKit FdSpec TkSpec CodeSpec
def tktL (t:Tkt):List Int:=[t.mark,t.first,t.z,t.a,t.b,t.r]
def encM (t:Tkt):Bytes:=encNums (tktL t)
theorem InR_iff (n:Int):InR n ↔ I64 n:=by unfold InR I64; omega
theorem TktR.all {t:Tkt} (h:TktR t):∀ n ∈ tktL t,I64 n:=by
 intro n hn
 simp only [tktL,List.mem_cons,List.not_mem_nil,or_false] at hn
 rcases hn with rfl | rfl | rfl | rfl | rfl | rfl
 ·exact h.mark
 ·exact h.first
 ·exact h.z
 ·exact h.a
 ·exact h.b
 ·exact h.r
theorem encM_len {t:Tkt} (h:TktR t):(encM t).length ≤ 200:=by
 have hi:=fun n (hn:n ∈ tktL t)=>Cd.encInt_len n ((InR_iff n).2 (h.all n hn))
 have h6:=itoa_len 6 (by unfold InR; omega)
 simp only [encM,encNums,encList,tktL,List.map_cons,List.map_nil,List.length_cons,List.length_nil,List.flatten_cons,List.flatten_nil,List.length_append,List.append_nil] at *
 have a1:=hi t.mark (by simp)
 have a2:=hi t.first (by simp)
 have a3:=hi t.z (by simp)
 have a4:=hi t.a (by simp)
 have a5:=hi t.b (by simp)
 have a6:=hi t.r (by simp)
 have h6':(Lib.itoa ((0 + 1 + 1 + 1 + 1 + 1 + 1:Nat):Int)).length ≤ 20:=h6
 omega
section
variable {K:Value → World → Prop} {w w0 w1:World} {L:List (Addr × Value)}
theorem sz_tkt (w:World):(sizeOf 41).run Tryz.prog w = .ok 6 w:=by kernel_rfl
theorem al_tkt (w:World):(Instr.alloc 41 true (.tuple #[])).run Tryz.prog w = .ok (.pointer (some ⟨w.heap.size,0,none⟩)) (w.alloc (.cells [.int .i64 0,.int .i64 0,.int .i64 0,.int .i64 0,.int .i64 0,.int .i64 0].toArray 41)):=by kernel_rfl
theorem tkt_one (t:Tkt):∀ u ∈ tktC t,u.oneCell' = true:=by
 intro u hu
 simp only [tktC,List.mem_cons,List.not_mem_nil,or_false] at hu
 rcases hu with rfl | rfl | rfl | rfl | rfl | rfl <;> rfl
theorem store_tkt {K:Value → World → Prop} {T':TypeId} {g:Nat} (t:Tkt) (hk:KnM w0 L g 6 w)
  (k:∀ W,KnM w0 L g 6 W → cellsAre W (cellsOf [] g 0 (tktC t)) → K undef W):oM Tryz.prog (.store 41 (.tmp 0) (.tmp 1)) T' [.pointer (some ⟨g,0,none⟩),tktV t] K w:=
 store_mine sz_tkt rfl rfl (tkt_one t) hk k
theorem local_tkt {K:Value → World → Prop} {T' T2:TypeId} (t:Tkt) (hk:Kn w0 L w)
  (k:∀ b W,Kn w0 (cellsOf L b 0 (tktC t)) W → Below w.heap.size w W → w.heap.size ≤ b → K (.pointer (some ⟨b,0,none⟩)) W) :
  oM Tryz.prog (.alloc 41) T' [] (fun v w=>oM Tryz.prog (.store 41 (.tmp 0) (.tmp 1)) T2 [v,tktV t] (fun _ w=>K v w) w) w:=
 local_kn al_tkt rfl sz_tkt rfl rfl (tkt_one t) hk k
theorem mk6 {T:TypeId} (t:Tkt) (ht:TktR t) (k:∀ v W,Below w.heap.size w W → Ints W v (tktL t) → K v W):oM Tryz.prog (.buildSlice 22 6 #[(0,.tmp 0),(1,.tmp 1),(2,.tmp 2),(3,.tmp 3),(4,.tmp 4),(5,.tmp 5)]) T [.int .i64 t.mark,.int .i64 t.first,.int .i64 t.z,.int .i64 t.a,.int .i64 t.b,.int .i64 t.r] K w:=by
 rw [rM_of (S:=Instr.buildSlice 22 6 #[(0,.int .i64 t.mark),(1,.int .i64 t.first),(2,.int .i64 t.z),(3,.int .i64 t.a),(4,.int .i64 t.b),(5,.int .i64 t.r)]) (by simp [xop,execOp,evalL,evE])]
 have e:(Instr.buildSlice 22 6 #[(0,.int .i64 t.mark),(1,.int .i64 t.first),(2,.int .i64 t.z),(3,.int .i64 t.a),(4,.int .i64 t.b),(5,.int .i64 t.r)]).run Tryz.prog w = .ok (.slice (some ⟨w.heap.size,0,none⟩) 6 6) (w.alloc (.cells #[.int .i64 t.mark,.int .i64 t.first,.int .i64 t.z,.int .i64 t.a,.int .i64 t.b,.int .i64 t.r] 3)):=by kernel_rfl
 rw [e]
 exact k _ _ ((Below.refl _ w).alloc (Nat.le_refl _) _) (ints_alloc w (tktL t) _ 6 ht.all (by simp [tktL]))
theorem Ints.rowOf {v:Value} {l:List Int} (h:Ints w v l):Cd.RowOf Cd.intV w v l:=by
 obtain ⟨⟨ad,c,rfl,h0,hc⟩,hr,hl⟩:=h
 refine ⟨ad,c,rfl,hc.imp id ?_⟩
 rintro ⟨b,o,rfl,hlt,hcell⟩
 exact ⟨b,o,rfl,hlt,fun i hi=>hcell i _ (by rw [flat_int]; simp [hi,Cd.intV])⟩
theorem Encode_ok (t:Tkt) (ht:TktR t) (hl:Cd.Laid w) (k:∀ w',Below w.heap.size w w' → K (.string ⟨(encM t).toArray⟩) w'):callM Tryz.prog 56 #[tktV t] K w:=by
 apply sh_56_ok
 unfold sh_56
 refine box_kn (cs:=tktC t) rfl (.start w) fun b W hk hb1 hb=>?_
 repeat (any_goals (first
 | ((with_reducible refine mk6 t ht ?_); intro v8 W8 hb8 hi)
 | ((with_reducible refine oM_gen fun Kv hK=>?_); simp [go_sem,hk.cells]; refine hK _ _ ?_; clear hK Kv)))
 have hk:=hk.next hb8
 refine Cd.pNums_ok (tktL t) v8 (hl.below hk.below hl.size) (Ints.rowOf hi) (fun x hx=>(InR_iff x).2 (ht.all x hx)) (by have:=encM_len ht; unfold encM encNums at this; omega) (fun w' hb'=>?_)
 exact k _ (hk.next hb').below
end
end Go.Proofs
namespace Go.Proofs
open Go Go.Sh Go.RowKit FdSpec TkSpec CodeSpec
section
@[go_sem] theorem eql_tkt (T:TypeId) (a b:Tkt):oM Tryz.prog (.binOp .eql 41 (.tmp 0) (.tmp 1) 41) T [tktV a,tktV b] = pureM (.bool (decide (a = b))):=by
 funext K w
 have h1:(eqGuard .eql 41 (.tmp 0) (.tmp 1) (tktV a) (tktV b)).run Tryz.prog w = .ok () w:=run_eqGuard_agg w _ _ _ _ _ _ (by kernel_rfl)
 have h2:(binOp .eql 41 (tktV a) (tktV b)).run Tryz.prog w = .ok (.bool (decide (a = b))) w:=by
  rw [run_eql_struct,run_equalIn_agg w 9999 41 _ _ (by kernel_rfl) (by kernel_rfl)]
  have u3:=Tryz.underlying3
  have e:decide (a = b) = ((a.mark == b.mark) && (a.first == b.first) && (a.z == b.z) && (a.a == b.a) && (a.b == b.b) && (a.r == b.r)):=by
   obtain ⟨a1,a2,a3,a4,a5,a6⟩:=a
   obtain ⟨b1,b2,b3,b4,b5,b6⟩:=b
   simp [Tkt.mk.injEq,and_assoc,Bool.and_assoc]
   rfl
  rw [e]
  simp [go_sem,Program.fieldsOf,Tryz.underlying41,Op.eqFields,part,u3]
  repeat' split
  all_goals simp_all
 unfold oM opM
 simp [xop,execOp,evalL,evE,h1,h2]
 exact Iff.rfl
@[go_sem] theorem eql_off (T:TypeId) (a b:Off):oM Tryz.prog (.binOp .eql 37 (.tmp 0) (.tmp 1) 37) T [offV a,offV b] = pureM (.bool (decide (a = b))):=by
 funext K w
 have h1:(eqGuard .eql 37 (.tmp 0) (.tmp 1) (offV a) (offV b)).run Tryz.prog w = .ok () w:=run_eqGuard_agg w _ _ _ _ _ _ (by kernel_rfl)
 have h2:(binOp .eql 37 (offV a) (offV b)).run Tryz.prog w = .ok (.bool (decide (a = b))) w:=by
  rw [run_eql_struct,run_equalIn_agg w 9999 37 _ _ (by kernel_rfl) (by kernel_rfl)]
  have u3:=Tryz.underlying3
  have e:decide (a = b) = ((a.z == b.z) && (a.a == b.a) && (a.b == b.b)):=by
   obtain ⟨a1,a2,a3⟩:=a
   obtain ⟨b1,b2,b3⟩:=b
   simp [Off.mk.injEq,and_assoc,Bool.and_assoc]
   rfl
  rw [e]
  simp [go_sem,Program.fieldsOf,Tryz.underlying37,Op.eqFields,part,u3]
  repeat' split
  all_goals simp_all
 unfold oM opM
 simp [xop,execOp,evalL,evE,h1,h2]
 exact Iff.rfl
end
end Go.Proofs
namespace Go.Proofs
open Go Go.Sh Go.RowKit FdSpec TkSpec CodeSpec
theorem dig1 {u:Nat} (h:u < 10):Lib.decDigits u = [UInt8.ofNat (48 + u)]:=by rw [Lib.decDigits]; simp [h]
theorem dig2 {u:Nat} (h:10 ≤ u) (h2:u < 100):Lib.decDigits u = [UInt8.ofNat (48 + u / 10),UInt8.ofNat (48 + u % 10)]:=by
 rw [Lib.decDigits,dif_neg (by omega),dig1 (by omega)]; rfl
theorem enc_t0:encM t0 = [54,91,56,59,49,56,59,57,59,49,54,59,49,51,59,48,59,93]:=by
 have e0:Lib.itoa (0:Int) = [48]:=by rw [Lib.itoa,if_neg (by omega)]; simp [dig1]
 have e6:Lib.itoa (6:Int) = [54]:=by rw [Lib.itoa,if_neg (by omega)]; simp [dig1]
 have e8:Lib.itoa (8:Int) = [56]:=by rw [Lib.itoa,if_neg (by omega)]; simp [dig1]
 have e9:Lib.itoa (9:Int) = [57]:=by rw [Lib.itoa,if_neg (by omega)]; simp [dig1]
 have e18:Lib.itoa (18:Int) = [49,56]:=by rw [Lib.itoa,if_neg (by omega)]; simp [dig2]
 have e16:Lib.itoa (16:Int) = [49,54]:=by rw [Lib.itoa,if_neg (by omega)]; simp [dig2]
 have e13:Lib.itoa (13:Int) = [49,51]:=by rw [Lib.itoa,if_neg (by omega)]; simp [dig2]
 simp [encM,encNums,encList,tktL,t0,encInt,e0,e6,e8,e9,e18,e16,e13]
section
variable {K:Value → World → Prop} {w w0 w1:World} {L:List (Addr × Value)}
theorem mk3 {T:TypeId} (x y z:Int) (hx:I64 x) (hy:I64 y) (hz:I64 z) (k:∀ ad c W,Below w.heap.size w W → Ints W (.slice ad 3 c) [x,y,z] → K (.slice ad 3 c) W):oM Tryz.prog (.buildSlice 22 3 #[(0,.tmp 0),(1,.tmp 1),(2,.tmp 2)]) T [.int .i64 x,.int .i64 y,.int .i64 z] K w:=by
 rw [oM_buildSlice3]
 have e:(Instr.buildSlice 22 3 #[(0,.int .i64 x),(1,.int .i64 y),(2,.int .i64 z)]).run Tryz.prog w = .ok (.slice (some ⟨w.heap.size,0,none⟩) 3 3) (w.alloc (.cells #[.int .i64 x,.int .i64 y,.int .i64 z] 3)):=by kernel_rfl
 rw [e]
 exact k _ _ _ ((Below.refl _ w).alloc (Nat.le_refl _) _) (ints_alloc w [x,y,z] _ 3 (by simp; exact ⟨hx,hy,hz⟩) (by simp))
theorem sz_stp (w:World):(sizeOf 32).run Tryz.prog w = .ok 5 w:=by kernel_rfl
theorem al_stp (w:World):(Instr.alloc 32 true (.tuple #[])).run Tryz.prog w = .ok (.pointer (some ⟨w.heap.size,0,none⟩)) (w.alloc (.cells [.int .i64 0,.int .i64 0,.int .i64 0,.slice none 0 0,.int .i64 0].toArray 32)):=by kernel_rfl
theorem sz_bld (w:World):(sizeOf 45).run Tryz.prog w = .ok 4 w:=by kernel_rfl
theorem al_bld (w:World):(Instr.alloc 45 true (.tuple #[])).run Tryz.prog w = .ok (.pointer (some ⟨w.heap.size,0,none⟩)) (w.alloc (.cells [.int .i64 0,.int .i64 0,.int .i64 0,.slice none 0 0].toArray 45)):=by kernel_rfl
theorem bld_one (b:Bld) (ad:Option Addr) (n c:Nat):∀ u ∈ bldC b (.slice ad n c),u.oneCell' = true:=by
 intro u hu
 simp only [bldC,List.mem_cons,List.not_mem_nil,or_false] at hu
 rcases hu with rfl | rfl | rfl | rfl <;> rfl
theorem local_stp {K:Value → World → Prop} {T' T2:TypeId} (s:Stp) (ad:Option Addr) (m c:Nat) (hk:Kn w0 L w)
  (k:∀ b W,Kn w0 (cellsOf L b 0 (stpC s (.slice ad m c))) W → Below w.heap.size w W → w.heap.size ≤ b → K (.pointer (some ⟨b,0,none⟩)) W) :
  oM Tryz.prog (.alloc 32) T' [] (fun v w=>oM Tryz.prog (.store 32 (.tmp 0) (.tmp 1)) T2 [v,stpV s (.slice ad m c)] (fun _ w=>K v w) w) w:=
 local_kn al_stp rfl sz_stp rfl rfl (stp_one s ad m c) hk k
theorem local_bld {K:Value → World → Prop} {T' T2:TypeId} (b:Bld) (ad:Option Addr) (m c:Nat) (hk:Kn w0 L w)
  (k:∀ g W,Kn w0 (cellsOf L g 0 (bldC b (.slice ad m c))) W → Below w.heap.size w W → w.heap.size ≤ g → K (.pointer (some ⟨g,0,none⟩)) W) :
  oM Tryz.prog (.alloc 45) T' [] (fun v w=>oM Tryz.prog (.store 45 (.tmp 0) (.tmp 1)) T2 [v,bldV b (.slice ad m c)] (fun _ w=>K v w) w) w:=
 local_kn al_bld rfl sz_bld rfl rfl (bld_one b ad m c) hk k
theorem local_off {K:Value → World → Prop} {T' T2:TypeId} (o:Off) (hk:Kn w0 L w)
  (k:∀ g W,Kn w0 (cellsOf L g 0 [.int .i64 o.z,.int .i64 o.a,.int .i64 o.b]) W → Below w.heap.size w W → w.heap.size ≤ g → K (.pointer (some ⟨g,0,none⟩)) W) :
  oM Tryz.prog (.alloc 37) T' [] (fun v w=>oM Tryz.prog (.store 37 (.tmp 0) (.tmp 1)) T2 [v,offV o] (fun _ w=>K v w) w) w:=
 local_kn al_off rfl sz_off rfl rfl (off_one o) hk k
theorem local_spe {K:Value → World → Prop} {T' T2:TypeId} (x:Spd) (ad:Option Addr) (m c:Nat) (hk:Kn w0 L w)
  (k:∀ g W,Kn w0 (cellsOf L g 0 (spdC x (.slice ad m c))) W → Below w.heap.size w W → w.heap.size ≤ g → K (.pointer (some ⟨g,0,none⟩)) W) :
  oM Tryz.prog (.alloc 49) T' [] (fun v w=>oM Tryz.prog (.store 49 (.tmp 0) (.tmp 1)) T2 [v,spdV x (.slice ad m c)] (fun _ w=>K v w) w) w:=
 local_kn al_spd rfl sz_spd rfl rfl (spd_one x ad m c) hk k
theorem i64lit {n:Int} (h:-9223372036854775808 ≤ n ∧ n < 9223372036854775808:=by decide):I64 n:=h
structure SE (sv av yv:Value) (w':World):Prop where
 setup:SetR w' s0 sv
 at':Ints w' av [5,7]
 bl:BldR w' b0 yv
 ld:Cd.Laid w'
theorem SE.next {sv av yv:Value} {w w':World} (h:SE sv av yv w) (hb:Below w.heap.size w w'):SE sv av yv w':=
 ⟨h.setup.next hb,h.at'.next hb,h.bl.next hb,h.ld.below hb h.ld.size⟩
theorem t0_R:TktR t0:=⟨i64lit,i64lit,i64lit,i64lit,i64lit,i64lit⟩
@[reducible] def x0:Spd:=⟨2,[9,9,4]⟩
@[reducible] def y0:Spd:=⟨5,[10,3,0]⟩
@[reducible] def z0:Spd:=⟨3,[9,9,4]⟩
theorem sane_ok (hT:DbT w) (hL:Cd.Laid w) (k:∀ w',Below w.heap.size w w' → K (.bool true) w'):callM Tryz.prog 21 #[] K w:=by
 apply sh_21_ok
 unfold sh_21
 obtain ⟨f1,f2,f3,f4,f5,f6,f7,f8,f9,f10,f11,f12,f13,f14,f15⟩:=sane_facts
 have hk:Kn w [] w:=.start w
 refine Xb1_0 ?_
 refine mk3 4 16 18 i64lit i64lit i64lit (fun ad c W1 hb1 hbs=>?_)
 have hk:=hk.next hb1
 have hs:SetR W1 s0 (.slice ad 3 c):=⟨⟨i64lit,i64lit,i64lit⟩,hbs,i64lit,hT.next hb1⟩
 refine Xb1_0 ?_
 refine local_stp s0 ad 3 c hk (fun gs W2 hk hb2 hg2=>?_)
 refine mk2 5 7 i64lit i64lit (fun v3 W3 hb3 hat=>?_)
 have hk:=hk.next hb3
 refine mk3 1 2 3 i64lit i64lit i64lit (fun yad yc W4 hb4 hys=>?_)
 have hk:=hk.next hb4
 refine Xb1_0 ?_
 refine local_bld b0 yad 3 yc hk (fun gb W5 hk hb5 hg5=>?_)
 have hW1:=(hb2.on hb3).on (hb4.on hb5)
 have E:SE (.slice ad 3 c) v3 (.slice yad 3 yc) W5:=⟨hs.next hW1,hat.next (hb4.on hb5),⟨i64lit,i64lit,i64lit,hys.next hb5⟩,hL.below hk.below hL.size⟩
 refine Xa hk.cells ?_
 refine Propose_ok s0 3 2 i64lit i64lit E.setup E.at' (fun w1 h1=>?_)
 rw [f1]
 have hk:=hk.next h1
 have E:=E.next h1
 refine Xb2_0 ?_
 refine local_off ⟨9,16,13⟩ hk (fun go W6 hk hb6 hg6=>?_)
 have E:=E.next hb6
 refine Xa hk.cells ?_
 refine Use_ok s0 b0 2 i64lit E.setup E.at' E.bl (fun w2 ov2 h2 hi2=>?_)
 rw [f2] at hi2 ⊢
 obtain ⟨ad2,c2,rfl⟩:=hi2.isSlice
 have hk:=hk.next h2
 have E:=E.next h2
 refine Xb2_0 ?_
 refine local_spe x0 ad2 3 c2 hk (fun gx W7 hk hb7 hg7=>?_)
 have E:=E.next hb7
 have X:SpdR W7 x0 (.slice ad2 3 c2):=⟨i64lit,hi2.next hb7⟩
 refine Xa hk.cells ?_
 refine Use_ok s0 b0 5 i64lit E.setup E.at' E.bl (fun w3 ov3 h3 hi3=>?_)
 rw [f3] at hi3 ⊢
 obtain ⟨ad3,c3,rfl⟩:=hi3.isSlice
 have hk:=hk.next h3
 have E:=E.next h3
 have X:=X.next h3
 refine Xb2_0 ?_
 refine local_spe y0 ad3 3 c3 hk (fun gy W8 hk hb8 hg8=>?_)
 have E:=E.next hb8
 have X:=X.next hb8
 have Y:SpdR W8 y0 (.slice ad3 3 c3):=⟨i64lit,hi3.next hb8⟩
 refine Xb1_0 ?_
 refine local_tkt t0 hk (fun gt W9 hk hb9 hg9=>?_)
 have E:=E.next hb9
 have X:=X.next hb9
 have Y:=Y.next hb9
 refine Xa hk.cells ?_
 refine Trace_ok s0 t0 x0 y0 t0_R E.setup X Y (fun w4 ov4 h4 hi4=>?_)
 rw [f4] at hi4 ⊢
 have hk:=hk.next h4
 have E:=E.next h4
 have X:=X.next h4
 have Y:=Y.next h4
 refine Xa hk.cells ?_
 refine Trace_ok s0 t0 x0 x0 t0_R E.setup X X (fun w5 ov5 h5 hi5=>?_)
 rw [f5]
 have hk:=hk.next h5
 have E:=E.next h5
 have X:=X.next h5
 have Y:=Y.next h5
 have hi4:=hi4.next h5
 repeat (any_goals (first
 | ((with_reducible refine mk3 9 9 4 i64lit i64lit i64lit ?_); intro ad6 c6 w6 h6 hi6)
 | ((with_reducible refine oM_gen fun Kv hK=>?_); simp [go_sem,hk.cells]; refine hK _ _ ?_; clear hK Kv)))
 have hk:=hk.next h6
 have E:=E.next h6
 have X:=X.next h6
 have Y:=Y.next h6
 have hi4:=hi4.next h6
 refine Same_ok X.answers hi6 (fun w7 h7=>?_)
 rw [decide_eq_true rfl]
 have hk:=hk.next h7
 have E:=E.next h7
 have X:=X.next h7
 have Y:=Y.next h7
 have hi4:=hi4.next h7
 repeat (any_goals (first
 | ((with_reducible refine mk3 10 3 0 i64lit i64lit i64lit ?_); intro ad8 c8 w8 h8 hi8)
 | (with_reducible refine zC ?_)
 | ((with_reducible refine oM_gen fun Kv hK=>?_); simp [go_sem,hk.cells]; refine hK _ _ ?_; clear hK Kv)))
 have hk:=hk.next h8
 have E:=E.next h8
 have X:=X.next h8
 have Y:=Y.next h8
 have hi4:=hi4.next h8
 refine Same_ok Y.answers hi8 (fun w9 h9=>?_)
 rw [decide_eq_true rfl]
 have hk:=hk.next h9
 have E:=E.next h9
 have X:=X.next h9
 have Y:=Y.next h9
 have hi4:=hi4.next h9
 refine Xa hk.cells ?_
 refine Same_ok hi4 E.at' (fun w10 h10=>?_)
 rw [decide_eq_true rfl]
 have hk:=hk.next h10
 have E:=E.next h10
 have X:=X.next h10
 have Y:=Y.next h10
 repeat (any_goals (first
 | ((with_reducible refine local_spe z0 ad2 3 c2 hk ?_); intro gz W11 hk hb11 hg11)
 | (with_reducible first|refine pureM_in ?_|refine zC ?_|refine yC ?_|refine yM ?_)
 | ((with_reducible refine oM_gen fun Kv hK=>?_); simp [go_sem,hk.cells]; refine hK _ _ ?_; clear hK Kv)))
 have E:=E.next hb11
 have X:=X.next hb11
 have Y:=Y.next hb11
 have Z:SpdR W11 z0 (.slice ad2 3 c2):=⟨i64lit,X.answers⟩
 refine Mark_ok s0 E.setup E.at' (fun w12 h12=>?_)
 rw [f6]
 have hk:=hk.next h12
 have E:=E.next h12
 have X:=X.next h12
 have Y:=Y.next h12
 have Z:=Z.next h12
 refine Xa hk.cells ?_
 refine Usable_ok s0 E.setup E.at' (fun w13 h13=>?_)
 rw [f7]
 have hk:=hk.next h13
 have E:=E.next h13
 have X:=X.next h13
 have Y:=Y.next h13
 have Z:=Z.next h13
 repeat (any_goals (first
 | ((with_reducible refine mk2 5 0 i64lit i64lit ?_); intro v14 w14 h14 hi14)
 | (with_reducible first|refine zA ?_|refine yB ?_)
 | ((with_reducible refine oM_gen fun Kv hK=>?_); simp [go_sem,hk.cells]; refine hK _ _ ?_; clear hK Kv)))
 have hk:=hk.next h14
 have E:=E.next h14
 have X:=X.next h14
 have Y:=Y.next h14
 have Z:=Z.next h14
 refine Usable_ok s0 E.setup hi14 (fun w15 h15=>?_)
 rw [f8]
 have hk:=hk.next h15
 have E:=E.next h15
 have X:=X.next h15
 have Y:=Y.next h15
 have Z:=Z.next h15
 refine Xa hk.cells ?_
 refine Public_ok s0 3 i64lit E.setup (fun w16 h16=>?_)
 rw [f9]
 have hk:=hk.next h16
 have E:=E.next h16
 have X:=X.next h16
 have Y:=Y.next h16
 have Z:=Z.next h16
 refine Xa hk.cells ?_
 refine Public_ok s0 0 i64lit E.setup (fun w17 h17=>?_)
 rw [f10]
 have hk:=hk.next h17
 have E:=E.next h17
 have X:=X.next h17
 have Y:=Y.next h17
 have Z:=Z.next h17
 refine Xa hk.cells ?_
 rw [eql_off _ ⟨9,16,13⟩ ⟨9,16,13⟩,decide_eq_true rfl]
 refine Xa hk.cells ?_
 refine Grant_ok s0 3 2 6 i64lit i64lit i64lit E.setup (fun w18 h18=>?_)
 rw [f11]
 have hk:=hk.next h18
 have E:=E.next h18
 have X:=X.next h18
 have Y:=Y.next h18
 have Z:=Z.next h18
 refine Xa hk.cells ?_
 refine Accepts_ok s0 t0 x0 t0_R E.setup X (fun w19 h19=>?_)
 rw [f12]
 have hk:=hk.next h19
 have E:=E.next h19
 have X:=X.next h19
 have Y:=Y.next h19
 have Z:=Z.next h19
 refine Xa hk.cells ?_
 refine Accepts_ok s0 t0 y0 t0_R E.setup Y (fun w20 h20=>?_)
 rw [f13]
 have hk:=hk.next h20
 have E:=E.next h20
 have X:=X.next h20
 have Y:=Y.next h20
 have Z:=Z.next h20
 refine Xa hk.cells ?_
 refine Accepts_ok s0 t0 z0 t0_R E.setup Z (fun w21 h21=>?_)
 rw [f14]
 have hk:=hk.next h21
 have E:=E.next h21
 have X:=X.next h21
 have Y:=Y.next h21
 have Z:=Z.next h21
 refine Xa hk.cells ?_
 refine Guilty_ok s0 t0 x0 y0 t0_R E.setup X Y E.at' (fun w22 h22=>?_)
 rw [f15]
 have hk:=hk.next h22
 have E:=E.next h22
 have X:=X.next h22
 have Y:=Y.next h22
 have Z:=Z.next h22
 refine Xa hk.cells ?_
 refine Encode_ok t0 t0_R E.ld (fun w23 h23=>?_)
 rw [enc_t0]
 have hk:=hk.next h23
 refine Xa0 ?_
 exact k _ hk.below
end
end Go.Proofs
namespace Go.Proofs
open Go.Sh Tryz
def sh_78 (a0 a1 a2 a3 a4:Value) (K:Value → World → Prop) (w:World):Prop:=
 oM prog (.box 32 (.tmp 0)) 0 [a0] (fun v5 w=>
 oM prog (.box 37 (.tmp 0)) 0 [a3] (fun v8 w=>
 oM prog (.box 45 (.tmp 0)) 0 [a4] (fun v9 w=>
 oM prog (.alloc 132) 0 [] (fun v10 w=>
 oM prog (.load 32 (.tmp 0)) 32 [v5] (fun v18 w=>
 callM prog 67 #[v18,a2] (fun v20 w=>
 oM prog (.extract (.tmp 0) 0) 116 [v20] (fun v21 w=>
 oM prog (.extract (.tmp 0) 1) 3 [v20] (fun v22 w=>
 oM prog (.extract (.tmp 0) 2) 4 [v20] (fun v23 w=>
 oM prog (.alloc 116) 0 [] (fun v12 w=>
 oM prog (.store 116 (.tmp 0) (.tmp 1)) 0 [v12,v21] (fun _ w=>
 oM prog (.unOp .not 4 (.tmp 0)) 4 [v23] (fun v25 w=>
 gdM (gd v25 false) (oM prog (.load 116 (.tmp 0)) 116 [v12]) (fun v27 w=>
 gdM (gd v25 false) (pureM a1) (fun v28 w=>
 gdM (gd v25 false) (callM prog 87 #[v27,v28]) (fun v29 w=>
 gdM (gd v25 false) (oM prog (.unOp .not 4 (.tmp 0)) 4 [v29]) (fun v30 w=>
 oM prog (.pick (.tmp 0) (.tmp 1) (.tmp 2)) 4 [v25,(.bool true),v30] (fun v31 w=>
 gdM (gd v31 false) (oM prog (.load 116 (.tmp 0)) 116 [v12]) (fun v33 w=>
 gdM (gd v31 false) (oM prog (.fieldAddr 37 (.tmp 0) 0) 0 [v8]) (fun v34 w=>
 gdM (gd v31 false) (oM prog (.load 3 (.tmp 0)) 3 [v34]) (fun v35 w=>
 gdM (gd v31 false) (oM prog (.fieldAddr 37 (.tmp 0) 1) 0 [v8]) (fun v36 w=>
 gdM (gd v31 false) (oM prog (.load 3 (.tmp 0)) 3 [v36]) (fun v37 w=>
 gdM (gd v31 false) (oM prog (.fieldAddr 37 (.tmp 0) 2) 0 [v8]) (fun v38 w=>
 gdM (gd v31 false) (oM prog (.load 3 (.tmp 0)) 3 [v38]) (fun v39 w=>
 gdM (gd v31 false) (oM prog (.buildSlice 22 3 #[(0,(.tmp 0)),(1,(.tmp 1)),(2,(.tmp 2))]) 22 [v35,v37,v39]) (fun v40 w=>
 gdM (gd v31 false) (callM prog 138 #[v33,v40]) (fun v41 w=>
 gdM (gd v31 false) (oM prog (.unOp .not 4 (.tmp 0)) 4 [v41]) (fun v42 w=>
 oM prog (.pick (.tmp 0) (.tmp 1) (.tmp 2)) 4 [v31,(.bool true),v42] (fun v43 w=>
 gdM (gd v43 false) (oM prog (.fieldAddr 37 (.tmp 0) 0) 0 [v8]) (fun v45 w=>
 gdM (gd v43 false) (oM prog (.load 3 (.tmp 0)) 3 [v45]) (fun v46 w=>
 gdM (gd v43 false) (oM prog (.binOp .eql 3 (.tmp 0) (.const (.int .i64 1)) 3) 4 [v46]) (fun v47 w=>
 oM prog (.pick (.tmp 0) (.tmp 1) (.tmp 2)) 4 [v43,(.bool true),v47] (fun v48 w=>
 gdM (gd v48 false) (oM prog (.load 116 (.tmp 0)) 116 [v12]) (fun v50 w=>
 gdM (gd v48 false) (oM prog (.load 45 (.tmp 0)) 45 [v9]) (fun v51 w=>
 gdM (gd v48 false) (callM prog 68 #[v50,v51]) (fun v52 w=>
 gdM (gd v48 false) (oM prog (.unOp .not 4 (.tmp 0)) 4 [v52]) (fun v53 w=>
 oM prog (.pick (.tmp 0) (.tmp 1) (.tmp 2)) 4 [v48,(.bool true),v53] (fun v54 w=>
 condM v54
 (oM prog (.build 132 #[]) 132 [] (fun v55 w=>
 oM prog (.store 132 (.tmp 0) (.tmp 1)) 0 [v10,v55] (fun _ w=>
 ∃ r_38,(do loadVar 132 (← asAddr v10):Sem Value).run prog w = .ok r_38 w ∧ K (.tuple #[r_38,(.int .i64 1)]) w) w) w)
 (heldM w (fun C_39 w=>(((true:Bool) = true) ∧ (oH prog (.load 116 (.tmp 0)) 116 [v12] C_39 (fun v56=>
 pureH v22 C_39 (fun v57=>
 oH prog (.fieldAddr 45 (.tmp 0) 0) 0 [v9] C_39 (fun v58=>
 oH prog (.load 3 (.tmp 0)) 3 [v58] C_39 (fun v59=>
 oH prog (.load 116 (.tmp 0)) 116 [v12] C_39 (fun v61=>
 oH prog (.fieldAddr 45 (.tmp 0) 3) 0 [v9] C_39 (fun v62=>
 oH prog (.load 22 (.tmp 0)) 22 [v62] C_39 (fun v63=>
 oH prog (.load 116 (.tmp 0)) 116 [v12] C_39 (fun v65=>
 oH prog (.fieldAddr 37 (.tmp 0) 0) 0 [v8] C_39 (fun v66=>
 oH prog (.load 3 (.tmp 0)) 3 [v66] C_39 (fun v67=>
 oH prog (.fieldAddr 45 (.tmp 0) 0) 0 [v9] C_39 (fun v68=>
 oH prog (.load 3 (.tmp 0)) 3 [v68] C_39 (fun v69=>
 ∃ S_52:World → World → Prop,∃ R_53:Value → World → Prop,(∀ v w w_1,S_52 w w_1 → R_53 v w → R_53 v w_1) ∧
 (∀ w,C_39 w → (callM prog 89 #[v56,v57,v59] (fun v w_1=>C_39 w_1 ∧ S_52 w w_1 ∧ R_53 v w_1) w)) ∧
 (∃ R_54:Value → World → Prop,(∀ v w w_1,S_52 w w_1 → R_54 v w → R_54 v w_1) ∧
 (∀ w,C_39 w → (callM prog 90 #[v61,v63] (fun v w_1=>C_39 w_1 ∧ S_52 w w_1 ∧ R_54 v w_1) w)) ∧
 (∃ R_55:Value → World → Prop,(∀ v w w_1,S_52 w w_1 → R_55 v w → R_55 v w_1) ∧
 (∀ w,C_39 w → (callM prog 89 #[v65,v67,v69] (fun v w_1=>C_39 w_1 ∧ S_52 w w_1 ∧ R_55 v w_1) w)) ∧
 (∃ R_56:Value → World → Prop,(∀ v w w_1,S_52 w w_1 → R_56 v w → R_56 v w_1) ∧
 (∀ w,C_39 w → ∀ v60,R_53 v60 w → ∀ v64,R_54 v64 w → ∀ v70,R_55 v70 w → (oM prog (.build 41 #[(0,(.tmp 0)),(1,(.tmp 1)),(2,(.tmp 2))]) 41 [v60,v64,v70] (fun v w_1=>C_39 w_1 ∧ S_52 w w_1 ∧ R_56 v w_1) w)) ∧
 (∃ R_60:Value → World → Prop,(∀ v w w_1,S_52 w w_1 → R_60 v w → R_60 v w_1) ∧
 (∀ w,C_39 w → (oM prog (.alloc 41) 0 [] (fun v w_1=>C_39 w_1 ∧ S_52 w w_1 ∧ R_60 v w_1) w)) ∧
 (∀ w,C_39 w → ∀ v60,R_53 v60 w → ∀ v64,R_54 v64 w → ∀ v70,R_55 v70 w → ∀ v71,R_56 v71 w → ∀ v15,R_60 v15 w → (
 oM prog (.store 41 (.tmp 0) (.tmp 1)) 0 [v15,v71] (fun _ w=>C_39 w ∧ (
 heldM w (fun C_66 w=>(((true:Bool) = true) ∧ (oH prog (.load 116 (.tmp 0)) 116 [v12] C_66 (fun v72=>
 oH prog (.load 116 (.tmp 0)) 116 [v12] C_66 (fun v73=>
 oH prog (.fieldAddr 37 (.tmp 0) 1) 0 [v8] C_66 (fun v74=>
 oH prog (.load 3 (.tmp 0)) 3 [v74] C_66 (fun v75=>
 oH prog (.fieldAddr 45 (.tmp 0) 1) 0 [v9] C_66 (fun v76=>
 oH prog (.load 3 (.tmp 0)) 3 [v76] C_66 (fun v77=>
 oH prog (.load 116 (.tmp 0)) 116 [v12] C_66 (fun v79=>
 oH prog (.fieldAddr 45 (.tmp 0) 2) 0 [v9] C_66 (fun v80=>
 oH prog (.load 3 (.tmp 0)) 3 [v80] C_66 (fun v81=>
 ∃ S_76:World → World → Prop,∀ w,C_66 w → (
 callM prog 89 #[v73,v75,v77] (fun v78 w=>C_66 w ∧ (
 callM prog 66 #[v79,v81] (fun v82 w=>C_66 w ∧ (
 oM prog (.buildSlice 22 1 #[(0,(.tmp 0))]) 22 [v82] (fun v83 w=>C_66 w ∧ (
 callM prog 91 #[v72,v78,v83] (fun v84 w=>C_66 w ∧ (
 oM prog (.fieldAddr 41 (.tmp 0) 3) 0 [v15] (fun v85 w=>C_66 w ∧ (
 oM prog (.store 3 (.tmp 0) (.tmp 1)) 0 [v85,v84] (fun _ w=>C_66 w ∧ (
 heldM w (fun C_82 w=>(((true:Bool) = true) ∧ (oH prog (.load 116 (.tmp 0)) 116 [v12] C_82 (fun v86=>
 oH prog (.load 116 (.tmp 0)) 116 [v12] C_82 (fun v87=>
 oH prog (.fieldAddr 37 (.tmp 0) 2) 0 [v8] C_82 (fun v88=>
 oH prog (.load 3 (.tmp 0)) 3 [v88] C_82 (fun v89=>
 oH prog (.load 116 (.tmp 0)) 116 [v12] C_82 (fun v90=>
 oH prog (.fieldAddr 45 (.tmp 0) 0) 0 [v9] C_82 (fun v91=>
 oH prog (.load 3 (.tmp 0)) 3 [v91] C_82 (fun v92=>
 oH prog (.fieldAddr 45 (.tmp 0) 1) 0 [v9] C_82 (fun v93=>
 oH prog (.load 3 (.tmp 0)) 3 [v93] C_82 (fun v94=>
 oH prog (.load 116 (.tmp 0)) 116 [v12] C_82 (fun v98=>
 oH prog (.fieldAddr 41 (.tmp 0) 0) 0 [v15] C_82 (fun v99=>
 oH prog (.load 3 (.tmp 0)) 3 [v99] C_82 (fun v100=>
 oH prog (.fieldAddr 45 (.tmp 0) 2) 0 [v9] C_82 (fun v101=>
 oH prog (.load 3 (.tmp 0)) 3 [v101] C_82 (fun v102=>
 ∃ S_97:World → World → Prop,∀ w,C_82 w → (
 oM prog (.buildSlice 22 1 #[(0,(.tmp 0))]) 22 [v94] (fun v95 w=>C_82 w ∧ (
 callM prog 71 #[v90,v92,v95] (fun v96 w=>C_82 w ∧ (
 callM prog 89 #[v87,v89,v96] (fun v97 w=>C_82 w ∧ (
 callM prog 89 #[v98,v100,v102] (fun v103 w=>C_82 w ∧ (
 oM prog (.buildSlice 22 1 #[(0,(.tmp 0))]) 22 [v103] (fun v104 w=>C_82 w ∧ (
 callM prog 91 #[v86,v97,v104] (fun v105 w=>C_82 w ∧ (
 oM prog (.fieldAddr 41 (.tmp 0) 4) 0 [v15] (fun v106 w=>C_82 w ∧ (
 oM prog (.store 3 (.tmp 0) (.tmp 1)) 0 [v106,v105] (fun _ w=>C_82 w ∧ (
 oM prog (.load 116 (.tmp 0)) 116 [v12] (fun v107 w=>
 oM prog (.load 41 (.tmp 0)) 41 [v15] (fun v108 w=>
 callM prog 76 #[v107,v108] (fun v109 w=>
 oM prog (.binOp .eql 3 (.tmp 0) (.const (.int .i64 0)) 3) 4 [v109] (fun v111 w=>
 condM v111
 (oM prog (.build 132 #[]) 132 [] (fun v112 w=>
 oM prog (.store 132 (.tmp 0) (.tmp 1)) 0 [v10,v112] (fun _ w=>
 ∃ r_110,(do loadVar 132 (← asAddr v10):Sem Value).run prog w = .ok r_110 w ∧ K (.tuple #[r_110,(.int .i64 7)]) w) w) w)
 (heldM w (fun C_111 w=>(((true:Bool) = true) ∧ (oH prog (.load 116 (.tmp 0)) 116 [v12] C_111 (fun v113=>
 pureH v22 C_111 (fun v114=>
 oH prog (.load 116 (.tmp 0)) 116 [v12] C_111 (fun v115=>
 pureH v109 C_111 (fun v116=>
 oH prog (.fieldAddr 45 (.tmp 0) 1) 0 [v9] C_111 (fun v117=>
 oH prog (.load 3 (.tmp 0)) 3 [v117] C_111 (fun v118=>
 oH prog (.load 41 (.tmp 0)) 41 [v15] C_111 (fun v120=>
 ∃ S_119:World → World → Prop,∀ w,C_111 w → (
 callM prog 74 #[v115,v116,v118] (fun v119 w=>C_111 w ∧ (
 oM prog (.build 132 #[(0,(.tmp 0)),(1,(.tmp 1)),(2,(.tmp 2)),(3,(.tmp 3))]) 132 [v113,v114,v119,v120] (fun v121 w=>C_111 w ∧ (
 oM prog (.store 132 (.tmp 0) (.tmp 1)) 0 [v10,v121] (fun _ w=>C_111 w ∧ (
 C_111 w ∧ (∃ r_122,(do loadVar 132 (← asAddr v10):Sem Value).run prog w = .ok r_122 w ∧ K (.tuple #[r_122,(.int .i64 0)]) w))) w)) w)) w))))))))))))) w) w) w) w)) w)) w)) w)) w)) w)) w)) w)) w)))))))))))))))))))) w)) w)) w)) w)) w)) w))))))))))))))) w))))))))))))))))))))))) w) w) w) w) w) w) w) w) w) w) w) w) w) w) w) w) w) w) w) w) w) w) w) w) w) w) w) w) w) w) w) w) w) w) w) w) w
theorem sh_78_ok {a0 a1 a2 a3 a4:Value} {K:Value → World → Prop} {w:World} (h:sh_78 a0 a1 a2 a3 a4 K w):callM prog 78 #[a0,a1,a2,a3,a4] K w:=
 calls_of_code (fun i=>bif Nat.beq i 4 then .mono [0,1,2,3,5,6,7,9,10,11,12,13] [4,8,14,15,16] [17] else bif Nat.beq i 5 then .mono [0,1,2,3,4,5,7,8,9] [] [6,10,11,12,13,14] else bif Nat.beq i 6 then .mono [0,1,2,3,4,5,6,7,8,12,13,14,15,16] [] [9,10,11,17,18,19,20,21] else bif Nat.beq i 10 then .mono [0,1,2,3,4,5,7] [] [6,8,9,10] else 0) (fn:=Tryz.f78) (rs:=[.cell 10 132,.tmp 11]) Tryz.func78 rfl rfl (by kernel_rfl) (Nat.le_of_ble_eq_true rfl) (Eq.mp (by kernel_rfl) h)
def sh_79 (a0 a1 a2 a3 a4 a5:Value) (K:Value → World → Prop) (w:World):Prop:=
 oM prog (.box 116 (.tmp 0)) 0 [a0] (fun v6 w=>
 oM prog (.box 37 (.tmp 0)) 0 [a5] (fun v11 w=>
 heldM w (fun C_3 w=>(((true:Bool) = true) ∧ (oH prog (.load 116 (.tmp 0)) 116 [v6] C_3 (fun v13=>
 pureH a4 C_3 (fun v14=>
 oH prog (.load 116 (.tmp 0)) 116 [v6] C_3 (fun v16=>
 oH prog (.load 116 (.tmp 0)) 116 [v6] C_3 (fun v17=>
 pureH a1 C_3 (fun v18=>
 pureH a3 C_3 (fun v19=>
 oH prog (.fieldAddr 37 (.tmp 0) 1) 0 [v11] C_3 (fun v21=>
 oH prog (.load 3 (.tmp 0)) 3 [v21] C_3 (fun v22=>
 ∃ S_12:World → World → Prop,∃ R_13:Value → World → Prop,(∀ v w w_1,S_12 w w_1 → R_13 v w → R_13 v w_1) ∧
 (∀ w,C_3 w → (callM prog 66 #[v13,v14] (fun v w_1=>C_3 w_1 ∧ S_12 w w_1 ∧ R_13 v w_1) w)) ∧
 (∃ R_14:Value → World → Prop,(∀ v w w_1,S_12 w w_1 → R_14 v w → R_14 v w_1) ∧
 (∀ w,C_3 w → (callM prog 89 #[v17,v18,v19] (fun v w_1=>C_3 w_1 ∧ S_12 w w_1 ∧ R_14 v w_1) w)) ∧
 (∃ R_15:Value → World → Prop,(∀ v w w_1,S_12 w w_1 → R_15 v w → R_15 v w_1) ∧
 (∀ w,C_3 w → (oM prog (.buildSlice 22 1 #[(0,(.tmp 0))]) 22 [v22] (fun v w_1=>C_3 w_1 ∧ S_12 w w_1 ∧ R_15 v w_1) w)) ∧
 (∃ R_16:Value → World → Prop,(∀ v w w_1,S_12 w w_1 → R_16 v w → R_16 v w_1) ∧
 (∀ w,C_3 w → ∀ v20,R_14 v20 w → ∀ v23,R_15 v23 w → (callM prog 91 #[v16,v20,v23] (fun v w_1=>C_3 w_1 ∧ S_12 w w_1 ∧ R_16 v w_1) w)) ∧
 (∃ R_19:Value → World → Prop,(∀ v w w_1,S_12 w w_1 → R_19 v w → R_19 v w_1) ∧
 (∀ w,C_3 w → ∀ v15,R_13 v15 w → ∀ v24,R_16 v24 w → (oM prog (.binOp .eql 3 (.tmp 0) (.tmp 1) 3) 4 [v15,v24] (fun v w_1=>C_3 w_1 ∧ S_12 w w_1 ∧ R_19 v w_1) w)) ∧
 (∃ R_22:Value → World → Prop,(∀ v w w_1,S_12 w w_1 → R_22 v w → R_22 v w_1) ∧
 (∀ w,C_3 w → ∀ v25,R_19 v25 w → (C_3 w ∧ S_12 w w ∧ R_22 v25 w)) ∧
 (∃ R_24:Value → World → Prop,(∀ v w w_1,S_12 w w_1 → R_24 v w → R_24 v w_1) ∧
 (∀ w,C_3 w → ∀ v26,R_22 v26 w → (gdM (gd v26 true) (oM prog (.load 116 (.tmp 0)) 116 [v6]) (fun v w_1=>C_3 w_1 ∧ S_12 w w_1 ∧ R_24 v w_1) w)) ∧
 (∃ R_26:Value → World → Prop,(∀ v w w_1,S_12 w w_1 → R_26 v w → R_26 v w_1) ∧
 (∀ w,C_3 w → ∀ v26,R_22 v26 w → (gdM (gd v26 true) (pureM a2) (fun v w_1=>C_3 w_1 ∧ S_12 w w_1 ∧ R_26 v w_1) w)) ∧
 (∃ R_28:Value → World → Prop,(∀ v w w_1,S_12 w w_1 → R_28 v w → R_28 v w_1) ∧
 (∀ w,C_3 w → ∀ v26,R_22 v26 w → (gdM (gd v26 true) (pureM a4) (fun v w_1=>C_3 w_1 ∧ S_12 w w_1 ∧ R_28 v w_1) w)) ∧
 (∃ R_30:Value → World → Prop,(∀ v w w_1,S_12 w w_1 → R_30 v w → R_30 v w_1) ∧
 (∀ w,C_3 w → ∀ v26,R_22 v26 w → ∀ v27,R_24 v27 w → ∀ v28,R_26 v28 w → ∀ v29,R_28 v29 w → (gdM (gd v26 true) (callM prog 89 #[v27,v28,v29]) (fun v w_1=>C_3 w_1 ∧ S_12 w w_1 ∧ R_30 v w_1) w)) ∧
 (∃ R_35:Value → World → Prop,(∀ v w w_1,S_12 w w_1 → R_35 v w → R_35 v w_1) ∧
 (∀ w,C_3 w → ∀ v26,R_22 v26 w → (gdM (gd v26 true) (oM prog (.load 116 (.tmp 0)) 116 [v6]) (fun v w_1=>C_3 w_1 ∧ S_12 w w_1 ∧ R_35 v w_1) w)) ∧
 (∃ R_37:Value → World → Prop,(∀ v w w_1,S_12 w w_1 → R_37 v w → R_37 v w_1) ∧
 (∀ w,C_3 w → ∀ v26,R_22 v26 w → (gdM (gd v26 true) (oM prog (.load 116 (.tmp 0)) 116 [v6]) (fun v w_1=>C_3 w_1 ∧ S_12 w w_1 ∧ R_37 v w_1) w)) ∧
 (∃ R_39:Value → World → Prop,(∀ v w w_1,S_12 w w_1 → R_39 v w → R_39 v w_1) ∧
 (∀ w,C_3 w → ∀ v26,R_22 v26 w → (gdM (gd v26 true) (oM prog (.fieldAddr 37 (.tmp 0) 0) 0 [v11]) (fun v w_1=>C_3 w_1 ∧ S_12 w w_1 ∧ R_39 v w_1) w)) ∧
 (∃ R_41:Value → World → Prop,(∀ v w w_1,S_12 w w_1 → R_41 v w → R_41 v w_1) ∧
 (∀ w,C_3 w → ∀ v26,R_22 v26 w → ∀ v33,R_39 v33 w → (gdM (gd v26 true) (oM prog (.load 3 (.tmp 0)) 3 [v33]) (fun v w_1=>C_3 w_1 ∧ S_12 w w_1 ∧ R_41 v w_1) w)) ∧
 (∃ R_44:Value → World → Prop,(∀ v w w_1,S_12 w w_1 → R_44 v w → R_44 v w_1) ∧
 (∀ w,C_3 w → ∀ v26,R_22 v26 w → (gdM (gd v26 true) (pureM a3) (fun v w_1=>C_3 w_1 ∧ S_12 w w_1 ∧ R_44 v w_1) w)) ∧
 (∃ R_46:Value → World → Prop,(∀ v w w_1,S_12 w w_1 → R_46 v w → R_46 v w_1) ∧
 (∀ w,C_3 w → ∀ v26,R_22 v26 w → ∀ v32,R_37 v32 w → ∀ v34,R_41 v34 w → ∀ v35,R_44 v35 w → (gdM (gd v26 true) (callM prog 89 #[v32,v34,v35]) (fun v w_1=>C_3 w_1 ∧ S_12 w w_1 ∧ R_46 v w_1) w)) ∧
 (∃ R_51:Value → World → Prop,(∀ v w w_1,S_12 w w_1 → R_51 v w → R_51 v w_1) ∧
 (∀ w,C_3 w → ∀ v26,R_22 v26 w → (gdM (gd v26 true) (oM prog (.fieldAddr 37 (.tmp 0) 2) 0 [v11]) (fun v w_1=>C_3 w_1 ∧ S_12 w w_1 ∧ R_51 v w_1) w)) ∧
 (∃ R_53:Value → World → Prop,(∀ v w w_1,S_12 w w_1 → R_53 v w → R_53 v w_1) ∧
 (∀ w,C_3 w → ∀ v26,R_22 v26 w → ∀ v37,R_51 v37 w → (gdM (gd v26 true) (oM prog (.load 3 (.tmp 0)) 3 [v37]) (fun v w_1=>C_3 w_1 ∧ S_12 w w_1 ∧ R_53 v w_1) w)) ∧
 (∃ R_56:Value → World → Prop,(∀ v w w_1,S_12 w w_1 → R_56 v w → R_56 v w_1) ∧
 (∀ w,C_3 w → ∀ v26,R_22 v26 w → ∀ v38,R_53 v38 w → (gdM (gd v26 true) (oM prog (.buildSlice 22 1 #[(0,(.tmp 0))]) 22 [v38]) (fun v w_1=>C_3 w_1 ∧ S_12 w w_1 ∧ R_56 v w_1) w)) ∧
 (∀ w,C_3 w → ∀ v15,R_13 v15 w → ∀ v20,R_14 v20 w → ∀ v23,R_15 v23 w → ∀ v24,R_16 v24 w → ∀ v25,R_19 v25 w → ∀ v26,R_22 v26 w → ∀ v27,R_24 v27 w → ∀ v28,R_26 v28 w → ∀ v29,R_28 v29 w → ∀ v30,R_30 v30 w → ∀ v31,R_35 v31 w → ∀ v32,R_37 v32 w → ∀ v33,R_39 v33 w → ∀ v34,R_41 v34 w → ∀ v35,R_44 v35 w → ∀ v36,R_46 v36 w → ∀ v37,R_51 v37 w → ∀ v38,R_53 v38 w → ∀ v39,R_56 v39 w → (
 gdM (gd v26 true) (callM prog 91 #[v31,v36,v39]) (fun v40 w=>C_3 w ∧ (
 gdM (gd v26 true) (oM prog (.binOp .eql 3 (.tmp 0) (.tmp 1) 3) 4 [v30,v40]) (fun v41 w=>C_3 w ∧ (
 oM prog (.pick (.tmp 0) (.tmp 1) (.tmp 2)) 4 [v26,v41,(.bool false)] (fun v42 w=>C_3 w ∧ (
 C_3 w ∧ (K v42 w))) w)) w)) w)))))))))))))))))))))))))))))))) w) w
theorem sh_79_ok {a0 a1 a2 a3 a4 a5:Value} {K:Value → World → Prop} {w:World} (h:sh_79 a0 a1 a2 a3 a4 a5 K w):callM prog 79 #[a0,a1,a2,a3,a4,a5] K w:=
 calls_of_code (fun _=>.mono [0,1,3,4,5,6,8,9] [2,7,10,11,12,13,14,15,16,17,18,19,20,21,22,23,24,25,26] [27,28,29,30]) (fn:=Tryz.f79) (rs:=[.tmp 12]) Tryz.func79 rfl rfl (by kernel_rfl) (Nat.le_of_ble_eq_true rfl) (Eq.mp (by kernel_rfl) h)
def sh_17 (a0 a1 a2 a3 a4:Value) (K:Value → World → Prop) (w:World):Prop:=
 oM prog (.box 32 (.tmp 0)) 0 [a0] (fun v5 w=>
 oM prog (.box 37 (.tmp 0)) 0 [a3] (fun v8 w=>
 oM prog (.box 45 (.tmp 0)) 0 [a4] (fun v9 w=>
 oM prog (.load 32 (.tmp 0)) 32 [v5] (fun v15 w=>
 oM prog (.load 37 (.tmp 0)) 37 [v8] (fun v18 w=>
 oM prog (.load 45 (.tmp 0)) 45 [v9] (fun v19 w=>
 callM prog 78 #[v15,a1,a2,v18,v19] (fun v20 w=>
 oM prog (.extract (.tmp 0) 0) 132 [v20] (fun v21 w=>
 oM prog (.extract (.tmp 0) 1) 54 [v20] (fun v22 w=>
 oM prog (.alloc 132) 0 [] (fun v12 w=>
 oM prog (.store 132 (.tmp 0) (.tmp 1)) 0 [v12,v21] (fun _ w=>
 oM prog (.fieldAddr 132 (.tmp 0) 2) 0 [v12] (fun v23 w=>
 oM prog (.load 3 (.tmp 0)) 3 [v23] (fun v24 w=>
 K (.tuple #[v24,v22]) w) w) w) w) w) w) w) w) w) w) w) w) w) w
theorem sh_17_ok {a0 a1 a2 a3 a4:Value} {K:Value → World → Prop} {w:World} (h:sh_17 a0 a1 a2 a3 a4 K w):callM prog 17 #[a0,a1,a2,a3,a4] K w:=
 calls_of_code (fun _=>0) (fn:=Tryz.f17) (rs:=[.tmp 10,.tmp 11]) Tryz.func17 rfl rfl (by kernel_rfl) (Nat.le_of_ble_eq_true rfl) (Eq.mp (by kernel_rfl) h)
def sh_18 (a0 a1 a2 a3 a4 a5:Value) (K:Value → World → Prop) (w:World):Prop:=
 oM prog (.box 32 (.tmp 0)) 0 [a0] (fun v6 w=>
 oM prog (.box 37 (.tmp 0)) 0 [a3] (fun v9 w=>
 oM prog (.box 45 (.tmp 0)) 0 [a4] (fun v10 w=>
 oM prog (.alloc 41) 0 [] (fun v12 w=>
 oM prog (.load 32 (.tmp 0)) 32 [v6] (fun v17 w=>
 oM prog (.load 37 (.tmp 0)) 37 [v9] (fun v20 w=>
 oM prog (.load 45 (.tmp 0)) 45 [v10] (fun v21 w=>
 callM prog 78 #[v17,a1,a2,v20,v21] (fun v22 w=>
 oM prog (.extract (.tmp 0) 0) 132 [v22] (fun v23 w=>
 oM prog (.extract (.tmp 0) 1) 54 [v22] (fun v24 w=>
 oM prog (.alloc 132) 0 [] (fun v14 w=>
 oM prog (.store 132 (.tmp 0) (.tmp 1)) 0 [v14,v23] (fun _ w=>
 oM prog (.binOp .neq 54 (.tmp 0) (.const (.int .i64 0)) 54) 4 [v24] (fun v27 w=>
 condM v27
 (oM prog (.build 41 #[]) 41 [] (fun v28 w=>
 oM prog (.store 41 (.tmp 0) (.tmp 1)) 0 [v12,v28] (fun _ w=>
 ∃ r_14,(do loadVar 41 (← asAddr v12):Sem Value).run prog w = .ok r_14 w ∧ K (.tuple #[r_14,v24]) w) w) w)
 (oM prog (.fieldAddr 132 (.tmp 0) 0) 0 [v14] (fun v31 w=>
 oM prog (.load 116 (.tmp 0)) 116 [v31] (fun v32 w=>
 oM prog (.buildSlice 22 1 #[(0,(.tmp 0))]) 22 [a5] (fun v34 w=>
 callM prog 65 #[v32,(.int .i64 0),v34] (fun v35 w=>
 oM prog (.unOp .not 4 (.tmp 0)) 4 [v35] (fun v36 w=>
 condM v36
 (oM prog (.build 41 #[]) 41 [] (fun v37 w=>
 oM prog (.store 41 (.tmp 0) (.tmp 1)) 0 [v12,v37] (fun _ w=>
 ∃ r_21,(do loadVar 41 (← asAddr v12):Sem Value).run prog w = .ok r_21 w ∧ K (.tuple #[r_21,(.int .i64 1)]) w) w) w)
 (oM prog (.fieldAddr 132 (.tmp 0) 0) 0 [v14] (fun v39 w=>
 oM prog (.load 116 (.tmp 0)) 116 [v39] (fun v40 w=>
 oM prog (.fieldAddr 132 (.tmp 0) 1) 0 [v14] (fun v42 w=>
 oM prog (.load 3 (.tmp 0)) 3 [v42] (fun v43 w=>
 oM prog (.fieldAddr 132 (.tmp 0) 2) 0 [v14] (fun v44 w=>
 oM prog (.load 3 (.tmp 0)) 3 [v44] (fun v45 w=>
 oM prog (.load 37 (.tmp 0)) 37 [v9] (fun v47 w=>
 callM prog 79 #[v40,a1,v43,v45,a5,v47] (fun v48 w=>
 oM prog (.unOp .not 4 (.tmp 0)) 4 [v48] (fun v49 w=>
 condM v49
 (oM prog (.build 41 #[]) 41 [] (fun v50 w=>
 oM prog (.store 41 (.tmp 0) (.tmp 1)) 0 [v12,v50] (fun _ w=>
 ∃ r_32,(do loadVar 41 (← asAddr v12):Sem Value).run prog w = .ok r_32 w ∧ K (.tuple #[r_32,(.int .i64 14)]) w) w) w)
 (heldM w (fun C_33 w=>(((true:Bool) = true) ∧ (oH prog (.fieldAddr 132 (.tmp 0) 0) 0 [v14] C_33 (fun v51=>
 oH prog (.load 116 (.tmp 0)) 116 [v51] C_33 (fun v52=>
 oH prog (.fieldAddr 132 (.tmp 0) 0) 0 [v14] C_33 (fun v53=>
 oH prog (.load 116 (.tmp 0)) 116 [v53] C_33 (fun v54=>
 pureH a5 C_33 (fun v55=>
 oH prog (.fieldAddr 45 (.tmp 0) 1) 0 [v10] C_33 (fun v56=>
 oH prog (.load 3 (.tmp 0)) 3 [v56] C_33 (fun v57=>
 oH prog (.fieldAddr 45 (.tmp 0) 2) 0 [v10] C_33 (fun v60=>
 oH prog (.load 3 (.tmp 0)) 3 [v60] C_33 (fun v61=>
 ∃ S_43:World → World → Prop,∀ w,C_33 w → (
 oM prog (.buildSlice 22 1 #[(0,(.tmp 0))]) 22 [v57] (fun v58 w=>C_33 w ∧ (
 callM prog 71 #[v54,v55,v58] (fun v59 w=>C_33 w ∧ (
 callM prog 70 #[v52,v59,v61] (fun v62 w=>C_33 w ∧ (
 oM prog (.fieldAddr 132 (.tmp 0) 3) 0 [v14] (fun v63 w=>C_33 w ∧ (
 oM prog (.fieldAddr 41 (.tmp 0) 5) 0 [v63] (fun v64 w=>C_33 w ∧ (
 oM prog (.store 3 (.tmp 0) (.tmp 1)) 0 [v64,v62] (fun _ w=>C_33 w ∧ (
 oM prog (.fieldAddr 132 (.tmp 0) 3) 0 [v14] (fun v65 w=>
 oM prog (.load 41 (.tmp 0)) 41 [v65] (fun v66 w=>
 oM prog (.store 41 (.tmp 0) (.tmp 1)) 0 [v12,v66] (fun _ w=>
 ∃ r_51,(do loadVar 41 (← asAddr v12):Sem Value).run prog w = .ok r_51 w ∧ K (.tuple #[r_51,(.int .i64 0)]) w) w) w) w)) w)) w)) w)) w)) w)) w))))))))))))))) w) w) w) w) w) w) w) w) w)) w) w) w) w) w)) w) w) w) w) w) w) w) w) w) w) w) w) w
theorem sh_18_ok {a0 a1 a2 a3 a4 a5:Value} {K:Value → World → Prop} {w:World} (h:sh_18 a0 a1 a2 a3 a4 a5 K w):callM prog 18 #[a0,a1,a2,a3,a4,a5] K w:=
 calls_of_code (fun _=>.mono [0,1,2,3,4,5,6,9,10] [] [7,8,11,12,13,14]) (fn:=Tryz.f18) (rs:=[.cell 12 41,.tmp 13]) Tryz.func18 rfl rfl (by kernel_rfl) (Nat.le_of_ble_eq_true rfl) (Eq.mp (by kernel_rfl) h)
end Go.Proofs
namespace Go.Proofs
open Go.Sh Tryz
def sh_144 (a0:Value) (K:Value → World → Prop) (w:World):Prop:=
 oM prog (.convert 9 181 (.tmp 0)) 181 [a0] (fun v10 w=>
 oM prog (.buildSlice 181 1 #[(0,(.tmp 0))]) 181 [(.int .u8 128)] (fun v11 w=>
 oM prog (.call (Go.Call.mk (.builtin .append) #[(.tmp 0),(.tmp 1)] #[181,181])) 181 [v10,v11] (fun v12 w=>
 loopM [v12] w (fun J_4 m_5 l_6 u_l_6 w0_l_6=>(fun w=>(
 oM prog (.call (Go.Call.mk (.builtin .len) #[(.tmp 0)] #[181])) 3 [(l_6.getD 0 undef)] (fun v14 w=>
 oM prog (.binOp .rem 3 (.tmp 0) (.tmp 1) 3) 3 [v14,(.int .i64 64)] (fun v15 w=>
 oM prog (.binOp .neq 3 (.tmp 0) (.const (.int .i64 56)) 3) 4 [v15] (fun v16 w=>
 condM v16
 (oM prog (.buildSlice 181 1 #[(0,(.tmp 0))]) 181 [(.int .u8 0)] (fun v18 w=>
 oM prog (.call (Go.Call.mk (.builtin .append) #[(.tmp 0),(.tmp 1)] #[181,181])) 181 [(l_6.getD 0 undef),v18] (fun v19 w=>
 J_4 [v19] w ∧ m_5 [v19] w < m_5 l_6 w0_l_6) w) w)
 (loopM [(l_6.getD 0 undef),(.int .i64 56)] w (fun J_12 m_13 l_14 u_l_14 w0_l_14=>(fun w=>(
 oM prog (.binOp .geq 3 (.tmp 0) (.tmp 1) 3) 4 [(l_14.getD 1 undef),(.int .i64 0)] (fun v21 w=>
 condM v21
 (oM prog (.call (Go.Call.mk (.builtin .len) #[(.tmp 0)] #[9])) 3 [a0] (fun v26 w=>
 oM prog (.convert 3 139 (.tmp 0)) 139 [v26] (fun v27 w=>
 oM prog (.binOp .mul 139 (.tmp 0) (.tmp 1) 139) 139 [(.int .u64 8),v27] (fun v28 w=>
 oM prog (.binOp .shr 139 (.tmp 0) (.tmp 1) 3) 139 [v28,(l_14.getD 1 undef)] (fun v30 w=>
 oM prog (.convert 139 5 (.tmp 0)) 5 [v30] (fun v31 w=>
 oM prog (.buildSlice 181 1 #[(0,(.tmp 0))]) 181 [v31] (fun v32 w=>
 oM prog (.call (Go.Call.mk (.builtin .append) #[(.tmp 0),(.tmp 1)] #[181,181])) 181 [(l_14.getD 0 undef),v32] (fun v33 w=>
 oM prog (.binOp .sub 3 (.tmp 0) (.tmp 1) 3) 3 [(l_14.getD 1 undef),(.int .i64 8)] (fun v23 w=>
 J_12 [v33,v23] w ∧ m_13 [v33,v23] w < m_13 l_14 w0_l_14) w) w) w) w) w) w) w) w)
 (callM prog 184 #[] (fun v34 w=>
 oM prog (.alloc 202) 0 [] (fun v5 w=>
 oM prog (.store 202 (.tmp 0) (.tmp 1)) 0 [v5,v34] (fun _ w=>
 loopM [(l_14.getD 0 undef)] w (fun J_26 m_27 l_28 u_l_28 w0_l_28=>(fun w=>(
 oM prog (.call (Go.Call.mk (.builtin .len) #[(.tmp 0)] #[181])) 3 [(l_28.getD 0 undef)] (fun v36 w=>
 oM prog (.binOp .gtr 3 (.tmp 0) (.tmp 1) 3) 4 [v36,(.int .i64 0)] (fun v37 w=>
 condM v37
 (stageM w (fun C_31 w=>(oH prog (.load 202 (.tmp 0)) 202 [v5] (upto C_31 0) (fun v40=>
 pureH (l_28.getD 0 undef) (upto C_31 0) (fun v41=>
 oH prog (.slice 181 (.tmp 0) none (some (.tmp 1)) none) 181 [v41,(.int .i64 64)] (upto C_31 0) (fun v42=>
 callM prog 185 #[v40,v42] (fun v43 w=>C_31 1 w ∧ (
 oM prog (.store 202 (.tmp 0) (.tmp 1)) 0 [v5,v43] (fun _ w=>C_31 2 w ∧ (
 oM prog (.slice 181 (.tmp 0) (some (.tmp 1)) none none) 181 [(l_28.getD 0 undef),(.int .i64 64)] (fun v39 w=>
 J_26 [v39] w ∧ m_27 [v39] w < m_27 l_28 w0_l_28) w)) w)) w))))))
 (oM prog (.load 202 (.tmp 0)) 202 [v5] (fun v44 w=>
 loopM [undef,(.slice none 0 0),(.int .i64 0)] w (fun J_38 m_39 l_40 u_l_40 w0_l_40=>(fun w=>(
 oM prog (.binOp .lss 3 (.tmp 0) (.tmp 1) 3) 0 [(l_40.getD 2 undef),(.int .i64 8)] (fun v46 w=>
 condM v46
 (oM prog (.index 202 (.tmp 0) (.tmp 1)) 200 [v44,(l_40.getD 2 undef)] (fun v47 w=>
 oM prog (.binOp .shr 200 (.tmp 0) (.tmp 1) 174) 200 [v47,(.int .u64 24)] (fun v50 w=>
 oM prog (.convert 200 5 (.tmp 0)) 5 [v50] (fun v51 w=>
 oM prog (.binOp .shr 200 (.tmp 0) (.tmp 1) 174) 200 [v47,(.int .u64 16)] (fun v53 w=>
 oM prog (.convert 200 5 (.tmp 0)) 5 [v53] (fun v54 w=>
 oM prog (.binOp .shr 200 (.tmp 0) (.tmp 1) 174) 200 [v47,(.int .u64 8)] (fun v56 w=>
 oM prog (.convert 200 5 (.tmp 0)) 5 [v56] (fun v57 w=>
 oM prog (.convert 200 5 (.tmp 0)) 5 [v47] (fun v59 w=>
 oM prog (.buildSlice 181 4 #[(0,(.tmp 0)),(1,(.tmp 1)),(2,(.tmp 2)),(3,(.tmp 3))]) 181 [v51,v54,v57,v59] (fun v60 w=>
 oM prog (.call (Go.Call.mk (.builtin .append) #[(.tmp 0),(.tmp 1)] #[181,181])) 181 [(l_40.getD 1 undef),v60] (fun v61 w=>
 oM prog (.binOp .add 3 (.tmp 0) (.tmp 1) 3) 3 [(l_40.getD 2 undef),(.int .i64 1)] (fun v62 w=>
 J_38 [v47,v61,v62] w ∧ m_39 [v47,v61,v62] w < m_39 l_40 w0_l_40) w) w) w) w) w) w) w) w) w) w) w)
 (oM prog (.convert 181 9 (.tmp 0)) 9 [(l_40.getD 1 undef)] (fun v64 w=>
 K v64 w) w)) w)) w0_l_40)) w)) w) w)) w0_l_28)) w) w) w)) w)) w0_l_14))) w) w) w)) w0_l_6)) w) w) w
theorem sh_144_ok {a0:Value} {K:Value → World → Prop} {w:World} (h:sh_144 a0 K w):callM prog 144 #[a0] K w:=
 calls_of_code (fun _=>3) (fn:=Tryz.f144) (rs:=[.tmp 2]) Tryz.func144 rfl rfl (by kernel_rfl) (Nat.le_of_ble_eq_true rfl) (Eq.mp (by kernel_rfl) h)
def sh_184 (K:Value → World → Prop) (w:World):Prop:=
 oM prog (.alloc 202) 0 [] (fun v0 w=>
 oM prog (.build 202 #[(0,(.tmp 0)),(1,(.tmp 1)),(2,(.tmp 2)),(3,(.tmp 3)),(4,(.tmp 4)),(5,(.tmp 5)),(6,(.tmp 6)),(7,(.tmp 7))]) 202 [(.int .u32 1779033703),(.int .u32 3144134277),(.int .u32 1013904242),(.int .u32 2773480762),(.int .u32 1359893119),(.int .u32 2600822924),(.int .u32 528734635),(.int .u32 1541459225)] (fun v1 w=>
 oM prog (.store 202 (.tmp 0) (.tmp 1)) 0 [v0,v1] (fun _ w=>
 ∃ r_3,(do loadVar 202 (← asAddr v0):Sem Value).run prog w = .ok r_3 w ∧ K r_3 w) w) w) w
theorem sh_184_ok {K:Value → World → Prop} {w:World} (h:sh_184 K w):callM prog 184 #[] K w:=
 calls_of_code (fun _=>0) (fn:=Tryz.f184) (rs:=[.cell 0 202]) Tryz.func184 rfl rfl (by kernel_rfl) (Nat.le_of_ble_eq_true rfl) (Eq.mp (by kernel_rfl) h)
def sh_185 (a0 a1:Value) (K:Value → World → Prop) (w:World):Prop:=
 oM prog (.box 202 (.tmp 0)) 0 [a0] (fun v2 w=>
 oM prog (.alloc 202) 0 [] (fun v4 w=>
 callM prog 205 #[a1] (fun v15 w=>
 callM prog 206 #[] (fun v16 w=>
 oM prog (.alloc 223) 0 [] (fun v5 w=>
 oM prog (.alloc 223) 0 [] (fun v6 w=>
 oM prog (.store 223 (.tmp 0) (.tmp 1)) 0 [v5,v15] (fun _ w=>
 oM prog (.store 223 (.tmp 0) (.tmp 1)) 0 [v6,v16] (fun _ w=>
 oM prog (.load 202 (.tmp 0)) 202 [v2] (fun v17 w=>
 oM prog (.alloc 202) 0 [] (fun v7 w=>
 oM prog (.store 202 (.tmp 0) (.tmp 1)) 0 [v7,v17] (fun _ w=>
 loopM [undef,undef,undef,undef,undef,(.int .i64 0)] w (fun J_9 m_10 l_11 u_l_11 w0_l_11=>(fun w=>(
 oM prog (.binOp .lss 3 (.tmp 0) (.tmp 1) 3) 0 [(l_11.getD 5 undef),(.int .i64 64)] (fun v19 w=>
 condM v19
 (quietM w (fun C_13=>(oQ prog (.indexAddr 202 (.tmp 0) (.tmp 1)) 0 [v7,(.int .i64 4)] C_13 (fun v21=>
 oQ prog (.load 200 (.tmp 0)) 200 [v21] C_13 (fun v22=>
 callQ prog 207 #[v22,(.int .i64 (-6))] C_13 (fun v23=>
 oQ prog (.indexAddr 202 (.tmp 0) (.tmp 1)) 0 [v7,(.int .i64 4)] C_13 (fun v24=>
 oQ prog (.load 200 (.tmp 0)) 200 [v24] C_13 (fun v25=>
 callQ prog 207 #[v25,(.int .i64 (-11))] C_13 (fun v26=>
 oQ prog (.binOp .xor 200 (.tmp 0) (.tmp 1) 200) 200 [v23,v26] C_13 (fun v27=>
 oQ prog (.indexAddr 202 (.tmp 0) (.tmp 1)) 0 [v7,(.int .i64 4)] C_13 (fun v28=>
 oQ prog (.load 200 (.tmp 0)) 200 [v28] C_13 (fun v29=>
 callQ prog 207 #[v29,(.int .i64 (-25))] C_13 (fun v30=>
 oQ prog (.binOp .xor 200 (.tmp 0) (.tmp 1) 200) 200 [v27,v30] C_13 (fun v31=>
 ∀ w,C_13 w → (quietM w (fun C_25=>(oQ prog (.indexAddr 202 (.tmp 0) (.tmp 1)) 0 [v7,(.int .i64 7)] C_25 (fun v32=>
 oQ prog (.load 200 (.tmp 0)) 200 [v32] C_25 (fun v33=>
 oQ prog (.binOp .add 200 (.tmp 0) (.tmp 1) 200) 200 [v33,v31] C_25 (fun v35=>
 oQ prog (.indexAddr 202 (.tmp 0) (.tmp 1)) 0 [v7,(.int .i64 6)] C_25 (fun v36=>
 oQ prog (.load 200 (.tmp 0)) 200 [v36] C_25 (fun v37=>
 oQ prog (.indexAddr 202 (.tmp 0) (.tmp 1)) 0 [v7,(.int .i64 4)] C_25 (fun v38=>
 oQ prog (.load 200 (.tmp 0)) 200 [v38] C_25 (fun v39=>
 oQ prog (.indexAddr 202 (.tmp 0) (.tmp 1)) 0 [v7,(.int .i64 5)] C_25 (fun v40=>
 oQ prog (.load 200 (.tmp 0)) 200 [v40] C_25 (fun v41=>
 oQ prog (.indexAddr 202 (.tmp 0) (.tmp 1)) 0 [v7,(.int .i64 6)] C_25 (fun v42=>
 oQ prog (.load 200 (.tmp 0)) 200 [v42] C_25 (fun v43=>
 oQ prog (.binOp .xor 200 (.tmp 0) (.tmp 1) 200) 200 [v41,v43] C_25 (fun v44=>
 oQ prog (.binOp .and 200 (.tmp 0) (.tmp 1) 200) 200 [v39,v44] C_25 (fun v45=>
 oQ prog (.binOp .xor 200 (.tmp 0) (.tmp 1) 200) 200 [v37,v45] C_25 (fun v46=>
 oQ prog (.binOp .add 200 (.tmp 0) (.tmp 1) 200) 200 [v35,v46] C_25 (fun v47=>
 oQ prog (.indexAddr 223 (.tmp 0) (.tmp 1)) 0 [v6,(l_11.getD 5 undef)] C_25 (fun v49=>
 oQ prog (.load 200 (.tmp 0)) 200 [v49] C_25 (fun v50=>
 oQ prog (.binOp .add 200 (.tmp 0) (.tmp 1) 200) 200 [v47,v50] C_25 (fun v51=>
 oQ prog (.indexAddr 223 (.tmp 0) (.tmp 1)) 0 [v5,(l_11.getD 5 undef)] C_25 (fun v53=>
 oQ prog (.load 200 (.tmp 0)) 200 [v53] C_25 (fun v54=>
 oQ prog (.binOp .add 200 (.tmp 0) (.tmp 1) 200) 200 [v51,v54] C_25 (fun v55=>
 ∀ w,C_25 w → (quietM w (fun C_47=>(oQ prog (.indexAddr 202 (.tmp 0) (.tmp 1)) 0 [v7,(.int .i64 0)] C_47 (fun v56=>
 oQ prog (.load 200 (.tmp 0)) 200 [v56] C_47 (fun v57=>
 callQ prog 207 #[v57,(.int .i64 (-2))] C_47 (fun v58=>
 oQ prog (.indexAddr 202 (.tmp 0) (.tmp 1)) 0 [v7,(.int .i64 0)] C_47 (fun v59=>
 oQ prog (.load 200 (.tmp 0)) 200 [v59] C_47 (fun v60=>
 callQ prog 207 #[v60,(.int .i64 (-13))] C_47 (fun v61=>
 oQ prog (.binOp .xor 200 (.tmp 0) (.tmp 1) 200) 200 [v58,v61] C_47 (fun v62=>
 oQ prog (.indexAddr 202 (.tmp 0) (.tmp 1)) 0 [v7,(.int .i64 0)] C_47 (fun v63=>
 oQ prog (.load 200 (.tmp 0)) 200 [v63] C_47 (fun v64=>
 callQ prog 207 #[v64,(.int .i64 (-22))] C_47 (fun v65=>
 oQ prog (.binOp .xor 200 (.tmp 0) (.tmp 1) 200) 200 [v62,v65] C_47 (fun v66=>
 ∀ w,C_47 w → (oM prog (.indexAddr 202 (.tmp 0) (.tmp 1)) 0 [v7,(.int .i64 0)] (fun v67 w=>
 oM prog (.load 200 (.tmp 0)) 200 [v67] (fun v68 w=>
 oM prog (.indexAddr 202 (.tmp 0) (.tmp 1)) 0 [v7,(.int .i64 1)] (fun v69 w=>
 oM prog (.load 200 (.tmp 0)) 200 [v69] (fun v70 w=>
 oM prog (.binOp .and 200 (.tmp 0) (.tmp 1) 200) 200 [v68,v70] (fun v71 w=>
 oM prog (.indexAddr 202 (.tmp 0) (.tmp 1)) 0 [v7,(.int .i64 2)] (fun v72 w=>
 oM prog (.load 200 (.tmp 0)) 200 [v72] (fun v73 w=>
 oM prog (.indexAddr 202 (.tmp 0) (.tmp 1)) 0 [v7,(.int .i64 0)] (fun v74 w=>
 oM prog (.load 200 (.tmp 0)) 200 [v74] (fun v75 w=>
 oM prog (.indexAddr 202 (.tmp 0) (.tmp 1)) 0 [v7,(.int .i64 1)] (fun v76 w=>
 oM prog (.load 200 (.tmp 0)) 200 [v76] (fun v77 w=>
 oM prog (.binOp .or 200 (.tmp 0) (.tmp 1) 200) 200 [v75,v77] (fun v78 w=>
 oM prog (.binOp .and 200 (.tmp 0) (.tmp 1) 200) 200 [v73,v78] (fun v79 w=>
 oM prog (.binOp .or 200 (.tmp 0) (.tmp 1) 200) 200 [v71,v79] (fun v80 w=>
 oM prog (.binOp .add 200 (.tmp 0) (.tmp 1) 200) 200 [v55,v66] (fun v83 w=>
 oM prog (.binOp .add 200 (.tmp 0) (.tmp 1) 200) 200 [v83,v80] (fun v85 w=>
 oM prog (.indexAddr 202 (.tmp 0) (.tmp 1)) 0 [v7,(.int .i64 0)] (fun v86 w=>
 oM prog (.load 200 (.tmp 0)) 200 [v86] (fun v87 w=>
 oM prog (.indexAddr 202 (.tmp 0) (.tmp 1)) 0 [v7,(.int .i64 1)] (fun v88 w=>
 oM prog (.load 200 (.tmp 0)) 200 [v88] (fun v89 w=>
 oM prog (.indexAddr 202 (.tmp 0) (.tmp 1)) 0 [v7,(.int .i64 2)] (fun v90 w=>
 oM prog (.load 200 (.tmp 0)) 200 [v90] (fun v91 w=>
 oM prog (.indexAddr 202 (.tmp 0) (.tmp 1)) 0 [v7,(.int .i64 3)] (fun v92 w=>
 oM prog (.load 200 (.tmp 0)) 200 [v92] (fun v93 w=>
 oM prog (.binOp .add 200 (.tmp 0) (.tmp 1) 200) 200 [v93,v55] (fun v95 w=>
 oM prog (.indexAddr 202 (.tmp 0) (.tmp 1)) 0 [v7,(.int .i64 4)] (fun v96 w=>
 oM prog (.load 200 (.tmp 0)) 200 [v96] (fun v97 w=>
 oM prog (.indexAddr 202 (.tmp 0) (.tmp 1)) 0 [v7,(.int .i64 5)] (fun v98 w=>
 oM prog (.load 200 (.tmp 0)) 200 [v98] (fun v99 w=>
 oM prog (.indexAddr 202 (.tmp 0) (.tmp 1)) 0 [v7,(.int .i64 6)] (fun v100 w=>
 oM prog (.load 200 (.tmp 0)) 200 [v100] (fun v101 w=>
 oM prog (.build 202 #[(0,(.tmp 0)),(1,(.tmp 1)),(2,(.tmp 2)),(3,(.tmp 3)),(4,(.tmp 4)),(5,(.tmp 5)),(6,(.tmp 6)),(7,(.tmp 7))]) 202 [v85,v87,v89,v91,v95,v97,v99,v101] (fun v102 w=>
 oM prog (.store 202 (.tmp 0) (.tmp 1)) 0 [v7,v102] (fun _ w=>
 oM prog (.binOp .add 3 (.tmp 0) (.tmp 1) 3) 3 [(l_11.getD 5 undef),(.int .i64 1)] (fun v103 w=>
 J_9 [(l_11.getD 5 undef),v31,v55,v66,v80,v103] w ∧ m_10 [(l_11.getD 5 undef),v31,v55,v66,v80,v103] w < m_10 l_11 w0_l_11) w) w) w) w) w) w) w) w) w) w) w) w) w) w) w) w) w) w) w) w) w) w) w) w) w) w) w) w) w) w) w) w) w) w)))))))))))))))))))))))))))))))))))))))))))))))))))))
 (loopM [undef,(.int .i64 0)] w (fun J_92 m_93 l_94 u_l_94 w0_l_94=>(fun w=>(
 oM prog (.binOp .lss 3 (.tmp 0) (.tmp 1) 3) 0 [(l_94.getD 1 undef),(.int .i64 8)] (fun v105 w=>
 condM v105
 (stageM w (fun C_96 w=>(pureH (l_94.getD 1 undef) (upto C_96 0) (fun v107=>
 oH prog (.indexAddr 202 (.tmp 0) (.tmp 1)) 0 [v7,v107] (upto C_96 0) (fun v108=>
 oH prog (.load 200 (.tmp 0)) 200 [v108] (upto C_96 0) (fun v109=>
 pureH (l_94.getD 1 undef) (upto C_96 0) (fun v110=>
 oH prog (.indexAddr 202 (.tmp 0) (.tmp 1)) 0 [v2,v110] (upto C_96 0) (fun v111=>
 oH prog (.load 200 (.tmp 0)) 200 [v111] (upto C_96 0) (fun v112=>
 oH prog (.binOp .add 200 (.tmp 0) (.tmp 1) 200) 200 [v109,v112] (upto C_96 0) (fun v113=>
 oH prog (.indexAddr 202 (.tmp 0) (.tmp 1)) 0 [v7,v107] (upto C_96 0) (fun v114=>
 oM prog (.store 200 (.tmp 0) (.tmp 1)) 0 [v114,v113] (fun _ w=>C_96 1 w ∧ (
 oM prog (.binOp .add 3 (.tmp 0) (.tmp 1) 3) 3 [(l_94.getD 1 undef),(.int .i64 1)] (fun v115 w=>
 J_92 [(l_94.getD 1 undef),v115] w ∧ m_93 [(l_94.getD 1 undef),v115] w < m_93 l_94 w0_l_94) w)) w)))))))))))
 (oM prog (.load 202 (.tmp 0)) 202 [v7] (fun v116 w=>
 oM prog (.store 202 (.tmp 0) (.tmp 1)) 0 [v4,v116] (fun _ w=>
 ∃ r_107,(do loadVar 202 (← asAddr v4):Sem Value).run prog w = .ok r_107 w ∧ K r_107 w) w) w)) w)) w0_l_94))) w)) w0_l_11)) w) w) w) w) w) w) w) w) w) w) w
theorem sh_185_ok {a0 a1:Value} {K:Value → World → Prop} {w:World} (h:sh_185 a0 a1 K w):callM prog 185 #[a0,a1] K w:=
 calls_of_code (fun i=>bif Nat.beq i 15 then 3 else 0) (fn:=Tryz.f185) (rs:=[.cell 4 202]) Tryz.func185 rfl rfl (by kernel_rfl) (Nat.le_of_ble_eq_true rfl) (Eq.mp (by kernel_rfl) h)
def sh_205 (a0:Value) (K:Value → World → Prop) (w:World):Prop:=
 oM prog (.alloc 223) 0 [] (fun v2 w=>
 loopM [undef,undef,undef,undef,undef,(.int .i64 0)] w (fun J_2 m_3 l_4 u_l_4 w0_l_4=>(fun w=>(
 oM prog (.binOp .lss 3 (.tmp 0) (.tmp 1) 3) 0 [(l_4.getD 5 undef),(.int .i64 64)] (fun v9 w=>
 condM v9
 (joinM (fun M_6=>(oM prog (.binOp .lss 3 (.tmp 0) (.tmp 1) 3) 4 [(l_4.getD 5 undef),(.int .i64 16)] (fun v12 w=>
 condM v12
 (heldM w (fun C_9 w=>(pureH (l_4.getD 5 undef) C_9 (fun v13=>
 pureH a0 C_9 (fun v14=>
 pureH (l_4.getD 5 undef) C_9 (fun v15=>
 oH prog (.binOp .mul 3 (.tmp 0) (.tmp 1) 3) 3 [(.int .i64 4),v15] C_9 (fun v16=>
 oH prog (.indexAddr 181 (.tmp 0) (.tmp 1)) 0 [v14,v16] C_9 (fun v17=>
 oH prog (.load 5 (.tmp 0)) 5 [v17] C_9 (fun v18=>
 oH prog (.convert 5 200 (.tmp 0)) 200 [v18] C_9 (fun v19=>
 oH prog (.binOp .shl 200 (.tmp 0) (.tmp 1) 174) 200 [v19,(.int .u64 24)] C_9 (fun v20=>
 pureH a0 C_9 (fun v21=>
 pureH (l_4.getD 5 undef) C_9 (fun v22=>
 oH prog (.binOp .mul 3 (.tmp 0) (.tmp 1) 3) 3 [(.int .i64 4),v22] C_9 (fun v23=>
 oH prog (.binOp .add 3 (.tmp 0) (.tmp 1) 3) 3 [v23,(.int .i64 1)] C_9 (fun v24=>
 oH prog (.indexAddr 181 (.tmp 0) (.tmp 1)) 0 [v21,v24] C_9 (fun v25=>
 oH prog (.load 5 (.tmp 0)) 5 [v25] C_9 (fun v26=>
 oH prog (.convert 5 200 (.tmp 0)) 200 [v26] C_9 (fun v27=>
 oH prog (.binOp .shl 200 (.tmp 0) (.tmp 1) 174) 200 [v27,(.int .u64 16)] C_9 (fun v28=>
 oH prog (.binOp .or 200 (.tmp 0) (.tmp 1) 200) 200 [v20,v28] C_9 (fun v29=>
 pureH a0 C_9 (fun v30=>
 pureH (l_4.getD 5 undef) C_9 (fun v31=>
 oH prog (.binOp .mul 3 (.tmp 0) (.tmp 1) 3) 3 [(.int .i64 4),v31] C_9 (fun v32=>
 oH prog (.binOp .add 3 (.tmp 0) (.tmp 1) 3) 3 [v32,(.int .i64 2)] C_9 (fun v33=>
 oH prog (.indexAddr 181 (.tmp 0) (.tmp 1)) 0 [v30,v33] C_9 (fun v34=>
 oH prog (.load 5 (.tmp 0)) 5 [v34] C_9 (fun v35=>
 oH prog (.convert 5 200 (.tmp 0)) 200 [v35] C_9 (fun v36=>
 oH prog (.binOp .shl 200 (.tmp 0) (.tmp 1) 174) 200 [v36,(.int .u64 8)] C_9 (fun v37=>
 oH prog (.binOp .or 200 (.tmp 0) (.tmp 1) 200) 200 [v29,v37] C_9 (fun v38=>
 pureH a0 C_9 (fun v39=>
 pureH (l_4.getD 5 undef) C_9 (fun v40=>
 oH prog (.binOp .mul 3 (.tmp 0) (.tmp 1) 3) 3 [(.int .i64 4),v40] C_9 (fun v41=>
 oH prog (.binOp .add 3 (.tmp 0) (.tmp 1) 3) 3 [v41,(.int .i64 3)] C_9 (fun v42=>
 oH prog (.indexAddr 181 (.tmp 0) (.tmp 1)) 0 [v39,v42] C_9 (fun v43=>
 oH prog (.load 5 (.tmp 0)) 5 [v43] C_9 (fun v44=>
 oH prog (.convert 5 200 (.tmp 0)) 200 [v44] C_9 (fun v45=>
 oH prog (.binOp .or 200 (.tmp 0) (.tmp 1) 200) 200 [v38,v45] C_9 (fun v46=>
 oH prog (.indexAddr 223 (.tmp 0) (.tmp 1)) 0 [v2,v13] C_9 (fun v47=>
 oM prog (.store 200 (.tmp 0) (.tmp 1)) 0 [v47,v46] (fun _ w=>C_9 w ∧ (
 M_6 [(l_4.getD 5 undef),(l_4.getD 1 undef),(l_4.getD 2 undef),(l_4.getD 3 undef),(l_4.getD 4 undef)] w)) w))))))))))))))))))))))))))))))))))))))
 (quietM w (fun C_45=>(oQ prog (.binOp .sub 3 (.tmp 0) (.tmp 1) 3) 3 [(l_4.getD 5 undef),(.int .i64 15)] C_45 (fun v49=>
 oQ prog (.indexAddr 223 (.tmp 0) (.tmp 1)) 0 [v2,v49] C_45 (fun v50=>
 oQ prog (.load 200 (.tmp 0)) 200 [v50] C_45 (fun v51=>
 oQ prog (.binOp .sub 3 (.tmp 0) (.tmp 1) 3) 3 [(l_4.getD 5 undef),(.int .i64 2)] C_45 (fun v53=>
 oQ prog (.indexAddr 223 (.tmp 0) (.tmp 1)) 0 [v2,v53] C_45 (fun v54=>
 oQ prog (.load 200 (.tmp 0)) 200 [v54] C_45 (fun v55=>
 ∀ w,C_45 w → (callM prog 207 #[v51,(.int .i64 (-7))] (fun v57 w=>
 callM prog 207 #[v51,(.int .i64 (-18))] (fun v59 w=>
 oM prog (.binOp .xor 200 (.tmp 0) (.tmp 1) 200) 200 [v57,v59] (fun v60 w=>
 oM prog (.binOp .shr 200 (.tmp 0) (.tmp 1) 174) 200 [v51,(.int .u64 3)] (fun v62 w=>
 oM prog (.binOp .xor 200 (.tmp 0) (.tmp 1) 200) 200 [v60,v62] (fun v63 w=>
 callM prog 207 #[v55,(.int .i64 (-17))] (fun v65 w=>
 callM prog 207 #[v55,(.int .i64 (-19))] (fun v67 w=>
 oM prog (.binOp .xor 200 (.tmp 0) (.tmp 1) 200) 200 [v65,v67] (fun v68 w=>
 oM prog (.binOp .shr 200 (.tmp 0) (.tmp 1) 174) 200 [v55,(.int .u64 10)] (fun v70 w=>
 oM prog (.binOp .xor 200 (.tmp 0) (.tmp 1) 200) 200 [v68,v70] (fun v71 w=>
 heldM w (fun C_62 w=>(pureH (l_4.getD 5 undef) C_62 (fun v72=>
 pureH (l_4.getD 5 undef) C_62 (fun v73=>
 oH prog (.binOp .sub 3 (.tmp 0) (.tmp 1) 3) 3 [v73,(.int .i64 16)] C_62 (fun v74=>
 oH prog (.indexAddr 223 (.tmp 0) (.tmp 1)) 0 [v2,v74] C_62 (fun v75=>
 oH prog (.load 200 (.tmp 0)) 200 [v75] C_62 (fun v76=>
 pureH v63 C_62 (fun v77=>
 oH prog (.binOp .add 200 (.tmp 0) (.tmp 1) 200) 200 [v76,v77] C_62 (fun v78=>
 pureH (l_4.getD 5 undef) C_62 (fun v79=>
 oH prog (.binOp .sub 3 (.tmp 0) (.tmp 1) 3) 3 [v79,(.int .i64 7)] C_62 (fun v80=>
 oH prog (.indexAddr 223 (.tmp 0) (.tmp 1)) 0 [v2,v80] C_62 (fun v81=>
 oH prog (.load 200 (.tmp 0)) 200 [v81] C_62 (fun v82=>
 oH prog (.binOp .add 200 (.tmp 0) (.tmp 1) 200) 200 [v78,v82] C_62 (fun v83=>
 pureH v71 C_62 (fun v84=>
 oH prog (.binOp .add 200 (.tmp 0) (.tmp 1) 200) 200 [v83,v84] C_62 (fun v85=>
 oH prog (.indexAddr 223 (.tmp 0) (.tmp 1)) 0 [v2,v72] C_62 (fun v86=>
 oM prog (.store 200 (.tmp 0) (.tmp 1)) 0 [v86,v85] (fun _ w=>C_62 w ∧ (
 M_6 [(l_4.getD 5 undef),v51,v55,v63,v71] w)) w)))))))))))))))))) w) w) w) w) w) w) w) w) w) w))))))))))) w))
 (fun l_7 u_l_7 w=>(oM prog (.binOp .add 3 (.tmp 0) (.tmp 1) 3) 3 [(l_4.getD 5 undef),(.int .i64 1)] (fun v87 w=>
 J_2 [(l_7.getD 0 undef),(l_7.getD 1 undef),(l_7.getD 2 undef),(l_7.getD 3 undef),(l_7.getD 4 undef),v87] w ∧ m_3 [(l_7.getD 0 undef),(l_7.getD 1 undef),(l_7.getD 2 undef),(l_7.getD 3 undef),(l_7.getD 4 undef),v87] w < m_3 l_4 w0_l_4) w)))
 (oM prog (.load 223 (.tmp 0)) 223 [v2] (fun v88 w=>
 oM prog (.store 223 (.tmp 0) (.tmp 1)) 0 [v2,v88] (fun _ w=>
 ∃ r_80,(do loadVar 223 (← asAddr v2):Sem Value).run prog w = .ok r_80 w ∧ K r_80 w) w) w)) w)) w0_l_4)) w
theorem sh_205_ok {a0:Value} {K:Value → World → Prop} {w:World} (h:sh_205 a0 K w):callM prog 205 #[a0] K w:=
 calls_of_code (fun i=>bif Nat.beq i 5 then .tree (.look 0 (.look 1 (.look 2 (.look 3 (.look 4 (.look 5 (.look 6 (.look 7 (.look 8 (.look 9 (.look 10 (.look 11 (.look 12 (.look 13 (.look 14 (.look 15 (.look 16 (.look 17 (.look 18 (.look 19 (.look 20 (.look 21 (.look 22 (.look 23 (.look 24 (.look 25 (.look 26 (.look 27 (.look 28 (.look 29 (.look 30 (.look 31 (.look 32 (.look 33 (.look 34 (.only 35 (.done))))))))))))))))))))))))))))))))))))) else bif Nat.beq i 9 then 2 else 0) (fn:=Tryz.f205) (rs:=[.cell 2 223]) Tryz.func205 rfl rfl (by kernel_rfl) (Nat.le_of_ble_eq_true rfl) (Eq.mp (by kernel_rfl) h)
def sh_206 (K:Value → World → Prop) (w:World):Prop:=
 oM prog (.alloc 223) 0 [] (fun v0 w=>
 oM prog (.build 223 #[(0,(.tmp 0)),(1,(.tmp 1)),(2,(.tmp 2)),(3,(.tmp 3)),(4,(.tmp 4)),(5,(.tmp 5)),(6,(.tmp 6)),(7,(.tmp 7)),(8,(.tmp 8)),(9,(.tmp 9)),(10,(.tmp 10)),(11,(.tmp 11)),(12,(.tmp 12)),(13,(.tmp 13)),(14,(.tmp 14)),(15,(.tmp 15)),(16,(.tmp 16)),(17,(.tmp 17)),(18,(.tmp 18)),(19,(.tmp 19)),(20,(.tmp 20)),(21,(.tmp 21)),(22,(.tmp 22)),(23,(.tmp 23)),(24,(.tmp 24)),(25,(.tmp 25)),(26,(.tmp 26)),(27,(.tmp 27)),(28,(.tmp 28)),(29,(.tmp 29)),(30,(.tmp 30)),(31,(.tmp 31)),(32,(.tmp 32)),(33,(.tmp 33)),(34,(.tmp 34)),(35,(.tmp 35)),(36,(.tmp 36)),(37,(.tmp 37)),(38,(.tmp 38)),(39,(.tmp 39)),(40,(.tmp 40)),(41,(.tmp 41)),(42,(.tmp 42)),(43,(.tmp 43)),(44,(.tmp 44)),(45,(.tmp 45)),(46,(.tmp 46)),(47,(.tmp 47)),(48,(.tmp 48)),(49,(.tmp 49)),(50,(.tmp 50)),(51,(.tmp 51)),(52,(.tmp 52)),(53,(.tmp 53)),(54,(.tmp 54)),(55,(.tmp 55)),(56,(.tmp 56)),(57,(.tmp 57)),(58,(.tmp 58)),(59,(.tmp 59)),(60,(.tmp 60)),(61,(.tmp 61)),(62,(.tmp 62)),(63,(.tmp 63))]) 223 [(.int .u32 1116352408),(.int .u32 1899447441),(.int .u32 3049323471),(.int .u32 3921009573),(.int .u32 961987163),(.int .u32 1508970993),(.int .u32 2453635748),(.int .u32 2870763221),(.int .u32 3624381080),(.int .u32 310598401),(.int .u32 607225278),(.int .u32 1426881987),(.int .u32 1925078388),(.int .u32 2162078206),(.int .u32 2614888103),(.int .u32 3248222580),(.int .u32 3835390401),(.int .u32 4022224774),(.int .u32 264347078),(.int .u32 604807628),(.int .u32 770255983),(.int .u32 1249150122),(.int .u32 1555081692),(.int .u32 1996064986),(.int .u32 2554220882),(.int .u32 2821834349),(.int .u32 2952996808),(.int .u32 3210313671),(.int .u32 3336571891),(.int .u32 3584528711),(.int .u32 113926993),(.int .u32 338241895),(.int .u32 666307205),(.int .u32 773529912),(.int .u32 1294757372),(.int .u32 1396182291),(.int .u32 1695183700),(.int .u32 1986661051),(.int .u32 2177026350),(.int .u32 2456956037),(.int .u32 2730485921),(.int .u32 2820302411),(.int .u32 3259730800),(.int .u32 3345764771),(.int .u32 3516065817),(.int .u32 3600352804),(.int .u32 4094571909),(.int .u32 275423344),(.int .u32 430227734),(.int .u32 506948616),(.int .u32 659060556),(.int .u32 883997877),(.int .u32 958139571),(.int .u32 1322822218),(.int .u32 1537002063),(.int .u32 1747873779),(.int .u32 1955562222),(.int .u32 2024104815),(.int .u32 2227730452),(.int .u32 2361852424),(.int .u32 2428436474),(.int .u32 2756734187),(.int .u32 3204031479),(.int .u32 3329325298)] (fun v1 w=>
 oM prog (.store 223 (.tmp 0) (.tmp 1)) 0 [v0,v1] (fun _ w=>
 ∃ r_3,(do loadVar 223 (← asAddr v0):Sem Value).run prog w = .ok r_3 w ∧ K r_3 w) w) w) w
theorem sh_206_ok {K:Value → World → Prop} {w:World} (h:sh_206 K w):callM prog 206 #[] K w:=
 calls_of_code (fun _=>0) (fn:=Tryz.f206) (rs:=[.cell 0 223]) Tryz.func206 rfl rfl (by kernel_rfl) (Nat.le_of_ble_eq_true rfl) (Eq.mp (by kernel_rfl) h)
def sh_207 (a0 a1:Value) (K:Value → World → Prop) (w:World):Prop:=
 oM prog (.convert 3 174 (.tmp 0)) 174 [a1] (fun v7 w=>
 oM prog (.binOp .and 174 (.tmp 0) (.tmp 1) 174) 174 [v7,(.int .u64 31)] (fun v8 w=>
 oM prog (.binOp .shl 200 (.tmp 0) (.tmp 1) 174) 200 [a0,v8] (fun v11 w=>
 oM prog (.binOp .sub 174 (.tmp 0) (.tmp 1) 174) 174 [(.int .u64 32),v8] (fun v14 w=>
 oM prog (.binOp .shr 200 (.tmp 0) (.tmp 1) 174) 200 [a0,v14] (fun v15 w=>
 oM prog (.binOp .or 200 (.tmp 0) (.tmp 1) 200) 200 [v11,v15] (fun v16 w=>
 K v16 w) w) w) w) w) w) w
theorem sh_207_ok {a0 a1:Value} {K:Value → World → Prop} {w:World} (h:sh_207 a0 a1 K w):callM prog 207 #[a0,a1] K w:=
 calls_of_code (fun _=>0) (fn:=Tryz.f207) (rs:=[.tmp 4]) Tryz.func207 rfl rfl (by kernel_rfl) (Nat.le_of_ble_eq_true rfl) (Eq.mp (by kernel_rfl) h)
end Go.Proofs
namespace ShaSpec
abbrev W:=BitVec 32
def rotr (x:W) (k:Nat):W:=x >>> k ||| x <<< (32 - k)
theorem rotl_rotr (x:W) (k:Nat):x <<< (32 - k) ||| x >>> k = rotr x k:=BitVec.or_comm _ _
def ch (e f g:W):W:=g ^^^ (e &&& (f ^^^ g))
def maj (a b c:W):W:=(a &&& b) ||| (c &&& (a ||| b))
theorem ch_eq (e f g:W):(e &&& f) ^^^ (~~~ e &&& g) = ch e f g:=by
 unfold ch
 ext i hi
 simp only [BitVec.getElem_xor,BitVec.getElem_and,BitVec.getElem_not]
 cases e[i] <;> cases f[i] <;> cases g[i] <;> rfl
theorem maj_eq (a b c:W):(a &&& b) ^^^ (a &&& c) ^^^ (b &&& c) = maj a b c:=by
 unfold maj
 ext i hi
 simp only [BitVec.getElem_xor,BitVec.getElem_and,BitVec.getElem_or]
 cases a[i] <;> cases b[i] <;> cases c[i] <;> rfl
def w8 (b:UInt8):W:=BitVec.ofNat 32 b.toNat
def word (b:List UInt8) (k:Nat):W:=w8 (b.getD (4 * k) 0) <<< 24 ||| w8 (b.getD (4 * k + 1) 0) <<< 16 ||| w8 (b.getD (4 * k + 2) 0) <<< 8 ||| w8 (b.getD (4 * k + 3) 0)
def sig0 (x:W):W:=rotr x 7 ^^^ rotr x 18 ^^^ x >>> 3
def sig1 (y:W):W:=rotr y 17 ^^^ rotr y 19 ^^^ y >>> 10
def at' (l:List W) (k:Nat):W:=l.getD k 0
def nextW (b:List UInt8) (l:List W) (k:Nat):W:=
 if k < 16 then word b k else at' l (k - 16) + sig0 (at' l (k - 15)) + at' l (k - 7) + sig1 (at' l (k - 2))
def sched (b:List UInt8):Nat → List W
 | 0=>[]
 | n + 1=>sched b n ++ [nextW b (sched b n) n]
theorem sched_length (b:List UInt8) (n:Nat):(sched b n).length = n:=by
 induction n with
 | zero=>rfl
 | succ n ih=>simp [sched,ih]
structure St where
 a:W
 b:W
 c:W
 d:W
 e:W
 f:W
 g:W
 h:W
def St.list (s:St):List W:=[s.a,s.b,s.c,s.d,s.e,s.f,s.g,s.h]
def round (s:St) (k w:W):St:=
 let t1:=s.h + (rotr s.e 6 ^^^ rotr s.e 11 ^^^ rotr s.e 25) + ch s.e s.f s.g + k + w
 ⟨t1 + (rotr s.a 2 ^^^ rotr s.a 13 ^^^ rotr s.a 22) + maj s.a s.b s.c,s.a,s.b,s.c,s.d + t1,s.e,s.f,s.g⟩
def consts:List W:=[
 0x428a2f98,0x71374491,0xb5c0fbcf,0xe9b5dba5,0x3956c25b,0x59f111f1,0x923f82a4,0xab1c5ed5,
 0xd807aa98,0x12835b01,0x243185be,0x550c7dc3,0x72be5d74,0x80deb1fe,0x9bdc06a7,0xc19bf174,
 0xe49b69c1,0xefbe4786,0x0fc19dc6,0x240ca1cc,0x2de92c6f,0x4a7484aa,0x5cb0a9dc,0x76f988da,
 0x983e5152,0xa831c66d,0xb00327c8,0xbf597fc7,0xc6e00bf3,0xd5a79147,0x06ca6351,0x14292967,
 0x27b70a85,0x2e1b2138,0x4d2c6dfc,0x53380d13,0x650a7354,0x766a0abb,0x81c2c92e,0x92722c85,
 0xa2bfe8a1,0xa81a664b,0xc24b8b70,0xc76c51a3,0xd192e819,0xd6990624,0xf40e3585,0x106aa070,
 0x19a4c116,0x1e376c08,0x2748774c,0x34b0bcb5,0x391c0cb3,0x4ed8aa4a,0x5b9cca4f,0x682e6ff3,
 0x748f82ee,0x78a5636f,0x84c87814,0x8cc70208,0x90befffa,0xa4506ceb,0xbef9a3f7,0xc67178f2]
theorem consts_length:consts.length = 64:=by decide
def rounds (b:List UInt8) (s:St):Nat → St
 | 0=>s
 | n + 1=>round (rounds b s n) (at' consts n) (at' (sched b 64) n)
def mix (s:St) (b:List UInt8):St:=
 let v:=rounds b s 64
 ⟨v.a + s.a,v.b + s.b,v.c + s.c,v.d + s.d,v.e + s.e,v.f + s.f,v.g + s.g,v.h + s.h⟩
def first:St:=⟨0x6a09e667,0xbb67ae85,0x3c6ef372,0xa54ff53a,0x510e527f,0x9b05688c,0x1f83d9ab,0x5be0cd19⟩
def lenBytes (n:Nat):List UInt8:=[7,6,5,4,3,2,1,0].map fun k=>UInt8.ofNat (8 * n / 2 ^ (8 * k))
def zeros (n:Nat):Nat:=(119 - n % 64) % 64
def padded (s:List UInt8):List UInt8:=s ++ [128] ++ List.replicate (zeros s.length) 0 ++ lenBytes s.length
theorem lenBytes_length (n:Nat):(lenBytes n).length = 8:=rfl
theorem padded_length (s:List UInt8):(padded s).length % 64 = 0:=by
 simp only [padded,zeros,List.length_append,List.length_replicate,lenBytes_length,List.length_singleton]
 omega
def blocks:Nat → St → List UInt8 → St
 | 0,s,_=>s
 | n + 1,s,b=>blocks n (mix s (b.take 64)) (b.drop 64)
def out1 (w:W):List UInt8:=[UInt8.ofNat (w.toNat / 16777216),UInt8.ofNat (w.toNat / 65536),UInt8.ofNat (w.toNat / 256),UInt8.ofNat w.toNat]
def sha (s:List UInt8):List UInt8:=((blocks ((padded s).length / 64) first (padded s)).list.map out1).flatten
theorem sha_length (s:List UInt8):(sha s).length = 32:=by
 simp [sha,St.list,out1]
end ShaSpec
namespace Go.Sh
open Go Go.RowKit
def w32 (x:BitVec 32):Value:=.int .u32 (x.toNat:Int)
theorem w32_wrap (n:Nat):IntKind.u32.wrap (n:Int) = ((BitVec.ofNat 32 n).toNat:Int):=by
 rw [IntKind.wrap_u32,BitVec.toNat_ofNat]; omega
theorem w32_ofInt (x:BitVec 32):BitVec.ofInt 32 (x.toNat:Int) = x:=by
 rw [BitVec.ofInt_natCast,BitVec.ofNat_toNat,BitVec.setWidth_eq]
theorem bits32_and (x y:BitVec 32):bits .and .u32 (x.toNat:Int) (y.toNat:Int) = ((x &&& y).toNat:Int):=by
 show IntKind.u32.wrap (((BitVec.ofInt 32 (x.toNat:Int) &&& BitVec.ofInt 32 (y.toNat:Int)).toNat:Nat):Int) = _
 rw [w32_ofInt,w32_ofInt,w32_wrap,BitVec.ofNat_toNat,BitVec.setWidth_eq]
theorem bits32_or (x y:BitVec 32):bits .or .u32 (x.toNat:Int) (y.toNat:Int) = ((x ||| y).toNat:Int):=by
 show IntKind.u32.wrap (((BitVec.ofInt 32 (x.toNat:Int) ||| BitVec.ofInt 32 (y.toNat:Int)).toNat:Nat):Int) = _
 rw [w32_ofInt,w32_ofInt,w32_wrap,BitVec.ofNat_toNat,BitVec.setWidth_eq]
theorem bits32_xor (x y:BitVec 32):bits .xor .u32 (x.toNat:Int) (y.toNat:Int) = ((x ^^^ y).toNat:Int):=by
 show IntKind.u32.wrap (((BitVec.ofInt 32 (x.toNat:Int) ^^^ BitVec.ofInt 32 (y.toNat:Int)).toNat:Nat):Int) = _
 rw [w32_ofInt,w32_ofInt,w32_wrap,BitVec.ofNat_toNat,BitVec.setWidth_eq]
section
variable {P:Program} {K:Value → World → Prop} {w:World}
theorem wadd (t t' T:TypeId) (x y:BitVec 32):oM P (.binOp .add t (.tmp 0) (.tmp 1) t') T [w32 x,w32 y] = pureM (w32 (x + y)):=by
 have e:IntKind.u32.wrap ((x.toNat:Int) + (y.toNat:Int)) = ((x + y).toNat:Int):=by
  rw [← Int.natCast_add,w32_wrap]
  congr 1
 unfold w32
 rw [oM_add',e]
theorem wand (t t' T:TypeId) (x y:BitVec 32):oM P (.binOp .and t (.tmp 0) (.tmp 1) t') T [w32 x,w32 y] = pureM (w32 (x &&& y)):=by
 funext K w
 unfold w32
 rw [← bits32_and]
 simp [oM,opM,xop,execOp,evalL,evE,binOp,go_sem]
theorem wor (t t' T:TypeId) (x y:BitVec 32):oM P (.binOp .or t (.tmp 0) (.tmp 1) t') T [w32 x,w32 y] = pureM (w32 (x ||| y)):=by
 funext K w
 unfold w32
 rw [← bits32_or]
 simp [oM,opM,xop,execOp,evalL,evE,binOp,go_sem]
theorem wxor (t t' T:TypeId) (x y:BitVec 32):oM P (.binOp .xor t (.tmp 0) (.tmp 1) t') T [w32 x,w32 y] = pureM (w32 (x ^^^ y)):=by
 funext K w
 unfold w32
 rw [← bits32_xor]
 simp [oM,opM,xop,execOp,evalL,evE,binOp,go_sem]
theorem wshr (t t' T:TypeId) (yk:IntKind) (x:BitVec 32) (n:Nat) (h:n ≤ 32):oM P (.binOp .shr t (.tmp 0) (.tmp 1) t') T [w32 x,.int yk (n:Int)] = pureM (w32 (x >>> n)):=by
 unfold w32
 rw [oM_shr32 t t' T yk _ _ (by omega) (by omega)]
 congr 2
 rw [BitVec.toNat_ushiftRight,Nat.shiftRight_eq_div_pow,Int.toNat_natCast,Int.natCast_ediv,Int.natCast_pow]
 rfl
theorem wshl (t t' T:TypeId) (yk:IntKind) (x:BitVec 32) (n:Nat) (h:n ≤ 32):oM P (.binOp .shl t (.tmp 0) (.tmp 1) t') T [w32 x,.int yk (n:Int)] = pureM (w32 (x <<< n)):=by
 unfold w32
 rw [oM_shl32 t t' T yk _ _ (by omega) (by omega)]
 congr 2
 rw [BitVec.toNat_shiftLeft,Nat.shiftLeft_eq,Int.toNat_natCast,Int.natCast_emod,Int.natCast_mul,Int.natCast_pow]
 rfl
end
end Go.Sh
namespace Go.Proofs
open Go Go.Sh Go.RowKit ShaSpec
section
variable {K:Value → World → Prop} {w:World}
theorem rotl_ok (x:W) (r:Nat) (h0:0 < r) (h1:r < 32) (h:K (w32 (rotr x r)) w):callM Tryz.prog 207 #[w32 x,.int .i64 (-(r:Int))] K w:=by
 apply sh_207_ok
 unfold sh_207
 have e1:IntKind.u64.wrap (-(r:Int)) = 18446744073709551616 - (r:Int):=by rw [IntKind.wrap_u64]; omega
 have e2:bits .and .u64 (18446744073709551616 - (r:Int)) 31 = ((32 - r:Nat):Int):=by
  rw [mask64 5 _ 31 (by omega) (by decide) (by omega)]; omega
 have e3:IntKind.u64.wrap (32 - ((32 - r:Nat):Int)) = (r:Int):=by rw [IntKind.wrap_u64]; omega
 have s1:=fun t t' T=>wshl (P:=Tryz.prog) t t' T .u64 x (32 - r) (by omega)
 have s2:=fun t t' T=>wshr (P:=Tryz.prog) t t' T .u64 x r (by omega)
 rw [← rotl_rotr] at h
 obtain ⟨m,hm⟩:∃ m,m = 32 - r:=⟨_,rfl⟩
 rw [← hm] at e2 e3 s1 h
 refine Xa (An6 @e1 @e2 @e3 @s1 @s2 @wor) ?_
 exact h
end
end Go.Proofs
namespace Go.Proofs
open Go Go.Sh Go.RowKit ShaSpec
section
variable {K:Value → World → Prop} {w:World}
@[reducible] def ws (l:List W):List Value:=l.map w32
theorem ws_one (l:List W):∀ u ∈ ws l,u.oneCell' = true:=by
 intro u hu
 obtain ⟨x,_,rfl⟩:=List.mem_map.1 hu
 rfl
@[reducible] def stV (s:St):Value:=.agg (ws s.list).toArray
theorem sz_words (w:World):(sizeOf 202).run Tryz.prog w = .ok 8 w:=by kernel_rfl
theorem sz_64 (w:World):(sizeOf 223).run Tryz.prog w = .ok 64 w:=by kernel_rfl
theorem sz_u32 (w:World):(sizeOf 200).run Tryz.prog w = .ok 1 w:=by kernel_rfl
theorem al_words (w:World):(Instr.alloc 202 true (.tuple #[])).run Tryz.prog w = .ok (.pointer (some ⟨w.heap.size,0,none⟩)) (w.alloc (.cells (ws (List.replicate 8 0)).toArray 202)):=by kernel_rfl
theorem al_64 (w:World):(Instr.alloc 223 true (.tuple #[])).run Tryz.prog w = .ok (.pointer (some ⟨w.heap.size,0,none⟩)) (w.alloc (.cells (ws (List.replicate 64 0)).toArray 223)):=by kernel_rfl
theorem un_words:Tryz.prog.underlying 202 = some (.array (Tryz.prog.arrayLen 202) (Tryz.prog.elem 202)):=by kernel_rfl
theorem un_64:Tryz.prog.underlying 223 = some (.array (Tryz.prog.arrayLen 223) (Tryz.prog.elem 223)):=by kernel_rfl
@[go_sem] theorem idx_words (T:TypeId) (b o:Nat) (x:Int):oM Tryz.prog (.indexAddr 202 (.tmp 0) (.tmp 1)) T [.pointer (some ⟨b,o,none⟩),.int .i64 x] = onM (0 ≤ x ∧ x < (8:Nat)) (.pointer (some ⟨b,o + x.toNat,none⟩)):=
 oM_idx_arr _ un_words (by kernel_rfl) (by decide) (fun w=>by kernel_rfl) T b o x
@[go_sem] theorem idx_64 (T:TypeId) (b o:Nat) (x:Int):oM Tryz.prog (.indexAddr 223 (.tmp 0) (.tmp 1)) T [.pointer (some ⟨b,o,none⟩),.int .i64 x] = onM (0 ≤ x ∧ x < (64:Nat)) (.pointer (some ⟨b,o + x.toNat,none⟩)):=
 oM_idx_arr _ un_64 (by kernel_rfl) (by decide) (fun w=>by kernel_rfl) T b o x
theorem build_first:oM Tryz.prog (Go.Op.build 202 #[(0,(.tmp 0)),(1,(.tmp 1)),(2,(.tmp 2)),(3,(.tmp 3)),(4,(.tmp 4)),(5,(.tmp 5)),(6,(.tmp 6)),(7,(.tmp 7))]) 202 [(.int .u32 1779033703),(.int .u32 3144134277),(.int .u32 1013904242),(.int .u32 2773480762),(.int .u32 1359893119),(.int .u32 2600822924),(.int .u32 528734635),(.int .u32 1541459225)] = pureM (stV first):=by
 funext K w
 kernel_rfl
theorem first_ok (k:∀ w',Below w.heap.size w w' → K (stV first) w'):callM Tryz.prog 184 #[] K w:=by
 apply sh_184_ok
 unfold sh_184
 refine arr_alloc al_words fun g W hb hg hh=>?_
 rw [build_first]
 refine pureM_in ?_
 refine arr_store sz_words (xs:=ws first.list) rfl rfl (ws_one _) hh rfl (fun W2 hg2 hh=>?_)
 exact arr_ret hh un_words rfl (by kernel_rfl) (k _ (grown_below hb hg2 hg))
theorem build_table:∀ K w,oM Tryz.prog (Go.Op.build 223 ((List.range 64).map fun i=>(i,Operand.tmp i)).toArray) 223 (ws consts) K w = pureM (.agg (ws consts).toArray) K w:=by
 intro K w
 kernel_rfl
theorem table_ok (k:∀ w',Below w.heap.size w w' → K (.agg (ws consts).toArray) w'):callM Tryz.prog 206 #[] K w:=by
 apply sh_206_ok
 unfold sh_206
 refine arr_alloc al_64 fun g W hb hg hh=>?_
 refine (build_table _ W).symm ▸ ?_
 refine pureM_in ?_
 refine arr_store sz_64 (xs:=ws consts) rfl rfl (ws_one _) hh rfl (fun W2 hg2 hh=>?_)
 exact arr_ret hh un_64 rfl (by kernel_rfl) (k _ (grown_below hb hg2 hg))
def ByR (w:World) (b o:Nat) (l:List UInt8):Prop:=b < w.heap.size ∧ ∀ i,i < l.length → w.cell? ⟨b,o + i,none⟩ = some (.int .u8 ((l.getD i 0).toNat:Int))
theorem ByR.next {w w':World} {b o:Nat} {l:List UInt8} (h:ByR w b o l) (hb:Below w.heap.size w w'):ByR w' b o l:=
 ⟨Nat.lt_of_lt_of_le h.1 hb.size,fun i hi=>by rw [hb.cell h.1]; exact h.2 i hi⟩
theorem conv_u8 (T:TypeId) (x:UInt8):oM Tryz.prog (.convert 5 200 (.tmp 0)) T [.int .u8 (x.toNat:Int)] = pureM (w32 (w8 x)):=by
 funext K w
 have e:IntKind.u32.wrap (x.toNat:Int) = ((w8 x).toNat:Int):=by
  have:=x.toNat_lt
  rw [IntKind.wrap_u32]
  unfold w8
  rw [BitVec.toNat_ofNat]
  omega
 have e2:(convert 5 200 (.int .u8 (x.toNat:Int))).run Tryz.prog w = .ok (.int .u32 (IntKind.u32.wrap (x.toNat:Int))) w:=by kernel_rfl
 rw [oM_convert,e2,e]
 rfl
end
end Go.Proofs
namespace Go.Proofs
open Go Go.Sh Go.RowKit ShaSpec
section
variable {K:Value → World → Prop} {w:World}
@[go_sem] theorem idx_bytes (T:TypeId) (b o n c:Nat) (x:Int):oM Tryz.prog (.indexAddr 181 (.tmp 0) (.tmp 1)) T [.slice (some ⟨b,o,none⟩) n c,.int .i64 x] = onM (0 ≤ x ∧ x < n) (.pointer (some ⟨b,o + x.toNat,none⟩)):=by
 funext K w
 rw [oM_indexAddr,run_indexAt_slice (h:=by kernel_rfl)]
 have hs:(sizeOf (Tryz.prog.elem 181)).run Tryz.prog w = .ok 1 w:=by kernel_rfl
 by_cases hi:0 ≤ x ∧ x < n
 ·rw [if_pos hi,hs]
  simp only [Result.andThen,add_none,Nat.mul_one,rM_ok]
  exact propext ⟨fun h=>⟨hi,h⟩,fun h=>h.2⟩
 ·rw [if_neg hi]
  obtain ⟨e',w',he⟩:=halts Value Tryz.prog .i64 x n .index w
  rw [he]
  exact propext ⟨fun h=>h.elim,fun h=>hi h.1⟩
theorem shl24 (t t' T:TypeId) (x:W):oM Tryz.prog (.binOp .shl t (.tmp 0) (.tmp 1) t') T [w32 x,.int .u64 24] = pureM (w32 (x <<< 24)):=wshl t t' T .u64 x 24 (by omega)
theorem shl16 (t t' T:TypeId) (x:W):oM Tryz.prog (.binOp .shl t (.tmp 0) (.tmp 1) t') T [w32 x,.int .u64 16] = pureM (w32 (x <<< 16)):=wshl t t' T .u64 x 16 (by omega)
theorem shl8 (t t' T:TypeId) (x:W):oM Tryz.prog (.binOp .shl t (.tmp 0) (.tmp 1) t') T [w32 x,.int .u64 8] = pureM (w32 (x <<< 8)):=wshl t t' T .u64 x 8 (by omega)
theorem shr3 (t t' T:TypeId) (x:W):oM Tryz.prog (.binOp .shr t (.tmp 0) (.tmp 1) t') T [w32 x,.int .u64 3] = pureM (w32 (x >>> 3)):=wshr t t' T .u64 x 3 (by omega)
theorem shr10 (t t' T:TypeId) (x:W):oM Tryz.prog (.binOp .shr t (.tmp 0) (.tmp 1) t') T [w32 x,.int .u64 10] = pureM (w32 (x >>> 10)):=wshr t t' T .u64 x 10 (by omega)
theorem shr24 (t t' T:TypeId) (x:W):oM Tryz.prog (.binOp .shr t (.tmp 0) (.tmp 1) t') T [w32 x,.int .u64 24] = pureM (w32 (x >>> 24)):=wshr t t' T .u64 x 24 (by omega)
theorem shr16 (t t' T:TypeId) (x:W):oM Tryz.prog (.binOp .shr t (.tmp 0) (.tmp 1) t') T [w32 x,.int .u64 16] = pureM (w32 (x >>> 16)):=wshr t t' T .u64 x 16 (by omega)
theorem shr8 (t t' T:TypeId) (x:W):oM Tryz.prog (.binOp .shr t (.tmp 0) (.tmp 1) t') T [w32 x,.int .u64 8] = pureM (w32 (x >>> 8)):=wshr t t' T .u64 x 8 (by omega)
theorem rot6 (x:W) (h:K (w32 (rotr x 6)) w):callM Tryz.prog 207 #[w32 x,.int .i64 (-6)] K w:=rotl_ok x 6 (by omega) (by omega) h
theorem rot11 (x:W) (h:K (w32 (rotr x 11)) w):callM Tryz.prog 207 #[w32 x,.int .i64 (-11)] K w:=rotl_ok x 11 (by omega) (by omega) h
theorem rot25 (x:W) (h:K (w32 (rotr x 25)) w):callM Tryz.prog 207 #[w32 x,.int .i64 (-25)] K w:=rotl_ok x 25 (by omega) (by omega) h
theorem rot2 (x:W) (h:K (w32 (rotr x 2)) w):callM Tryz.prog 207 #[w32 x,.int .i64 (-2)] K w:=rotl_ok x 2 (by omega) (by omega) h
theorem rot13 (x:W) (h:K (w32 (rotr x 13)) w):callM Tryz.prog 207 #[w32 x,.int .i64 (-13)] K w:=rotl_ok x 13 (by omega) (by omega) h
theorem rot22 (x:W) (h:K (w32 (rotr x 22)) w):callM Tryz.prog 207 #[w32 x,.int .i64 (-22)] K w:=rotl_ok x 22 (by omega) (by omega) h
theorem rot7 (x:W) (h:K (w32 (rotr x 7)) w):callM Tryz.prog 207 #[w32 x,.int .i64 (-7)] K w:=rotl_ok x 7 (by omega) (by omega) h
theorem rot18 (x:W) (h:K (w32 (rotr x 18)) w):callM Tryz.prog 207 #[w32 x,.int .i64 (-18)] K w:=rotl_ok x 18 (by omega) (by omega) h
theorem rot17 (x:W) (h:K (w32 (rotr x 17)) w):callM Tryz.prog 207 #[w32 x,.int .i64 (-17)] K w:=rotl_ok x 17 (by omega) (by omega) h
theorem rot19 (x:W) (h:K (w32 (rotr x 19)) w):callM Tryz.prog 207 #[w32 x,.int .i64 (-19)] K w:=rotl_ok x 19 (by omega) (by omega) h
def schL (b:List UInt8) (k:Nat):List W:=sched b k ++ List.replicate (64 - k) 0
theorem schL_length (b:List UInt8) (k:Nat) (hk:k ≤ 64):(schL b k).length = 64:=by simp [schL,sched_length]; omega
theorem schL_next (b:List UInt8) (k:Nat) (hk:k < 64):(schL b k).set k (nextW b (sched b k) k) = schL b (k + 1):=by
 unfold schL
 rw [List.set_append_right _ _ (by rw [sched_length]; omega),sched_length,Nat.sub_self]
 obtain ⟨m,hm⟩:∃ m,64 - k = m + 1:=⟨63 - k,by omega⟩
 rw [hm,List.replicate_succ,List.set_cons_zero,show 64 - (k + 1) = m by omega]
 simp [sched]
structure SchI (b:List UInt8) (g:Nat) (w0:World) (k:Nat) (w':World):Prop where
 below:Below w0.heap.size w0 w'
 holds:Holds w' g 223 (ws (schL b k))
structure SchC (b:List UInt8) (g:Nat) (w0:World) (k:Nat) (w':World):Prop where
 one:Below w0.heap.size w0 w'
 two:∀ j,j < k → w'.cell? ⟨g,j,none⟩ = some (w32 (at' (sched b k) j))
theorem SchC.less {b:List UInt8} {g:Nat} {w0 w':World} {k:Nat} (h:SchC b g w0 (k + 1) w'):SchC b g w0 k w':=by
 refine ⟨h.one,fun j hj=>?_⟩
 rw [h.two j (by omega)]
 have e:at' (sched b (k + 1)) j = at' (sched b k) j:=by
  show (sched b k ++ [nextW b (sched b k) k]).getD j 0 = (sched b k).getD j 0
  rw [List.getD_eq_getElem?_getD,List.getElem?_append_left (by rw [sched_length]; omega),← List.getD_eq_getElem?_getD]
 rw [e]
theorem schL_at (b:List UInt8) (k j:Nat) (hj:j < k):(schL b k).getD j 0 = at' (sched b k) j:=by
 unfold schL at'
 rw [List.getD_eq_getElem?_getD,List.getElem?_append_left (by rw [sched_length]; omega),← List.getD_eq_getElem?_getD]
theorem SchI.c {b:List UInt8} {g:Nat} {w0 w':World} {k:Nat} (hk:k ≤ 64) (h:SchI b g w0 k w'):SchC b g w0 k w':=by
 refine ⟨h.below,fun j hj=>?_⟩
 have hl:=schL_length b k hk
 rw [h.holds.cell j (by simp [hl]; omega),← schL_at b k j hj]
 simp [List.getD_eq_getElem?_getD,hl,show j < 64 by omega]
def SchJ (b:List UInt8) (g:Nat) (w0:World) (l:List Value) (w':World):Prop:=∃ (v0 v1 v2 v3 v4:Value) (k:Nat),l = [v0,v1,v2,v3,v4,.int .i64 (k:Int)] ∧ k ≤ 64 ∧ SchI b g w0 k w'
def schMu (l:List Value) (_:World):Nat:=match l with | [_,_,_,_,_,.int _ i]=>64 - i.toNat | _=>0
theorem schMu_eq (a b c d e:Value) (q:IntKind) (i:Int) (w:World):schMu [a,b,c,d,e,.int q i] w = 64 - i.toNat:=rfl
theorem SchI.drew {b:List UInt8} {g:Nat} {w0 w':World} {k:Nat} (h:SchI b g w0 k w'):SchI b g w0 k { w' with drawn:=w'.drawn + 1 }:=
 ⟨h.below.on .drawn,h.holds.next .drawn⟩
theorem SchI.set {b:List UInt8} {g:Nat} {w0 w' W:World} {k:Nat} (h:SchI b g w0 k w') (h0:w0.heap.size ≤ g) (hk:k < 64) (hg:w'.grownBy W (some g)) (hh:Holds W g 223 ((ws (schL b k)).set k (w32 (nextW b (sched b k) k)))):SchI b g w0 (k + 1) W:=by
 refine ⟨grown_below h.below hg h0,?_⟩
 rw [← schL_next b k hk]
 unfold ws at hh ⊢
 rw [List.map_set]
 exact hh
theorem schedule_ok (b:List UInt8) {B o c:Nat} (hl:b.length = 64) (hb:ByR w B o b) (k:∀ w',Below w.heap.size w w' → K (.agg (ws (sched b 64)).toArray) w'):callM Tryz.prog 205 #[.slice (some ⟨B,o,none⟩) 64 c] K w:=by
 apply sh_205_ok
 unfold sh_205
 refine arr_alloc al_64 fun g W hbW hgW hh=>?_
 refine ⟨SchJ b g w,schMu,⟨_,_,_,_,_,0,rfl,by omega,hbW,hh⟩,?_⟩
 clear hh hbW W
 rintro _ _ w1 ⟨v0,v1,v2,v3,v4,i,rfl,hi,hI⟩
 have hc:=(hI.c hi)
 by_cases hi64:i < 64
 ·refine Xa0 ?_
  refine ⟨fun _ w'=>SchI b g w (i + 1) w',?_,?_⟩
  ·by_cases h16:i < 16
   ·refine Xa0 ?_
    refine ⟨fun w'=>Below w.heap.size w w',hI.drew.below,?_⟩
    have hI:=hI.drew
    have cb:∀ j,j < 64 → ∀ w',Below w.heap.size w w' → w'.cell? ⟨B,o + j,none⟩ = some (.int .u8 ((b.getD j 0).toNat:Int)):=fun j hj w' hw=>(hb.next hw).2 j (by omega)
    have t1:(4 * (i:Int)).toNat = 4 * i:=by omega
    have t2:(4 * (i:Int) + 1).toNat = 4 * i + 1:=by omega
    have t3:(4 * (i:Int) + 2).toNat = 4 * i + 2:=by omega
    have t4:(4 * (i:Int) + 3).toNat = 4 * i + 3:=by omega
    have c1:=cb (4 * i) (by omega)
    have c2:=cb (4 * i + 1) (by omega)
    have c3:=cb (4 * i + 2) (by omega)
    have c4:=cb (4 * i + 3) (by omega)
    have w1:IntKind.i64.wrap (4 * (i:Int)) = 4 * i:=wrapI64 _ (by omega) (by omega)
    have w2:IntKind.i64.wrap (4 * (i:Int) + 1) = 4 * i + 1:=wrapI64 _ (by omega) (by omega)
    have w3:IntKind.i64.wrap (4 * (i:Int) + 2) = 4 * i + 2:=wrapI64 _ (by omega) (by omega)
    have w4:IntKind.i64.wrap (4 * (i:Int) + 3) = 4 * i + 3:=wrapI64 _ (by omega) (by omega)
    refine Xf (fun W0 hW0=>An4 (c1 _ hW0) (c2 _ hW0) (c3 _ hW0) (c4 _ hW0)) (An13 @w1 @w2 @w3 @w4 @t1 @t2 @t3 @t4 @conv_u8 @shl24 @shl16 @shl8 @wor) ?_
    have en:nextW b (sched b i) i = w8 (b[4 * i]?.getD 0) <<< 24 ||| w8 (b[4 * i + 1]?.getD 0) <<< 16 ||| w8 (b[4 * i + 2]?.getD 0) <<< 8 ||| w8 (b[4 * i + 3]?.getD 0):=by
     unfold nextW word
     rw [if_pos h16]
     simp only [List.getD_eq_getElem?_getD]
    rw [← en]
    refine arr_set sz_u32 rfl rfl hI.holds (by simp [schL_length b i hi,hi64]) (fun W hg2 hh=>?_)
    have hI2:=hI.set hgW hi64 hg2 hh
    exact ⟨hI2.below,hI2⟩
   ·refine Xa0 ?_
    have hI:=hI.drew
    refine ⟨fun w'=>w' = { w1 with drawn:=w1.drawn + 1 },rfl,?_⟩
    generalize ({ w1 with drawn:=w1.drawn + 1 }:World) = w2 at hI ⊢
    have hc:=hI.c hi
    have w1:IntKind.i64.wrap ((i:Int) - 15) = (i:Int) - 15:=wrapI64 _ (by omega) (by omega)
    have w2:IntKind.i64.wrap ((i:Int) - 2) = (i:Int) - 2:=wrapI64 _ (by omega) (by omega)
    have w3:IntKind.i64.wrap ((i:Int) - 16) = (i:Int) - 16:=wrapI64 _ (by omega) (by omega)
    have w4:IntKind.i64.wrap ((i:Int) - 7) = (i:Int) - 7:=wrapI64 _ (by omega) (by omega)
    have t1:((i:Int) - 15).toNat = i - 15:=by omega
    have t2:((i:Int) - 2).toNat = i - 2:=by omega
    have t3:((i:Int) - 16).toNat = i - 16:=by omega
    have t4:((i:Int) - 7).toNat = i - 7:=by omega
    have c1:=hc.two (i - 15) (by omega)
    have c2:=hc.two (i - 2) (by omega)
    refine Xg (An4 @t1 @t2 @c1 @c2) ?_
    repeat (any_goals (first
    | (with_reducible refine rot7 _ ?_) | (with_reducible refine rot18 _ ?_) | (with_reducible refine rot17 _ ?_) | (with_reducible refine rot19 _ ?_)
    | ((with_reducible refine oM_gen fun Kv hK=>?_); simp [go_sem,shr3,shr10,wxor]; refine hK _ _ ?_; clear hK Kv)))
    refine ⟨SchC b g w i,hI.drew.c hi,?_⟩
    have hI:=hI.drew
    repeat (any_goals (first
    | (with_reducible refine pureH_in ?_)
    | ((with_reducible refine idOH ?_); (with_reducible refine oH_of ⟨_,rfl⟩ (fun W0 hW0=>by (refine oM_gen (fun Kv hK=>?_)); simp [go_sem,w3,w4,t3,t4,hW0.two (i - 16) (by omega),hW0.two (i - 7) (by omega),wadd]; (first | exact hK _ _ ⟨rfl,rfl⟩ | exact ⟨by omega,hK _ _ ⟨rfl,rfl⟩⟩)) ?_))))
    have en:nextW b (sched b i) i = at' (sched b i) (i - 16) + sig0 (at' (sched b i) (i - 15)) + at' (sched b i) (i - 7) + sig1 (at' (sched b i) (i - 2)):=by
     unfold nextW
     rw [if_neg h16]
    unfold sig0 sig1 at en
    rw [← en]
    refine arr_set sz_u32 rfl rfl hI.holds (by simp [schL_length b i hi,hi64]) (fun W hg2 hh=>?_)
    have hI2:=hI.set hgW hi64 hg2 hh
    exact ⟨(hI2.c hi64).less,hI2⟩
  ·rintro l u w2 hI2
   refine Xa0 ?_
   refine ⟨⟨_,_,_,_,_,i + 1,rfl,hi64,hI2⟩,?_⟩
   simp only [schMu_eq]; omega
 ·obtain rfl:i = 64:=by omega
  refine Xa0 ?_
  have hh:=hI.holds
  have e64:schL b 64 = sched b 64:=by simp [schL]
  rw [e64] at hh
  have hl64:=sched_length b 64
  generalize sched b 64 = sl at *
  refine arr_load hh un_64 rfl (by rw [List.length_map,hl64]; kernel_rfl) ?_
  refine arr_store sz_64 (xs:=ws sl) rfl (by rw [List.length_map,hl64]) (ws_one _) hh (by rw [List.length_map,hl64]) (fun W hg2 hh=>?_)
  exact arr_ret hh un_64 rfl (by rw [List.length_map,hl64]; kernel_rfl) (k _ (grown_below hI.below hg2 hgW))
end
end Go.Proofs
namespace Go.Proofs
open Go Go.Sh Go.RowKit ShaSpec
section
variable {K:Value → World → Prop} {w:World}
theorem build8 (T:TypeId) (a b c d e f g h:W):oM Tryz.prog (Go.Op.build 202 #[(0,(.tmp 0)),(1,(.tmp 1)),(2,(.tmp 2)),(3,(.tmp 3)),(4,(.tmp 4)),(5,(.tmp 5)),(6,(.tmp 6)),(7,(.tmp 7))]) T [w32 a,w32 b,w32 c,w32 d,w32 e,w32 f,w32 g,w32 h] = pureM (stV ⟨a,b,c,d,e,f,g,h⟩):=by
 funext K w
 kernel_rfl
structure MixI (w0:World) (gh gr gs gt gv:Nat) (s:St) (sl:List W) (v:List W) (w':World):Prop where
 below:Below w0.heap.size w0 w'
 h:Holds w' gh 202 (ws s.list)
 r:∃ zs,zs.length = 8 ∧ Holds w' gr 202 zs
 sch:Holds w' gs 223 (ws sl)
 tab:Holds w' gt 223 (ws consts)
 v:Holds w' gv 202 (ws v)
variable {w0 w':World} {gh gr gs gt gv:Nat} {s:St} {sl v:List W}
theorem MixI.next {w2:World} (h:MixI w0 gh gr gs gt gv s sl v w') (hb:Below w'.heap.size w' w2):MixI w0 gh gr gs gt gv s sl v w2:=
 ⟨h.below.on hb,h.h.next hb,h.r.imp fun _ h=>⟨h.1,h.2.next hb⟩,h.sch.next hb,h.tab.next hb,h.v.next hb⟩
theorem MixI.drew (h:MixI w0 gh gr gs gt gv s sl v w'):MixI w0 gh gr gs gt gv s sl v { w' with drawn:=w'.drawn + 1 }:=h.next .drawn
structure Apart (n gh gr gs gt gv:Nat):Prop where
 h:gh ≠ gv
 r:gr ≠ gv
 s:gs ≠ gv
 t:gt ≠ gv
 v:n ≤ gv
 r0:n ≤ gr
theorem MixI.wrote {W2:World} {u:List W} (ha:Apart w0.heap.size gh gr gs gt gv) (h:MixI w0 gh gr gs gt gv s sl v w') (hg:w'.grownBy W2 (some gv)) (hh:Holds W2 gv 202 (ws u)):MixI w0 gh gr gs gt gv s sl u W2:=
 ⟨grown_below h.below hg ha.v,h.h.other hg ha.h,h.r.imp fun _ h=>⟨h.1,h.2.other hg ha.r⟩,h.sch.other hg ha.s,h.tab.other hg ha.t,hh⟩
theorem holds_at {g:Nat} {T:TypeId} {l:List W} (h:Holds w' g T (ws l)) (i:Nat) (hi:i < l.length):w'.cell? ⟨g,i,none⟩ = some (w32 (at' l i)):=by
 rw [h.cell i (by simpa using hi)]
 simp [at',List.getD_eq_getElem?_getD,hi]
def MixJ (w0:World) (gh gr gs gt gv:Nat) (s:St) (b:List UInt8) (sl:List W) (l:List Value) (w':World):Prop:=∃ (v0 v1 v2 v3 v4:Value) (k:Nat),l = [v0,v1,v2,v3,v4,.int .i64 (k:Int)] ∧ k ≤ 64 ∧ MixI w0 gh gr gs gt gv s sl (rounds b s k).list w'
def Zr (St:World → Prop) (j:Nat) (w':World):Prop:=j = 0 → St w'
theorem zGet {St:World → Prop} {w':World} (h:upto (Zr St) 0 w'):St w':=by
 obtain ⟨s,hs,hc⟩:=h
 exact hc (by omega)
def adL (v s:St) (i:Nat):List W:=(List.range 8).map fun j=>if j < i then at' v.list j + at' s.list j else at' v.list j
theorem adL_length (v s:St) (i:Nat):(adL v s i).length = 8:=by simp [adL]
theorem adL_at (v s:St) {i:Nat} (hi:i < 8):at' (adL v s i) i = at' v.list i:=by
 unfold adL
 conv=>lhs; unfold at'
 rw [List.getD_eq_getElem?_getD,List.getElem?_map,List.getElem?_range hi]
 simp [at',List.getD_eq_getElem?_getD]
theorem adL_set (v s:St) {i:Nat} (hi:i < 8):(adL v s i).set i (at' v.list i + at' s.list i) = adL v s (i + 1):=by
 unfold adL
 apply List.ext_getElem
 ·simp
 ·intro j h1 h2
  rw [List.getElem_set]
  simp only [List.getElem_map,List.getElem_range]
  by_cases hji:i = j
  ·subst hji; simp
  ·rw [if_neg hji]
   by_cases hlt:j < i
   ·rw [if_pos hlt,if_pos (by omega)]
   ·rw [if_neg hlt,if_neg (by omega)]
def AdJ (w0:World) (gh gr gs gt gv:Nat) (s:St) (sl:List W) (v:St) (l:List Value) (w':World):Prop:=∃ (v0:Value) (k:Nat),l = [v0,.int .i64 (k:Int)] ∧ k ≤ 8 ∧ MixI w0 gh gr gs gt gv s sl (adL v s k) w'
def adMu (l:List Value) (_:World):Nat:=match l with | [_,.int _ i]=>8 - i.toNat | _=>0
theorem adMu_eq (a:Value) (q:IntKind) (i:Int) (w:World):adMu [a,.int q i] w = 8 - i.toNat:=rfl
theorem rotQ6 {C:World → Prop} {KQ:Value → Prop} (x:W) (u:Unit) (k:KQ (w32 (rotr x 6))):callQ Tryz.prog 207 #[w32 x,.int .i64 (-6)] C KQ:=callQ_of (v:=w32 (rotr x 6)) (fun w hw=>rot6 x ⟨rfl,hw⟩) k
theorem rotQ11 {C:World → Prop} {KQ:Value → Prop} (x:W) (u:Unit) (k:KQ (w32 (rotr x 11))):callQ Tryz.prog 207 #[w32 x,.int .i64 (-11)] C KQ:=callQ_of (v:=w32 (rotr x 11)) (fun w hw=>rot11 x ⟨rfl,hw⟩) k
theorem rotQ25 {C:World → Prop} {KQ:Value → Prop} (x:W) (u:Unit) (k:KQ (w32 (rotr x 25))):callQ Tryz.prog 207 #[w32 x,.int .i64 (-25)] C KQ:=callQ_of (v:=w32 (rotr x 25)) (fun w hw=>rot25 x ⟨rfl,hw⟩) k
theorem rotQ2 {C:World → Prop} {KQ:Value → Prop} (x:W) (u:Unit) (k:KQ (w32 (rotr x 2))):callQ Tryz.prog 207 #[w32 x,.int .i64 (-2)] C KQ:=callQ_of (v:=w32 (rotr x 2)) (fun w hw=>rot2 x ⟨rfl,hw⟩) k
theorem rotQ13 {C:World → Prop} {KQ:Value → Prop} (x:W) (u:Unit) (k:KQ (w32 (rotr x 13))):callQ Tryz.prog 207 #[w32 x,.int .i64 (-13)] C KQ:=callQ_of (v:=w32 (rotr x 13)) (fun w hw=>rot13 x ⟨rfl,hw⟩) k
theorem rotQ22 {C:World → Prop} {KQ:Value → Prop} (x:W) (u:Unit) (k:KQ (w32 (rotr x 22))):callQ Tryz.prog 207 #[w32 x,.int .i64 (-22)] C KQ:=callQ_of (v:=w32 (rotr x 22)) (fun w hw=>rot22 x ⟨rfl,hw⟩) k
theorem schedule_ok' (b:List UInt8) {B o c:Nat} (hl:b.length = 64) (hb:ByR w B o b) (k:∀ sl w',sl = sched b 64 → Below w.heap.size w w' → K (.agg (ws sl).toArray) w'):callM Tryz.prog 205 #[.slice (some ⟨B,o,none⟩) 64 c] K w:=
 schedule_ok b hl hb fun w' h=>k _ w' rfl h
theorem mix_ok (s:St) (b:List UInt8) {B o c:Nat} (hl:b.length = 64) (hb:ByR w B o b) (k:∀ w',Below w.heap.size w w' → K (stV (mix s b)) w'):callM Tryz.prog 185 #[stV s,.slice (some ⟨B,o,none⟩) 64 c] K w:=by
 apply sh_185_ok
 unfold sh_185
 refine arr_box (cs:=ws s.list) rfl fun gh w1 hb1 hg1 h1=>?_
 refine arr_alloc al_words fun gr w2 hb2 hg2 h2=>?_
 refine schedule_ok' b hl ((hb.next hb1).next hb2) fun sl w3 hsl hb3=>?_
 refine table_ok fun w4 hb4=>?_
 refine arr_alloc al_64 fun gs w5 hb5 hg5 h5=>?_
 refine arr_alloc al_64 fun gt w6 hb6 hg6 h6=>?_
 have hl64:sl.length = 64:=by rw [hsl]; exact sched_length b 64
 refine arr_store sz_64 (xs:=ws (sl)) rfl (by rw [List.length_map,hl64]) (ws_one _) (h5.next hb6) rfl (fun w7 hg7 h7=>?_)
 have l5:=h5.lt
 have l2:=h2.lt
 have l1:=h1.lt
 have z2:=hb2.size
 have z3:=hb3.size
 have z4:=hb4.size
 have z5:=hb5.size
 have z6:=hb6.size
 have h6':=h6.other hg7 (show gt ≠ gs by omega)
 have z7:=hg7.size
 have l6:=h6.lt
 refine arr_store sz_64 (xs:=ws consts) rfl rfl (ws_one _) h6' rfl (fun w8 hg8 h8=>?_)
 have z8:=hg8.size
 have h7':=h7.other hg8 (show gs ≠ gt by omega)
 have q1:Holds w8 gh 202 (ws s.list):=(((((((h1.next hb2).next hb3).next hb4).next hb5).next hb6).other hg7 (by omega)).other hg8 (by omega))
 have q2:Holds w8 gr 202 (ws (List.replicate 8 0)):=((((((h2.next hb3).next hb4).next hb5).next hb6).other hg7 (by omega)).other hg8 (by omega))
 have qb:Below w.heap.size w w8:=grown_below (grown_below (((((hb1.on hb2).on hb3).on hb4).on hb5).on hb6) hg7 (by have:=hb1.size; omega)) hg8 (by have:=hb1.size; omega)
 refine arr_load q1 un_words rfl (by kernel_rfl) ?_
 refine arr_alloc al_words fun gv w9 hb9 hg9 h9=>?_
 refine arr_store sz_words (xs:=ws s.list) rfl rfl (ws_one _) h9 rfl (fun w10 hg10 h10=>?_)
 have hA:Apart w.heap.size gh gr gs gt gv:=by
  have:=hb1.size
  constructor <;> omega
 have hI:MixI w gh gr gs gt gv s (sl) s.list w10:=
  ⟨grown_below (qb.on hb9) hg10 hA.v,(q1.next hb9).other hg10 hA.h,⟨_,rfl,(q2.next hb9).other hg10 hA.r⟩,(h7'.next hb9).other hg10 hA.s,(h8.next hb9).other hg10 hA.t,h10⟩
 refine ⟨MixJ w gh gr gs gt gv s b sl,schMu,⟨_,_,_,_,_,0,rfl,by omega,hI⟩,?_⟩
 clear hI h10 hg10 h9 hb9 qb q2 q1 h7' z8 h8 hg8 l6 z7 h6' z6 z5 z4 z3 z2 l1 l2 l5 h7 hg7 h6 hb6 h5 hb5 hb4 hb3 h2 hb2 h1 hb1
 rintro _ _ w1 ⟨v0,v1,v2,v3,v4,i,rfl,hi,hI⟩
 by_cases hi64:i < 64
 ·have e1:rounds b s (i + 1) = round (rounds b s i) (at' consts i) (at' sl i):=by rw [hsl]; rfl
  obtain ⟨v',e2⟩:∃ v',v' = rounds b s (i + 1):=⟨_,rfl⟩
  rw [← e2] at e1
  generalize rounds b s i = v at *
  refine Xa0 ?_
  refine ⟨fun w'=>w' = { w1 with drawn:=w1.drawn + 1 },rfl,?_⟩
  have hI:=hI.drew
  generalize ({ w1 with drawn:=w1.drawn + 1 }:World) = w2 at hI ⊢
  have c4:w2.cell? ⟨gv,4,none⟩ = some (w32 v.e):=holds_at hI.v 4 (show (4:Nat) < 8 by decide)
  repeat (any_goals (first
  | (with_reducible refine rotQ6 _ () ?_) | (with_reducible refine rotQ11 _ () ?_) | (with_reducible refine rotQ25 _ () ?_) | (with_reducible refine rotQ2 _ () ?_) | (with_reducible refine rotQ13 _ () ?_) | (with_reducible refine rotQ22 _ () ?_)
  | (with_reducible first|refine And.intro (Eq.refl (α:=World) _) ?_|refine forall_one ?_)
  | ((with_reducible refine idOQ ?_); ((with_reducible refine oQ_one ?_ ?_); exact ⟨_,rfl⟩))
  | ((with_reducible refine oM_gen fun Kv hK=>?_); simp [go_sem,c4,wxor]; refine hK _ _ ?_; clear hK Kv)))
  have hI:=hI.drew
  clear c4
  refine ⟨fun w'=>w' = { w2 with drawn:=w2.drawn + 1 },rfl,?_⟩
  generalize ({ w2 with drawn:=w2.drawn + 1 }:World) = w3 at hI ⊢
  have c4:w3.cell? ⟨gv,4,none⟩ = some (w32 v.e):=holds_at hI.v 4 (show (4:Nat) < 8 by decide)
  have c5:w3.cell? ⟨gv,5,none⟩ = some (w32 v.f):=holds_at hI.v 5 (show (5:Nat) < 8 by decide)
  have c6:w3.cell? ⟨gv,6,none⟩ = some (w32 v.g):=holds_at hI.v 6 (show (6:Nat) < 8 by decide)
  have c7:w3.cell? ⟨gv,7,none⟩ = some (w32 v.h):=holds_at hI.v 7 (show (7:Nat) < 8 by decide)
  have ck:=holds_at hI.tab i (by rw [consts_length]; exact hi64)
  have cs:=holds_at hI.sch i (by rw [hl64]; exact hi64)
  refine Xg (An9 @c4 @c5 @c6 @c7 @ck @cs @wxor @wadd @wand) ?_
  clear c4 c5 c6 c7 ck cs
  have hI:=hI.drew
  refine ⟨fun w'=>w' = { w3 with drawn:=w3.drawn + 1 },rfl,?_⟩
  generalize ({ w3 with drawn:=w3.drawn + 1 }:World) = w4 at hI ⊢
  have c0:w4.cell? ⟨gv,0,none⟩ = some (w32 v.a):=holds_at hI.v 0 (show (0:Nat) < 8 by decide)
  have c1:w4.cell? ⟨gv,1,none⟩ = some (w32 v.b):=holds_at hI.v 1 (show (1:Nat) < 8 by decide)
  have c2:w4.cell? ⟨gv,2,none⟩ = some (w32 v.c):=holds_at hI.v 2 (show (2:Nat) < 8 by decide)
  have c3:w4.cell? ⟨gv,3,none⟩ = some (w32 v.d):=holds_at hI.v 3 (show (3:Nat) < 8 by decide)
  have c4:w4.cell? ⟨gv,4,none⟩ = some (w32 v.e):=holds_at hI.v 4 (show (4:Nat) < 8 by decide)
  have c5:w4.cell? ⟨gv,5,none⟩ = some (w32 v.f):=holds_at hI.v 5 (show (5:Nat) < 8 by decide)
  have c6:w4.cell? ⟨gv,6,none⟩ = some (w32 v.g):=holds_at hI.v 6 (show (6:Nat) < 8 by decide)
  repeat (any_goals (first
  | (with_reducible refine rotQ6 _ () ?_) | (with_reducible refine rotQ11 _ () ?_) | (with_reducible refine rotQ25 _ () ?_) | (with_reducible refine rotQ2 _ () ?_) | (with_reducible refine rotQ13 _ () ?_) | (with_reducible refine rotQ22 _ () ?_)
  | (with_reducible first|refine And.intro (Eq.refl (α:=World) _) ?_|refine forall_one ?_)
  | ((with_reducible refine idOQ ?_); ((with_reducible refine oQ_one ?_ ?_); exact ⟨_,rfl⟩))
  | ((with_reducible refine oM_gen fun Kv hK=>?_); simp [go_sem,c0,c1,c2,c3,c4,c5,c6,wxor,wadd,wand,wor,build8]; refine hK _ _ ?_; clear hK Kv)))
  refine arr_store sz_words (xs:=ws v'.list) (by rw [e1]; rfl) rfl (ws_one _) hI.v rfl (fun w5 hg5 h5=>?_)
  have hI:=hI.wrote hA hg5 h5
  refine Xa0 ?_
  refine ⟨⟨_,_,_,_,_,i + 1,rfl,hi64,by rw [← e2]; exact hI⟩,?_⟩
  simp only [schMu_eq]; omega
 ·obtain rfl:i = 64:=by omega
  have em:stV (mix s b) = .agg (ws (adL (rounds b s 64) s 8)).toArray:=rfl
  rw [em] at k
  clear em
  generalize rounds b s 64 = v at *
  refine Xa0 ?_
  refine ⟨AdJ w gh gr gs gt gv s sl v,adMu,⟨_,0,rfl,by omega,hI⟩,?_⟩
  clear hI
  rintro _ _ w2 ⟨v0,j,rfl,hj,hI⟩
  by_cases hj8:j < 8
  ·refine Xa0 ?_
   have hI:=hI.drew
   have cv:=holds_at hI.v j (by rw [adL_length]; exact hj8)
   have ch:=holds_at hI.h j (show j < 8 from hj8)
   rw [adL_at v s hj8] at cv
   refine ⟨Zr (fun w'=>w'.cell? ⟨gv,j,none⟩ = some (w32 (at' v.list j)) ∧ w'.cell? ⟨gh,j,none⟩ = some (w32 (at' s.list j))),fun _=>⟨cv,ch⟩,?_⟩
   repeat (any_goals (first
   | (with_reducible refine pureH_in ?_)
   | ((with_reducible refine idOH ?_); (with_reducible refine oH_of ⟨_,rfl⟩ (fun W0 hW0=>by (refine oM_gen (fun Kv hK=>?_)); simp [go_sem,(zGet hW0).1,(zGet hW0).2,wadd]; (first | exact hK _ _ ⟨rfl,rfl⟩ | exact ⟨by omega,hK _ _ ⟨rfl,rfl⟩⟩)) ?_))))
   refine arr_set sz_u32 rfl rfl hI.v (by simp [adL,hj8]) (fun W hg2 hh=>?_)
   refine ⟨fun h=>by omega,?_⟩
   have hI:=hI.wrote hA hg2 (u:=adL v s (j + 1)) (by rw [← adL_set v s hj8]; unfold ws at hh ⊢; rw [List.map_set]; exact hh)
   refine Xa0 ?_
   refine ⟨⟨_,j + 1,rfl,hj8,hI⟩,?_⟩
   simp only [adMu_eq]; omega
  ·obtain rfl:j = 8:=by omega
   refine Xa0 ?_
   refine arr_load hI.v un_words rfl (by kernel_rfl) ?_
   obtain ⟨zs,hz,hr⟩:=hI.r
   refine arr_store sz_words (xs:=ws (adL v s 8)) rfl rfl (ws_one _) hr hz (fun W hg2 hh=>?_)
   exact arr_ret hh un_words rfl (by kernel_rfl) (k _ (grown_below hI.below hg2 hA.r0))
end
end Go.Proofs
namespace Go.Proofs
open Go Go.Sh Go.RowKit ShaSpec
section
variable {K:Value → World → Prop} {w w0:World}
structure Buf (w0:World) (v:Value) (l:List UInt8) (w:World):Prop where
 below:Below w0.heap.size w0 w
 row:BufM w 5 v l
 own:∀ i,v.ownBlock = some i → w0.heap.size ≤ i
theorem Buf.next {v:Value} {l:List UInt8} {w':World} (h:Buf w0 v l w) (hb:Below w.heap.size w w'):Buf w0 v l w':=by
 refine ⟨h.below.on hb,h.row.keep (fun i hi=>?_),h.own⟩
 obtain ⟨g,c,rfl,hlt⟩:=h.row.shape
 cases hi
 exact hb.block g hlt
def lo8 (x:W):UInt8:=UInt8.ofNat x.toNat
theorem conv_w8 (T:TypeId) (x:W):oM Tryz.prog (.convert 200 5 (.tmp 0)) T [w32 x] = pureM (.int .u8 ((lo8 x).toNat:Int)):=by
 unfold lo8
 funext K w
 have e:IntKind.u8.wrap (x.toNat:Int) = ((UInt8.ofNat x.toNat).toNat:Int):=by
  rw [IntKind.wrap_u8,UInt8.toNat_ofNat']
  omega
 have e2:(convert 200 5 (w32 x)).run Tryz.prog w = .ok (.int .u8 (IntKind.u8.wrap (x.toNat:Int))) w:=by kernel_rfl
 rw [oM_convert,e2,e]
 rfl
theorem idx_st (T:TypeId) (s:St) (i:Nat) (hi:i < 8):oM Tryz.prog (.index 202 (.tmp 0) (.tmp 1)) T [stV s,.int .i64 (i:Int)] = pureM (w32 (at' s.list i)):=by
 have e:∀ w,(Instr.index 202 (stV s) (.int .i64 (i:Int))).run Tryz.prog w = .ok (w32 (at' s.list i)) w:=by
  intro w
  rcases i with _ | _ | _ | _ | _ | _ | _ | _ | i
  all_goals first | omega | kernel_rfl
 funext K w
 rw [rM_of (S:=Instr.index 202 (stV s) (.int .i64 (i:Int))) rfl,e]
 rfl
theorem mkB4 {T:TypeId} (a b c d:UInt8) (k:∀ g W,Below w.heap.size w W → (∀ j u,(Lib.byteCells [a,b,c,d])[j]? = some u → W.cell? ⟨g,j,none⟩ = some u) → K (.slice (some ⟨g,0,none⟩) 4 4) W) :
  oM Tryz.prog (.buildSlice 181 4 #[(0,.tmp 0),(1,.tmp 1),(2,.tmp 2),(3,.tmp 3)]) T [.int .u8 (a.toNat:Int),.int .u8 (b.toNat:Int),.int .u8 (c.toNat:Int),.int .u8 (d.toNat:Int)] K w:=by
 have e:(Instr.buildSlice 181 4 #[(0,.int .u8 (a.toNat:Int)),(1,.int .u8 (b.toNat:Int)),(2,.int .u8 (c.toNat:Int)),(3,.int .u8 (d.toNat:Int))]).run Tryz.prog w = .ok (.slice (some ⟨w.heap.size,0,none⟩) 4 4) (w.alloc (.cells (Lib.byteCells [a,b,c,d]).toArray 5)):=by kernel_rfl
 rw [rM_of (S:=Instr.buildSlice 181 4 #[(0,.int .u8 (a.toNat:Int)),(1,.int .u8 (b.toNat:Int)),(2,.int .u8 (c.toNat:Int)),(3,.int .u8 (d.toNat:Int))]) (by simp [xop,execOp,evalL,evE]),e]
 refine k _ _ ((Below.refl _ w).alloc (Nat.le_refl _) _) (fun j u hj=>?_)
 have:=World.cell?_alloc_at (w:=w) (Lib.byteCells [a,b,c,d]).toArray 5 w.heap.size j rfl
 rw [this]
 simpa using hj
abbrev OwnB (w:World) (B:Nat) (v:Value) (l:List UInt8):Prop:=w.ownsRow B 5 1 v l.length (Lib.byteCells l)
theorem pushW {B:Nat} {T T':TypeId} {v:Value} {l:List UInt8} (a b c d:UInt8) (ho:OwnB w B v l) (hB:B ≤ w.heap.size) (hl:l.length < 1099511627776) (k:∀ v' w',OwnB w' B v' (l ++ [a,b,c,d]) → Below B w w' → K v' w') :
  oM Tryz.prog (.buildSlice 181 4 #[(0,.tmp 0),(1,.tmp 1),(2,.tmp 2),(3,.tmp 3)]) T [.int .u8 (a.toNat:Int),.int .u8 (b.toNat:Int),.int .u8 (c.toNat:Int),.int .u8 (d.toNat:Int)] (fun u w=>oM Tryz.prog (.call { callee:=.builtin .append,args:=#[.tmp 0,.tmp 1],argTypes:=#[181,181] }) T' [v,u] K w) w:=by
 refine mkB4 a b c d fun g W hb hc=>?_
 have ho2:OwnB W B v l:=owns_keep ho (fun i hi=>hb.block i (owns_own ho hi).1)
 refine append_at 181 T' 5 ((Tryz.prog.info? 5).getD default) (.int .u8 0) 1 1 (by kernel_rfl) (by kernel_rfl) (by kernel_rfl) (by kernel_rfl) (by kernel_rfl) (by kernel_rfl) (by omega) (owns_base ho2 (Nat.zero_le _)) (Lib.byteCells [a,b,c,d]) rfl (by simp) ?_ ?_ (by simp only [maxLen]; omega) (by omega) ?_
 ·rintro ad ha j u hj
  cases ha
  rw [add_none,Nat.zero_add]
  exact hc j u hj
 ·intro u hu
  simp only [Lib.byteCells,List.mem_map] at hu
  obtain ⟨x,_,rfl⟩:=hu
  rfl
 ·intro v' w' ho' hg hv
  have hbl:∀ i,v.ownBlock = some i → B ≤ i:=fun i hi=>(owns_own ho hi).2.1
  have hBW:=Nat.le_trans hB hb.size
  refine k v' w' ?_ ((hb.mono hB).grown hg hBW hbl)
  have e2:Lib.byteCells (l ++ [a,b,c,d]) = Lib.byteCells l ++ Lib.byteCells [a,b,c,d]:=by simp [Lib.byteCells]
  show w'.ownsRow B 5 1 v' (l ++ [a,b,c,d]).length (Lib.byteCells (l ++ [a,b,c,d]))
  rw [List.length_append,e2]
  refine ⟨ho'.1,ho'.2.imp id ?_⟩
  rintro ⟨g,cap,cur,rfl,hb',hr⟩
  exact ⟨g,cap,cur,rfl,(hv g rfl).elim (hbl g) (fun h=>Nat.le_trans hBW h),hr⟩
theorem toStrB {B:Nat} {T:TypeId} {v:Value} {l:List UInt8} (ho:OwnB w B v l) (hne:0 < l.length) (k:K (.string ⟨l.toArray⟩) w):oM Tryz.prog (.convert 181 9 (.tmp 0)) T [v] K w:=by
 obtain ⟨g,cap,cur,rfl,hlt,_,_,_,_,hc⟩:=owns_cells ho hne
 have:=run_convert_bytes_back (P:=Tryz.prog) w 181 9 5 ⟨g,0,none⟩ cap l (by kernel_rfl) (by kernel_rfl) (by kernel_rfl) (fun j hj=>by
  rw [add_none,Nat.zero_add]
  exact hc j _ (by simp [Lib.byteCells,hj]))
 rw [rM_of (S:=convert 181 9 (.slice (some ⟨g,0,none⟩) l.length cap)) rfl,this]
 exact k
theorem sliceTo64 {T:TypeId} {a:Option Addr} {n c:Nat} (hc:64 ≤ c) (k:K (.slice a 64 c) w):oM Tryz.prog (.slice 181 (.tmp 0) none (some (.tmp 1)) none) T [.slice a n c,.int .i64 64] K w:=
 sliceTo_at (by kernel_rfl) (sz:=1) (fun w=>by kernel_rfl) 64 hc k
theorem sliceFrom64 {T:TypeId} {g o n c:Nat} (hn:64 ≤ n) (hc:n ≤ c) (k:∀ ad,(64 < c → ad = some ⟨g,o + 64,none⟩) → K (.slice ad (n - 64) (c - 64)) w):oM Tryz.prog (.slice 181 (.tmp 0) (some (.tmp 1)) none none) T [.slice (some ⟨g,o,none⟩) n c,.int .i64 64] K w:=by
 have hs:∀ w,(sizeOf (Tryz.prog.elem 181)).run Tryz.prog w = .ok 1 w:=fun w=>by kernel_rfl
 rw [oM_sliceFrom,run_sliceAt_slice w 181 _ _ _ _ (by kernel_rfl),run_slice_l w 181 _ n c (by kernel_rfl) .i64 64 (by omega) (by omega),hs]
 simp only [Result.andThen_ok,sliced]
 refine k _ (fun h=>?_)
 rw [if_neg (show ¬ c = (64:Int).toNat by show ¬ c = 64; omega)]
 rfl
theorem ofStr (l:List UInt8) {T:TypeId} (k:∀ v w',Buf w v l w' → K v w'):oM Tryz.prog (.convert 9 181 (.tmp 0)) T [.string ⟨l.toArray⟩] K w:=by
 refine ofStr_at (e:=5) (by kernel_rfl) (by kernel_rfl) (by kernel_rfl) l (fun v w' hb hg ho hs=>k v w' ⟨(Below.refl _ _).grown hg (Nat.le_refl _) (fun i hi=>by cases hi),hb,fun i hi=>?_⟩)
 rw [ho] at hi
 cases hi
 exact Nat.le_refl _
theorem mkB1 {T:TypeId} (x:UInt8) (k:∀ g W,Below w.heap.size w W → W.cell? ⟨g,0,none⟩ = some (.int .u8 (x.toNat:Int)) → K (.slice (some ⟨g,0,none⟩) 1 1) W):oM Tryz.prog (.buildSlice 181 1 #[(0,.tmp 0)]) T [.int .u8 (x.toNat:Int)] K w:=by
 rw [oM_buildSlice1]
 have e:(Instr.buildSlice 181 1 #[(0,.int .u8 (x.toNat:Int))]).run Tryz.prog w = .ok (.slice (some ⟨w.heap.size,0,none⟩) 1 1) (w.alloc (.cells #[.int .u8 (x.toNat:Int)] 5)):=by kernel_rfl
 rw [e]
 refine k _ _ ((Below.refl _ w).alloc (Nat.le_refl _) _) ?_
 have:=World.cell?_alloc_at (w:=w) #[.int .u8 (x.toNat:Int)] 5 w.heap.size 0 rfl
 rw [this]
 rfl
theorem push {T T':TypeId} {v:Value} {l:List UInt8} (x:UInt8) {n:Int} (hx:n = (x.toNat:Int)) (h:Buf w0 v l w) (hl:l.length + 1 ≤ 1099511627776) (k:∀ v' w',Buf w0 v' (l ++ [x]) w' → K v' w') :
  oM Tryz.prog (.buildSlice 181 1 #[(0,.tmp 0)]) T [.int .u8 n] (fun u w=>oM Tryz.prog (.call { callee:=.builtin .append,args:=#[.tmp 0,.tmp 1],argTypes:=#[181,181] }) T' [v,u] K w) w:=by
 subst hx
 refine mkB1 x fun g W hb hc=>?_
 have h:=h.next hb
 refine pushB_at (e:=5) (i:=(Tryz.prog.info? 5).getD default) (by kernel_rfl) (by kernel_rfl) (by kernel_rfl) (by kernel_rfl) (by kernel_rfl) h.row hc hl (fun v' w' hb' hg hv=>k v' w' ⟨h.below.grown hg h.below.size h.own,hb',fun i hi=>?_⟩)
 rcases hv with hv | ⟨g',hv,hlt⟩
 ·exact h.own i (by rw [← hv]; exact hi)
 ·rw [hv] at hi
  cases hi
  exact Nat.le_trans h.below.size hlt
theorem bufByR {g n c:Nat} {l:List UInt8} (h:BufM w 5 (.slice (some ⟨g,0,none⟩) n c) l):ByR w g 0 l:=by
 obtain ⟨g',cap,cur,fz,hv,hg,hfz,hcs,hlc,hcell⟩:=h
 cases hv
 refine ⟨(Array.getElem?_eq_some_iff.1 hg).1,fun i hi=>?_⟩
 rw [Nat.zero_add,cell_of_block hg,hcell i hi]
 simp [List.getD_eq_getElem?_getD,hi]
theorem bufCap {g n c:Nat} {l:List UInt8} {v:Value} (h:BufM w 5 v l) (e:v = .slice (some ⟨g,0,none⟩) n c):l.length ≤ c:=by
 obtain ⟨g',cap,cur,fz,hv,hg,hfz,hcs,hlc,hcell⟩:=h
 rw [e] at hv
 cases hv
 exact hlc
theorem ByR.other {b o g:Nat} {l:List UInt8} {w':World} (h:ByR w b o l) (hg:w.grownBy w' (some g)) (hne:b ≠ g):ByR w' b o l:=
 ⟨Nat.lt_of_lt_of_le h.1 hg.size,fun i hi=>by
  rw [← h.2 i hi]
  unfold World.cell?
  rw [hg.block b h.1 (fun e=>hne (by cases e; rfl))]⟩
theorem ByR.part {b o:Nat} {l:List UInt8} (h:ByR w b o l) (i n:Nat) (hn:i + n ≤ l.length):ByR w b (o + i) ((l.drop i).take n):=by
 refine ⟨h.1,fun j hj=>?_⟩
 have hj':j < n:=by rw [List.length_take,List.length_drop] at hj; omega
 rw [Nat.add_assoc,h.2 (i + j) (by omega)]
 congr 3
 rw [List.getD_eq_getElem?_getD,List.getD_eq_getElem?_getD,List.getElem?_take_of_lt hj',List.getElem?_drop]
def BkJ (w0:World) (g gb:Nat) (p:List UInt8) (m:Nat) (R:St) (l:List Value) (w':World):Prop:=
 ∃ (ad:Option Addr) (c t:Nat) (st:St),l = [.slice ad (64 * (m - t)) c] ∧ t ≤ m ∧ 64 * (m - t) ≤ c ∧ (t < m → ad = some ⟨gb,64 * t,none⟩) ∧ Below w0.heap.size w0 w' ∧ ByR w' gb 0 p ∧ Holds w' g 202 (ws st.list) ∧ blocks (m - t) st (p.drop (64 * t)) = R
def bkMu (l:List Value) (_:World):Nat:=match l with | [.slice _ m _]=>m | _=>0
theorem bkMu_eq (m c:Nat) (a:Option Addr) (w:World):bkMu [.slice a m c] w = m:=rfl
def outL (st:St) (i:Nat):List UInt8:=((st.list.take i).map out1).flatten
theorem outL_length (st:St) (i:Nat) (hi:i ≤ 8):(outL st i).length = 4 * i:=by
 unfold outL St.list
 rcases i with _ | _ | _ | _ | _ | _ | _ | _ | _ | i
 all_goals first | omega | rfl
theorem out1_eq (x:W):out1 x = [lo8 (x >>> 24),lo8 (x >>> 16),lo8 (x >>> 8),lo8 x]:=by
 simp only [out1,lo8,BitVec.toNat_ushiftRight,Nat.shiftRight_eq_div_pow]
theorem outL_next (st:St) (i:Nat) (hi:i < 8):outL st (i + 1) = outL st i ++ [lo8 (at' st.list i >>> 24),lo8 (at' st.list i >>> 16),lo8 (at' st.list i >>> 8),lo8 (at' st.list i)]:=by
 rw [← out1_eq]
 unfold outL
 have hl:i < st.list.length:=hi
 rw [List.take_add_one,List.getElem?_eq_getElem hl,List.map_append,List.flatten_append]
 simp [at',List.getD_eq_getElem?_getD,hl]
def OutJ (w0:World) (st:St) (l:List Value) (w':World):Prop:=∃ (u v:Value) (i:Nat),l = [u,v,.int .i64 (i:Int)] ∧ i ≤ 8 ∧ OwnB w' w0.heap.size v (outL st i) ∧ Below w0.heap.size w0 w'
def outMu (l:List Value) (_:World):Nat:=match l with | [_,_,.int _ i]=>8 - i.toNat | _=>0
theorem outMu_eq (a b:Value) (q:IntKind) (i:Int) (w:World):outMu [a,b,.int q i] w = 8 - i.toNat:=rfl
def ZeJ (w0:World) (s:List UInt8) (l:List Value) (w':World):Prop:=∃ v j,l = [v] ∧ j ≤ zeros s.length ∧ Buf w0 v (s ++ [128] ++ List.replicate j 0) w'
theorem sha_len (s:List UInt8) (j:Nat):(s ++ [(128:UInt8)] ++ List.replicate j 0).length = s.length + 1 + j:=by simp; omega
def zeMu (n:Nat) (l:List Value) (_:World):Nat:=match l with | [.slice _ m _]=>n - m | _=>0
theorem zeMu_eq (n m c:Nat) (a:Option Addr) (w:World):zeMu n [.slice a m c] w = n - m:=rfl
def LeJ (w0:World) (s:List UInt8) (l:List Value) (w':World):Prop:=∃ (v:Value) (j:Nat),l = [v,.int .i64 (56 - 8 * (j:Int))] ∧ j ≤ 8 ∧ Buf w0 v (s ++ [128] ++ List.replicate (zeros s.length) 0 ++ (lenBytes s.length).take j) w'
def leMu (l:List Value) (_:World):Nat:=match l with | [_,.int _ i]=>(i + 8).toNat | _=>0
theorem leMu_eq (a:Value) (q:IntKind) (i:Int) (w:World):leMu [a,.int q i] w = (i + 8).toNat:=rfl
theorem lenByte (n j:Nat) (hj:j < 8) (hn:n < 1099511627776):(IntKind.u8.wrap (8 * (n:Int) / 2 ^ (56 - 8 * (j:Int)).toNat)) = (((lenBytes n).getD j 0).toNat:Int):=by
 have e1:8 * (n:Int) = ((8 * n:Nat):Int):=by omega
 have e2:(56 - 8 * (j:Int)).toNat = 8 * (7 - j):=by omega
 have e3:(lenBytes n).getD j 0 = UInt8.ofNat (8 * n / 2 ^ (8 * (7 - j))):=by
  unfold lenBytes
  rcases j with _ | _ | _ | _ | _ | _ | _ | _ | j <;> first | rfl | omega
 rw [e1,e2,e3,IntKind.wrap_u8,UInt8.toNat_ofNat']
 generalize 8 * (7 - j) = q
 have:((8 * n:Nat):Int) / 2 ^ q = ((8 * n / 2 ^ q:Nat):Int):=by
  rw [Int.natCast_ediv,Int.natCast_pow]; rfl
 rw [this]
 omega
theorem take_next (l:List UInt8) (j:Nat) (hj:j < l.length):l.take (j + 1) = l.take j ++ [l.getD j 0]:=by
 rw [List.take_add_one,List.getD_eq_getElem?_getD,List.getElem?_eq_getElem hj]
 rfl
theorem Sha_ok (s:List UInt8) (hs:s.length ≤ 1000000000) (k:∀ w',Below w.heap.size w w' → K (.string ⟨(sha s).toArray⟩) w'):callM Tryz.prog 144 #[.string ⟨s.toArray⟩] K w:=by
 apply sh_144_ok
 unfold sh_144
 refine ofStr s fun v1 w1 h1=>?_
 refine push 128 rfl h1 (by omega) (fun v2 w2 h2=>?_)
 refine ⟨ZeJ w s,zeMu (s.length + 1 + zeros s.length),⟨_,0,rfl,by omega,by simpa using h2⟩,?_⟩
 clear h2 w2 v2 h1 w1 v1
 rintro _ _ w1 ⟨v1,j,rfl,hj,h1⟩
 obtain ⟨g1,c1,rfl,hlt1⟩:=h1.row.shape
 have hz:zeros s.length < 64:=by unfold zeros; omega
 by_cases hjz:j < zeros s.length
 ·have hm:¬ ((s.length:Int) + 1 + (j:Int)).tmod 64 = 56:=by
   rw [Int.tmod_eq_emod_of_nonneg (by omega)]; unfold zeros at hjz; omega
  rw [sha_len] at *
  repeat (any_goals (first
  | ((with_reducible refine push 0 rfl h1 (by rw [sha_len]; omega) ?_); intro v2 w2 h2)
  | (with_reducible refine yL ?_)
  | ((with_reducible refine oM_gen fun Kv hK=>?_); simp [go_sem,hm]; refine hK _ _ ?_; clear hK Kv)))
  have e:s ++ [(128:UInt8)] ++ List.replicate j 0 ++ [0] = s ++ [128] ++ List.replicate (j + 1) 0:=by
   simp [List.replicate_succ',List.append_assoc]
  rw [e] at h2
  obtain ⟨g2,c2,rfl,hlt2⟩:=h2.row.shape
  refine ⟨⟨_,j + 1,rfl,hjz,h2⟩,?_⟩
  rw [sha_len]
  simp only [zeMu_eq]; omega
 ·obtain rfl:j = zeros s.length:=by omega
  have hm:((s.length:Int) + 1 + (zeros s.length:Int)).tmod 64 = 56:=by
   rw [Int.tmod_eq_emod_of_nonneg (by omega)]; unfold zeros; omega
  rw [sha_len] at *
  refine Xa @hm ?_
  refine ⟨LeJ w s,leMu,⟨_,0,rfl,by omega,by simpa using h1⟩,?_⟩
  clear h1 hlt1 hm
  rintro _ _ w1 ⟨v1,j,rfl,hj,h1⟩
  have hle:(s ++ [(128:UInt8)] ++ List.replicate (zeros s.length) 0 ++ (lenBytes s.length).take j).length = s.length + 1 + zeros s.length + j:=by
   rw [List.length_append,sha_len,List.length_take,lenBytes_length]; omega
  by_cases hj8:j < 8
  ·have hq:IntKind.u64.wrap (s.length:Int) = (s.length:Int):=wrapU64 _ (by omega) (by omega)
   have hsh:=fun t t' T x=>oM_shr64 (P:=Tryz.prog) t t' T .i64 x (56 - 8 * (j:Int)) (by omega) (by omega)
   repeat (any_goals (first
   | ((with_reducible refine push ((lenBytes s.length).getD j 0) (lenByte _ _ hj8 (by omega)) h1 (by omega) ?_); intro v2 w2 h2)
   | (with_reducible refine yN ?_)
   | ((with_reducible refine oM_gen fun Kv hK=>?_); simp [go_sem,hq,hsh]; (try simp (disch:=omega) only [wrapI64,wrapU8,wrapU64]); refine hK _ _ ?_; clear hK Kv)))
   refine ⟨⟨_,j + 1,by rw [show 56 - 8 * (j:Int) - 8 = 56 - 8 * ((j + 1:Nat):Int) by omega],hj8,?_⟩,?_⟩
   ·rw [take_next _ _ (by rw [lenBytes_length]; exact hj8),← List.append_assoc]
    exact h2
   ·simp only [leMu_eq]; omega
  ·obtain rfl:j = 8:=by omega
   rw [List.take_of_length_le (by rw [lenBytes_length]; omega)] at h1 hle
   have hpad:s ++ [(128:UInt8)] ++ List.replicate (zeros s.length) 0 ++ lenBytes s.length = padded s:=rfl
   rw [hpad] at h1 hle
   have hp64:=padded_length s
   obtain ⟨m,hm⟩:∃ m,(padded s).length = 64 * m:=⟨(padded s).length / 64,by omega⟩
   refine Xa0 ?_
   refine first_ok fun w2 hb2=>?_
   have h2:=h1.next hb2
   refine arr_alloc al_words fun g w3 hb3 hg3 h3=>?_
   have h4:=h2.next hb3
   obtain ⟨gb,c,rfl,hlt⟩:=h2.row.shape
   refine arr_store sz_words (xs:=ws first.list) rfl rfl (ws_one _) h3 rfl (fun w4 hg4 hh=>?_)
   have zb:=h1.below.size
   have hby:=(bufByR h4.row).other hg4 (by omega)
   have hbw:Below w.heap.size w w4:=grown_below h4.below hg4 (by have:=hb2.size; have:=h2.below.size; omega)
   have ef:sha s = ((blocks m first (padded s)).list.map out1).flatten:=by
    unfold sha
    rw [hm,Nat.mul_div_cancel_left m (by omega)]
   refine ⟨BkJ w g gb (padded s) m (blocks m first (padded s)),bkMu,⟨_,_,0,first,by rw [hm]; rfl,by omega,by have:=bufCap h4.row rfl; omega,fun _=>rfl,hbw,hby,hh,rfl⟩,?_⟩
   have hgw:w.heap.size ≤ g:=Nat.le_trans h2.below.size hg3
   have hgb:gb ≠ g:=by omega
   clear hh hby hbw hg4 h4 hlt h3 hg3 hb3 h2 hb2 h1 zb w4 w3 w2
   rintro _ _ w2 ⟨ad,c,t,st,rfl,ht,hc,had,hbw,hby,hh,hbl⟩
   by_cases htm:t < m
   ·obtain ⟨r,hr⟩:∃ r,m - t = r + 1:=⟨m - t - 1,by omega⟩
    obtain rfl:=had htm
    rw [hr] at hbl hc ⊢
    refine Xa0 ?_
    refine ⟨Zr (fun w'=>w' = { w2 with drawn:=w2.drawn + 1 }),fun _=>rfl,?_⟩
    have hh:=hh.next (.drawn (B:=w2.heap.size))
    have hby:=hby.next (.drawn (B:=w2.heap.size))
    have hbw:=hbw.on (.drawn (B:=w2.heap.size))
    generalize ({ w2 with drawn:=w2.drawn + 1 }:World) = w3 at hh hby hbw ⊢
    refine oH_of (v:=stV st) ⟨_,rfl⟩ (fun W0 hW0=>by
     obtain rfl:=zGet hW0
     exact arr_load hh un_words rfl (by kernel_rfl) ⟨rfl,rfl⟩) ?_
    refine pureH_in ?_
    refine oH_of (v:=.slice (some ⟨gb,64 * t,none⟩) 64 c) ⟨_,rfl⟩ (fun W0 hW0=>sliceTo64 (by omega) ⟨rfl,rfl⟩) ?_
    have hpart:=hby.part (64 * t) 64 (by omega)
    rw [Nat.zero_add] at hpart
    refine mix_ok st _ (by rw [List.length_take,List.length_drop]; omega) hpart (fun w4 hb4=>?_)
    refine ⟨fun h=>by omega,?_⟩
    refine arr_store sz_words (xs:=ws (mix st _).list) rfl rfl (ws_one _) (hh.next hb4) rfl (fun w5 hg5 hh5=>?_)
    refine ⟨fun h=>by omega,?_⟩
    refine sliceFrom64 (by omega) (by omega) (fun ad' had'=>?_)
    have e1:64 * (r + 1) - 64 = 64 * (m - (t + 1)):=by omega
    rw [e1]
    refine ⟨⟨ad',c - 64,t + 1,_,rfl,by omega,by omega,fun h=>had' (by omega),grown_below (hbw.on hb4) hg5 hgw,(hby.next hb4).other hg5 hgb,hh5,?_⟩,?_⟩
    ·rw [show m - (t + 1) = r by omega,← hbl]
     show _ = blocks r (mix st ((List.drop (64 * t) (padded s)).take 64)) ((List.drop (64 * t) (padded s)).drop 64)
     rw [List.drop_drop,show 64 * t + 64 = 64 * (t + 1) by omega]
    ·simp only [bkMu_eq]; omega
   ·obtain rfl:t = m:=by omega
    rw [Nat.sub_self] at hbl ⊢
    refine Xa0 ?_
    refine arr_load hh un_words rfl (by kernel_rfl) ?_
    have hst:st = blocks t first (padded s):=hbl
    rw [← hst] at ef
    refine ⟨OutJ w st,outMu,⟨_,_,0,rfl,by omega,⟨rfl,.inl ⟨rfl,rfl⟩⟩,hbw⟩,?_⟩
    rintro _ _ w3 ⟨u3,v3,i,rfl,hi,ho,hb3⟩
    by_cases hi8:i < 8
    ·have hix:=fun T=>idx_st T st i hi8
     repeat (any_goals (first
     | ((with_reducible refine pushW _ _ _ _ ho hb3.size (by have:=outL_length st i hi; omega) ?_); intro v4 w4 ho4 hb4)
     | (with_reducible refine yN ?_)
     | ((with_reducible refine oM_gen fun Kv hK=>?_); simp [go_sem,hix,shr24,shr16,shr8,conv_w8]; (try simp (disch:=omega) only [wrapI64,wrapU8,wrapU64]); refine hK _ _ ?_; clear hK Kv)))
     rw [← outL_next st i hi8] at ho4
     refine ⟨⟨_,_,i + 1,rfl,hi8,ho4,hb3.trans hb4⟩,?_⟩
     simp only [outMu_eq]; omega
    ·obtain rfl:i = 8:=by omega
     have e8:outL st 8 = sha s:=by rw [ef]; rfl
     repeat (any_goals (first
     | ((with_reducible refine toStrB ho (by rw [outL_length st 8 (by omega)]; omega) ?_))
     | (with_reducible refine yM ?_)
     | ((with_reducible refine oM_gen fun Kv hK=>?_); simp [go_sem]; refine hK _ _ ?_; clear hK Kv)))
     rw [e8]
     exact k _ hb3
end
end Go.Proofs
namespace TkSpec
open FdSpec CodeSpec
def numStep (n:Int) (out:Int) (b:UInt8):Int:=addM n (mulM n out 256) (b.toNat:Int)
def numberM (s:List UInt8) (n:Int):Int:=if okN n then (ShaSpec.sha s).foldl (numStep n) 0 else 0
def innL (t:Tkt):List Int:=[t.mark,t.first,t.z,t.a,t.b]
def innerQ (s:Stp) (t:Tkt):Int:=numberM (encNums (innL t)) s.g.Q
def askTkt (s:Stp) (attrs:List Int) (o:Off) (b:Bld):Tkt:=
 ⟨powerG s.g (usableM s attrs).1 b.s,(prodG s.g s.bases b.ys).1,powerG s.g o.z b.s,timesM s (powerG s.g o.a b.u) [genM s b.v],
  timesM s (powerG s.g o.b (mulQ s b.s [b.u])) [powerG s.g (powerG s.g (usableM s attrs).1 b.s) b.v],0⟩
def askFine (s:Stp) (key:Int) (attrs:List Int) (o:Off) (b:Bld):Bool:=
 (usableM s attrs).2 && keyM s key && elementsM s [o.z,o.a,o.b] && !decide (o.z = 1) && blindsM s b
def askErr (s:Stp) (key:Int) (attrs:List Int) (o:Off) (b:Bld):Int:=
 if askFine s key attrs o b then (if innerQ s (askTkt s attrs o b) = 0 then 7 else 0) else 1
def askC (s:Stp) (attrs:List Int) (o:Off) (b:Bld):Int:=overQ s (innerQ s (askTkt s attrs o b)) b.u
def askM (s:Stp) (key:Int) (attrs:List Int) (o:Off) (b:Bld):Int × Int:=
 (if askErr s key attrs o b = 0 then askC s attrs o b else 0,askErr s key attrs o b)
def signedM (s:Stp) (key m c r:Int) (o:Off):Bool:=
 decide (genM s r = timesM s (powerG s.g key c) [o.a]) && decide (powerG s.g m r = timesM s (powerG s.g o.z c) [o.b])
def zT:Tkt:=⟨0,0,0,0,0,0⟩
def finishM (s:Stp) (key:Int) (attrs:List Int) (o:Off) (b:Bld) (r:Int):Tkt × Int:=
 if askErr s key attrs o b ≠ 0 then (zT,askErr s key attrs o b)
 else if !numsM s 0 [r] then (zT,1)
 else if !signedM s key (usableM s attrs).1 (askC s attrs o b) r o then (zT,14)
 else ({ askTkt s attrs o b with r:=plusQ s (mulQ s r [b.u]) b.v },0)
end TkSpec
namespace Go.Proofs
open Go Go.Sh Go.RowKit FdSpec TkSpec CodeSpec
section
variable {K:Value → World → Prop} {w w0:World} {L:List (Addr × Value)}
def NuJ (n R:Int) (d:List UInt8) (w0:World) (l:List Value) (w':World):Prop:=Below w0.heap.size w0 w' ∧ ∃ (v:Value) (o:Int) (i:Nat),l = [v,.int .i64 o,.int .i64 (i:Int)] ∧ i ≤ d.length ∧ (d.drop i).foldl (numStep n) o = R
theorem Number_ok (s:List UInt8) (n:Int) (hs:s.length ≤ 1000000000) (k:∀ w',Below w.heap.size w w' → K (.int .i64 (numberM s n)) w'):callM Tryz.prog 94 #[.string ⟨s.toArray⟩,.int .i64 n] K w:=by
 apply sh_94_ok
 unfold sh_94
 unfold numberM at k
 refine valid_ok n ?_
 by_cases hn:okN n
 ·rw [if_pos hn] at k
  refine Xa0 ?_
  refine Sha_ok s hs (fun w1 h1=>?_)
  have hl:=ShaSpec.sha_length s
  generalize ShaSpec.sha s = d at *
  refine ofStr d fun v w2 h2=>?_
  obtain ⟨g,c,rfl,hlt⟩:=h2.row.shape
  have hby:=bufByR h2.row
  have hb:=h1.on h2.below
  refine Xa0 ?_
  refine ⟨NuJ n (d.foldl (numStep n) 0) d w2,vsMu d.length,⟨Below.refl _ _,_,_,0,rfl,by omega,rfl⟩,?_⟩
  rintro _ _ w3 ⟨h3,v,o,i,rfl,hi,hf⟩
  by_cases hin:i < d.length
  ·have hc:=(hby.next h3).2 i hin
   rw [Nat.zero_add] at hc
   have e1:d[i]?.getD 0 = d[i]:=by simp [hin]
   have hu:=(d[i]).toNat_lt
   rw [List.getD_eq_getElem?_getD,e1] at hc
   refine Xa @hc ?_
   refine Mul_ok n o 256 (fun w4 h4=>?_)
   refine Xa0 ?_
   refine Add_ok n _ _ ?_
   refine Xa0 ?_
   rw [List.drop_eq_getElem_cons hin,List.foldl_cons] at hf
   refine ⟨⟨h3.on h4,_,_,i + 1,rfl,by omega,hf⟩,?_⟩
   simp only [vsMu_eq]; omega
  ·rw [List.drop_of_length_le (by omega),List.foldl_nil] at hf
   refine Xa0 ?_
   rw [hf]
   exact k _ (hb.on h3)
 ·rw [if_neg hn] at k
  refine Xa0 ?_
  exact k _ (Below.refl _ _)
theorem innL_all {t:Tkt} (h:TktR t):∀ n ∈ innL t,I64 n:=by
 intro n hn
 simp only [innL,List.mem_cons,List.not_mem_nil,or_false] at hn
 rcases hn with rfl | rfl | rfl | rfl | rfl
 ·exact h.mark
 ·exact h.first
 ·exact h.z
 ·exact h.a
 ·exact h.b
theorem innL_len {t:Tkt} (h:TktR t):(encNums (innL t)).length ≤ 200:=by
 have hi:=fun n (hn:n ∈ innL t)=>Cd.encInt_len n ((InR_iff n).2 (innL_all h n hn))
 have h6:=itoa_len 5 (by unfold InR; omega)
 simp only [encNums,encList,innL,List.map_cons,List.map_nil,List.length_cons,List.length_nil,List.flatten_cons,List.flatten_nil,List.length_append,List.append_nil] at *
 have a1:=hi t.mark (by simp)
 have a2:=hi t.first (by simp)
 have a3:=hi t.z (by simp)
 have a4:=hi t.a (by simp)
 have a5:=hi t.b (by simp)
 have h6':(Lib.itoa ((0 + 1 + 1 + 1 + 1 + 1:Nat):Int)).length ≤ 20:=h6
 omega
theorem inner_ok (s:Stp) (t:Tkt) {v:Value} (ht:TktR t) (hs:SetR w s v) (hl:Cd.Laid w) (k:∀ w',Below w.heap.size w w' → K (.int .i64 (innerQ s t)) w'):callM Tryz.prog 76 #[stpV s v,tktV t] K w:=by
 apply sh_76_ok
 unfold sh_76
 obtain ⟨ad,c,rfl⟩:=hs.ints.isSlice
 refine box_kn (cs:=stpC s (.slice ad s.bases.length c)) rfl (.start w) fun b W hk hb1 hb=>?_
 refine box_kn (cs:=tktC t) rfl hk fun b2 W2 hk hb2 hbb=>?_
 refine ⟨Kn w _,hk.drew,?_⟩
 have hk:=hk.drew
 repeat (any_goals (first
 | (with_reducible refine And.intro hk ?_)
 | ((with_reducible refine mk5 t.mark t.first t.z t.a t.b ht.mark ht.first ht.z ht.a ht.b ?_); intro v8 W8 hb8 hi)
 | ((with_reducible refine idOH ?_); (with_reducible refine oH_of ⟨_,rfl⟩ (fun W0 hW0=>by (refine oM_gen (fun Kv hK=>?_)); simp [go_sem,hW0.cells]; (first | exact hK _ _ ⟨rfl,rfl⟩ | exact ⟨by omega,hK _ _ ⟨rfl,rfl⟩⟩)) ?_))))
 have hk:=hk.next hb8
 refine ⟨hk,?_⟩
 refine Cd.pNums_ok (innL t) v8 (hl.below hk.below hl.size) (Ints.rowOf hi) (fun x hx=>(InR_iff x).2 (innL_all ht x hx)) (by have:=innL_len ht; unfold encNums at this; omega) (fun w3 h3=>?_)
 have hk:=hk.next h3
 refine ⟨hk,?_⟩
 refine Number_ok _ _ (by have:=innL_len ht; unfold encNums at this; omega) (fun w4 h4=>?_)
 have hk:=hk.next h4
 exact ⟨hk,hk,k _ hk.below⟩
theorem genM_I64 (s:Stp) (x:Int):I64 (genM s x):=powerG_I64 _ _ _
structure OffR (o:Off):Prop where
 z:I64 o.z
 a:I64 o.a
 b:I64 o.b
@[reducible] def offC (o:Off):List Value:=[.int .i64 o.z,.int .i64 o.a,.int .i64 o.b]
theorem signed_ok (s:Stp) (key m c r:Int) (o:Off) {v:Value} (ho:OffR o) (hs:SetR w s v) (k:∀ w',Below w.heap.size w w' → K (.bool (signedM s key m c r o)) w') :
  callM Tryz.prog 79 #[stpV s v,.int .i64 key,.int .i64 m,.int .i64 c,.int .i64 r,offV o] K w:=by
 apply sh_79_ok
 unfold sh_79
 obtain ⟨ad,cc,rfl⟩:=hs.ints.isSlice
 refine box_kn (cs:=stpC s (.slice ad s.bases.length cc)) rfl (.start w) fun b W hk hb1 hb=>?_
 refine box_kn (cs:=offC o) rfl hk fun b2 W2 hk hb2 hbb=>?_
 have hk:=hk.drew
 refine ⟨Nx { W2 with drawn:=W2.drawn + 1 },Below.refl _ _,rfl,?_⟩
 generalize ({ W2 with drawn:=W2.drawn + 1 }:World) = W at hk ⊢
 refine Xc (fun W0 hW0=>(hk.next hW0).cells) ?_
 refine ⟨Nx,?_⟩
 apply monoE
 ·intro w1 h1
  exact generated_ok s r (hs.next (hk.next h1).below) (fun w2 h2=>⟨h1.on h2,h2,rfl⟩)
 apply monoE
 ·intro w1 h1
  exact tpower_ok s key c (hs.next (hk.next h1).below) (fun w2 h2=>⟨h1.on h2,h2,rfl⟩)
 refine monoR (fun v w'=>Ints w' v [o.a]) (fun v w w1 hS h=>h.next hS) ?_ ?_
 ·intro w1 h1
  exact mk1 o.a ho.a (fun v w2 h2 hi=>⟨h1.on h2,h2,hi⟩)
 apply monoE
 ·rintro w1 h1 _ rfl v2 hi
  exact times_ok s _ (hs.next (hk.next h1).below) hi (fun w2 h2=>⟨h1.on h2,h2,rfl⟩)
 apply monoE
 ·rintro w1 h1 _ rfl _ rfl
  refine Xa0 ?_
  exact ⟨h1,Below.refl _ _,rfl⟩
 unfold signedM at k
 generalize decide (genM s r = timesM s (powerG s.g key c) [o.a]) = p at k ⊢
 cases p
 ·refine Xd0 ?_
  (intro w9 h9; repeat (intro v9 e9; try (obtain rfl:=e9)))
  repeat (any_goals (first
  | (with_reducible refine And.intro h9 ?_)
  | (with_reducible first|refine zB ?_|refine yC ?_)))
  exact k _ (hk.next h9).below
 ·refine Xd (fun w9 h9=>(hk.next h9).cells) ?_
  apply monoE
  ·(intro w9 h9; repeat (intro v9 e9; try (obtain rfl:=e9)))
   refine Xa0 ?_
   exact tpower_ok s m r (hs.next (hk.next h9).below) (fun w2 h2=>⟨h9.on h2,h2,rfl⟩)
  refine Xd (fun w9 h9=>(hk.next h9).cells) ?_
  apply monoE
  ·(intro w9 h9; repeat (intro v9 e9; try (obtain rfl:=e9)))
   refine Xa0 ?_
   exact tpower_ok s o.z c (hs.next (hk.next h9).below) (fun w2 h2=>⟨h9.on h2,h2,rfl⟩)
  refine Xd (fun w9 h9=>(hk.next h9).cells) ?_
  refine monoR (fun v w'=>Ints w' v [o.b]) (fun v w w1 hS h=>h.next hS) ?_ ?_
  ·(intro w9 h9; repeat (intro v9 e9; try (obtain rfl:=e9)))
   repeat (any_goals (first
   | ((with_reducible refine mk1 o.b ho.b ?_); intro v2 w2 h2 hi)
   | (with_reducible refine zA ?_)))
   exact ⟨h9.on h2,h2,hi⟩
  (intro w9 h9; repeat (intro v9 e9; try (obtain rfl:=e9)))
  repeat (any_goals (first
  | (with_reducible refine And.intro h9 ?_)
  | (with_reducible refine zA ?_)))
  refine times_ok s _ (hs.next (hk.next h9).below) e9 (fun w2 h2=>?_)
  have h9:=h9.on h2
  repeat (any_goals (first
  | (with_reducible refine And.intro h9 ?_)
  | (with_reducible first|refine zA ?_|refine yB ?_)
  | ((with_reducible refine oM_gen fun Kv hK=>?_); simp [go_sem]; refine hK _ _ ?_; clear hK Kv)))
  exact k _ (hk.next h9).below
end
end Go.Proofs
namespace Go.Proofs
open Go Go.Sh Go.RowKit FdSpec TkSpec CodeSpec
section
variable {K:Value → World → Prop} {w w0:World} {L:List (Addr × Value)}
@[reducible] def reqC (s:Stp) (v:Value) (m c:Int) (t:Tkt):List Value:=[.int .i64 s.g.P,.int .i64 s.g.Q,.int .i64 s.g.G,v,.int .i64 s.blind,.int .i64 m,.int .i64 c,.int .i64 t.mark,.int .i64 t.first,.int .i64 t.z,.int .i64 t.a,.int .i64 t.b,.int .i64 t.r]
@[reducible] def reqV (s:Stp) (v:Value) (m c:Int) (t:Tkt):Value:=.agg (reqC s v m c t).toArray
@[reducible] def zS:Stp:=⟨⟨0,0,0⟩,[],0⟩
def askV (s:Stp) (v:Value) (key:Int) (attrs:List Int) (o:Off) (b:Bld):Value:=
 if askErr s key attrs o b = 0 then reqV s v (usableM s attrs).1 (askC s attrs o b) (askTkt s attrs o b) else reqV zS (.slice none 0 0) 0 0 zT
theorem req_one (s:Stp) (ad:Option Addr) (n c':Nat) (m c:Int) (t:Tkt):∀ u ∈ reqC s (.slice ad n c') m c t,u.oneCell' = true:=by
 intro u hu
 simp only [reqC,List.mem_cons,List.not_mem_nil,or_false] at hu
 rcases hu with rfl | rfl | rfl | rfl | rfl | rfl | rfl | rfl | rfl | rfl | rfl | rfl | rfl <;> rfl
theorem sz_req (w:World):(sizeOf 132).run Tryz.prog w = .ok 13 w:=by kernel_rfl
theorem al_req (w:World):(Instr.alloc 132 true (.tuple #[])).run Tryz.prog w = .ok (.pointer (some ⟨w.heap.size,0,none⟩)) (w.alloc (.cells (reqC zS (.slice none 0 0) 0 0 zT).toArray 132)):=by kernel_rfl
theorem build_req0 (T:TypeId):oM Tryz.prog (Go.Op.build 132 #[]) T [] = pureM (reqV zS (.slice none 0 0) 0 0 zT):=by
 funext K w
 kernel_rfl
theorem store_req {K:Value → World → Prop} {T':TypeId} {g:Nat} (s:Stp) (ad:Option Addr) (n c':Nat) (m c:Int) (t:Tkt) (hk:KnM w0 L g 13 w)
  (k:∀ W,KnM w0 L g 13 W → cellsAre W (cellsOf [] g 0 (reqC s (.slice ad n c') m c t)) → K undef W):oM Tryz.prog (.store 132 (.tmp 0) (.tmp 1)) T' [.pointer (some ⟨g,0,none⟩),reqV s (.slice ad n c') m c t] K w:=
 store_mine sz_req rfl rfl (req_one s ad n c' m c t) hk k
theorem store_req2 {K:Value → World → Prop} {T':TypeId} {g:Nat} (s:Stp) (ad:Option Addr) (n c':Nat) (m c:Int) (t:Tkt) (hk:KnM w0 L g 13 w)
  (k:∀ W,KnM w0 L g 13 W → cellsAre W (cellsOf [] g 0 (reqC s (.slice ad n c') m c t)) → w.grownBy W (some g) → K undef W):oM Tryz.prog (.store 132 (.tmp 0) (.tmp 1)) T' [.pointer (some ⟨g,0,none⟩),reqV s (.slice ad n c') m c t] K w:=by
 obtain ⟨W,e,hg,hm,hc⟩:=store_run (P:=Tryz.prog) (W:=w) sz_req (x:=reqV s (.slice ad n c') m c t) rfl rfl (req_one s ad n c' m c t) hk.mine
 rw [oM_store,e]
 exact k W ⟨hk.kn.wrote hg hk.base hk.off,hm,hk.base,hk.off⟩ hc hg
theorem build_t3 (T:TypeId) (a b c:Int):oM Tryz.prog (Go.Op.build 41 #[(0,(.tmp 0)),(1,(.tmp 1)),(2,(.tmp 2))]) T [.int .i64 a,.int .i64 b,.int .i64 c] = pureM (tktV ⟨a,b,c,0,0,0⟩):=by
 funext K w
 kernel_rfl
theorem build_req4 (T:TypeId) (s:Stp) (ad:Option Addr) (n c':Nat) (m c:Int) (t:Tkt):oM Tryz.prog (Go.Op.build 132 #[(0,(.tmp 0)),(1,(.tmp 1)),(2,(.tmp 2)),(3,(.tmp 3))]) T [stpV s (.slice ad n c'),.int .i64 m,.int .i64 c,tktV t] = pureM (reqV s (.slice ad n c') m c t):=by
 funext K w
 kernel_rfl
theorem sz_int (w:World):(sizeOf 3).run Tryz.prog w = .ok 1 w:=by kernel_rfl
theorem un_tkt:Tryz.prog.underlying 41 = some ((Tryz.prog.underlying 41).getD default):=by kernel_rfl
theorem prodL_I64 (g:Grp):∀ (l:List (Int × Int)) (o:Int),I64 o → I64 (prodL g o l)
 | [],o,h=>h
 | (b,e) :: l,o,_=>prodL_I64 g l _ (mulM_I64 _ _ _)
theorem prodG_I64 (g:Grp) (bs es:List Int):I64 (prodG g bs es).1:=by
 unfold prodG
 split
 ·rename_i h
  refine prodL_I64 _ _ _ ?_
  have h1:=Int.emod_nonneg 1 (show g.P ≠ 0 by have:=h.1.1; omega)
  have h2:=Int.emod_lt_of_pos 1 (show 0 < g.P by have:=h.1.1; omega)
  have h3:=h.1.2
  exact ⟨by omega,by omega⟩
 ·exact ⟨by decide,by decide⟩
theorem timesM_I64 (s:Stp) (x y:Int):I64 (timesM s x [y]):=timesG_I64 _ _ _
theorem askTkt_R (s:Stp) (l:List Int) (o:Off) (b:Bld):TktR (askTkt s l o b):=
 ⟨powerG_I64 _ _ _,prodG_I64 _ _ _,powerG_I64 _ _ _,timesM_I64 _ _ _,timesM_I64 _ _ _,⟨by show _ ≤ (0:Int); decide,by show (0:Int) < _; decide⟩⟩
structure TkC (W:World) (g:Nat) (f:Int → Tkt) (w':World):Prop where
 nx:Nx W w'
 ex:∃ a,Holds w' g 41 (tktC (f a))
theorem TkC.next {W w' w2:World} {g:Nat} {f:Int → Tkt} (h:TkC W g f w') (hb:Below w'.heap.size w' w2):TkC W g f w2:=⟨h.1.on hb,h.2.imp fun _ h=>h.next hb⟩
theorem TkC.mark {W w':World} {g:Nat} {f:Int → Tkt} {m:Int} (h:TkC W g f w') (hm:∀ a,(f a).mark = m:=by intro _; rfl):w'.cell? ⟨g,0,none⟩ = some (.int .i64 m):=by
 obtain ⟨_,a,h⟩:=h
 rw [h.cell 0 (show 0 < 6 by decide)]
 show some (Value.int .i64 (f a).mark) = _
 rw [hm a]
theorem ask_ok (s:Stp) (key:Int) (o:Off) (b:Bld) {v lv bv:Value} {l:List Int} (hkey:I64 key) (ho:OffR o) (hs:SetR w s v) (hl:Ints w lv l) (hb:BldR w b bv) (hL:Cd.Laid w)
  (k:∀ w',Below w.heap.size w w' → K (.tuple #[askV s v key l o b,.int .i64 (askErr s key l o b)]) w') :
  callM Tryz.prog 78 #[stpV s v,.int .i64 key,lv,offV o,bldV b bv] K w:=by
 apply sh_78_ok
 unfold sh_78
 obtain ⟨ad,cc,rfl⟩:=hs.ints.isSlice
 obtain ⟨yad,yc,rfl⟩:=hb.ys.isSlice
 refine box_kn (cs:=stpC s (.slice ad s.bases.length cc)) rfl (.start w) fun b1 W hk hb1 hbb=>?_
 refine box_kn (cs:=offC o) rfl hk fun b2 W2 hk hb2 hbb=>?_
 refine box_kn (cs:=bldC b (.slice yad b.ys.length yc)) rfl hk fun b3 W3 hk hb3 hbb=>?_
 refine alloc_mine (n:=13) al_req rfl hk fun g W hk hb4 hg=>?_
 have k1:askErr s key l o b ≠ 0 → ∀ w',Below w.heap.size w w' → K (.tuple #[reqV zS (.slice none 0 0) 0 0 zT,.int .i64 (askErr s key l o b)]) w':=fun he w' hb=>by
  have:=k w' hb; unfold askV at this; rw [if_neg he] at this; exact this
 have k2:askErr s key l o b = 0 → ∀ w',Below w.heap.size w w' → K (.tuple #[reqV s (.slice ad s.bases.length cc) (usableM s l).1 (askC s l o b) (askTkt s l o b),.int .i64 0]) w':=fun he w' hb=>by
  have:=k w' hb; unfold askV at this; rw [if_pos he,he] at this; exact this
 clear k hb1 hb2 hb3 hb4
 have bad:askFine s key l o b = false → ∀ w',Below w.heap.size w w' → K (.tuple #[reqV zS (.slice none 0 0) 0 0 zT,.int .i64 1]) w':=fun h w' hb=>by
  have e:askErr s key l o b = 1:=by unfold askErr; rw [h]; rfl
  have:=k1 (by rw [e]; decide) w' hb; rw [e] at this; exact this
 refine Xa hk.cells ?_
 refine usable_ok s (hs.next hk.below) (hl.next hk.below) (fun w2 h2=>?_)
 have hk:=hk.next h2
 clear h2
 cases hu:(usableM s l).2 with
 | false=>
  repeat (any_goals (first
  | ((with_reducible refine local_desk s ad s.bases.length cc hk ?_); intro b7 W7 hk hb7 hg7)
  | (with_reducible first|refine zD ?_|refine yB ?_|refine yL ?_)
  | ((with_reducible refine oM_gen fun Kv hK=>?_); simp [go_sem,hk.cells,build_req0]; refine hK _ _ ?_; clear hK Kv)))
  exact store_req zS none 0 0 0 0 zT hk (fun W3 hk hc=>⟨_,by simp [go_sem,hc],bad (by unfold askFine; rw [hu]; simp) _ hk.below⟩)
 | true=>
 repeat (any_goals (first
 | ((with_reducible refine local_desk s ad s.bases.length cc hk ?_); intro b7 W7 hk hb7 hg7)
 | (with_reducible first|refine pureM_in ?_|refine zC ?_)
 | ((with_reducible refine oM_gen fun Kv hK=>?_); simp [go_sem,hk.cells]; refine hK _ _ ?_; clear hK Kv)))
 refine key_ok s key hkey (hs.next hk.below) (fun w3 h3=>?_)
 have hk:=hk.next h3
 clear h3
 cases hke:keyM s key with
 | false=>
  refine Xa (An2 hk.cells @build_req0) ?_
  exact store_req zS none 0 0 0 0 zT hk (fun W3 hk hc=>⟨_,by simp [go_sem,hc],bad (by unfold askFine; rw [hu,hke]; simp) _ hk.below⟩)
 | true=>
 repeat (any_goals (first
 | ((with_reducible refine mk3 o.z o.a o.b ho.z ho.a ho.b ?_); intro v8 c8 W8 hb8 hi8)
 | (with_reducible first|refine zC ?_|refine yC ?_)
 | ((with_reducible refine oM_gen fun Kv hK=>?_); simp [go_sem,hk.cells]; refine hK _ _ ?_; clear hK Kv)))
 have hk:=hk.next hb8
 refine elements_ok s (hs.next hk.below) hi8 (fun w4 h4=>?_)
 have hk:=hk.next h4
 clear h4 hb8 hi8
 cases hel:elementsM s [o.z,o.a,o.b] with
 | false=>
  refine Xa (An2 hk.cells @build_req0) ?_
  exact store_req zS none 0 0 0 0 zT hk (fun W3 hk hc=>⟨_,by simp [go_sem,hc],bad (by unfold askFine; rw [hu,hke,hel]; simp) _ hk.below⟩)
 | true=>
 by_cases hz1:o.z = 1
 ·refine Xa (An3 hk.cells @build_req0 @hz1) ?_
  exact store_req zS none 0 0 0 0 zT hk (fun W3 hk hc=>⟨_,by simp [go_sem,hc],bad (by unfold askFine; rw [hu,hke,hel,hz1]; simp) _ hk.below⟩)
 refine Xa (An2 hk.cells @hz1) ?_
 refine blinds_ok s b (hs.next hk.below) (hb.next hk.below) (fun w5 h5=>?_)
 have hk:=hk.next h5
 clear h5
 cases hbl:blindsM s b with
 | false=>
  refine Xa (An2 hk.cells @build_req0) ?_
  exact store_req zS none 0 0 0 0 zT hk (fun W3 hk hc=>⟨_,by simp [go_sem,hc],bad (by unfold askFine; rw [hu,hke,hel,hbl]; simp) _ hk.below⟩)
 | true=>
 have fine:askFine s key l o b = true:=by unfold askFine; rw [hu,hke,hel,hbl,decide_eq_false hz1]; rfl
 clear bad
 refine Xa0 ?_
 have hk:=hk.drew
 refine ⟨Nx { w5 with drawn:=w5.drawn + 1 },Below.refl _ _,rfl,?_⟩
 generalize ({ w5 with drawn:=w5.drawn + 1 }:World) = W at hk ⊢
 refine Xc (fun W0 hW0=>(hk.next hW0).cells) ?_
 refine ⟨Nx,?_⟩
 apply monoE
 ·intro w1 h1
  exact tpower_ok s _ b.s (hs.next (hk.next h1).below) (fun w2 h2=>⟨h1.on h2,h2,rfl⟩)
 apply monoE
 ·intro w1 h1
  exact product_t_ok s (hs.next (hk.next h1).below) (hb.ys.next (hk.next h1).below) (fun w2 h2=>⟨h1.on h2,h2,rfl⟩)
 apply monoE
 ·intro w1 h1
  exact tpower_ok s o.z b.s (hs.next (hk.next h1).below) (fun w2 h2=>⟨h1.on h2,h2,rfl⟩)
 repeat (apply monoE; focus (intro w9 h9; (repeat (intro v9 e9; try (obtain rfl:=e9))); (repeat (any_goals ((with_reducible refine oM_gen fun Kv hK=>?_); simp [go_sem,build_t3]; refine hK _ _ ?_; clear hK Kv))); exact ⟨h9,Below.refl _ _,rfl⟩))
 refine monoR (fun v w'=>∃ g2,v = ptr g2 0 ∧ W.heap.size ≤ g2 ∧ Holds w' g2 41 (tktC zT)) (fun v w w1 hS h=>h.imp fun g2 h=>⟨h.1,h.2.1,h.2.2.next hS⟩) ?_ ?_
 ·intro w1 h1
  exact arr_alloc al_tkt (fun g2 w2 h2 hg2 hh=>⟨h1.on h2,h2,g2,rfl,Nat.le_trans h1.size hg2,hh⟩)
 (intro w9 h9; repeat (intro v9 e9; try (obtain rfl:=e9)))
 obtain ⟨g2,rfl,hg2,hh⟩:=e9
 have mI:=powerG_I64 s.g (usableM s l).1 b.s
 have hW:=hk.next (Below.refl W.heap.size W)
 refine arr_store sz_tkt (xs:=tktC ⟨powerG s.g (usableM s l).1 b.s,(prodG s.g s.bases b.ys).1,powerG s.g o.z b.s,0,0,0⟩) rfl rfl (tkt_one _) hh rfl (fun w10 hg10 hh=>?_)
 have h10:=grown_below h9 hg10 hg2
 clear hg10 h9
 refine ⟨h10,?_⟩
 refine ⟨TkC W g2 (fun a=>⟨powerG s.g (usableM s l).1 b.s,(prodG s.g s.bases b.ys).1,powerG s.g o.z b.s,a,0,0⟩),⟨h10.on .drawn,0,hh.next .drawn⟩,rfl,?_⟩
 clear hh h10
 repeat (any_goals ((with_reducible refine idOH ?_); (with_reducible refine oH_of ⟨_,rfl⟩ (fun W0 hW0=>by (refine oM_gen (fun Kv hK=>?_)); simp [go_sem,(hk.next hW0.1).cells]; (first | exact hK _ _ ⟨rfl,rfl⟩ | exact ⟨by omega,hK _ _ ⟨rfl,rfl⟩⟩)) ?_)))
 refine ⟨Nx,?_⟩
 intro w1 h1
 refine tpower_ok s o.a b.u (hs.next (hk.next h1.1).below) (fun w2 h2=>?_)
 have h1:=h1.next h2
 refine ⟨h1,generated_ok s b.v (hs.next (hk.next h1.1).below) (fun w3 h3=>?_)⟩
 have h1:=h1.next h3
 refine ⟨h1,mk1 _ (genM_I64 s b.v) (fun v4 w4 h4 hi=>?_)⟩
 have h1:=h1.next h4
 refine ⟨h1,times_ok s _ (hs.next (hk.next h1.1).below) hi (fun w5 h5=>?_)⟩
 have h1:=h1.next h5
 refine ⟨h1,?_⟩
 refine Xa0 ?_
 refine ⟨h1,?_⟩
 obtain ⟨h1,a0,hh⟩:=h1
 refine arr_set (i:=3) sz_int rfl rfl hh (show 3 < 6 by decide) (fun w10 hg10 hh=>?_)
 have hh:Holds w10 g2 41 (tktC ⟨powerG s.g (usableM s l).1 b.s,(prodG s.g s.bases b.ys).1,powerG s.g o.z b.s,timesM s (powerG s.g o.a b.u) [genM s b.v],0,0⟩):=hh
 have h10:=grown_below h1 hg10 hg2
 clear hg10 h1 h2 h3 h4 h5 hi
 refine ⟨⟨h10,_,hh⟩,?_⟩
 refine ⟨TkC W g2 (fun a=>⟨powerG s.g (usableM s l).1 b.s,(prodG s.g s.bases b.ys).1,powerG s.g o.z b.s,timesM s (powerG s.g o.a b.u) [genM s b.v],a,0⟩),⟨h10.on .drawn,0,hh.next .drawn⟩,rfl,?_⟩
 clear hh h10
 repeat (any_goals ((with_reducible refine idOH ?_); (with_reducible refine oH_of ⟨_,rfl⟩ (fun W0 hW0=>by (refine oM_gen (fun Kv hK=>?_)); simp [go_sem,(hk.next hW0.1).cells,hW0.mark]; (first | exact hK _ _ ⟨rfl,rfl⟩ | exact ⟨by omega,hK _ _ ⟨rfl,rfl⟩⟩)) ?_)))
 refine ⟨Nx,?_⟩
 intro w1 h1
 refine mk1 b.u hb.u (fun v4 w4 h4 hi=>?_)
 have h1:=h1.next h4
 refine ⟨h1,mul_ok s b.s (hs.next (hk.next h1.1).below) hi (fun w2 h2=>?_)⟩
 have h1:=h1.next h2
 refine ⟨h1,tpower_ok s o.b _ (hs.next (hk.next h1.1).below) (fun w3 h3=>?_)⟩
 have h1:=h1.next h3
 refine ⟨h1,tpower_ok s _ b.v (hs.next (hk.next h1.1).below) (fun w5 h5=>?_)⟩
 have h1:=h1.next h5
 refine ⟨h1,mk1 _ (powerG_I64 _ _ _) (fun v6 w6 h6 hi6=>?_)⟩
 have h1:=h1.next h6
 refine ⟨h1,times_ok s _ (hs.next (hk.next h1.1).below) hi6 (fun w7 h7=>?_)⟩
 have h1:=h1.next h7
 refine ⟨h1,?_⟩
 refine Xa0 ?_
 refine ⟨h1,?_⟩
 obtain ⟨h1,a0,hh⟩:=h1
 refine arr_set (i:=4) sz_int rfl rfl hh (show 4 < 6 by decide) (fun w10 hg10 hh=>?_)
 have hh:Holds w10 g2 41 (tktC (askTkt s l o b)):=hh
 have h10:=grown_below h1 hg10 hg2
 clear hg10 h1 h2 h3 h4 h5 hi h6 h7 hi6
 refine ⟨⟨h10,_,hh⟩,?_⟩
 have hT:=askTkt_R s l o b
 generalize ht:askTkt s l o b = t at *
 have hg2g:g2 ≠ g:=by have:=mine_lt hk.mine; omega
 have hk:=hk.next h10
 have c0:=hh.cell 0 (show 0 < 6 by decide)
 repeat (any_goals (first
 | ((with_reducible refine arr_load hh un_tkt rfl (by kernel_rfl) ?_))
 | ((with_reducible refine oM_gen fun Kv hK=>?_); simp [go_sem,hk.cells]; refine hK _ _ ?_; clear hK Kv)))
 refine inner_ok s t hT (hs.next hk.below) (hL.below hk.below hL.size) (fun w11 h11=>?_)
 have hk:=hk.next h11
 have hh:=hh.next h11
 by_cases hc0:innerQ s t = 0
 ·have e7:askErr s key l o b = 7:=by unfold askErr; rw [fine,ht,hc0]; rfl
  have k1:=k1 (by rw [e7]; decide)
  rw [e7] at k1
  refine Xa (An3 hk.cells @build_req0 @hc0) ?_
  exact store_req zS none 0 0 0 0 zT hk (fun W3 hk hc=>⟨_,by simp [go_sem,hc],k1 _ hk.below⟩)
 ·have e0:askErr s key l o b = 0:=by unfold askErr; rw [fine,ht,if_neg hc0]; rfl
  have k2:=k2 e0
  have ec:askC s l o b = overQ s (innerQ s t) b.u:=by unfold askC; rw [ht]
  rw [ec] at k2
  refine Xa (An2 hk.cells @hc0) ?_
  refine ⟨fun w'=>KnM w _ g 13 w' ∧ Holds w' g2 41 (tktC t),⟨hk.drew,hh.next .drawn⟩,rfl,?_⟩
  clear hk hh
  repeat (any_goals (first
  | (with_reducible refine pureH_in ?_)
  | ((with_reducible refine idOH ?_); (with_reducible refine oH_of ⟨_,rfl⟩ (fun W0 hW0=>by (refine oM_gen (fun Kv hK=>?_)); simp [go_sem,hW0.1.cells,hW0.2.are]; (first | exact hK _ _ ⟨rfl,rfl⟩ | exact ⟨by omega,hK _ _ ⟨rfl,rfl⟩⟩)) ?_))))
  refine ⟨Nx,?_⟩
  rintro w1 ⟨hk,hh⟩
  refine over_ok s _ b.u (hs.next hk.below) (fun w2 h2=>?_)
  have hk:=hk.next h2
  have hh:=hh.next h2
  refine ⟨⟨hk,hh⟩,?_⟩
  refine Xa @build_req4 ?_
  refine ⟨⟨hk,hh⟩,?_⟩
  refine store_req2 s ad _ cc _ _ t hk (fun W3 hk hc hg3=>?_)
  have hh:=hh.other hg3 hg2g
  exact ⟨⟨hk,hh⟩,⟨hk,hh⟩,_,by simp [go_sem,hc],k2 _ hk.below⟩
end
end Go.Proofs
namespace Go.Proofs
open Go Go.Sh Go.RowKit FdSpec TkSpec CodeSpec
section
variable {K:Value → World → Prop} {w w0:World} {L:List (Addr × Value)}
theorem local_req {K:Value → World → Prop} {T' T2:TypeId} (s:Stp) (ad:Option Addr) (n c':Nat) (m c:Int) (t:Tkt) (hk:Kn w0 L w)
  (k:∀ b W,Kn w0 (cellsOf L b 0 (reqC s (.slice ad n c') m c t)) W → Below w.heap.size w W → w.heap.size ≤ b → K (.pointer (some ⟨b,0,none⟩)) W) :
  oM Tryz.prog (.alloc 132) T' [] (fun v w=>oM Tryz.prog (.store 132 (.tmp 0) (.tmp 1)) T2 [v,reqV s (.slice ad n c') m c t] (fun _ w=>K v w) w) w:=
 local_kn al_req rfl sz_req rfl rfl (req_one s ad n c' m c t) hk k
theorem _root_.Go.Sh.KnM.wroteOther {g n g':Nat} {w':World} (hk:KnM w0 L g n w) (hg:w.grownBy w' (some g')) (hoff:∀ p ∈ L,p.1.block ≠ g') (hne:g ≠ g') (hb:w0.heap.size ≤ g'):KnM w0 L g n w':=
 hk.fr (g':=g') ⟨hg.os,hg.tape,hg.output,hg.size,fun i hi hn=>hg.block i hi (fun e=>hn (by cases e; rfl))⟩ hoff hne hb
theorem local_reqH {K:Value → World → Prop} {T' T2:TypeId} (s:Stp) (ad:Option Addr) (n c':Nat) (m c:Int) (t:Tkt)
  (k:∀ b W,Holds W b 132 (reqC s (.slice ad n c') m c t) → Below w.heap.size w W → w.heap.size ≤ b → K (.pointer (some ⟨b,0,none⟩)) W) :
  oM Tryz.prog (.alloc 132) T' [] (fun v w=>oM Tryz.prog (.store 132 (.tmp 0) (.tmp 1)) T2 [v,reqV s (.slice ad n c') m c t] (fun _ w=>K v w) w) w:=
 arr_alloc al_req fun gq w3 h3 hgq hh=>arr_store sz_req (xs:=reqC s (.slice ad n c') m c t) rfl rfl (req_one _ _ _ _ _ _ _) hh rfl fun w4 hg4 hh=>k gq w4 hh (grown_below h3 hg4 hgq) hgq
theorem Ask_ok (s:Stp) (key:Int) (o:Off) (b:Bld) {v lv bv:Value} {l:List Int} (hkey:I64 key) (ho:OffR o) (hs:SetR w s v) (hl:Ints w lv l) (hb:BldR w b bv) (hL:Cd.Laid w)
  (k:∀ w',Below w.heap.size w w' → K (.tuple #[.int .i64 (askM s key l o b).1,.int .i64 (askM s key l o b).2]) w') :
  callM Tryz.prog 17 #[stpV s v,.int .i64 key,lv,offV o,bldV b bv] K w:=by
 apply sh_17_ok
 unfold sh_17
 obtain ⟨ad,cc,rfl⟩:=hs.ints.isSlice
 obtain ⟨yad,yc,rfl⟩:=hb.ys.isSlice
 refine box_kn (cs:=stpC s (.slice ad s.bases.length cc)) rfl (.start w) fun b1 W hk hb1 hbb=>?_
 refine box_kn (cs:=offC o) rfl hk fun b2 W2 hk hb2 hbb=>?_
 refine box_kn (cs:=bldC b (.slice yad b.ys.length yc)) rfl hk fun b3 W3 hk hb3 hbb=>?_
 unfold askM at k
 refine Xa hk.cells ?_
 refine ask_ok s key o b hkey ho (hs.next hk.below) (hl.next hk.below) (hb.next hk.below) (hL.below hk.below hL.size) (fun w2 h2=>?_)
 have hk:=hk.next h2
 unfold askV
 by_cases he:askErr s key l o b = 0
 ·rw [if_pos he] at k ⊢
  rw [he] at k ⊢
  repeat (any_goals (first
  | ((with_reducible refine local_req s ad _ cc _ _ _ hk ?_); intro b7 W7 hk hb7 hg7)
  | ((with_reducible refine oM_gen fun Kv hK=>?_); simp [go_sem,hk.cells]; refine hK _ _ ?_; clear hK Kv)))
  exact k _ hk.below
 ·rw [if_neg he] at k ⊢
  repeat (any_goals (first
  | ((with_reducible refine local_req zS none 0 0 0 0 zT hk ?_); intro b7 W7 hk hb7 hg7)
  | ((with_reducible refine oM_gen fun Kv hK=>?_); simp [go_sem,hk.cells]; refine hK _ _ ?_; clear hK Kv)))
  exact k _ hk.below
structure RqC (w0:World) (L:List (Addr × Value)) (g gq:Nat) (s:Stp) (v:Value) (m c:Int) (t:Tkt) (w':World):Prop where
 kn:KnM w0 L g 6 w'
 ex:∃ r,Holds w' gq 132 (reqC s v m c { t with r:=r })
theorem RqC.next {w' w2:World} {g gq:Nat} {s:Stp} {v:Value} {m c:Int} {t:Tkt} (h:RqC w0 L g gq s v m c t w') (hb:Below w'.heap.size w' w2):RqC w0 L g gq s v m c t w2:=⟨h.kn.next hb,h.ex.imp fun _ h=>h.next hb⟩
theorem RqC.cells {w':World} {g gq:Nat} {s:Stp} {v:Value} {m c:Int} {t:Tkt} (h:RqC w0 L g gq s v m c t w'):cellsAre w' (cellsOf [] gq 0 (stpC s v)):=by
 obtain ⟨_,r,hh⟩:=h
 have:=hh.are
 exact ⟨this.1,this.2.1,this.2.2.1,this.2.2.2.1,this.2.2.2.2.1,trivial⟩
theorem build_tkt0 (T:TypeId):oM Tryz.prog (Go.Op.build 41 #[]) T [] = pureM (tktV zT):=by
 funext K w
 kernel_rfl
theorem Finish_ok (s:Stp) (key r:Int) (o:Off) (b:Bld) {v lv bv:Value} {l:List Int} (hkey:I64 key) (hr:I64 r) (ho:OffR o) (hs:SetR w s v) (hl:Ints w lv l) (hb:BldR w b bv) (hL:Cd.Laid w)
  (k:∀ w',Below w.heap.size w w' → K (.tuple #[tktV (finishM s key l o b r).1,.int .i64 (finishM s key l o b r).2]) w') :
  callM Tryz.prog 18 #[stpV s v,.int .i64 key,lv,offV o,bldV b bv,.int .i64 r] K w:=by
 apply sh_18_ok
 unfold sh_18
 obtain ⟨ad,cc,rfl⟩:=hs.ints.isSlice
 obtain ⟨yad,yc,rfl⟩:=hb.ys.isSlice
 have k2:∀ w' x,finishM s key l o b r = x → Below w.heap.size w w' → K (.tuple #[tktV x.1,.int .i64 x.2]) w':=fun w' x e hb=>by rw [← e]; exact k w' hb
 clear k
 refine box_kn (cs:=stpC s (.slice ad s.bases.length cc)) rfl (.start w) fun b1 W hk hb1 hbb=>?_
 refine box_kn (cs:=offC o) rfl hk fun b2 W2 hk hb2 hbb=>?_
 refine box_kn (cs:=bldC b (.slice yad b.ys.length yc)) rfl hk fun b3 W3 hk hb3 hbb=>?_
 refine alloc_mine (n:=6) al_tkt rfl hk fun g W hk hb4 hg=>?_
 clear hb1 hb2 hb3 hb4
 unfold finishM at k2
 refine Xa hk.cells ?_
 refine ask_ok s key o b hkey ho (hs.next hk.below) (hl.next hk.below) (hb.next hk.below) (hL.below hk.below hL.size) (fun w2 h2=>?_)
 have hk:=hk.next h2
 clear h2
 have hglt:=mine_lt hk.mine
 have hcl:=cells_lt hk.cells
 have hk0:=hk.below
 unfold askV
 by_cases he:askErr s key l o b = 0
 ·rw [if_pos he] at ⊢
  rw [he] at k2 ⊢
  have hR:=askTkt_R s l o b
  generalize askTkt s l o b = t at *
  generalize askC s l o b = c at *
  generalize (usableM s l).1 = m at *
  repeat (any_goals (first
  | ((with_reducible refine local_reqH s ad _ cc _ _ _ ?_); intro gq W7 hh hb7 hg7)
  | (with_reducible refine yM ?_)
  | ((with_reducible refine oM_gen fun Kv hK=>?_); simp [go_sem]; refine hK _ _ ?_; clear hK Kv)))
  have hk:=hk.next hb7
  have hgq:gq ≠ g:=by omega
  have hoq:=fun p hp=>Nat.ne_of_lt (Nat.lt_of_lt_of_le (hcl p hp) hg7)
  have hbq:w.heap.size ≤ gq:=by have:=hk0.size; omega
  clear hb7
  rw [if_neg (by decide)] at k2
  repeat (any_goals (first
  | ((with_reducible refine mk1 r hr ?_); intro v8 W8 hb8 hi)
  | ((with_reducible refine oM_gen fun Kv hK=>?_); simp [go_sem,hh.are,hk.cells]; refine hK _ _ ?_; clear hK Kv)))
  have hk:=hk.next hb8
  have hh:=hh.next hb8
  refine nums_ok s 0 (hs.next hk.below) hi (fun w3 h3=>?_)
  have hk:=hk.next h3
  have hh:=hh.next h3
  clear hb8 h3 hi
  cases hn:numsM s 0 [r] with
  | false=>
   rw [hn] at k2
   have k2:=fun w'=>k2 w' _ rfl
   refine Xa (An2 hk.cells @build_tkt0) ?_
   exact store_tkt zT hk (fun W3 hk hc=>⟨_,by simp [go_sem,hc],k2 _ hk.below⟩)
  | true=>
  rw [hn,if_neg (by decide)] at k2
  refine Xa (An2 hh.are hk.cells) ?_
  refine signed_ok s key m c r o ho (hs.next hk.below) (fun w4 h4=>?_)
  have hk:=hk.next h4
  have hh:=hh.next h4
  clear h4
  cases hsg:signedM s key m c r o with
  | false=>
   rw [hsg] at k2
   have k2:=fun w'=>k2 w' _ rfl
   refine Xa (An2 hk.cells @build_tkt0) ?_
   exact store_tkt zT hk (fun W3 hk hc=>⟨_,by simp [go_sem,hc],k2 _ hk.below⟩)
  | true=>
  rw [hsg,if_neg (by decide)] at k2
  have k2:=fun w'=>k2 w' _ rfl
  refine Xa0 ?_
  refine ⟨RqC w _ g gq s _ m c t,⟨hk.drew,t.r,hh.next .drawn⟩,rfl,?_⟩
  clear hk hh
  repeat (any_goals (first
  | (with_reducible refine pureH_in ?_)
  | ((with_reducible refine idOH ?_); (with_reducible refine oH_of ⟨_,rfl⟩ (fun W0 hW0=>by (refine oM_gen (fun Kv hK=>?_)); simp [go_sem,hW0.cells,hW0.kn.cells]; (first | exact hK _ _ ⟨rfl,rfl⟩ | exact ⟨by omega,hK _ _ ⟨rfl,rfl⟩⟩)) ?_))))
  refine ⟨Nx,?_⟩
  intro w1 h1
  refine mk1 b.u hb.u (fun v4 w4 h4 hi=>?_)
  have h1:=h1.next h4
  refine ⟨h1,mul_ok s r (hs.next h1.kn.below) hi (fun w5 h5=>?_)⟩
  have h1:=h1.next h5
  refine ⟨h1,plus_ok s _ b.v (hs.next h1.kn.below) (fun w6 h6=>?_)⟩
  have h1:=h1.next h6
  refine ⟨h1,?_⟩
  refine Xa0 ?_
  refine ⟨h1,?_⟩
  refine Xa0 ?_
  refine ⟨h1,?_⟩
  obtain ⟨hk,r0,hh⟩:=h1
  refine arr_set (i:=12) sz_int rfl rfl hh (show 12 < 13 by decide) (fun w10 hg10 hh=>?_)
  have hk:=hk.wroteOther hg10 hoq hgq.symm hbq
  have hh:Holds w10 gq 132 (reqC s (.slice ad s.bases.length cc) m c { t with r:=plusQ s (mulQ s r [b.u]) b.v }):=hh
  refine ⟨⟨hk,_,hh⟩,?_⟩
  refine Xa hh.are ?_
  exact store_tkt { t with r:=plusQ s (mulQ s r [b.u]) b.v } hk (fun W3 hk hc=>⟨_,by simp [go_sem,hc],k2 _ hk.below⟩)
 ·rw [if_neg he] at ⊢
  rw [if_pos he] at k2
  have k2:=fun w'=>k2 w' _ rfl
  repeat (any_goals (first
  | ((with_reducible refine local_reqH zS none 0 0 0 0 zT ?_); intro gq W7 hh hb7 hg7)
  | (with_reducible refine yL ?_)
  | ((with_reducible refine oM_gen fun Kv hK=>?_); simp [go_sem,hk.cells,he,build_tkt0]; refine hK _ _ ?_; clear hK Kv)))
  have hk:=hk.next hb7
  exact store_tkt zT hk (fun W3 hk hc=>⟨_,by simp [go_sem,hc],k2 _ hk.below⟩)
end
end Go.Proofs
namespace TkSpec
open FdSpec CodeSpec
structure Mir where
 bases:List Int
 blind:Int
structure Ses where
 attrs:List Int
 offer:Off
 c:Int
 r:Int
structure Lnk where
 ticket:Tkt
 spend:Spd
 terms:List UInt8
def innM (s:Stp) (t:Tkt):Int:=if formedM s t then innerQ s t else 0
def validM (s:Stp) (key:Int) (t:Tkt):Bool:=
 formedM s t && keyM s key && !decide (innerQ s t = 0) && signedM s key t.mark (innerQ s t) t.r ⟨t.z,t.a,t.b⟩
def encT (t:Tkt):List UInt8:=encNums [t.mark,t.first,t.z,t.a,t.b,t.r]
def lendM (s:Stp) (t:Tkt) (terms:List UInt8):Int:=
 if validS s then s.g.Q / 2 + 1 + numberM (encT t ++ encText terms) (s.g.Q - 1 - s.g.Q / 2) else 0
def badN (g:Grp) (n:Int):Bool:=decide (n < 1) || decide (g.Q ≤ n)
def makeM (g:Grp) (m:Mir):Stp × Bool:=
 if validG g && decide (2 ≤ m.bases.length) && decide (m.bases.length ≤ 7) && !m.bases.any (badN g) && !badN g m.blind then (⟨g,m.bases.map (powerG g g.G),powerG g g.G m.blind⟩,true)
 else (⟨⟨0,0,0⟩,[],0⟩,false)
def mirrorsM (s:Stp) (m:Mir):Bool:=(makeM s.g m).2 && decide ((makeM s.g m).1.blind = s.blind) && decide ((makeM s.g m).1.bases = s.bases)
def logM (s:Stp) (m:Mir) (attrs:List Int):Int:=((expsM attrs).zip m.bases).foldl (fun o p=>plusQ s o (mulQ s p.1 [p.2])) 0
def obtainedM (s:Stp) (key:Int) (x:Ses) (b:Bld):Tkt × Bool:=
 if decide (askErr s key x.attrs x.offer b = 0) && decide ((askM s key x.attrs x.offer b).1 = x.c) then
  ((finishM s key x.attrs x.offer b x.r).1,decide ((finishM s key x.attrs x.offer b x.r).2 = 0)) else (zT,false)
def explS (s:Stp) (m:Mir) (from':Ses) (b:Bld) (to:Ses):Int:=overQ s (mulQ s b.s [logM s m from'.attrs]) (logM s m to.attrs)
def explB (s:Stp) (m:Mir) (from':Ses) (b:Bld) (to:Ses) (dare:Int) (t:Tkt) (x:Spd):Bld:=
 ⟨explS s m from' b to,overQ s (innerQ s t) to.c,lessQ s t.r (mulQ s to.r [overQ s (innerQ s t) to.c]),
  ((expsM to.attrs).zip x.answers).map fun p=>lessQ s p.2 (mulQ s dare [explS s m from' b to,p.1])⟩
def zB:Bld:=⟨0,0,0,[]⟩
def explFine (s:Stp) (m:Mir) (key:Int) (from':Ses) (b:Bld) (to:Ses) (dare:Int):Bool:=
 (obtainedM s key from' b).2 && (useM s from'.attrs b dare).2 && (usableM s to.attrs).2 && mirrorsM s m && numsM s 1 [to.c] && numsM s 0 [to.r]
def explB' (s:Stp) (m:Mir) (key:Int) (from':Ses) (b:Bld) (to:Ses) (dare:Int):Bld:=
 explB s m from' b to dare (obtainedM s key from' b).1 (useM s from'.attrs b dare).1
def explainM (s:Stp) (m:Mir) (key:Int) (from':Ses) (b:Bld) (to:Ses) (dare:Int):Bld × Bool:=
 if explFine s m key from' b to dare then
  if (obtainedM s key to (explB' s m key from' b to dare)).2 && decide ((obtainedM s key to (explB' s m key from' b to dare)).1 = (obtainedM s key from' b).1) then (explB' s m key from' b to dare,true) else (zB,false)
 else (zB,false)
def linkM (s:Stp) (keys:List Int) (x:Lnk):Bool:=keys.any (fun k=>validM s k x.ticket) && decide (x.terms.length ≤ 8000) && acceptsM s x.ticket x.spend
def chainM (s:Stp) (keys:List Int) (dare:Int):List Lnk → Bool
 | []=>false
 | [x]=>linkM s keys x && decide (x.spend.dare = dare) && decide (x.terms = [])
 | x :: y :: l=>linkM s keys x && decide (x.spend.dare = lendM s y.ticket x.terms) && chainM s keys dare (y :: l)
def followsM (s:Stp) (keys:List Int) (links:List Lnk) (dare:Int):Bool:=
 validS s && decide (1 ≤ links.length) && decide (links.length ≤ 5) && chainM s keys dare links
end TkSpec
