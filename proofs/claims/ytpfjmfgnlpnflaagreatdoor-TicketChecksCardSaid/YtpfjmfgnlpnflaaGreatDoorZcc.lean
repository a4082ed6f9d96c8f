/- Parts of the proof of the seat's statements (TkL, TkM, TkN, HTd, HTc, ShelfT4, CodeSpec, TcB, TcE, TcR, TcR2, TcI, TkO, TkP0, TkP, TkQ): lemmas about the given translation and plain laws. No condition of their own. -/
import Derived.Test.YtpfjmfgnlpnflaaGreatDoorZcb
import Derived.Test.YtpfjmfgnlpnflaaGreatDoorProg
import Derived.Shelf.Strings.Builder1
import Derived.Shelf.Small.Strs
import Derived.Shelf.Small.Wraps
import Derived.Shelf.Strings.BuilderF
import Derived.Shelf.Strings.BuilderK
import Derived.Shelf.Strconv.Atoi
import Derived.Shelf.Strconv.Itoa0
import Derived.Shelf.Strconv.Itoa1
import Derived.Shelf.LaysM
import Derived.Shelf.Strconv.Itoa2
import Derived.Shelf.Strconv.Itoa3
import Derived.Shelf.Strconv.AtoiErrFast
import Derived.Shelf.Strconv.ParseIntEmpty
import Derived.Shelf.Strconv.AtoiFail
import Derived.Shelf.Strconv.Clone
import Derived.Shelf.Strconv.SyntaxError
import Derived.Shelf.LaysC
import Derived.Shelf.Strconv.ToError
import Derived.Shelf.Strconv.Lower
import Derived.Shelf.Strconv.ParseUint10
import Derived.Shelf.Strconv.ParseUint10Empty
import Derived.Shelf.Strconv.ParseUint10Any
import Derived.Shelf.Strconv.ParseInt10
import Derived.Shelf.Strconv.AtoiLong
import Derived.Shelf.Strconv.AtoiInnerAll
import Derived.Shelf.Strconv.RangeError
import Derived.Shelf.Strconv.ToErrorRange
import Derived.Shelf.Strconv.AtoiAll
import Derived.Shelf.Strconv.ErrVarAll
import Derived.Shelf.Strings.Search1
import Derived.Shelf.Strings.Prefix
import Derived.Shelf.Bits.Mul64
import Derived.Test.YtpfjmfgnlpnflaaGreatDoorRows
import Derived.Lib.ItoaNum
import Derived.Lib.AtoiAllCases
import Derived.Lib.Builder
import Derived.Lib.AppendStr
import Derived.Lib.AppendIntMem
import Derived.Laws.StructEq
set_option linter.all false
set_option maxRecDepth 100000
namespace Go.Proofs
open Go Go.Sh Go.RowKit FdSpec TkSpec
section
variable {K:Value → World → Prop} {w w0:World} {L:List (Addr × Value)}
theorem guiltyM_no {s:Stp} {t:Tkt} {a b:Spd} {l:List Int} (h:(gapsM s t a b).2 = false ∨ l.length + 1 ≠ (gapsM s t a b).1.length ∨ numsM s 0 l = false):guiltyM s t a b l = false:=by
 unfold guiltyM
 rw [if_neg]
 rcases h with h | h | h <;> simp [h]
def GuJ (ps:List (Int × Int)) (f:Int × Int → Bool) (R:Bool) (Wl:World) (vs:List Value) (w':World):Prop:=Below Wl.heap.size Wl w' ∧ ∃ (v u o:Value) (i:Nat),vs = [v,u,o,.int .i64 (i:Int)] ∧ i ≤ ps.length ∧ (ps.drop i).all f = R
theorem Guilty_ok (s:Stp) (t:Tkt) (x y:Spd) {v xv yv lv:Value} {l:List Int} (ht:TktR t) (hs:SetR w s v) (hx:SpdR w x xv) (hy:SpdR w y yv) (hl:Ints w lv l)
  (k:∀ w',Below w.heap.size w w' → K (.bool (guiltyM s t x y l)) w'):callM Tryz.prog 32 #[stpV s v,tktV t,spdV x xv,spdV y yv,lv] K w:=by
 apply sh_32_ok
 unfold sh_32
 obtain ⟨ad,c,rfl⟩:=hs.ints.isSlice
 have hx0:=hx
 have hy0:=hy
 obtain ⟨xad,xc,rfl⟩:=hx.answers.isSlice
 obtain ⟨yad,yc,rfl⟩:=hy.answers.isSlice
 obtain ⟨lad,lc,rfl⟩:=hl.isSlice
 have hll:=hl.len
 have k2:∀ w' r,guiltyM s t x y l = r → Below w.heap.size w w' → K (.bool r) w':=fun w' r e hb=>by
  rw [← e]
  exact k w' hb
 clear k
 refine box_kn (cs:=stpC s (.slice ad s.bases.length c)) rfl (.start w) fun b1 W hk hb1 hbb=>?_
 refine box_kn (cs:=tktC t) rfl hk fun b2 W2 hk hb2 hbb=>?_
 refine box_kn (cs:=spdC x (.slice xad x.answers.length xc)) rfl hk fun b3 W3 hk hb3 hbb=>?_
 refine box_kn (cs:=spdC y (.slice yad y.answers.length yc)) rfl hk fun b4 W4 hk hb4 hbb=>?_
 clear hb1 hb2 hb3 hb4
 refine Xa hk.cells ?_
 refine gaps_ok s t x y ht (hs.next hk.below) (hx0.next hk.below) (hy0.next hk.below) (fun w2 s' ad' n' c' ov h2 hgi hcap hds=>?_)
 have hk:=hk.next h2
 have hN:=guiltyM_no (s:=s) (t:=t) (a:=x) (b:=y) (l:=l)
 have hG:=gapsM_len (s:=s) (t:=t) (a:=x) (b:=y)
 have eT:(gapsM s t x y).2 = true → l.length + 1 = (gapsM s t x y).1.length → numsM s 0 l = true → guiltyM s t x y l = (l.zip (gapsM s t x y).1.tail).all fun p=>decide (mulQ s p.1 [(gapsM s t x y).1.headD 0] = p.2):=fun h1 h2 h3=>by
  unfold guiltyM; rw [if_pos (by rw [h1,h3,decide_eq_true h2]; rfl)]
 obtain ⟨⟨gl,u⟩,hg⟩:∃ p,gapsM s t x y = p:=⟨_,rfl⟩
 rw [hg] at hN hG eT hgi hds ⊢
 simp only at hN hG eT hgi hds ⊢
 obtain ⟨oad0,oc0,rfl⟩:=hgi.isSlice
 have hgl:=hgi.len
 cases u with
 | false=>
  repeat (any_goals (first
  | ((with_reducible refine local_desk' s' ad' n' c' hk ?_); intro b7 W7 hk hb7 hg7)
  | (with_reducible first|refine zD ?_|refine yB ?_|refine yL ?_)
  | ((with_reducible refine oM_gen fun Kv hK=>?_); simp [go_sem,hk.cells]; refine hK _ _ ?_; clear hK Kv)))
  exact k2 _ _ (hN (.inl rfl)) hk.below
 | true=>
  have hds:=hds rfl
  obtain ⟨hG,hv⟩:=hG rfl
  have hv7:=validS_len hv
  rw [hds]
  by_cases hlen:l.length + 1 = gl.length
  ·repeat (any_goals (first
   | ((with_reducible refine local_desk' s ad s.bases.length c hk ?_); intro b7 W7 hk hb7 hg7)
   | (with_reducible first|refine pureM_in ?_|((refine idGd ?_); first|refine zC ?_|((refine idGdN ?_); refine zO ?_))|refine yC ?_)
   | ((with_reducible refine oM_gen fun Kv hK=>?_); simp [go_sem,hk.cells]; (try simp (disch:=omega) only [wrapI64,wrapU8,wrapU32,wrapU64]); refine hK _ _ ?_; clear hK Kv)))
   have hk0:=hk
   refine nums_ok s 0 (hs.next hk.below) (hl.next hk.below) (fun w3 h3=>?_)
   have hk:=hk.next h3
   cases hn:numsM s 0 l with
   | false=>
    refine Xa hk.cells ?_
    exact k2 _ _ (hN (.inr (.inr hn))) hk.below
   | true=>
    have eT2:=eT rfl hlen hn
    obtain ⟨x0,hx0⟩:∃ x0,gl.headD 0 = x0:=⟨_,rfl⟩
    obtain ⟨ob,oo,rfl,c8,r8⟩:=hgi.headD (by omega)
    rw [hx0] at c8 r8 eT2
    have c8:=fun w' hb=>c8 w' (hb7.on (h3.on hb))
    have hgi3:=(hgi.next hb7).next h3
    have hzl:(l.zip gl.tail).length = l.length:=by simp; omega
    refine Xa hk.cells ?_
    refine ⟨GuJ (l.zip gl.tail) (fun p=>decide (mulQ s p.1 [x0] = p.2)) _ w3,pdMu l.length,⟨Below.refl _ _,_,_,_,0,rfl,by omega,rfl⟩,?_⟩
    have hk0:=hk
    rintro _ _ w5 ⟨h5,u1,u2,u3,i,rfl,hi,hall⟩
    rw [hzl] at hi
    have hk:=hk0.next h5
    by_cases hin:i = l.length
    ·rw [List.drop_of_length_le (by omega),List.all_nil] at hall
     refine Xa0 ?_
     exact k2 _ _ (eT2.trans hall.symm) hk.below
    ·rw [zip_drop l gl.tail i (by omega) (by rw [List.length_tail]; omega),List.all_cons] at hall
     simp only [List.getElem_tail] at hall
     obtain ⟨b1,o1,rfl,hb1,ca,ra,_⟩:=hl.at (i:=i) (by omega)
     obtain ⟨b2,o2,hbe,hb2,cb,rb,_⟩:=hgi3.at (i:=i + 1) (by omega)
     cases hbe
     refine Xa (An2 (ca _ hk.below) hk.cells) ?_
     refine ⟨fun w'=>Kn w _ w' ∧ Below w3.heap.size w3 w',⟨hk.drew,h5.trans .drawn⟩,?_⟩
     have h5:=h5.trans (Below.drawn (w:=w5))
     have hk:=hk.drew
     have hgl8:0 < gl.length:=by omega
     have e7:IntKind.i64.wrap ((i:Int) + 1) = ((i + 1:Nat):Int):=by rw [wrapI64 _ (by omega) (by omega)]; omega
     repeat (any_goals (first
     | ((with_reducible refine mk1 x0 r8 ?_); intro v7 w7 h7 hi7)
     | (with_reducible refine pureH_in ?_)
     | ((with_reducible refine idOH ?_); (with_reducible refine oH_of ⟨_,rfl⟩ (fun W0 hW0=>by (refine oM_gen (fun Kv hK=>?_)); simp [go_sem,hW0.1.cells,c8 _ hW0.2,e7,cb _ hW0.2]; (first | exact hK _ _ ⟨rfl,rfl⟩ | exact ⟨by omega,hK _ _ ⟨rfl,rfl⟩⟩)) ?_))))
     have hk:=hk.next h7
     have h5:=h5.on h7
     refine ⟨⟨hk,h5⟩,mul_ok s _ (hs.next hk.below) hi7 (fun w8 h8=>?_)⟩
     have hk:=hk.next h8
     have h5:=h5.on h8
     refine ⟨⟨hk,h5⟩,?_⟩
     by_cases he:mulQ s l[i] [x0] = gl[i + 1]
     ·refine Xg @he ?_
      refine ⟨⟨hk,h5⟩,?_⟩
      refine Xa @he ?_
      rw [decide_eq_true he,Bool.true_and] at hall
      refine ⟨⟨h5,_,_,_,i + 1,rfl,by omega,hall⟩,?_⟩
      simp only [pdMu_eq]; omega
     ·refine Xg @he ?_
      refine ⟨⟨hk,h5⟩,?_⟩
      refine Xa @he ?_
      rw [decide_eq_false he,Bool.false_and] at hall
      exact k2 _ _ (eT2.trans hall.symm) hk.below
  ·repeat (any_goals (first
   | ((with_reducible refine local_desk' s ad s.bases.length c hk ?_); intro b7 W7 hk hb7 hg7)
   | (with_reducible first|refine pureM_in ?_|((refine idGd ?_); first|refine zC ?_|((refine idGdN ?_); refine zP ?_))|((refine idPick ?_); first|refine yC ?_|refine yF ?_)|refine yL ?_)
   | ((with_reducible refine oM_gen fun Kv hK=>?_); simp [go_sem,hk.cells]; (try simp (disch:=omega) only [wrapI64,wrapU8,wrapU32,wrapU64]); refine hK _ _ ?_; clear hK Kv)))
   exact k2 _ _ (hN (.inr (.inl hlen))) hk.below
end
end Go.Proofs
namespace Go.Proofs
open Go Go.Sh Go.RowKit FdSpec TkSpec
section
variable {K:Value → World → Prop} {w w0 w1:World} {L:List (Addr × Value)}
theorem sz_spd (w:World):(sizeOf 49).run Tryz.prog w = .ok 2 w:=by kernel_rfl
theorem sz_ints (w:World):(sizeOf 22).run Tryz.prog w = .ok 1 w:=by kernel_rfl
theorem al_spd (w:World):(Instr.alloc 49 true (.tuple #[])).run Tryz.prog w = .ok (.pointer (some ⟨w.heap.size,0,none⟩)) (w.alloc (.cells [.int .i64 0,.slice none 0 0].toArray 49)):=by kernel_rfl
theorem spd_one (x:Spd) (ad:Option Addr) (n c:Nat):∀ u ∈ spdC x (.slice ad n c),u.oneCell' = true:=by
 intro u hu
 simp only [spdC,List.mem_cons,List.not_mem_nil,or_false] at hu
 rcases hu with rfl | rfl <;> rfl
theorem store_spd {K:Value → World → Prop} {T':TypeId} {g:Nat} (x:Spd) (ad:Option Addr) (m c:Nat) (hk:KnM w0 L g 2 w)
  (k:∀ W,KnM w0 L g 2 W → cellsAre W (cellsOf [] g 0 (spdC x (.slice ad m c))) → w.grownBy W (some g) → K undef W):oM Tryz.prog (.store 49 (.tmp 0) (.tmp 1)) T' [.pointer (some ⟨g,0,none⟩),spdV x (.slice ad m c)] K w:=by
 obtain ⟨W,e,hg,hm,hc⟩:=store_run (P:=Tryz.prog) (W:=w) sz_spd (x:=spdV x (.slice ad m c)) rfl rfl (spd_one x ad m c) hk.mine
 rw [oM_store,e]
 exact k W ⟨hk.kn.wrote hg hk.base hk.off,hm,hk.base,hk.off⟩ hc hg
theorem store_row {P:Program} {T T0:TypeId} {g o n:Nat} {cur:Array Value} {x:Value} {xs:List Value} (hT:∀ w,(sizeOf T).run P w = .ok n w) (hx:x.cells = xs.toArray) (hl:xs.length = n) (h1:∀ u ∈ xs,u.oneCell' = true) (hg:w.heap[g]? = some (.cells cur T0 (0,0))) (hfit:o + n ≤ cur.size) :
  (Instr.storeAt T (.pointer (some ⟨g,o,none⟩)) x).run P w = .ok () (w.setRow g (cur.toList.take o ++ xs ++ cur.toList.drop (o + xs.length)).toArray):=by
 have hst:=run_storeCells_at P g o T0 xs 0 cur w hg (by omega) h1
 rw [Nat.add_zero] at hst
 unfold Instr.storeAt storeVar
 have e2:x.cells.toList = xs:=by rw [hx]
 have e3:x.cells.size = n:=by rw [hx]; simpa using hl
 rw [e2,e3]
 rw [List.append_assoc] at hst ⊢
 simp [hT,go_sem]
 exact hst
theorem local_spd {K:Value → World → Prop} {T' T2:TypeId} {g n:Nat} (x:Spd) (hk:KnM w0 L g n w)
  (k:∀ b W,KnM w0 L g n W → Below w.heap.size w W → w.heap.size ≤ b → W.heap[b]? = some (.cells #[.int .i64 x.dare,.slice none 0 0] 49 (0,0)) → K (.pointer (some ⟨b,0,none⟩)) W) :
  oM Tryz.prog (.alloc 49) T' [] (fun v w=>oM Tryz.prog (.store 49 (.tmp 0) (.tmp 1)) T2 [v,spdV x (.slice none 0 0)] (fun _ w=>K v w) w) w:=by
 rw [oM_alloc,al_spd,rM_ok]
 have hb:=(Below.refl w.heap.size w).alloc (Nat.le_refl _) (.cells [Value.int .i64 0,.slice none 0 0].toArray 49)
 have hg0:(w.alloc (.cells [Value.int .i64 0,.slice none 0 0].toArray 49)).heap[w.heap.size]? = some (.cells [Value.int .i64 0,.slice none 0 0].toArray 49 (0,0)):=Array.getElem?_push_size
 generalize w.alloc (.cells [Value.int .i64 0,.slice none 0 0].toArray 49) = W at *
 have hrun:=store_row (P:=Tryz.prog) (w:=W) (o:=0) sz_spd (x:=spdV x (.slice none 0 0)) rfl rfl (spd_one x none 0 0) hg0 (by simp)
 have e1:([Value.int .i64 0,.slice none 0 0].toArray.toList.take 0 ++ spdC x (.slice none 0 0) ++ [Value.int .i64 0,.slice none 0 0].toArray.toList.drop (0 + (spdC x (.slice none 0 0)).length)).toArray = #[.int .i64 x.dare,.slice none 0 0]:=by simp
 rw [e1] at hrun
 have hh:=setRow_heap W w.heap.size _ #[Value.int .i64 x.dare,.slice none 0 0] 49 (0,0) hg0
 rw [oM_store,hrun]
 have hb2:Below w.heap.size w (W.setRow w.heap.size #[Value.int .i64 x.dare,.slice none 0 0]):=hb.grown (grown_setRow _ _ _) hb.size (fun k hk=>by cases hk; exact Nat.le_refl _)
 exact k _ _ (hk.next hb2) hb2 (Nat.le_refl _) hh
theorem store_second {K:Value → World → Prop} {T':TypeId} {g:Nat} {ad:Option Addr} {m c:Nat} {a b:Value} (hg:w.heap[g]? = some (.cells #[a,b] 49 (0,0)))
  (k:∀ W,w.grownBy W (some g) → W.heap[g]? = some (.cells #[a,.slice ad m c] 49 (0,0)) → K undef W):oM Tryz.prog (.store 22 (.tmp 0) (.tmp 1)) T' [.pointer (some ⟨g,1,none⟩),.slice ad m c] K w:=by
 have hrun:=store_row (P:=Tryz.prog) (o:=1) sz_ints (x:=.slice ad m c) rfl rfl (xs:=[Value.slice ad m c]) (by intro u hu; simp at hu; subst hu; rfl) hg (by simp)
 have hh:=setRow_heap w g _ #[a,.slice ad m c] 49 (0,0) hg
 have e1:(#[a,b].toList.take 1 ++ [Value.slice ad m c] ++ #[a,b].toList.drop (1 + [Value.slice ad m c].length)).toArray = #[a,.slice ad m c]:=by simp
 rw [e1] at hrun
 rw [oM_store,hrun]
 exact k _ (grown_setRow _ _ _) hh
abbrev FrG (g:Nat) (w w':World):Prop:=Fr (fun i=>i = g) w w'
theorem FrG.next {g:Nat} {w':World} (h:FrG g w w1) (hb:Below w1.heap.size w1 w'):FrG g w w':=
 h.trans (S':=fun _=>False) ⟨hb.os,hb.tape,hb.output,hb.size,fun i hi _=>hb.block i hi⟩ (fun _ h=>h.elim)
theorem FrG.below {g:Nat} {w':World} (h0:Below w.heap.size w w1) (h:FrG g w1 w') (hg:w.heap.size ≤ g):Below w.heap.size w w':=
 ⟨h.os.trans h0.os,h.tape.trans h0.tape,h.output.trans h0.output,Nat.le_trans h0.size h.size,fun i hi=>(h.block i (Nat.lt_of_lt_of_le hi h0.size) (fun e=>by omega)).trans (h0.block i hi)⟩
theorem cellsAre_fr {g:Nat} {w':World} (hL:cellsAre w L) (h:FrG g w w') (hn:∀ p ∈ L,p.1.block ≠ g):cellsAre w' L:=
 cellsAre_keepBut hL hn fun a ha hna=>World.cell?_of_block (w:=w) (h.block _ ha hna)
theorem _root_.Go.Sh.KnM.fr {g n g':Nat} {w':World} (hk:KnM w0 L g n w) (h:FrG g' w w') (hoff:∀ p ∈ L,p.1.block ≠ g') (hne:g ≠ g') (hb:w0.heap.size ≤ g'):KnM w0 L g n w':=by
 obtain ⟨cur,T,h1,h2⟩:=hk.mine
 exact ⟨⟨FrG.below hk.below h hb,cellsAre_fr hk.cells h hoff⟩,⟨cur,T,by rw [h.block g (mine_lt hk.mine) hne]; exact h1,h2⟩,hk.base,hk.off⟩
theorem Ints.fr {g:Nat} {w':World} {v:Value} {l:List Int} (hi:Ints w v l) (h:FrG g w w') (hne:∀ i,Value.inBlock v = some i → i ≠ g):Ints w' v l:=
 ⟨hi.row.keep h.size (fun i e hlt=>h.block i hlt (hne i e)),hi.rng,hi.len⟩
def UsC (St:World → Prop) (j:Nat) (w':World):Prop:=j ≤ 4 → St w'
theorem usGet {St:World → Prop} {n:Nat} {w':World} (h:upto (UsC St) n w') (hn:n ≤ 4):St w':=by
 obtain ⟨s,hs,hc⟩:=h
 exact hc (Nat.le_trans hs hn)
end
end Go.Proofs
namespace Go.Proofs
open Go Go.Sh Go.RowKit FdSpec TkSpec
section
variable {K:Value → World → Prop} {w w0 w1:World} {L:List (Addr × Value)}
def ansL (s:Stp) (l:List Int) (b:Bld) (dare:Int):List Int:=((expsM l).zip b.ys).map fun p=>plusQ s p.2 (mulQ s dare [b.s,p.1])
theorem useM_no {s:Stp} {l:List Int} {b:Bld} {dare:Int} (h:(usableM s l).2 = false ∨ blindsM s b = false ∨ numsM s 1 [dare] = false):useM s l b dare = (⟨0,[]⟩,false):=by
 unfold useM
 rw [if_neg]
 rcases h with h | h | h <;> simp [h]
theorem useM_yes {s:Stp} {l:List Int} {b:Bld} {dare:Int} (h1:(usableM s l).2 = true) (h2:blindsM s b = true) (h3:numsM s 1 [dare] = true):useM s l b dare = (⟨dare,ansL s l b dare⟩,true):=by
 unfold useM
 rw [if_pos (by rw [h1,h2,h3]; rfl)]
 rfl
theorem usable_len {s:Stp} {l:List Int} (h:(usableM s l).2 = true):l.length + 1 = s.bases.length ∧ validS s = true:=by
 unfold usableM at h
 simp only [Bool.and_eq_true] at h
 have h:=h.1
 unfold markM at h
 split at h
 ·rename_i hc
  simp only [Bool.and_eq_true,decide_eq_true_eq] at hc
  exact ⟨hc.1.1.2,hc.1.1.1⟩
 ·cases h
theorem blinds_len {s:Stp} {b:Bld} (h:blindsM s b = true):b.ys.length = s.bases.length:=by
 unfold blindsM at h
 simp only [Bool.and_eq_true,decide_eq_true_eq] at h
 exact h.1.2
def UsJ (al:List Int) (dare:Int) (g13:Nat) (Wl:World) (vs:List Value) (w':World):Prop:=FrG g13 Wl w' ∧ ∃ (v u ov:Value) (i:Nat),vs = [v,u,.int .i64 (i:Int)] ∧ i ≤ al.length ∧ OwnI w' Wl.heap.size ov (al.take i) ∧ w'.heap[g13]? = some (.cells #[.int .i64 dare,ov] 49 (0,0))
theorem Use_okF (s:Stp) (b:Bld) (dare:Int) {v bv lv:Value} {l:List Int} (hd:I64 dare) (hs:SetR w s v) (hl:Ints w lv l) (hb:BldR w b bv)
  (k:∀ w' ov,Below w.heap.size w w' → Ints w' ov (useM s l b dare).1.answers → (∀ i,Value.inBlock ov = some i → w.heap.size ≤ i) → K (.tuple #[spdV (useM s l b dare).1 ov,.bool (useM s l b dare).2]) w'):callM Tryz.prog 15 #[stpV s v,lv,bldV b bv,.int .i64 dare] K w:=by
 apply sh_15_ok
 unfold sh_15
 obtain ⟨ad,c,rfl⟩:=hs.ints.isSlice
 have hys:=hb.ys
 have hb0:=hb
 obtain ⟨yad,yc,rfl⟩:=hb.ys.isSlice
 have k2:∀ w' ov r,useM s l b dare = r → Below w.heap.size w w' → Ints w' ov r.1.answers → (∀ i,Value.inBlock ov = some i → w.heap.size ≤ i) → K (.tuple #[spdV r.1 ov,.bool r.2]) w':=fun w' ov r e hb hi hf=>by
  rw [← e] at hi ⊢
  exact k w' ov hb hi hf
 clear k
 refine box_kn (cs:=stpC s (.slice ad s.bases.length c)) rfl (.start w) fun b1 W hk hb1 hbb=>?_
 refine box_kn (cs:=bldC b (.slice yad b.ys.length yc)) rfl hk fun b2 W2 hk hb2 hbb=>?_
 refine alloc_mine (n:=2) al_spd rfl hk fun g W2 hk hb2 hg=>?_
 clear hb1 hb2
 refine Xa hk.cells ?_
 refine usable_ok s (hs.next hk.below) (hl.next hk.below) (fun w2 h2=>?_)
 have hk:=hk.next h2
 clear h2
 have hno:=useM_no (s:=s) (l:=l) (b:=b) (dare:=dare)
 cases hu:(usableM s l).2 with
 | false=>
  repeat (any_goals (first
  | ((with_reducible refine local_desk s ad s.bases.length c hk ?_); intro b7 W7 hk hb7 hg7)
  | (with_reducible first|refine zD ?_|refine yB ?_|refine yL ?_)
  | ((with_reducible refine oM_gen fun Kv hK=>?_); simp [go_sem,hk.cells]; refine hK _ _ ?_; clear hK Kv)))
  exact store_spd ⟨0,[]⟩ none 0 0 hk (fun W3 hk hc _=>⟨_,by simp [go_sem,hc],k2 _ _ _ (hno (.inl hu)) hk.below (Ints.nil _) (fun i hi=>by cases hi)⟩)
 | true=>
  obtain ⟨hll,hv⟩:=usable_len hu
  have hv7:=validS_len hv
  repeat (any_goals (first
  | ((with_reducible refine local_desk s ad s.bases.length c hk ?_); intro b7 W7 hk hb7 hg7)
  | (with_reducible refine zC ?_)
  | ((with_reducible refine oM_gen fun Kv hK=>?_); simp [go_sem,hk.cells]; refine hK _ _ ?_; clear hK Kv)))
  refine blinds_ok s b (hs.next hk.below) (hb0.next hk.below) (fun w3 h3=>?_)
  have hk:=hk.next h3
  cases hbl:blindsM s b with
  | false=>
   refine Xa hk.cells ?_
   exact store_spd ⟨0,[]⟩ none 0 0 hk (fun W3 hk hc _=>⟨_,by simp [go_sem,hc],k2 _ _ _ (hno (.inr (.inl hbl))) hk.below (Ints.nil _) (fun i hi=>by cases hi)⟩)
  | true=>
   have hyl:=blinds_len hbl
   repeat (any_goals (first
   | ((with_reducible refine mk1 dare hd ?_); intro v8 W8 hb8 hi)
   | (with_reducible first|refine pureM_in ?_|refine zC ?_|refine yC ?_)
   | ((with_reducible refine oM_gen fun Kv hK=>?_); simp [go_sem,hk.cells]; refine hK _ _ ?_; clear hK Kv)))
   have hk:=hk.next hb8
   refine nums_ok s 1 (hs.next hk.below) hi (fun w4 h4=>?_)
   have hk:=hk.next h4
   cases hn:numsM s 1 [dare] with
   | false=>
    refine Xa hk.cells ?_
    exact store_spd ⟨0,[]⟩ none 0 0 hk (fun W3 hk hc _=>⟨_,by simp [go_sem,hc],k2 _ _ _ (hno (.inr (.inr hn))) hk.below (Ints.nil _) (fun i hi=>by cases hi)⟩)
   | true=>
    have ey:=useM_yes hu hbl hn
    have hgW:g < w4.heap.size:=mine_lt hk.mine
    have hoffL:=cells_lt hk.cells
    repeat (any_goals (first
    | ((with_reducible refine local_spd ⟨dare,[]⟩ hk ?_); intro g13 W9 hk hb9 hg13 hh13)
    | (with_reducible first|refine zC ?_|refine yC ?_|refine yM ?_)
    | ((with_reducible refine oM_gen fun Kv hK=>?_); simp [go_sem,hk.cells]; refine hK _ _ ?_; clear hK Kv)))
    refine exps_ok (hl.next hk.below) (by omega) (by omega) (fun ev w5 he h5 hff=>?_)
    have hg13W:=(Array.getElem?_eq_some_iff.1 hh13).1
    have hh13:w5.heap[g13]? = some (.cells #[.int .i64 dare,.slice none 0 0] 49 (0,0)):=by rw [h5.block g13 hg13W]; exact hh13
    have hk:=hk.next h5
    have hel:(expsM l).length = l.length + 1:=rfl
    have hal:(ansL s l b dare).length = l.length + 1:=by simp [ansL,hel]; omega
    have hat:∀ (i:Nat) (h1:i < (expsM l).length) (h2:i < b.ys.length),(ansL s l b dare)[i]? = some (plusQ s b.ys[i] (mulQ s dare [b.s,(expsM l)[i]])):=fun i h1 h2=>by
     simp [ansL,h1,h2,List.getElem?_zip_eq_some]
     exact ⟨_,_,⟨rfl,rfl⟩,rfl⟩
    have hrng:∀ n ∈ ansL s l b dare,I64 n:=by
     intro n hn
     obtain ⟨m,_,rfl⟩:=List.mem_map.1 hn
     exact addM_I64 _ _ _
    generalize ansL s l b dare = al at *
    obtain ⟨ead,ec,rfl⟩:=he.isSlice
    have hs5:=h5.size
    have hs9:=hb9.size
    have hing:∀ i,Value.inBlock (.slice ead (expsM l).length ec) = some i → i ≠ g13:=fun i hi=>by
     have:=hff i hi
     omega
    refine Xa0 ?_
    refine ⟨UsJ al dare g13 w5,vsMu (expsM l).length,⟨Fr.refl _ _,_,_,.slice none 0 0,0,rfl,by omega,World.ownsRow_nil _ _ _ _,hh13⟩,?_⟩
    have hk0:=hk
    have hgne:g ≠ g13:=by omega
    have hoff13:∀ p ∈ cellsOf (cellsOf (cellsOf [] b1 0 (stpC s (.slice ad s.bases.length c))) b2 0 (bldC b (.slice yad b.ys.length yc))) b7 0 (stpC s (.slice ad s.bases.length c)),p.1.block ≠ g13:=fun p hp=>by have:=hoffL p hp; omega
    have hw13:w.heap.size ≤ g13:=Nat.le_trans hk0.base (by omega)
    rintro _ _ w6 ⟨h6,u1,u2,ov,i,rfl,hi,ho,hh⟩
    have hk:=hk0.fr h6 hoff13 hgne hw13
    by_cases hin:i = (expsM l).length
    ·rw [List.take_of_length_le (by omega)] at ho
     have hints:=ho.ints hrng (by omega)
     obtain ⟨g',cap,cur,rfl,hlt,hB,_,_,_,hcell⟩:=owns_cells ho (by omega)
     have c0:w6.cell? ⟨g13,0,none⟩ = some (.int .i64 dare):=by rw [cell_of_block hh]; rfl
     have c1:w6.cell? ⟨g13,1,none⟩ = some (.slice (some ⟨g',0,none⟩) al.length cap):=by rw [cell_of_block hh]; rfl
     refine Xa (An2 @c0 @c1) ?_
     refine store_spd ⟨dare,al⟩ _ _ _ hk (fun W3 hk hc hgr=>⟨_,by simp [go_sem,hc],k2 _ _ _ ey hk.below ⟨hints.row.keep hgr.size (fun i hi hlt=>hgr.block i hlt ?_),hrng,by show al.length ≤ _; omega⟩ (fun i hi=>by cases hi; have:=hk0.below.size; show w.heap.size ≤ g'; omega)⟩)
     cases hi
     intro e
     have e2:g' = g:=Option.some.inj e
     omega
    ·have hev:=Ints.fr he h6 hing
     have hed:=FrG.below hk0.below h6 hw13
     obtain ⟨b8,o8,rfl,hb8',ca,ra,_⟩:=hev.at (i:=i) (by omega)
     obtain ⟨b9,o9,rfl,hb9',cb,rb,_⟩:=hys.at (i:=i) (by omega)
     have c1:∀ w',Below w6.heap.size w6 w' → w'.heap[g13]? = some (.cells #[.int .i64 dare,ov] 49 (0,0)):=fun w' hw=>by rw [hw.block g13 (Array.getElem?_eq_some_iff.1 hh).1]; exact hh
     refine Xa (ca _ (Below.refl _ _)) ?_
     refine ⟨UsC (fun w'=>KnM w _ g 2 w' ∧ Below w.heap.size w w' ∧ w'.cell? ⟨g13,1,none⟩ = some ov),fun _=>⟨hk.drew,hk.drew.below,by rw [cell_of_block (c1 _ .drawn)]; rfl⟩,?_⟩
     have hk:=hk.drew
     have ho:=ho.keep (Below.drawn (w:=w6))
     have h7:Below w6.heap.size w6 { w6 with drawn:=w6.drawn + 1 }:=.drawn
     have hfr:=FrG.next h6 h7
     have hh1:=c1 _ h7
     repeat (any_goals (first
     | ((with_reducible refine mk2 b.s _ hb.s ra ?_); intro v10 w10 h10 hi10)
     | (with_reducible refine pureH_in ?_)
     | ((with_reducible refine idOH ?_); (with_reducible refine oH_of ⟨_,rfl⟩ (fun W0 hW0=>by (refine oM_gen (fun Kv hK=>?_)); simp [go_sem,(usGet hW0 (by omega)).1.cells,(usGet hW0 (by omega)).2.2,cb _ (usGet hW0 (by omega)).2.1]; (first | exact hK _ _ ⟨rfl,rfl⟩ | exact ⟨by omega,hK _ _ ⟨rfl,rfl⟩⟩)) ?_))))
     have hk:=hk.next h10
     have hh1:w10.heap[g13]? = _:=(h10.block g13 (Array.getElem?_eq_some_iff.1 hh1).1).trans hh1
     have ho:=ho.keep h10
     have hfr:=hfr.next h10
     refine ⟨fun _=>⟨hk,hk.below,by rw [cell_of_block hh1]; rfl⟩,mul_ok s _ (hs.next hk.below) hi10 (fun w11 h11=>?_)⟩
     have hk:=hk.next h11
     have hh1:w11.heap[g13]? = _:=(h11.block g13 (Array.getElem?_eq_some_iff.1 hh1).1).trans hh1
     have ho:=ho.keep h11
     have hfr:=hfr.next h11
     refine ⟨fun _=>⟨hk,hk.below,by rw [cell_of_block hh1]; rfl⟩,plus_ok s _ _ (hs.next hk.below) (fun w12 h12=>?_)⟩
     have hk:=hk.next h12
     have hh1:w12.heap[g13]? = _:=(h12.block g13 (Array.getElem?_eq_some_iff.1 hh1).1).trans hh1
     have ho:=ho.keep h12
     have hfr:=hfr.next h12
     refine ⟨fun _=>⟨hk,hk.below,by rw [cell_of_block hh1]; rfl⟩,mk1 _ (addM_I64 _ _ _) (fun v13 w13 h13 hi13=>?_)⟩
     have hk:=hk.next h13
     have hh1:w13.heap[g13]? = _:=(h13.block g13 (Array.getElem?_eq_some_iff.1 hh1).1).trans hh1
     have ho:=ho.keep h13
     have hfr:=hfr.next h13
     refine ⟨fun _=>⟨hk,hk.below,by rw [cell_of_block hh1]; rfl⟩,append1 ho hfr.size hi13 (by simp; omega) (fun v14 w14 ho h14=>?_)⟩
     have hg5:g13 < w5.heap.size:=by omega
     have hh1:w14.heap[g13]? = _:=(h14.block g13 hg5).trans hh1
     have hfr:FrG g13 w5 w14:=hfr.trans (S':=fun i=>w5.heap.size ≤ i) ⟨h14.os,h14.tape,h14.output,h14.size,fun i hi hn=>h14.block i (by omega)⟩ (fun i h=>.inr h)
     refine ⟨fun h=>absurd h (by omega),?_⟩
     have hli:((al.take i) ++ [plusQ s b.ys[i] (mulQ s dare [b.s,(expsM l)[i]])]) = al.take (i + 1):=by
      rw [List.take_add_one,hat i (by omega) (by omega)]
      rfl
     rw [hli] at ho
     obtain ⟨oad,oc,hov⟩:=owns_len ho
     subst hov
     refine Xa0 ?_
     refine ⟨fun h=>absurd h (by omega),store_second hh1 (fun w15 hgr hh2=>⟨fun h=>absurd h (by omega),?_⟩)⟩
     have hfr:FrG g13 w5 w15:=hfr.by hgr (fun i e=>.inl (Option.some.inj e).symm)
     have ho:OwnI w15 w5.heap.size _ _:=owns_keep ho (fun j hj=>hgr.block j (owns_own ho hj).1 (fun e=>by have:=(owns_own ho hj).2.1; have:=Option.some.inj e; omega))
     refine Xa0 ?_
     refine ⟨⟨hfr,_,_,_,i + 1,rfl,by omega,ho,hh2⟩,?_⟩
     simp only [vsMu_eq]; omega
theorem Use_ok (s:Stp) (b:Bld) (dare:Int) {v bv lv:Value} {l:List Int} (hd:I64 dare) (hs:SetR w s v) (hl:Ints w lv l) (hb:BldR w b bv)
  (k:∀ w' ov,Below w.heap.size w w' → Ints w' ov (useM s l b dare).1.answers → K (.tuple #[spdV (useM s l b dare).1 ov,.bool (useM s l b dare).2]) w'):callM Tryz.prog 15 #[stpV s v,lv,bldV b bv,.int .i64 dare] K w:=by
 exact Use_okF s b dare hd hs hl hb (fun w' ov h1 h2 _=>k w' ov h1 h2)
end
end Go.Proofs
namespace Go.Proofs
open Go.Sh Tryz
def sh_21 (K:Value → World → Prop) (w:World):Prop:=
 oM prog (.build 30 #[(0,(.tmp 0)),(1,(.tmp 1)),(2,(.tmp 2))]) 30 [(.int .i64 23),(.int .i64 11),(.int .i64 4)] (fun v18 w=>
 oM prog (.buildSlice 22 3 #[(0,(.tmp 0)),(1,(.tmp 1)),(2,(.tmp 2))]) 22 [(.int .i64 4),(.int .i64 16),(.int .i64 18)] (fun v19 w=>
 oM prog (.build 32 #[(0,(.tmp 0)),(1,(.tmp 1)),(2,(.tmp 2))]) 32 [v18,v19,(.int .i64 3)] (fun v20 w=>
 oM prog (.alloc 32) 0 [] (fun v1 w=>
 oM prog (.store 32 (.tmp 0) (.tmp 1)) 0 [v1,v20] (fun _ w=>
 oM prog (.buildSlice 22 2 #[(0,(.tmp 0)),(1,(.tmp 1))]) 22 [(.int .i64 5),(.int .i64 7)] (fun v21 w=>
 oM prog (.buildSlice 22 3 #[(0,(.tmp 0)),(1,(.tmp 1)),(2,(.tmp 2))]) 22 [(.int .i64 1),(.int .i64 2),(.int .i64 3)] (fun v22 w=>
 oM prog (.build 45 #[(0,(.tmp 0)),(1,(.tmp 1)),(3,(.tmp 2))]) 45 [(.int .i64 4),(.int .i64 1),v22] (fun v23 w=>
 oM prog (.alloc 45) 0 [] (fun v3 w=>
 oM prog (.store 45 (.tmp 0) (.tmp 1)) 0 [v3,v23] (fun _ w=>
 oM prog (.load 32 (.tmp 0)) 32 [v1] (fun v25 w=>
 callM prog 34 #[v25,(.int .i64 3),v21,(.int .i64 2)] (fun v27 w=>
 oM prog (.extract (.tmp 0) 0) 37 [v27] (fun v28 w=>
 oM prog (.extract (.tmp 0) 1) 54 [v27] (fun v29 w=>
 oM prog (.alloc 37) 0 [] (fun v4 w=>
 oM prog (.store 37 (.tmp 0) (.tmp 1)) 0 [v4,v28] (fun _ w=>
 oM prog (.load 32 (.tmp 0)) 32 [v1] (fun v31 w=>
 oM prog (.load 45 (.tmp 0)) 45 [v3] (fun v33 w=>
 callM prog 15 #[v31,v21,v33,(.int .i64 2)] (fun v34 w=>
 oM prog (.extract (.tmp 0) 0) 49 [v34] (fun v35 w=>
 oM prog (.extract (.tmp 0) 1) 4 [v34] (fun v36 w=>
 oM prog (.alloc 49) 0 [] (fun v6 w=>
 oM prog (.store 49 (.tmp 0) (.tmp 1)) 0 [v6,v35] (fun _ w=>
 oM prog (.load 32 (.tmp 0)) 32 [v1] (fun v38 w=>
 oM prog (.load 45 (.tmp 0)) 45 [v3] (fun v40 w=>
 callM prog 15 #[v38,v21,v40,(.int .i64 5)] (fun v41 w=>
 oM prog (.extract (.tmp 0) 0) 49 [v41] (fun v42 w=>
 oM prog (.extract (.tmp 0) 1) 4 [v41] (fun v43 w=>
 oM prog (.alloc 49) 0 [] (fun v8 w=>
 oM prog (.store 49 (.tmp 0) (.tmp 1)) 0 [v8,v42] (fun _ w=>
 oM prog (.build 41 #[(0,(.tmp 0)),(1,(.tmp 1)),(2,(.tmp 2)),(3,(.tmp 3)),(4,(.tmp 4))]) 41 [(.int .i64 8),(.int .i64 18),(.int .i64 9),(.int .i64 16),(.int .i64 13)] (fun v44 w=>
 oM prog (.alloc 41) 0 [] (fun v10 w=>
 oM prog (.store 41 (.tmp 0) (.tmp 1)) 0 [v10,v44] (fun _ w=>
 oM prog (.load 32 (.tmp 0)) 32 [v1] (fun v46 w=>
 oM prog (.load 41 (.tmp 0)) 41 [v10] (fun v47 w=>
 oM prog (.load 49 (.tmp 0)) 49 [v6] (fun v48 w=>
 oM prog (.load 49 (.tmp 0)) 49 [v8] (fun v49 w=>
 callM prog 31 #[v46,v47,v48,v49] (fun v50 w=>
 oM prog (.extract (.tmp 0) 0) 22 [v50] (fun v51 w=>
 oM prog (.extract (.tmp 0) 1) 4 [v50] (fun v52 w=>
 oM prog (.load 32 (.tmp 0)) 32 [v1] (fun v54 w=>
 oM prog (.load 41 (.tmp 0)) 41 [v10] (fun v55 w=>
 oM prog (.load 49 (.tmp 0)) 49 [v6] (fun v56 w=>
 oM prog (.load 49 (.tmp 0)) 49 [v6] (fun v57 w=>
 callM prog 31 #[v54,v55,v56,v57] (fun v58 w=>
 oM prog (.extract (.tmp 0) 0) 22 [v58] (fun v59 w=>
 oM prog (.extract (.tmp 0) 1) 4 [v58] (fun v60 w=>
 oM prog (.fieldAddr 49 (.tmp 0) 1) 0 [v6] (fun v61 w=>
 oM prog (.load 22 (.tmp 0)) 22 [v61] (fun v62 w=>
 oM prog (.buildSlice 22 3 #[(0,(.tmp 0)),(1,(.tmp 1)),(2,(.tmp 2))]) 22 [(.int .i64 9),(.int .i64 9),(.int .i64 4)] (fun v63 w=>
 callM prog 33 #[v62,v63] (fun v64 w=>
 oM prog (.unOp .not 4 (.tmp 0)) 4 [v64] (fun v65 w=>
 gdM (gd v65 false) (oM prog (.fieldAddr 49 (.tmp 0) 1) 0 [v8]) (fun v67 w=>
 gdM (gd v65 false) (oM prog (.load 22 (.tmp 0)) 22 [v67]) (fun v68 w=>
 gdM (gd v65 false) (oM prog (.buildSlice 22 3 #[(0,(.tmp 0)),(1,(.tmp 1)),(2,(.tmp 2))]) 22 [(.int .i64 10),(.int .i64 3),(.int .i64 0)]) (fun v69 w=>
 gdM (gd v65 false) (callM prog 33 #[v68,v69]) (fun v70 w=>
 gdM (gd v65 false) (oM prog (.unOp .not 4 (.tmp 0)) 4 [v70]) (fun v71 w=>
 oM prog (.pick (.tmp 0) (.tmp 1) (.tmp 2)) 4 [v65,(.bool true),v71] (fun v72 w=>
 gdM (gd v72 false) (pureM v36) (fun v74 w=>
 gdM (gd v72 false) (oM prog (.unOp .not 4 (.tmp 0)) 4 [v74]) (fun v75 w=>
 oM prog (.pick (.tmp 0) (.tmp 1) (.tmp 2)) 4 [v72,(.bool true),v75] (fun v76 w=>
 gdM (gd v76 false) (pureM v43) (fun v78 w=>
 gdM (gd v76 false) (oM prog (.unOp .not 4 (.tmp 0)) 4 [v78]) (fun v79 w=>
 oM prog (.pick (.tmp 0) (.tmp 1) (.tmp 2)) 4 [v76,(.bool true),v79] (fun v80 w=>
 gdM (gd v80 false) (pureM v51) (fun v82 w=>
 gdM (gd v80 false) (pureM v21) (fun v83 w=>
 gdM (gd v80 false) (callM prog 33 #[v82,v83]) (fun v84 w=>
 gdM (gd v80 false) (oM prog (.unOp .not 4 (.tmp 0)) 4 [v84]) (fun v85 w=>
 oM prog (.pick (.tmp 0) (.tmp 1) (.tmp 2)) 4 [v80,(.bool true),v85] (fun v86 w=>
 gdM (gd v86 false) (pureM v52) (fun v88 w=>
 gdM (gd v86 false) (oM prog (.unOp .not 4 (.tmp 0)) 4 [v88]) (fun v89 w=>
 oM prog (.pick (.tmp 0) (.tmp 1) (.tmp 2)) 4 [v86,(.bool true),v89] (fun v90 w=>
 gdM (gd v90 false) (pureM v60) (fun v92 w=>
 oM prog (.pick (.tmp 0) (.tmp 1) (.tmp 2)) 4 [v90,(.bool true),v92] (fun v93 w=>
 condM v93
 (K (.bool false) w)
 (oM prog (.fieldAddr 49 (.tmp 0) 1) 0 [v6] (fun v94 w=>
 oM prog (.load 22 (.tmp 0)) 22 [v94] (fun v95 w=>
 oM prog (.build 49 #[(0,(.tmp 0)),(1,(.tmp 1))]) 49 [(.int .i64 3),v95] (fun v96 w=>
 oM prog (.alloc 49) 0 [] (fun v15 w=>
 oM prog (.store 49 (.tmp 0) (.tmp 1)) 0 [v15,v96] (fun _ w=>
 oM prog (.load 32 (.tmp 0)) 32 [v1] (fun v97 w=>
 callM prog 80 #[v97,v21] (fun v99 w=>
 oM prog (.binOp .eql 3 (.tmp 0) (.const (.int .i64 6)) 3) 4 [v99] (fun v100 w=>
 gdM (gd v100 true) (oM prog (.load 32 (.tmp 0)) 32 [v1]) (fun v102 w=>
 gdM (gd v100 true) (pureM v21) (fun v103 w=>
 gdM (gd v100 true) (callM prog 81 #[v102,v103]) (fun v104 w=>
 oM prog (.pick (.tmp 0) (.tmp 1) (.tmp 2)) 4 [v100,v104,(.bool false)] (fun v105 w=>
 gdM (gd v105 true) (oM prog (.load 32 (.tmp 0)) 32 [v1]) (fun v107 w=>
 gdM (gd v105 true) (oM prog (.buildSlice 22 2 #[(0,(.tmp 0)),(1,(.tmp 1))]) 22 [(.int .i64 5),(.int .i64 0)]) (fun v108 w=>
 gdM (gd v105 true) (callM prog 81 #[v107,v108]) (fun v109 w=>
 gdM (gd v105 true) (oM prog (.unOp .not 4 (.tmp 0)) 4 [v109]) (fun v110 w=>
 oM prog (.pick (.tmp 0) (.tmp 1) (.tmp 2)) 4 [v105,v110,(.bool false)] (fun v111 w=>
 gdM (gd v111 true) (oM prog (.load 32 (.tmp 0)) 32 [v1]) (fun v113 w=>
 gdM (gd v111 true) (callM prog 13 #[v113,(.int .i64 3)]) (fun v114 w=>
 gdM (gd v111 true) (oM prog (.binOp .eql 3 (.tmp 0) (.const (.int .i64 18)) 3) 4 [v114]) (fun v115 w=>
 oM prog (.pick (.tmp 0) (.tmp 1) (.tmp 2)) 4 [v111,v115,(.bool false)] (fun v116 w=>
 gdM (gd v116 true) (oM prog (.load 32 (.tmp 0)) 32 [v1]) (fun v118 w=>
 gdM (gd v116 true) (callM prog 13 #[v118,(.int .i64 0)]) (fun v119 w=>
 gdM (gd v116 true) (oM prog (.binOp .eql 3 (.tmp 0) (.const (.int .i64 0)) 3) 4 [v119]) (fun v120 w=>
 oM prog (.pick (.tmp 0) (.tmp 1) (.tmp 2)) 4 [v116,v120,(.bool false)] (fun v121 w=>
 oM prog (.binOp .eql 54 (.tmp 0) (.const (.int .i64 0)) 54) 4 [v29] (fun v123 w=>
 gdM (gd v123 true) (oM prog (.load 37 (.tmp 0)) 37 [v4]) (fun v125 w=>
 gdM (gd v123 true) (oM prog (.build 37 #[(0,(.tmp 0)),(1,(.tmp 1)),(2,(.tmp 2))]) 37 [(.int .i64 9),(.int .i64 16),(.int .i64 13)]) (fun v126 w=>
 gdM (gd v123 true) (oM prog (.binOp .eql 37 (.tmp 0) (.tmp 1) 37) 4 [v125,v126]) (fun v127 w=>
 oM prog (.pick (.tmp 0) (.tmp 1) (.tmp 2)) 4 [v123,v127,(.bool false)] (fun v128 w=>
 gdM (gd v128 true) (oM prog (.load 32 (.tmp 0)) 32 [v1]) (fun v130 w=>
 gdM (gd v128 true) (callM prog 35 #[v130,(.int .i64 3),(.int .i64 2),(.int .i64 6)]) (fun v131 w=>
 gdM (gd v128 true) (oM prog (.binOp .eql 3 (.tmp 0) (.const (.int .i64 9)) 3) 4 [v131]) (fun v132 w=>
 oM prog (.pick (.tmp 0) (.tmp 1) (.tmp 2)) 4 [v128,v132,(.bool false)] (fun v133 w=>
 gdM (gd v133 true) (oM prog (.load 32 (.tmp 0)) 32 [v1]) (fun v135 w=>
 gdM (gd v133 true) (oM prog (.load 41 (.tmp 0)) 41 [v10]) (fun v136 w=>
 gdM (gd v133 true) (oM prog (.load 49 (.tmp 0)) 49 [v6]) (fun v137 w=>
 gdM (gd v133 true) (callM prog 36 #[v135,v136,v137]) (fun v138 w=>
 oM prog (.pick (.tmp 0) (.tmp 1) (.tmp 2)) 4 [v133,v138,(.bool false)] (fun v139 w=>
 gdM (gd v139 true) (oM prog (.load 32 (.tmp 0)) 32 [v1]) (fun v141 w=>
 gdM (gd v139 true) (oM prog (.load 41 (.tmp 0)) 41 [v10]) (fun v142 w=>
 gdM (gd v139 true) (oM prog (.load 49 (.tmp 0)) 49 [v8]) (fun v143 w=>
 gdM (gd v139 true) (callM prog 36 #[v141,v142,v143]) (fun v144 w=>
 oM prog (.pick (.tmp 0) (.tmp 1) (.tmp 2)) 4 [v139,v144,(.bool false)] (fun v145 w=>
 gdM (gd v145 true) (oM prog (.load 32 (.tmp 0)) 32 [v1]) (fun v147 w=>
 gdM (gd v145 true) (oM prog (.load 41 (.tmp 0)) 41 [v10]) (fun v148 w=>
 gdM (gd v145 true) (oM prog (.load 49 (.tmp 0)) 49 [v15]) (fun v149 w=>
 gdM (gd v145 true) (callM prog 36 #[v147,v148,v149]) (fun v150 w=>
 gdM (gd v145 true) (oM prog (.unOp .not 4 (.tmp 0)) 4 [v150]) (fun v151 w=>
 oM prog (.pick (.tmp 0) (.tmp 1) (.tmp 2)) 4 [v145,v151,(.bool false)] (fun v152 w=>
 gdM (gd v121 true) (pureM v152) (fun v155 w=>
 oM prog (.pick (.tmp 0) (.tmp 1) (.tmp 2)) 4 [v121,v155,(.bool false)] (fun v156 w=>
 gdM (gd v156 true) (oM prog (.load 32 (.tmp 0)) 32 [v1]) (fun v158 w=>
 gdM (gd v156 true) (oM prog (.load 41 (.tmp 0)) 41 [v10]) (fun v159 w=>
 gdM (gd v156 true) (oM prog (.load 49 (.tmp 0)) 49 [v6]) (fun v160 w=>
 gdM (gd v156 true) (oM prog (.load 49 (.tmp 0)) 49 [v8]) (fun v161 w=>
 gdM (gd v156 true) (pureM v21) (fun v162 w=>
 gdM (gd v156 true) (callM prog 32 #[v158,v159,v160,v161,v162]) (fun v163 w=>
 oM prog (.pick (.tmp 0) (.tmp 1) (.tmp 2)) 4 [v156,v163,(.bool false)] (fun v164 w=>
 gdM (gd v164 true) (oM prog (.load 41 (.tmp 0)) 41 [v10]) (fun v166 w=>
 gdM (gd v164 true) (callM prog 56 #[v166]) (fun v167 w=>
 gdM (gd v164 true) (oM prog (.binOp .eql 9 (.tmp 0) (.const (.string ⟨#[54,91,56,59,49,56,59,57,59,49,54,59,49,51,59,48,59,93]⟩)) 9) 4 [v167]) (fun v168 w=>
 oM prog (.pick (.tmp 0) (.tmp 1) (.tmp 2)) 4 [v164,v168,(.bool false)] (fun v169 w=>
 K v169 w) w) w) w) w) w) w) w) w) w) w) w) w) w) w) w) w) w) w) w) w) w) w) w) w) w) w) w) w) w) w) w) w) w) w) w) w) w) w) w) w) w) w) w) w) w) w) w) w) w) w) w) w) w) w) w) w) w) w) w) w) w) w) w)) w) w) w) w) w) w) w) w) w) w) w) w) w) w) w) w) w) w) w) w) w) w) w) w) w) w) w) w) w) w) w) w) w) w) w) w) w) w) w) w) w) w) w) w) w) w) w) w) w) w) w) w) w) w) w) w) w) w) w) w) w) w) w) w) w) w) w) w) w) w) w) w) w) w
theorem sh_21_ok {K:Value → World → Prop} {w:World} (h:sh_21 K w):callM prog 21 #[] K w:=
 calls_of_code (fun _=>2) (fn:=Tryz.f21) (rs:=[.tmp 0]) Tryz.func21 rfl rfl (by kernel_rfl) (Nat.le_of_ble_eq_true rfl) (Eq.mp (by kernel_rfl) h)
def sh_48 (a0:Value) (K:Value → World → Prop) (w:World):Prop:=
 oM prog (.alloc 41) 0 [] (fun v2 w=>
 callM prog 110 #[a0] (fun v7 w=>
 callM prog 111 #[v7] (fun v9 w=>
 oM prog (.call (Go.Call.mk (.builtin .len) #[(.tmp 0)] #[22])) 3 [v9] (fun v11 w=>
 oM prog (.binOp .neq 3 (.tmp 0) (.const (.int .i64 6)) 3) 4 [v11] (fun v12 w=>
 gdM (gd v12 false) (pureM v7) (fun v14 w=>
 gdM (gd v12 false) (callM prog 112 #[v14]) (fun v15 w=>
 gdM (gd v12 false) (oM prog (.unOp .not 4 (.tmp 0)) 4 [v15]) (fun v16 w=>
 oM prog (.pick (.tmp 0) (.tmp 1) (.tmp 2)) 4 [v12,(.bool true),v16] (fun v17 w=>
 condM v17
 (oM prog (.build 41 #[]) 41 [] (fun v18 w=>
 oM prog (.store 41 (.tmp 0) (.tmp 1)) 0 [v2,v18] (fun _ w=>
 ∃ r_11,(do loadVar 41 (← asAddr v2):Sem Value).run prog w = .ok r_11 w ∧ K (.tuple #[r_11,(.bool false)]) w) w) w)
 (heldM w (fun C_12 w=>(pureH v9 C_12 (fun v19=>
 oH prog (.indexAddr 22 (.tmp 0) (.tmp 1)) 0 [v19,(.int .i64 0)] C_12 (fun v20=>
 oH prog (.load 3 (.tmp 0)) 3 [v20] C_12 (fun v21=>
 pureH v9 C_12 (fun v22=>
 oH prog (.indexAddr 22 (.tmp 0) (.tmp 1)) 0 [v22,(.int .i64 1)] C_12 (fun v23=>
 oH prog (.load 3 (.tmp 0)) 3 [v23] C_12 (fun v24=>
 pureH v9 C_12 (fun v25=>
 oH prog (.indexAddr 22 (.tmp 0) (.tmp 1)) 0 [v25,(.int .i64 2)] C_12 (fun v26=>
 oH prog (.load 3 (.tmp 0)) 3 [v26] C_12 (fun v27=>
 pureH v9 C_12 (fun v28=>
 oH prog (.indexAddr 22 (.tmp 0) (.tmp 1)) 0 [v28,(.int .i64 3)] C_12 (fun v29=>
 oH prog (.load 3 (.tmp 0)) 3 [v29] C_12 (fun v30=>
 pureH v9 C_12 (fun v31=>
 oH prog (.indexAddr 22 (.tmp 0) (.tmp 1)) 0 [v31,(.int .i64 4)] C_12 (fun v32=>
 oH prog (.load 3 (.tmp 0)) 3 [v32] C_12 (fun v33=>
 pureH v9 C_12 (fun v34=>
 oH prog (.indexAddr 22 (.tmp 0) (.tmp 1)) 0 [v34,(.int .i64 5)] C_12 (fun v35=>
 oH prog (.load 3 (.tmp 0)) 3 [v35] C_12 (fun v36=>
 oM prog (.build 41 #[(0,(.tmp 0)),(1,(.tmp 1)),(2,(.tmp 2)),(3,(.tmp 3)),(4,(.tmp 4)),(5,(.tmp 5))]) 41 [v21,v24,v27,v30,v33,v36] (fun v37 w=>C_12 w ∧ (
 oM prog (.store 41 (.tmp 0) (.tmp 1)) 0 [v2,v37] (fun _ w=>C_12 w ∧ (
 C_12 w ∧ (∃ r_33,(do loadVar 41 (← asAddr v2):Sem Value).run prog w = .ok r_33 w ∧ K (.tuple #[r_33,(.bool true)]) w))) w)) w)))))))))))))))))))))) w) w) w) w) w) w) w) w) w
theorem sh_48_ok {a0:Value} {K:Value → World → Prop} {w:World} (h:sh_48 a0 K w):callM prog 48 #[a0] K w:=
 calls_of_code (fun _=>2) (fn:=Tryz.f48) (rs:=[.cell 2 41,.tmp 3]) Tryz.func48 rfl rfl (by kernel_rfl) (Nat.le_of_ble_eq_true rfl) (Eq.mp (by kernel_rfl) h)
def sh_56 (a0:Value) (K:Value → World → Prop) (w:World):Prop:=
 oM prog (.box 41 (.tmp 0)) 0 [a0] (fun v1 w=>
 oM prog (.fieldAddr 41 (.tmp 0) 0) 0 [v1] (fun v3 w=>
 oM prog (.load 3 (.tmp 0)) 3 [v3] (fun v4 w=>
 oM prog (.fieldAddr 41 (.tmp 0) 1) 0 [v1] (fun v5 w=>
 oM prog (.load 3 (.tmp 0)) 3 [v5] (fun v6 w=>
 oM prog (.fieldAddr 41 (.tmp 0) 2) 0 [v1] (fun v7 w=>
 oM prog (.load 3 (.tmp 0)) 3 [v7] (fun v8 w=>
 oM prog (.fieldAddr 41 (.tmp 0) 3) 0 [v1] (fun v9 w=>
 oM prog (.load 3 (.tmp 0)) 3 [v9] (fun v10 w=>
 oM prog (.fieldAddr 41 (.tmp 0) 4) 0 [v1] (fun v11 w=>
 oM prog (.load 3 (.tmp 0)) 3 [v11] (fun v12 w=>
 oM prog (.fieldAddr 41 (.tmp 0) 5) 0 [v1] (fun v13 w=>
 oM prog (.load 3 (.tmp 0)) 3 [v13] (fun v14 w=>
 oM prog (.buildSlice 22 6 #[(0,(.tmp 0)),(1,(.tmp 1)),(2,(.tmp 2)),(3,(.tmp 3)),(4,(.tmp 4)),(5,(.tmp 5))]) 22 [v4,v6,v8,v10,v12,v14] (fun v15 w=>
 callM prog 123 #[v15] (fun v16 w=>
 K v16 w) w) w) w) w) w) w) w) w) w) w) w) w) w) w) w
theorem sh_56_ok {a0:Value} {K:Value → World → Prop} {w:World} (h:sh_56 a0 K w):callM prog 56 #[a0] K w:=
 calls_of_code (fun _=>2) (fn:=Tryz.f56) (rs:=[.tmp 2]) Tryz.func56 rfl rfl (by kernel_rfl) (Nat.le_of_ble_eq_true rfl) (Eq.mp (by kernel_rfl) h)
end Go.Proofs
namespace Go.Proofs
open Go.Sh Tryz
def sh_111 (a0:Value) (K:Value → World → Prop) (w:World):Prop:=
 oM prog (.makeFunc (Go.Fn.func 159) #[(.tmp 0)] #[]) 189 [a0] (fun v5 w=>
 callM prog 158 #[a0,v5] (fun v6 w=>
 K v6 w) w) w
theorem sh_111_ok {a0:Value} {K:Value → World → Prop} {w:World} (h:sh_111 a0 K w):callM prog 111 #[a0] K w:=
 calls_of_code (fun _=>0) (fn:=Tryz.f111) (rs:=[.tmp 2]) Tryz.func111 rfl rfl (by kernel_rfl) (Nat.le_of_ble_eq_true rfl) (Eq.mp (by kernel_rfl) h)
def sh_112 (a0:Value) (K:Value → World → Prop) (w:World):Prop:=
 oM prog (.nilCheck (.tmp 0)) 0 [a0] (fun v4 w=>
 oM prog (.fieldAddr 187 (.tmp 0) 1) 0 [v4] (fun v5 w=>
 oM prog (.load 4 (.tmp 0)) 4 [v5] (fun v6 w=>
 oM prog (.unOp .not 4 (.tmp 0)) 4 [v6] (fun v7 w=>
 gdM (gd v7 true) (pureM a0) (fun v9 w=>
 gdM (gd v7 true) (oM prog (.nilCheck (.tmp 0)) 0 [v9]) (fun v10 w=>
 gdM (gd v7 true) (oM prog (.fieldAddr 187 (.tmp 0) 0) 0 [v10]) (fun v11 w=>
 gdM (gd v7 true) (oM prog (.load 9 (.tmp 0)) 9 [v11]) (fun v12 w=>
 gdM (gd v7 true) (oM prog (.binOp .eql 9 (.tmp 0) (.const (.string ⟨#[]⟩)) 9) 4 [v12]) (fun v13 w=>
 oM prog (.pick (.tmp 0) (.tmp 1) (.tmp 2)) 4 [v7,v13,(.bool false)] (fun v14 w=>
 K v14 w) w) w) w) w) w) w) w) w) w) w
theorem sh_112_ok {a0:Value} {K:Value → World → Prop} {w:World} (h:sh_112 a0 K w):callM prog 112 #[a0] K w:=
 calls_of_code (fun _=>0) (fn:=Tryz.f112) (rs:=[.tmp 2]) Tryz.func112 rfl rfl (by kernel_rfl) (Nat.le_of_ble_eq_true rfl) (Eq.mp (by kernel_rfl) h)
def sh_123 (a0:Value) (K:Value → World → Prop) (w:World):Prop:=
 callM prog 167 #[a0,(.func (.func 168) #[] #[])] (fun v4 w=>
 K v4 w) w
theorem sh_123_ok {a0:Value} {K:Value → World → Prop} {w:World} (h:sh_123 a0 K w):callM prog 123 #[a0] K w:=
 calls_of_code (fun _=>0) (fn:=Tryz.f123) (rs:=[.tmp 2]) Tryz.func123 rfl rfl (by kernel_rfl) (Nat.le_of_ble_eq_true rfl) (Eq.mp (by kernel_rfl) h)
def sh_159 (a0:Value) (K:Value → World → Prop) (w:World):Prop:=
 callM prog 190 #[a0,(.int .u8 59),(.int .i64 (-9223372036854775808))] (fun v4 w=>
 K v4 w) w
theorem sh_159_ok {a0:Value} {K:Value → World → Prop} {w:World} (h:sh_159 a0 K w):callM prog 159 #[a0] K w:=
 calls_of_code (fun _=>0) (fn:=Tryz.f159) (rs:=[.tmp 2]) Tryz.func159 rfl rfl (by kernel_rfl) (Nat.le_of_ble_eq_true rfl) (Eq.mp (by kernel_rfl) h)
def sh_167 (a0 a1:Value) (K:Value → World → Prop) (w:World):Prop:=
 oM prog (.alloc 209) 0 [] (fun v5 w=>
 oM prog (.call (Go.Call.mk (.builtin .len) #[(.tmp 0)] #[22])) 3 [a0] (fun v9 w=>
 callM prog 145 #[v9] (fun v10 w=>
 oM prog (.binOp .add 9 (.tmp 0) (.tmp 1) 9) 9 [v10,(.string ⟨#[91]⟩)] (fun v11 w=>
 callM prog 194 #[v5,v11] (fun v12 w=>
 oM prog (.call (Go.Call.mk (.builtin .len) #[(.tmp 0)] #[22])) 3 [a0] (fun v14 w=>
 loopM [undef,(.int .i64 0)] w (fun J_7 m_8 l_9 u_l_9 w0_l_9=>(fun w=>(
 oM prog (.binOp .lss 3 (.tmp 0) (.tmp 1) 3) 0 [(l_9.getD 1 undef),v14] (fun v16 w=>
 condM v16
 (oM prog (.indexAddr 22 (.tmp 0) (.tmp 1)) 0 [a0,(l_9.getD 1 undef)] (fun v17 w=>
 oM prog (.load 3 (.tmp 0)) 3 [v17] (fun v18 w=>
 oM prog (.call (Go.Call.mk (.value (.tmp 0)) #[(.tmp 1)] #[3])) 9 [a1,v18] (fun v21 w=>
 callM prog 194 #[v5,v21] (fun v22 w=>
 oM prog (.binOp .add 3 (.tmp 0) (.tmp 1) 3) 3 [(l_9.getD 1 undef),(.int .i64 1)] (fun v23 w=>
 J_7 [v18,v23] w ∧ m_8 [v18,v23] w < m_8 l_9 w0_l_9) w) w) w) w) w)
 (callM prog 195 #[v5] (fun v24 w=>
 oM prog (.binOp .add 9 (.tmp 0) (.tmp 1) 9) 9 [v24,(.string ⟨#[93]⟩)] (fun v25 w=>
 K v25 w) w) w)) w)) w0_l_9)) w) w) w) w) w) w
theorem sh_167_ok {a0 a1:Value} {K:Value → World → Prop} {w:World} (h:sh_167 a0 a1 K w):callM prog 167 #[a0,a1] K w:=
 calls_of_code (fun _=>0) (fn:=Tryz.f167) (rs:=[.tmp 4]) Tryz.func167 rfl rfl (by kernel_rfl) (Nat.le_of_ble_eq_true rfl) (Eq.mp (by kernel_rfl) h)
def sh_168 (a0:Value) (K:Value → World → Prop) (w:World):Prop:=
 callM prog 145 #[a0] (fun v4 w=>
 oM prog (.binOp .add 9 (.tmp 0) (.tmp 1) 9) 9 [v4,(.string ⟨#[59]⟩)] (fun v5 w=>
 K v5 w) w) w
theorem sh_168_ok {a0:Value} {K:Value → World → Prop} {w:World} (h:sh_168 a0 K w):callM prog 168 #[a0] K w:=
 calls_of_code (fun _=>0) (fn:=Tryz.f168) (rs:=[.tmp 2]) Tryz.func168 rfl rfl (by kernel_rfl) (Nat.le_of_ble_eq_true rfl) (Eq.mp (by kernel_rfl) h)
def sh_191 (a0 a1:Value) (K:Value → World → Prop) (w:World):Prop:=
 oM prog (.nilCheck (.tmp 0)) 0 [a0] (fun v8 w=>
 oM prog (.fieldAddr 187 (.tmp 0) 0) 0 [v8] (fun v9 w=>
 oM prog (.load 9 (.tmp 0)) 9 [v9] (fun v10 w=>
 callM prog 214 #[v10,a1] (fun v12 w=>
 oM prog (.extract (.tmp 0) 0) 9 [v12] (fun v13 w=>
 oM prog (.extract (.tmp 0) 1) 4 [v12] (fun v14 w=>
 oM prog (.nilCheck (.tmp 0)) 0 [a0] (fun v17 w=>
 oM prog (.fieldAddr 187 (.tmp 0) 0) 0 [v17] (fun v18 w=>
 oM prog (.store 9 (.tmp 0) (.tmp 1)) 0 [v18,v13] (fun _ w=>
 oM prog (.unOp .not 4 (.tmp 0)) 4 [v14] (fun v20 w=>
 condM v20
 (callM prog 212 #[a0] (fun v22 w=>
 K (.tuple #[]) w) w)
 (K (.tuple #[]) w)) w) w) w) w) w) w) w) w) w) w
theorem sh_191_ok {a0 a1:Value} {K:Value → World → Prop} {w:World} (h:sh_191 a0 a1 K w):callM prog 191 #[a0,a1] K w:=
 calls_of_code (fun _=>0) (fn:=Tryz.f191) (rs:=[]) Tryz.func191 rfl rfl (by kernel_rfl) (Nat.le_of_ble_eq_true rfl) (Eq.mp (by kernel_rfl) h)
def sh_194 (a0 a1:Value) (K:Value → World → Prop) (w:World):Prop:=
 callM prog 216 #[a0] (fun v7 w=>
 oM prog (.nilCheck (.tmp 0)) 0 [a0] (fun v10 w=>
 oM prog (.fieldAddr 209 (.tmp 0) 1) 0 [v10] (fun v11 w=>
 oM prog (.load 181 (.tmp 0)) 181 [v11] (fun v12 w=>
 oM prog (.call (Go.Call.mk (.builtin .append) #[(.tmp 0),(.tmp 1)] #[181,9])) 181 [v12,a1] (fun v14 w=>
 oM prog (.nilCheck (.tmp 0)) 0 [a0] (fun v15 w=>
 oM prog (.fieldAddr 209 (.tmp 0) 1) 0 [v15] (fun v16 w=>
 oM prog (.store 181 (.tmp 0) (.tmp 1)) 0 [v16,v14] (fun _ w=>
 oM prog (.call (Go.Call.mk (.builtin .len) #[(.tmp 0)] #[9])) 3 [a1] (fun v18 w=>
 K (.tuple #[v18,.nilIface]) w) w) w) w) w) w) w) w) w) w
theorem sh_194_ok {a0 a1:Value} {K:Value → World → Prop} {w:World} (h:sh_194 a0 a1 K w):callM prog 194 #[a0,a1] K w:=
 calls_of_code (fun _=>0) (fn:=Tryz.f194) (rs:=[.tmp 4,.tmp 5]) Tryz.func194 rfl rfl (by kernel_rfl) (Nat.le_of_ble_eq_true rfl) (Eq.mp (by kernel_rfl) h)
def sh_212 (a0:Value) (K:Value → World → Prop) (w:World):Prop:=
 oM prog (.nilCheck (.tmp 0)) 0 [a0] (fun v4 w=>
 oM prog (.fieldAddr 187 (.tmp 0) 0) 0 [v4] (fun v5 w=>
 oM prog (.store 9 (.tmp 0) (.tmp 1)) 0 [v5,(.string ⟨#[]⟩)] (fun _ w=>
 oM prog (.nilCheck (.tmp 0)) 0 [a0] (fun v6 w=>
 oM prog (.fieldAddr 187 (.tmp 0) 1) 0 [v6] (fun v7 w=>
 oM prog (.store 4 (.tmp 0) (.tmp 1)) 0 [v7,(.bool true)] (fun _ w=>
 K (.tuple #[]) w) w) w) w) w) w) w
theorem sh_212_ok {a0:Value} {K:Value → World → Prop} {w:World} (h:sh_212 a0 K w):callM prog 212 #[a0] K w:=
 calls_of_code (fun _=>0) (fn:=Tryz.f212) (rs:=[]) Tryz.func212 rfl rfl (by kernel_rfl) (Nat.le_of_ble_eq_true rfl) (Eq.mp (by kernel_rfl) h)
def sh_216 (a0:Value) (K:Value → World → Prop) (w:World):Prop:=
 oM prog (.nilCheck (.tmp 0)) 0 [a0] (fun v3 w=>
 oM prog (.fieldAddr 209 (.tmp 0) 0) 0 [v3] (fun v4 w=>
 oM prog (.load 207 (.tmp 0)) 207 [v4] (fun v5 w=>
 oM prog (.binOp .eql 207 (.tmp 0) (.const (.pointer none)) 207) 4 [v5] (fun v6 w=>
 condM v6
 (oM prog (.convert 207 241 (.tmp 0)) 241 [a0] (fun v9 w=>
 extM prog 231 #[v9] (fun v10 w=>
 oM prog (.convert 241 207 (.tmp 0)) 207 [v10] (fun v11 w=>
 oM prog (.nilCheck (.tmp 0)) 0 [a0] (fun v12 w=>
 oM prog (.fieldAddr 209 (.tmp 0) 0) 0 [v12] (fun v13 w=>
 oM prog (.store 207 (.tmp 0) (.tmp 1)) 0 [v13,v11] (fun _ w=>
 K (.tuple #[]) w) w) w) w) w) w) w)
 (oM prog (.nilCheck (.tmp 0)) 0 [a0] (fun v15 w=>
 oM prog (.fieldAddr 209 (.tmp 0) 0) 0 [v15] (fun v16 w=>
 oM prog (.load 207 (.tmp 0)) 207 [v16] (fun v17 w=>
 oM prog (.binOp .neq 207 (.tmp 0) (.tmp 1) 207) 4 [v17,a0] (fun v19 w=>
 condM v19
 (False)
 (K (.tuple #[]) w)) w) w) w) w)) w) w) w) w
theorem sh_216_ok {a0:Value} {K:Value → World → Prop} {w:World} (h:sh_216 a0 K w):callM prog 216 #[a0] K w:=
 calls_of_code (fun _=>0) (fn:=Tryz.f216) (rs:=[]) Tryz.func216 rfl rfl (by kernel_rfl) (Nat.le_of_ble_eq_true rfl) (Eq.mp (by kernel_rfl) h)
def sh_190 (a0 a1 a2:Value) (K:Value → World → Prop) (w:World):Prop:=
 quietM w (fun C_1=>(oQ prog (.nilCheck (.tmp 0)) 0 [a0] C_1 (fun v12=>
 oQ prog (.fieldAddr 187 (.tmp 0) 0) 0 [v12] C_1 (fun v13=>
 oQ prog (.load 9 (.tmp 0)) 9 [v13] C_1 (fun v14=>
 oQ prog (.nilCheck (.tmp 0)) 0 [a0] C_1 (fun v16=>
 oQ prog (.fieldAddr 187 (.tmp 0) 0) 0 [v16] C_1 (fun v17=>
 oQ prog (.load 9 (.tmp 0)) 9 [v17] C_1 (fun v18=>
 oQ prog (.call (Go.Call.mk (.builtin .len) #[(.tmp 0)] #[9])) 3 [v18] C_1 (fun v19=>
 oQ prog (.call (Go.Call.mk (.builtin .min) #[(.tmp 0),(.tmp 1)] #[3,3])) 3 [v19,(.int .i64 21)] C_1 (fun v20=>
 oQ prog (.slice 9 (.tmp 0) none (some (.tmp 1)) none) 9 [v14,v20] C_1 (fun v21=>
 ∀ w,C_1 w → (callM prog 211 #[v21,a1] (fun v24 w=>
 oM prog (.binOp .lss 3 (.tmp 0) (.tmp 1) 3) 4 [v24,(.int .i64 0)] (fun v26 w=>
 condM v26
 (callM prog 212 #[a0] (fun v28 w=>
 K (.int .i64 0) w) w)
 (oM prog (.slice 9 (.tmp 0) none (some (.tmp 1)) none) 9 [v21,v24] (fun v32 w=>
 callM prog 213 #[v32] (fun v33 w=>
 oM prog (.extract (.tmp 0) 0) 3 [v33] (fun v34 w=>
 oM prog (.extract (.tmp 0) 1) 211 [v33] (fun v35 w=>
 quietM w (fun C_18=>(oQ prog (.binOp .neq 211 (.tmp 0) (.const .nilIface) 211) 4 [v35] C_18 (fun v37=>
 gdQ (gd v37 false) (pureQ v34) C_18 (fun v39=>
 gdQ (gd v37 false) (callQ prog 145 #[v39]) C_18 (fun v40=>
 gdQ (gd v37 false) (pureQ v21) C_18 (fun v41=>
 gdQ (gd v37 false) (pureQ v24) C_18 (fun v42=>
 gdQ (gd v37 false) (oQ prog (.slice 9 (.tmp 0) none (some (.tmp 1)) none) 9 [v41,v42]) C_18 (fun v43=>
 gdQ (gd v37 false) (oQ prog (.binOp .neq 9 (.tmp 0) (.tmp 1) 9) 4 [v40,v43]) C_18 (fun v44=>
 oQ prog (.pick (.tmp 0) (.tmp 1) (.tmp 2)) 4 [v37,(.bool true),v44] C_18 (fun v45=>
 gdQ (gd v45 false) (pureQ v34) C_18 (fun v47=>
 gdQ (gd v45 false) (pureQ a2) C_18 (fun v48=>
 gdQ (gd v45 false) (oQ prog (.binOp .lss 3 (.tmp 0) (.tmp 1) 3) 4 [v47,v48]) C_18 (fun v49=>
 oQ prog (.pick (.tmp 0) (.tmp 1) (.tmp 2)) 4 [v45,(.bool true),v49] C_18 (fun v50=>
 ∀ w,C_18 w → (condM v50
 (callM prog 212 #[a0] (fun v52 w=>
 K (.int .i64 0) w) w)
 (oM prog (.nilCheck (.tmp 0)) 0 [a0] (fun v55 w=>
 oM prog (.fieldAddr 187 (.tmp 0) 0) 0 [v55] (fun v56 w=>
 oM prog (.load 9 (.tmp 0)) 9 [v56] (fun v57 w=>
 oM prog (.binOp .add 3 (.tmp 0) (.tmp 1) 3) 3 [v24,(.int .i64 1)] (fun v59 w=>
 oM prog (.slice 9 (.tmp 0) (some (.tmp 1)) none none) 9 [v57,v59] (fun v60 w=>
 oM prog (.nilCheck (.tmp 0)) 0 [a0] (fun v61 w=>
 oM prog (.fieldAddr 187 (.tmp 0) 0) 0 [v61] (fun v62 w=>
 oM prog (.store 9 (.tmp 0) (.tmp 1)) 0 [v62,v60] (fun _ w=>
 K v34 w) w) w) w) w) w) w) w) w))))))))))))))))) w) w) w) w)) w) w))))))))))))
theorem sh_190_ok {a0 a1 a2:Value} {K:Value → World → Prop} {w:World} (h:sh_190 a0 a1 a2 K w):callM prog 190 #[a0,a1,a2] K w:=
 calls_of_code (fun _=>0) (fn:=Tryz.f190) (rs:=[.tmp 6]) Tryz.func190 rfl rfl (by kernel_rfl) (Nat.le_of_ble_eq_true rfl) (Eq.mp (by kernel_rfl) h)
def sh_110 (a0:Value) (K:Value → World → Prop) (w:World):Prop:=
 oM prog (.build 187 #[(0,(.tmp 0))]) 187 [a0] (fun v4 w=>
 oM prog (.box 187 (.tmp 0)) 156 [v4] (fun v5 w=>
 K v5 w) w) w
theorem sh_110_ok {a0:Value} {K:Value → World → Prop} {w:World} (h:sh_110 a0 K w):callM prog 110 #[a0] K w:=
 calls_of_code (fun _=>0) (fn:=Tryz.f110) (rs:=[.tmp 2]) Tryz.func110 rfl rfl (by kernel_rfl) (Nat.le_of_ble_eq_true rfl) (Eq.mp (by kernel_rfl) h)
def sh_158 (a0 a1:Value) (K:Value → World → Prop) (w:World):Prop:=
 callM prog 190 #[a0,(.int .u8 91),(.int .i64 0)] (fun v8 w=>
 loopM [(.slice none 0 0),v8] w (fun J_2 m_3 l_4 u_l_4 w0_l_4=>(fun w=>(
 oM prog (.binOp .gtr 3 (.tmp 0) (.tmp 1) 3) 4 [(l_4.getD 1 undef),(.int .i64 0)] (fun v10 w=>
 gdM (gd v10 true) (pureM a0) (fun v12 w=>
 gdM (gd v10 true) (oM prog (.nilCheck (.tmp 0)) 0 [v12]) (fun v13 w=>
 gdM (gd v10 true) (oM prog (.fieldAddr 187 (.tmp 0) 1) 0 [v13]) (fun v14 w=>
 gdM (gd v10 true) (oM prog (.load 4 (.tmp 0)) 4 [v14]) (fun v15 w=>
 gdM (gd v10 true) (oM prog (.unOp .not 4 (.tmp 0)) 4 [v15]) (fun v16 w=>
 oM prog (.pick (.tmp 0) (.tmp 1) (.tmp 2)) 4 [v10,v16,(.bool false)] (fun v17 w=>
 condM v17
 (oM prog (.call (Go.Call.mk (.value (.tmp 0)) #[] #[])) 3 [a1] (fun v22 w=>
 oM prog (.buildSlice 22 1 #[(0,(.tmp 0))]) 22 [v22] (fun v23 w=>
 oM prog (.call (Go.Call.mk (.builtin .append) #[(.tmp 0),(.tmp 1)] #[22,22])) 22 [(l_4.getD 0 undef),v23] (fun v24 w=>
 oM prog (.binOp .sub 3 (.tmp 0) (.tmp 1) 3) 3 [(l_4.getD 1 undef),(.int .i64 1)] (fun v19 w=>
 J_2 [v24,v19] w ∧ m_3 [v24,v19] w < m_3 l_4 w0_l_4) w) w) w) w)
 (callM prog 191 #[a0,(.string ⟨#[93]⟩)] (fun v26 w=>
 oM prog (.nilCheck (.tmp 0)) 0 [a0] (fun v28 w=>
 oM prog (.fieldAddr 187 (.tmp 0) 1) 0 [v28] (fun v29 w=>
 oM prog (.load 4 (.tmp 0)) 4 [v29] (fun v30 w=>
 condM v30
 (K (.slice none 0 0) w)
 (K (l_4.getD 0 undef) w)) w) w) w) w)) w) w) w) w) w) w) w)) w0_l_4)) w
theorem sh_158_ok {a0 a1:Value} {K:Value → World → Prop} {w:World} (h:sh_158 a0 a1 K w):callM prog 158 #[a0,a1] K w:=
 calls_of_code (fun _=>0) (fn:=Tryz.f158) (rs:=[.tmp 4]) Tryz.func158 rfl rfl (by kernel_rfl) (Nat.le_of_ble_eq_true rfl) (Eq.mp (by kernel_rfl) h)
end Go.Proofs
namespace Go.Proofs
abbrev tabName:String:=(YtpfjmfgnlpnflaaGreatDoor.Rows.ticketHonestRow.laid.map (fun x=>x.1)).getD 2 default
open Go.Shelf
def Tryz.lays169_ren:Go.Shelf.Ren:=⟨fun | 169=>195 | n=>n,fun | 70=>207 | 9=>9 | 0=>0 | 72=>209 | 37=>181 | 127=>233 | 3=>3 | 5=>5 | n=>n,fun | n=>n⟩
theorem Tryz.lays169:Go.Proofs.Lays.n169 Tryz.prog Tryz.lays169_ren:={
 mixed:=by kernel_rfl
 f169:=Tryz.func195.trans (congrArg some (by kernel_rfl))
 t0:=Tryz.underlying0
 a0:=Tryz.isAgg0
 z0:=Tryz.sizeOf0
 v0:=Tryz.zeroValue0
 t3:=Tryz.underlying3
 a3:=Tryz.isAgg3
 z3:=Tryz.sizeOf3
 v3:=Tryz.zeroValue3
 t9:=Tryz.underlying9
 a9:=Tryz.isAgg9
 z9:=Tryz.sizeOf9
 v9:=Tryz.zeroValue9
 t37:=Tryz.underlying181
 a37:=Tryz.isAgg181
 z37:=Tryz.sizeOf181
 v37:=Tryz.zeroValue181
 t70:=Tryz.underlying207
 a70:=Tryz.isAgg207
 z70:=Tryz.sizeOf207
 v70:=Tryz.zeroValue207
 t72:=Tryz.underlying209
 a72:=Tryz.isAgg209
 z72:=Tryz.sizeOf209
 v72:=Tryz.zeroValue209
 t127:=Tryz.underlying233
 a127:=Tryz.isAgg233
 z127:=Tryz.sizeOf233
 v127:=Tryz.zeroValue233 }
theorem Tryz.Builder_Extra_169:Builder.Extra Tryz.prog Tryz.lays169_ren:={
 sizeBuilder:=by kernel_rfl
 liesBuilder:=by kernel_rfl
 t5:=Tryz.underlying5
 a5:=Tryz.isAgg5
 z5:=Tryz.sizeOf5
 v5:=Tryz.zeroValue5
 infoByte:=by kernel_rfl
 cellsByte:=by kernel_rfl
 sizeByte:=by kernel_rfl
 neB5:=by decide }
open Go.RowKit in
theorem Tryz.Builder_String_any (B b:Nat) (l:List UInt8) (w:World) (h:Lib.IsBuilder 209 5 B b (Lib.byteCells l) w) (hBw:B ≤ w.heap.size) :
  Calls Tryz.prog 195 #[.pointer (some ⟨b,0,none⟩)] w fun e w'=>e = .returned (.string ⟨l.toArray⟩) ∧ Below B w w':=Any.Builder_String_any Tryz.lays169 Tryz.Builder_Extra_169 B b l w h hBw
def Tryz.lays137_ren:Go.Shelf.Ren:=⟨fun | 137=>211 | 217=>227 | 266=>236 | n=>n,fun | 9=>9 | 5=>5 | 3=>3 | n=>n,fun | n=>n⟩
theorem Tryz.lays137:Go.Proofs.Lays.n137 Tryz.prog Tryz.lays137_ren:={
 mixed:=by kernel_rfl
 f137:=Tryz.func211.trans (congrArg some (by kernel_rfl))
 f217:=Tryz.func227.trans (congrArg some (by kernel_rfl))
 f266:=Tryz.func236.trans (congrArg some (by kernel_rfl))
 t3:=Tryz.underlying3
 a3:=Tryz.isAgg3
 z3:=Tryz.sizeOf3
 v3:=Tryz.zeroValue3
 t5:=Tryz.underlying5
 a5:=Tryz.isAgg5
 z5:=Tryz.sizeOf5
 v5:=Tryz.zeroValue5
 t9:=Tryz.underlying9
 a9:=Tryz.isAgg9
 z9:=Tryz.sizeOf9
 v9:=Tryz.zeroValue9 }
open Go.RowKit in
theorem Tryz.strings_IndexByte (s:ByteArray) (c:Int) (w:World) :
  Calls Tryz.prog 211 #[.string s,.int .u8 c] w fun e w'=>e = .returned (.int .i64 (Lib.indexByte s.data.toList c.toNat.toUInt8)) ∧ w' = w:=Any.strings_IndexByte Tryz.lays137 s c w
def Tryz.lays103_ren:Go.Shelf.Ren:=⟨fun | 103=>214 | 210=>230 | 206=>242 | n=>n,fun | 9=>9 | 4=>4 | 24=>230 | 3=>3 | n=>n,fun | n=>n⟩
theorem Tryz.lays103:Go.Proofs.Lays.n103 Tryz.prog Tryz.lays103_ren:={
 mixed:=by kernel_rfl
 f103:=Tryz.func214.trans (congrArg some (by kernel_rfl))
 f206:=Tryz.func242.trans (congrArg some (by kernel_rfl))
 f210:=Tryz.func230.trans (congrArg some (by kernel_rfl))
 t3:=Tryz.underlying3
 a3:=Tryz.isAgg3
 z3:=Tryz.sizeOf3
 v3:=Tryz.zeroValue3
 t4:=Tryz.underlying4
 a4:=Tryz.isAgg4
 z4:=Tryz.sizeOf4
 v4:=Tryz.zeroValue4
 t9:=Tryz.underlying9
 a9:=Tryz.isAgg9
 z9:=Tryz.sizeOf9
 v9:=Tryz.zeroValue9
 t24:=Tryz.underlying230
 a24:=Tryz.isAgg230
 z24:=Tryz.sizeOf230
 v24:=Tryz.zeroValue230 }
open Go.RowKit in
theorem Tryz.strings_CutPrefix (s p:ByteArray) (w:World) :
  Calls Tryz.prog 214 #[.string s,.string p] w fun e w'=>e = .returned (.tuple #[.string ⟨(Lib.trimPrefix s.data.toList p.data.toList).toArray⟩,.bool (Lib.hasPrefix s.data.toList p.data.toList)]) ∧ w' = w:=Any.strings_CutPrefix Tryz.lays103 s p w
def Tryz.laysM171_ren:Go.Shelf.Ren:=⟨fun | 171=>145 | 243=>186 | 246=>208 | 283=>223 | 284=>224 | 285=>225 | 286=>226 | 129=>222 | 317=>232 | 318=>233 | 319=>234 | 320=>235 | 337=>243 | 338=>220 | n=>n,fun | 3=>3 | 9=>9 | 2=>2 | 4=>4 | 171=>236 | 0=>0 | 53=>139 | 37=>181 | 5=>5 | 173=>238 | 212=>245 | 51=>200 | 20=>20 | 213=>246 | 46=>174 | 232=>261 | 233=>243 | n=>n,fun | 17=>3 | 18=>7 | 19=>2 | n=>n⟩
theorem Tryz.laysM171:Go.Proofs.LaysM.n171 Tryz.prog Tryz.laysM171_ren:={
 mixed:=by kernel_rfl
 f129:=Tryz.func222.trans (congrArg some (by kernel_rfl))
 f171:=Tryz.func145.trans (congrArg some (by kernel_rfl))
 f243:=Tryz.func186.trans (congrArg some (by kernel_rfl))
 f246:=Tryz.func208.trans (congrArg some (by kernel_rfl))
 f283:=Tryz.func223.trans (congrArg some (by kernel_rfl))
 f284:=Tryz.func224.trans (congrArg some (by kernel_rfl))
 f285:=Tryz.func225.trans (congrArg some (by kernel_rfl))
 f286:=Tryz.func226.trans (congrArg some (by kernel_rfl))
 f317:=Tryz.func232.trans (congrArg some (by kernel_rfl))
 f318:=Tryz.func233.trans (congrArg some (by kernel_rfl))
 f319:=Tryz.func234.trans (congrArg some (by kernel_rfl))
 f320:=Tryz.func235.trans (congrArg some (by kernel_rfl))
 f337:=Tryz.func243.trans (congrArg some (by kernel_rfl))
 f338:=Tryz.func220.trans (congrArg some (by kernel_rfl))
 t0:=Tryz.underlying0
 a0:=Tryz.isAgg0
 z0:=Tryz.sizeOf0
 v0:=Tryz.zeroValue0
 t2:=Tryz.underlying2
 a2:=Tryz.isAgg2
 z2:=Tryz.sizeOf2
 v2:=Tryz.zeroValue2
 t3:=Tryz.underlying3
 a3:=Tryz.isAgg3
 z3:=Tryz.sizeOf3
 v3:=Tryz.zeroValue3
 t4:=Tryz.underlying4
 a4:=Tryz.isAgg4
 z4:=Tryz.sizeOf4
 v4:=Tryz.zeroValue4
 t5:=Tryz.underlying5
 a5:=Tryz.isAgg5
 z5:=Tryz.sizeOf5
 v5:=Tryz.zeroValue5
 t9:=Tryz.underlying9
 a9:=Tryz.isAgg9
 z9:=Tryz.sizeOf9
 v9:=Tryz.zeroValue9
 t20:=Tryz.underlying20
 a20:=Tryz.isAgg20
 z20:=Tryz.sizeOf20
 v20:=Tryz.zeroValue20
 t37:=Tryz.underlying181
 a37:=Tryz.isAgg181
 z37:=Tryz.sizeOf181
 v37:=Tryz.zeroValue181
 t46:=Tryz.underlying174
 a46:=Tryz.isAgg174
 z46:=Tryz.sizeOf174
 v46:=Tryz.zeroValue174
 t51:=Tryz.underlying200
 a51:=Tryz.isAgg200
 z51:=Tryz.sizeOf200
 v51:=Tryz.zeroValue200
 t53:=Tryz.underlying139
 a53:=Tryz.isAgg139
 z53:=Tryz.sizeOf139
 v53:=Tryz.zeroValue139
 t171:=Tryz.underlying236
 a171:=Tryz.isAgg236
 z171:=Tryz.sizeOf236
 v171:=Tryz.zeroValue236
 t173:=Tryz.underlying238
 a173:=Tryz.isAgg238
 z173:=Tryz.sizeOf238
 v173:=Tryz.zeroValue238
 t212:=Tryz.underlying245
 a212:=Tryz.isAgg245
 z212:=Tryz.sizeOf245
 v212:=Tryz.zeroValue245
 t213:=Tryz.underlying246
 a213:=Tryz.isAgg246
 z213:=Tryz.sizeOf246
 t232:=Tryz.underlying261
 a232:=Tryz.isAgg261
 z232:=Tryz.sizeOf261
 v232:=Tryz.zeroValue261
 t233:=Tryz.underlying243
 a233:=Tryz.isAgg243
 z233:=Tryz.sizeOf243
 v233:=Tryz.zeroValue243
 g17:=by kernel_rfl
 g18:=by kernel_rfl
 g19:=by kernel_rfl
 i0:=by kernel_rfl
 i2:=by kernel_rfl
 i3:=by kernel_rfl
 i4:=by kernel_rfl
 i5:=by kernel_rfl
 i9:=by kernel_rfl
 i20:=by kernel_rfl
 i37:=by kernel_rfl
 i46:=by kernel_rfl
 i51:=by kernel_rfl
 i53:=by kernel_rfl
 i171:=by kernel_rfl
 i173:=by kernel_rfl
 i212:=by kernel_rfl
 i232:=by kernel_rfl
 i233:=by kernel_rfl
 m17:=by kernel_rfl
 m18:=by kernel_rfl
 m19:=by kernel_rfl }
open Go.RowKit Go.Sort Go.Lib in
theorem Tryz.strconv_Itoa (n:Int) (h0:-9223372036854775808 ≤ n) (h1:n ≤ 9223372036854775807) (w:World) (htab:Lib.TabIs Tryz.prog w tabName .u64 Lib.pow10Tab) :
  Calls Tryz.prog 145 #[.int .i64 n] w fun e w'=>e = .returned (.string ⟨(Lib.itoa n).toArray⟩) ∧ ∃ k os,w' = grow (w.drewN k) os:=Any.strconv_Itoa Tryz.laysM171 n h0 h1 w htab
def Tryz.laysC172_ren:Go.Shelf.Ren:=⟨fun | 172=>213 | 244=>228 | 245=>229 | 247=>237 | 279=>238 | 280=>239 | 281=>240 | 282=>241 | 287=>244 | 316=>245 | 171=>145 | 205=>246 | 321=>247 | 322=>248 | 243=>186 | 246=>208 | 283=>223 | 284=>224 | 285=>225 | 286=>226 | 129=>222 | 317=>232 | 318=>233 | 319=>234 | 320=>235 | 337=>243 | 338=>220 | n=>n,fun | 9=>9 | 3=>3 | 75=>211 | 76=>212 | 4=>4 | 5=>5 | 167=>248 | 37=>181 | 0=>0 | 85=>249 | 2=>2 | 168=>251 | 53=>139 | 175=>256 | 46=>174 | 210=>259 | 127=>233 | 145=>266 | 143=>264 | 21=>21 | 171=>236 | 173=>238 | 212=>245 | 51=>200 | 20=>20 | 213=>246 | 232=>261 | 233=>243 | 80=>214 | n=>n,fun | 15=>5 | 16=>6 | 17=>3 | 18=>7 | 19=>2 | n=>n⟩
theorem Tryz.laysC172:Go.Proofs.LaysC.n172 Tryz.prog Tryz.laysC172_ren:={
 mixed:=by kernel_rfl
 f129:=Tryz.func222.trans (congrArg some (by kernel_rfl))
 f171:=Tryz.func145.trans (congrArg some (by kernel_rfl))
 f172:=Tryz.func213.trans (congrArg some (by kernel_rfl))
 f205:=Tryz.func246.trans (congrArg some (by kernel_rfl))
 f243:=Tryz.func186.trans (congrArg some (by kernel_rfl))
 f244:=Tryz.func228.trans (congrArg some (by kernel_rfl))
 f245:=Tryz.func229.trans (congrArg some (by kernel_rfl))
 f246:=Tryz.func208.trans (congrArg some (by kernel_rfl))
 f247:=Tryz.func237.trans (congrArg some (by kernel_rfl))
 f279:=Tryz.func238.trans (congrArg some (by kernel_rfl))
 f280:=Tryz.func239.trans (congrArg some (by kernel_rfl))
 f281:=Tryz.func240.trans (congrArg some (by kernel_rfl))
 f282:=Tryz.func241.trans (congrArg some (by kernel_rfl))
 f283:=Tryz.func223.trans (congrArg some (by kernel_rfl))
 f284:=Tryz.func224.trans (congrArg some (by kernel_rfl))
 f285:=Tryz.func225.trans (congrArg some (by kernel_rfl))
 f286:=Tryz.func226.trans (congrArg some (by kernel_rfl))
 f287:=Tryz.func244.trans (congrArg some (by kernel_rfl))
 f316:=Tryz.func245.trans (congrArg some (by kernel_rfl))
 f317:=Tryz.func232.trans (congrArg some (by kernel_rfl))
 f318:=Tryz.func233.trans (congrArg some (by kernel_rfl))
 f319:=Tryz.func234.trans (congrArg some (by kernel_rfl))
 f320:=Tryz.func235.trans (congrArg some (by kernel_rfl))
 f321:=Tryz.func247.trans (congrArg some (by kernel_rfl))
 f322:=Tryz.func248.trans (congrArg some (by kernel_rfl))
 f337:=Tryz.func243.trans (congrArg some (by kernel_rfl))
 f338:=Tryz.func220.trans (congrArg some (by kernel_rfl))
 t0:=Tryz.underlying0
 a0:=Tryz.isAgg0
 z0:=Tryz.sizeOf0
 v0:=Tryz.zeroValue0
 t2:=Tryz.underlying2
 a2:=Tryz.isAgg2
 z2:=Tryz.sizeOf2
 v2:=Tryz.zeroValue2
 t3:=Tryz.underlying3
 a3:=Tryz.isAgg3
 z3:=Tryz.sizeOf3
 v3:=Tryz.zeroValue3
 t4:=Tryz.underlying4
 a4:=Tryz.isAgg4
 z4:=Tryz.sizeOf4
 v4:=Tryz.zeroValue4
 t5:=Tryz.underlying5
 a5:=Tryz.isAgg5
 z5:=Tryz.sizeOf5
 v5:=Tryz.zeroValue5
 t9:=Tryz.underlying9
 a9:=Tryz.isAgg9
 z9:=Tryz.sizeOf9
 v9:=Tryz.zeroValue9
 t20:=Tryz.underlying20
 a20:=Tryz.isAgg20
 z20:=Tryz.sizeOf20
 v20:=Tryz.zeroValue20
 t21:=Tryz.underlying21
 a21:=Tryz.isAgg21
 z21:=Tryz.sizeOf21
 v21:=Tryz.zeroValue21
 t37:=Tryz.underlying181
 a37:=Tryz.isAgg181
 z37:=Tryz.sizeOf181
 v37:=Tryz.zeroValue181
 t46:=Tryz.underlying174
 a46:=Tryz.isAgg174
 z46:=Tryz.sizeOf174
 v46:=Tryz.zeroValue174
 t51:=Tryz.underlying200
 a51:=Tryz.isAgg200
 z51:=Tryz.sizeOf200
 v51:=Tryz.zeroValue200
 t53:=Tryz.underlying139
 a53:=Tryz.isAgg139
 z53:=Tryz.sizeOf139
 v53:=Tryz.zeroValue139
 t75:=Tryz.underlying211
 a75:=Tryz.isAgg211
 z75:=Tryz.sizeOf211
 v75:=Tryz.zeroValue211
 t76:=Tryz.underlying212
 a76:=Tryz.isAgg212
 z76:=Tryz.sizeOf212
 v76:=Tryz.zeroValue212
 t85:=Tryz.underlying249
 a85:=Tryz.isAgg249
 z85:=Tryz.sizeOf249
 v85:=Tryz.zeroValue249
 t127:=Tryz.underlying233
 a127:=Tryz.isAgg233
 z127:=Tryz.sizeOf233
 v127:=Tryz.zeroValue233
 t143:=Tryz.underlying264
 a143:=Tryz.isAgg264
 z143:=Tryz.sizeOf264
 v143:=Tryz.zeroValue264
 t145:=Tryz.underlying266
 a145:=Tryz.isAgg266
 z145:=Tryz.sizeOf266
 v145:=Tryz.zeroValue266
 t167:=Tryz.underlying248
 a167:=Tryz.isAgg248
 z167:=Tryz.sizeOf248
 v167:=Tryz.zeroValue248
 t168:=Tryz.underlying251
 a168:=Tryz.isAgg251
 z168:=Tryz.sizeOf251
 v168:=Tryz.zeroValue251
 t171:=Tryz.underlying236
 a171:=Tryz.isAgg236
 z171:=Tryz.sizeOf236
 v171:=Tryz.zeroValue236
 t173:=Tryz.underlying238
 a173:=Tryz.isAgg238
 z173:=Tryz.sizeOf238
 v173:=Tryz.zeroValue238
 t175:=Tryz.underlying256
 a175:=Tryz.isAgg256
 z175:=Tryz.sizeOf256
 v175:=Tryz.zeroValue256
 t210:=Tryz.underlying259
 a210:=Tryz.isAgg259
 z210:=Tryz.sizeOf259
 v210:=Tryz.zeroValue259
 t212:=Tryz.underlying245
 a212:=Tryz.isAgg245
 z212:=Tryz.sizeOf245
 v212:=Tryz.zeroValue245
 t213:=Tryz.underlying246
 a213:=Tryz.isAgg246
 z213:=Tryz.sizeOf246
 t232:=Tryz.underlying261
 a232:=Tryz.isAgg261
 z232:=Tryz.sizeOf261
 v232:=Tryz.zeroValue261
 t233:=Tryz.underlying243
 a233:=Tryz.isAgg243
 z233:=Tryz.sizeOf243
 v233:=Tryz.zeroValue243
 g15:=by kernel_rfl
 g16:=by kernel_rfl
 g17:=by kernel_rfl
 g18:=by kernel_rfl
 g19:=by kernel_rfl
 t80:=Tryz.underlying214
 a80:=Tryz.isAgg214
 z80:=Tryz.sizeOf214
 v80:=Tryz.zeroValue214
 i0:=by kernel_rfl
 i2:=by kernel_rfl
 i3:=by kernel_rfl
 i4:=by kernel_rfl
 i5:=by kernel_rfl
 i9:=by kernel_rfl
 i20:=by kernel_rfl
 i21:=by kernel_rfl
 i37:=by kernel_rfl
 i46:=by kernel_rfl
 i51:=by kernel_rfl
 i53:=by kernel_rfl
 i75:=by kernel_rfl
 i76:=by kernel_rfl
 i80:=by kernel_rfl
 i85:=by kernel_rfl
 i127:=by kernel_rfl
 i143:=by kernel_rfl
 i145:=by kernel_rfl
 i167:=by kernel_rfl
 i168:=by kernel_rfl
 i171:=by kernel_rfl
 i173:=by kernel_rfl
 i175:=by kernel_rfl
 i210:=by kernel_rfl
 i212:=by kernel_rfl
 i232:=by kernel_rfl
 i233:=by kernel_rfl
 m15:=by kernel_rfl
 m16:=by kernel_rfl
 m17:=by kernel_rfl
 m18:=by kernel_rfl
 m19:=by kernel_rfl
 c0:=by kernel_rfl
 c2:=by kernel_rfl
 c3:=by kernel_rfl
 c4:=by kernel_rfl
 c5:=by kernel_rfl
 c9:=by kernel_rfl
 c20:=by kernel_rfl
 c21:=by kernel_rfl
 c37:=by kernel_rfl
 c46:=by kernel_rfl
 c51:=by kernel_rfl
 c53:=by kernel_rfl
 c75:=by kernel_rfl
 c76:=by kernel_rfl
 c80:=by kernel_rfl
 c85:=by kernel_rfl
 c127:=by kernel_rfl
 c143:=by kernel_rfl
 c145:=by kernel_rfl
 c167:=by kernel_rfl
 c168:=by kernel_rfl
 c171:=by kernel_rfl
 c173:=by kernel_rfl
 c175:=by kernel_rfl
 c210:=by kernel_rfl
 c212:=by kernel_rfl
 c213:=by kernel_rfl
 c232:=by kernel_rfl
 c233:=by kernel_rfl }
open Go.RowKit in
theorem Tryz.strconv_Atoi_ok (s:ByteArray) (hmax:s.size ≤ 9223372036854775806) (v:Int) (h:Lib.atoiAll s.data.toList = .ok v) (w:World) :
  Calls Tryz.prog 213 #[.string s] w fun e w'=>e = .returned (.tuple #[.int .i64 v,.nilIface]) ∧ (w' = w ∨ ∃ t,w' = Lib.bytesWorld w 5 t):=Any.strconv_Atoi_ok Tryz.laysC172 s hmax v h w
open Go.RowKit in
theorem Tryz.strconv_Atoi_syntax (s:ByteArray) (hlim:s.size ≤ 281474976710656) (h:Lib.atoiAll s.data.toList = .«syntax») (ev:Value) (w:World) (hv:w.cell? ⟨5,0,none⟩ = some ev) (hev:ev = .nilIface ∨ ∃ te pe,ev = .iface te pe) :
  Calls Tryz.prog 213 #[.string s] w fun e w'=>∃ N,e = .returned (.tuple #[.int .i64 (0),.iface 251 (.pointer (some ⟨N,0,none⟩))]) ∧ w.heap.size ≤ N ∧ w'.heap[N]? = some (.cells #[.string ⟨#[65,116,111,105]⟩,.string s,ev] 259 (0,0)) ∧ Below w.heap.size w w':=Any.strconv_Atoi_syntax Tryz.laysC172 s hlim h ev w hv hev
open Go.RowKit in
theorem Tryz.strconv_Atoi_range (s:ByteArray) (hlim:s.size ≤ 281474976710656) (h:Lib.atoiAll s.data.toList = .range) (ev:Value) (w:World) (hv:w.cell? ⟨6,0,none⟩ = some ev) (hev:ev = .nilIface ∨ ∃ te pe,ev = .iface te pe) :
  Calls Tryz.prog 213 #[.string s] w fun e w'=>∃ N,e = .returned (.tuple #[.int .i64 (Lib.atoiSat s.data.toList),.iface 251 (.pointer (some ⟨N,0,none⟩))]) ∧ w.heap.size ≤ N ∧ w'.heap[N]? = some (.cells #[.string ⟨#[65,116,111,105]⟩,.string s,ev] 259 (0,0)) ∧ Below w.heap.size w w':=Any.strconv_Atoi_range Tryz.laysC172 s hlim h ev w hv hev
end Go.Proofs
namespace CodeSpec
open Go.Lib
abbrev Bytes:=List UInt8
def InR (n:Int):Prop:=-9223372036854775808 ≤ n ∧ n ≤ 9223372036854775807
def encInt (n:Int):Bytes:=itoa n ++ [59]
def encText (s:Bytes):Bytes:=itoa s.length ++ 58 :: (s ++ [44])
def encList (l:List Bytes):Bytes:=itoa l.length ++ 91 :: (l.flatten ++ [93])
def encNums (l:List Int):Bytes:=encList (l.map encInt)
def canon (l:Bytes):Option Int:=match atoiAll l with
 | .ok v=>if itoa v = l then some v else none
 | _=>none
structure Rd where
 rest:Bytes
 bad:Bool
def failed:Rd:=⟨[],true⟩
def rdNumber (r:Rd) (e:UInt8) (least:Int):Int × Rd:=
 if ((r.rest.take 21).takeWhile (· != e)).length < (r.rest.take 21).length then
  match canon ((r.rest.take 21).takeWhile (· != e)) with
  | some n=>if n < least then (0,failed) else (n,⟨r.rest.drop (((r.rest.take 21).takeWhile (· != e)).length + 1),r.bad⟩)
  | none=>(0,failed)
 else (0,failed)
def rdClose (r:Rd) (c:UInt8):Rd:=match r.rest with
 | []=>failed
 | x :: t=>if x = c then ⟨t,r.bad⟩ else failed
def rdInt (r:Rd):Int × Rd:=rdNumber r 59 (-9223372036854775808)
def itemsGo {α:Type} (one:Rd → α × Rd):Nat → Rd → List α × Rd
 | 0,r=>([],r)
 | n + 1,r=>if r.bad then ([],r) else ((one r).1 :: (itemsGo one n (one r).2).1,(itemsGo one n (one r).2).2)
def rdItems {α:Type} (one:Rd → α × Rd) (r:Rd):List α × Rd:=
 if (rdClose (itemsGo one (rdNumber r 91 0).1.toNat (rdNumber r 91 0).2).2 93).bad then ([],rdClose (itemsGo one (rdNumber r 91 0).1.toNat (rdNumber r 91 0).2).2 93)
 else ((itemsGo one (rdNumber r 91 0).1.toNat (rdNumber r 91 0).2).1,rdClose (itemsGo one (rdNumber r 91 0).1.toNat (rdNumber r 91 0).2).2 93)
def rdNums:Rd → List Int × Rd:=rdItems rdInt
theorem digit_toNat (d:Nat) (h:d < 10):(UInt8.ofNat (48 + d)).toNat = 48 + d:=by
 rw [UInt8.toNat_ofNat']; omega
theorem decDigits_digit (u:Nat):∀ c ∈ decDigits u,48 ≤ c.toNat ∧ c.toNat ≤ 57:=by
 induction u using Nat.strongRecOn with
 | ind u ih=>
  rw [decDigits]
  split
  ·rename_i h
   intro c hc
   simp only [List.mem_singleton] at hc
   subst hc
   rw [digit_toNat u h]; omega
  ·rename_i h
   intro c hc
   rcases List.mem_append.1 hc with hc | hc
   ·exact ih (u / 10) (by omega) c hc
   ·simp only [List.mem_singleton] at hc
    subst hc
    rw [digit_toNat _ (by omega)]; omega
theorem decDigits_ne (u:Nat):decDigits u ≠ []:=by
 rw [decDigits]
 split <;> simp
theorem decDigits_len (u:Nat) (k:Nat) (hk:1 ≤ k) (h:u < 10 ^ k):(decDigits u).length ≤ k:=by
 induction k generalizing u with
 | zero=>omega
 | succ k ih=>
  rw [decDigits]
  split
  ·simp
  ·rename_i h10
   have hk1:1 ≤ k:=by
    rcases Nat.eq_zero_or_pos k with rfl | h0
    ·simp at h; omega
    ·exact h0
   have:=ih (u / 10) hk1 (by rw [Nat.pow_succ] at h; omega)
   simp only [List.length_append,List.length_singleton]
   omega
theorem parse_append (l m:Bytes) (acc:Nat):parseUint10 acc (l ++ m) = match parseUint10 acc l with | .ok u=>parseUint10 u m | .range=>.range | .syntax=>.syntax:=by
 induction l generalizing acc with
 | nil=>rfl
 | cons c l ih=>
  simp only [List.cons_append,parseUint10]
  by_cases h1:48 ≤ c.toNat ∧ c.toNat ≤ 57
  ·by_cases h2:1844674407370955162 ≤ acc
   ·simp only [if_pos h1,if_pos h2]
   ·by_cases h3:18446744073709551616 ≤ acc * 10 + (c.toNat - 48)
    ·simp only [if_pos h1,if_neg h2,if_pos h3]
    ·simp only [if_pos h1,if_neg h2,if_neg h3]
     exact ih _
  ·simp only [if_neg h1]
theorem parse_dec (u:Nat) (h:u < 18446744073709551616):parseUint10 0 (decDigits u) = .ok u:=by
 induction u using Nat.strongRecOn with
 | ind u ih=>
  rw [decDigits]
  split
  ·rename_i h10
   simp only [parseUint10,digit_toNat u h10]
   rw [if_pos (by omega),if_neg (by omega),if_neg (by omega)]
   congr 1; omega
  ·rename_i h10
   rw [parse_append,ih (u / 10) (by omega) (by omega)]
   simp only [parseUint10,digit_toNat (u % 10) (by omega)]
   rw [if_pos (by omega),if_neg (by omega),if_neg (by omega)]
   congr 1; omega
theorem atoi_itoa (n:Int) (h:InR n):atoiAll (itoa n) = .ok n:=by
 obtain ⟨h1,h2⟩:=h
 unfold itoa
 split
 ·rename_i hn
  rw [atoiAll_minus]
  have hp:parseMag (decDigits n.natAbs) = .ok n.natAbs:=by
   unfold parseMag
   rw [if_neg (decDigits_ne _),parse_dec _ (by omega)]
  rw [hp]
  simp only [signed]
  rw [if_neg (by omega)]
  congr 1; omega
 ·rename_i hn
  obtain ⟨c,r,hc⟩:∃ c r,decDigits n.toNat = c :: r:=by
   cases hd:decDigits n.toNat with
   | nil=>exact absurd hd (decDigits_ne _)
   | cons c r=>exact ⟨c,r,rfl⟩
  have hcd:=decDigits_digit n.toNat c (by rw [hc]; simp)
  rw [hc,atoiAll_plain c r (by omega) (by omega),← hc]
  have hp:parseMag (decDigits n.toNat) = .ok n.toNat:=by
   unfold parseMag
   rw [if_neg (decDigits_ne _),parse_dec _ (by omega)]
  rw [hp]
  simp only [signless]
  rw [if_neg (by omega)]
  congr 1; omega
theorem canon_itoa (n:Int) (h:InR n):canon (itoa n) = some n:=by
 unfold canon
 rw [atoi_itoa n h]
 simp
theorem canon_some (l:Bytes) (n:Int) (h:canon l = some n):l = itoa n ∧ InR n:=by
 unfold canon at h
 split at h
 ·rename_i v hv
  split at h
  ·rename_i he
   cases h
   exact ⟨he.symm,atoiAll_bounds hv⟩
  ·cases h
 ·cases h
theorem itoa_len (n:Int) (h:InR n):(itoa n).length ≤ 20:=by
 obtain ⟨h1,h2⟩:=h
 unfold itoa
 split
 ·have:=decDigits_len n.natAbs 19 (by omega) (by omega)
  simp; omega
 ·have:=decDigits_len n.toNat 19 (by omega) (by omega)
  omega
theorem rdNumber_some (r:Rd) (e:UInt8) (least:Int):rdNumber r e least = (0,failed) ∨ ∃ n t,rdNumber r e least = (n,⟨t,r.bad⟩) ∧ r.rest = itoa n ++ e :: t ∧ InR n ∧ least ≤ n:=by
 unfold rdNumber
 split
 ·rename_i hlt
  split
  ·rename_i n hc
   split
   ·exact .inl rfl
   ·rename_i hle
    obtain ⟨h1,h2⟩:=canon_some _ _ hc
    refine .inr ⟨n,_,rfl,?_,h2,by omega⟩
    generalize hp:(r.rest.take 21).takeWhile (· != e) = p at *
    have hpre:r.rest.take 21 = p ++ (r.rest.take 21).drop p.length:=by
     have:=List.takeWhile_append_dropWhile (p:=(· != e)) (l:=r.rest.take 21)
     rw [hp] at this
     conv=>lhs; rw [← this]
     congr 1
     conv=>rhs; rw [← this]
     rw [List.drop_left]
    have hdw:(r.rest.take 21).dropWhile (· != e) = (r.rest.take 21).drop p.length:=by
     have:=List.takeWhile_append_dropWhile (p:=(· != e)) (l:=r.rest.take 21)
     rw [hp] at this
     conv=>rhs; rw [← this]
     rw [List.drop_left]
    have hpl:p.length < r.rest.length:=by
     have:=List.length_take_le 21 r.rest
     rw [List.length_take] at hlt
     omega
    have hhead:∃ t',(r.rest.take 21).drop p.length = e :: t':=by
     cases hd:(r.rest.take 21).drop p.length with
     | nil=>rw [List.drop_eq_nil_iff] at hd; omega
     | cons x t'=>
      rw [hd] at hdw
      have:=List.head_dropWhile_not (· != e) (l:=r.rest.take 21) (by rw [hdw]; simp)
      simp only [hdw,List.head_cons] at this
      have hx:x = e:=by simpa using this
      exact ⟨t',by rw [hx]⟩
    obtain ⟨t',ht'⟩:=hhead
    have hget:r.rest[p.length]? = some e:=by
     have h3:(r.rest.take 21)[p.length]? = some e:=by
      have:=congrArg (fun l=>l[0]?) ht'
      simpa using this
     rw [List.getElem?_take] at h3
     split at h3
     ·exact h3
     ·cases h3
    have htk:r.rest.take p.length = p:=by
     have h4:=congrArg (List.take p.length) hpre
     rw [List.take_left,List.take_take,Nat.min_eq_left (by rw [List.length_take] at hlt; omega)] at h4
     exact h4
    have hsplit:r.rest = r.rest.take p.length ++ r.rest.drop p.length:=(List.take_append_drop _ _).symm
    have hdrop:r.rest.drop p.length = e :: r.rest.drop (p.length + 1):=by
     rw [List.drop_eq_getElem_cons hpl]
     congr 1
     rw [List.getElem?_eq_getElem hpl] at hget
     simpa using hget
    rw [htk,hdrop] at hsplit
    rw [← h1]
    exact hsplit
  ·exact .inl rfl
 ·exact .inl rfl
theorem failed_bad:failed.bad = true:=rfl
def Rd.ok (r:Rd):Prop:=r.bad = true → r.rest = []
theorem Rd.ok_failed:failed.ok:=fun _=>rfl
theorem Rd.ok_good {t:Bytes}:Rd.ok ⟨t,false⟩:=fun h=>by cases h
theorem Rd.eq_failed {r:Rd} (h:r.ok) (hb:r.bad = true):r = failed:=by
 cases r with
 | mk rest bad=>
  have:=h hb
  simp only at hb this
  subst hb; subst this; rfl
theorem rdNumber_ok (r:Rd) (h:r.ok) (e:UInt8) (least:Int):(rdNumber r e least).2.ok:=by
 rcases rdNumber_some r e least with h1 | ⟨n,t,h1,h2,_⟩
 ·rw [h1]; exact Rd.ok_failed
 ·rw [h1]
  intro hb
  have:=h hb
  rw [this] at h2
  simp at h2
theorem rdClose_some (r:Rd) (c:UInt8):rdClose r c = failed ∨ ∃ t,r.rest = c :: t ∧ rdClose r c = ⟨t,r.bad⟩:=by
 unfold rdClose
 split
 ·exact .inl rfl
 ·rename_i x t hx
  split
  ·rename_i hc
   subst hc
   exact .inr ⟨t,hx,rfl⟩
  ·exact .inl rfl
theorem rdClose_failed (c:UInt8):rdClose failed c = failed:=rfl
theorem rdInt_some (r:Rd) (hr:r.ok):rdInt r = (0,failed) ∨ ∃ n t,rdInt r = (n,⟨t,false⟩) ∧ r = ⟨encInt n ++ t,false⟩ ∧ InR n:=by
 rcases rdNumber_some r 59 (-9223372036854775808) with h1 | ⟨n,t,h1,h2,h3,h4⟩
 ·exact .inl h1
 ·rcases hb:r.bad with _ | _
  ·right
   rw [hb] at h1
   obtain ⟨rest,bad⟩:=r
   simp only at hb h2
   subst hb
   exact ⟨n,t,h1,by rw [h2]; simp [encInt],h3⟩
  ·rw [hr hb] at h2; simp at h2
end CodeSpec
namespace Go.Proofs.Cd
open Go Go.Sh Go.RowKit Go.Lib CodeSpec
theorem ba_extract (l:List UInt8) (i j:Nat):(⟨l.toArray⟩:ByteArray).extract i j = ⟨((l.take j).drop i).toArray⟩:=by
 apply ByteArray.ext
 rw [← Array.toList_inj,ByteArray.data_extract,Array.toList_extract,List.extract_eq_take_drop]
 simp [List.drop_take]
theorem ba_inj (a b:List UInt8):((⟨a.toArray⟩:ByteArray) = ⟨b.toArray⟩) = (a = b):=by
 simp
theorem ba_byteAt (l:List UInt8) (k:Nat):byteAt ⟨l.toArray⟩ k = l.getD k 0:=by
 simp [byteAt]
attribute [go_sem] ba_size ba_append ba_extract ba_byteAt ba_inj
theorem K_eq {K:Value → World → Prop} {w:World} {a b:Value} (h:K a w) (e:b = a):K b w:=by rw [e]; exact h
theorem call_of_calls {f:FuncId} {args:Array Value} {w:World} {v:Value} {Q:World → Prop} {K:Value → World → Prop} (h:Calls Tryz.prog f args w fun e w'=>e = .returned v ∧ Q w') (k:∀ w',Q w' → K v w'):callM Tryz.prog f args K w:=
 Calls.mono h (fun _ w' ⟨he,hq⟩=>⟨v,he,k w' hq⟩)
structure Laid (w:World):Prop where
 tab:TabIs Tryz.prog w tabName .u64 pow10Tab
 size:8 ≤ w.heap.size
structure LaidE (w:World):Prop extends Laid w where
 syn:∃ te pe,w.cell? ⟨5,0,none⟩ = some (.iface te pe)
 ran:∃ te pe,w.cell? ⟨6,0,none⟩ = some (.iface te pe)
theorem gTab:Tryz.prog.globalNamed tabName = some 3:=by kernel_rfl
theorem Laid.keep {w w':World} (h:Laid w) (hb:∀ k,k < 8 → w'.heap[k]? = w.heap[k]?) (hs:w.heap.size ≤ w'.heap.size):Laid w':=by
 refine ⟨?_,Nat.le_trans h.size hs⟩
 have h1:=h.tab
 unfold TabIs World.var? at h1 ⊢
 rw [gTab] at h1 ⊢
 simp only [Option.bind_some] at h1 ⊢
 rw [hb _ (by omega)]
 exact h1
theorem Laid.below {w w':World} (h:Laid w) {B:Nat} (hb:Below B w w') (hB:8 ≤ B):Laid w':=h.keep (fun k hk=>hb.block k (by omega)) hb.size
theorem Laid.grown {w w':World} (h:Laid w) {b:Nat} (hg:w.grownBy w' (some b)) (hb:8 ≤ b):Laid w':=h.keep (fun k hk=>hg.block k (by have:=h.size; omega) (by simp; omega)) hg.size
theorem LaidE.keep {w w':World} (h:LaidE w) (hb:∀ k,k < 8 → w'.heap[k]? = w.heap[k]?) (hs:w.heap.size ≤ w'.heap.size):LaidE w':=by
 have hc:∀ k,k < 8 → w'.cell? ⟨k,0,none⟩ = w.cell? ⟨k,0,none⟩:=fun k hk=>World.cell?_of_block (w:=w) (hb k hk)
 refine ⟨h.toLaid.keep hb hs,?_,?_⟩
 ·rw [hc _ (by omega)]; exact h.syn
 ·rw [hc _ (by omega)]; exact h.ran
theorem LaidE.below {w w':World} (h:LaidE w) {B:Nat} (hb:Below B w w') (hB:8 ≤ B):LaidE w':=h.keep (fun k hk=>hb.block k (by omega)) hb.size
theorem LaidE.grown {w w':World} (h:LaidE w) {b:Nat} (hg:w.grownBy w' (some b)) (hb:8 ≤ b):LaidE w':=h.keep (fun k hk=>hg.block k (by have:=h.toLaid.size; omega) (by simp; omega)) hg.size
theorem grown_of_below {w w':World} (h:Below w.heap.size w w') (b:Option Nat):w.grownBy w' b:=⟨h.os,h.tape,h.output,h.size,fun k hk _=>h.block k hk⟩
theorem below_of_grown {B:Nat} {w w':World} {row:Option Nat} (h:w.grownBy w' row) (hB:B ≤ w.heap.size) (hr:∀ k,row = some k → B ≤ k):Below B w w':=
 (Below.refl B w).grown h hB hr
theorem itoa_ok (n:Int) (hn:InR n) {K:Value → World → Prop} {w:World} (hl:Laid w) (k:∀ w',Below w.heap.size w w' → K (.string ⟨(itoa n).toArray⟩) w'):callM Tryz.prog 145 #[.int .i64 n] K w:=by
 refine call_of_calls (Tryz.strconv_Itoa n hn.1 hn.2 w hl.tab) ?_
 rintro w' ⟨d,os,rfl⟩
 exact k _ (below_grow _ _ (Nat.le_refl _) _ _)
theorem below_bytesWorld (w:World) (T:TypeId) (t:ByteArray):Below w.heap.size w (bytesWorld w T t):=
 ⟨rfl,rfl,rfl,by rw [bytesWorld_size]; omega,fun k hk=>bytesWorld_at_old w T t k hk⟩
theorem atoi_ok (s:List UInt8) (hs:s.length ≤ 281474976710656) {K:Value → World → Prop} {w:World} (hl:LaidE w)
  (k1:∀ n w',atoiAll s = .ok n → Below w.heap.size w w' → K (.tuple #[.int .i64 n,.nilIface]) w')
  (k2:∀ v te pe w',(∀ n,atoiAll s ≠ .ok n) → Below w.heap.size w w' → K (.tuple #[.int .i64 v,.iface te pe]) w'):callM Tryz.prog 213 #[.string ⟨s.toArray⟩] K w:=by
 cases h:atoiAll s with
 | ok n=>
  refine call_of_calls (Tryz.strconv_Atoi_ok ⟨s.toArray⟩ (by rw [ba_size]; omega) n (by rw [ba_list]; exact h) w) ?_
  rintro w' (rfl | ⟨t,rfl⟩)
  ·exact k1 n _ h (Below.refl _ _)
  ·exact k1 n _ h (below_bytesWorld _ _ _)
 | «syntax»=>
  obtain ⟨te,pe,he⟩:=hl.syn
  refine Calls.mono (Tryz.strconv_Atoi_syntax ⟨s.toArray⟩ (by rw [ba_size]; omega) (by rw [ba_list]; exact h) _ w he (.inr ⟨_,_,rfl⟩)) ?_
  rintro e w' ⟨N,rfl,_,_,hb⟩
  exact ⟨_,rfl,k2 _ _ _ _ (fun n e=>by rw [h] at e; cases e) hb⟩
 | range=>
  obtain ⟨te,pe,he⟩:=hl.ran
  refine Calls.mono (Tryz.strconv_Atoi_range ⟨s.toArray⟩ (by rw [ba_size]; omega) (by rw [ba_list]; exact h) _ w he (.inr ⟨_,_,rfl⟩)) ?_
  rintro e w' ⟨N,rfl,_,_,hb⟩
  exact ⟨_,rfl,k2 _ _ _ _ (fun n e=>by rw [h] at e; cases e) hb⟩
theorem indexByte_ok (s:List UInt8) (c:UInt8) {K:Value → World → Prop} {w:World} (h:K (.int .i64 (indexByte s c)) w):callM Tryz.prog 211 #[.string ⟨s.toArray⟩,.int .u8 c.toNat] K w:=by
 refine call_of_calls (Tryz.strings_IndexByte ⟨s.toArray⟩ c.toNat w) ?_
 rintro w' rfl
 have:((c.toNat:Int)).toNat.toUInt8 = c:=by simp
 rw [ba_list,this]
 exact h
theorem cutPrefix_ok (s p:List UInt8) {K:Value → World → Prop} {w:World} (h:K (.tuple #[.string ⟨(trimPrefix s p).toArray⟩,.bool (hasPrefix s p)]) w):callM Tryz.prog 214 #[.string ⟨s.toArray⟩,.string ⟨p.toArray⟩] K w:=by
 refine call_of_calls (Tryz.strings_CutPrefix ⟨s.toArray⟩ ⟨p.toArray⟩ w) ?_
 rintro w' rfl
 exact h
theorem infoB:Tryz.prog.info? 209 = some Tryz.t209:=by kernel_rfl
theorem sizeB:Tryz.t209.size = 2:=by kernel_rfl
theorem liesB (b:Nat):liesAt Tryz.prog Tryz.prog.depth 209 (2 / Tryz.prog.cellsOf 209) (⟨b,0,none⟩:Addr).off 209 1 = true:=by kernel_rfl
theorem runNE (x:Value) (w:World):(callFunc 231 #[x]).run Tryz.prog w = .ok (.value x) w:=by kernel_rfl
theorem extNE {x:Value} {K:Value → World → Prop} {w:World} (k:K x w):extM Tryz.prog 231 #[x] K w:=by
 unfold extM opM
 rw [runNE]
 exact k
theorem copyCheck_nil (B b:Nat) (bs:List Value) (w:World) (h:BuilderAt 209 5 B b (.pointer none) bs w) {K:Value → World → Prop}
  (k:K (.tuple #[]) (w.setCell ⟨b,0,none⟩ (.pointer (some ⟨b,0,none⟩)))):callM Tryz.prog 216 #[.pointer (some ⟨b,0,none⟩)] K w:=by
 apply sh_216_ok
 unfold sh_216
 have hc:=h.cell0
 have hf:=h.frozen0
 have hv1:(convert 207 241 (.pointer (some ⟨b,0,none⟩))).run Tryz.prog w = .ok (.pointer (some ⟨b,0,none⟩)) w:=
  run_to_unsafe (P:=Tryz.prog) (w:=w) (a:=⟨b,0,none⟩) Tryz.underlying207 Tryz.underlying241 (t:=209) (j:=Tryz.t209) infoB (by rw [sizeB]; omega) h.shape (by show (0:Nat) < 2; omega)
 have hv2:(convert 241 207 (.pointer (some ⟨b,0,none⟩))).run Tryz.prog w = .ok (.pointer (some ⟨b,0,none⟩)) w:=
  run_from_unsafe (P:=Tryz.prog) (w:=w) (a:=⟨b,0,none⟩) Tryz.underlying241 Tryz.underlying207 (u:=209) (j:=Tryz.t209) infoB h.shape (liesB b)
 repeat (any_goals (first
 | (with_reducible refine extNE ?_)
 | (with_reducible refine yL ?_)
 | ((with_reducible refine oM_gen fun Kv hK=>?_); simp [go_sem,oM_eqc,eqGuard,hc,hf,hv1,hv2]; refine hK _ _ ?_; clear hK Kv)))
 exact k
theorem copyCheck_self (B b:Nat) (bs:List Value) (w:World) (h:BuilderAt 209 5 B b (.pointer (some ⟨b,0,none⟩)) bs w) {K:Value → World → Prop}
  (k:K (.tuple #[]) w):callM Tryz.prog 216 #[.pointer (some ⟨b,0,none⟩)] K w:=by
 apply sh_216_ok
 unfold sh_216
 have hc:=h.cell0
 have hf:=h.frozen0
 have hn:=run_neq_ptr_same (P:=Tryz.prog) (w:=w) (tp:=207) (te:=209) (j:=Tryz.t209) (a:=⟨b,0,none⟩) Tryz.underlying207 infoB
 repeat (any_goals (first
 | (with_reducible refine yM ?_)
 | ((with_reducible refine oM_gen fun Kv hK=>?_); simp [go_sem,oM_eqc,oM_net,eqGuard,hc,hf,hn]; refine hK _ _ ?_; clear hK Kv)))
 exact k
theorem copyCheck_ok (B b:Nat) (bs:List Value) (w:World) (h:IsBuilder 209 5 B b bs w) {K:Value → World → Prop}
  (k:∀ w',BuilderAt 209 5 B b (.pointer (some ⟨b,0,none⟩)) bs w' → w.grownBy w' (some b) → w'.heap.size = w.heap.size → K (.tuple #[]) w'):callM Tryz.prog 216 #[.pointer (some ⟨b,0,none⟩)] K w:=by
 rcases h with h | h
 ·refine copyCheck_nil B b bs w h (k _ (h.used _) ⟨rfl,rfl,rfl,by simp [World.setCell],fun i _ hi=>Below.heap_setCell _ _ _ _ (fun e=>hi (by simp [e]))⟩ (by simp [World.setCell]))
 ·exact copyCheck_self B b bs w h (k _ h ⟨rfl,rfl,rfl,Nat.le_refl _,fun _ _ _=>rfl⟩ rfl)
theorem ownsRow_slice {w:World} {B:Nat} {e:TypeId} {sz:Nat} {v:Value} {n:Nat} {xs:List Value} (h:w.ownsRow B e sz v n xs):∃ a m c,v = .slice a m c:=by
 rcases h.2 with ⟨h,_⟩ | ⟨g,cap,cur,h,_⟩
 ·exact ⟨_,_,_,h⟩
 ·exact ⟨_,_,_,h⟩
theorem builderString_ok (B b:Nat) (l:List UInt8) (w:World) (h:IsBuilder 209 5 B b (Lib.byteCells l) w) (hBw:B ≤ w.heap.size) {K:Value → World → Prop} (k:∀ w',Below B w w' → K (.string ⟨l.toArray⟩) w'):callM Tryz.prog 195 #[.pointer (some ⟨b,0,none⟩)] K w:=
 call_of_calls (Tryz.Builder_String_any B b l w h hBw) k
theorem writeString_ok (B b:Nat) (l s:List UInt8) (w:World) (h:IsBuilder 209 5 B b (Lib.byteCells l) w) (hlen:l.length + s.length ≤ 140737488355328) (hBw:B ≤ w.heap.size) {K:Value → World → Prop}
  (k:∀ w',IsBuilder 209 5 B b (Lib.byteCells (l ++ s)) w' → Below B w w' → K (.tuple #[.int .i64 s.length,.nilIface]) w'):callM Tryz.prog 194 #[.pointer (some ⟨b,0,none⟩),.string ⟨s.toArray⟩] K w:=by
 apply sh_194_ok
 unfold sh_194
 refine copyCheck_ok B b _ w h ?_
 intro w1 h1 hg1 hs1
 obtain ⟨hB,v,hb,hown,hne⟩:=h1
 have hc1:w1.cell? ⟨b,1,none⟩ = some v:=by simp [World.cell?,hb]
 have hbl:Below B w w1:=below_of_grown hg1 hBw (fun k hk=>by cases hk; exact hB)
 have hbl5:(Lib.byteCells l).length = l.length:=by simp [Lib.byteCells]
 refine Xa @hc1 ?_
 obtain ⟨v',w2,hrun,ho,hg,_⟩:=run_append_own_string (P:=Tryz.prog) w1 B 181 9 181 5 Tryz.t5 Tryz.underlying181 Tryz.underlying9 (by kernel_rfl) (by kernel_rfl) (by kernel_rfl) (by kernel_rfl) v (Lib.byteCells l).length (Lib.byteCells l) hown ⟨s.toArray⟩ (by unfold maxLen; rw [ba_size]; omega) (by rw [ba_size]; omega) (by omega)
 rw [oM_value (S:=Builtin.append_ #[181,9] 181 #[v,.string ⟨s.toArray⟩]) (by simp [xop,execOp,evalL,evE,resolve,invoke,builtin]),hrun,ok_iff]
 have hb2:w2.heap[b]? = some (.cells #[.pointer (some ⟨b,0,none⟩),v] 209 (0,0)):=by
  rw [hg.block b (by have:=(Array.getElem?_eq_some_iff.1 hb).1; exact this) (fun e=>hne e.symm)]
  exact hb
 have hc2:w2.cell? ⟨b,1,none⟩ = some v:=by simp [World.cell?,hb2]
 have hf2:w2.frozen? ⟨b,1,none⟩ = false:=by simp [World.frozen?,hb2]
 have ho':w2.ownsRow B 5 1 v' (Lib.byteCells (l ++ s)).length (Lib.byteCells (l ++ s)):=by
  have e:Lib.byteCells l ++ strCells ⟨s.toArray⟩ = Lib.byteCells (l ++ s):=by simp [Lib.byteCells,strCells]
  have e2:(Lib.byteCells l).length + (⟨s.toArray⟩:ByteArray).size = (Lib.byteCells (l ++ s)).length:=by rw [ba_size]; simp [Lib.byteCells]
  rw [e,e2] at ho
  exact ho
 have hput:=BuilderAt.put (p:=.pointer (some ⟨b,0,none⟩)) hB hb2 ho' (by decide)
 have hbl2:Below B w w2:=hbl.trans (below_of_grown hg (by omega) (fun k hk=>(hown.lt k hk).1))
 obtain ⟨av,nv,cv,rfl⟩:=ownsRow_slice ho
 refine Xa (An2 @hc2 @hf2) ?_
 exact k _ (.inr hput) (hbl2.setCell hB _)
end Go.Proofs.Cd
namespace Go.Proofs.Cd
open Go Go.Sh Go.RowKit Go.Lib CodeSpec
def intV (n:Int):Value:=.int .i64 n
def RowOf {α:Type} (mk:α → Value) (w:World) (v:Value) (l:List α):Prop:=
 ∃ ad c,v = .slice ad l.length c ∧ (l = [] ∨ ∃ b o,ad = some ⟨b,o,none⟩ ∧ b < w.heap.size ∧ ∀ (i:Nat) (h:i < l.length),w.cell? ⟨b,o + i,none⟩ = some (mk l[i]))
theorem RowOf.below {α:Type} {mk:α → Value} {w w':World} {v:Value} {l:List α} (h:RowOf mk w v l) (hb:Below w.heap.size w w'):RowOf mk w' v l:=by
 obtain ⟨ad,c,rfl,h⟩:=h
 refine ⟨ad,c,rfl,h.imp id ?_⟩
 rintro ⟨b,o,rfl,hlt,hc⟩
 exact ⟨b,o,rfl,Nat.lt_of_lt_of_le hlt hb.size,fun i hi=>by rw [hb.cell hlt]; exact hc i hi⟩
theorem RowOf.nil {α:Type} (mk:α → Value) (w:World) (ad:Option Addr) (c:Nat):RowOf mk w (.slice ad 0 c) []:=⟨ad,c,rfl,.inl rfl⟩
theorem addr_add (b o k:Nat):(⟨b,o,none⟩:Addr).add k = ⟨b,o + k,none⟩:=by
 unfold Addr.add
 split
 ·rename_i h0; rw [h0]; simp
 ·rfl
theorem RowOf.of_owns {α:Type} {mk:α → Value} {w:World} {B:Nat} {e:TypeId} {v:Value} {l:List α} (h:w.ownsRow B e 1 v l.length (l.map mk)):RowOf mk w v l:=by
 rcases h.2 with ⟨rfl,h0⟩ | ⟨g,cap,cur,rfl,hb,hg,hn,hm,hcs,ht⟩
 ·obtain rfl:l = []:=List.eq_nil_of_length_eq_zero h0
  exact RowOf.nil _ _ _ _
 ·refine ⟨_,cap,rfl,.inr ⟨g,0,rfl,(Array.getElem?_eq_some_iff.1 hg).1,fun i hi=>?_⟩⟩
  have:(l.map mk)[i]? = some (mk l[i]):=by simp [hi]
  rw [← ht,List.getElem?_take_of_lt (by omega)] at this
  unfold World.cell?
  rw [hg]
  simpa using this
theorem idx22 {b o n c k:Nat} (hk:k < n) (w:World):(Instr.indexAt 22 (.slice (some ⟨b,o,none⟩) n c) (.int .i64 k)).run Tryz.prog w = .ok (.pointer (some ⟨b,o + k,none⟩)) w:=by
 rw [run_indexAt_slice (h:=by kernel_rfl),if_pos (by omega)]
 have hs:(sizeOf (Tryz.prog.elem 22)).run Tryz.prog w = .ok 1 w:=by kernel_rfl
 rw [hs]
 simp only [Result.andThen,Int.toNat_natCast,addr_add,Nat.mul_one]
theorem encInt_len (n:Int) (h:InR n):(encInt n).length ≤ 21:=by
 have:=itoa_len n h
 simp [encInt]; omega
theorem pInt_ok (n:Int) (hn:InR n) {K:Value → World → Prop} {w:World} (hl:Laid w) (k:∀ w',Below w.heap.size w w' → K (.string ⟨(encInt n).toArray⟩) w'):callM Tryz.prog 168 #[.int .i64 n] K w:=by
 apply sh_168_ok
 unfold sh_168
 refine itoa_ok n hn hl ?_
 intro w1 hb
 have:=itoa_len n hn
 refine Xa0 ?_
 exact K_eq (k _ hb) (by simp [encInt])
theorem encText_len (s:List UInt8) (hs:(s.length:Int) ≤ 9223372036854775807):(encText s).length ≤ s.length + 22:=by
 have:=itoa_len s.length ⟨by omega,hs⟩
 simp [encText]; omega
theorem flat_snoc {α:Type} (enc:α → List UInt8) (xs:List α) (k:Nat) (h:k < xs.length):((xs.take (k + 1)).map enc).flatten = ((xs.take k).map enc).flatten ++ enc xs[k]:=by
 rw [List.take_add_one,List.getElem?_eq_getElem h]
 simp only [Option.toList_some,List.map_append,List.map_cons,List.map_nil,List.flatten_append,List.flatten_cons,List.flatten_nil,List.append_nil]
theorem flat_le {α:Type} (enc:α → List UInt8) (xs:List α) (k:Nat):((xs.take k).map enc).flatten.length ≤ (xs.map enc).flatten.length:=by
 conv=>rhs; rw [← List.take_append_drop k xs]
 rw [List.map_append,List.flatten_append,List.length_append]
 omega
theorem IsBuilder.below {T e:TypeId} {B b:Nat} {bs:List Value} {w w':World} (h:IsBuilder T e B b bs w) (hb:Below w.heap.size w w'):IsBuilder T e B b bs w':=by
 have key:∀ p,BuilderAt T e B b p bs w → BuilderAt T e B b p bs w':=by
  rintro p ⟨hB,v,hh,hown,hne⟩
  have hlt:=(Array.getElem?_eq_some_iff.1 hh).1
  refine ⟨hB,v,by rw [hb.block _ hlt]; exact hh,?_,hne⟩
  exact hown.kept (grown_of_below hb none) (by
   rcases hown.2 with ⟨rfl,_⟩ | ⟨g,cap,cur,rfl,_⟩
   ·left; rfl
   ·right; simp [Value.ownBlock])
 exact h.imp (key _) (key _)
theorem encodedNum_ok (xs:List (Int)) (v:Value) {K:Value → World → Prop} {w:World} (hl:Laid w) (hrow:RowOf intV w v xs) (hx:∀ x ∈ xs,InR x) (hlen:(encList (xs.map encInt)).length < 2^40)
  (k:∀ w',Below w.heap.size w w' → K (.string ⟨(encList (xs.map encInt)).toArray⟩) w'):callM Tryz.prog 167 #[v,.func (.func 168) #[] #[]] K w:=by
 apply sh_167_ok
 unfold sh_167
 have hsz:(encList (xs.map encInt)).length = (itoa (xs.length:Nat)).length + 1 + ((xs.map encInt).flatten).length + 1:=by simp [encList]; omega
 have hxl:xs.length ≤ (xs.map encInt).flatten.length:=by
  rw [List.length_flatten]
  clear hrow hlen hsz k
  induction xs with
  | nil=>simp
  | cons x xs ih=>
   have:=ih (fun y hy=>hx y (List.mem_cons_of_mem _ hy))
   have h1:1 ≤ (encInt x).length:=by simp [encInt]; try omega
   simp only [List.length_cons,List.map_cons,List.sum_cons]
   omega
 have hin:InR (xs.length:Nat):=⟨by omega,by omega⟩
 have hil:=itoa_len _ hin
 obtain ⟨ad,c,rfl,hcell⟩:=hrow
 have hl0:Laid (w.alloc (.cells #[.pointer none,.slice none 0 0] 209)):=hl.below ((Below.refl _ _).alloc (Nat.le_refl _) _) hl.size
 refine Xa0 ?_
 refine itoa_ok _ hin hl0 (fun w1 hb1=>?_)
 have hb1':Below w.heap.size w w1:=((Below.refl _ _).alloc (Nat.le_refl _) _).trans (hb1.mono (by simp))
 have hB1:=IsBuilder.below (fresh_isBuilder 209 5 w) hb1
 have hz1:=hb1'.size
 refine Xa0 ?_
 refine writeString_ok w.heap.size _ [] _ _ hB1 (by simp; omega) (by omega) ?_
 intro w2 hB2 hb2
 have hb2':=hb1'.trans hb2
 refine Xa0 ?_
 refine ⟨fun l w'=>∃ (x:Value) (k:Nat),l = [x,.int .i64 k] ∧ k ≤ xs.length ∧ IsBuilder 209 5 w.heap.size w.heap.size (Lib.byteCells (itoa (xs.length:Nat) ++ 91 :: ((xs.take k).map encInt).flatten)) w' ∧ Below w.heap.size w w',fun l _=>xs.length - (match l with | [_,.int _ n]=>n.toNat | _=>0),⟨_,0,rfl,by omega,by simpa using hB2,hb2'⟩,?_⟩
 rintro _ _ w3 ⟨x,j,rfl,hj,hB3,hb3⟩
 have hz3:=hb3.size
 simp only [List.getD_cons_zero,List.getD_cons_succ]
 have hfl:=flat_le encInt xs j
 by_cases hlt:j < xs.length
 ·rcases hcell with rfl | ⟨b,o,rfl,hbw,hcells⟩
  ·simp at hlt
  have hc:=hcells j hlt
  rw [← hb3.cell hbw] at hc
  simp only [intV] at hc
  have hix:=idx22 (b:=b) (o:=o) (c:=c) hlt w3
  have hl3:Laid w3:=hl.below hb3 hl.size
  have hP:=hx xs[j] (List.getElem_mem hlt)
  have hfl1:=flat_le encInt xs (j + 1)
  rw [flat_snoc _ _ _ hlt,List.length_append] at hfl1
  repeat (any_goals (first
  | (rw [oM_indexAddr,hix,rM_ok])
  | (with_reducible refine yN ?_)
  | ((with_reducible refine oM_gen fun Kv hK=>?_); simp [go_sem,hc]; refine hK _ _ ?_; clear hK Kv)))
  refine oM_callv1 (by kernel_rfl) ?_
  refine pInt_ok _ hP hl3 ?_
  intro w4 hb4
  have hz4:=hb4.size
  have hB4:IsBuilder 209 5 w.heap.size w.heap.size (Lib.byteCells (itoa (xs.length:Nat) ++ 91 :: ((xs.take j).map encInt).flatten)) w4:=IsBuilder.below hB3 hb4
  refine writeString_ok w.heap.size _ _ _ _ hB4 (by simp only [List.length_append,List.length_cons]; omega) (by omega) ?_
  intro w5 hB5 hb5
  refine Xa0 ?_
  refine ⟨⟨_,j + 1,rfl,hlt,?_,(hb3.trans (hb4.mono hz3)).trans hb5⟩,by simp; omega⟩
  rw [flat_snoc _ _ _ hlt]
  simpa using hB5
 ·obtain rfl:j = xs.length:=by omega
  rw [List.take_length] at hB3 hfl
  obtain ⟨F,hF⟩:∃ F,F = (xs.map encInt).flatten:=⟨_,rfl⟩
  rw [← hF] at hB3 hfl hsz
  refine Xa0 ?_
  refine builderString_ok _ _ _ _ hB3 (by omega) ?_
  intro w4 hb4
  refine Xa0 ?_
  exact K_eq (k _ (hb3.trans hb4)) (by simp [encList,hF])
theorem pNums_ok (xs:List (Int)) (v:Value) {K:Value → World → Prop} {w:World} (hl:Laid w) (hrow:RowOf intV w v xs) (hx:∀ x ∈ xs,InR x) (hlen:(encList (xs.map encInt)).length < 2^40)
  (k:∀ w',Below w.heap.size w w' → K (.string ⟨(encList (xs.map encInt)).toArray⟩) w'):callM Tryz.prog 123 #[v] K w:=by
 apply sh_123_ok
 unfold sh_123
 refine Xa0 ?_
 exact encodedNum_ok xs v hl hrow hx hlen k
end Go.Proofs.Cd
namespace Go.Proofs.Cd
open Go Go.Sh Go.RowKit Go.Lib CodeSpec
def IsRd (w:World) (b:Nat) (r:Rd):Prop:=w.heap[b]? = some (.cells #[.string ⟨r.rest.toArray⟩,.bool r.bad] 187 (0,0))
theorem IsRd.c0 {w:World} {b:Nat} {r:Rd} (h:IsRd w b r):w.cell? ⟨b,0,none⟩ = some (.string ⟨r.rest.toArray⟩):=by
 unfold IsRd at h; simp [World.cell?,h]
theorem IsRd.c1 {w:World} {b:Nat} {r:Rd} (h:IsRd w b r):w.cell? ⟨b,1,none⟩ = some (.bool r.bad):=by
 unfold IsRd at h; simp [World.cell?,h]
theorem IsRd.fz {w:World} {b:Nat} {r:Rd} (h:IsRd w b r) (i:Nat):w.frozen? ⟨b,i,none⟩ = false:=by
 unfold IsRd at h; simp [World.frozen?,h]
theorem IsRd.lt {w:World} {b:Nat} {r:Rd} (h:IsRd w b r):b < w.heap.size:=(Array.getElem?_eq_some_iff.1 h).1
theorem heap_set {w:World} {b i:Nat} {cs:Array Value} {T:TypeId} {f:Nat × Nat} (h:w.heap[b]? = some (.cells cs T f)) (u:Value):(w.setCell ⟨b,i,none⟩ u).heap[b]? = some (.cells (cs.setIfInBounds i u) T f):=by
 simp [World.setCell,Array.getElem?_modify,h]
theorem IsRd.set0 {w:World} {b:Nat} {r:Rd} (h:IsRd w b r) (l:List UInt8):IsRd (w.setCell ⟨b,0,none⟩ (.string ⟨l.toArray⟩)) b ⟨l,r.bad⟩:=by
 unfold IsRd at h ⊢
 rw [heap_set h]; rfl
theorem IsRd.set1 {w:World} {b:Nat} {r:Rd} (h:IsRd w b r) (t:Bool):IsRd (w.setCell ⟨b,1,none⟩ (.bool t)) b ⟨r.rest,t⟩:=by
 unfold IsRd at h ⊢
 rw [heap_set h]; rfl
theorem IsRd.below {w w':World} {b:Nat} {r:Rd} (h:IsRd w b r) {B:Nat} (hb:Below B w w') (hB:b < B):IsRd w' b r:=by
 unfold IsRd at h ⊢
 rw [hb.block _ hB]; exact h
theorem IsRd.drew {w:World} {b:Nat} {r:Rd} (h:IsRd w b r):IsRd w.drew b r:=h
theorem grown_set (w:World) (b i:Nat) (u:Value):w.grownBy (w.setCell ⟨b,i,none⟩ u) (some b):=
 ⟨rfl,rfl,rfl,by simp [World.setCell],fun k _ hk=>Below.heap_setCell _ _ _ _ (fun e=>hk (by simp [e]))⟩
theorem grown_drew (w:World) (b:Option Nat):w.grownBy w.drew b:=⟨rfl,rfl,rfl,Nat.le_refl _,fun _ _ _=>rfl⟩
theorem fail_ok (b:Nat) (r:Rd) {K:Value → World → Prop} {w:World} (hr:IsRd w b r) (k:∀ w',IsRd w' b failed → w.grownBy w' (some b) → K (.tuple #[]) w'):callM Tryz.prog 212 #[.pointer (some ⟨b,0,none⟩)] K w:=by
 apply sh_212_ok
 unfold sh_212
 have h0:=hr.c0
 have f0:=hr.fz 0
 have hr1:=hr.set0 []
 have f1:=hr1.fz 1
 have h1:=hr1.c1
 refine Xg (An4 @h0 @f0 @h1 @f1) ?_
 exact k _ (hr1.set1 true) (grownBy_trans (grown_set _ _ _ _) (grown_set _ _ _ _))
theorem close_ok (b:Nat) (r:Rd) (c:UInt8) {K:Value → World → Prop} {w:World} (hr:IsRd w b r) (k:∀ w',IsRd w' b (rdClose r c) → w.grownBy w' (some b) → K (.tuple #[]) w'):callM Tryz.prog 191 #[.pointer (some ⟨b,0,none⟩),.string ⟨#[c]⟩] K w:=by
 apply sh_191_ok
 unfold sh_191
 have h0:=hr.c0
 have f0:=hr.fz 0
 repeat (any_goals (first
 | (with_reducible refine cutPrefix_ok r.rest [c] ?_)
 | (with_reducible ((refine idCond ?_); refine yV (fun hg=>?_) fun hg=>?_))
 | ((with_reducible refine oM_gen fun Kv hK=>?_); simp [go_sem,h0,f0]; refine hK _ _ ?_; clear hK Kv)))
 ·skip
  obtain ⟨t,ht⟩:∃ t,r.rest = c :: t:=by
   unfold hasPrefix at hg
   rw [List.isPrefixOf_iff_prefix] at hg
   obtain ⟨t,ht⟩:=hg
   exact ⟨t,by rw [← ht]; rfl⟩
  have e:trimPrefix r.rest [c] = t:=by simp [trimPrefix,hasPrefix,ht]
  refine k _ ?_ (grown_set _ _ _ _)
  have:=hr.set0 t
  rw [e]
  have e2:rdClose r c = ⟨t,r.bad⟩:=by simp [rdClose,ht]
  rw [e2]
  exact this
 ·skip
  refine fail_ok b _ (hr.set0 _) ?_
  intro w1 hr1 hg1
  refine k w1 ?_ (grownBy_trans (grown_set _ _ _ _) hg1)
  have e2:rdClose r c = failed:=by
   rcases rdClose_some r c with h | ⟨t,h,_⟩
   ·exact h
   ·rw [h] at hg; simp [hasPrefix] at hg
  rw [e2]
  exact hr1
theorem indexByte_take (l:List UInt8) (c:UInt8):indexByte l c = if (l.takeWhile (· != c)).length < l.length then ((l.takeWhile (· != c)).length:Int) else -1:=by
 induction l with
 | nil=>rfl
 | cons x l ih=>
  unfold indexByte
  by_cases hx:x = c
  ·subst hx; simp
  ·have h1:(x == c) = false:=by simp [hx]
   have tw:(x :: l).takeWhile (· != c) = x :: l.takeWhile (· != c):=by simp [hx]
   rw [tw,List.length_cons,List.length_cons,h1,if_neg (by simp)]
   by_cases hlt:(l.takeWhile (· != c)).length < l.length
   ·rw [if_pos hlt] at ih
    have e:(indexByte l c == -1) = false:=by
     rw [ih,beq_eq_false_iff_ne]
     omega
    rw [e,if_neg (by simp),ih,if_pos (by omega)]
    omega
   ·rw [if_neg hlt] at ih
    rw [ih,if_pos (by simp),if_neg (by omega)]
theorem take_twl (l:List UInt8) (c:UInt8):l.take (l.takeWhile (· != c)).length = l.takeWhile (· != c):=by
 exact (List.prefix_iff_eq_take.1 (List.takeWhile_prefix _)).symm
set_option maxHeartbeats 1600000 in
theorem number_ok (b:Nat) (r:Rd) (e:UInt8) (least:Int) {K:Value → World → Prop} {w:World} (hl:LaidE w) (hlen:r.rest.length < 2^60) (hr:IsRd w b r) (k:∀ w',IsRd w' b (rdNumber r e least).2 → w.grownBy w' (some b) → K (.int .i64 (rdNumber r e least).1) w'):callM Tryz.prog 190 #[.pointer (some ⟨b,0,none⟩),.int .u8 e.toNat,.int .i64 least] K w:=by
 apply sh_190_ok
 unfold sh_190
 refine quietM_one ?_
 have hr1:IsRd { w with drawn:=w.drawn + 1 } b r:=hr
 have hl1:LaidE { w with drawn:=w.drawn + 1 }:=hl.keep (fun _ _=>rfl) (Nat.le_refl _)
 have hg1:w.grownBy { w with drawn:=w.drawn + 1 } (some b):=grown_drew _ _
 generalize { w with drawn:=w.drawn + 1 } = w1 at *
 have h0:=hr1.c0
 have hmin:(min (r.rest.length:Int) 21).toNat = min r.rest.length 21:=by omega
 obtain ⟨q,hq⟩:∃ q,q = r.rest.take 21:=⟨_,rfl⟩
 obtain ⟨p,hp⟩:∃ p,p = q.takeWhile (· != e):=⟨_,rfl⟩
 have htk:r.rest.take (min r.rest.length 21) = q:=by
  rw [hq,List.take_eq_take_iff]; omega
 have hix:=indexByte_take q e
 rw [← hp] at hix
 have hple:p.length ≤ q.length:=by rw [hp]; exact (List.takeWhile_prefix _).length_le
 have hpl21:q.length ≤ 21:=by rw [hq]; exact List.length_take_le ..
 have hpr:q.length ≤ r.rest.length:=by rw [hq,List.length_take]; omega
 have hnum:rdNumber r e least = if p.length < q.length then (match canon p with | some n=>if n < least then (0,failed) else (n,⟨r.rest.drop (p.length + 1),r.bad⟩) | none=>(0,failed)) else (0,failed):=by rw [hp,hq]; rfl
 have hsl:q.take p.length = p:=by rw [hp]; exact take_twl _ _
 have fin:∀ w2,Below w1.heap.size w1 w2 → rdNumber r e least = (0,failed) → callM Tryz.prog 212 #[.pointer (some ⟨b,0,none⟩)] (fun _ w=>K (.int .i64 0) w) w2:=by
  intro w2 hb2 hn
  refine fail_ok b _ (hr1.below hb2 hr1.lt) ?_
  intro w3 hr3 hg3
  have:=k w3 (by rw [hn]; exact hr3) (grownBy_trans hg1 (grownBy_trans (grown_of_below hb2 _) hg3))
  rw [hn] at this
  exact this
 clear hp hq
 refine Xg (An3 @h0 @hmin @htk) ?_
 refine indexByte_ok _ e ?_
 rw [hix]
 by_cases hlt:p.length < q.length
 ·rw [if_pos hlt] at hnum ⊢
  refine Xg @hsl ?_
  refine atoi_ok p (by omega) hl1 (fun n w2 hn hb2=>?_) (fun v te pe w2 hn hb2=>?_)
  ·have hinr:=atoiAll_bounds hn
   have hcan:canon p = if itoa n = p then some n else none:=by unfold canon; rw [hn]
   refine Xc0 ?_
   refine ⟨fun w'=>Below w2.heap.size w2 w',⟨rfl,rfl,rfl,Nat.le_refl _,fun _ _=>rfl⟩,?_⟩
   repeat (any_goals (first
   | (with_reducible first|refine pureQ_in ?_|((refine idGdQ ?_); refine gdQ_conv fun _=>?_)|refine zC ?_)
   | ((with_reducible refine idOQ ?_); (with_reducible refine oQ_of ⟨_,rfl⟩ (fun W0 hW0=>by (refine oM_gen (fun Kv hK=>?_)); simp [go_sem,oM_nec,eqGuard]; (first | exact hK _ _ ⟨rfl,rfl⟩ | exact ⟨by omega,hK _ _ ⟨rfl,rfl⟩⟩)) ?_))))
   refine callQ_of (C:=fun w0=>Below w2.heap.size w2 w0) (v:=.string ⟨(itoa n).toArray⟩) (fun w3 hw3=>itoa_ok n hinr (hl1.toLaid.below (hb2.trans (hw3.mono hb2.size)) hl1.size) (fun w4 hb4=>⟨rfl,hw3.trans (hb4.mono hw3.size)⟩)) ?_
   repeat (any_goals (first
   | (with_reducible first|refine pureQ_in ?_|((refine idGdQ ?_); refine gdQ_conv fun _=>?_)|((refine idGd ?_); first|refine zC ?_|((refine idGdN ?_); first|refine zO ?_|refine zP ?_|refine zQ (fun hg=>?_) fun hg=>?_)))
   | ((with_reducible refine idOQ ?_); first|(with_reducible first|refine wB ?_|refine wE ?_|refine wF ?_)|(with_reducible refine oQ_of ⟨_,rfl⟩ (fun W0 hW0=>by (refine oM_gen (fun Kv hK=>?_)); simp [go_sem,hsl]; (first | exact hK _ _ ⟨rfl,rfl⟩ | exact ⟨by omega,hK _ _ ⟨rfl,rfl⟩⟩)) ?_))))
   ·rw [hcan,if_pos hg] at hnum
    intro w3 hw3
    have hb3:Below w1.heap.size w1 w3:=hb2.trans (hw3.mono hb2.size)
    have hr3:=hr1.below hb3 hr1.lt
    have h3:=hr3.c0
    have f3:=hr3.fz 0
    simp only at hnum
    by_cases hle:n < least
    ·rw [if_pos hle] at hnum
     repeat (any_goals (first
     | (with_reducible refine fin _ hb3 hnum)
     | (with_reducible refine yN ?_)))
    ·rw [if_neg hle] at hnum
     repeat (any_goals (first
     | (with_reducible refine yO ?_)
     | ((with_reducible refine oM_gen fun Kv hK=>?_); simp [go_sem,h3,f3]; (try simp (disch:=omega) only [wrapI64,wrapU8,wrapU32,wrapU64]); (first|refine hK _ _ ?_|refine And.intro (by omega) (hK _ _ ?_)); clear hK Kv)))
     have:=k _ (by rw [hnum]; exact hr3.set0 _) (grownBy_trans hg1 (grownBy_trans (grown_of_below hb3 _) (grown_set _ _ _ _)))
     rw [hnum] at this
     exact this
   ·rw [hcan,if_neg hg] at hnum
    simp only at hnum
    intro w3 hw3
    repeat (any_goals (first
    | (with_reducible refine fin _ (hb2.trans (hw3.mono hb2.size)) hnum)
    | (with_reducible refine yL ?_)))
  ·have hcan:canon p = none:=by
    unfold canon
    cases hc:atoiAll p with
    | ok n=>exact absurd hc (hn n)
    | «syntax»=>rfl
    | range=>rfl
   rw [hcan] at hnum
   simp only at hnum
   refine Xc0 ?_
   refine quietM_one ?_
   repeat (any_goals (first
   | (with_reducible first|((refine idGdQ ?_); refine gdQ_conv fun _=>?_)|refine And.intro (Eq.refl (α:=World) _) ?_|refine forall_one ?_|refine zD ?_|refine yL ?_)
   | ((with_reducible refine idOQ ?_); first|(with_reducible refine wA ?_)|((with_reducible refine oQ_one ?_ ?_); exact ⟨_,rfl⟩))
   | ((with_reducible refine oM_gen fun Kv hK=>?_); simp [go_sem,oM_nec,eqGuard]; refine hK _ _ ?_; clear hK Kv)))
   exact fin _ hb2.drew hnum
 ·rw [if_neg hlt] at hnum ⊢
  repeat (any_goals (first
  | (with_reducible refine fin _ (Below.refl _ _) hnum)
  | (with_reducible refine yL ?_)
  | ((with_reducible refine oM_gen fun Kv hK=>?_); simp [go_sem]; refine hK _ _ ?_; clear hK Kv)))
end Go.Proofs.Cd
namespace Go.Proofs.Cd
open Go Go.Sh Go.RowKit Go.Lib CodeSpec
theorem rest_le (r:Rd) (e:UInt8) (least:Int):(rdNumber r e least).2.rest.length ≤ r.rest.length:=by
 rcases rdNumber_some r e least with h | ⟨n,t,h,h2,_⟩
 ·rw [h]; simp [failed]
 ·rw [h,h2]; simp; omega
theorem rint_ok (b:Nat) (r:Rd) {K:Value → World → Prop} {w:World} (hl:LaidE w) (hlen:r.rest.length < 2^60) (hr:IsRd w b r) (k:∀ w',IsRd w' b (rdInt r).2 → w.grownBy w' (some b) → K (.int .i64 (rdInt r).1) w'):callM Tryz.prog 159 #[.pointer (some ⟨b,0,none⟩)] K w:=by
 apply sh_159_ok
 unfold sh_159
 exact number_ok b r 59 (-9223372036854775808) hl hlen hr k
theorem open_ok (s:List UInt8) {K:Value → World → Prop} {w:World} (k:∀ w',IsRd w' w.heap.size ⟨s,false⟩ → Below w.heap.size w w' → K (.pointer (some ⟨w.heap.size,0,none⟩)) w'):callM Tryz.prog 110 #[.string ⟨s.toArray⟩] K w:=by
 apply sh_110_ok
 unfold sh_110
 refine Xa0 ?_
 exact k _ (by unfold IsRd; exact heap_alloc_new _ _) ((Below.refl _ _).alloc (Nat.le_refl _) _)
def rdDone (r:Rd):Bool:=!r.bad && decide (r.rest = [])
theorem done_ok (b:Nat) (r:Rd) {K:Value → World → Prop} {w:World} (hr:IsRd w b r) (k:K (.bool (rdDone r)) w):callM Tryz.prog 112 #[.pointer (some ⟨b,0,none⟩)] K w:=by
 apply sh_112_ok
 unfold sh_112
 have h0:=hr.c0
 have h1:=hr.c1
 repeat (any_goals (first
 | (with_reducible first|refine pureM_in ?_|((refine idGd ?_); first|refine zV ?_|refine zW ?_|refine zX (fun hg=>?_) fun hg=>?_)|((refine idPick ?_); first|refine yJ ?_|refine yK ?_))
 | ((with_reducible refine oM_gen fun Kv hK=>?_); simp [go_sem,h0,h1]; refine hK _ _ ?_; clear hK Kv)))
 ·exact K_eq k (by unfold rdDone; rw [hg]; simp)
 ·exact K_eq k (by unfold rdDone; rw [hg]; simp)
end Go.Proofs.Cd
namespace Go.Proofs.Cd
open Go Go.Sh Go.RowKit Go.Lib CodeSpec
theorem grown_own {w w2 w3:World} {b B:Nat} {e:TypeId} {sz n:Nat} {v:Value} {xs:List Value} (h:w.grownBy w2 (some b)) (hown:w2.ownsRow B e sz v n xs) (hB:w.heap.size ≤ B) (hg:w2.grownBy w3 v.ownBlock):w.grownBy w3 (some b):=
 ⟨hg.os.trans h.os,hg.tape.trans h.tape,hg.output.trans h.output,Nat.le_trans h.size hg.size,fun i hi hne=>
  (hg.block i (Nat.lt_of_lt_of_le hi h.size) (fun e=>by have:=(hown.lt i e.symm).1; omega)).trans (h.block i hi hne)⟩
theorem IsRd.own {w2 w3:World} {b B:Nat} {e:TypeId} {sz n:Nat} {v:Value} {xs:List Value} {r:Rd} (h:IsRd w2 b r) (hown:w2.ownsRow B e sz v n xs) (hB:b < B) (hg:w2.grownBy w3 v.ownBlock):IsRd w3 b r:=by
 have hlt:=h.lt
 unfold IsRd at h ⊢
 rw [hg.block b hlt (fun e=>by have:=(hown.lt b e.symm).1; omega)]
 exact h
theorem owns_rd {w2 w3:World} {b B:Nat} {e:TypeId} {sz n:Nat} {v:Value} {xs:List Value} (hown:w2.ownsRow B e sz v n xs) (hB:b < B) (hg:w2.grownBy w3 (some b)):w3.ownsRow B e sz v n xs:=
 hown.kept hg (by
  cases ho:v.ownBlock with
  | none=>left; rfl
  | some g=>right; intro e; cases e; have:=(hown.lt b ho).1; omega)
theorem itemsGo_stop {α:Type} (one:Rd → α × Rd) (n:Nat) (r:Rd) (h:n = 0 ∨ r.bad = true):itemsGo one n r = ([],r):=by
 rcases h with rfl | h
 ·rfl
 ·cases n with
  | zero=>rfl
  | succ n=>unfold itemsGo; rw [if_pos h]
theorem itemsGo_step {α:Type} (one:Rd → α × Rd) (n:Nat) (r:Rd) (h:r.bad = false):itemsGo one (n + 1) r = ((one r).1 :: (itemsGo one n (one r).2).1,(itemsGo one n (one r).2).2):=by
 conv=>lhs; unfold itemsGo
 rw [if_neg (by simp [h])]
theorem rdNum_less (r:Rd) (hr:r.ok) (_hb:r.bad = false):(rdInt r).2 = failed ∨ (rdInt r).2.rest.length < r.rest.length ∧ (rdInt r).2.bad = false:=by
 rcases rdInt_some r hr with h | ⟨v,t,h,h2,_⟩
 ·left; rw [h]
 ·right
  rw [h,h2]
  simp [encInt]
  try omega
set_option maxHeartbeats 1600000 in
theorem itemsNum_ok (b:Nat) (r:Rd) {K:Value → World → Prop} {w:World} (hl:LaidE w) (hb6:8 ≤ b) (hlen:r.rest.length < 2^40) (hok:r.ok) (hr:IsRd w b r)
  (k:∀ v w',IsRd w' b (rdNums r).2 → w.grownBy w' (some b) → w'.ownsRow w.heap.size 3 1 v (rdNums r).1.length ((rdNums r).1.map intV) → K v w'):callM Tryz.prog 111 #[.pointer (some ⟨b,0,none⟩)] K w:=by
 apply sh_111_ok
 unfold sh_111
 refine Xa0 ?_
 apply sh_158_ok
 unfold sh_158
 refine number_ok b r 91 0 hl (by omega) hr ?_
 intro w1 hr1 hg1
 have hle:=rest_le r 91 0
 have hok1:=rdNumber_ok r hok 91 0
 have hnum:rdNums r = if (rdClose (itemsGo rdInt (rdNumber r 91 0).1.toNat (rdNumber r 91 0).2).2 93).bad then ([],rdClose (itemsGo rdInt (rdNumber r 91 0).1.toNat (rdNumber r 91 0).2).2 93)
  else ((itemsGo rdInt (rdNumber r 91 0).1.toNat (rdNumber r 91 0).2).1,rdClose (itemsGo rdInt (rdNumber r 91 0).1.toNat (rdNumber r 91 0).2).2 93):=rfl
 have hnr:InR (rdNumber r 91 0).1:=by
  rcases rdNumber_some r 91 0 with h | ⟨n,t,h,_,h3,_⟩
  ·rw [h]; exact ⟨by simp,by simp⟩
  ·rw [h]; exact h3
 generalize (rdNumber r 91 0).2 = r1 at *
 generalize (rdNumber r 91 0).1 = n at *
 have hbw:=hr.lt
 obtain ⟨hn1,hn2⟩:=hnr
 refine ⟨fun l w'=>∃ (v:Value) (j:Int) (r':Rd) (xs:List (Int)),l = [v,.int .i64 j] ∧ -9223372036854775808 ≤ j ∧ j ≤ 9223372036854775807 ∧ IsRd w' b r' ∧ r'.ok ∧ w.grownBy w' (some b) ∧ w'.ownsRow w.heap.size 3 1 v xs.length (xs.map intV) ∧
  itemsGo rdInt n.toNat r1 = (xs ++ (itemsGo rdInt j.toNat r').1,(itemsGo rdInt j.toNat r').2) ∧ (xs.length + r'.rest.length ≤ r1.rest.length + 1) ∧ (r'.bad = false → xs.length + r'.rest.length ≤ r1.rest.length),fun l _=>(match l with | [_,.int _ n]=>n.toNat | _=>0),
  ⟨_,n,r1,[],rfl,hn1,hn2,hr1,hok1,hg1,World.ownsRow_nil _ _ _ _,by simp,(by simp only [List.length_nil]; omega),by simp⟩,?_⟩
 rintro _ _ w2 ⟨v,j,r',xs,rfl,hj1,hj2,hr2,hok2,hg2,hown,hgo,hlx,hlx2⟩
 simp only [List.getD_cons_zero,List.getD_cons_succ]
 have h2:=hr2.c1
 have hl2:=hl.grown hg2 hb6
 by_cases hrun:0 < j ∧ r'.bad = false
 ·obtain ⟨hj,hbad⟩:=hrun
  rw [hbad] at h2
  have hlx2:=hlx2 hbad
  refine Xa @h2 ?_
  refine oM_callv0 (by kernel_rfl) ?_
  refine rint_ok b r' hl2 (by omega) hr2 ?_
  intro w3 hr3 hg3
  have hown3:=owns_rd hown hbw hg3
  have hg03:=grownBy_trans hg2 hg3
  have hz3:=hg03.size
  have hless:=rdNum_less r' hok2 hbad
  obtain ⟨j',hj'⟩:∃ j':Nat,j.toNat = j' + 1:=⟨j.toNat - 1,by omega⟩
  have hjj:(j - 1).toNat = j':=by omega
  rw [hj',itemsGo_step _ _ _ hbad] at hgo
  have hok3:(rdInt r').2.ok:=by
   rcases hless with h | ⟨_,h⟩
   ·rw [h]; exact Rd.ok_failed
   ·intro e; rw [h] at e; cases e
  have hby:(xs.length + 1) * Tryz.t3.bytes ≤ 140737488355328:=by
   have:Tryz.t3.bytes = 8:=by kernel_rfl
   rw [this]
   omega
  refine Xa0 ?_
  refine oM_append_new (base:=w.heap.size) (n:=xs.length) (xs:=xs.map intV) (i:=Tryz.t3) (z:=.int .i64 0) (cs:=#[intV (rdInt r').1]) Tryz.underlying22 (by kernel_rfl) (by kernel_rfl) rfl rfl (by simp) (by simp [Value.oneCell',intV]) hown3 (by omega) (by unfold maxLen; omega) hby ?_
  intro v' w4 ho4 hg4
  refine Xa0 ?_
  refine ⟨⟨v',j - 1,(rdInt r').2,xs ++ [(rdInt r').1],rfl,by omega,by omega,hr3.own hown3 hbw hg4,hok3,grown_own hg03 hown3 (Nat.le_refl _) hg4,by simpa using ho4,?_,?_,?_⟩,by simp; omega⟩
  ·rw [hjj,hgo]; simp
  ·rcases hless with h | ⟨h,_⟩
   ·rw [h,List.length_append]; simp [failed]; omega
   ·rw [List.length_append]; simp; omega
  ·intro hb
   rcases hless with h | ⟨h,_⟩
   ·rw [h] at hb; cases hb
   ·rw [List.length_append]; simp; omega
 ·have hstop:=itemsGo_stop rdInt j.toNat r' (by
   cases hb:r'.bad with
   | true=>right; rfl
   | false=>left; have:¬ 0 < j:=fun h=>hrun ⟨h,hb⟩; omega)
  rw [hstop,List.append_nil] at hgo
  rw [hgo] at hnum
  have rest:callM Tryz.prog 191 #[.pointer (some ⟨b,0,none⟩),.string ⟨#[93]⟩] (fun v26_16 w=>
    oM Tryz.prog (Go.Op.nilCheck (.tmp 0)) 0 [.pointer (some ⟨b,0,none⟩)] (fun v28_17 w=>
    oM Tryz.prog (Go.Op.fieldAddr 187 (.tmp 0) 1) 0 [v28_17] (fun v29_18 w=>
    oM Tryz.prog (Go.Op.load 4 (.tmp 0)) 4 [v29_18] (fun v30_19 w=>
    condM v30_19 (K (.slice none 0 0) w) (K v w)) w) w) w) w2:=by
   refine close_ok b r' 93 hr2 ?_
   intro w3 hr3 hg3
   have h3:=hr3.c1
   have hg03:=grownBy_trans hg2 hg3
   cases hbad:(rdClose r' 93).bad with
   | true=>
    rw [hbad] at hnum h3
    rw [if_pos rfl] at hnum
    refine Xa @h3 ?_
    exact k _ w3 (by rw [hnum]; exact hr3) hg03 (by rw [hnum]; exact World.ownsRow_nil _ _ _ _)
   | false=>
    rw [hbad] at hnum h3
    rw [if_neg (by simp)] at hnum
    refine Xa @h3 ?_
    exact k _ w3 (by rw [hnum]; exact hr3) hg03 (by rw [hnum]; exact owns_rd hown hbw hg3)
  by_cases hj:0 < j
  ·have hbad:r'.bad = true:=by
    cases hb:r'.bad with
    | true=>rfl
    | false=>exact absurd ⟨hj,hb⟩ hrun
   rw [hbad] at h2
   repeat (any_goals (first
   | (with_reducible exact rest)
   | (with_reducible first|refine pureM_in ?_|((refine idGd ?_); ((refine idGdD ?_); refine zF ?_))|refine yD ?_|refine yM ?_)
   | ((with_reducible refine oM_gen fun Kv hK=>?_); simp [go_sem,h2]; refine hK _ _ ?_; clear hK Kv)))
  ·repeat (any_goals (first
   | (with_reducible exact rest)
   | (with_reducible first|((refine idGd ?_); ((refine idGdD ?_); refine zG ?_))|refine yE ?_|refine yM ?_)
   | ((with_reducible refine oM_gen fun Kv hK=>?_); simp [go_sem]; refine hK _ _ ?_; clear hK Kv)))
end Go.Proofs.Cd
namespace Go.Proofs
open Go Go.Sh Go.RowKit FdSpec TkSpec CodeSpec
def tktL (t:Tkt):List Int:=[t.mark,t.first,t.z,t.a,t.b,t.r]
def encM (t:Tkt):Bytes:=encNums (tktL t)
def zTkt:Tkt:=⟨0,0,0,0,0,0⟩
def ofL:List Int → Tkt
 | [a,b,c,d,e,f]=>⟨a,b,c,d,e,f⟩
 | _=>zTkt
def decM (s:Bytes):Tkt × Bool:=
 if (rdNums ⟨s,false⟩).1.length = 6 ∧ Cd.rdDone (rdNums ⟨s,false⟩).2 = true then (ofL (rdNums ⟨s,false⟩).1,true) else (zTkt,false)
theorem InR_iff (n:Int):InR n ↔ I64 n:=by unfold InR I64; omega
theorem TktR.all {t:Tkt} (h:TktR t):∀ n ∈ tktL t,I64 n:=by
 intro n hn
 simp only [tktL,List.mem_cons,List.not_mem_nil,or_false] at hn
 rcases hn with rfl | rfl | rfl | rfl | rfl | rfl
 ·exact h.mark
 ·exact h.first
 ·exact h.z
 ·exact h.a
 ·exact h.b
 ·exact h.r
theorem encM_len {t:Tkt} (h:TktR t):(encM t).length ≤ 200:=by
 have hi:=fun n (hn:n ∈ tktL t)=>Cd.encInt_len n ((InR_iff n).2 (h.all n hn))
 have h6:=itoa_len 6 (by unfold InR; omega)
 simp only [encM,encNums,encList,tktL,List.map_cons,List.map_nil,List.length_cons,List.length_nil,List.flatten_cons,List.flatten_nil,List.length_append,List.append_nil] at *
 have a1:=hi t.mark (by simp)
 have a2:=hi t.first (by simp)
 have a3:=hi t.z (by simp)
 have a4:=hi t.a (by simp)
 have a5:=hi t.b (by simp)
 have a6:=hi t.r (by simp)
 have h6':(Lib.itoa ((0 + 1 + 1 + 1 + 1 + 1 + 1:Nat):Int)).length ≤ 20:=h6
 omega
section
variable {K:Value → World → Prop} {w w0 w1:World} {L:List (Addr × Value)}
theorem sz_tkt (w:World):(sizeOf 41).run Tryz.prog w = .ok 6 w:=by kernel_rfl
theorem al_tkt (w:World):(Instr.alloc 41 true (.tuple #[])).run Tryz.prog w = .ok (.pointer (some ⟨w.heap.size,0,none⟩)) (w.alloc (.cells [.int .i64 0,.int .i64 0,.int .i64 0,.int .i64 0,.int .i64 0,.int .i64 0].toArray 41)):=by kernel_rfl
theorem tkt_one (t:Tkt):∀ u ∈ tktC t,u.oneCell' = true:=by
 intro u hu
 simp only [tktC,List.mem_cons,List.not_mem_nil,or_false] at hu
 rcases hu with rfl | rfl | rfl | rfl | rfl | rfl <;> rfl
theorem store_tkt {K:Value → World → Prop} {T':TypeId} {g:Nat} (t:Tkt) (hk:KnM w0 L g 6 w)
  (k:∀ W,KnM w0 L g 6 W → cellsAre W (cellsOf [] g 0 (tktC t)) → K undef W):oM Tryz.prog (.store 41 (.tmp 0) (.tmp 1)) T' [.pointer (some ⟨g,0,none⟩),tktV t] K w:=
 store_mine sz_tkt rfl rfl (tkt_one t) hk k
theorem local_tkt {K:Value → World → Prop} {T' T2:TypeId} (t:Tkt) (hk:Kn w0 L w)
  (k:∀ b W,Kn w0 (cellsOf L b 0 (tktC t)) W → Below w.heap.size w W → w.heap.size ≤ b → K (.pointer (some ⟨b,0,none⟩)) W) :
  oM Tryz.prog (.alloc 41) T' [] (fun v w=>oM Tryz.prog (.store 41 (.tmp 0) (.tmp 1)) T2 [v,tktV t] (fun _ w=>K v w) w) w:=
 local_kn al_tkt rfl sz_tkt rfl rfl (tkt_one t) hk k
theorem mk6 {T:TypeId} (t:Tkt) (ht:TktR t) (k:∀ v W,Below w.heap.size w W → Ints W v (tktL t) → K v W):oM Tryz.prog (.buildSlice 22 6 #[(0,.tmp 0),(1,.tmp 1),(2,.tmp 2),(3,.tmp 3),(4,.tmp 4),(5,.tmp 5)]) T [.int .i64 t.mark,.int .i64 t.first,.int .i64 t.z,.int .i64 t.a,.int .i64 t.b,.int .i64 t.r] K w:=by
 rw [rM_of (S:=Instr.buildSlice 22 6 #[(0,.int .i64 t.mark),(1,.int .i64 t.first),(2,.int .i64 t.z),(3,.int .i64 t.a),(4,.int .i64 t.b),(5,.int .i64 t.r)]) (by simp [xop,execOp,evalL,evE])]
 have e:(Instr.buildSlice 22 6 #[(0,.int .i64 t.mark),(1,.int .i64 t.first),(2,.int .i64 t.z),(3,.int .i64 t.a),(4,.int .i64 t.b),(5,.int .i64 t.r)]).run Tryz.prog w = .ok (.slice (some ⟨w.heap.size,0,none⟩) 6 6) (w.alloc (.cells #[.int .i64 t.mark,.int .i64 t.first,.int .i64 t.z,.int .i64 t.a,.int .i64 t.b,.int .i64 t.r] 3)):=by kernel_rfl
 rw [e]
 exact k _ _ ((Below.refl _ w).alloc (Nat.le_refl _) _) (ints_alloc w (tktL t) _ 6 ht.all (by simp [tktL]))
theorem Ints.rowOf {v:Value} {l:List Int} (h:Ints w v l):Cd.RowOf Cd.intV w v l:=by
 obtain ⟨⟨ad,c,rfl,h0,hc⟩,hr,hl⟩:=h
 refine ⟨ad,c,rfl,hc.imp id ?_⟩
 rintro ⟨b,o,rfl,hlt,hcell⟩
 exact ⟨b,o,rfl,hlt,fun i hi=>hcell i _ (by rw [flat_int]; simp [hi,Cd.intV])⟩
theorem Encode_ok (t:Tkt) (ht:TktR t) (hl:Cd.Laid w) (k:∀ w',Below w.heap.size w w' → K (.string ⟨(encM t).toArray⟩) w'):callM Tryz.prog 56 #[tktV t] K w:=by
 apply sh_56_ok
 unfold sh_56
 refine box_kn (cs:=tktC t) rfl (.start w) fun b W hk hb1 hb=>?_
 repeat (any_goals (first
 | ((with_reducible refine mk6 t ht ?_); intro v8 W8 hb8 hi)
 | ((with_reducible refine oM_gen fun Kv hK=>?_); simp [go_sem,hk.cells]; refine hK _ _ ?_; clear hK Kv)))
 have hk:=hk.next hb8
 refine Cd.pNums_ok (tktL t) v8 (hl.below hk.below hl.size) (Ints.rowOf hi) (fun x hx=>(InR_iff x).2 (ht.all x hx)) (by have:=encM_len ht; unfold encM encNums at this; omega) (fun w' hb'=>?_)
 exact k _ (hk.next hb').below
theorem Decode_ok (s:Bytes) (hs:s.length < 1099511627776) (hl:Cd.LaidE w) (k:∀ w',Below w.heap.size w w' → K (.tuple #[tktV (decM s).1,.bool (decM s).2]) w'):callM Tryz.prog 48 #[.string ⟨s.toArray⟩] K w:=by
 apply sh_48_ok
 unfold sh_48
 have k2:∀ w' r,decM s = r → Below w.heap.size w w' → K (.tuple #[tktV r.1,.bool r.2]) w':=fun w' r e hb=>by rw [← e]; exact k w' hb
 clear k
 refine alloc_mine (n:=6) al_tkt rfl (.start w) fun g W2 hk hb2 hg=>?_
 have hgW:=mine_lt hk.mine
 refine Cd.open_ok s (fun w1 hr1 hb1=>?_)
 have hk1:=hk.next hb1
 have hl1:=hl.below hk1.below hl.size
 have h8:8 ≤ W2.heap.size:=Nat.le_trans hl.size hb2.size
 refine Cd.itemsNum_ok W2.heap.size _ hl1 h8 (by simpa using hs) Rd.ok_good hr1 (fun v w2 hr2 hg2 ho2=>?_)
 have hfr:FrG W2.heap.size w1 w2:=(Fr.refl _ _).by hg2 (fun i e=>.inl (Option.some.inj e).symm)
 have hk2:=hk1.fr hfr (by simp) (by omega) hb2.size
 have hdec:decM s = if (rdNums ⟨s,false⟩).1.length = 6 ∧ Cd.rdDone (rdNums ⟨s,false⟩).2 = true then (ofL (rdNums ⟨s,false⟩).1,true) else (zTkt,false):=rfl
 obtain ⟨⟨vs,r2⟩,hrd⟩:∃ p,rdNums ⟨s,false⟩ = p:=⟨_,rfl⟩
 rw [hrd] at hdec hr2 ho2
 simp only at hdec hr2 ho2
 obtain ⟨vad,vc,rfl⟩:=owns_len ho2
 by_cases h6:vs.length = 6
 ·have h6':(vs.length:Int) = 6:=by omega
  refine Xa @h6' ?_
  refine Cd.done_ok _ r2 hr2 ?_
  cases hd:Cd.rdDone r2 with
  | false=>
   rw [if_neg (by simp [hd])] at hdec
   refine Xa0 ?_
   exact store_tkt zTkt hk2 (fun W3 hk hc=>⟨_,by simp [go_sem,hc],k2 _ _ hdec hk.below⟩)
  | true=>
   rw [if_pos ⟨h6,hd⟩] at hdec
   obtain ⟨g',cap,cur,hve,hlt,hB,_,_,_,hcell⟩:=owns_cells ho2 (by omega)
   cases hve
   match vs,h6,hcell,hdec with
   | [a,b,c,d,e,f],_,hcell,hdec=>
    have hdec:decM s = (⟨a,b,c,d,e,f⟩,true):=hdec
    have q0:=hcell 0 _ rfl
    have q1:=hcell 1 _ rfl
    have q2:=hcell 2 _ rfl
    have q3:=hcell 3 _ rfl
    have q4:=hcell 4 _ rfl
    have q5:=hcell 5 _ rfl
    have s1:=hb1.size
    have hne:g' ≠ g:=by omega
    have hk:=(((((hk2.add1 q5 hne).add1 q4 hne).add1 q3 hne).add1 q2 hne).add1 q1 hne).add1 q0 hne
    simp only [Cd.intV] at hk
    refine Xa0 ?_
    refine ⟨KnM w _ g 6,hk.drew,?_⟩
    have hk:=hk.drew
    repeat (any_goals (first
    | (with_reducible refine pureH_in ?_)
    | ((with_reducible refine idOH ?_); (with_reducible refine oH_of ⟨_,rfl⟩ (fun W0 hW0=>by (refine oM_gen (fun Kv hK=>?_)); simp [go_sem,hW0.cells]; (first | exact hK _ _ ⟨rfl,rfl⟩ | exact ⟨by omega,hK _ _ ⟨rfl,rfl⟩⟩)) ?_))
    | ((with_reducible refine oM_gen fun Kv hK=>?_); simp [go_sem]; refine hK _ _ ?_; clear hK Kv)))
    refine ⟨hk,?_⟩
    exact store_tkt ⟨a,b,c,d,e,f⟩ hk (fun W3 hk hc=>⟨hk,hk,_,by simp [go_sem,hc],k2 _ _ hdec hk.below⟩)
 ·have h6':¬ (vs.length:Int) = 6:=by omega
  rw [if_neg (by simp [h6])] at hdec
  refine Xa @h6' ?_
  exact store_tkt zTkt hk2 (fun W3 hk hc=>⟨_,by simp [go_sem,hc],k2 _ _ hdec hk.below⟩)
end
end Go.Proofs
namespace Go.Proofs
open Go Go.Sh Go.RowKit FdSpec TkSpec CodeSpec
section
@[go_sem] theorem eql_tkt (T:TypeId) (a b:Tkt):oM Tryz.prog (.binOp .eql 41 (.tmp 0) (.tmp 1) 41) T [tktV a,tktV b] = pureM (.bool (decide (a = b))):=by
 funext K w
 have h1:(eqGuard .eql 41 (.tmp 0) (.tmp 1) (tktV a) (tktV b)).run Tryz.prog w = .ok () w:=run_eqGuard_agg w _ _ _ _ _ _ (by kernel_rfl)
 have h2:(binOp .eql 41 (tktV a) (tktV b)).run Tryz.prog w = .ok (.bool (decide (a = b))) w:=by
  rw [run_eql_struct,run_equalIn_agg w 9999 41 _ _ (by kernel_rfl) (by kernel_rfl)]
  have u3:=Tryz.underlying3
  have e:decide (a = b) = ((a.mark == b.mark) && (a.first == b.first) && (a.z == b.z) && (a.a == b.a) && (a.b == b.b) && (a.r == b.r)):=by
   obtain ⟨a1,a2,a3,a4,a5,a6⟩:=a
   obtain ⟨b1,b2,b3,b4,b5,b6⟩:=b
   simp [Tkt.mk.injEq,and_assoc,Bool.and_assoc]
   rfl
  rw [e]
  simp [go_sem,Program.fieldsOf,Tryz.underlying41,Op.eqFields,part,u3]
  repeat' split
  all_goals simp_all
 unfold oM opM
 simp [xop,execOp,evalL,evE,h1,h2]
 exact Iff.rfl
@[go_sem] theorem eql_off (T:TypeId) (a b:Off):oM Tryz.prog (.binOp .eql 37 (.tmp 0) (.tmp 1) 37) T [offV a,offV b] = pureM (.bool (decide (a = b))):=by
 funext K w
 have h1:(eqGuard .eql 37 (.tmp 0) (.tmp 1) (offV a) (offV b)).run Tryz.prog w = .ok () w:=run_eqGuard_agg w _ _ _ _ _ _ (by kernel_rfl)
 have h2:(binOp .eql 37 (offV a) (offV b)).run Tryz.prog w = .ok (.bool (decide (a = b))) w:=by
  rw [run_eql_struct,run_equalIn_agg w 9999 37 _ _ (by kernel_rfl) (by kernel_rfl)]
  have u3:=Tryz.underlying3
  have e:decide (a = b) = ((a.z == b.z) && (a.a == b.a) && (a.b == b.b)):=by
   obtain ⟨a1,a2,a3⟩:=a
   obtain ⟨b1,b2,b3⟩:=b
   simp [Off.mk.injEq,and_assoc,Bool.and_assoc]
   rfl
  rw [e]
  simp [go_sem,Program.fieldsOf,Tryz.underlying37,Op.eqFields,part,u3]
  repeat' split
  all_goals simp_all
 unfold oM opM
 simp [xop,execOp,evalL,evE,h1,h2]
 exact Iff.rfl
end
end Go.Proofs
namespace Go.Proofs
open Go Go.Sh Go.RowKit FdSpec TkSpec CodeSpec
theorem dig1 {u:Nat} (h:u < 10):Lib.decDigits u = [UInt8.ofNat (48 + u)]:=by rw [Lib.decDigits]; simp [h]
theorem dig2 {u:Nat} (h:10 ≤ u) (h2:u < 100):Lib.decDigits u = [UInt8.ofNat (48 + u / 10),UInt8.ofNat (48 + u % 10)]:=by
 rw [Lib.decDigits,dif_neg (by omega),dig1 (by omega)]; rfl
theorem enc_t0:encM t0 = [54,91,56,59,49,56,59,57,59,49,54,59,49,51,59,48,59,93]:=by
 have e0:Lib.itoa (0:Int) = [48]:=by rw [Lib.itoa,if_neg (by omega)]; simp [dig1]
 have e6:Lib.itoa (6:Int) = [54]:=by rw [Lib.itoa,if_neg (by omega)]; simp [dig1]
 have e8:Lib.itoa (8:Int) = [56]:=by rw [Lib.itoa,if_neg (by omega)]; simp [dig1]
 have e9:Lib.itoa (9:Int) = [57]:=by rw [Lib.itoa,if_neg (by omega)]; simp [dig1]
 have e18:Lib.itoa (18:Int) = [49,56]:=by rw [Lib.itoa,if_neg (by omega)]; simp [dig2]
 have e16:Lib.itoa (16:Int) = [49,54]:=by rw [Lib.itoa,if_neg (by omega)]; simp [dig2]
 have e13:Lib.itoa (13:Int) = [49,51]:=by rw [Lib.itoa,if_neg (by omega)]; simp [dig2]
 simp [encM,encNums,encList,tktL,t0,encInt,e0,e6,e8,e9,e18,e16,e13]
section
variable {K:Value → World → Prop} {w w0 w1:World} {L:List (Addr × Value)}
theorem mk3 {T:TypeId} (x y z:Int) (hx:I64 x) (hy:I64 y) (hz:I64 z) (k:∀ ad c W,Below w.heap.size w W → Ints W (.slice ad 3 c) [x,y,z] → K (.slice ad 3 c) W):oM Tryz.prog (.buildSlice 22 3 #[(0,.tmp 0),(1,.tmp 1),(2,.tmp 2)]) T [.int .i64 x,.int .i64 y,.int .i64 z] K w:=by
 rw [oM_buildSlice3]
 have e:(Instr.buildSlice 22 3 #[(0,.int .i64 x),(1,.int .i64 y),(2,.int .i64 z)]).run Tryz.prog w = .ok (.slice (some ⟨w.heap.size,0,none⟩) 3 3) (w.alloc (.cells #[.int .i64 x,.int .i64 y,.int .i64 z] 3)):=by kernel_rfl
 rw [e]
 exact k _ _ _ ((Below.refl _ w).alloc (Nat.le_refl _) _) (ints_alloc w [x,y,z] _ 3 (by simp; exact ⟨hx,hy,hz⟩) (by simp))
theorem sz_stp (w:World):(sizeOf 32).run Tryz.prog w = .ok 5 w:=by kernel_rfl
theorem al_stp (w:World):(Instr.alloc 32 true (.tuple #[])).run Tryz.prog w = .ok (.pointer (some ⟨w.heap.size,0,none⟩)) (w.alloc (.cells [.int .i64 0,.int .i64 0,.int .i64 0,.slice none 0 0,.int .i64 0].toArray 32)):=by kernel_rfl
theorem sz_bld (w:World):(sizeOf 45).run Tryz.prog w = .ok 4 w:=by kernel_rfl
theorem al_bld (w:World):(Instr.alloc 45 true (.tuple #[])).run Tryz.prog w = .ok (.pointer (some ⟨w.heap.size,0,none⟩)) (w.alloc (.cells [.int .i64 0,.int .i64 0,.int .i64 0,.slice none 0 0].toArray 45)):=by kernel_rfl
theorem bld_one (b:Bld) (ad:Option Addr) (n c:Nat):∀ u ∈ bldC b (.slice ad n c),u.oneCell' = true:=by
 intro u hu
 simp only [bldC,List.mem_cons,List.not_mem_nil,or_false] at hu
 rcases hu with rfl | rfl | rfl | rfl <;> rfl
theorem local_stp {K:Value → World → Prop} {T' T2:TypeId} (s:Stp) (ad:Option Addr) (m c:Nat) (hk:Kn w0 L w)
  (k:∀ b W,Kn w0 (cellsOf L b 0 (stpC s (.slice ad m c))) W → Below w.heap.size w W → w.heap.size ≤ b → K (.pointer (some ⟨b,0,none⟩)) W) :
  oM Tryz.prog (.alloc 32) T' [] (fun v w=>oM Tryz.prog (.store 32 (.tmp 0) (.tmp 1)) T2 [v,stpV s (.slice ad m c)] (fun _ w=>K v w) w) w:=
 local_kn al_stp rfl sz_stp rfl rfl (stp_one s ad m c) hk k
theorem local_bld {K:Value → World → Prop} {T' T2:TypeId} (b:Bld) (ad:Option Addr) (m c:Nat) (hk:Kn w0 L w)
  (k:∀ g W,Kn w0 (cellsOf L g 0 (bldC b (.slice ad m c))) W → Below w.heap.size w W → w.heap.size ≤ g → K (.pointer (some ⟨g,0,none⟩)) W) :
  oM Tryz.prog (.alloc 45) T' [] (fun v w=>oM Tryz.prog (.store 45 (.tmp 0) (.tmp 1)) T2 [v,bldV b (.slice ad m c)] (fun _ w=>K v w) w) w:=
 local_kn al_bld rfl sz_bld rfl rfl (bld_one b ad m c) hk k
theorem local_off {K:Value → World → Prop} {T' T2:TypeId} (o:Off) (hk:Kn w0 L w)
  (k:∀ g W,Kn w0 (cellsOf L g 0 [.int .i64 o.z,.int .i64 o.a,.int .i64 o.b]) W → Below w.heap.size w W → w.heap.size ≤ g → K (.pointer (some ⟨g,0,none⟩)) W) :
  oM Tryz.prog (.alloc 37) T' [] (fun v w=>oM Tryz.prog (.store 37 (.tmp 0) (.tmp 1)) T2 [v,offV o] (fun _ w=>K v w) w) w:=
 local_kn al_off rfl sz_off rfl rfl (off_one o) hk k
theorem local_spe {K:Value → World → Prop} {T' T2:TypeId} (x:Spd) (ad:Option Addr) (m c:Nat) (hk:Kn w0 L w)
  (k:∀ g W,Kn w0 (cellsOf L g 0 (spdC x (.slice ad m c))) W → Below w.heap.size w W → w.heap.size ≤ g → K (.pointer (some ⟨g,0,none⟩)) W) :
  oM Tryz.prog (.alloc 49) T' [] (fun v w=>oM Tryz.prog (.store 49 (.tmp 0) (.tmp 1)) T2 [v,spdV x (.slice ad m c)] (fun _ w=>K v w) w) w:=
 local_kn al_spd rfl sz_spd rfl rfl (spd_one x ad m c) hk k
theorem i64lit {n:Int} (h:-9223372036854775808 ≤ n ∧ n < 9223372036854775808:=by decide):I64 n:=h
structure SE (sv av yv:Value) (w':World):Prop where
 setup:SetR w' s0 sv
 at':Ints w' av [5,7]
 bl:BldR w' b0 yv
 ld:Cd.Laid w'
theorem SE.next {sv av yv:Value} {w w':World} (h:SE sv av yv w) (hb:Below w.heap.size w w'):SE sv av yv w':=
 ⟨h.setup.next hb,h.at'.next hb,h.bl.next hb,h.ld.below hb h.ld.size⟩
theorem t0_R:TktR t0:=⟨i64lit,i64lit,i64lit,i64lit,i64lit,i64lit⟩
@[reducible] def x0:Spd:=⟨2,[9,9,4]⟩
@[reducible] def y0:Spd:=⟨5,[10,3,0]⟩
@[reducible] def z0:Spd:=⟨3,[9,9,4]⟩
theorem sane_ok (hT:DbT w) (hL:Cd.Laid w) (k:∀ w',Below w.heap.size w w' → K (.bool true) w'):callM Tryz.prog 21 #[] K w:=by
 apply sh_21_ok
 unfold sh_21
 obtain ⟨f1,f2,f3,f4,f5,f6,f7,f8,f9,f10,f11,f12,f13,f14,f15⟩:=sane_facts
 have hk:Kn w [] w:=.start w
 refine Xb1_0 ?_
 refine mk3 4 16 18 i64lit i64lit i64lit (fun ad c W1 hb1 hbs=>?_)
 have hk:=hk.next hb1
 have hs:SetR W1 s0 (.slice ad 3 c):=⟨⟨i64lit,i64lit,i64lit⟩,hbs,i64lit,hT.next hb1⟩
 refine Xb1_0 ?_
 refine local_stp s0 ad 3 c hk (fun gs W2 hk hb2 hg2=>?_)
 refine mk2 5 7 i64lit i64lit (fun v3 W3 hb3 hat=>?_)
 have hk:=hk.next hb3
 refine mk3 1 2 3 i64lit i64lit i64lit (fun yad yc W4 hb4 hys=>?_)
 have hk:=hk.next hb4
 refine Xb1_0 ?_
 refine local_bld b0 yad 3 yc hk (fun gb W5 hk hb5 hg5=>?_)
 have hW1:=(hb2.on hb3).on (hb4.on hb5)
 have E:SE (.slice ad 3 c) v3 (.slice yad 3 yc) W5:=⟨hs.next hW1,hat.next (hb4.on hb5),⟨i64lit,i64lit,i64lit,hys.next hb5⟩,hL.below hk.below hL.size⟩
 refine Xa hk.cells ?_
 refine Propose_ok s0 3 2 i64lit i64lit E.setup E.at' (fun w1 h1=>?_)
 rw [f1]
 have hk:=hk.next h1
 have E:=E.next h1
 refine Xb2_0 ?_
 refine local_off ⟨9,16,13⟩ hk (fun go W6 hk hb6 hg6=>?_)
 have E:=E.next hb6
 refine Xa hk.cells ?_
 refine Use_ok s0 b0 2 i64lit E.setup E.at' E.bl (fun w2 ov2 h2 hi2=>?_)
 rw [f2] at hi2 ⊢
 obtain ⟨ad2,c2,rfl⟩:=hi2.isSlice
 have hk:=hk.next h2
 have E:=E.next h2
 refine Xb2_0 ?_
 refine local_spe x0 ad2 3 c2 hk (fun gx W7 hk hb7 hg7=>?_)
 have E:=E.next hb7
 have X:SpdR W7 x0 (.slice ad2 3 c2):=⟨i64lit,hi2.next hb7⟩
 refine Xa hk.cells ?_
 refine Use_ok s0 b0 5 i64lit E.setup E.at' E.bl (fun w3 ov3 h3 hi3=>?_)
 rw [f3] at hi3 ⊢
 obtain ⟨ad3,c3,rfl⟩:=hi3.isSlice
 have hk:=hk.next h3
 have E:=E.next h3
 have X:=X.next h3
 refine Xb2_0 ?_
 refine local_spe y0 ad3 3 c3 hk (fun gy W8 hk hb8 hg8=>?_)
 have E:=E.next hb8
 have X:=X.next hb8
 have Y:SpdR W8 y0 (.slice ad3 3 c3):=⟨i64lit,hi3.next hb8⟩
 refine Xb1_0 ?_
 refine local_tkt t0 hk (fun gt W9 hk hb9 hg9=>?_)
 have E:=E.next hb9
 have X:=X.next hb9
 have Y:=Y.next hb9
 refine Xa hk.cells ?_
 refine Trace_ok s0 t0 x0 y0 t0_R E.setup X Y (fun w4 ov4 h4 hi4=>?_)
 rw [f4] at hi4 ⊢
 have hk:=hk.next h4
 have E:=E.next h4
 have X:=X.next h4
 have Y:=Y.next h4
 refine Xa hk.cells ?_
 refine Trace_ok s0 t0 x0 x0 t0_R E.setup X X (fun w5 ov5 h5 hi5=>?_)
 rw [f5]
 have hk:=hk.next h5
 have E:=E.next h5
 have X:=X.next h5
 have Y:=Y.next h5
 have hi4:=hi4.next h5
 repeat (any_goals (first
 | ((with_reducible refine mk3 9 9 4 i64lit i64lit i64lit ?_); intro ad6 c6 w6 h6 hi6)
 | ((with_reducible refine oM_gen fun Kv hK=>?_); simp [go_sem,hk.cells]; refine hK _ _ ?_; clear hK Kv)))
 have hk:=hk.next h6
 have E:=E.next h6
 have X:=X.next h6
 have Y:=Y.next h6
 have hi4:=hi4.next h6
 refine Same_ok X.answers hi6 (fun w7 h7=>?_)
 rw [decide_eq_true rfl]
 have hk:=hk.next h7
 have E:=E.next h7
 have X:=X.next h7
 have Y:=Y.next h7
 have hi4:=hi4.next h7
 repeat (any_goals (first
 | ((with_reducible refine mk3 10 3 0 i64lit i64lit i64lit ?_); intro ad8 c8 w8 h8 hi8)
 | (with_reducible refine zC ?_)
 | ((with_reducible refine oM_gen fun Kv hK=>?_); simp [go_sem,hk.cells]; refine hK _ _ ?_; clear hK Kv)))
 have hk:=hk.next h8
 have E:=E.next h8
 have X:=X.next h8
 have Y:=Y.next h8
 have hi4:=hi4.next h8
 refine Same_ok Y.answers hi8 (fun w9 h9=>?_)
 rw [decide_eq_true rfl]
 have hk:=hk.next h9
 have E:=E.next h9
 have X:=X.next h9
 have Y:=Y.next h9
 have hi4:=hi4.next h9
 refine Xa hk.cells ?_
 refine Same_ok hi4 E.at' (fun w10 h10=>?_)
 rw [decide_eq_true rfl]
 have hk:=hk.next h10
 have E:=E.next h10
 have X:=X.next h10
 have Y:=Y.next h10
 repeat (any_goals (first
 | ((with_reducible refine local_spe z0 ad2 3 c2 hk ?_); intro gz W11 hk hb11 hg11)
 | (with_reducible first|refine pureM_in ?_|refine zC ?_|refine yC ?_|refine yM ?_)
 | ((with_reducible refine oM_gen fun Kv hK=>?_); simp [go_sem,hk.cells]; refine hK _ _ ?_; clear hK Kv)))
 have E:=E.next hb11
 have X:=X.next hb11
 have Y:=Y.next hb11
 have Z:SpdR W11 z0 (.slice ad2 3 c2):=⟨i64lit,X.answers⟩
 refine Mark_ok s0 E.setup E.at' (fun w12 h12=>?_)
 rw [f6]
 have hk:=hk.next h12
 have E:=E.next h12
 have X:=X.next h12
 have Y:=Y.next h12
 have Z:=Z.next h12
 refine Xa hk.cells ?_
 refine Usable_ok s0 E.setup E.at' (fun w13 h13=>?_)
 rw [f7]
 have hk:=hk.next h13
 have E:=E.next h13
 have X:=X.next h13
 have Y:=Y.next h13
 have Z:=Z.next h13
 repeat (any_goals (first
 | ((with_reducible refine mk2 5 0 i64lit i64lit ?_); intro v14 w14 h14 hi14)
 | (with_reducible first|refine zA ?_|refine yB ?_)
 | ((with_reducible refine oM_gen fun Kv hK=>?_); simp [go_sem,hk.cells]; refine hK _ _ ?_; clear hK Kv)))
 have hk:=hk.next h14
 have E:=E.next h14
 have X:=X.next h14
 have Y:=Y.next h14
 have Z:=Z.next h14
 refine Usable_ok s0 E.setup hi14 (fun w15 h15=>?_)
 rw [f8]
 have hk:=hk.next h15
 have E:=E.next h15
 have X:=X.next h15
 have Y:=Y.next h15
 have Z:=Z.next h15
 refine Xa hk.cells ?_
 refine Public_ok s0 3 i64lit E.setup (fun w16 h16=>?_)
 rw [f9]
 have hk:=hk.next h16
 have E:=E.next h16
 have X:=X.next h16
 have Y:=Y.next h16
 have Z:=Z.next h16
 refine Xa hk.cells ?_
 refine Public_ok s0 0 i64lit E.setup (fun w17 h17=>?_)
 rw [f10]
 have hk:=hk.next h17
 have E:=E.next h17
 have X:=X.next h17
 have Y:=Y.next h17
 have Z:=Z.next h17
 refine Xa hk.cells ?_
 rw [eql_off _ ⟨9,16,13⟩ ⟨9,16,13⟩,decide_eq_true rfl]
 refine Xa hk.cells ?_
 refine Grant_ok s0 3 2 6 i64lit i64lit i64lit E.setup (fun w18 h18=>?_)
 rw [f11]
 have hk:=hk.next h18
 have E:=E.next h18
 have X:=X.next h18
 have Y:=Y.next h18
 have Z:=Z.next h18
 refine Xa hk.cells ?_
 refine Accepts_ok s0 t0 x0 t0_R E.setup X (fun w19 h19=>?_)
 rw [f12]
 have hk:=hk.next h19
 have E:=E.next h19
 have X:=X.next h19
 have Y:=Y.next h19
 have Z:=Z.next h19
 refine Xa hk.cells ?_
 refine Accepts_ok s0 t0 y0 t0_R E.setup Y (fun w20 h20=>?_)
 rw [f13]
 have hk:=hk.next h20
 have E:=E.next h20
 have X:=X.next h20
 have Y:=Y.next h20
 have Z:=Z.next h20
 refine Xa hk.cells ?_
 refine Accepts_ok s0 t0 z0 t0_R E.setup Z (fun w21 h21=>?_)
 rw [f14]
 have hk:=hk.next h21
 have E:=E.next h21
 have X:=X.next h21
 have Y:=Y.next h21
 have Z:=Z.next h21
 refine Xa hk.cells ?_
 refine Guilty_ok s0 t0 x0 y0 t0_R E.setup X Y E.at' (fun w22 h22=>?_)
 rw [f15]
 have hk:=hk.next h22
 have E:=E.next h22
 have X:=X.next h22
 have Y:=Y.next h22
 have Z:=Z.next h22
 refine Xa hk.cells ?_
 refine Encode_ok t0 t0_R E.ld (fun w23 h23=>?_)
 rw [enc_t0]
 have hk:=hk.next h23
 refine Xa0 ?_
 exact k _ hk.below
end
end Go.Proofs
namespace Go.Proofs
open Go Go.Sh Go.RowKit FdSpec TkSpec CodeSpec
section
variable {K:Value → World → Prop} {w w0 w1:World} {L:List (Addr × Value)}
end
end Go.Proofs
