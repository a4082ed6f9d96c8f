/- Parts of the proof of the seat's statements (UpL, UpN, UpO, HPx, HJd, HJj, JnLaw2, JnSum, JA, JB, JdkA, JdkB, JdkC, JdkD, JdkE, JdkF, ShMap6, JdkG, JdkH, JdkI0, JdkI1, JdkJ, JC, JD, JE, JF, PuLaw3): lemmas about the given translation and plain laws. No condition of their own. -/
import Derived.Test.YtnbokkoppdnllaaGreatDoorPbc
import Derived.Test.YtnbokkoppdnllaaGreatDoorProg
import Derived.Laws.CopyRow
import Derived.Laws.IdiomCopy
set_option linter.all false
set_option maxRecDepth 100000
namespace Go.Proofs
open Go Go.Sh Go.RowKit FdSpec TkSpec CodeSpec PuSpec
section
variable {K:VK} {w w' w0 W W':World} {L:List (Addr × Value)} {rb b:Nat}
theorem build_rdr (T:TypeId) (b:Nat):oM Tryz.prog (Go.Op.build 121 #[(0,(.tmp 0))]) T [.pointer (some ⟨b,0,none⟩)] = pureM (.agg #[.pointer (some ⟨b,0,none⟩),.bool false]):=by
 funext K w
 kernel_rfl
theorem zeroH_wf:WHld zeroH:=
 ⟨inR_zero,inR_zero,(fun _ h=>by cases h),by decide,inR_zero,inR_zero,inR_zero,(fun _ h=>by cases h),by decide,⟨fun v hv=>by
  simp only [tktL,zeroH,List.mem_cons,List.not_mem_nil,or_false,or_self] at hv
  subst hv
  exact inR_zero⟩,(fun _ h=>by cases h)⟩
theorem zeroH_R:HldR w zeroH (.slice none 0 0) (.slice none 0 0) (.slice none 0 0):=⟨Ints.nil _,Ints.nil _,SRow.nil,zeroH_wf⟩
theorem zeroH_fresh:Fresh w w' (fun W=>HldR W zeroH (.slice none 0 0) (.slice none 0 0) (.slice none 0 0)):=fun _ _ _ _ _ _=>zeroH_R
theorem hldR_slices {h:Hld} {av yv lv:Value} (k:HldR w h av yv lv):∃ a1 n1 c1 a2 n2 c2 a3 n3 c3,av = .slice a1 n1 c1 ∧ yv = .slice a2 n2 c2 ∧ lv = .slice a3 n3 c3:=by
 obtain ⟨a1,c1,e1⟩:=k.attrs.isSlice
 obtain ⟨a2,c2,e2⟩:=k.ys.isSlice
 obtain ⟨a3,c3,e3⟩:=k.links.isSlice
 exact ⟨a1,_,c1,a2,_,c2,a3,_,c3,e1,e2,e3⟩
theorem Decode_ok (s:Bytes) (hs:s.length < 2 ^ 40) (hl:Cd.LaidE w) (k:∀ w' av yv lv,Bw w w' → Fresh w w' (fun W=>HldR W (decodeH s).1 av yv lv) → K (.tuple #[hldV (decodeH s).1 av yv lv,.bool (decodeH s).2]) w'):callM Tryz.prog 14 #[.string ⟨s.toArray⟩] K w:=by
 apply sh_14_ok
 unfold sh_14
 refine arr_alloc al_hld (fun g2 w1 h1 hg2 hH2=>?_)
 refine Cd.open_ok s (fun w2 hr2 h2=>?_)
 have hw8:=hl.size
 have h1s:=h1.size
 rw [build_rdr]
 show oM _ _ _ _ _ _
 refine arr_box rfl (fun rb w3 h3 hrb hR3=>?_)
 have hb2:=hr2.lt
 have R3:RbR w3 rb w1.heap.size ⟨⟨s,false⟩,false⟩:=⟨hR3,hr2.below h3 hb2,by omega,Rd.ok_good,hs,by omega,by omega⟩
 have hl3:Cd.LaidE w3:=((hl.below h1 hl.size).below h2 (by omega)).below h3 (by have:=h2.size; omega)
 refine held_ok R3 hl3 (fun w4 av yv lv R4 f4 hF=>?_)
 have e:decodeH s = if (heldR ⟨⟨s,false⟩,false⟩).2.bad || !doneR (heldR ⟨⟨s,false⟩,false⟩).2.rd then (zeroH,false) else ((heldR ⟨⟨s,false⟩,false⟩).1,true):=rfl
 rw [e] at k
 generalize (heldR ⟨⟨s,false⟩,false⟩).2 = r at *
 generalize (heldR ⟨⟨s,false⟩,false⟩).1 = h at *
 obtain ⟨a1,n1,c1,a2,n2,c2,a3,n3,c3,rfl,rfl,rfl⟩:=hldR_slices hF.here
 refine arr_alloc al_hld (fun g5 w5 h5 hg5 hH5=>?_)
 refine arr_store sz_hld rfl rfl (hld_one _ _ _ _ _ _ _ _ _ _ _ _ _ _ _ _ _ _ _ _) hH5 rfl (fun w6 hg6 hH6=>?_)
 have hs3:w.heap.size ≤ w3.heap.size:=by have:=h2.size; have:=h3.size; omega
 have hs4:=f4.size
 have hs5:=h5.size
 have hs6:=hg6.size
 have R6:RbR w6 rb w1.heap.size r:=(R4.next h5).keep (Fr.of_by hg6) (fun e=>by have:=R4.blk.lt; omega) (fun e=>by have:=R4.rd.lt; omega)
 have hF7:FP (fun i=>w3.heap.size ≤ i ∧ i < w6.heap.size) w6 (fun W=>HldR W h (.slice a1 n1 c1) (.slice a2 n2 c2) (.slice a3 n3 c3)):=(((FP.next hF h5 (fun i hi=>hi.2)).fr (Fr.of_by hg6) (fun i hi=>⟨by omega,fun e=>by omega⟩))).mono (fun i hi=>⟨hi.1,by omega⟩)
 have hs12:=h2.size
 have hs23:=h3.size
 have hg2l:=hH2.lt
 have fr:Fr (fun _=>False) w1 w6:=((((Fr.of_below h2).trans (Fr.of_below h3) (fun i hi=>.inl hi)).trans f4 (fun i hi=>.inr (by rcases hi with rfl | rfl <;> omega))).trans (Fr.of_below h5) (fun i hi=>.inl hi)).trans (Fr.of_by hg6) (fun i hi=>.inr (by omega))
 have hH26:Holds w6 g2 29 hldZ:=(fr.block g2 hH2.lt id).trans hH2
 have g26:g2 ≠ g5:=fun e=>by have:=hH2.lt; omega
 have c6:=R6.blk.cell 1 (by simp)
 have c60:=R6.blk.cell 0 (by simp)
 simp only [List.getElem_cons_zero,List.getElem_cons_succ] at c6 c60
 have hbw:Bw w w6:=⟨fr.os.trans h1.os,fr.tape.trans h1.tape,fr.output.trans h1.output,Nat.le_trans h1.size fr.size,fun i hi=>(fr.block i (by omega) id).trans (h1.block i hi)⟩
 have bad:(∀ w' av yv lv,Bw w w' → Fresh w w' (fun W=>HldR W zeroH av yv lv) → K (.tuple #[hldV zeroH av yv lv,.bool false]) w') →
   oM Tryz.prog (Go.Op.store 29 (.tmp 0) (.tmp 1)) 0 [.pointer (some ⟨g2,0,none⟩),.agg hldZ.toArray] (fun _ w=>∃ r_18,(do loadVar 29 (← asAddr (.pointer (some ⟨g2,0,none⟩))):Sem Value).run Tryz.prog w = .ok r_18 w ∧ K (.tuple #[r_18,(.bool false)]) w) w6:=fun k=>by
  refine arr_store sz_hld rfl rfl (hld_one _ _ _ _ _ _ _ _ _ _ _ _ _ _ _ _ _ _ _ _) hH26 rfl (fun w7 hg7 hH7=>?_)
  refine arr_ret hH7 un_hld (by kernel_rfl) (by kernel_rfl) ?_
  exact k _ (.slice none 0 0) (.slice none 0 0) (.slice none 0 0) (hbw.grown hg7 (by omega) (fun i e=>by cases e; omega)) zeroH_fresh
 cases hb:r.bad with
 | true=>
  rw [hb] at k c6
  repeat (any_goals (first
  | (with_reducible first|refine zD ?_|refine yB ?_|refine yL ?_)
  | ((with_reducible refine oG fun X Y=>?_); simp [go_sem,c6,c60]; apply Y; clear Y X)))
  exact bad k
 | false=>
  rw [hb] at k c6
  repeat (any_goals (first
  | (with_reducible first|refine pureM_in ?_|refine zC ?_)
  | ((with_reducible refine oG fun X Y=>?_); simp [go_sem,c6,c60]; apply Y; clear Y X)))
  refine Cd.done_ok _ _ R6.rd ?_
  rw [rdDone_eq]
  cases hd:doneR r.rd with
  | false=>
   rw [hd] at k
   repeat (any_goals (first
   | (with_reducible first|refine zC ?_|refine yC ?_|refine yL ?_)
   | ((with_reducible refine oG fun X Y=>?_); simp [go_sem]; apply Y; clear Y X)))
   exact bad k
  | true=>
   rw [hd] at k
   repeat (any_goals (first
   | (with_reducible first|refine zC ?_|refine yC ?_|refine yM ?_)
   | ((with_reducible refine oG fun X Y=>?_); simp [go_sem]; apply Y; clear Y X)))
   refine arr_load hH6 un_hld (by kernel_rfl) (by kernel_rfl) ?_
   refine arr_store sz_hld rfl rfl (hld_one _ _ _ _ _ _ _ _ _ _ _ _ _ _ _ _ _ _ _ _) hH26 rfl (fun w7 hg7 hH7=>?_)
   refine arr_ret hH7 un_hld (by kernel_rfl) (by kernel_rfl) ?_
   exact k _ _ _ _ (hbw.grown hg7 (by omega) (fun i e=>by cases e; omega)) (FP.mono (FP.fr (D:=fun i=>w3.heap.size ≤ i ∧ i < w6.heap.size) (p:=fun W=>HldR W h (.slice a1 n1 c1) (.slice a2 n2 c2) (.slice a3 n3 c3)) hF7 (Fr.of_by hg7) (fun i hi=>⟨hi.2,fun e=>by omega⟩)) (fun i hi=>⟨by omega,by have:=hg7.size; omega⟩))
theorem al_bld (w:World):(Instr.alloc 24 true (.tuple #[])).run Tryz.prog w = .ok (.pointer (some ⟨w.heap.size,0,none⟩)) (w.alloc (.cells [.int .i64 0,.int .i64 0,.int .i64 0,.slice none 0 0].toArray 24)):=by kernel_rfl
theorem bld_one (b:Bld) (ad:Option Addr) (n c:Nat):∀ u ∈ bldC b (.slice ad n c),u.oneCell' = true:=by
 intro u hu
 simp only [bldC,List.mem_cons,List.not_mem_nil,or_false] at hu
 rcases hu with rfl | rfl | rfl | rfl <;> rfl
theorem mk3i {T:TypeId} (a b c:Int) (ha:I64 a) (hb:I64 b) (hc:I64 c) (k:∀ v W,Bw w W → Ints W v [a,b,c] → K v W):oM Tryz.prog (.buildSlice 22 3 #[(0,.tmp 0),(1,.tmp 1),(2,.tmp 2)]) T [.int .i64 a,.int .i64 b,.int .i64 c] K w:=by
 rw [rM_of (S:=Instr.buildSlice 22 3 #[(0,.int .i64 a),(1,.int .i64 b),(2,.int .i64 c)]) (by simp [xop,execOp,evalL,evE])]
 have e:(Instr.buildSlice 22 3 #[(0,.int .i64 a),(1,.int .i64 b),(2,.int .i64 c)]).run Tryz.prog w = .ok (.slice (some ⟨w.heap.size,0,none⟩) 3 3) (w.alloc (.cells #[.int .i64 a,.int .i64 b,.int .i64 c] 3)):=by kernel_rfl
 rw [e]
 exact k _ _ ((Below.refl _ w).alloc (rL) _) (ints_alloc w [a,b,_] _ 3 (by simp; exact ⟨ha,hb,hc⟩) (by simp))
theorem Formed_ok (s:Stp) (t:Tkt) {v:Value} (ht:TktR t) (hs:SetR w s v) (k:∀ w',Bw w w' → K (.bool (formedM s t)) w'):callM Tryz.prog 150 #[stpV s v,tktV t] K w:=by
 apply sh_150_ok
 unfold sh_150
 obtain ⟨ad,c,rfl⟩:=hs.ints.isSlice
 refine box_kn (cs:=stpC s (.slice ad s.bases.length c)) rfl (.start w) fun b W hk hb1 hb=>?_
 refine box_kn (cs:=tktC t) rfl hk fun b2 W2 hk hb2 hbb=>?_
 repeat (any_goals ((with_reducible refine oG fun X Y=>?_); simp [go_sem,hk.cells]; apply Y; clear Y X))
 refine formed_ok s t ht (hs.next hk.below) (fun w2 h=>?_)
 have hk:=hk.next h
 iterate 2 (any_goals ((with_reducible refine oG fun X Y=>?_); simp [go_sem]; apply Y; clear Y X))
 refine local_desk' s ad s.bases.length c hk (fun b7 W7 hk hb7 hg7=>?_)
 exact k _ hk.below
theorem wtkt_R {t:Tkt} (h:WTkt t):TktR t:=by
 have:=h.all
 simp only [tktL,List.mem_cons,List.not_mem_nil,or_false,forall_eq_or_imp,forall_eq] at this
 exact ⟨inR_I64 this.1,inR_I64 this.2.1,inR_I64 this.2.2.1,inR_I64 this.2.2.2.1,inR_I64 this.2.2.2.2.1,inR_I64 this.2.2.2.2.2⟩
theorem validM_eq (s:Stp) (lims:List Lim) (h:Hld):PuSpec.validM s lims h = (validS s && decide (0 ≤ h.limit) && decide (h.limit < lims.length) && timeB h.window && linksM h.links &&
 decide ((h.attrs.length:Int) = (s.bases.length:Int) - 1) && decide (h.attrs.length ≠ 0) && decide (1 ≤ h.attrs.headD 0) && decide (h.bl.ys.length = s.bases.length) &&
 residuesM s.g.Q h.attrs && residuesM s.g.Q h.bl.ys && residuesM s.g.Q [h.bl.s,h.bl.u,h.bl.v] && decide (h.bl.s ≠ 0) && decide (h.bl.u ≠ 0) &&
 formedM s h.t && decide (h.t.mark = powerG s.g (markM s h.attrs).1 h.bl.s) && decide (h.t.first = (prodG s.g s.bases h.bl.ys).1)):=rfl
theorem Valid_ok (s:Stp) (lims:List Lim) (h:Hld) {v lv av yv kv:Value} (hs:SetR w s v) (hl:LimR w lv lims) (hh:HldR w h av yv kv) (k:∀ w',Bw w w' → K (.bool (PuSpec.validM s lims h)) w'):callM Tryz.prog 99 #[stpV s v,lv,hldV h av yv kv] K w:=by
 apply sh_99_ok
 unfold sh_99
 obtain ⟨ad,c,rfl⟩:=hs.ints.isSlice
 obtain ⟨a1,c1,rfl⟩:=hh.attrs.isSlice
 obtain ⟨a2,c2,rfl⟩:=hh.ys.isSlice
 obtain ⟨a3,c3,rfl⟩:=hh.links.isSlice
 obtain ⟨a4,c4,rfl⟩:=hl.isSlice
 have k2:∀ w' r,PuSpec.validM s lims h = r → Bw w w' → K (.bool r) w':=fun w' r e hb=>by rw [← e]; exact k w' hb
 clear k
 rw [validM_eq] at k2
 have hbl:=hs.ints.len
 have hal:=hh.attrs.len
 refine box_kn (cs:=stpC s (.slice ad s.bases.length c)) rfl (.start w) fun b W hk hb1 hb=>?_
 refine box_kn (cs:=hldC h (.slice a1 h.attrs.length c1) (.slice a2 h.bl.ys.length c2) (.slice a3 h.links.length c3)) rfl hk fun b2 W2 hk hb2 hbb=>?_
 have hk:=hk.drew
 refine ⟨Nx { W2 with drawn:=W2.drawn + 1 },bR,rfl,?_⟩
 generalize ({ W2 with drawn:=W2.drawn + 1 }:World) = W3 at hk ⊢
 repeat (any_goals ((with_reducible refine idOH ?_); (with_reducible refine oH_of ⟨_,rfl⟩ (fun W0 hW0=>by (refine oG (fun X Y=>?_)); simp [go_sem,(hk.next hW0).cells]; (first | exact Y _ _ ⟨rfl,rfl⟩ | exact ⟨by omega,Y _ _ ⟨rfl,rfl⟩⟩)) ?_)))
 refine ⟨Nx,?_⟩
 refine monoR (fun v w'=>∃ g2,v = ptr g2 0 ∧ W3.heap.size ≤ g2 ∧ Holds w' g2 24 [.int .i64 0,.int .i64 0,.int .i64 0,.slice none 0 0]) (fun v w w1 hS h=>h.imp fun g2 h=>⟨h.1,h.2.1,h.2.2.next hS⟩) ?_ ?_
 ·intro w1 h1
  exact arr_alloc al_bld (fun g2 w2 h2 hg2 hh=>⟨h1.on h2,h2,g2,rfl,Nat.le_trans h1.size hg2,hh⟩)
 repeat (apply monoE; focus (intro w9 h9; (repeat (intro v9 e9; try (obtain rfl:=e9))); (skip); exact ⟨h9,bR,rfl⟩))
 rintro w9 h9 _ ⟨g9,rfl,hg9,hB⟩ _ rfl
 refine arr_store sz_bld (xs:=bldC h.bl (.slice a2 h.bl.ys.length c2)) rfl rfl (bld_one _ _ _ _) hB rfl (fun w10 hg10 hB=>?_)
 have hoff:=cells_lt hk.cells
 have hs39:=h9.size
 have hg9w:w.heap.size ≤ g9:=Nat.le_trans hk.below.size hg9
 have hk:=(hk.next h9).wrote hg10 hg9w (fun p hp=>by have:=hoff p hp; omega)
 clear h9 hg10 hoff hb1 hb hb2 hbb
 iterate 1 (any_goals ((with_reducible refine oG fun X Y=>?_); simp [go_sem,hk.cells]; apply Y; clear Y X))
 refine ValidSetup_ok s (hs.next hk.below) (fun w11 h11=>?_)
 have hk:=hk.next h11
 have hB:=hB.next h11
 clear h11 hg9 hs39
 cases hv:validS s with
 | false=>
  repeat (any_goals (first
  | (with_reducible first|refine zD ?_|refine yB ?_|refine yL ?_)
  | ((with_reducible refine oG fun X Y=>?_); simp [go_sem]; apply Y; clear Y X)))
  exact k2 _ _ (by rw [hv]; simp) hk.below
 | true=>
 repeat (any_goals (first
 | (with_reducible first|refine pureM_in ?_|((refine idGd ?_); first|refine zC ?_|refine zD ?_|((refine idGdD ?_); first|refine zI ?_|refine zJ ?_|refine zK (fun hg=>?_) fun hg=>?_))|((refine idPick ?_); first|refine yB ?_|refine yC ?_|refine yD ?_|refine yE ?_)|refine yL ?_)
 | ((with_reducible refine oG fun X Y=>?_); simp [go_sem,hk.cells]; apply Y; clear Y X)))
 ·exact k2 _ _ (by rw [decide_eq_false (by omega:¬ 0 ≤ h.limit)]; simp) hk.below
 ·exact k2 _ _ (by rw [decide_eq_false (by omega:¬ h.limit < (lims.length:Int))]; simp) hk.below
 refine isTime_ok h.window ?_
 cases ht:timeB h.window with
 | false=>
  repeat (any_goals (first
  | (with_reducible first|((refine idGd ?_); first|refine zD ?_|((refine idGdD ?_); refine zI ?_))|((refine idPick ?_); first|refine yB ?_|refine yE ?_)|refine yL ?_)
  | ((with_reducible refine oG fun X Y=>?_); simp [go_sem]; apply Y; clear Y X)))
  exact k2 _ _ (by rw [ht]; simp) hk.below
 | true=>
 repeat (any_goals (first
 | (with_reducible first|((refine idGd ?_); first|refine zC ?_|((refine idGdD ?_); refine zI ?_))|refine yE ?_)
 | ((with_reducible refine oG fun X Y=>?_); simp [go_sem,hk.cells]; apply Y; clear Y X)))
 refine pformed_ok h.links (hh.links.next (atOf_stay lnk_vstay) hk.below) (fun w12 h12=>?_)
 have hk:=hk.next h12
 have hB:=hB.next h12
 clear h12
 cases hf:linksM h.links with
 | false=>
  repeat (any_goals (first
  | (with_reducible first|refine zC ?_|refine yC ?_|refine yL ?_)
  | ((with_reducible refine oG fun X Y=>?_); simp [go_sem]; apply Y; clear Y X)))
  exact k2 _ _ (by rw [hf]; simp) hk.below
 | true=>
 repeat (any_goals (first
 | (with_reducible first|((refine idGd ?_); first|refine zC ?_|refine zD ?_|((refine idGdD ?_); first|refine zI ?_|refine zJ ?_|refine zK (fun hg=>?_) fun hg=>?_)|((refine idGdN ?_); first|refine zO ?_|refine zP ?_|refine zQ (fun hg=>?_) fun hg=>?_))|((refine idPick ?_); first|refine yB ?_|refine yC ?_|refine yD ?_|refine yF ?_|refine yG ?_)|((refine idCond ?_); first|refine yL ?_|refine yM ?_))
 | ((with_reducible refine oG fun X Y=>?_); simp [go_sem,hk.cells,hB.are]; (try simp (disch:=omega) only [wrapI64,wrapU8,wrapU32,wrapU64]); apply Y; clear Y X)))
 ·exact k2 _ _ (by rw [hg]; simp) hk.below
 rotate_left
 ·exact k2 _ _ (by rw [decide_eq_false hg]; simp) hk.below
 have hpos:0 < h.attrs.length:=List.length_pos_iff.2 hg
 obtain ⟨b5,o5,rfl,hb5,ca,ra,_⟩:=hh.attrs.at (i:=0) hpos
 have e0:h.attrs.headD 0 = h.attrs[0]:=by rw [List.headD_eq_head?_getD,List.head?_eq_getElem?,gE hpos]; rfl
 have ca0:=ca _ hk.below
 rw [Nat.add_zero] at ca0
 repeat (any_goals (first
 | (with_reducible first|((refine idGd ?_); ((refine idGdD ?_); first|refine zI ?_|refine zJ ?_|refine zK (fun hg=>?_) fun hg=>?_))|((refine idPick ?_); first|refine yD ?_|refine yE ?_)|((refine idCond ?_); first|refine yL ?_|refine yS (fun hg=>?_) fun hg=>?_))
 | ((with_reducible refine oG fun X Y=>?_); simp [go_sem,hk.cells,hB.are,ca0]; (first|refine Y _ _ ?_|refine And.intro (by omega) (Y _ _ ?_)); clear Y X)))
 ·exact k2 _ _ (by rw [e0,decide_eq_false (by omega:¬ (1:Int) ≤ h.attrs[0])]; simp) hk.below
 rotate_left
 ·exact k2 _ _ (by rw [decide_eq_false (by omega:¬ h.bl.ys.length = s.bases.length)]; simp) hk.below
 refine residues_ok s.g.Q (hh.attrs.next hk.below) (fun w13 h13=>?_)
 have hk:=hk.next h13
 have hB:=hB.next h13
 clear h13 ca ca0
 cases hr1:residuesM s.g.Q h.attrs with
 | false=>
  repeat (any_goals (first
  | (with_reducible first|refine zD ?_|refine yB ?_|refine yL ?_)
  | ((with_reducible refine oG fun X Y=>?_); simp [go_sem]; apply Y; clear Y X)))
  exact k2 _ _ (by rw [hr1]; simp) hk.below
 | true=>
 repeat (any_goals (first
 | (with_reducible first|refine pureM_in ?_|refine zC ?_)
 | ((with_reducible refine oG fun X Y=>?_); simp [go_sem,hk.cells,hB.are]; apply Y; clear Y X)))
 refine residues_ok s.g.Q (hh.ys.next hk.below) (fun w14 h14=>?_)
 have hk:=hk.next h14
 have hB:=hB.next h14
 clear h14
 cases hr2:residuesM s.g.Q h.bl.ys with
 | false=>
  repeat (any_goals (first
  | (with_reducible first|((refine idGd ?_); first|refine zC ?_|refine zD ?_)|((refine idPick ?_); first|refine yB ?_|refine yC ?_)|refine yL ?_)
  | ((with_reducible refine oG fun X Y=>?_); simp [go_sem]; apply Y; clear Y X)))
  exact k2 _ _ (by rw [hr2]; simp) hk.below
 | true=>
 repeat (any_goals (first
 | ((with_reducible refine mk3i h.bl.s h.bl.u h.bl.v (inR_I64 hh.wf.s) (inR_I64 hh.wf.u) (inR_I64 hh.wf.v) ?_); intro v15 W15 h15 hi15)
 | (with_reducible first|refine pureM_in ?_|refine zC ?_|refine yC ?_)
 | ((with_reducible refine oG fun X Y=>?_); simp [go_sem,hk.cells,hB.are]; apply Y; clear Y X)))
 have hk:=hk.next h15
 have hB:=hB.next h15
 clear h15
 refine residues_ok s.g.Q hi15 (fun w16 h16=>?_)
 have hk:=hk.next h16
 have hB:=hB.next h16
 clear h16 hi15
 cases hr3:residuesM s.g.Q [h.bl.s,h.bl.u,h.bl.v] with
 | false=>
  repeat (any_goals (first
  | (with_reducible first|((refine idGd ?_); first|refine zC ?_|refine zD ?_)|((refine idPick ?_); first|refine yB ?_|refine yC ?_)|refine yL ?_)
  | ((with_reducible refine oG fun X Y=>?_); simp [go_sem]; apply Y; clear Y X)))
  exact k2 _ _ (by rw [hr3]; simp) hk.below
 | true=>
 repeat (any_goals (first
 | (with_reducible first|((refine idGd ?_); first|refine zC ?_|((refine idGdD ?_); first|refine zI ?_|refine zJ ?_|refine zK (fun hg=>?_) fun hg=>?_))|((refine idPick ?_); first|refine yC ?_|refine yD ?_|refine yE ?_)|((refine idCond ?_); first|refine yL ?_|refine yP (fun hg=>?_) fun hg=>?_))
 | ((with_reducible refine oG fun X Y=>?_); simp [go_sem,hk.cells,hB.are]; apply Y; clear Y X)))
 ·exact k2 _ _ (by rw [hg]; simp) hk.below
 ·exact k2 _ _ (by rw [hg]; simp) hk.below
 refine Product_ok s.g (hs.ints.next hk.below) (hh.ys.next hk.below) (fun w17 h17=>?_)
 have hk:=hk.next h17
 have hB:=hB.next h17
 clear h17
 have hk:=hk.drew
 iterate 2 (any_goals ((with_reducible refine oG fun X Y=>?_); simp [go_sem]; apply Y; clear Y X))
 refine ⟨Nx { w17 with drawn:=w17.drawn + 1 },bR,rfl,?_⟩
 have hB:=hB.next (.drawn (B:=w17.heap.size))
 generalize ({ w17 with drawn:=w17.drawn + 1 }:World) = W18 at hk hB ⊢
 repeat (any_goals ((with_reducible refine idOH ?_); (with_reducible refine oH_of ⟨_,rfl⟩ (fun W0 hW0=>by (refine oG (fun X Y=>?_)); simp [go_sem,(hk.next hW0).cells,(hB.next hW0).are]; (first | exact Y _ _ ⟨rfl,rfl⟩ | exact ⟨by omega,Y _ _ ⟨rfl,rfl⟩⟩)) ?_)))
 refine ⟨Nx,?_⟩
 apply monoE
 ·intro w1 h1
  exact Mark_ok s (hs.next (hk.next h1).below) (hh.attrs.next (hk.next h1).below) (fun w2 h2=>⟨h1.on h2,h2,rfl⟩)
 rintro w19 h19 _ rfl
 have hk:=hk.next h19
 clear h19 hB
 refine Power_ok s.g _ _ (fun w20 h20=>?_)
 have hk:=hk.next h20
 clear h20
 repeat (any_goals ((with_reducible refine oG fun X Y=>?_); simp [go_sem,hk.cells]; apply Y; clear Y X))
 refine Formed_ok s h.t (wtkt_R hh.wf.t) (hs.next hk.below) (fun w21 h21=>?_)
 have hk:=hk.next h21
 clear h21
 cases hfm:formedM s h.t with
 | false=>
  repeat (any_goals (with_reducible first|refine zB ?_|refine yC ?_))
  exact k2 _ _ (by rw [hfm]; simp) hk.below
 | true=>
 repeat (any_goals (first
 | (with_reducible first|refine pureM_in ?_|((refine idGd ?_); first|refine zA ?_|((refine idGdD ?_); first|refine zF ?_|refine zG ?_|refine zH (fun hg=>?_) fun hg=>?_))|((refine idPick ?_); first|refine yB ?_|refine yD ?_|refine yE ?_))
 | ((with_reducible refine oG fun X Y=>?_); simp [go_sem,hk.cells]; apply Y; clear Y X)))
 ·refine k2 _ _ ?_ hk.below
  have hp:((h.attrs.length:Int) = (s.bases.length:Int) - 1):=by omega
  rw [hv,ht,hf,hr1,hr2,hr3,hfm,e0,decide_eq_true hp,decide_eq_true (by omega:(0:Int) ≤ h.limit),decide_eq_true (by omega:h.limit < (lims.length:Int)),decide_eq_true (by omega:h.attrs.length ≠ 0),decide_eq_true (by omega:(1:Int) ≤ h.attrs[0]),decide_eq_true (by omega:h.bl.ys.length = s.bases.length),decide_eq_true (by omega:h.bl.s ≠ 0),decide_eq_true (by omega:h.bl.u ≠ 0),decide_eq_true hg]
  rfl
 ·exact k2 _ _ (by rw [decide_eq_false hg]; simp) hk.below
theorem add_str {T:TypeId} (a b:Bytes) (h:a.length + b.length < 2 ^ 60) (k:K (.string ⟨(a ++ b).toArray⟩) w):oM Tryz.prog (Go.Op.binOp Go.BinOp.add 9 (.tmp 0) (.tmp 1) 9) T [.string ⟨a.toArray⟩,.string ⟨b.toArray⟩] K w:=by
 repeat (any_goals ((with_reducible refine oG fun X Y=>?_); simp [go_sem]; refine And.intro (by omega) (Y _ _ ?_); clear Y X))
 exact k
theorem rowOf_ints {v:Value} {l:List Int} (h:Ints w v l):Cd.RowOf Cd.intV w v l:=by
 obtain ⟨⟨ad,c,rfl,_,hr⟩,_,_⟩:=h
 refine ⟨ad,c,rfl,?_⟩
 rcases hr with rfl | ⟨b,o,rfl,hlt,hc⟩
 ·exact .inl rfl
 ·refine .inr ⟨b,o,rfl,hlt,fun i hi=>hc i _ ?_⟩
  rw [flat_int,List.getElem?_map,gE hi]
  rfl
theorem srow_cells {g c:Nat} {T:TypeId} {xs:List Value} {ls:L2} (hH:Holds w g T xs) (hl:ls.length < 1000) (h:∀ i (hi:i < ls.length),∃ v,xs[i]? = some v ∧ Ints w v ls[i]):SRow 1 (AtOf 1 (VOne Ints)) w (.slice (some ⟨g,0,none⟩) ls.length c) ls:=by
 refine ⟨⟨_,_,rfl,.inr ⟨g,0,rfl,hH.lt,fun i hi=>?_⟩⟩,by omega⟩
 obtain ⟨v,hv,hi2⟩:=h i hi
 refine ⟨[v],rfl,fun j u hj=>?_,v,rfl,hi2⟩
 obtain ⟨hj1,rfl⟩:=gS hj
 have hj0:j = 0:=by simpa using hj1
 subst hj0
 obtain ⟨hx,hx2⟩:=gS hv
 have:=hH.cell i hx
 rw [hx2] at this
 simpa using this
theorem mk5s {T:TypeId} {a1 a2 a3 a4 a5:Option Addr} {n1 n2 n3 n4 n5 c1 c2 c3 c4 c5:Nat} {l1 l2 l3 l4 l5:List Int} (h1:Ints w (.slice a1 n1 c1) l1) (h2:Ints w (.slice a2 n2 c2) l2) (h3:Ints w (.slice a3 n3 c3) l3) (h4:Ints w (.slice a4 n4 c4) l4) (h5:Ints w (.slice a5 n5 c5) l5)
  (k:∀ v W,Bw w W → SRow 1 (AtOf 1 (VOne Ints)) W v [l1,l2,l3,l4,l5] → K v W) :
  oM Tryz.prog (.buildSlice 124 5 #[(0,.tmp 0),(1,.tmp 1),(2,.tmp 2),(3,.tmp 3),(4,.tmp 4)]) T [.slice a1 n1 c1,.slice a2 n2 c2,.slice a3 n3 c3,.slice a4 n4 c4,.slice a5 n5 c5] K w:=by
 rw [rM_of (S:=Instr.buildSlice 124 5 #[(0,.slice a1 n1 c1),(1,.slice a2 n2 c2),(2,.slice a3 n3 c3),(3,.slice a4 n4 c4),(4,.slice a5 n5 c5)]) (by simp [xop,execOp,evalL,evE])]
 refine lit_run (e:=22) (n:=5) (xs:=[.slice a1 n1 c1,.slice a2 n2 c2,.slice a3 n3 c3,.slice a4 n4 c4,.slice a5 n5 c5]) (by kernel_rfl) (fun g W h _ hH=>k _ W h ?_)
 refine srow_cells (ls:=[l1,l2,l3,l4,l5]) hH (by simp) (fun i hi=>?_)
 match i,hi with
 | 0,_=>exact ⟨_,rfl,h1.next h⟩
 | 1,_=>exact ⟨_,rfl,h2.next h⟩
 | 2,_=>exact ⟨_,rfl,h3.next h⟩
 | 3,_=>exact ⟨_,rfl,h4.next h⟩
 | 4,_=>exact ⟨_,rfl,h5.next h⟩
@[go_sem] theorem idx_rows (T:TypeId) (b o n c:Nat) (x:Int):oM Tryz.prog (.indexAddr 124 (.tmp 0) (.tmp 1)) T [.slice (some ⟨b,o,none⟩) n c,.int .i64 x] = onM (0 ≤ x ∧ x < n) (.pointer (some ⟨b,o + x.toNat * 1,none⟩)):=
 idx_row (K:=fun _ _=>True) (P:=Tryz.prog) (n:=1) 124 T (by kernel_rfl) (fun w=>by kernel_rfl) b o n c x
@[reducible] def rowsH (h:Hld):L2:=[[h.limit,h.window],h.attrs,[h.bl.s,h.bl.u,h.bl.v],h.bl.ys,tktL h.t]
theorem heldE_eq (h:Hld):heldE h = ((rowsH h).map encNums).flatten ++ encNum h.links.length ++ (h.links.map lnkE).flatten:=by
 simp [heldE,rowsH,List.append_assoc]
def EnJ (h:Hld) (w0:World) (vs:List Value) (W:World):Prop:=∃ (u:Value) (i:Nat),vs = [u,.string ⟨(((rowsH h).take i).map encNums).flatten.toArray⟩,.int .i64 (i:Int)] ∧ i ≤ 5 ∧ Nx w0 W
theorem rows_inR {h:Hld} (hw:WHld h) {i:Nat} (hi:i < 5):∀ x ∈ (rowsH h)[i],InR x:=by
 match i,hi with
 | 0,_=>intro x hx; simp only [rowsH,List.getElem_cons_zero,List.mem_cons,List.not_mem_nil,or_false] at hx; rcases hx with rfl | rfl; exact hw.limit; exact hw.window
 | 1,_=>exact hw.attrs
 | 2,_=>intro x hx; simp only [rowsH,List.getElem_cons_zero,List.getElem_cons_succ,List.mem_cons,List.not_mem_nil,or_false] at hx; rcases hx with rfl | rfl | rfl; exact hw.s; exact hw.u; exact hw.v
 | 3,_=>exact hw.ys
 | 4,_=>exact hw.t.all
def EmJ (P:Bytes) (l:List Lnk) (w0:World) (vs:List Value) (W:World):Prop:=∃ (i:Nat),vs = [.string ⟨(P ++ ((l.take i).map lnkE).flatten).toArray⟩,.int .i64 (i:Int)] ∧ i ≤ l.length ∧ Nx w0 W
theorem EncodeH_ok (h:Hld) {av yv kv:Value} (hh:HldR w h av yv kv) (hsz:(heldE h).length < 2 ^ 39) (hl:Cd.LaidE w) (k:∀ w',Bw w w' → K (.string ⟨(heldE h).toArray⟩) w'):callM Tryz.prog 15 #[hldV h av yv kv] K w:=by
 apply sh_15_ok
 unfold sh_15
 obtain ⟨a1,c1,rfl⟩:=hh.attrs.isSlice
 obtain ⟨a2,c2,rfl⟩:=hh.ys.isSlice
 obtain ⟨a3,c3,rfl⟩:=hh.links.isSlice
 refine box_kn (cs:=hldC h (.slice a1 h.attrs.length c1) (.slice a2 h.bl.ys.length c2) (.slice a3 h.links.length c3)) rfl (.start w) fun b W hk hb1 hb=>?_
 have hoff:=cells_lt hk.cells
 have hwW:=hk.below.size
 repeat (any_goals (first
 | ((with_reducible refine arr_alloc al_bld ?_); intro g2 w2 h2 hg2 hB)
 | ((with_reducible refine oG fun X Y=>?_); simp [go_sem,hk.cells]; apply Y; clear Y X)))
 have hk:=hk.next h2
 refine arr_store sz_bld (xs:=bldC h.bl (.slice a2 h.bl.ys.length c2)) rfl rfl (bld_one _ _ _ _) hB rfl (fun w3 hg3 hB=>?_)
 have hk:=(hk.wrote hg3 (by omega) (fun p hp=>by have:=hoff p hp; omega)).drew
 clear hoff hwW h2 hg2 hg3 hb1 hb
 refine ⟨Nx { w3 with drawn:=w3.drawn + 1 },bR,rfl,?_⟩
 have hB:=hB.next (.drawn (B:=w3.heap.size))
 generalize ({ w3 with drawn:=w3.drawn + 1 }:World) = W4 at hk hB ⊢
 repeat (any_goals (first
 | (with_reducible refine pX ?_)
 | ((with_reducible refine idOH ?_); (with_reducible refine oH_of ⟨_,rfl⟩ (fun W0 hW0=>by (refine oG (fun X Y=>?_)); simp [go_sem,(hk.next hW0).cells,(hB.next hW0).are]; (first | exact Y _ _ ⟨rfl,rfl⟩ | exact ⟨by omega,Y _ _ ⟨rfl,rfl⟩⟩)) ?_))))
 repeat (apply monoE; focus (intro w9 h9; (repeat (intro v9 e9; try (obtain rfl:=e9))); (skip); exact ⟨h9,bR,rfl⟩))
 refine ⟨Nx,?_⟩
 refine monoR (fun v w'=>Ints w' v [h.limit,h.window]) (fun v w w1 hS h=>h.next hS) ?_ ?_
 ·intro w1 h1
  exact mk2 _ _ (inR_I64 hh.wf.limit) (inR_I64 hh.wf.window) (fun v w2 h2 hi=>⟨h1.on h2,h2,hi⟩)
 refine monoR (fun v w'=>Ints w' v [h.bl.s,h.bl.u,h.bl.v]) (fun v w w1 hS h=>h.next hS) ?_ ?_
 ·intro w1 h1
  exact mk3i _ _ _ (inR_I64 hh.wf.s) (inR_I64 hh.wf.u) (inR_I64 hh.wf.v) (fun v w2 h2 hi=>⟨h1.on h2,h2,hi⟩)
 refine monoR (fun v w'=>Ints w' v (tktL h.t)) (fun v w w1 hS h=>h.next hS) ?_ ?_
 ·intro w1 h1
  exact numbers_ok h.t hh.wf.t (fun w2 v h2 hi=>⟨h1.on h2,h2,hi⟩)
 refine monoR (fun v w'=>SRow 1 (AtOf 1 (VOne Ints)) w' v (rowsH h)) (fun v w w1 hS h=>h.next (atOf_stay ints_stay) hS) ?_ ?_
 ·intro w1 h1 v1 i1 v2 i2 v3 i3
  obtain ⟨_,_,rfl⟩:=i1.isSlice
  obtain ⟨_,_,rfl⟩:=i2.isSlice
  obtain ⟨_,_,rfl⟩:=i3.isSlice
  exact mk5s i1 (hh.attrs.next (hk.next h1).below) i2 (hh.ys.next (hk.next h1).below) i3 (fun v w2 h2 hr=>⟨h1.on h2,h2,hr⟩)
 apply monoE
 ·intro w1 h1 v1 hr
  obtain ⟨_,_,rfl⟩:=hr.isSlice
  repeat (any_goals ((with_reducible refine oG fun X Y=>?_); simp [go_sem]; apply Y; clear Y X))
  exact ⟨h1,bR,rfl⟩
 rintro w5 h5 v1 - v2 - v3 - v4 hr _ rfl
 have hk:=hk.next h5
 clear h5 hB
 refine ⟨EnJ h w5,vsMu 5,⟨_,0,rfl,by omega,bR⟩,?_⟩
 rintro _ _ w6 ⟨u,i,rfl,hi,h6⟩
 have hk:=hk.next h6
 have hfl:=fun k hk=>Cd.flat_snoc encNums (rowsH h) k hk
 have hle:=fun k=>Cd.flat_le encNums (rowsH h) k
 have hE:=congrArg List.length (heldE_eq h)
 simp only [List.length_append] at hE
 have hr6:=hr.next (atOf_stay ints_stay) h6
 by_cases hin:i = 5
 ·subst hin
  have e5:(rowsH h).take 5 = rowsH h:=rfl
  rw [e5]
  repeat (any_goals (first
  | (with_reducible refine yM ?_)
  | ((with_reducible refine oG fun X Y=>?_); simp [go_sem,hk.cells]; apply Y; clear Y X)))
  have hln:=hh.links.len
  refine Cd.pNum_ok _ ⟨by omega,by omega⟩ (hl.below hk.below hl.size).toLaid (fun w7 h7=>?_)
  have hk:=hk.next h7
  refine add_str _ _ (by omega) ?_
  repeat (any_goals ((with_reducible refine oG fun X Y=>?_); simp [go_sem,hk.cells]; apply Y; clear Y X))
  have hk0:=hk
  generalize hP:(((rowsH h).map encNums).flatten ++ encNum h.links.length) = P
  rw [heldE_eq,hP] at k
  refine ⟨EmJ P h.links w7,(fun vs _=>match vs with | [_,.int _ i]=>h.links.length - i.toNat | _=>0),⟨0,by simp,by omega,bR⟩,?_⟩
  have hPl:P.length + (h.links.map lnkE).flatten.length < 2 ^ 39:=by
   have:=congrArg List.length hP
   simp only [List.length_append] at this
   omega
  rintro _ _ w8 ⟨i,rfl,hi,h8⟩
  have hk:=hk.next h8
  by_cases hin:i = h.links.length
  ·subst hin
   rw [List.take_length]
   repeat (any_goals (first
   | (with_reducible refine yM ?_)
   | ((with_reducible refine oG fun X Y=>?_); simp [go_sem,hk.cells]; apply Y; clear Y X)))
   exact k _ hk.below
  have hil:i < h.links.length:=by omega
  have hiZ:(i:Int) < h.links.length:=by omega
  obtain ⟨b1,o1,rfl,hb1,cs,hcl,hcc,av,rfl,hans,hwf⟩:=(hh.links.next (atOf_stay lnk_vstay) hk.below).at (i:=i) hil
  have hfl:=Cd.flat_snoc lnkE h.links i hil
  have hle:=Cd.flat_le lnkE h.links (i + 1)
  repeat (any_goals (first
  | (with_reducible refine yL ?_)
  | ((with_reducible refine oG fun X Y=>?_); simp [go_sem,hiZ]; apply Y; clear Y X)))
  refine row_load hcc un_lnk (by kernel_rfl) (by rw [hcl]; kernel_rfl) ?_
  obtain ⟨a5,c5,rfl⟩:=hans.isSlice
  refine arr_alloc al_lnk (fun g9 w9 h9 hg9 hB=>?_)
  have hk:=hk.next h9
  refine arr_store sz_lnk (xs:=lkC h.links[i] (.slice a5 h.links[i].spend.answers.length c5)) rfl rfl (lnk_one _ _ _ _) hB rfl (fun w10 hg10 hB=>?_)
  have h8x:Bw w8 w10:=grown_below h9 hg10 hg9
  have hx10:=hans.next h8x
  have hl10:Cd.LaidE w10:=hl.below ((hk0.next h8).next h8x).below hl.size
  have hx10:=hx10.next (.drawn (B:=w10.heap.size))
  have hB:=hB.next (.drawn (B:=w10.heap.size))
  have hl10:=hl10.below (.drawn (B:=w10.heap.size)) (hl10.size)
  have h8x:=h8x.on (.drawn (B:=w10.heap.size))
  refine ⟨Nx { w10 with drawn:=w10.drawn + 1 },bR,rfl,?_⟩
  generalize ({ w10 with drawn:=w10.drawn + 1 }:World) = W11 at hx10 hB hl10 h8x ⊢
  generalize h.links[i] = x at *
  repeat (any_goals (first
  | (with_reducible refine pX ?_)
  | ((with_reducible refine idOH ?_); (with_reducible refine oH_of ⟨_,rfl⟩ (fun W0 hW0=>by (refine oG (fun X Y=>?_)); simp [go_sem,(hB.next hW0).are]; (first | exact Y _ _ ⟨rfl,rfl⟩ | exact ⟨by omega,Y _ _ ⟨rfl,rfl⟩⟩)) ?_))))
  have hX:(lnkE x).length = (encNums (tktL x.ticket)).length + (encInt x.spend.dare).length + (encNums x.spend.answers).length + (encText x.terms).length:=by simp only [lnkE,List.length_append]
  rw [hfl,List.length_append] at hle
  have hlC:∀ w1,Nx W11 w1 → Cd.Laid w1:=fun w1 h1=>(hl10.below h1 hl10.size).toLaid
  refine ⟨Nx,?_⟩
  refine monoR (fun v w'=>Ints w' v (tktL x.ticket)) (fun v w w1 hS h=>h.next hS) ?_ ?_
  ·intro w1 h1
   exact numbers_ok _ hwf.t (fun w2 v h2 hi=>⟨h1.on h2,h2,hi⟩)
  apply monoE
  ·intro w1 h1 v1 hi1
   exact Cd.pNums_ok _ v1 (hlC w1 h1) (rowOf_ints hi1) hwf.t.all (by show (encNums _).length < _; omega) (fun w2 h2=>⟨h1.on h2,h2,rfl⟩)
  apply monoE
  ·intro w1 h1
   exact Cd.pInt_ok _ hwf.dare (hlC w1 h1) (fun w2 h2=>⟨h1.on h2,h2,rfl⟩)
  apply monoE
  ·rintro w1 h1 _ rfl _ rfl
   exact add_str _ _ (by show (encNums _).length + _ < _; omega) ⟨h1,bR,rfl⟩
  apply monoE
  ·intro w1 h1
   exact Cd.pNums_ok _ _ (hlC w1 h1) (rowOf_ints (hx10.next h1)) hwf.ans (by show (encNums _).length < _; omega) (fun w2 h2=>⟨h1.on h2,h2,rfl⟩)
  apply monoE
  ·rintro w1 h1 _ rfl _ rfl
   exact add_str _ _ (by simp only [List.length_append]; show (encNums _).length + _ + (encNums _).length < _; omega) ⟨h1,bR,rfl⟩
  apply monoE
  ·intro w1 h1
   exact Cd.pText_ok _ (by have:x.terms.length ≤ (encText x.terms).length:=(by simp [encText]; omega); omega) (hlC w1 h1) (fun w2 h2=>⟨h1.on h2,h2,rfl⟩)
  apply monoE
  ·rintro w1 h1 _ rfl _ rfl
   exact add_str _ _ (by simp only [List.length_append]; show (encNums _).length + _ + (encNums _).length + _ < _; omega) ⟨h1,bR,rfl⟩
  rintro w12 h12 v1 - _ rfl _ rfl _ rfl _ rfl _ rfl _ rfl _ rfl
  refine add_str _ _ (by simp only [List.length_append]; show _ + _ + ((encNums _).length + _ + (encNums _).length + _) < _; omega) ?_
  repeat (any_goals ((with_reducible refine oG fun X Y=>?_); simp [go_sem]; (try simp (disch:=omega) only [wrapI64,wrapU8,wrapU32,wrapU64]); apply Y; clear Y X))
  exact ⟨⟨i + 1,by rw [hfl]; simp [lnkE,encNums,List.append_assoc],by omega,(h8.on h8x).on h12⟩,by show h.links.length - (((i + 1:Nat):Int)).toNat < h.links.length - ((i:Nat):Int).toNat; omega⟩
 ·have hi5:i < 5:=by omega
  have hiZ:(i:Int) < 5:=by omega
  obtain ⟨ad4,c4,rfl⟩:=hr6.isSlice
  obtain ⟨b1,o1,v5,rfl,hb1,hc1,hI⟩:=hr6.one (i:=i) hi5
  have hfl:=hfl i hi5
  have hle:=hle (i + 1)
  rw [hfl] at hle
  rw [List.length_append] at hle
  repeat (any_goals (first
  | (with_reducible refine yL ?_)
  | ((with_reducible refine oG fun X Y=>?_); simp [go_sem,hiZ,hc1]; apply Y; clear Y X)))
  refine Cd.pNums_ok _ v5 (hl.below hk.below hl.size).toLaid (rowOf_ints hI) (rows_inR hh.wf hi5) (by show (encNums _).length < _; omega) (fun w7 h7=>?_)
  refine add_str _ _ (by show _ + (encNums _).length < _; omega) ?_
  repeat (any_goals ((with_reducible refine oG fun X Y=>?_); simp [go_sem]; (try simp (disch:=omega) only [wrapI64,wrapU8,wrapU32,wrapU64]); apply Y; clear Y X))
  exact ⟨⟨v5,i + 1,by rw [hfl]; rfl,by omega,h6.on h7⟩,by show 5 - (((i + 1:Nat):Int)).toNat < 5 - ((i:Nat):Int).toNat; omega⟩
end
end Go.Proofs
namespace Go.Proofs
open Go.Sh Tryz
variable {a0 a1 a2 a3:Value} {K:VK} {w:World}
def sh_120 (a0:Value) (K:VK) (w:World):Prop:=
 oM prog (.binOp .eql 27 (.tmp 0) (.const (.slice none 0 0)) 27) 4 [a0] (fun v4=>
 kO v4 (K (.slice none 0 0))
 (oM prog (.buildSlice 27 0 #[]) 27 [] fun v5=>
 oM prog (.call (Go.Call.mk (.builtin .append) #[(.tmp 0),(.tmp 1)] #[27,27])) 27 [v5,a0] fun v7=>
 K v7)) w
theorem sh_120_ok (h:sh_120 a0 K w):callM prog 120 #[a0] K w:=
 cZ (fun _=>0) func120 h
def sh_71 (a0:Value) (K:VK) (w:World):Prop:=
 oM prog (.box 29 (.tmp 0)) 0 [a0] (fun v1=>
 kA 29 fun v2=>
 kH fun C_3 w=>(((true:Bool) = true) ∧ (jF 29 2 v1 C_3 fun v5=>
 jL 22 v5 C_3 fun v6=>
 jF 29 3 v1 C_3 fun v8=>
 jF 24 3 v8 C_3 fun v9=>
 jL 22 v9 C_3 fun v10=>
 jF 29 5 v1 C_3 fun v12=>
 jL 27 v12 C_3 fun v13=>
 ∃ S_11:World → WK,xR S_11 fun R_12=>
 (∀ w,C_3 w → (callM prog 81 #[v6] (xK C_3 S_11 R_12 w) w)) ∧
 (xR S_11 fun R_13=>
 (∀ w,C_3 w → (callM prog 81 #[v10] (xK C_3 S_11 R_13 w) w)) ∧
 (xR S_11 fun R_14=>
 (∀ w,C_3 w → (callM prog 120 #[v13] (xK C_3 S_11 R_14 w) w)) ∧
 (xR S_11 fun R_15=>
 (∀ w,C_3 w → (kF 29 2 v1 (xK C_3 S_11 R_15 w) w)) ∧
 (∀ w,C_3 w → ∀ v7,R_12 v7 w → ∀ v11,R_13 v11 w → ∀ v14,R_14 v14 w → ∀ v15,R_15 v15 w → (
 kS 22 v15 v7 (fun _=>
 kF 29 3 v1 fun v16=>
 kF 24 3 v16 fun v17=>
 kS 22 v17 v11 fun _=>
 kF 29 5 v1 fun v18=>
 kS 27 v18 v14 fun _=>
 kF 29 5 v1 fun v19=>
 kL 27 v19 fun v20=>
 kN 27 v20 fun v21=>
 kQ [undef,(.int .i64 0)] fun J_26 m_27 l_28 u_l_28 w0_l_28=>(fun w=>(
 kB .lss 3 0 (l_28.getD 1 undef) v21 (fun v23=>
 kO v23 (kI 27 v20 (l_28.getD 1 undef) fun v25=>
 kL 86 v25 fun v26=>
 kA 86 fun v4=>
 kS 86 v4 v26 fun _=>
 kH fun C_33 w=>(((true:Bool) = true) ∧ (jF 29 5 v1 C_33 fun v27=>
 jL 27 v27 C_33 fun v28=>
 pureH (l_28.getD 1 undef) C_33 fun v29=>
 jF 86 1 v4 C_33 fun v30=>
 jF 84 1 v30 C_33 fun v31=>
 jL 22 v31 C_33 fun v32=>
 ∃ S_40:World → WK,xR S_40 fun R_41=>
 (∀ w,C_33 w → (callM prog 81 #[v32] (xK C_33 S_40 R_41 w) w)) ∧
 (∀ w,C_33 w → ∀ v33,R_41 v33 w → (
 kI 27 v28 v29 (fun v34=>
 kF 86 1 v34 fun v35=>
 kF 84 1 v35 fun v36=>
 kS 22 v36 v33 fun _=>
 kB .add 3 3 (l_28.getD 1 undef) (.int .i64 1) fun v37=>
 kJ J_26 m_27 l_28 w0_l_28 [(l_28.getD 1 undef),v37]) w)))))
 (kL 29 v1 fun v38=>
 kS 29 v2 v38 fun _=>
 kR 29 v2 K)) w)) w0_l_28) w)))))))) w
theorem sh_71_ok (h:sh_71 a0 K w):callM prog 71 #[a0] K w:=
 cZ (mz [(1,.free [0,1,3,4,5,7,8] [2,6,9,10] [11,12,13,14,15,16]),(5,fz 6 1 4)]) func71 h
def sh_105 (a0 a1:Value) (K:VK) (w:World):Prop:=
 oM prog (.box 26 (.tmp 0)) 0 [a1] (fun v3=>
 oM prog (.nilCheck (.tmp 0)) 0 [a0] fun v6=>
 kF 133 2 v6 fun v7=>
 kL 59 v7 fun v8=>
 oM prog (.makeFunc (Go.Fn.func 155) #[] #[(.tmp 0)]) 201 [v3] fun v9=>
 callM prog 154 #[v8,v9] fun v10=>
 K v10) w
theorem sh_105_ok (h:sh_105 a0 a1 K w):callM prog 105 #[a0,a1] K w:=
 cZ (fun _=>0) func105 h
def sh_155 (a0 a1:Value) (K:VK) (w:World):Prop:=
 oM prog (.box 67 (.tmp 0)) 0 [a0] (fun v2=>
 kF 67 0 v2 fun v4=>
 kF 29 4 v4 fun v5=>
 kL 26 v5 fun v6=>
 kL 26 a1 fun v7=>
 callM prog 42 #[v6,v7] fun v8=>
 K v8) w
theorem sh_155_ok (h:sh_155 a0 a1 K w):callM prog 155 #[a0,a1] K w:=
 cZ (fun _=>0) func155 h
def sh_132 (a0 a1:Value) (K:VK) (w:World):Prop:=
 callM prog 14 #[a1] (fun v9=>
 kE 0 29 v9 fun v10=>
 kE 1 4 v9 fun v11=>
 kA 29 fun v5=>
 kS 29 v5 v10 fun _=>
 kH fun C_5 w=>(((true:Bool) = true) ∧ (pureH v11 C_5 fun v12=>
 jU v12 C_5 fun v13=>
 pureH v13 C_5 fun v14=>
 jG v14 (pureH a0) C_5 fun v15=>
 jG v14 (oH prog (.nilCheck (.tmp 0)) 0 [v15]) C_5 fun v16=>
 jG v14 (jF 133 2 v16) C_5 fun v17=>
 jG v14 (jL 59 v17) C_5 fun v18=>
 jG v14 (jN 59 v18) C_5 fun v19=>
 jG v14 (jB .geq 3 4 v19 (.int .i64 400)) C_5 fun v20=>
 jP v14 (.bool true) v20 C_5 fun v21=>
 pureH v21 C_5 fun v22=>
 jG v22 (pureH a0) C_5 fun v23=>
 jG v22 (oH prog (.nilCheck (.tmp 0)) 0 [v23]) C_5 fun v24=>
 jG v22 (jF 133 0 v24) C_5 fun v25=>
 jG v22 (jL 50 v25) C_5 fun v26=>
 jG v22 (pureH a0) C_5 fun v27=>
 jG v22 (oH prog (.nilCheck (.tmp 0)) 0 [v27]) C_5 fun v28=>
 jG v22 (jF 133 1 v28) C_5 fun v29=>
 jG v22 (jL 51 v29) C_5 fun v30=>
 jG v22 (jL 29 v5) C_5 fun v31=>
 ∃ S_26:World → WK,xR S_26 fun R_27=>
 (∀ w,C_5 w → (gF v22 (callM prog 99 #[v26,v30,v31]) (xK C_5 S_26 R_27 w) w)) ∧
 (xR S_26 fun R_28=>
 (∀ w,C_5 w → ∀ v32,R_27 v32 w → (gF v22 (kU v32) (xK C_5 S_26 R_28 w) w)) ∧
 (xR S_26 fun R_30=>
 (∀ w,C_5 w → ∀ v33,R_28 v33 w → (kP v22 (.bool true) v33 (xK C_5 S_26 R_30 w) w)) ∧
 (xR S_26 fun R_32=>
 (∀ w,C_5 w → ∀ v34,R_30 v34 w → (C_5 w ∧ S_26 w w ∧ R_32 v34 w)) ∧
 (xR S_26 fun R_34=>
 (∀ w,C_5 w → ∀ v35,R_32 v35 w → (gF v35 (pureM a0) (xK C_5 S_26 R_34 w) w)) ∧
 (xR S_26 fun R_36=>
 (∀ w,C_5 w → ∀ v35,R_32 v35 w → (gF v35 (kF 29 4 v5) (xK C_5 S_26 R_36 w) w)) ∧
 (xR S_26 fun R_38=>
 (∀ w,C_5 w → ∀ v35,R_32 v35 w → ∀ v37,R_36 v37 w → (gF v35 (kL 26 v37) (xK C_5 S_26 R_38 w) w)) ∧
 (∀ w,C_5 w → ∀ v32,R_27 v32 w → ∀ v33,R_28 v33 w → ∀ v34,R_30 v34 w → ∀ v35,R_32 v35 w → ∀ v36,R_34 v36 w → ∀ v37,R_36 v37 w → ∀ v38,R_38 v38 w → (
 gF v35 (callM prog 105 #[v36,v38]) (fun v39=>
 kP v35 (.bool true) v39 fun v40 w=>
 condM v40
 (K (.bool false) w)
 (stageM w fun C_50 w=>(pureH a0 (upto C_50 3) fun v41=>
 pureH a0 (upto C_50 2) fun v42=>
 oH prog (.nilCheck (.tmp 0)) 0 [v42] (upto C_50 2) fun v43=>
 jF 133 2 v43 (upto C_50 2) fun v44=>
 jL 59 v44 (upto C_50 2) fun v45=>
 jL 29 v5 (upto C_50 0) fun v46=>
 oM prog (.build 67 #[(0,(.tmp 0))]) 67 [v46] (fun v47 w=>C_50 1 w ∧ (
 oM prog (.buildSlice 59 1 #[(0,(.tmp 0))]) 59 [v47] (fun v48 w=>C_50 2 w ∧ (
 oM prog (.call (Go.Call.mk (.builtin .append) #[(.tmp 0),(.tmp 1)] #[59,59])) 59 [v45,v48] (fun v49 w=>C_50 3 w ∧ (
 oM prog (.nilCheck (.tmp 0)) 0 [v41] (fun v50 w=>C_50 4 w ∧ (
 kF 133 2 v50 (fun v51 w=>C_50 5 w ∧ (
 kS 59 v51 v49 (fun _ w=>C_50 6 w ∧ (
 K (.bool true) w)) w)) w)) w)) w)) w)) w))) w))))))))))) w
theorem sh_132_ok (h:sh_132 a0 a1 K w):callM prog 132 #[a0,a1] K w:=
 cZ (mz [(2,fz 20 7 2),(4,3)]) func132 h
def sh_133 (a0 a1 a2 a3:Value) (K:VK) (w:World):Prop:=
 oM prog (.nilCheck (.tmp 0)) 0 [a1] (fun v10=>
 kF 67 1 v10 fun v11=>
 kL 3 v11 fun v12=>
 kC .neq 3 0 4 v12 fun v13 w=>
 gF v13 (pureM a3) (fun v15 w=>
 gF v13 (kB .lss 3 4 v15 (.int .i64 1)) (fun v16=>
 kP v13 (.bool true) v16 fun v17 w=>
 gF v17 (pureM a3) (fun v19 w=>
 gF v17 (pureM a0) (fun v20 w=>
 gF v17 (oM prog (.nilCheck (.tmp 0)) 0 [v20]) (fun v21 w=>
 gF v17 (kF 133 0 v21) (fun v22 w=>
 gF v17 (kF 50 0 v22) (fun v23 w=>
 gF v17 (kF 48 1 v23) (fun v24 w=>
 gF v17 (kL 3 v24) (fun v25 w=>
 gF v17 (kB .geq 3 4 v19 v25) (fun v26=>
 kP v17 (.bool true) v26 fun v27=>
 kO v27 (K (.bool false))
 (kC .eql 3 3 4 a2 fun v33=>
 oM prog (.nilCheck (.tmp 0)) 0 [a1] fun v34=>
 kF 67 1 v34 fun v35=>
 kS 3 v35 (.int .i64 1) fun _=>
 oM prog (.nilCheck (.tmp 0)) 0 [a1] fun v36=>
 kF 67 2 v36 fun v37=>
 kS 3 v37 a3 fun _=>
 oM prog (.nilCheck (.tmp 0)) 0 [a1] fun v38=>
 kF 67 3 v38 fun v39=>
 kS 4 v39 v33 fun _=>
 K (.bool true))) w) w) w) w) w) w) w) w) w) w) w
theorem sh_133_ok (h:sh_133 a0 a1 a2 a3 K w):callM prog 133 #[a0,a1,a2,a3] K w:=
 cZ (fun _=>0) func133 h
def sh_134 (a0 a1 a2 a3:Value) (K:VK) (w:World):Prop:=
 joinM (fun M_1=>(kC .eql 3 2 4 a2 (fun v11 w=>
 gT v11 (pureM a1) (fun v13 w=>
 gT v11 (oM prog (.nilCheck (.tmp 0)) 0 [v13]) (fun v14 w=>
 gT v11 (kF 67 1 v14) (fun v15 w=>
 gT v11 (kL 3 v15) (fun v16 w=>
 gT v11 (kC .eql 3 1 4 v16) (fun v17=>
 kP v11 v17 (.bool false) fun v18=>
 kO v18 (oM prog (.nilCheck (.tmp 0)) 0 [a1] fun v20=>
 kF 67 1 v20 fun v21=>
 kS 3 v21 (.int .i64 2) fun _=>
 M_1 [v18,undef,(.bool false)])
 (kC .eql 3 4 4 a2 fun v24 w=>
 gT v24 (pureM a1) (fun v26 w=>
 gT v24 (oM prog (.nilCheck (.tmp 0)) 0 [v26]) (fun v27 w=>
 gT v24 (kF 67 3 v27) (fun v28 w=>
 gT v24 (kL 4 v28) (fun v29=>
 kP v24 v29 (.bool false) fun v30 w=>
 gT v30 (pureM a1) (fun v32 w=>
 gT v30 (oM prog (.nilCheck (.tmp 0)) 0 [v32]) (fun v33 w=>
 gT v30 (kF 67 4 v33) (fun v34 w=>
 gT v30 (kL 4 v34) (fun v35 w=>
 gT v30 (kU v35) (fun v36=>
 kP v30 v36 (.bool false) fun v37=>
 kO v37 (oM prog (.nilCheck (.tmp 0)) 0 [a1] fun v39=>
 kF 67 4 v39 fun v40=>
 kS 4 v40 (.bool true) fun _=>
 M_1 [v18,v37,(.bool false)])
 (K (.bool false))) w) w) w) w) w) w) w) w) w)) w) w) w) w) w) w))
 fun l_2 u_l_2 w=>(K (.bool true) w)
theorem sh_134_ok (h:sh_134 a0 a1 a2 a3 K w):callM prog 134 #[a0,a1,a2,a3] K w:=
 cZ (fun _=>0) func134 h
def sh_84 (a0 a1:Value) (K:VK) (w:World):Prop:=
 callM prog 62 #[(.int .i64 0)] (fun v13=>
 callM prog 131 #[a1,v13] fun v14=>
 kE 0 9 v14 fun v15=>
 kE 1 4 v14 fun v16=>
 kO v16 (callM prog 132 #[a0,v15] fun v20=>
 K v20)
 (callM prog 57 #[a1] fun v22=>
 callM prog 109 #[v22] fun v24=>
 kH fun C_8 w=>(pureH v22 C_8 fun v25=>
 callM prog 59 #[v25] (fun v26 w=>C_8 w ∧ (
 jU v26 C_8 fun v27=>
 pureH v27 C_8 fun v28=>
 jG v28 (pureH v24) C_8 fun v29=>
 jG v28 (jN 22 v29) C_8 fun v30=>
 jG v28 (jB .lss 3 4 v30 (.int .i64 2)) C_8 fun v31=>
 jP v28 (.bool true) v31 C_8 fun v32=>
 pureH v32 C_8 fun v33=>
 jG v33 (pureH v24) C_8 fun v34=>
 jG v33 (jI 22 v34 (.int .i64 1)) C_8 fun v35=>
 jG v33 (jL 3 v35) C_8 fun v36=>
 jG v33 (jB .lss 3 4 v36 (.int .i64 0)) C_8 fun v37=>
 jP v33 (.bool true) v37 C_8 fun v38=>
 pureH v38 C_8 fun v39=>
 jG v39 (pureH v24) C_8 fun v40=>
 jG v39 (jI 22 v40 (.int .i64 1)) C_8 fun v41=>
 jG v39 (jL 3 v41) C_8 fun v42=>
 jG v39 (pureH a0) C_8 fun v43=>
 jG v39 (oH prog (.nilCheck (.tmp 0)) 0 [v43]) C_8 fun v44=>
 jG v39 (jF 133 2 v44) C_8 fun v45=>
 jG v39 (jL 59 v45) C_8 fun v46=>
 jG v39 (jN 59 v46) C_8 fun v47=>
 jG v39 (jB .geq 3 4 v42 v47) C_8 fun v48=>
 jP v39 (.bool true) v48 C_8 fun v49=>
 condM v49
 (K (.bool false) w)
 (joinM (fun M_34=>(kI 22 v24 (.int .i64 0) (fun v51=>
 kL 3 v51 fun v52 w=>
 joinM (fun M_38=>(kC .eql 3 1 4 v52 (fun v54=>
 kO v54 (M_38 [v54])
 (kC .eql 3 3 4 v52 fun v55=>
 M_38 [v55])) w))
 fun l_39 u_l_39 w=>(condM (l_39.getD 0 undef)
 (oM prog (.makeFunc (Go.Fn.func 133) #[(.tmp 0)] #[]) 216 [a0] (fun v57=>
 M_34 [(l_39.getD 0 undef),v57,(.int .i64 3),undef,(.bool false)]) w)
 (joinM (fun M_43=>(kC .eql 3 2 4 v52 (fun v59=>
 kO v59 (M_43 [v59])
 (kC .eql 3 4 4 v52 fun v60=>
 M_43 [v60])) w))
 fun l_44 u_l_44 w=>(kO (l_44.getD 0 undef) (oM prog (.makeFunc (Go.Fn.func 134) #[(.tmp 0)] #[]) 216 [a0] fun v62=>
 M_34 [(l_39.getD 0 undef),v62,(.int .i64 2),(l_44.getD 0 undef),(.bool false)])
 (K (.bool false)) w)))) w))
 fun l_35 u_l_35 w=>(kH (fun C_48 w=>(((true:Bool) = true) ∧ (pureH v24 C_48 fun v63=>
 jN 22 v63 C_48 fun v64=>
 pureH (l_35.getD 2 undef) C_48 fun v65=>
 jB .eql 3 4 v64 v65 C_48 fun v66=>
 pureH v66 C_48 fun v67=>
 jT v67 (pureH (l_35.getD 1 undef)) C_48 fun v68=>
 jT v67 (pureH a0) C_48 fun v69=>
 jT v67 (oH prog (.nilCheck (.tmp 0)) 0 [v69]) C_48 fun v70=>
 jT v67 (jF 133 2 v70) C_48 fun v71=>
 jT v67 (jL 59 v71) C_48 fun v72=>
 jT v67 (pureH v24) C_48 fun v73=>
 jT v67 (jI 22 v73 (.int .i64 1)) C_48 fun v74=>
 jT v67 (jL 3 v74) C_48 fun v75=>
 jT v67 (jI 59 v72 v75) C_48 fun v76=>
 jT v67 (pureH v24) C_48 fun v77=>
 jT v67 (jI 22 v77 (.int .i64 0)) C_48 fun v78=>
 jT v67 (jL 3 v78) C_48 fun v79=>
 jT v67 (pureH v24) C_48 fun v80=>
 jT v67 (pureH (l_35.getD 2 undef)) C_48 fun v81=>
 jT v67 (jB .sub 3 3 v81 (.int .i64 1)) C_48 fun v82=>
 jT v67 (jI 22 v80 v82) C_48 fun v83=>
 jT v67 (jL 3 v83) C_48 fun v84=>
 ∃ S_71:World → WK,∀ w,C_48 w → (
 gT v67 (oM prog (.call (Go.Call.mk (.value (.tmp 0)) #[(.tmp 1),(.tmp 2),(.tmp 3)] #[187,3,3])) 4 [v68,v76,v79,v84]) (fun v85=>
 kP v67 v85 (.bool false) fun v86=>
 K v86) w)))) w)))) w))) w
theorem sh_84_ok (h:sh_84 a0 a1 K w):callM prog 84 #[a0,a1] K w:=
 cZ (mz [(6,.tree (.look 0 (.only 1 (.look 2 (.look 3 (.look 4 (.look 5 (.look 6 (.look 7 (.look 8 (.look 9 (.look 10 (.look 11 (.look 12 (.look 13 (.look 14 (.look 15 (.look 16 (.look 17 (.look 18 (.look 19 (.look 20 (.look 21 (.look 22 (.look 23 (.look 24 (.done))))))))))))))))))))))))))),(18,fz 22 0 3)]) func84 h
def sh_79 (a0:Value) (K:VK) (w:World):Prop:=
 oM prog (.box 41 (.tmp 0)) 0 [a0] (fun v1=>
 kL 41 v1 fun v3=>
 callM prog 19 #[v3] fun v4=>
 kU v4 fun v5=>
 K v5) w
theorem sh_79_ok (h:sh_79 a0 K w):callM prog 79 #[a0] K w:=
 cZ (fun _=>0) func79 h
def sh_82 (a0:Value) (K:VK) (w:World):Prop:=
 oM prog (.binOp .eql 51 (.tmp 0) (.const (.slice none 0 0)) 51) 4 [a0] (fun v4=>
 kO v4 (K (.slice none 0 0))
 (oM prog (.buildSlice 51 0 #[]) 51 [] fun v5=>
 oM prog (.call (Go.Call.mk (.builtin .append) #[(.tmp 0),(.tmp 1)] #[51,51])) 51 [v5,a0] fun v7=>
 K v7)) w
theorem sh_82_ok (h:sh_82 a0 K w):callM prog 82 #[a0] K w:=
 cZ (fun _=>0) func82 h
def sh_34 (a0 a1 a2:Value) (K:VK) (w:World):Prop:=
 oM prog (.box 50 (.tmp 0)) 0 [a1] (fun v4=>
 kL 50 v4 fun v14=>
 callM prog 77 #[v14] fun v15=>
 kU v15 fun v16 w=>
 gF v16 (pureM a2) (fun v18 w=>
 gF v16 (kN 51 v18) (fun v19 w=>
 gF v16 (kC .eql 3 0 4 v19) (fun v20=>
 kP v16 (.bool true) v20 fun v21 w=>
 gF v21 (pureM a2) (fun v23 w=>
 gF v21 (kN 51 v23) (fun v24 w=>
 gF v21 (kB .gtr 3 4 v24 (.int .i64 16)) (fun v25=>
 kP v21 (.bool true) v25 fun v26 w=>
 gF v26 (pureM a2) (fun v28 w=>
 gF v26 (callM prog 78 #[v28,(.func (.func 79) #[] #[])]) (fun v29=>
 kP v26 (.bool true) v29 fun v30=>
 kO v30 (K (.tuple #[(.pointer none),(.int .i64 1)]))
 (callM prog 80 #[a0,(.int .i64 0)] fun v33=>
 kE 0 134 v33 fun v34=>
 kE 1 62 v33 fun v35=>
 kC .neq 62 0 4 v35 fun v37=>
 kO v37 (K (.tuple #[(.pointer none),v35]))
 (kF 50 1 v4 fun v39=>
 kL 22 v39 fun v40=>
 callM prog 81 #[v40] fun v41=>
 kF 50 1 v4 fun v42=>
 kS 22 v42 v41 fun _=>
 kH fun C_24 w=>(((true:Bool) = true) ∧ (jL 50 v4 C_24 fun v43=>
 pureH a2 C_24 fun v44=>
 pureH v34 C_24 fun v47=>
 ∃ S_28:World → WK,xR S_28 fun R_29=>
 (∀ w,C_24 w → (callM prog 82 #[v44] (xK C_24 S_28 R_29 w) w)) ∧
 (xR S_28 fun R_30=>
 (∀ w,C_24 w → ∀ v45,R_29 v45 w → (oM prog (.build 133 #[(0,(.tmp 0)),(1,(.tmp 1))]) 133 [v43,v45] (xK C_24 S_28 R_30 w) w)) ∧
 (∀ w,C_24 w → ∀ v45,R_29 v45 w → ∀ v46,R_30 v46 w → (
 oM prog (.build 136 #[(0,(.tmp 0)),(1,(.tmp 1))]) 136 [v46,v47] (fun v48=>
 oM prog (.box 136 (.tmp 0)) 56 [v48] fun v49=>
 callM prog 83 #[v34] fun v51=>
 kN 157 v51 fun v52=>
 kQ [undef,(.pointer none),(.int .i64 0),(.int .i64 0)] fun J_38 m_39 l_40 u_l_40 w0_l_40=>(fun w=>(
 kB .lss 3 0 (l_40.getD 3 undef) v52 (fun v54=>
 kO v54 (kI 157 v51 (l_40.getD 3 undef) fun v55=>
 kL 9 v55 fun v56=>
 oM prog (.nilCheck (.tmp 0)) 0 [v49] fun v58=>
 kF 136 0 v58 fun v59=>
 callM prog 84 #[v59,v56] fun v61=>
 kU v61 fun v62=>
 kO v62 (K (.tuple #[(.pointer none),(.int .i64 2)]))
 (kB .add 3 3 (l_40.getD 3 undef) (.int .i64 1) fun v63=>
 kJ J_38 m_39 l_40 w0_l_40 [v56,(l_40.getD 1 undef),(l_40.getD 2 undef),v63]))
 (oM prog (.nilCheck (.tmp 0)) 0 [v49] fun v65=>
 kF 136 0 v65 fun v66=>
 kF 133 2 v66 fun v67=>
 kL 59 v67 fun v68=>
 kN 59 v68 fun v69=>
 kQ [undef,(.int .i64 0)] fun J_54 m_55 l_56 u_l_56 w0_l_56=>(fun w=>(
 kB .lss 3 0 (l_56.getD 1 undef) v69 (fun v71 w=>
 condM v71
 (joinM (fun M_58=>(oM prog (.nilCheck (.tmp 0)) 0 [v49] (fun v74=>
 kF 136 0 v74 fun v75=>
 kF 133 2 v75 fun v76=>
 kL 59 v76 fun v77=>
 kI 59 v77 (l_56.getD 1 undef) fun v79=>
 kF 67 1 v79 fun v80=>
 kL 3 v80 fun v81=>
 kC .eql 3 1 4 v81 fun v82=>
 kO v82 (oM prog (.nilCheck (.tmp 0)) 0 [v49] fun v84=>
 kF 136 0 v84 fun v85=>
 kF 133 2 v85 fun v86=>
 kL 59 v86 fun v87=>
 kI 59 v87 (l_56.getD 1 undef) fun v89=>
 kF 67 1 v89 fun v90=>
 kS 3 v90 (.int .i64 3) fun _=>
 M_58 [(l_56.getD 1 undef)])
 (M_58 [(l_56.getD 1 undef)])) w))
 fun l_59 u_l_59 w=>(kB .add 3 3 (l_56.getD 1 undef) (.int .i64 1) (fun v91=>
 kJ J_54 m_55 l_56 w0_l_56 [(l_59.getD 0 undef),v91]) w))
 (K (.tuple #[v49,(.int .i64 0)]) w)) w)) w0_l_56)) w)) w0_l_40) w)))))))) w) w) w) w) w) w) w) w) w
theorem sh_34_ok (h:sh_34 a0 a1 a2 K w):callM prog 34 #[a0,a1,a2] K w:=
 cZ (fun _=>.free [0,1,4] [2,3] [5,6,7]) func34 h
def sh_53 (a0 a1:Value) (K:VK) (w:World):Prop:=
 oM prog (.box 29 (.tmp 0)) 0 [a1] (fun v3=>
 kH fun C_2 w=>(((true:Bool) = true) ∧ (pureH a0 C_2 fun v7=>
 oH prog (.nilCheck (.tmp 0)) 0 [v7] C_2 fun v8=>
 jF 136 0 v8 C_2 fun v9=>
 jF 133 0 v9 C_2 fun v10=>
 jL 50 v10 C_2 fun v11=>
 pureH a0 C_2 fun v12=>
 oH prog (.nilCheck (.tmp 0)) 0 [v12] C_2 fun v13=>
 jF 136 0 v13 C_2 fun v14=>
 jF 133 1 v14 C_2 fun v15=>
 jL 51 v15 C_2 fun v16=>
 jL 29 v3 C_2 fun v17=>
 ∃ S_14:World → WK,∀ w,C_2 w → (
 callM prog 99 #[v11,v16,v17] (fun v18=>
 kU v18 fun v19=>
 kO v19 (K (.int .i64 1))
 (kH fun C_17 w=>(((true:Bool) = true) ∧ (pureH a0 C_17 fun v21=>
 oH prog (.nilCheck (.tmp 0)) 0 [v21] C_17 fun v22=>
 jF 136 0 v22 C_17 fun v23=>
 jF 29 4 v3 C_17 fun v24=>
 jL 26 v24 C_17 fun v25=>
 ∃ S_23:World → WK,∀ w,C_17 w → (
 callM prog 105 #[v23,v25] (fun v26=>
 kO v26 (K (.int .i64 5))
 (oM prog (.nilCheck (.tmp 0)) 0 [a0] fun v29=>
 kF 136 0 v29 fun v30=>
 kF 133 2 v30 fun v31=>
 kL 59 v31 fun v32=>
 kN 59 v32 fun v33=>
 kB .geq 3 4 v33 (.int .i64 400) fun v34=>
 kO v34 (K (.int .i64 6))
 (kH fun C_31 w=>(((true:Bool) = true) ∧ (pureH a0 C_31 fun v35=>
 oH prog (.nilCheck (.tmp 0)) 0 [v35] C_31 fun v36=>
 jF 136 1 v36 C_31 fun v37=>
 jL 134 v37 C_31 fun v38=>
 jL 29 v3 C_31 fun v40=>
 ∃ S_37:World → WK,xR S_37 fun R_38=>
 (∀ w,C_31 w → (callM prog 62 #[(.int .i64 0)] (xK C_31 S_37 R_38 w) w)) ∧
 (xR S_37 fun R_39=>
 (∀ w,C_31 w → (callM prog 15 #[v40] (xK C_31 S_37 R_39 w) w)) ∧
 (xR S_37 fun R_40=>
 (∀ w,C_31 w → ∀ v39,R_38 v39 w → ∀ v41,R_39 v41 w → (kB .add 9 9 v39 v41 (xK C_31 S_37 R_40 w) w)) ∧
 (∀ w,C_31 w → ∀ v39,R_38 v39 w → ∀ v41,R_39 v41 w → ∀ v42,R_40 v42 w → (
 callM prog 106 #[v38,v42] (fun v43=>
 kC .neq 62 0 4 v43 fun v45 w=>
 condM v45
 (K v43 w)
 (stageM w fun C_48 w=>(pureH a0 (upto C_48 4) fun v47=>
 pureH a0 (upto C_48 3) fun v48=>
 oH prog (.nilCheck (.tmp 0)) 0 [v48] (upto C_48 3) fun v49=>
 jF 136 0 v49 (upto C_48 3) fun v50=>
 jF 133 2 v50 (upto C_48 3) fun v51=>
 jL 59 v51 (upto C_48 3) fun v52=>
 jL 29 v3 (upto C_48 0) fun v53=>
 callM prog 71 #[v53] (fun v54 w=>C_48 1 w ∧ (
 oM prog (.build 67 #[(0,(.tmp 0))]) 67 [v54] (fun v55 w=>C_48 2 w ∧ (
 oM prog (.buildSlice 59 1 #[(0,(.tmp 0))]) 59 [v55] (fun v56 w=>C_48 3 w ∧ (
 oM prog (.call (Go.Call.mk (.builtin .append) #[(.tmp 0),(.tmp 1)] #[59,59])) 59 [v52,v56] (fun v57 w=>C_48 4 w ∧ (
 oM prog (.nilCheck (.tmp 0)) 0 [v47] (fun v58 w=>C_48 5 w ∧ (
 kF 136 0 v58 (fun v59 w=>C_48 6 w ∧ (
 kF 133 2 v59 (fun v60 w=>C_48 7 w ∧ (
 kS 59 v60 v57 (fun _ w=>C_48 8 w ∧ (
 K (.int .i64 0) w)) w)) w)) w)) w)) w)) w)) w)) w))) w))))))))) w))))) w)))) w
theorem sh_53_ok (h:sh_53 a0 a1 K w):callM prog 53 #[a0,a1] K w:=
 cZ (mz [(1,fz 11 0 3),(3,fz 5 0 2),(7,.free [0,1,2,3,5] [4,6,7] [8,9]),(10,3)]) func53 h
def sh_72 (a0 a1 a2 a3:Value) (K:VK) (w:World):Prop:=
 oM prog (.box 67 (.tmp 0)) 0 [a1] (fun v5=>
 kH fun C_2 w=>(((true:Bool) = true) ∧ (jF 67 1 v5 C_2 fun v9=>
 jL 3 v9 C_2 fun v10=>
 jC .eql 3 0 4 v10 C_2 fun v11=>
 pureH v11 C_2 fun v12=>
 jT v12 (jF 67 0 v5) C_2 fun v13=>
 jT v12 (jF 29 0 v13) C_2 fun v14=>
 jT v12 (jL 3 v14) C_2 fun v15=>
 jT v12 (pureH a2) C_2 fun v16=>
 jT v12 (jB .eql 3 4 v15 v16) C_2 fun v17=>
 jP v12 v17 (.bool false) C_2 fun v18=>
 pureH v18 C_2 fun v19=>
 jT v19 (jF 67 0 v5) C_2 fun v20=>
 jT v19 (jF 29 1 v20) C_2 fun v21=>
 jT v19 (jL 3 v21) C_2 fun v22=>
 jT v19 (pureH a0) C_2 fun v23=>
 jT v19 (oH prog (.nilCheck (.tmp 0)) 0 [v23]) C_2 fun v24=>
 jT v19 (jF 136 0 v24) C_2 fun v25=>
 jT v19 (jF 133 1 v25) C_2 fun v26=>
 jT v19 (jL 51 v26) C_2 fun v27=>
 jT v19 (pureH a2) C_2 fun v28=>
 jT v19 (jI 51 v27 v28) C_2 fun v29=>
 jT v19 (jL 41 v29) C_2 fun v30=>
 jT v19 (pureH a3) C_2 fun v31=>
 ∃ S_26:World → WK,xR S_26 fun R_27=>
 (∀ w,C_2 w → (gT v19 (callM prog 20 #[v30,v31]) (xK C_2 S_26 R_27 w) w)) ∧
 (∀ w,C_2 w → ∀ v32,R_27 v32 w → (
 gT v19 (kB .eql 3 4 v22 v32) (fun v33=>
 kP v19 v33 (.bool false) fun v34=>
 K v34) w))))) w
theorem sh_72_ok (h:sh_72 a0 a1 a2 a3 K w):callM prog 72 #[a0,a1,a2,a3] K w:=
 cZ (fun _=>(fz 23 1 3)) func72 h
def sh_122 (a0 a1 a2 a3:Value) (K:VK) (w:World):Prop:=
 oM prog (.box 67 (.tmp 0)) 0 [a0] (fun v4=>
 kL 56 a1 fun v6=>
 kL 67 v4 fun v7=>
 kL 3 a2 fun v8=>
 kL 3 a3 fun v9=>
 callM prog 72 #[v6,v7,v8,v9] fun v10=>
 K v10) w
theorem sh_122_ok (h:sh_122 a0 a1 a2 a3 K w):callM prog 122 #[a0,a1,a2,a3] K w:=
 cZ (fun _=>0) func122 h
def sh_73 (a0 a1 a2:Value) (K:VK) (w:World):Prop:=
 oM prog (.box 56 (.tmp 0)) 0 [a0] (fun v3=>
 oM prog (.box 3 (.tmp 0)) 0 [a1] fun v4=>
 oM prog (.box 3 (.tmp 0)) 0 [a2] fun v5=>
 kH fun C_4 w=>(((true:Bool) = true) ∧ (jL 3 v4 C_4 fun v9=>
 jB .lss 3 4 v9 (.int .i64 0) C_4 fun v10=>
 pureH v10 C_4 fun v11=>
 jG v11 (jL 3 v4) C_4 fun v12=>
 jG v11 (jL 56 v3) C_4 fun v13=>
 jG v11 (oH prog (.nilCheck (.tmp 0)) 0 [v13]) C_4 fun v14=>
 jG v11 (jF 136 0 v14) C_4 fun v15=>
 jG v11 (jF 133 1 v15) C_4 fun v16=>
 jG v11 (jL 51 v16) C_4 fun v17=>
 jG v11 (jN 51 v17) C_4 fun v18=>
 jG v11 (jB .geq 3 4 v12 v18) C_4 fun v19=>
 jP v11 (.bool true) v19 C_4 fun v20=>
 pureH v20 C_4 fun v21=>
 jG v21 (jL 3 v5) C_4 fun v22=>
 ∃ S_19:World → WK,∀ w,C_4 w → (
 gF v21 (callM prog 65 #[v22]) (fun v23 w=>
 gF v21 (kU v23) (fun v24=>
 kP v21 (.bool true) v24 fun v25=>
 kO v25 (K (.tuple #[(.int .i64 0),(.int .i64 1)]))
 (kL 56 v3 fun v26=>
 oM prog (.nilCheck (.tmp 0)) 0 [v26] fun v27=>
 kF 136 0 v27 fun v28=>
 kF 133 2 v28 fun v29=>
 kL 59 v29 fun v30=>
 oM prog (.makeFunc (Go.Fn.func 122) #[] #[(.tmp 0),(.tmp 1),(.tmp 2)]) 201 [v3,v4,v5] fun v31=>
 callM prog 121 #[v30,v31] fun v32=>
 kB .lss 3 4 v32 (.int .i64 0) fun v34=>
 kO v34 (K (.tuple #[(.int .i64 0),(.int .i64 15)]))
 (K (.tuple #[v32,(.int .i64 0)])))) w) w)))) w
theorem sh_73_ok (h:sh_73 a0 a1 a2 K w):callM prog 73 #[a0,a1,a2] K w:=
 cZ (fun _=>(fz 14 0 3)) func73 h
def sh_74 (a0 a1 a2 a3:Value) (K:VK) (w:World):Prop:=
 kH (fun C_1 w=>(((true:Bool) = true) ∧ (pureH a0 C_1 fun v12=>
 oH prog (.nilCheck (.tmp 0)) 0 [v12] C_1 fun v13=>
 jF 136 1 v13 C_1 fun v14=>
 jL 134 v14 C_1 fun v15=>
 pureH a2 C_1 fun v16=>
 pureH a1 C_1 fun v17=>
 pureH a3 C_1 fun v18=>
 ∃ S_9:World → WK,xR S_9 fun R_10=>
 (∀ w,C_1 w → (oM prog (.buildSlice 22 3 #[(0,(.tmp 0)),(1,(.tmp 1)),(2,(.tmp 2))]) 22 [v16,v17,v18] (xK C_1 S_9 R_10 w) w)) ∧
 (xR S_9 fun R_11=>
 (∀ w,C_1 w → ∀ v19,R_10 v19 w → (callM prog 61 #[v19] (xK C_1 S_9 R_11 w) w)) ∧
 (∀ w,C_1 w → ∀ v19,R_10 v19 w → ∀ v20,R_11 v20 w → (
 callM prog 106 #[v15,v20] (fun v21=>
 kC .neq 62 0 4 v21 fun v23=>
 kO v23 (K v21)
 (oM prog (.nilCheck (.tmp 0)) 0 [a0] fun v26=>
 kF 136 0 v26 fun v27=>
 kF 133 2 v27 fun v28=>
 kL 59 v28 fun v29=>
 kI 59 v29 a1 fun v31=>
 oM prog (.nilCheck (.tmp 0)) 0 [v31] fun v34=>
 kF 67 2 v34 fun v35=>
 kS 3 v35 a3 fun _=>
 oM prog (.nilCheck (.tmp 0)) 0 [a0] fun v37=>
 kF 136 1 v37 fun v38=>
 kL 134 v38 fun v39=>
 callM prog 100 #[v39] fun v40=>
 kC .neq 62 0 4 v40 fun v42=>
 kO v42 (oM prog (.nilCheck (.tmp 0)) 0 [v31] fun v44=>
 kF 67 1 v44 fun v45=>
 kS 3 v45 (.int .i64 3) fun _=>
 K v40)
 (kC .eql 3 3 4 a2 fun v50=>
 oM prog (.nilCheck (.tmp 0)) 0 [v31] fun v51=>
 kF 67 1 v51 fun v52=>
 kS 3 v52 (.int .i64 1) fun _=>
 oM prog (.nilCheck (.tmp 0)) 0 [v31] fun v53=>
 kF 67 3 v53 fun v54=>
 kS 4 v54 v50 fun _=>
 K (.int .i64 0)))) w)))))) w
theorem sh_74_ok (h:sh_74 a0 a1 a2 a3 K w):callM prog 74 #[a0,a1,a2,a3] K w:=
 cZ (fun _=>(fz 7 2 2)) func74 h
def sh_28 (a0 a1 a2 a3:Value) (K:VK) (w:World):Prop:=
 callM prog 73 #[a0,a1,a2] (fun v16=>
 kE 0 3 v16 fun v17=>
 kE 1 62 v16 fun v18=>
 kC .eql 62 1 4 v18 fun v20 w=>
 gF v20 (pureM a3) (fun v22 w=>
 gF v20 (kB .lss 3 4 v22 (.int .i64 1)) (fun v23=>
 kP v20 (.bool true) v23 fun v24 w=>
 gF v24 (pureM a3) (fun v26 w=>
 gF v24 (pureM a0) (fun v27 w=>
 gF v24 (oM prog (.nilCheck (.tmp 0)) 0 [v27]) (fun v28 w=>
 gF v24 (kF 136 0 v28) (fun v29 w=>
 gF v24 (kF 133 0 v29) (fun v30 w=>
 gF v24 (kF 50 0 v30) (fun v31 w=>
 gF v24 (kF 48 1 v31) (fun v32 w=>
 gF v24 (kL 3 v32) (fun v33 w=>
 gF v24 (kB .geq 3 4 v26 v33) (fun v34=>
 kP v24 (.bool true) v34 fun v35 w=>
 condM v35
 (K (.tuple #[(.int .i64 0),(.int .i64 1)]) w)
 (joinM (fun M_18=>(kC .eql 62 0 4 v18 (fun v37=>
 kO v37 (callM prog 74 #[a0,v17,(.int .i64 1),a3] fun v41=>
 M_18 [v41])
 (M_18 [v18])) w))
 fun l_19 u_l_19 w=>(kC .neq 62 0 4 (l_19.getD 0 undef) (fun v43=>
 kO v43 (K (.tuple #[(.int .i64 0),(l_19.getD 0 undef)]))
 (K (.tuple #[v17,(.int .i64 0)]))) w))) w) w) w) w) w) w) w) w) w) w) w) w
theorem sh_28_ok (h:sh_28 a0 a1 a2 a3 K w):callM prog 28 #[a0,a1,a2,a3] K w:=
 cZ (fun _=>0) func28 h
def sh_91 (a0 a1:Value) (K:VK) (w:World):Prop:=
 kA 84 (fun v4=>
 oM prog (.nilCheck (.tmp 0)) 0 [a0] fun v9=>
 kF 136 0 v9 fun v10=>
 kF 133 2 v10 fun v11=>
 kL 59 v11 fun v12=>
 kI 59 v12 a1 fun v14=>
 kL 67 v14 fun v15=>
 kA 67 fun v5=>
 kS 67 v5 v15 fun _=>
 kH fun C_9 w=>(pureH a0 C_9 fun v17=>
 oH prog (.nilCheck (.tmp 0)) 0 [v17] C_9 fun v18=>
 jF 136 0 v18 C_9 fun v19=>
 jF 133 0 v19 C_9 fun v20=>
 jL 50 v20 C_9 fun v21=>
 jF 67 0 v5 C_9 fun v22=>
 jF 29 2 v22 C_9 fun v23=>
 jL 22 v23 C_9 fun v24=>
 jF 67 0 v5 C_9 fun v25=>
 jF 29 3 v25 C_9 fun v26=>
 jL 24 v26 C_9 fun v27=>
 jF 67 2 v5 C_9 fun v28=>
 jL 3 v28 C_9 fun v29=>
 (callM prog 141 #[v21,v24,v27,v29] (fun v30 w=>C_9 w ∧ (
 pureH v30 C_9 fun v16=>
 jE 0 84 v16 C_9 fun v31=>
 jE 1 4 v16 C_9 fun v32=>
 kA 84 (fun v6 w=>C_9 w ∧ (
 kS 84 v6 v31 (fun _ w=>C_9 w ∧ (
 C_9 w ∧ (kL 84 v6 (fun v33=>
 kS 84 v4 v33 fun _=>
 kR 84 v4 K) w))) w)) w)) w) ∧
 (kA 84 (fun v6 w=>C_9 w ∧ (
 callM prog 141 #[v21,v24,v27,v29] (fun v30 w=>C_9 w ∧ (
 pureH v30 C_9 fun v16=>
 jE 0 84 v16 C_9 fun v31=>
 jE 1 4 v16 C_9 fun v32=>
 kS 84 v6 v31 (fun _ w=>C_9 w ∧ (
 C_9 w ∧ (kL 84 v6 (fun v33=>
 kS 84 v4 v33 fun _=>
 kR 84 v4 K) w))) w)) w)) w))) w
theorem sh_91_ok (h:sh_91 a0 a1 K w):callM prog 91 #[a0,a1] K w:=
 cZ (fun _=>.tree (.look 0 (.look 1 (.look 2 (.look 3 (.look 4 (.look 5 (.look 6 (.look 7 (.look 8 (.look 9 (.look 10 (.look 11 (.look 12 (.alt 13 (.look 14 (.look 15 (.look 16 (.only 17 (.only 18 (.only 19 (.done))))))) (.only 17 (.only 13 (.look 14 (.look 15 (.look 16 (.only 18 (.only 19 (.done))))))))))))))))))))))) func91 h
def sh_107 (a0 a1:Value) (K:VK) (w:World):Prop:=
 kB .lss 3 4 a1 (.int .i64 0) (fun v7 w=>
 gF v7 (pureM a1) (fun v9 w=>
 gF v7 (pureM a0) (fun v10 w=>
 gF v7 (oM prog (.nilCheck (.tmp 0)) 0 [v10]) (fun v11 w=>
 gF v7 (kF 136 0 v11) (fun v12 w=>
 gF v7 (kF 133 2 v12) (fun v13 w=>
 gF v7 (kL 59 v13) (fun v14 w=>
 gF v7 (kN 59 v14) (fun v15 w=>
 gF v7 (kB .geq 3 4 v9 v15) (fun v16=>
 kP v7 (.bool true) v16 fun v17=>
 kO v17 (K (.tuple #[(.pointer none),(.bool false)]))
 (oM prog (.nilCheck (.tmp 0)) 0 [a0] fun v19=>
 kF 136 0 v19 fun v20=>
 kF 133 2 v20 fun v21=>
 kL 59 v21 fun v22=>
 kI 59 v22 a1 fun v24=>
 K (.tuple #[v24,(.bool true)]))) w) w) w) w) w) w) w) w) w
theorem sh_107_ok (h:sh_107 a0 a1 K w):callM prog 107 #[a0,a1] K w:=
 cZ (fun _=>0) func107 h
def sh_55 (a0 a1:Value) (K:VK) (w:World):Prop:=
 kA 84 (fun v4=>
 callM prog 107 #[a0,a1] fun v11=>
 kE 0 187 v11 fun v12=>
 kE 1 4 v11 fun v13=>
 kU v13 fun v16=>
 kO v16 (oM prog (.build 84 #[]) 84 [] fun v17=>
 kS 84 v4 v17 fun _ w=>
 ∃ r_7,(do loadVar 84 (← asAddr v4):Sem Value).run prog w = .ok r_7 w ∧ K (.tuple #[r_7,(.int .i64 4)]) w)
 (oM prog (.nilCheck (.tmp 0)) 0 [v12] fun v20=>
 kF 67 1 v20 fun v21=>
 kL 3 v21 fun v22=>
 kC .neq 3 1 4 v22 fun v23 w=>
 gT v23 (pureM v12) (fun v25 w=>
 gT v23 (oM prog (.nilCheck (.tmp 0)) 0 [v25]) (fun v26 w=>
 gT v23 (kF 67 1 v26) (fun v27 w=>
 gT v23 (kL 3 v27) (fun v28 w=>
 gT v23 (kC .neq 3 2 4 v28) (fun v29=>
 kP v23 v29 (.bool false) fun v30=>
 kO v30 (oM prog (.build 84 #[]) 84 [] fun v31=>
 kS 84 v4 v31 fun _ w=>
 ∃ r_19,(do loadVar 84 (← asAddr v4):Sem Value).run prog w = .ok r_19 w ∧ K (.tuple #[r_19,(.int .i64 7)]) w)
 (callM prog 91 #[a0,a1] fun v34=>
 kS 84 v4 v34 fun _ w=>
 ∃ r_21,(do loadVar 84 (← asAddr v4):Sem Value).run prog w = .ok r_21 w ∧ K (.tuple #[r_21,(.int .i64 0)]) w)) w) w) w) w) w)) w
theorem sh_55_ok (h:sh_55 a0 a1 K w):callM prog 55 #[a0,a1] K w:=
 cZ (fun _=>0) func55 h
def sh_70 (a0:Value) (K:VK) (w:World):Prop:=
 oM prog (.binOp .eql 59 (.tmp 0) (.const (.slice none 0 0)) 59) 4 [a0] (fun v4=>
 kO v4 (K (.slice none 0 0))
 (oM prog (.buildSlice 59 0 #[]) 59 [] fun v5=>
 oM prog (.call (Go.Call.mk (.builtin .append) #[(.tmp 0),(.tmp 1)] #[59,59])) 59 [v5,a0] fun v7=>
 K v7)) w
theorem sh_70_ok (h:sh_70 a0 K w):callM prog 70 #[a0] K w:=
 cZ (fun _=>0) func70 h
def sh_26 (a0:Value) (K:VK) (w:World):Prop:=
 oM prog (.nilCheck (.tmp 0)) 0 [a0] (fun v7=>
 kF 136 0 v7 fun v8=>
 kF 133 2 v8 fun v9=>
 kL 59 v9 fun v10=>
 callM prog 70 #[v10] fun v11=>
 kN 59 v11 fun v13=>
 kQ [undef,(.int .i64 0)] fun J_7 m_8 l_9 u_l_9 w0_l_9=>(fun w=>(
 kB .lss 3 0 (l_9.getD 1 undef) v13 (fun v15=>
 kO v15 (kI 59 v11 (l_9.getD 1 undef) fun v17=>
 kL 67 v17 fun v18=>
 kA 67 fun v5=>
 kS 67 v5 v18 fun _=>
 kF 67 0 v5 fun v21=>
 kL 29 v21 fun v22=>
 callM prog 71 #[v22] fun v23=>
 kI 59 v11 (l_9.getD 1 undef) fun v24=>
 kF 67 0 v24 fun v25=>
 kS 29 v25 v23 fun _=>
 kB .add 3 3 (l_9.getD 1 undef) (.int .i64 1) fun v26=>
 kJ J_7 m_8 l_9 w0_l_9 [(l_9.getD 1 undef),v26])
 (K v11)) w)) w0_l_9) w
theorem sh_26_ok (h:sh_26 a0 K w):callM prog 26 #[a0] K w:=
 cZ (fun _=>0) func26 h
def sh_27 (a0 a1 a2:Value) (K:VK) (w:World):Prop:=
 kB .lss 3 4 a1 (.int .i64 0) (fun v11 w=>
 gF v11 (pureM a1) (fun v13 w=>
 gF v11 (pureM a0) (fun v14 w=>
 gF v11 (oM prog (.nilCheck (.tmp 0)) 0 [v14]) (fun v15 w=>
 gF v11 (kF 136 0 v15) (fun v16 w=>
 gF v11 (kF 133 1 v16) (fun v17 w=>
 gF v11 (kL 51 v17) (fun v18 w=>
 gF v11 (kN 51 v18) (fun v19 w=>
 gF v11 (kB .geq 3 4 v13 v19) (fun v20=>
 kP v11 (.bool true) v20 fun v21 w=>
 gF v21 (pureM a2) (fun v23 w=>
 gF v21 (callM prog 65 #[v23]) (fun v24 w=>
 gF v21 (kU v24) (fun v25=>
 kP v21 (.bool true) v25 fun v26=>
 kO v26 (K (.int .i64 0))
 (oM prog (.nilCheck (.tmp 0)) 0 [a0] fun v28=>
 kF 136 0 v28 fun v29=>
 kF 133 2 v29 fun v30=>
 kL 59 v30 fun v31=>
 kN 59 v31 fun v32=>
 kQ [(.int .i64 0),(.int .i64 0)] fun J_20 m_21 l_22 u_l_22 w0_l_22=>(fun w=>(
 kB .lss 3 0 (l_22.getD 1 undef) v32 (fun v34 w=>
 condM v34
 (joinM (fun M_24=>(kI 59 v31 (l_22.getD 1 undef) (fun v35=>
 kL 67 v35 fun v36=>
 kA 67 fun v9=>
 kS 67 v9 v36 fun _=>
 kL 67 v9 fun v38=>
 callM prog 72 #[a0,v38,a1,a2] fun v41=>
 kO v41 (kB .add 3 3 (l_22.getD 0 undef) (.int .i64 1) fun v43=>
 M_24 [v43])
 (M_24 [(l_22.getD 0 undef)])) w))
 fun l_25 u_l_25 w=>(kB .add 3 3 (l_22.getD 1 undef) (.int .i64 1) (fun v44=>
 kJ J_20 m_21 l_22 w0_l_22 [(l_25.getD 0 undef),v44]) w))
 (K (l_22.getD 0 undef) w)) w)) w0_l_22)) w) w) w) w) w) w) w) w) w) w) w) w
theorem sh_27_ok (h:sh_27 a0 a1 a2 K w):callM prog 27 #[a0,a1,a2] K w:=
 cZ (fun _=>0) func27 h
variable {a0 a1 a2 a3:Value} {K:VK} {w:World}
def sh_35 (K:VK) (w:World):Prop:=
 oM prog (.makeMap 141 none) 141 [] (fun v1=>
 oM prog (.makeMap 143 none) 143 [] fun v2=>
 oM prog (.build 145 #[(0,(.tmp 0)),(2,(.tmp 1))]) 145 [v1,v2] fun v3=>
 oM prog (.box 145 (.tmp 0)) 55 [v3] fun v4=>
 K v4) w
theorem sh_35_ok (h:sh_35 K w):callM prog 35 #[] K w:=
 cZ (fun _=>0) func35 h
def sh_32 (a0 a1:Value) (K:VK) (w:World):Prop:=
 oM prog (.nilCheck (.tmp 0)) 0 [a0] (fun v11=>
 kF 145 4 v11 fun v12=>
 kL 4 v12 fun v13=>
 kO v13 (K (.tuple #[]))
 (oM prog (.nilCheck (.tmp 0)) 0 [a0] fun v16=>
 kF 145 4 v16 fun v17=>
 kS 4 v17 (.bool true) fun _=>
 oM prog (.nilCheck (.tmp 0)) 0 [a0] fun v18=>
 kF 145 5 v18 fun v19=>
 kS 3 v19 (.int .i64 0) fun _=>
 oM prog (.nilCheck (.tmp 0)) 0 [a0] fun v21=>
 kF 145 1 v21 fun v22=>
 kL 142 v22 fun v23=>
 kN 142 v23 fun v24=>
 kQ [undef,undef,(.int .i64 0)] fun J_12 m_13 l_14 u_l_14 w0_l_14=>(fun w=>(
 kB .lss 3 0 (l_14.getD 2 undef) v24 (fun v26 w=>
 condM v26
 (joinM (fun M_16=>(kI 142 v23 (l_14.getD 2 undef) (fun v28=>
 kL 147 v28 fun v29=>
 kA 147 fun v5=>
 kS 147 v5 v29 fun _ w=>
 stageM w fun C_21 w=>(pureH a0 (upto C_21 1) fun v30=>
 oH prog (.nilCheck (.tmp 0)) 0 [v30] (upto C_21 1) fun v31=>
 jF 145 0 v31 (upto C_21 1) fun v32=>
 jL 141 v32 (upto C_21 1) fun v33=>
 jF 147 0 v5 (upto C_21 1) fun v34=>
 jL 3 v34 (upto C_21 1) fun v35=>
 oH prog (.lookup 141 (.tmp 0) (.tmp 1) false) 149 [v33,v35] (upto C_21 1) fun v36=>
 jF 147 1 v5 (upto C_21 2) fun v37=>
 jL 3 v37 (upto C_21 2) fun v38=>
 jB .mul 3 3 v38 (.int .i64 64) (upto C_21 2) fun v39=>
 kA 149 (fun v6 w=>C_21 1 w ∧ (
 kS 149 v6 v36 (fun _ w=>C_21 2 w ∧ (
 C_21 3 w ∧ (kN 22 a1 (fun v41=>
 kC .eql 3 0 4 v41 fun v42 w=>
 gF v42 (pureM a1) (fun v44 w=>
 gF v42 (pureM (l_14.getD 2 undef)) (fun v45 w=>
 gF v42 (pureM a1) (fun v46 w=>
 gF v42 (kN 22 v46) (fun v47 w=>
 gF v42 (kB .rem 3 3 v45 v47) (fun v48 w=>
 gF v42 (kI 22 v44 v48) (fun v49 w=>
 gF v42 (kL 3 v49) (fun v50 w=>
 gF v42 (kB .and 3 3 v50 (.int .i64 1)) (fun v51 w=>
 gF v42 (kC .eql 3 0 4 v51) (fun v52=>
 kP v42 (.bool true) v52 fun v53 w=>
 gF v53 (pureM v39) (fun v55 w=>
 gF v53 (kF 149 0 v6) (fun v56 w=>
 gF v53 (kL 9 v56) (fun v57 w=>
 gF v53 (kN 9 v57) (fun v58 w=>
 gF v53 (kB .geq 3 4 v55 v58) (fun v59=>
 kP v53 (.bool true) v59 fun v60 w=>
 condM v60
 (M_16 [(l_14.getD 2 undef),v39] w)
 (stageM w fun C_52 w=>(jF 149 1 v6 (upto C_52 0) fun v61=>
 jL 9 v61 (upto C_52 0) fun v62=>
 pureH v39 (upto C_52 0) fun v63=>
 jF 149 0 v6 (upto C_52 0) fun v64=>
 jL 9 v64 (upto C_52 0) fun v65=>
 pureH v39 (upto C_52 0) fun v66=>
 pureH v39 (upto C_52 0) fun v67=>
 jB .add 3 3 v67 (.int .i64 64) (upto C_52 0) fun v68=>
 jF 149 0 v6 (upto C_52 0) fun v69=>
 jL 9 v69 (upto C_52 0) fun v70=>
 jN 9 v70 (upto C_52 0) fun v71=>
 oH prog (.call (Go.Call.mk (.builtin .min) #[(.tmp 0),(.tmp 1)] #[3,3])) 3 [v68,v71] (upto C_52 0) fun v72=>
 oH prog (.slice 9 (.tmp 0) (some (.tmp 1)) (some (.tmp 2)) none) 9 [v65,v66,v72] (upto C_52 0) fun v73=>
 callM prog 76 #[v62,v63,v73] (fun v74 w=>C_52 1 w ∧ (
 kF 149 1 v6 (fun v75 w=>C_52 2 w ∧ (
 kS 9 v75 v74 (fun _ w=>C_52 3 w ∧ (
 stageM w fun C_68 w=>(pureH a0 (upto C_68 0) fun v76=>
 oH prog (.nilCheck (.tmp 0)) 0 [v76] (upto C_68 0) fun v77=>
 jF 145 0 v77 (upto C_68 0) fun v78=>
 jL 141 v78 (upto C_68 0) fun v79=>
 jF 147 0 v5 (upto C_68 0) fun v80=>
 jL 3 v80 (upto C_68 0) fun v81=>
 jL 149 v6 (upto C_68 0) fun v82=>
 oM prog (.mapUpdate 141 (.tmp 0) (.tmp 1) (.tmp 2)) 0 [v79,v81,v82] (fun _ w=>C_68 1 w ∧ (
 M_16 [(l_14.getD 2 undef),v39] w)) w))) w)) w)) w))) w) w) w) w) w) w) w) w) w) w) w) w) w) w) w))) w)) w)) w))
 fun l_17 u_l_17 w=>(kB .add 3 3 (l_14.getD 2 undef) (.int .i64 1) (fun v83=>
 kJ J_12 m_13 l_14 w0_l_14 [(l_17.getD 0 undef),(l_17.getD 1 undef),v83]) w))
 (oM prog (.nilCheck (.tmp 0)) 0 [a0] (fun v85=>
 kF 145 0 v85 fun v86=>
 kL 141 v86 fun v87=>
 oM prog (.range 141 (.tmp 0)) 0 [v87] fun v88=>
 kQ [undef] fun J_81 m_82 l_83 u_l_83 w0_l_83=>(fun w=>(
 oM prog (.next (.tmp 0) false) 0 [v88] (fun v89=>
 kE 0 4 v89 fun v90=>
 kO v90 (oM prog (.entry (.tmp 0)) 0 [v88] fun v91=>
 kE 0 3 v91 fun v92=>
 kE 1 149 v91 fun v93=>
 kA 149 fun v9=>
 kS 149 v9 v93 fun _ w=>
 stageM w fun C_90 w=>(pureH a0 (upto C_90 1) fun v94=>
 oH prog (.nilCheck (.tmp 0)) 0 [v94] (upto C_90 1) fun v95=>
 jF 145 0 v95 (upto C_90 1) fun v96=>
 jL 141 v96 (upto C_90 1) fun v97=>
 pureH v92 (upto C_90 1) fun v98=>
 jF 149 1 v9 (upto C_90 0) fun v99=>
 jL 9 v99 (upto C_90 0) fun v100=>
 jF 149 1 v9 (upto C_90 0) fun v101=>
 jL 9 v101 (upto C_90 0) fun v102=>
 oM prog (.build 149 #[(0,(.tmp 0)),(1,(.tmp 1))]) 149 [v100,v102] (fun v103 w=>C_90 1 w ∧ (
 oM prog (.mapUpdate 141 (.tmp 0) (.tmp 1) (.tmp 2)) 0 [v97,v98,v103] (fun _ w=>C_90 2 w ∧ (
 kJ J_81 m_82 l_83 w0_l_83 [v92] w)) w)) w))
 (oM prog (.makeMap 143 none) 143 [] fun v106=>
 oM prog (.nilCheck (.tmp 0)) 0 [a0] fun v107=>
 kF 145 1 v107 fun v108=>
 kS 142 v108 (.slice none 0 0) fun _=>
 oM prog (.nilCheck (.tmp 0)) 0 [a0] fun v109=>
 kF 145 2 v109 fun v110=>
 kS 143 v110 v106 fun _=>
 K (.tuple #[]))) w)) w0_l_83) w)) w)) w0_l_14)) w
theorem sh_32_ok (h:sh_32 a0 a1 K w):callM prog 32 #[a0,a1] K w:=
 cZ (fun _=>3) func32 h
def sh_33 (a0:Value) (K:VK) (w:World):Prop:=
 oM prog (.nilCheck (.tmp 0)) 0 [a0] (fun v3=>
 kF 145 4 v3 fun v4=>
 kS 4 v4 (.bool false) fun _=>
 K (.tuple #[])) w
theorem sh_33_ok (h:sh_33 a0 K w):callM prog 33 #[a0] K w:=
 cZ (fun _=>0) func33 h
def sh_69 (a0 a1:Value) (K:VK) (w:World):Prop:=
 joinM (fun M_1=>(callM prog 117 #[a0] (fun v7=>
 kO v7 (oM prog (.nilCheck (.tmp 0)) 0 [a0] fun v10=>
 kF 145 6 v10 fun v11=>
 kL 22 v11 fun v12=>
 callM prog 32 #[a0,v12] fun v13=>
 M_1 [])
 (M_1 [])) w))
 fun l_2 u_l_2 w=>(callM prog 118 #[a0,a1] (fun v16=>
 kC .neq 62 0 4 v16 fun v18=>
 kO v18 (K v16)
 (oM prog (.nilCheck (.tmp 0)) 0 [a0] fun v21=>
 kF 145 3 v21 fun v22=>
 kL 3 v22 fun v23=>
 kB .gtr 3 4 v23 (.int .i64 0) fun v24=>
 kO v24 (oM prog (.nilCheck (.tmp 0)) 0 [a0] fun v26=>
 kF 145 3 v26 fun v27=>
 kL 3 v27 fun v28=>
 kB .sub 3 3 v28 (.int .i64 1) fun v29=>
 oM prog (.nilCheck (.tmp 0)) 0 [a0] fun v30=>
 kF 145 3 v30 fun v31=>
 kS 3 v31 v29 fun _=>
 K (.int .i64 9))
 (oM prog (.nilCheck (.tmp 0)) 0 [a0] fun v35=>
 kF 145 0 v35 fun v36=>
 kL 141 v36 fun v37=>
 oM prog (.lookup 141 (.tmp 0) (.tmp 1) false) 149 [v37,a1] fun v39=>
 oM prog (.field 149 (.tmp 0) 0) 9 [v39] fun v40=>
 callM prog 119 #[a0,a1,v40] fun v41=>
 K (.int .i64 0)))) w)
theorem sh_69_ok (h:sh_69 a0 a1 K w):callM prog 69 #[a0,a1] K w:=
 cZ (fun _=>0) func69 h
def sh_76 (a0 a1 a2:Value) (K:VK) (w:World):Prop:=
 oM prog (.binOp .eql 9 (.tmp 0) (.const (.string ⟨#[]⟩)) 9) 4 [a2] (fun v9=>
 kO v9 (K a0)
 (kN 9 a0 fun v12=>
 kN 9 a2 fun v15=>
 kB .add 3 3 a1 v15 fun v16=>
 oM prog (.call (Go.Call.mk (.builtin .max) #[(.tmp 0),(.tmp 1)] #[3,3])) 3 [v12,v16] fun v17=>
 oM prog (.makeSlice 202 (.tmp 0) (.tmp 1)) 202 [v17,v17] fun v18=>
 oM prog (.call (Go.Call.mk (.builtin .copy) #[(.tmp 0),(.tmp 1)] #[202,9])) 3 [v18,a0] fun v21=>
 oM prog (.slice 202 (.tmp 0) (some (.tmp 1)) none none) 202 [v18,a1] fun v24=>
 oM prog (.call (Go.Call.mk (.builtin .copy) #[(.tmp 0),(.tmp 1)] #[202,9])) 3 [v24,a2] fun v26=>
 oM prog (.convert 202 9 (.tmp 0)) 9 [v18] fun v28=>
 K v28)) w
theorem sh_76_ok (h:sh_76 a0 a1 a2 K w):callM prog 76 #[a0,a1,a2] K w:=
 cZ (fun _=>0) func76 h
def sh_117 (a0:Value) (K:VK) (w:World):Prop:=
 oM prog (.nilCheck (.tmp 0)) 0 [a0] (fun v4=>
 kF 145 4 v4 fun v5=>
 kL 4 v5 fun v6 w=>
 gF v6 (pureM a0) (fun v8 w=>
 gF v6 (oM prog (.nilCheck (.tmp 0)) 0 [v8]) (fun v9 w=>
 gF v6 (kF 145 5 v9) (fun v10 w=>
 gF v6 (kL 3 v10) (fun v11 w=>
 gF v6 (kC .eql 3 0 4 v11) (fun v12=>
 kP v6 (.bool true) v12 fun v13=>
 kO v13 (K (.bool false))
 (oM prog (.nilCheck (.tmp 0)) 0 [a0] fun v15=>
 kF 145 5 v15 fun v16=>
 kL 3 v16 fun v17=>
 kB .sub 3 3 v17 (.int .i64 1) fun v18=>
 oM prog (.nilCheck (.tmp 0)) 0 [a0] fun v19=>
 kF 145 5 v19 fun v20=>
 kS 3 v20 v18 fun _=>
 oM prog (.nilCheck (.tmp 0)) 0 [a0] fun v22=>
 kF 145 5 v22 fun v23=>
 kL 3 v23 fun v24=>
 kC .eql 3 0 4 v24 fun v25=>
 K v25)) w) w) w) w) w) w
theorem sh_117_ok (h:sh_117 a0 K w):callM prog 117 #[a0] K w:=
 cZ (fun _=>0) func117 h
def sh_118 (a0 a1:Value) (K:VK) (w:World):Prop:=
 oM prog (.nilCheck (.tmp 0)) 0 [a0] (fun v7=>
 kF 145 4 v7 fun v8=>
 kL 4 v8 fun v9=>
 kO v9 (K (.int .i64 8))
 (kB .lss 3 4 a1 (.int .i64 0) fun v12 w=>
 gF v12 (pureM a1) (fun v14 w=>
 gF v12 (kB .geq 3 4 v14 (.int .i64 16)) (fun v15=>
 kP v12 (.bool true) v15 fun v16=>
 kO v16 (K (.int .i64 1))
 (K (.int .i64 0))) w) w)) w
theorem sh_118_ok (h:sh_118 a0 a1 K w):callM prog 118 #[a0,a1] K w:=
 cZ (fun _=>0) func118 h
def sh_119 (a0 a1 a2:Value) (K:VK) (w:World):Prop:=
 oM prog (.box 3 (.tmp 0)) 0 [a1] (fun v4 w=>
 stageM w fun C_2 w=>(pureH a0 (upto C_2 1) fun v6=>
 oH prog (.nilCheck (.tmp 0)) 0 [v6] (upto C_2 1) fun v7=>
 jF 145 0 v7 (upto C_2 1) fun v8=>
 jL 141 v8 (upto C_2 1) fun v9=>
 jL 3 v4 (upto C_2 1) fun v10=>
 pureH a2 (upto C_2 0) fun v11=>
 pureH a2 (upto C_2 0) fun v12=>
 oM prog (.build 149 #[(0,(.tmp 0)),(1,(.tmp 1))]) 149 [v11,v12] (fun v13 w=>C_2 1 w ∧ (
 oM prog (.mapUpdate 141 (.tmp 0) (.tmp 1) (.tmp 2)) 0 [v9,v10,v13] (fun _ w=>C_2 2 w ∧ (
 oM prog (.nilCheck (.tmp 0)) 0 [a0] (fun v16=>
 kF 145 1 v16 fun v17=>
 kL 142 v17 fun v18=>
 oM prog (.makeFunc (Go.Fn.func 165) #[] #[(.tmp 0)]) 244 [v4] fun v19=>
 callM prog 164 #[v18,v19] fun v20=>
 oM prog (.nilCheck (.tmp 0)) 0 [a0] fun v21=>
 kF 145 1 v21 fun v22=>
 kS 142 v22 v20 fun _=>
 oM prog (.nilCheck (.tmp 0)) 0 [a0] fun v24=>
 kF 145 2 v24 fun v25=>
 kL 143 v25 fun v26=>
 oM prog (.makeFunc (Go.Fn.func 167) #[] #[(.tmp 0)]) 246 [v4] fun v27=>
 callM prog 166 #[v26,v27] fun v28=>
 K (.tuple #[])) w)) w)) w)) w
theorem sh_119_ok (h:sh_119 a0 a1 a2 K w):callM prog 119 #[a0,a1,a2] K w:=
 cZ (fun _=>3) func119 h
def sh_127 (a0 a1 a2 a3:Value) (K:VK) (w:World):Prop:=
 callM prog 118 #[a0,a1] (fun v14=>
 kC .neq 62 0 4 v14 fun v16=>
 kO v16 (K (.tuple #[(.string ⟨#[]⟩),v14]))
 (kB .lss 3 4 a2 (.int .i64 0) fun v19 w=>
 gF v19 (pureM a3) (fun v21 w=>
 gF v19 (kB .lss 3 4 v21 (.int .i64 0)) (fun v22=>
 kP v19 (.bool true) v22 fun v23=>
 kO v23 (K (.tuple #[(.string ⟨#[]⟩),(.int .i64 1)]))
 (oM prog (.nilCheck (.tmp 0)) 0 [a0] fun v25=>
 kF 145 0 v25 fun v26=>
 kL 141 v26 fun v27=>
 oM prog (.lookup 141 (.tmp 0) (.tmp 1) false) 149 [v27,a1] fun v29=>
 oM prog (.field 149 (.tmp 0) 0) 9 [v29] fun v30=>
 kN 9 v30 fun v34=>
 oM prog (.call (Go.Call.mk (.builtin .min) #[(.tmp 0),(.tmp 1)] #[3,3])) 3 [a2,v34] fun v35=>
 oM prog (.slice 9 (.tmp 0) (some (.tmp 1)) none none) 9 [v30,v35] fun v36=>
 kN 9 v36 fun v40=>
 oM prog (.call (Go.Call.mk (.builtin .min) #[(.tmp 0),(.tmp 1)] #[3,3])) 3 [a3,v40] fun v41=>
 oM prog (.slice 9 (.tmp 0) none (some (.tmp 1)) none) 9 [v36,v41] fun v42=>
 K (.tuple #[v42,(.int .i64 0)]))) w) w)) w
theorem sh_127_ok (h:sh_127 a0 a1 a2 a3 K w):callM prog 127 #[a0,a1,a2,a3] K w:=
 cZ (fun _=>0) func127 h
def sh_128 (a0 a1:Value) (K:VK) (w:World):Prop:=
 oM prog (.nilCheck (.tmp 0)) 0 [a0] (fun v6=>
 kF 145 0 v6 fun v7=>
 kL 141 v7 fun v8=>
 oM prog (.lookup 141 (.tmp 0) (.tmp 1) false) 149 [v8,a1] fun v10=>
 oM prog (.field 149 (.tmp 0) 0) 9 [v10] fun v11=>
 kN 9 v11 fun v12=>
 K v12) w
theorem sh_128_ok (h:sh_128 a0 a1 K w):callM prog 128 #[a0,a1] K w:=
 cZ (fun _=>0) func128 h
def sh_130 (a0 a1 a2:Value) (K:VK) (w:World):Prop:=
 joinM (fun M_1=>(callM prog 117 #[a0] (fun v9=>
 kO v9 (oM prog (.nilCheck (.tmp 0)) 0 [a0] fun v12=>
 kF 145 6 v12 fun v13=>
 kL 22 v13 fun v14=>
 callM prog 32 #[a0,v14] fun v15=>
 M_1 [])
 (M_1 [])) w))
 fun l_2 u_l_2 w=>(callM prog 118 #[a0,a1] (fun v18=>
 kC .neq 62 0 4 v18 fun v20=>
 kO v20 (K v18)
 (kB .lss 3 4 a2 (.int .i64 0) fun v23 w=>
 gF v23 (pureM a2) (fun v25 w=>
 gF v23 (pureM a0) (fun v26 w=>
 gF v23 (pureM a1) (fun v27 w=>
 gF v23 (callM prog 128 #[v26,v27]) (fun v28 w=>
 gF v23 (kB .gtr 3 4 v25 v28) (fun v29=>
 kP v23 (.bool true) v29 fun v30=>
 kO v30 (K (.int .i64 1))
 (oM prog (.nilCheck (.tmp 0)) 0 [a0] fun v34=>
 kF 145 0 v34 fun v35=>
 kL 141 v35 fun v36=>
 oM prog (.lookup 141 (.tmp 0) (.tmp 1) false) 149 [v36,a1] fun v38=>
 oM prog (.field 149 (.tmp 0) 0) 9 [v38] fun v39=>
 oM prog (.slice 9 (.tmp 0) none (some (.tmp 1)) none) 9 [v39,a2] fun v41=>
 callM prog 119 #[a0,a1,v41] fun v42=>
 K (.int .i64 0))) w) w) w) w) w)) w)
theorem sh_130_ok (h:sh_130 a0 a1 a2 K w):callM prog 130 #[a0,a1,a2] K w:=
 cZ (fun _=>0) func130 h
def sh_157 (a0 a1 a2 a3:Value) (K:VK) (w:World):Prop:=
 callM prog 117 #[a0] (fun v12=>
 callM prog 198 #[a0,a1,a2,a3] fun v17=>
 kO v12 (oM prog (.nilCheck (.tmp 0)) 0 [a0] fun v21=>
 kF 145 6 v21 fun v22=>
 kL 22 v22 fun v23=>
 callM prog 32 #[a0,v23] fun v24=>
 K (.int .i64 8))
 (K v17)) w
theorem sh_157_ok (h:sh_157 a0 a1 a2 a3 K w):callM prog 157 #[a0,a1,a2,a3] K w:=
 cZ (fun _=>0) func157 h
def sh_164 (a0 a1:Value) (K:VK) (w:World):Prop:=
 callM prog 204 #[a0,a1] (fun v10=>
 oM prog (.binOp .eql 3 (.tmp 0) (.const (.int .i64 (-1))) 3) 4 [v10] fun v12=>
 kO v12 (K a0)
 (kB .add 3 3 v10 (.int .i64 1) fun v15=>
 kQ [v10,v15] fun J_4 m_5 l_6 u_l_6 w0_l_6=>(fun w=>(
 kN 142 a0 (fun v18=>
 kB .lss 3 4 (l_6.getD 1 undef) v18 fun v19 w=>
 condM v19
 (joinM (fun M_9=>(kI 142 a0 (l_6.getD 1 undef) (fun v24=>
 kL 147 v24 fun v25=>
 kA 147 fun v7=>
 kS 147 v7 v25 fun _=>
 kL 147 v7 fun v27=>
 oM prog (.call (Go.Call.mk (.value (.tmp 0)) #[(.tmp 1)] #[147])) 4 [a1,v27] fun v28=>
 kU v28 fun v29=>
 kO v29 (kL 147 v7 fun v32=>
 kI 142 a0 (l_6.getD 0 undef) fun v33=>
 kS 147 v33 v32 fun _=>
 kB .add 3 3 (l_6.getD 0 undef) (.int .i64 1) fun v35=>
 M_9 [v35])
 (M_9 [(l_6.getD 0 undef)])) w))
 fun l_10 u_l_10 w=>(kB .add 3 3 (l_6.getD 1 undef) (.int .i64 1) (fun v21=>
 kJ J_4 m_5 l_6 w0_l_6 [(l_10.getD 0 undef),v21]) w))
 (oM prog (.slice 142 (.tmp 0) (some (.tmp 1)) none none) 142 [a0,(l_6.getD 0 undef)] (fun v38=>
 oM prog (.call (Go.Call.mk (.builtin .clear) #[(.tmp 0)] #[142])) 0 [v38] fun _=>
 oM prog (.slice 142 (.tmp 0) none (some (.tmp 1)) none) 142 [a0,(l_6.getD 0 undef)] fun v41=>
 K v41) w)) w)) w0_l_6)) w
theorem sh_164_ok (h:sh_164 a0 a1 K w):callM prog 164 #[a0,a1] K w:=
 cZ (fun _=>0) func164 h
def sh_165 (a0 a1:Value) (K:VK) (w:World):Prop:=
 oM prog (.box 147 (.tmp 0)) 0 [a0] (fun v2=>
 kF 147 0 v2 fun v4=>
 kL 3 v4 fun v5=>
 kL 3 a1 fun v6=>
 kB .eql 3 4 v5 v6 fun v7=>
 K v7) w
theorem sh_165_ok (h:sh_165 a0 a1 K w):callM prog 165 #[a0,a1] K w:=
 cZ (fun _=>0) func165 h
def sh_166 (a0 a1:Value) (K:VK) (w:World):Prop:=
 oM prog (.range 143 (.tmp 0)) 0 [a0] (fun v7=>
 kQ [undef] fun J_2 m_3 l_4 u_l_4 w0_l_4=>(fun w=>(
 oM prog (.next (.tmp 0) false) 0 [v7] (fun v8=>
 kE 0 4 v8 fun v9=>
 kO v9 (oM prog (.entry (.tmp 0)) 0 [v7] fun v10=>
 kE 0 147 v10 fun v11=>
 kE 1 4 v10 fun v12=>
 kA 147 fun v4=>
 kS 147 v4 v11 fun _=>
 kL 147 v4 fun v14=>
 oM prog (.call (Go.Call.mk (.value (.tmp 0)) #[(.tmp 1),(.tmp 2)] #[147,4])) 4 [a1,v14,v12] fun v16=>
 kO v16 (kL 147 v4 fun v18=>
 oM prog (.call (Go.Call.mk (.builtin .delete) #[(.tmp 0),(.tmp 1)] #[143,147])) 0 [a0,v18] fun _=>
 kJ J_2 m_3 l_4 w0_l_4 [v12])
 (kJ J_2 m_3 l_4 w0_l_4 [v12]))
 (K (.tuple #[]))) w)) w0_l_4) w
theorem sh_166_ok (h:sh_166 a0 a1 K w):callM prog 166 #[a0,a1] K w:=
 cZ (fun _=>0) func166 h
def sh_167 (a0 a1 a2:Value) (K:VK) (w:World):Prop:=
 oM prog (.box 147 (.tmp 0)) 0 [a0] (fun v3=>
 kF 147 0 v3 fun v6=>
 kL 3 v6 fun v7=>
 kL 3 a2 fun v8=>
 kB .eql 3 4 v7 v8 fun v9=>
 K v9) w
theorem sh_167_ok (h:sh_167 a0 a1 a2 K w):callM prog 167 #[a0,a1,a2] K w:=
 cZ (fun _=>0) func167 h
def sh_198 (a0 a1 a2 a3:Value) (K:VK) (w:World):Prop:=
 callM prog 118 #[a0,a1] (fun v15=>
 kC .neq 62 0 4 v15 fun v17=>
 kO v17 (K v15)
 (kB .lss 3 4 a2 (.int .i64 0) fun v21=>
 kO v21 (K (.int .i64 1))
 (kB .gtr 3 4 a2 (.int .i64 16777216) fun v24 w=>
 gF v24 (pureM a3) (fun v26 w=>
 gF v24 (kN 9 v26) (fun v27 w=>
 gF v24 (pureM a2) (fun v28 w=>
 gF v24 (kB .sub 3 3 (.int .i64 16777216) v28) (fun v29 w=>
 gF v24 (kB .gtr 3 4 v27 v29) (fun v30=>
 kP v24 (.bool true) v30 fun v31=>
 kO v31 (K (.int .i64 6))
 (oM prog (.binOp .eql 9 (.tmp 0) (.const (.string ⟨#[]⟩)) 9) 4 [a3] fun v34=>
 kO v34 (K (.int .i64 0))
 (oM prog (.nilCheck (.tmp 0)) 0 [a0] fun v36=>
 kF 145 0 v36 fun v37=>
 kL 141 v37 fun v38=>
 oM prog (.lookup 141 (.tmp 0) (.tmp 1) false) 149 [v38,a1] fun v40=>
 kA 149 fun v10=>
 kS 149 v10 v40 fun _=>
 kF 149 0 v10 fun v41=>
 kL 9 v41 fun v42=>
 callM prog 76 #[v42,a2,a3] fun v45=>
 kF 149 0 v10 fun v46=>
 kS 9 v46 v45 fun _ w=>
 stageM w fun C_21 w=>(pureH a0 (upto C_21 0) fun v47=>
 oH prog (.nilCheck (.tmp 0)) 0 [v47] (upto C_21 0) fun v48=>
 jF 145 0 v48 (upto C_21 0) fun v49=>
 jL 141 v49 (upto C_21 0) fun v50=>
 pureH a1 (upto C_21 0) fun v51=>
 jL 149 v10 (upto C_21 0) fun v52=>
 oM prog (.mapUpdate 141 (.tmp 0) (.tmp 1) (.tmp 2)) 0 [v50,v51,v52] (fun _ w=>C_21 1 w ∧ (
 kB .quo 3 3 a2 (.int .i64 64) (fun v54=>
 kQ [v54] fun J_29 m_30 l_31 u_l_31 w0_l_31=>(fun w=>(
 kN 9 a3 (fun v58=>
 kB .add 3 3 a2 v58 fun v59=>
 kB .sub 3 3 v59 (.int .i64 1) fun v60=>
 kB .quo 3 3 v60 (.int .i64 64) fun v61=>
 kB .leq 3 4 (l_31.getD 0 undef) v61 fun v62 w=>
 condM v62
 (joinM (fun M_37=>(oM prog (.build 147 #[(0,(.tmp 0)),(1,(.tmp 1))]) 147 [a1,(l_31.getD 0 undef)] (fun v67=>
 kA 147 fun v12=>
 kS 147 v12 v67 fun _ w=>
 stageM w fun C_41 w=>(pureH a0 (upto C_41 0) fun v68=>
 oH prog (.nilCheck (.tmp 0)) 0 [v68] (upto C_41 0) fun v69=>
 jF 145 2 v69 (upto C_41 0) fun v70=>
 jL 143 v70 (upto C_41 0) fun v71=>
 jL 147 v12 (upto C_41 0) fun v72=>
 oH prog (.lookup 143 (.tmp 0) (.tmp 1) false) 4 [v71,v72] (upto C_41 0) fun v73=>
 jU v73 (upto C_41 0) fun v74=>
 condM v74
 (stageM w fun C_49 w=>(pureH a0 (upto C_49 2) fun v75=>
 pureH a0 (upto C_49 2) fun v76=>
 oH prog (.nilCheck (.tmp 0)) 0 [v76] (upto C_49 2) fun v77=>
 jF 145 2 v77 (upto C_49 2) fun v78=>
 jL 143 v78 (upto C_49 2) fun v79=>
 jL 147 v12 (upto C_49 5) fun v80=>
 pureH a0 (upto C_49 1) fun v81=>
 oH prog (.nilCheck (.tmp 0)) 0 [v81] (upto C_49 1) fun v82=>
 jF 145 1 v82 (upto C_49 1) fun v83=>
 jL 142 v83 (upto C_49 1) fun v84=>
 jL 147 v12 (upto C_49 0) fun v85=>
 oM prog (.buildSlice 142 1 #[(0,(.tmp 0))]) 142 [v85] (fun v86 w=>C_49 1 w ∧ (
 oM prog (.call (Go.Call.mk (.builtin .append) #[(.tmp 0),(.tmp 1)] #[142,142])) 142 [v84,v86] (fun v87 w=>C_49 2 w ∧ (
 oM prog (.nilCheck (.tmp 0)) 0 [v75] (fun v88 w=>C_49 3 w ∧ (
 kF 145 1 v88 (fun v89 w=>C_49 4 w ∧ (
 kS 142 v89 v87 (fun _ w=>C_49 5 w ∧ (
 oM prog (.mapEntry 143 (.tmp 0) (.tmp 1)) 0 [v79,v80] (fun v90 w=>C_49 6 w ∧ (
 kE 1 3 v90 (fun v91 w=>C_49 7 w ∧ (
 oM prog (.entryStore 143 (.tmp 0) (.tmp 1) (.tmp 2)) 0 [v79,v91,(.bool true)] (fun _ w=>C_49 8 w ∧ (
 M_37 [] w)) w)) w)) w)) w)) w)) w)) w)) w))
 (M_37 [] w))) w))
 fun l_38 u_l_38 w=>(kB .add 3 3 (l_31.getD 0 undef) (.int .i64 1) (fun v64=>
 kJ J_29 m_30 l_31 w0_l_31 [v64]) w))
 (K (.int .i64 0) w)) w)) w0_l_31) w)) w)))) w) w) w) w) w))) w
theorem sh_198_ok (h:sh_198 a0 a1 a2 a3 K w):callM prog 198 #[a0,a1,a2,a3] K w:=
 cZ (fun _=>3) func198 h
def sh_204 (a0 a1:Value) (K:VK) (w:World):Prop:=
 kN 142 a0 (fun v7=>
 kQ [undef,(.int .i64 0),(.int .i64 0)] fun J_2 m_3 l_4 u_l_4 w0_l_4=>(fun w=>(
 kB .lss 3 0 (l_4.getD 2 undef) v7 (fun v9=>
 kO v9 (kI 142 a0 (l_4.getD 2 undef) fun v14=>
 kL 147 v14 fun v15=>
 oM prog (.call (Go.Call.mk (.value (.tmp 0)) #[(.tmp 1)] #[147])) 4 [a1,v15] fun v16=>
 kO v16 (K (l_4.getD 2 undef))
 (kB .add 3 3 (l_4.getD 2 undef) (.int .i64 1) fun v18=>
 kJ J_2 m_3 l_4 w0_l_4 [(l_4.getD 2 undef),(l_4.getD 1 undef),v18]))
 (K (.int .i64 (-1)))) w)) w0_l_4) w
theorem sh_204_ok (h:sh_204 a0 a1 K w):callM prog 204 #[a0,a1] K w:=
 cZ (fun _=>0) func204 h
variable {a0 a1:Value} {K:VK} {w:World}
def sh_170 (a0:Value) (K:VK) (w:World):Prop:=
 kN 9 a0 (fun v6=>
 kQ [undef,(.int .i64 0),(.int .i64 0)] fun J_2 m_3 l_4 u_l_4 w0_l_4=>(fun w=>(
 kB .lss 3 4 (l_4.getD 2 undef) v6 (fun v8=>
 kO v8 (oM prog (.index 9 (.tmp 0) (.tmp 1)) 5 [a0,(l_4.getD 2 undef)] fun v13=>
 oM prog (.convert 5 3 (.tmp 0)) 3 [v13] fun v14=>
 kB .add 3 3 (l_4.getD 2 undef) (.int .i64 1) fun v16=>
 kB .mul 3 3 v14 v16 fun v17=>
 kB .add 3 3 (l_4.getD 1 undef) v17 fun v18=>
 kB .add 3 3 (l_4.getD 2 undef) (.int .i64 1) fun v19=>
 kJ J_2 m_3 l_4 w0_l_4 [(l_4.getD 2 undef),v18,v19])
 (K (l_4.getD 1 undef))) w)) w0_l_4) w
theorem sh_170_ok (h:sh_170 a0 K w):callM prog 170 #[a0] K w:=
 cZ (fun _=>0) func170 h
def sh_156 (a0:Value) (K:VK) (w:World):Prop:=
 callM prog 64 #[a0] (fun v4=>
 callM prog 170 #[a0] fun v6=>
 callM prog 62 #[v6] fun v7=>
 kB .add 9 9 v4 v7 fun v8=>
 K v8) w
theorem sh_156_ok (h:sh_156 a0 K w):callM prog 156 #[a0] K w:=
 cZ (fun _=>0) func156 h
def sh_129 (a0:Value) (K:VK) (w:World):Prop:=
 joinM (fun M_1=>(kQ [undef,undef,undef,undef,undef,(.slice none 0 0),(.int .i64 0)] (fun J_3 m_4 l_5 u_l_5 w0_l_5=>(fun w=>(
 kN 9 a0 (fun v12=>
 kB .lss 3 4 (l_5.getD 6 undef) v12 fun v13=>
 kO v13 (oM prog (.slice 9 (.tmp 0) (some (.tmp 1)) none none) 9 [a0,(l_5.getD 6 undef)] fun v16=>
 callM prog 57 #[v16] fun v17=>
 callM prog 67 #[v17] fun v19=>
 callM prog 66 #[v17] fun v21=>
 callM prog 156 #[v19] fun v23 w=>
 joinM (fun M_13=>(kN 9 v19 (fun v26=>
 kB .gtr 3 4 v26 (.int .i64 20000) fun v27=>
 kO v27 (M_13 [v27])
 (callM prog 170 #[v19] fun v30=>
 kB .neq 3 4 v21 v30 fun v31=>
 kO v31 (M_13 [v31])
 (kN 9 a0 fun v33=>
 kB .sub 3 3 v33 (l_5.getD 6 undef) fun v35=>
 kN 9 v23 fun v37=>
 kB .lss 3 4 v35 v37 fun v38=>
 kO v38 (M_13 [v38])
 (kN 9 v23 fun v43=>
 kB .add 3 3 (l_5.getD 6 undef) v43 fun v44=>
 oM prog (.slice 9 (.tmp 0) (some (.tmp 1)) (some (.tmp 2)) none) 9 [a0,(l_5.getD 6 undef),v44] fun v45=>
 kB .neq 9 4 v45 v23 fun v47=>
 M_13 [v47])))) w))
 fun l_14 u_l_14 w=>(kO (l_14.getD 0 undef) (M_1 [v17,v19,v21,v23,(l_14.getD 0 undef),(l_5.getD 5 undef),(l_5.getD 6 undef)])
 (oM prog (.buildSlice 157 1 #[(0,(.tmp 0))]) 157 [v19] fun v50=>
 oM prog (.call (Go.Call.mk (.builtin .append) #[(.tmp 0),(.tmp 1)] #[157,157])) 157 [(l_5.getD 5 undef),v50] fun v51=>
 kN 9 v23 fun v54=>
 kB .add 3 3 (l_5.getD 6 undef) v54 fun v55=>
 kJ J_3 m_4 l_5 w0_l_5 [v17,v19,v21,v23,(l_14.getD 0 undef),v51,v55]) w))
 (M_1 [(l_5.getD 0 undef),(l_5.getD 1 undef),(l_5.getD 2 undef),(l_5.getD 3 undef),(l_5.getD 4 undef),(l_5.getD 5 undef),(l_5.getD 6 undef)])) w)) w0_l_5) w))
 fun l_2 u_l_2 w=>(K (.tuple #[(l_2.getD 5 undef),(l_2.getD 6 undef)]) w)
theorem sh_129_ok (h:sh_129 a0 K w):callM prog 129 #[a0] K w:=
 cZ (fun _=>0) func129 h
def sh_80 (a0 a1:Value) (K:VK) (w:World):Prop:=
 kB .lss 3 4 a1 (.int .i64 0) (fun v13 w=>
 gF v13 (pureM a1) (fun v15 w=>
 gF v13 (kB .gtr 3 4 v15 (.int .i64 15)) (fun v16=>
 kP v13 (.bool true) v16 fun v17=>
 kO v17 (K (.tuple #[(.pointer none),(.int .i64 1)]))
 (callM prog 69 #[a0,a1] fun v20=>
 kC .neq 62 0 4 v20 fun v22=>
 kO v22 (K (.tuple #[(.pointer none),v20]))
 (callM prog 128 #[a0,a1] fun v29=>
 callM prog 127 #[a0,a1,(.int .i64 0),v29] fun v30=>
 kE 0 9 v30 fun v31=>
 kE 1 62 v30 fun v32=>
 kC .neq 62 0 4 v32 fun v34=>
 kO v34 (K (.tuple #[(.pointer none),v32]))
 (callM prog 129 #[v31] fun v38=>
 kE 0 157 v38 fun v39=>
 kE 1 3 v38 fun v40 w=>
 joinM (fun M_15=>(kN 9 v31 (fun v43=>
 kB .lss 3 4 v40 v43 fun v44=>
 kO v44 (callM prog 130 #[a0,a1,v40] fun v48=>
 kC .neq 62 0 4 v48 fun v50=>
 kO v50 (K (.tuple #[(.pointer none),v48]))
 (M_15 [v48,(.pointer none),(.int .i64 0)]))
 (M_15 [undef,(.pointer none),(.int .i64 0)])) w))
 fun l_16 u_l_16 w=>(oM prog (.build 212 #[(0,(.tmp 0)),(1,(.tmp 1)),(2,(.tmp 2)),(3,(.tmp 3))]) 212 [a0,a1,v39,v40] (fun v56=>
 oM prog (.box 212 (.tmp 0)) 134 [v56] fun v57=>
 K (.tuple #[v57,(.int .i64 0)])) w))))) w) w) w
theorem sh_80_ok (h:sh_80 a0 a1 K w):callM prog 80 #[a0,a1] K w:=
 cZ (fun _=>0) func80 h
def sh_106 (a0 a1:Value) (K:VK) (w:World):Prop:=
 callM prog 156 #[a1] (fun v8=>
 oM prog (.nilCheck (.tmp 0)) 0 [a0] fun v11=>
 kF 212 4 v11 fun v12=>
 kL 4 v12 fun v13=>
 kO v13 (K (.int .i64 7))
 (kN 9 a1 fun v16=>
 kB .gtr 3 4 v16 (.int .i64 20000) fun v17=>
 kO v17 (K (.int .i64 3))
 (oM prog (.nilCheck (.tmp 0)) 0 [a0] fun v20=>
 kF 212 3 v20 fun v21=>
 kL 3 v21 fun v22=>
 kN 9 v8 fun v24=>
 kB .add 3 3 v22 v24 fun v25=>
 kB .gtr 3 4 v25 (.int .i64 1048576) fun v26=>
 kO v26 (K (.int .i64 6))
 (kH fun C_13 w=>(((true:Bool) = true) ∧ (pureH a0 C_13 fun v27=>
 oH prog (.nilCheck (.tmp 0)) 0 [v27] C_13 fun v28=>
 jF 212 0 v28 C_13 fun v29=>
 jL 55 v29 C_13 fun v30=>
 pureH a0 C_13 fun v31=>
 oH prog (.nilCheck (.tmp 0)) 0 [v31] C_13 fun v32=>
 jF 212 1 v32 C_13 fun v33=>
 jL 3 v33 C_13 fun v34=>
 pureH a0 C_13 fun v35=>
 oH prog (.nilCheck (.tmp 0)) 0 [v35] C_13 fun v36=>
 jF 212 3 v36 C_13 fun v37=>
 jL 3 v37 C_13 fun v38=>
 pureH v8 C_13 fun v39=>
 ∃ S_27:World → WK,∀ w,C_13 w → (
 callM prog 157 #[v30,v34,v38,v39] (fun v40=>
 kC .neq 62 0 4 v40 fun v42 w=>
 condM v42
 (oM prog (.nilCheck (.tmp 0)) 0 [a0] (fun v44=>
 kF 212 4 v44 fun v45=>
 kS 4 v45 (.bool true) fun _=>
 K v40) w)
 (stageM w fun C_32 w=>(pureH a0 (upto C_32 2) fun v47=>
 pureH a0 (upto C_32 5) fun v48=>
 pureH a0 (upto C_32 1) fun v49=>
 oH prog (.nilCheck (.tmp 0)) 0 [v49] (upto C_32 1) fun v50=>
 jF 212 2 v50 (upto C_32 1) fun v51=>
 jL 157 v51 (upto C_32 1) fun v52=>
 pureH a1 (upto C_32 0) fun v53=>
 pureH a0 (upto C_32 2) fun v56=>
 oH prog (.nilCheck (.tmp 0)) 0 [v56] (upto C_32 2) fun v57=>
 jF 212 3 v57 (upto C_32 2) fun v58=>
 jL 3 v58 (upto C_32 2) fun v59=>
 pureH v8 (upto C_32 5) fun v60=>
 jN 9 v60 (upto C_32 5) fun v61=>
 jB .add 3 3 v59 v61 (upto C_32 5) fun v62=>
 oM prog (.buildSlice 157 1 #[(0,(.tmp 0))]) 157 [v53] (fun v54 w=>C_32 1 w ∧ (
 oM prog (.call (Go.Call.mk (.builtin .append) #[(.tmp 0),(.tmp 1)] #[157,157])) 157 [v52,v54] (fun v55 w=>C_32 2 w ∧ (
 oM prog (.nilCheck (.tmp 0)) 0 [v47] (fun v63 w=>C_32 3 w ∧ (
 kF 212 2 v63 (fun v64 w=>C_32 4 w ∧ (
 kS 157 v64 v55 (fun _ w=>C_32 5 w ∧ (
 oM prog (.nilCheck (.tmp 0)) 0 [v48] (fun v65 w=>C_32 6 w ∧ (
 kF 212 3 v65 (fun v66 w=>C_32 7 w ∧ (
 kS 3 v66 v62 (fun _ w=>C_32 8 w ∧ (
 K (.int .i64 0) w)) w)) w)) w)) w)) w)) w)) w)) w))) w))))))) w
theorem sh_106_ok (h:sh_106 a0 a1 K w):callM prog 106 #[a0,a1] K w:=
 cZ (mz [(8,fz 13 0 2),(12,3)]) func106 h
def sh_100 (a0:Value) (K:VK) (w:World):Prop:=
 oM prog (.nilCheck (.tmp 0)) 0 [a0] (fun v5=>
 kF 212 4 v5 fun v6=>
 kL 4 v6 fun v7=>
 kO v7 (K (.int .i64 7))
 (kH fun C_4 w=>(((true:Bool) = true) ∧ (pureH a0 C_4 fun v8=>
 oH prog (.nilCheck (.tmp 0)) 0 [v8] C_4 fun v9=>
 jF 212 0 v9 C_4 fun v10=>
 jL 55 v10 C_4 fun v11=>
 pureH a0 C_4 fun v12=>
 oH prog (.nilCheck (.tmp 0)) 0 [v12] C_4 fun v13=>
 jF 212 1 v13 C_4 fun v14=>
 jL 3 v14 C_4 fun v15=>
 ∃ S_13:World → WK,∀ w,C_4 w → (
 callM prog 69 #[v11,v15] (fun v16=>
 kC .neq 62 0 4 v16 fun v19=>
 oM prog (.nilCheck (.tmp 0)) 0 [a0] fun v20=>
 kF 212 4 v20 fun v21=>
 kS 4 v21 v19 fun _=>
 K v16) w))))) w
theorem sh_100_ok (h:sh_100 a0 K w):callM prog 100 #[a0] K w:=
 cZ (fun _=>(fz 8 0 2)) func100 h
def sh_83 (a0:Value) (K:VK) (w:World):Prop:=
 oM prog (.nilCheck (.tmp 0)) 0 [a0] (fun v5=>
 kF 212 2 v5 fun v6=>
 kL 157 v6 fun v7=>
 kN 157 v7 fun v8=>
 oM prog (.makeSlice 157 (.tmp 0) (.tmp 1)) 157 [v8,v8] fun v9=>
 oM prog (.nilCheck (.tmp 0)) 0 [a0] fun v12=>
 kF 212 2 v12 fun v13=>
 kL 157 v13 fun v14=>
 oM prog (.call (Go.Call.mk (.builtin .copy) #[(.tmp 0),(.tmp 1)] #[157,157])) 3 [v9,v14] fun v15=>
 K v9) w
theorem sh_83_ok (h:sh_83 a0 K w):callM prog 83 #[a0] K w:=
 cZ (fun _=>0) func83 h
end Go.Proofs
namespace JnSpec
open CodeSpec DkSpec
variable {all sure:List Bs} {f:Int} {A:Ab} {j:Jn}
def LJ (f:Int) (A:Ab) (j:Jn) (all sure:List Bs):Prop:=(j.broken = false ∧ Live f A j all sure) ∨ (j.broken = true ∧ GoodJ f A all sure)
theorem LJ.good (h:LJ f A j all sure):GoodJ f A all sure:=h.elim (fun h=>h.2.good) (fun h=>h.2)
theorem putB_end (s t:Bs) (ht:t ≠ []):putB s s.length t = s ++ t:=by
 unfold putB
 rw [if_neg ht]
 have e:s.length + t.length - s.length = t.length:=by omega
 rw [e,List.take_left',List.drop_eq_nil_of_le (by simp),List.append_nil]
 rfl
theorem Live.add (h:Live f A j all sure) (hf:0 ≤ f ∧ f ≤ 15) {t:Bs} (ht:t.length ≤ 20000) (hb:j.bytes + (form t).length ≤ 1048576) {A':Ab} (hF:A'.F = A.F) (hw:WF A') (hd:A'.down = A.down) :
  Live f (addA A' f j.bytes (form t)) ⟨j.recs ++ [t],j.bytes + (form t).length,false⟩ (all ++ [t]) sure:=by
 have hne:form t ≠ []:=List.length_pos_iff.1 (form_pos t)
 have hw2:=addA_wf hw f j.bytes (form t) (by omega) (by omega)
 have e:(addA A' f j.bytes (form t)).F f = (formL (j.recs ++ [t]),(A.F f).2):=by
  unfold addA
  rw [if_neg hne]
  show setF A'.F f _ f = _
  rw [setF_same,hF,h.x,h.bytes,putB_end _ _ hne,formL_append]
  simp [formL]
 have hg:=h.good.more ht
 refine ⟨⟨hw2,hg.few,hg.sub,?_,?_⟩,by rw [h.recs],h.pre.trans (List.prefix_append _ _),by rw [e],?_,?_⟩
 ·rw [e,h.recs]; exact Ok.own (h.pre.trans (List.prefix_append _ _))
 ·rw [e]; exact hg.y
 ·dsimp only
  rw [formL_append,List.length_append,h.bytes]
  simp [formL]
 ·have:(addA A' f j.bytes (form t)).down = A'.down:=by
   unfold addA; rw [if_neg hne]
  rw [this,hd]; exact h.up
theorem write_val {A:Ab} (hd:A.down = false) (hf:0 ≤ f ∧ f ≤ 15) {n:Nat} {s:Bs} (hb:n + s.length ≤ 16777216) :
  ((writeA A f n s).1 = 0 ∧ (writeA A f n s).2 = addA (endsA A).2 f n s) ∨ ((writeA A f n s).1 = 8 ∧ ∃ keep,(writeA A f n s).2 = crashA (addA (endsA A).2 f n s) keep):=by
 have hw:wrA (endsA A).2 f n s = (0,addA (endsA A).2 f n s):=by
  unfold wrA
  rw [mayA_up (by rw [(endsA_same A).2.1]; exact hd) (by omega),if_neg (by simp),if_neg (by omega),if_neg (by omega)]
  simp
 unfold writeA
 rw [hw]
 split
 ·exact .inr ⟨rfl,_,rfl⟩
 ·exact .inl ⟨rfl,rfl⟩
theorem append_spec (h:LJ f A j all sure) (hf:0 ≤ f ∧ f ≤ 15) (t:Bs) :
  ((appendJ A f j t).1 = 0 ∧ (appendJ A f j t).2.2.recs = j.recs ++ [t] ∧ LJ f (appendJ A f j t).2.1 (appendJ A f j t).2.2 (all ++ [t]) sure) ∨
  ((appendJ A f j t).1 = 8 ∧ (appendJ A f j t).2.2.recs = j.recs ∧ LJ f (appendJ A f j t).2.1 (appendJ A f j t).2.2 (all ++ [t]) sure) ∨
  (((appendJ A f j t).1 = 7 ∨ (appendJ A f j t).1 = 3 ∨ (appendJ A f j t).1 = 6) ∧ (appendJ A f j t).2.2.recs = j.recs ∧ LJ f (appendJ A f j t).2.1 (appendJ A f j t).2.2 all sure):=by
 rcases h with ⟨hb,hl⟩ | ⟨hb,hg⟩
 ·unfold appendJ
  rw [if_neg (by rw [hb]; simp)]
  by_cases h1:20000 < t.length
  ·rw [if_pos h1]; exact .inr (.inr ⟨.inr (.inl rfl),rfl,.inl ⟨hb,hl⟩⟩)
  rw [if_neg h1]
  by_cases h2:1048576 < j.bytes + (form t).length
  ·rw [if_pos h2]; exact .inr (.inr ⟨.inr (.inr rfl),rfl,.inl ⟨hb,hl⟩⟩)
  rw [if_neg h2]
  have ha:=hl.add hf (t:=t) (by omega) (by omega) (A':=(endsA A).2) (endsA_same A).1 (endsA_wf hl.good.wf) (endsA_same A).2.1
  rcases write_val hl.up hf (n:=j.bytes) (s:=form t) (by omega) with ⟨w1,w2⟩ | ⟨w1,keep,w2⟩
  ·rw [if_neg (by rw [w1]; simp)]
   refine .inl ⟨rfl,rfl,.inl ⟨rfl,?_⟩⟩
   dsimp only
   rw [w2]; exact ha
  ·rw [if_pos (by rw [w1]; simp)]
   refine .inr (.inl ⟨w1,rfl,.inr ⟨rfl,?_⟩⟩)
   dsimp only
   rw [w2]; exact ha.good.crash keep
 ·unfold appendJ
  rw [if_pos hb]
  exact .inr (.inr ⟨.inl rfl,rfl,.inr ⟨hb,hg⟩⟩)
theorem sync_spec (h:LJ f A j all sure) (hf:0 ≤ f ∧ f ≤ 15) :
  (syncJ A f j).2.2.recs = j.recs ∧ (((syncJ A f j).1 = 0 ∧ LJ f (syncJ A f j).2.1 (syncJ A f j).2.2 all j.recs) ∨ ((syncJ A f j).1 ≠ 0 ∧ LJ f (syncJ A f j).2.1 (syncJ A f j).2.2 all sure)):=by
 rcases h with ⟨hb,hl⟩ | ⟨hb,hg⟩
 ·have hs:=hl.good.sync
  unfold syncJ
  rw [if_neg (by rw [hb]; simp)]
  dsimp only
  refine ⟨rfl,?_⟩
  by_cases he:(syncA A f).1 = 0
  ·refine .inl ⟨he,.inl ⟨by simp [he],?_⟩⟩
   obtain ⟨_,_,hd,hfi,_,_⟩:=sync_ok hl.good.wf he
   have hF:=hfi.1
   rw [hl.x] at hF
   have hfew:=hl.good.few
   have hrec:=hl.recs
   have ho:Ok all j.recs (formL j.recs):=by rw [hrec]; exact Ok.own (List.prefix_refl _)
   exact ⟨⟨hs.wf,hs.few,by rw [hrec]; exact List.prefix_refl _,by rw [hF]; exact ho,by rw [hF]; exact ho⟩,hrec,List.prefix_refl _,by rw [hF],hl.bytes,hd⟩
  ·exact .inr ⟨he,.inr ⟨by simp [he],hs⟩⟩
 ·unfold syncJ
  rw [if_pos hb]
  exact ⟨rfl,.inr ⟨by simp,.inr ⟨hb,hg⟩⟩⟩
theorem GoodJ.start (h:GoodJ f A all sure):GoodJ f (startA A) all sure:=h.same (startA_wf h.wf) rfl
theorem Live.same (h:Live f A j all sure) {B:Ab} (hg:GoodJ f B all sure) (hF:B.F = A.F) (hd:B.down = A.down):Live f B j all sure:=⟨hg,h.recs,h.pre,by rw [hF]; exact h.x,h.bytes,by rw [hd]; exact h.up⟩
theorem good_start (f:Int):GoodJ f newA [] []:=⟨newA_wf,(fun t ht=>by cases ht),List.prefix_refl _,⟨trivial,List.nil_prefix⟩,⟨trivial,List.nil_prefix⟩⟩
end JnSpec
namespace JnSpec
open CodeSpec
theorem sumFrom_append (a b:Bytes):∀ i:Nat,sumFrom i (a ++ b) = sumFrom i a + sumFrom (i + a.length) b:=by
 induction a with
 | nil=>intro i; simp [sumFrom]
 | cons c a ih=>
  intro i
  simp only [List.cons_append,sumFrom,List.length_cons]
  rw [ih (i + 1)]
  have:i + 1 + a.length = i + (a.length + 1):=by omega
  rw [this]
  omega
theorem sum_take (s:Bytes) (i:Nat) (h:i < s.length):sumR (s.take (i + 1)) = sumR (s.take i) + (s[i].toNat:Int) * ((i:Int) + 1):=by
 have e:s.take (i + 1) = s.take i ++ [s[i]]:=by rw [List.take_add_one,List.getElem?_eq_getElem h]; rfl
 unfold sumR
 have hl:(s.take i).length = i:=by rw [List.length_take]; omega
 rw [e,sumFrom_append,Nat.zero_add,hl]
 simp only [sumFrom]
 omega
theorem sum_take_bound {s:Bytes} (hs:s.length ≤ 16777216) (i:Nat):0 ≤ sumR (s.take i) ∧ sumR (s.take i) < 9223372036854775807:=by
 have h1:=sumR_InR (s:=s.take i) (by rw [List.length_take]; omega)
 have h2:=sumR_bound (s.take i)
 have h3:=sq_le (n:=(s.take i).length) (m:=16777216) (by rw [List.length_take]; omega)
 have:(255:Int) * (16777216:Nat) * (16777216:Nat) < 9223372036854775807:=by decide
 exact ⟨h1.2,by omega⟩
theorem form_len {s:Bytes} (hs:s.length ≤ 16777216):(form s).length ≤ s.length + 64:=by
 have h1:=(sumR_InR hs)
 have h2:=decDigits_len s.length 20 (by omega) (by omega)
 have h3:=decDigits_len (sumR s).toNat 20 (by omega) (by have:=h1.1.2; omega)
 have e1:Go.Lib.itoa (s.length:Int) = Go.Lib.decDigits s.length:=by
  unfold Go.Lib.itoa
  rw [if_neg (by omega)]
  simp
 have e2:Go.Lib.itoa (sumR s) = Go.Lib.decDigits (sumR s).toNat:=by
  unfold Go.Lib.itoa
  rw [if_neg (by omega)]
 rw [form_split]
 simp only [List.length_append,List.length_cons,List.length_nil,e1,e2]
 omega
end JnSpec
namespace Go.Proofs
open Go Go.Sh Go.RowKit CodeSpec JnSpec
section
variable {K:VK} {w w0:World} {L:List (Addr × Value)}
def SuJ (s:List UInt8) (w0:World) (vs:List Value) (w':World):Prop:=w' = w0 ∧ ∃ (u:Value) (i:Nat),vs = [u,.int .i64 (sumR (s.take i)),.int .i64 (i:Int)] ∧ i ≤ s.length
def suMu (n:Nat):List Value → World → Nat
 | [_,_,.int _ i],_=>n - i.toNat
 | _,_=>0
theorem suMu_eq (n:Nat) (a b:Value) (k:IntKind) (i:Int) (w:World):suMu n [a,b,.int k i] w = n - i.toNat:=rfl
theorem Sum_ok (s:List UInt8) (hs:s.length ≤ 16777216) (k:K (.int .i64 (sumR s)) w):callM Tryz.prog 170 #[.string ⟨s.toArray⟩] K w:=by
 apply sh_170_ok
 unfold sh_170
 repeat (any_goals ((with_reducible refine oG fun X Y=>?_); simp [go_sem]; apply Y; clear Y X))
 refine ⟨SuJ s w,suMu s.length,⟨rfl,undef,0,rfl,by omega⟩,?_⟩
 rintro _ _ _ ⟨rfl,u,i,rfl,hi⟩
 by_cases hin:i = s.length
 ·rw [List.take_of_length_le (by omega)]
  repeat (any_goals (first
  | (with_reducible refine yO ?_)
  | ((with_reducible refine oG fun X Y=>?_); simp [go_sem]; apply Y; clear Y X)))
  exact k
 have hlt:i < s.length:=by omega
 have hb:=sum_take_bound hs (i + 1)
 have hb0:=sum_take_bound hs i
 rw [sum_take s i hlt] at hb
 repeat (any_goals (first
 | (with_reducible refine yN ?_)
 | ((with_reducible refine oG fun X Y=>?_); simp [go_sem]; (try simp (disch:=omega) only [wrapI64,wrapU8,wrapU32,wrapU64]); (first|refine Y _ _ ?_|refine And.intro (by omega) (Y _ _ ?_)); clear Y X)))
 have ec:s[i]?.getD 0 = s[i]:=by rw [gE hlt]; rfl
 have hst:=sum_take s i hlt
 rw [ec]
 have hc:=s[i].toNat_lt
 generalize s[i].toNat = c at *
 have hp:0 ≤ (c:Int) * ((i:Int) + 1):=Int.mul_nonneg (by omega) (by omega)
 have e1:IntKind.i64.wrap (c:Int) = c:=by rw [wrapI64] <;> omega
 rw [e1]
 generalize (c:Int) * ((i:Int) + 1) = p at *
 have e2:IntKind.i64.wrap p = p:=by rw [wrapI64] <;> omega
 rw [e2]
 have e3:IntKind.i64.wrap (sumR (s.take i) + p) = sumR (s.take i) + p:=by rw [wrapI64] <;> omega
 rw [e3,← hst]
 refine ⟨⟨rfl,_,i + 1,rfl,by omega⟩,?_⟩
 simp only [suMu_eq]; omega
theorem form_ok (s:List UInt8) (hs:s.length ≤ 16777216) (hl:Cd.LaidE w) (k:∀ w',Bw w w' → K (.string ⟨(form s).toArray⟩) w'):callM Tryz.prog 156 #[.string ⟨s.toArray⟩] K w:=by
 apply sh_156_ok
 unfold sh_156
 refine Cd.pText_ok s (by omega) hl.toLaid (fun w1 h1=>?_)
 refine Sum_ok s hs ?_
 refine Cd.pNum_ok (sumR s) (sumR_InR hs).1 (hl.below h1 hl.size).toLaid (fun w2 h2=>?_)
 have h1l:=Cd.encText_len s (by omega)
 have h3:=form_len hs
 have h4:(form s).length = (encText s).length + (encNum (sumR s)).length:=by simp [form]
 repeat (any_goals ((with_reducible refine oG fun X Y=>?_); simp [go_sem]; refine And.intro (by omega) (Y _ _ ?_); clear Y X))
 exact Cd.K_eq (k _ (h1.trans (h2.mono h1.size))) (by simp [form])
end
end Go.Proofs
namespace Go.Proofs
open Go Go.Sh Go.RowKit CodeSpec JnSpec Go.Lib
theorem below_own {w w2 w3:World} {B:Nat} {e:TypeId} {sz n:Nat} {v:Value} {xs:List Value} (h:Below B w w2) (hown:w2.ownsRow B e sz v n xs) (hB:B ≤ w2.heap.size) (hg:w2.grownBy w3 v.ownBlock):Below B w w3:=
 h.trans (Cd.below_of_grown hg hB (fun k hk=>by
  rcases hown.2 with ⟨rfl,_⟩ | ⟨g,cap,cur,rfl,hb,_⟩
  ·cases hk
  ·simp [Value.ownBlock] at hk; omega))
theorem rdText_le (s:List UInt8):(rdText ⟨s,false⟩).1.length ≤ s.length:=by
 rcases rdText_some ⟨s,false⟩ Rd.ok_good with h | ⟨t,u,h,h2,_⟩
 ·rw [h]; simp
 ·rw [h]
  have:=congrArg (fun r=>r.rest.length) h2
  simp [encText] at this ⊢
  omega
theorem rdText_rest_le (s:List UInt8):(rdText ⟨s,false⟩).2.rest.length ≤ s.length:=by
 rcases rdText_some ⟨s,false⟩ Rd.ok_good with h | ⟨t,u,h,h2,_⟩
 ·rw [h]; simp [failed]
 ·rw [h]
  have:=congrArg (fun r=>r.rest.length) h2
  simp [encText] at this ⊢
  omega
section
variable {K:VK} {w w0:World}
def RdJ (s:List UInt8) (w:World) (vs:List Value) (w':World):Prop:=∃ (a b c d e v:Value) (n:Nat) (xs:List (List UInt8)),vs = [a,b,c,d,e,v,.int .i64 (n:Int)] ∧ n ≤ s.length ∧ w'.ownsRow w.heap.size 9 1 v xs.length (xs.map Cd.strV) ∧ Bw w w' ∧ readJ s = (xs ++ (readJ (s.drop n)).1,n + (readJ (s.drop n)).2) ∧ xs.length ≤ n
def RdE (s:List UInt8) (w:World) (vs:List Value) (w':World):Prop:=∃ (a b c d e v:Value),vs = [a,b,c,d,e,v,.int .i64 (((readJ s).2:Nat):Int)] ∧ w'.ownsRow w.heap.size 9 1 v (readJ s).1.length ((readJ s).1.map Cd.strV) ∧ Bw w w'
def rdMu (m:Nat):List Value → World → Nat
 | [_,_,_,_,_,_,.int _ i],_=>m - i.toNat
 | _,_=>0
theorem rdMu_eq (m:Nat) (a b c d e v:Value) (k:IntKind) (i:Int) (w:World):rdMu m [a,b,c,d,e,v,.int k i] w = m - i.toNat:=rfl
theorem readJ_ok (s:List UInt8) (hs:s.length ≤ 16777216) (hl:Cd.LaidE w) (k:∀ v w',w'.ownsRow w.heap.size 9 1 v (readJ s).1.length ((readJ s).1.map Cd.strV) → Bw w w' → K (.tuple #[v,.int .i64 (readJ s).2]) w'):callM Tryz.prog 129 #[.string ⟨s.toArray⟩] K w:=by
 apply sh_129_ok
 unfold sh_129
 skip
 refine ⟨RdE s w,?_,?_⟩
 rotate_left
 ·rintro _ _ w2 ⟨_,_,_,_,_,v,rfl,hown,hb⟩
  simp only [List.getD_cons_zero,List.getD_cons_succ]
  exact k v w2 hown hb
 refine ⟨RdJ s w,rdMu s.length,⟨_,_,_,_,_,_,0,[],rfl,by omega,World.ownsRow_nil _ _ _ _,bR,by simp,by simp⟩,?_⟩
 rintro _ _ w2 ⟨_,_,_,_,_,v,n,xs,rfl,hn,hown,hb2,hrd,hxn⟩
 simp only [List.getD_cons_zero,List.getD_cons_succ]
 have hz2:=hb2.size
 by_cases hlt:n < s.length
 ·have hdl:(s.drop n).length = s.length - n:=by simp
  have htl:List.take s.length s = s:=List.take_length
  repeat (any_goals (first
  | (with_reducible refine yN ?_)
  | ((with_reducible refine oG fun X Y=>?_); simp [go_sem,htl]; (first|refine Y _ _ ?_|refine And.intro (by omega) (Y _ _ ?_)); clear Y X)))
  refine Cd.open_ok _ (fun w3 hr3 hb3=>?_)
  have hb23:=hb2.trans (hb3.mono hz2)
  have hz3:=hb3.size
  have hlt3:=hr3.lt
  have hl3:Cd.LaidE w3:=hl.below hb23 hl.size
  have hown3:=hown.kept (Cd.grown_of_below hb3 none) (by
   rcases hown.2 with ⟨rfl,_⟩ | ⟨g,cap,cur,rfl,_⟩
   ·left; rfl
   ·right; simp [Value.ownBlock])
  refine Cd.rtext_ok _ _ hl3 (by simp; omega) hr3 (fun w4 hr4 hg4=>?_)
  have ht:=rdText_le (s.drop n)
  have ht2:=rdText_rest_le (s.drop n)
  have hb4:Below w2.heap.size w3 w4:=Cd.below_of_grown hg4 (by omega) (fun k hk=>by cases hk; omega)
  have hz4:=hb4.size
  have hl4:Cd.LaidE w4:=hl3.below (hb4.mono hz2) hl.size
  refine Cd.rnum_ok _ _ hl4 (by omega) hr4 (fun w5 hr5 hg5=>?_)
  have hb5:Below w2.heap.size w4 w5:=Cd.below_of_grown hg5 (by omega) (fun k hk=>by cases hk; omega)
  have hz5:=hb5.size
  have hl5:Cd.LaidE w5:=hl4.below (hb5.mono hz2) hl.size
  obtain ⟨t,et⟩:∃ t,t = (rdText ⟨s.drop n,false⟩).1:=⟨_,rfl⟩
  obtain ⟨m,em⟩:∃ m,m = (rdNum (rdText ⟨s.drop n,false⟩).2).1:=⟨_,rfl⟩
  rw [← et,← em]
  rw [← et] at ht
  refine form_ok t (by omega) hl5 (fun w6 hb6=>?_)
  have hfl:=form_len (s:=t) (by omega)
  have hfp:=form_pos t
  have hz6:=hb6.size
  have hb36:Bw w2 w6:=(hb3.trans (hb4.trans (hb5.trans (hb6.mono (by omega)))))
  have hown6:=hown.kept (Cd.grown_of_below hb36 none) (by
   rcases hown.2 with ⟨rfl,_⟩ | ⟨g,cap,cur,rfl,_⟩
   ·left; rfl
   ·right; simp [Value.ownBlock])
  have hb06:=hb2.trans (hb36.mono hz2)
  have hf1:first (s.drop n) = if bad1 (s.drop n) t m then none else some t:=by rw [et,em]; rfl
  refine ⟨fun vs w'=>vs = [.bool (decide (bad1 (s.drop n) t m))] ∧ w' = w6,?_,?_⟩
  ·by_cases h1:20000 < t.length
   ·have hb:bad1 (s.drop n) t m:=.inl h1
    repeat (any_goals (first
    | (with_reducible refine yN ?_)
    | ((with_reducible refine oG fun X Y=>?_); simp [go_sem]; apply Y; clear Y X)))
    exact ⟨by simp [hb]; omega,rfl⟩
   ·by_cases h2:m = sumR t
    ·have e1:¬ (20000:Int) < t.length:=by omega
     repeat (any_goals (first
     | (with_reducible refine yO ?_)
     | ((with_reducible refine oG fun X Y=>?_); simp [go_sem]; apply Y; clear Y X)))
     refine Sum_ok t (by omega) ?_
     by_cases h3:(s.drop n).length < (form t).length
     ·have hb:bad1 (s.drop n) t m:=.inr (.inr (.inl h3))
      repeat (any_goals (first
      | (with_reducible ((refine idCond ?_); first|refine yN ?_|refine yR ?_))
      | ((with_reducible refine oG fun X Y=>?_); simp [go_sem]; (try simp (disch:=omega) only [wrapI64,wrapU8,wrapU32,wrapU64]); apply Y; clear Y X)))
      exact ⟨by simp [hb]; omega,rfl⟩
     ·have e4:((n:Int) + ((form t).length:Int)).toNat = n + (form t).length:=by omega
      have e5:(s.take (n + (form t).length)).drop n = (s.drop n).take (form t).length:=by
       rw [List.drop_take]
       congr 1
       omega
      have hb:bad1 (s.drop n) t m ↔ ¬ (s.drop n).take (form t).length = form t:=by
       unfold bad1
       constructor
       ·rintro (h | h | h | h)
        ·exact absurd h h1
        ·exact absurd h2 h
        ·exact absurd h h3
        ·exact h
       ·exact fun h=>.inr (.inr (.inr h))
      repeat (any_goals (first
      | (with_reducible ((refine idCond ?_); first|refine yO ?_|refine yR ?_))
      | ((with_reducible refine oG fun X Y=>?_); simp [go_sem]; (try simp (disch:=omega) only [wrapI64,wrapU8,wrapU32,wrapU64]); (first|refine Y _ _ ?_|refine And.intro (by omega) (Y _ _ ?_)); clear Y X)))
      refine ⟨?_,rfl⟩
      rw [e4,e5]
      simp [hb]
    ·have hb:bad1 (s.drop n) t m:=.inr (.inl h2)
     repeat (any_goals (first
     | (with_reducible refine yO ?_)
     | ((with_reducible refine oG fun X Y=>?_); simp [go_sem]; apply Y; clear Y X)))
     refine Sum_ok t (by omega) ?_
     repeat (any_goals (first
     | (with_reducible refine yQ ?_)
     | ((with_reducible refine oG fun X Y=>?_); simp [go_sem]; apply Y; clear Y X)))
     exact ⟨by simp [hb]; exact h2,rfl⟩
  ·rintro _ _ w7 ⟨rfl,rfl⟩
   simp only [List.getD_cons_zero]
   by_cases hbad:bad1 (s.drop n) t m
   ·rw [if_pos hbad] at hf1
    rw [readJ_none hf1] at hrd
    simp only [hbad,decide_true]
    repeat (any_goals (with_reducible refine yL ?_))
    have e2:(readJ s).2 = n:=by rw [hrd]; rfl
    have e3:(readJ s).1 = xs:=by rw [hrd]; simp
    unfold RdE
    rw [e2,e3]
    exact ⟨_,_,_,_,_,v,rfl,hown6,hb06⟩
   ·rw [if_neg hbad] at hf1
    have hfs:=first_some hf1
    rw [readJ_some hf1] at hrd
    simp only [hbad,decide_false]
    have hl1:=congrArg List.length hfs.2
    rw [List.length_append] at hl1
    have hby:(xs.length + 1) * Tryz.t9.bytes ≤ 140737488355328:=by
     have:Tryz.t9.bytes = 16:=by kernel_rfl
     rw [this]
     omega
    repeat (any_goals (first
    | (with_reducible refine yM ?_)
    | ((with_reducible refine oG fun X Y=>?_); simp [go_sem]; apply Y; clear Y X)))
    refine oM_append_new (base:=w.heap.size) (n:=xs.length) (xs:=xs.map Cd.strV) (i:=Tryz.t9) (z:=.string ⟨#[]⟩) (cs:=#[Cd.strV t]) Tryz.underlying157 (by kernel_rfl) (by kernel_rfl) rfl rfl (by simp) (by simp [Value.oneCell',Cd.strV]) hown6 (by omega) (by unfold maxLen; omega) hby ?_
    intro v' w8 ho8 hg8
    repeat (any_goals ((with_reducible refine oG fun X Y=>?_); simp [go_sem]; (try simp (disch:=omega) only [wrapI64,wrapU8,wrapU32,wrapU64]); apply Y; clear Y X))
    refine ⟨⟨_,_,_,_,_,v',n + (form t).length,xs ++ [t],rfl,by omega,by simpa using ho8,below_own hb06 hown6 (by omega) hg8,?_,by simp; omega⟩,by simp only [rdMu_eq]; omega⟩
    rw [hrd,List.drop_drop]
    simp [Nat.add_assoc]
 ·obtain rfl:n = s.length:=by omega
  have e0:readJ (s.drop s.length) = ([],0):=by rw [List.drop_length]; exact readJ_none first_nil
  rw [e0] at hrd
  repeat (any_goals (first
  | (with_reducible refine yM ?_)
  | ((with_reducible refine oG fun X Y=>?_); simp [go_sem]; apply Y; clear Y X)))
  have e2:(readJ s).2 = s.length:=by rw [hrd]; rfl
  have e3:(readJ s).1 = xs:=by rw [hrd]; simp
  unfold RdE
  rw [e2,e3]
  exact ⟨_,_,_,_,_,v,rfl,hown,hb2⟩
end
end Go.Proofs
namespace Go.Proofs
open Go Go.Sh Go.RowKit DkSpec
@[reducible] def bsV (s:Bs):Value:=.string ⟨s.toArray⟩
def flV (x:Bs × Bs):Value:=.agg #[bsV x.1,bsV x.2]
def i64V (n:Int):Value:=.int .i64 n
def secV (p:Int × Int):Value:=.agg #[.int .i64 p.1,.int .i64 p.2]
def secC (p:Int × Int):List Value:=[.int .i64 p.1,.int .i64 p.2]
theorem keyI:KeyOK Tryz.prog 3 i64V:=keyInt (by kernel_rfl)
theorem keyS:KeyOK Tryz.prog 147 secV where
 find:=fun w k es ks h=>by
  refine (run_findKey_eq w (by kernel_rfl) _ _).trans ?_
  have:=findAsk_pair (P:=Tryz.prog) (kt:=147) secV (fun w a b=>by
   simp [Op.equal,Op.maxDepth,secV,go_sem]
   obtain ⟨a1,a2⟩:=a
   obtain ⟨b1,b2⟩:=b
   by_cases h1:a1 = b1 <;> by_cases h2:a2 = b2 <;> simp [h1,h2]) w k es ks 0 h
  simpa using this
 check:=fun b w k=>by
  have h:∀ n,(Instr.checkKey b (n + 2) 147 (secV k)).run Tryz.prog w = .ok () w:=by
   intro n
   simp [Instr.checkKey,secV,go_sem]
  exact h 9998
 same:=fun k=>by simp [secV,Instr.sameBits]
structure Dk where
 fm:Nat
 sm:Nat
 q:Value
 kp:Value
def dkCells (A:Ab) (h:Dk):Array Value:=#[.map (some h.fm),h.q,.map (some h.sm),.int .i64 A.lost,.bool A.down,.int .i64 A.armed,h.kp]
structure IsDk (w:World) (b:Nat) (A:Ab) (h:Dk):Prop where
 blk:w.heap[b]? = some (.cells (dkCells A h) 145 (0,0))
 files:∃ l,MapIs i64V w h.fm l ∧ ∀ f,(lookA l f).getD (flV ([],[])) = flV (A.F f)
 set:∃ sl,MapIs secV w h.sm sl ∧ ∀ p,lookA sl p = if p ∈ A.queue then some (.bool true) else none
 que:w.ownsRow 0 147 2 h.q A.queue.length (flat secC A.queue)
 kep:w.ownsRow 0 3 1 h.kp A.keep.length (A.keep.map i64V)
 ne:h.fm ≠ h.sm
 wf:WF A
def Own (b:Nat) (h:Dk) (i:Nat):Prop:=i = b ∨ i = h.fm ∨ i = h.sm ∨ h.q.ownBlock = some i
def Rdb (h:Dk) (i:Nat):Prop:=h.kp.ownBlock = some i
structure Step (w:World) (b:Nat) (h:Dk) (w':World) (h':Dk):Prop where
 fr:Fr (Own b h) w w'
 own:∀ i,Own b h' i → Own b h i ∨ w.heap.size ≤ i
 rd:∀ i,Rdb h' i → Rdb h i ∨ w.heap.size ≤ i
theorem Step.refl (w:World) (b:Nat) (h:Dk):Step w b h w h:=⟨Fr.refl _ _,fun _ h=>.inl h,fun _ h=>.inl h⟩
theorem Step.trans {w w1 w2:World} {b:Nat} {h h1 h2:Dk} (a:Step w b h w1 h1) (c:Step w1 b h1 w2 h2):Step w b h w2 h2:=
 ⟨a.fr.trans c.fr a.own,fun i hi=>(c.own i hi).elim (a.own i) (fun h=>.inr (Nat.le_trans a.fr.size h)),fun i hi=>(c.rd i hi).elim (a.rd i) (fun h=>.inr (Nat.le_trans a.fr.size h))⟩
section
variable {w w':World} {b:Nat} {A:Ab} {h:Dk}
theorem IsDk.lt (d:IsDk w b A h) {i:Nat} (hi:Own b h i ∨ Rdb h i):i < w.heap.size:=by
 rcases hi with (rfl | rfl | rfl | hi) | hi
 ·exact (Array.getElem?_eq_some_iff.1 d.blk).1
 ·obtain ⟨l,hl,_⟩:=d.files; exact hl.lt
 ·obtain ⟨l,hl,_⟩:=d.set; exact hl.lt
 ·exact (owns_own d.que hi).1
 ·exact (owns_own d.kep hi).1
theorem IsDk.keep (d:IsDk w b A h) (hk:∀ i,Own b h i ∨ Rdb h i → w'.heap[i]? = w.heap[i]?):IsDk w' b A h:=by
 refine ⟨?_,?_,?_,owns_keep d.que (fun i hi=>hk i (.inl (.inr (.inr (.inr hi))))),owns_keep d.kep (fun i hi=>hk i (.inr hi)),d.ne,d.wf⟩
 ·rw [hk b (.inl (.inl rfl))]; exact d.blk
 ·obtain ⟨l,hl,h2⟩:=d.files
  exact ⟨l,hl.of_block (hk _ (.inl (.inr (.inl rfl)))),h2⟩
 ·obtain ⟨l,hl,h2⟩:=d.set
  exact ⟨l,hl.of_block (hk _ (.inl (.inr (.inr (.inl rfl))))),h2⟩
theorem MapIs.isMap {κ:Type} {mk:κ → Value} {i:Nat} {l:List (κ × Value)} (h:MapIs mk w i l):∃ es c,w.heap[i]? = some (.map es c):=by
 obtain ⟨es,c,h,_⟩:=h; exact ⟨es,c,h⟩
theorem IsDk.bfm (d:IsDk w b A h):b ≠ h.fm:=by
 obtain ⟨l,hl,_⟩:=d.files
 obtain ⟨es,c,h1⟩:=MapIs.isMap hl
 intro e
 have h2:=d.blk
 rw [e,h1] at h2; cases h2
theorem IsDk.bsm (d:IsDk w b A h):b ≠ h.sm:=by
 obtain ⟨l,hl,_⟩:=d.set
 obtain ⟨es,c,h1⟩:=MapIs.isMap hl
 intro e
 have h2:=d.blk
 rw [e,h1] at h2; cases h2
theorem IsDk.qne (d:IsDk w b A h) {i:Nat} (hi:h.q.ownBlock = some i):i ≠ b ∧ i ≠ h.fm ∧ i ≠ h.sm:=by
 obtain ⟨_,_,cur,hc⟩:=owns_own d.que hi
 refine ⟨?_,?_,?_⟩
 ·rintro rfl; rw [d.blk] at hc; cases hc
 ·rintro rfl
  obtain ⟨l,hl,_⟩:=d.files
  obtain ⟨es,c,h1⟩:=MapIs.isMap hl
  rw [h1] at hc; cases hc
 ·rintro rfl
  obtain ⟨l,hl,_⟩:=d.set
  obtain ⟨es,c,h1⟩:=MapIs.isMap hl
  rw [h1] at hc; cases hc
theorem IsDk.kne (d:IsDk w b A h) {i:Nat} (hi:h.kp.ownBlock = some i):i ≠ b ∧ i ≠ h.fm ∧ i ≠ h.sm ∧ h.q.ownBlock ≠ some i:=by
 obtain ⟨_,_,cur,hc⟩:=owns_own d.kep hi
 refine ⟨?_,?_,?_,?_⟩
 ·rintro rfl; rw [d.blk] at hc; cases hc
 ·rintro rfl
  obtain ⟨l,hl,_⟩:=d.files
  obtain ⟨es,c,h1⟩:=MapIs.isMap hl
  rw [h1] at hc; cases hc
 ·rintro rfl
  obtain ⟨l,hl,_⟩:=d.set
  obtain ⟨es,c,h1⟩:=MapIs.isMap hl
  rw [h1] at hc; cases hc
 ·intro hq
  obtain ⟨_,_,cur',hc'⟩:=owns_own d.que hq
  rw [hc] at hc'; cases hc'
theorem IsDk.cells (d:IsDk w b A h) {A':Ab} (hF:A'.F = A.F) (hq:A'.queue = A.queue) (hk:A'.keep = A.keep) (hw:WF A') (hb:w'.heap[b]? = some (.cells (dkCells A' h) 145 (0,0))) (ho:∀ i,i ≠ b → w'.heap[i]? = w.heap[i]?):IsDk w' b A' h:=by
 refine ⟨hb,?_,?_,?_,?_,d.ne,hw⟩
 ·obtain ⟨l,hl,h2⟩:=d.files
  exact ⟨l,hl.of_block (ho _ d.bfm.symm),by rw [hF]; exact h2⟩
 ·obtain ⟨l,hl,h2⟩:=d.set
  exact ⟨l,hl.of_block (ho _ d.bsm.symm),by rw [hq]; exact h2⟩
 ·rw [hq]; exact owns_keep d.que (fun i hi=>ho i (d.qne hi).1)
 ·rw [hk]; exact owns_keep d.kep (fun i hi=>ho i (d.kne hi).1)
theorem IsDk.c (d:IsDk w b A h) (i:Nat):w.cell? ⟨b,i,none⟩ = (dkCells A h)[i]?:=cell_of_block d.blk i
theorem IsDk.fz (d:IsDk w b A h) (i:Nat):w.frozen? ⟨b,i,none⟩ = false:=frozen_of_block d.blk i
theorem IsDk.set3 (d:IsDk w b A h) (n:Int) (hn:0 ≤ n ∧ n < 2 ^ 63):IsDk (w.setCell ⟨b,3,none⟩ (.int .i64 n)) b { A with lost:=n } h:=
 d.cells rfl rfl rfl ⟨hn.1,hn.2,d.wf.a0,d.wf.a1,d.wf.nd,d.wf.qr,d.wf.sz,d.wf.kr,d.wf.kl⟩ (by rw [block_set d.blk]; rfl) (fun i hi=>setCell_heap_ne _ _ _ _ hi)
theorem IsDk.set4 (d:IsDk w b A h) (t:Bool):IsDk (w.setCell ⟨b,4,none⟩ (.bool t)) b { A with down:=t } h:=
 d.cells rfl rfl rfl ⟨d.wf.l0,d.wf.l1,d.wf.a0,d.wf.a1,d.wf.nd,d.wf.qr,d.wf.sz,d.wf.kr,d.wf.kl⟩ (by rw [block_set d.blk]; rfl) (fun i hi=>setCell_heap_ne _ _ _ _ hi)
theorem IsDk.set5 (d:IsDk w b A h) (n:Int) (hn:0 ≤ n ∧ n < 2 ^ 63):IsDk (w.setCell ⟨b,5,none⟩ (.int .i64 n)) b { A with armed:=n } h:=
 d.cells rfl rfl rfl ⟨d.wf.l0,d.wf.l1,hn.1,hn.2,d.wf.nd,d.wf.qr,d.wf.sz,d.wf.kr,d.wf.kl⟩ (by rw [block_set d.blk]; rfl) (fun i hi=>setCell_heap_ne _ _ _ _ hi)
theorem step_set (w:World) (b i:Nat) (h:Dk) (u:Value):Step w b h (w.setCell ⟨b,i,none⟩ u) h:=⟨(Fr.refl _ _).set _ _ (.inl (.inl rfl)),fun _ h=>.inl h,fun _ h=>.inl h⟩
theorem IsDk.look (d:IsDk w b A h) (f:Int):(Instr.lookup 141 (.map (some h.fm)) (.int .i64 f) false).run Tryz.prog w = .ok (flV (A.F f)) w:=by
 obtain ⟨l,hl,h2⟩:=d.files
 have:=run_lookup (P:=Tryz.prog) (t:=141) (et:=149) (z:=flV ([],[])) keyI (by kernel_rfl) (fun w=>by kernel_rfl) hl f
 rw [h2] at this
 exact this
end
@[reducible] def dkP (b:Nat):Value:=.pointer (some ⟨b,0,none⟩)
section
variable {w:World} {b:Nat} {A:Ab} {h:Dk} {K:VK}
theorem size_ok (d:IsDk w b A h) (f:Int) (k:K (.int .i64 (A.F f).1.length) w):callM Tryz.prog 128 #[dkP b,.int .i64 f] K w:=by
 apply sh_128_ok
 unfold sh_128 dkP
 have c0:=d.c 0
 simp only [dkCells] at c0
 have hl:=d.look f
 repeat (any_goals ((with_reducible refine oG fun X Y=>?_); simp [go_sem,c0,hl,flV,bsV]; apply Y; clear Y X))
 exact k
theorem may_ok (d:IsDk w b A h) (f:Int) (k:K (.int .i64 (mayA A f)) w):callM Tryz.prog 118 #[dkP b,.int .i64 f] K w:=by
 apply sh_118_ok
 unfold sh_118 dkP
 have c4:=d.c 4
 simp only [dkCells] at c4
 unfold mayA at k
 repeat (any_goals (first
 | (with_reducible first|refine pureM_in ?_|((refine idGd ?_); ((refine idGdD ?_); first|refine zI ?_|refine zJ ?_|refine zK (fun hg=>?_) fun hg=>?_))|((refine idPick ?_); first|refine yD ?_|refine yE ?_)|((refine idCond ?_); first|refine yL ?_|refine yP (fun hg=>?_) fun hg=>?_|refine yY (fun hg=>?_) fun hg=>?_))
 | ((with_reducible refine oG fun X Y=>?_); simp [go_sem,c4]; apply Y; clear Y X)))
 all_goals (try simp_all)
theorem start_ok (d:IsDk w b A h) (k:∀ w',IsDk w' b (startA A) h → Step w b h w' h → K (.tuple #[]) w'):callM Tryz.prog 33 #[dkP b] K w:=by
 apply sh_33_ok
 unfold sh_33 dkP
 have c4:=d.c 4
 have f4:=d.fz 4
 simp only [dkCells] at c4
 repeat (any_goals ((with_reducible refine oG fun X Y=>?_); simp [go_sem,c4,f4]; apply Y; clear Y X))
 exact k _ (d.set4 false) (step_set _ _ _ _ _)
theorem ends_ok (d:IsDk w b A h) (k:∀ w',IsDk w' b (endsA A).2 h → Step w b h w' h → K (.bool (endsA A).1) w'):callM Tryz.prog 117 #[dkP b] K w:=by
 apply sh_117_ok
 unfold sh_117 dkP
 have c4:=d.c 4
 have c5:=d.c 5
 have f5:=d.fz 5
 simp only [dkCells] at c4 c5
 have a0:=d.wf.a0
 have a1:=d.wf.a1
 unfold endsA at k
 repeat (any_goals (first
 | (with_reducible first|refine pureM_in ?_|((refine idGd ?_); first|refine zY ?_|refine zZ ?_|refine yA (fun hg=>?_) fun hg=>?_)|((refine idPick ?_); first|refine yJ ?_|refine yK ?_)|((refine idCond ?_); first|refine yL ?_|refine yP (fun hg=>?_) fun hg=>?_))
 | ((with_reducible refine oG fun X Y=>?_); simp [go_sem,c4,c5,f5]; (try simp (disch:=omega) only [wrapI64,wrapU8,wrapU32,wrapU64]); apply Y; clear Y X)))
 ·rw [if_pos (.inl hg)] at k
  exact k _ d (Step.refl _ _ _)
 ·rw [if_pos (.inr hg)] at k
  exact k _ d (Step.refl _ _ _)
 ·rename_i hg2
  rw [if_neg (by rw [hg2]; simp [hg])] at k
  have e:decide (A.armed - 1 = 0) = decide (A.armed = 1):=by
   by_cases h1:A.armed = 1
   ·simp [h1]
   ·have:¬ A.armed - 1 = 0:=by omega
    simp [h1,this]
  rw [e]
  exact k _ (d.set5 (A.armed - 1) (by omega)) (step_set _ _ _ _ _)
end
def intC (n:Int):List Value:=[i64V n]
theorem ba_ext (x:List UInt8) (i j:Nat):(⟨x.toArray⟩:ByteArray).extract i j = ⟨((x.drop i).take (j - i)).toArray⟩:=by
 apply ByteArray.ext
 rw [ByteArray.data_extract]
 simp [List.extract_eq_take_drop]
theorem read_cut (l:List UInt8) (a n:Int) (ha:0 ≤ a) (hn:0 ≤ n):((⟨l.toArray⟩:ByteArray).extract (min a l.length).toNat l.length).extract 0 (min n ((l.length - (min a (l.length:Int)).toNat:Nat):Int)).toNat = ⟨((l.drop a.toNat).take n.toNat).toArray⟩:=by
 rw [ba_ext,ba_ext]
 congr 2
 rw [List.drop_zero,List.take_take]
 by_cases h:a ≤ l.length
 ·have e:(min a (l.length:Int)).toNat = a.toNat:=by omega
  rw [e,List.take_eq_take_iff,List.length_drop]
  omega
 ·have e:(min a (l.length:Int)).toNat = l.length:=by omega
  rw [e,List.drop_of_length_le (rL),List.drop_of_length_le (by omega)]
  simp
theorem read_cut2 (l:List UInt8) (a n:Int) (ha:0 ≤ a) (hn:0 ≤ n):(l.drop (min a (l.length:Int)).toNat).take (min n ((l.length - (min a (l.length:Int)).toNat:Nat):Int)).toNat = (l.drop a.toNat).take n.toNat:=by
 by_cases h:a ≤ l.length
 ·have e:(min a (l.length:Int)).toNat = a.toNat:=by omega
  rw [e,List.take_eq_take_iff,List.length_drop]
  omega
 ·have e:(min a (l.length:Int)).toNat = l.length:=by omega
  rw [e,List.drop_of_length_le (rL),List.drop_of_length_le (by omega)]
  simp
section
variable {w:World} {b:Nat} {A:Ab} {h:Dk} {K:VK}
theorem new_ok (k:∀ w' b h,IsDk w' b newA h → Fr (fun _=>False) w w' → (∀ i,Own b h i → w.heap.size ≤ i) → (∀ i,¬ Rdb h i) → K (dkP b) w'):callM Tryz.prog 35 #[] K w:=by
 apply sh_35_ok
 unfold sh_35
 repeat (any_goals ((with_reducible refine oG fun X Y=>?_); simp [go_sem]; apply Y; clear Y X))
 have s1:(w.alloc (.map #[] 0)).heap.size = w.heap.size + 1:=alloc_size _ _
 have s2:((w.alloc (.map #[] 0)).alloc (.map #[] 0)).heap.size = w.heap.size + 1 + 1:=by rw [alloc_size,alloc_size]
 have m1:MapIs i64V (w.alloc (.map #[] 0)) w.heap.size []:=mapIs_new w
 have m2:MapIs secV ((w.alloc (.map #[] 0)).alloc (.map #[] 0)) (w.heap.size + 1) []:=by
  have:=mapIs_new (mk:=secV) (w.alloc (.map #[] 0))
  rw [s1] at this
  exact this
 refine k _ (w.heap.size + 1 + 1) ⟨w.heap.size,w.heap.size + 1,.slice none 0 0,.slice none 0 0⟩ ⟨?_,?_,?_,?_,?_,?_,newA_wf⟩ (((Fr.refl _ _).alloc _).alloc _ |>.alloc _) ?_ ?_
 ·have:=heap_alloc_new ((w.alloc (.map #[] 0)).alloc (.map #[] 0)) (.cells (dkCells newA ⟨w.heap.size,w.heap.size + 1,.slice none 0 0,.slice none 0 0⟩) 145 (0,0))
  rw [s2] at this
  exact this
 ·exact ⟨[],(m1.alloc _).alloc _,fun f=>rfl⟩
 ·exact ⟨[],m2.alloc _,fun p=>by simp [newA,lookA_nil]⟩
 ·exact World.ownsRow_nil _ _ _ _
 ·exact World.ownsRow_nil _ _ _ _
 ·simp
 ·rintro i (rfl | rfl | rfl | hi)
  ·omega
  ·exact rL
  ·simp
  ·cases hi
 ·intro i hi; cases hi
theorem read_ok (d:IsDk w b A h) (f at_ size:Int) (k:K (.tuple #[bsV (readA A f at_ size).1,.int .i64 (readA A f at_ size).2]) w):callM Tryz.prog 127 #[dkP b,.int .i64 f,.int .i64 at_,.int .i64 size] K w:=by
 apply sh_127_ok
 unfold sh_127
 refine may_ok d f ?_
 have c0:=d.c 0
 simp only [dkCells] at c0
 have hl:=d.look f
 unfold readA at k
 unfold dkP
 repeat (any_goals (first
 | (with_reducible first|refine pureM_in ?_|((refine idGd ?_); ((refine idGdD ?_); first|refine zI ?_|refine zJ ?_|refine zK (fun hg=>?_) fun hg=>?_))|((refine idPick ?_); first|refine yD ?_|refine yE ?_)|((refine idCond ?_); first|refine yL ?_|refine yP (fun hg=>?_) fun hg=>?_|refine yS (fun hg=>?_) fun hg=>?_))
 | ((with_reducible refine oG fun X Y=>?_); simp [go_sem,c0,hl,flV,bsV]; (first|refine Y _ _ ?_|refine And.intro (by omega) (Y _ _ ?_)); clear Y X)))
 ·rename_i h0
  rw [if_neg (by omega),if_pos (.inl hg)] at k
  exact k
 ·rename_i h0
  rw [if_neg (by omega),if_pos (.inr hg)] at k
  exact k
 ·rename_i h0
  rw [if_neg (by omega),if_neg (by omega)] at k
  first | rw [read_cut _ _ _ (by omega) (by omega)] | rw [read_cut2 _ _ _ (by omega) (by omega)]
  exact k
 ·rw [if_pos hg] at k
  exact k
theorem ba_nil (t:List UInt8):((⟨t.toArray⟩:ByteArray) = ⟨#[]⟩) ↔ t = []:=by
 constructor
 ·intro h
  have:=congrArg (fun b=>b.data.toList) h
  simpa using this
 ·rintro rfl; rfl
theorem flat_one {α:Type} (f:α → Value) (l:List α):flat (fun x=>[f x]) l = l.map f:=by
 induction l with
 | nil=>rfl
 | cons x l ih=>rw [flat_cons,ih]; rfl
theorem put_ok (s t:Bs) (a:Int) (h0:0 ≤ a) (ha:a + t.length ≤ 16777216) (hs:s.length ≤ 16777216) (k:∀ w',Fr (fun _=>False) w w' → K (bsV (putB s a.toNat t)) w'):callM Tryz.prog 76 #[bsV s,.int .i64 a,bsV t] K w:=by
 apply sh_76_ok
 unfold sh_76 bsV
 by_cases ht:t = []
 ·subst ht
  repeat (any_goals (first
  | (with_reducible refine yL ?_)
  | ((with_reducible refine oG fun X Y=>?_); simp [go_sem]; apply Y; clear Y X)))
  exact k _ (Fr.refl _ _)
 ·have hne:¬ ((⟨t.toArray⟩:ByteArray) = ⟨#[]⟩):=fun e=>ht ((ba_nil t).1 e)
  obtain ⟨n,rfl⟩:=Int.eq_ofNat_of_zero_le h0
  have hmax:max (s.length:Int) ((n:Int) + t.length) = ((max s.length (n + t.length):Nat):Int):=by omega
  repeat (any_goals (first
  | (with_reducible refine yO ?_)
  | ((with_reducible refine oG fun X Y=>?_); simp [go_sem,hmax]; (try simp (disch:=omega) only [wrapI64,wrapU8,wrapU32,wrapU64]); apply Y; clear Y X)))
  have hpos:0 < t.length:=List.length_pos_iff.2 ht
  refine makeBytes_at (e:=5) (i:=(Tryz.prog.info? 5).getD default) (by kernel_rfl) (by kernel_rfl) (by kernel_rfl) (by kernel_rfl) (by kernel_rfl) _ (by omega) (fun hB=>?_)
  have g1:Fr (fun _=>False) w (w.alloc (.cells (Lib.byteCells (List.replicate (max s.length (n + t.length)) 0)).toArray 5)):=(Fr.refl _ _).alloc _
  generalize (w.alloc (.cells (Lib.byteCells (List.replicate (max s.length (n + t.length)) 0)).toArray 5)) = w1 at *
  refine copyStr_at (e:=5) (by kernel_rfl) (by kernel_rfl) hB s (by omega) (by simp; omega) (fun w2 hB2 hg2=>?_)
  have g2:=g1.by hg2 (fun i hi=>by cases hi; exact .inr (rL))
  refine sliceFrom_at (sz:=1) (by kernel_rfl) (fun w=>by kernel_rfl) n (by omega) (by omega) ?_
  rw [Nat.zero_add,Nat.mul_one]
  refine copyStr_at (e:=5) (by kernel_rfl) (by kernel_rfl) hB2 t (by omega) (by simp; omega) (fun w3 hB3 hg3=>?_)
  have g3:=g2.by hg3 (fun i hi=>by cases hi; exact .inr (rL))
  have e1:(List.replicate (max s.length (n + t.length)) (0:UInt8)).take 0 ++ s ++ (List.replicate (max s.length (n + t.length)) 0).drop (0 + s.length) = s ++ List.replicate (n + t.length - s.length) 0:=by
   rw [List.take_zero,List.nil_append,List.drop_replicate]
   congr 2
   omega
  have e2:=putB_length s n t
  rw [if_neg ht] at e2
  have e3:(s ++ List.replicate (n + t.length - s.length) 0).take n ++ t ++ (s ++ List.replicate (n + t.length - s.length) 0).drop (n + t.length) = putB s n t:=by
   unfold putB
   rw [if_neg ht]
  rw [e1,e3] at hB3
  refine toStr_at (e:=5) (by kernel_rfl) (by kernel_rfl) (by kernel_rfl) hB3 e2.symm ?_
  have:=k w3 g3
  rw [Int.toNat_natCast] at this
  exact this
theorem put_ok' (s t:Bs) (a:Int) (h0:0 ≤ a) (ha:a + t.length ≤ 16777216) (hs:s.length ≤ 16777216) (k:∀ w',Fr (fun _=>False) w w' → K (bsV (putB s a.toNat t)) w'):callM Tryz.prog 76 #[.string ⟨s.toArray⟩,.int .i64 a,.string ⟨t.toArray⟩] K w:=put_ok s t a h0 ha hs k
theorem secC_len (p:Int × Int):(secC p).length = 2:=rfl
theorem secC_one (p:Int × Int):∀ u ∈ secC p,u.oneCell' = true:=by
 intro u hu
 simp [secC] at hu
 rcases hu with rfl | rfl <;> rfl
theorem cell_heap {w w':World} (h:w'.heap = w.heap) (a:Addr):w'.cell? a = w.cell? a:=by
 unfold World.cell?; rw [h]
theorem IsDk.heap {w':World} (d:IsDk w b A h) (e:w'.heap = w.heap):IsDk w' b A h:=d.keep (fun i _=>by rw [e])
theorem IsDk.fresh {w':World} (d:IsDk w b A h) (f:Fr (fun _=>False) w w'):IsDk w' b A h:=d.keep (fun i hi=>f.block i (d.lt hi) (fun h=>h))
theorem Step.fresh {w':World} (f:Fr (fun _=>False) w w'):Step w b h w' h:=⟨f.mono (fun _ _ h=>h.elim),fun _ h=>.inl h,fun _ h=>.inl h⟩
def secsFrom (n m:Nat):List Int:=(List.range' n (m + 1 - n)).map Int.ofNat
theorem secsFrom_le {n m:Nat} (h:n ≤ m):secsFrom n m = (n:Int) :: secsFrom (n + 1) m:=by
 unfold secsFrom
 have e:m + 1 - n = (m + 1 - (n + 1)) + 1:=by omega
 rw [e,List.range'_succ]
 rfl
theorem secsFrom_gt {n m:Nat} (h:m < n):secsFrom n m = []:=by
 unfold secsFrom
 have e:m + 1 - n = 0:=by omega
 rw [e]
 rfl
theorem push_wf (hw:WF A) {f n:Int} (hf:0 ≤ f ∧ f < 16) (hn:0 ≤ n ∧ n < 262144) (hq:(f,n) ∉ A.queue):WF { A with queue:=A.queue ++ [(f,n)] }:=by
 refine ⟨hw.l0,hw.l1,hw.a0,hw.a1,?_,?_,hw.sz,hw.kr,hw.kl⟩
 ·show (A.queue ++ [(f,n)]).Nodup
  rw [List.nodup_append]
  refine ⟨hw.nd,by simp,?_⟩
  intro a ha c hc
  simp only [List.mem_singleton] at hc
  subst hc
  rintro rfl
  exact hq ha
 ·intro p hp
  rcases List.mem_append.1 hp with hp | hp
  ·exact hw.qr p hp
  ·simp only [List.mem_singleton] at hp
   subst hp
   exact ⟨hf.1,hf.2,hn.1,hn.2⟩
theorem IsDk.lookS (d:IsDk w b A h) (p:Int × Int):(Instr.lookup 143 (.map (some h.sm)) (.agg #[.int .i64 p.1,.int .i64 p.2]) false).run Tryz.prog w = .ok (.bool (decide (p ∈ A.queue))) w:=by
 obtain ⟨l,hl,h2⟩:=d.set
 have:=run_lookup (P:=Tryz.prog) (t:=143) (et:=4) (z:=.bool false) keyS (by kernel_rfl) (fun w=>by kernel_rfl) hl p
 rw [h2] at this
 unfold secV at this
 rw [this]
 by_cases hp:p ∈ A.queue <;> simp [hp]
theorem IsDk.setFile (d:IsDk w b A h) (f:Int) (x:Bs × Bs) (hx:x.1.length ≤ 16777216 ∧ x.2.length ≤ 16777216):∃ w',(Instr.mapUpdate 141 (.map (some h.fm)) (.int .i64 f) (.agg #[.string ⟨x.1.toArray⟩,.string ⟨x.2.toArray⟩])).run Tryz.prog w = .ok () w' ∧ IsDk w' b { A with F:=setF A.F f x } h ∧ Step w b h w' h:=by
 obtain ⟨l,m,hl⟩:=d.files
 obtain ⟨w',hr,m',g,z⟩:=run_update (P:=Tryz.prog) (t:=141) (et:=149) keyI (by kernel_rfl) m f (flV x)
 have hne:∀ i,i < w.heap.size → i ≠ h.fm → w'.heap[i]? = w.heap[i]?:=fun i hi hn=>g.block i hi (fun e=>hn (by cases e; rfl))
 refine ⟨w',hr,⟨?_,⟨_,m',?_⟩,?_,?_,?_,d.ne,?_⟩,⟨(Fr.refl _ _).by g (fun i hi=>by cases hi; exact .inl (.inr (.inl rfl))),fun _ h=>.inl h,fun _ h=>.inl h⟩⟩
 ·rw [hne b (d.lt (.inl (.inl rfl))) d.bfm]; exact d.blk
 ·intro g
  rw [lookA_put]
  show _ = flV (setF A.F f x g)
  by_cases hg:g = f
  ·subst hg
   rw [if_pos rfl,setF_same]; rfl
  ·rw [if_neg hg,setF_ne _ _ _ _ hg]; exact hl g
 ·obtain ⟨ls,ms,hs⟩:=d.set
  exact ⟨ls,ms.of_block (hne _ ms.lt (Ne.symm d.ne)),hs⟩
 ·exact owns_keep d.que (fun i hi=>hne i (d.lt (.inl (.inr (.inr (.inr hi))))) (d.qne hi).2.1)
 ·exact owns_keep d.kep (fun i hi=>hne i (d.lt (.inr hi)) (d.kne hi).2.1)
 ·refine ⟨d.wf.l0,d.wf.l1,d.wf.a0,d.wf.a1,d.wf.nd,d.wf.qr,?_,d.wf.kr,d.wf.kl⟩
  intro g
  show (setF A.F f x g).1.length ≤ _ ∧ (setF A.F f x g).2.length ≤ _
  by_cases hg:g = f
  ·subst hg; rw [setF_same]; exact hx
  ·rw [setF_ne _ _ _ _ hg]; exact d.wf.sz g
theorem push_done {w9 w10 w13:World} {p:Int × Int} {v':Value} {ls:List ((Int × Int) × Value)} (d9:IsDk w9 b A h) (hg10:w9.grownBy w10 h.q.ownBlock) (ho:w10.ownsRow 0 147 2 v' (A.queue.length + 1) (flat secC A.queue ++ secC p)) (hv:∀ i,v'.ownBlock = some i → h.q.ownBlock = some i ∨ w9.heap.size ≤ i)
  (m13:MapIs secV w13 h.sm (putA ls p (.bool true))) (hls:∀ p,lookA ls p = if p ∈ A.queue then some (.bool true) else none) (g13:(w10.setCell ⟨b,1,none⟩ v').grownBy w13 (some h.sm)) (hwf:WF { A with queue:=A.queue ++ [p] }) :
  IsDk w13 b { A with queue:=A.queue ++ [p] } { h with q:=v' } ∧ Step w9 b h w13 { h with q:=v' }:=by
 have hs10:=hg10.size
 have hb9:=d9.lt (.inl (.inl rfl))
 have hf9:h.fm < w9.heap.size:=d9.lt (.inl (.inr (.inl rfl)))
 have hsm9:h.sm < w9.heap.size:=d9.lt (.inl (.inr (.inr (.inl rfl))))
 have k10:∀ i,i < w9.heap.size → h.q.ownBlock ≠ some i → w10.heap[i]? = w9.heap[i]?:=fun i hi hn=>hg10.block i hi (fun e=>hn e.symm)
 have hsz11:(w10.setCell ⟨b,1,none⟩ v').heap.size = w10.heap.size:=by simp [World.setCell]
 have k13:∀ i,i < w10.heap.size → i ≠ h.sm → i ≠ b → w13.heap[i]? = w10.heap[i]?:=fun i hi hn hb=>by
  rw [g13.block i (by rw [hsz11]; exact hi) (fun e=>hn (by cases e; rfl)),setCell_heap_ne _ _ _ _ hb]
 have hqb:h.q.ownBlock ≠ some b:=fun e=>(d9.qne e).1 rfl
 have hqf:h.q.ownBlock ≠ some h.fm:=fun e=>(d9.qne e).2.1 rfl
 have hqs:h.q.ownBlock ≠ some h.sm:=fun e=>(d9.qne e).2.2 rfl
 have hvne:∀ i,v'.ownBlock = some i → i ≠ b ∧ i ≠ h.sm:=fun i hi=>by
  rcases hv i hi with e | e
  ·exact ⟨(d9.qne e).1,(d9.qne e).2.2⟩
  ·omega
 refine ⟨⟨?_,?_,?_,?_,?_,d9.ne,hwf⟩,⟨?_,?_,fun i hi=>.inl hi⟩⟩
 ·have hb10:=k10 b hb9 hqb
  rw [d9.blk] at hb10
  rw [g13.block b (by rw [hsz11]; omega) (fun e=>d9.bsm (by cases e; rfl)),block_set hb10]
  rfl
 ·obtain ⟨l,m,hl⟩:=d9.files
  refine ⟨l,m.of_block ?_,hl⟩
  rw [k13 _ (by omega) d9.ne d9.bfm.symm,k10 _ hf9 hqf]
 ·refine ⟨_,m13,fun r=>?_⟩
  rw [lookA_put,hls]
  by_cases hr:r = p
  ·subst hr; simp
  ·simp [hr]
 ·show w13.ownsRow 0 _ 2 v' (A.queue ++ [p]).length (flat secC (A.queue ++ [p]))
  rw [flat_snoc,List.length_append]
  exact owns_keep ho (fun i hi=>k13 i (owns_own ho hi).1 (hvne i hi).2 (hvne i hi).1)
 ·refine owns_keep d9.kep (fun i hi=>?_)
  have hi':=d9.lt (.inr hi)
  have:=d9.kne hi
  rw [k13 i (by omega) this.2.2.1 this.1,k10 i hi' this.2.2.2]
 ·refine (((Fr.refl _ _).by hg10 (fun i hi=>.inl (.inr (.inr (.inr hi))))).set ⟨b,1,none⟩ v' (.inl (.inl rfl))).by g13 (fun i hi=>?_)
  cases hi
  exact .inl (.inr (.inr (.inl rfl)))
 ·rintro i (rfl | rfl | rfl | hi)
  ·exact .inl (.inl rfl)
  ·exact .inl (.inr (.inl rfl))
  ·exact .inl (.inr (.inr (.inl rfl)))
  ·exact (hv i hi).imp (fun e=>.inr (.inr (.inr e))) id
set_option maxHeartbeats 1000000 in
theorem write_ok (d:IsDk w b A h) (f at_:Int) (s:Bs) (hs:s.length < 2 ^ 60) (hat:-2 ^ 63 ≤ at_ ∧ at_ < 2 ^ 63) (k:∀ w' h',IsDk w' b (wrA A f at_ s).2 h' → Step w b h w' h' → K (.int .i64 (wrA A f at_ s).1) w'):callM Tryz.prog 198 #[dkP b,.int .i64 f,.int .i64 at_,bsV s] K w:=by
 apply sh_198_ok
 unfold sh_198
 refine may_ok d f ?_
 have k':∀ r A',wrA A f at_ s = (r,A') → ∀ w' h',IsDk w' b A' h' → Step w b h w' h' → K (.int .i64 r) w':=by
  intro r A' e w' h' h1 h2
  have:=k w' h' (by rw [e]; exact h1) h2
  rw [e] at this
  exact this
 clear k
 unfold wrA at k'
 have c0:=d.c 0
 simp only [dkCells] at c0
 have hl:=d.look f
 unfold dkP bsV
 repeat (any_goals (first
 | (with_reducible first|refine pureM_in ?_|((refine idGd ?_); ((refine idGdD ?_); first|refine zI ?_|refine zJ ?_|refine zK (fun hg=>?_) fun hg=>?_))|((refine idPick ?_); first|refine yD ?_|refine yE ?_)|((refine idCond ?_); first|refine yL ?_|refine yP (fun hg=>?_) fun hg=>?_|refine yS (fun hg=>?_) fun hg=>?_))
 | ((with_reducible refine oG fun X Y=>?_); simp [go_sem,c0,hl,flV,bsV]; (try simp (disch:=omega) only [wrapI64,wrapU8,wrapU32,wrapU64]); apply Y; clear Y X)))
 ·rename_i hm
  exact k' 1 A (by rw [if_neg (by omega),if_pos hg]) w h d (Step.refl _ _ _)
 ·rename_i hm h1
  exact k' 6 A (by rw [if_neg (by omega),if_neg h1,if_pos (by omega)]) w h d (Step.refl _ _ _)
 ·rename_i hm h1 h2
  exact k' 6 A (by rw [if_neg (by omega),if_neg h1,if_pos (by omega)]) w h d (Step.refl _ _ _)
 ·rename_i hm h1 h2 h3
  exact k' 0 A (by rw [if_neg (by omega),if_neg h1,if_neg (by omega),hg]; rfl) w h d (Step.refl _ _ _)
 ·rename_i hm h1 h2 h3
  have hmay:=mayA_ok hm
  have hsne:¬ s = []:=hg
  have k0:=k' 0 (addA A f at_.toNat s) (by rw [if_neg (by omega),if_neg h1,if_neg (by omega)])
  clear k'
  obtain ⟨a,rfl⟩:=Int.eq_ofNat_of_zero_le (by omega:0 ≤ at_)
  rw [Int.toNat_natCast] at k0
  have hlen:0 < s.length:=List.length_pos_iff.2 hg
  have hn:=heap_alloc_new w (.cells #[bsV (A.F f).1,bsV (A.F f).2] 149 (0,0))
  have f0:Fr (fun _=>False) w (w.alloc (.cells #[bsV (A.F f).1,bsV (A.F f).2] 149 (0,0))):=(Fr.refl _ _).alloc _
  have z0:=alloc_size w (.cells #[bsV (A.F f).1,bsV (A.F f).2] 149 (0,0))
  simp only [bsV] at hn f0 z0
  generalize w.alloc (.cells #[.string ⟨(A.F f).1.toArray⟩,.string ⟨(A.F f).2.toArray⟩] 149 (0,0)) = w0 at *
  have e0:=cell_of_block hn 0
  simp at e0
  repeat (any_goals (with_reducible refine put_ok' (A.F f).1 s (a:Int) (by omega) (by omega) (d.wf.sz f).1 ?_))
  intro w1 g1
  have f1:=f0.trans g1 (fun _ h=>h.elim)
  have z1:=g1.size
  have hn1:=(g1.block w.heap.size (by omega) (fun h=>h)).trans hn
  have y0:=frozen_of_block hn1 0
  have e1:=cell_of_block hn1 0
  simp at e1
  have hn2:=block_set (i:=0) hn1 (bsV (putB (A.F f).1 a s))
  unfold bsV at hn2
  repeat (any_goals ((with_reducible refine oG fun X Y=>?_); simp [go_sem,y0,e1,bsV]; apply Y; clear Y X))
  have f2:=f1.set ⟨w.heap.size,0,none⟩ (.string ⟨(putB (A.F f).1 a s).toArray⟩) (.inr (rL))
  generalize w1.setCell ⟨w.heap.size,0,none⟩ (.string ⟨(putB (A.F f).1 a s).toArray⟩) = w2 at *
  have d2:=d.fresh f2
  have c20:=d2.c 0
  simp only [dkCells] at c20
  have e20:=cell_of_block hn2 0
  have e21:=cell_of_block hn2 1
  simp at e20 e21
  refine ⟨fun s w'=>s ≤ 0 → w'.heap = w2.heap,fun _=>rfl,?_⟩
  repeat (first | (with_reducible refine pX ?_) | (with_reducible refine oH_nil ?_) | (with_reducible refine gdH_true rfl ?_) | (with_reducible refine gdH_false rfl ?_) | (refine oH_of ⟨_,rfl⟩ (fun W0 hW0=>by (obtain ⟨s0,hs0,hC⟩:=hW0); (refine oG (fun X Y=>?_)); simp [go_sem,cell_heap (hC (by omega)),c20,e20,e21]; (first | exact Y _ _ ⟨rfl,rfl⟩ | exact ⟨by omega,Y _ _ ⟨rfl,rfl⟩⟩)) ?_))
  generalize hw3:({ w2 with drawn:=w2.drawn + 1 }:World) = w3
  have d3:IsDk w3 b A h:=d2.heap (by rw [← hw3])
  have f3:Fr (fun _=>False) w w3:=by rw [← hw3]; exact f2.drew
  have hpl:=putB_length (A.F f).1 a s
  rw [if_neg hg] at hpl
  obtain ⟨w4,hr4,d4,t4⟩:=d3.setFile f (putB (A.F f).1 a s,(A.F f).2) ⟨by show List.length (putB _ _ _) ≤ _; rw [hpl]; have:=(d.wf.sz f).1; omega,(d.wf.sz f).2⟩
  simp only at hr4
  have t04:Step w b h w4 h:=(Step.fresh f3).trans t4
  repeat (any_goals (first
  | (with_reducible refine And.intro (fun hs=>absurd hs (by decide)) ?_)
  | ((with_reducible refine oG fun X Y=>?_); simp [go_sem,hr4]; (try simp (disch:=omega) only [wrapI64,wrapU8,wrapU32,wrapU64]); apply Y; clear Y X)))
  obtain ⟨m,hm'⟩:∃ m,m = (a + s.length - 1) / 64:=⟨_,rfl⟩
  have hd1:((a:Int) + (s.length:Int) - 1).tdiv 64 = (m:Int):=by
   rw [tdivN _ _ (by omega)]; omega
  have hd2:((a:Int) + (s.length:Int) - 1) / 64 = (m:Int):=by omega
  have hmb:m < 262144:=by omega
  have hbs:w.heap.size ≤ w4.heap.size:=t04.fr.size
  refine ⟨fun l w'=>∃ (n:Nat) (q:List (Int × Int)) (h1:Dk),l = [.int .i64 (n:Int)] ∧ n ≤ m + 1 ∧ IsDk w' b { A with F:=setF A.F f (putB (A.F f).1 a s,(A.F f).2),queue:=q } h1 ∧ Step w b h w' h1 ∧ pushQ f q (secsFrom n m) = pushQ f A.queue (secs a s.length),fun l _=>match l with | [.int _ n]=>((m:Int) + 1 - n).toNat | _=>0,⟨a / 64,A.queue,h,by simp,by omega,d4,t04,by rw [hm']; rfl⟩,?_⟩
  rintro l u w5 ⟨n,q,h5,rfl,hnm,d5,t5,hp⟩
  simp only [List.getD_cons_zero]
  repeat (any_goals (first
  | (with_reducible ((refine idCond ?_); refine yP (fun hg=>?_) fun hg=>?_))
  | ((with_reducible refine oG fun X Y=>?_); simp [go_sem,hd1,hd2]; (try simp (disch:=omega) only [wrapI64,wrapU8,wrapU32,wrapU64]); apply Y; clear Y X)))
  ·rw [secsFrom_le hg] at hp
   have hp:pushQ f (if (f,(n:Int)) ∈ q then q else q ++ [(f,(n:Int))]) (secsFrom (n + 1) m) = _:=hp
   refine ⟨fun _ w'=>∃ (q':List (Int × Int)) (h':Dk),IsDk w' b { A with F:=setF A.F f (putB (A.F f).1 a s,(A.F f).2),queue:=q' } h' ∧ Step w b h w' h' ∧ pushQ f q' (secsFrom (n + 1) m) = pushQ f A.queue (secs a s.length),?_,?_⟩
   ·repeat (any_goals ((with_reducible refine oG fun X Y=>?_); simp [go_sem]; apply Y; clear Y X))
    have p0:=heap_alloc_new w5 (.cells #[.int .i64 f,.int .i64 (n:Int)] 147 (0,0))
    have pf:Fr (fun _=>False) w5 (w5.alloc (.cells #[.int .i64 f,.int .i64 (n:Int)] 147 (0,0))):=(Fr.refl _ _).alloc _
    have pz:=alloc_size w5 (.cells #[.int .i64 f,.int .i64 (n:Int)] 147 (0,0))
    generalize w5.alloc (.cells #[.int .i64 f,.int .i64 (n:Int)] 147 (0,0)) = w6 at *
    have d6:=d5.fresh pf
    have c62:=d6.c 2
    simp only [dkCells] at c62
    have p00:=cell_of_block p0 0
    have p01:=cell_of_block p0 1
    simp at p00 p01
    have lk:∀ W:World,W.heap = w6.heap → _:=fun W hW=>(d6.heap hW).lookS (f,(n:Int))
    simp only at lk
    refine ⟨fun s w'=>s ≤ 0 → w'.heap = w6.heap,fun _=>rfl,?_⟩
    repeat (first | (with_reducible refine pX ?_) | (with_reducible refine oH_nil ?_) | (with_reducible refine gdH_true rfl ?_) | (with_reducible refine gdH_false rfl ?_) | (refine oH_of ⟨_,rfl⟩ (fun W0 hW0=>by (obtain ⟨s0,hs0,hC⟩:=hW0); (refine oG (fun X Y=>?_)); simp [go_sem,cell_heap (hC (by omega)),c62,p00,p01,lk W0 (hC (by omega))]; (first | exact Y _ _ ⟨rfl,rfl⟩ | exact ⟨by omega,Y _ _ ⟨rfl,rfl⟩⟩)) ?_))
    generalize hw7:({ w6 with drawn:=w6.drawn + 1 }:World) = w7
    have d7:IsDk w7 b _ h5:=d6.heap (by rw [← hw7])
    have t7:Step w b h w7 h5:=t5.trans (Step.fresh (by rw [← hw7]; exact pf.drew))
    have p7:w7.heap[w5.heap.size]? = some (.cells #[.int .i64 f,.int .i64 (n:Int)] 147 (0,0)):=by rw [← hw7]; exact p0
    have z7:w7.heap.size = w5.heap.size + 1:=by rw [← hw7]; exact pz
    clear hw7
    have b5:b < w5.heap.size:=d5.lt (.inl (.inl rfl))
    repeat (any_goals (with_reducible ((refine idCond ?_); refine yS (fun hg=>?_) fun hg=>?_)))
    ·rename_i hin
     rw [if_pos (by assumption)] at hp
     exact ⟨q,h5,d7,t7,hp⟩
    ·rename_i hin
     refine ⟨fun sg w'=>sg ≤ 5 → w'.heap[w5.heap.size]? = some (.cells #[.int .i64 f,.int .i64 (n:Int)] 147 (0,0)) ∧ (sg ≤ 2 → w'.heap[b]? = some (.cells (dkCells { A with F:=setF A.F f (putB (A.F f).1 a s,(A.F f).2),queue:=q } h5) 145 (0,0))),fun _=>⟨p7,fun _=>d7.blk⟩,?_⟩
     iterate 5 (first | (with_reducible refine pX ?_) | (with_reducible refine oH_nil ?_) | (with_reducible refine gdH_true rfl ?_) | (with_reducible refine gdH_false rfl ?_) | (refine oH_of ⟨_,rfl⟩ (fun W0 hW0=>by (obtain ⟨s0,hs0,hC⟩:=hW0); (have hsk:s0 ≤ 2:=by omega); (refine oG (fun X Y=>?_)); simp [go_sem,cell_of_block (hC (Nat.le_trans hsk (by decide))).1,cell_of_block ((hC (Nat.le_trans hsk (by decide))).2 hsk),dkCells]; (first | exact Y _ _ ⟨rfl,rfl⟩ | exact ⟨by omega,Y _ _ ⟨rfl,rfl⟩⟩)) ?_))
     iterate 1 (first | (with_reducible refine pX ?_) | (with_reducible refine oH_nil ?_) | (with_reducible refine gdH_true rfl ?_) | (with_reducible refine gdH_false rfl ?_) | (refine oH_of ⟨_,rfl⟩ (fun W0 hW0=>by (obtain ⟨s0,hs0,hC⟩:=hW0); (have hsk:s0 ≤ 5:=by omega); (refine oG (fun X Y=>?_)); simp [go_sem,cell_of_block (hC hsk).1]; (first | exact Y _ _ ⟨rfl,rfl⟩ | exact ⟨by omega,Y _ _ ⟨rfl,rfl⟩⟩)) ?_))
     repeat (first | (with_reducible refine pX ?_) | (with_reducible refine oH_nil ?_) | (with_reducible refine gdH_true rfl ?_) | (with_reducible refine gdH_false rfl ?_) | (refine oH_of ⟨_,rfl⟩ (fun W0 hW0=>by (obtain ⟨s0,hs0,hC⟩:=hW0); (have hsk:s0 ≤ 2:=by omega); (refine oG (fun X Y=>?_)); simp [go_sem,cell_of_block (hC (Nat.le_trans hsk (by decide))).1,cell_of_block ((hC (Nat.le_trans hsk (by decide))).2 hsk),dkCells]; (first | exact Y _ _ ⟨rfl,rfl⟩ | exact ⟨by omega,Y _ _ ⟨rfl,rfl⟩⟩)) ?_))
     generalize hw8:({ w7 with drawn:=w7.drawn + 1 }:World) = w8
     have d8:IsDk w8 b _ h5:=d7.heap (by rw [← hw8])
     have t8:Step w b h w8 h5:=t7.trans (Step.fresh (by rw [← hw8]; exact (Fr.refl _ _).drew))
     have p8:w8.heap[w5.heap.size]? = some (.cells #[.int .i64 f,.int .i64 (n:Int)] 147 (0,0)):=by rw [← hw8]; exact p7
     clear hw8
     repeat (any_goals ((with_reducible refine oG fun X Y=>?_); simp [go_sem]; apply Y; clear Y X))
     have hnq:(f,(n:Int)) ∉ q:=by assumption
     rw [if_neg hnq] at hp
     have hql:q.length ≤ 4194304:=d8.wf.ql
     have b8:b < w8.heap.size:=d8.lt (.inl (.inl rfl))
     have p8l:=(Array.getElem?_eq_some_iff.1 p8).1
     have g9:Fr (fun _=>False) w8 (w8.alloc (.cells #[.int .i64 f,.int .i64 (n:Int)] 147 (0,0))):=(Fr.refl _ _).alloc _
     have n9:=heap_alloc_new w8 (.cells #[.int .i64 f,.int .i64 (n:Int)] 147 (0,0))
     have z9:=alloc_size w8 (.cells #[.int .i64 f,.int .i64 (n:Int)] 147 (0,0))
     generalize w8.alloc (.cells #[.int .i64 f,.int .i64 (n:Int)] 147 (0,0)) = w9 at *
     have d9:=d8.fresh g9
     have p9:=(g9.block _ p8l (fun h=>h)).trans p8
     refine ⟨fun _=>⟨p9,fun _=>d9.blk⟩,?_⟩
     refine append_at 142 142 147 ((Tryz.prog.info? 147).getD default) (.agg #[.int .i64 0,.int .i64 0]) 2 16 (by kernel_rfl) (by kernel_rfl) (by kernel_rfl) (by kernel_rfl) (by kernel_rfl) (by kernel_rfl) (by omega) d9.que (secC (f,(n:Int))) rfl ?_ ?_ (secC_one _) (by simp only [maxLen]; show q.length + 1 ≤ _; omega) (by show (q.length + 1) * 16 ≤ _; omega) ?_
     ·intro h; cases h
     ·rintro ad hu j x hj
      cases hu
      rw [add_none,Nat.zero_add,cell_of_block n9]
      match j,hj with
      | 0,hj=>exact hj
      | 1,hj=>exact hj
     intro v' w10 ho hg10 hv
     have hqb:h5.q.ownBlock ≠ some b:=fun e=>(d9.qne e).1 rfl
     have p10:=(hg10.block w5.heap.size (by omega) (fun e=>by
      have hq5:=(owns_own d5.que e.symm).1
      omega)).trans p9
     have b10:=(hg10.block b (by omega) (fun e=>hqb e.symm)).trans d9.blk
     have c101:=cell_of_block b10 1
     have y101:=frozen_of_block b10 1
     simp [dkCells] at c101
     obtain ⟨va,vc,rfl⟩:=owns_len ho
     have n11:b ≠ w5.heap.size:=by omega
     have p11:(w10.setCell ⟨b,1,none⟩ (.slice va (q.length + 1) vc)).heap[w5.heap.size]? = _:=(setCell_heap_ne w10 ⟨b,1,none⟩ _ _ (Ne.symm n11)).trans p10
     refine ⟨fun _=>⟨p10,fun _=>b10⟩,?_⟩
     obtain ⟨ls,ms,hls⟩:=d9.set
     have hsm9:h5.sm < w9.heap.size:=d9.lt (.inl (.inr (.inr (.inl rfl))))
     have m10:MapIs secV w10 h5.sm ls:=ms.of_block (hg10.block _ hsm9 (fun e=>(d9.qne e.symm).2.2 rfl))
     have m11:MapIs secV (w10.setCell ⟨b,1,none⟩ (.slice va (q.length + 1) vc)) h5.sm ls:=m10.of_block (setCell_heap_ne _ _ _ _ d9.bsm.symm)
     obtain ⟨w12,st,hr12,g12,z12,hst⟩:=run_entryNew (P:=Tryz.prog) (t:=143) (et:=4) (z:=.bool false) keyS (by kernel_rfl) (fun w=>by kernel_rfl) m11 (f,(n:Int)) (by rw [hls]; exact if_neg hnq)
     obtain ⟨w13,hr13,m13,g13,z13⟩:=hst (.bool true)
     simp only [secV] at hr12
     repeat (any_goals (first
     | (with_reducible refine And.intro (fun _=>And.intro p10 (fun hs=>absurd hs (by decide))) ?_) | (with_reducible refine And.intro (fun _=>And.intro p11 (fun hs=>absurd hs (by decide))) ?_) | (with_reducible refine And.intro (fun hs=>absurd hs (by decide)) ?_)
     | ((with_reducible refine oG fun X Y=>?_); simp [go_sem,c101,y101,hr12,hr13]; apply Y; clear Y X)))
     obtain ⟨d13,t13⟩:=push_done d9 hg10 ho hv m13 hls (grownBy_trans g12 g13) (push_wf d9.wf hmay.2 (by omega) hnq)
     exact ⟨q ++ [(f,(n:Int))],_,d13,t8.trans ((Step.fresh g9).trans t13),hp⟩
   ·rintro l u w6 ⟨q',h6,d6,t6,hp6⟩
    repeat (any_goals ((with_reducible refine oG fun X Y=>?_); simp [go_sem]; (try simp (disch:=omega) only [wrapI64,wrapU8,wrapU32,wrapU64]); apply Y; clear Y X))
    refine ⟨⟨n + 1,q',h6,by simp,by omega,d6,t6,hp6⟩,?_⟩
    show ((m:Int) + 1 - ((n:Int) + 1)).toNat < ((m:Int) + 1 - (n:Int)).toNat
    omega
  ·rw [secsFrom_gt (by omega)] at hp
   have hp:q = _:=hp
   refine k0 w5 h5 ?_ t5
   have e:addA A f a s = { A with F:=setF A.F f (putB (A.F f).1 a s,(A.F f).2),queue:=q }:=by
    unfold addA
    rw [if_neg hsne,hp]
   rw [e]
   exact d5
 ·exact k' (mayA A f) A (by rw [if_pos hg]) w h d (Step.refl _ _ _)
end
attribute [local go_sem] oM_indexAddr
section
variable {w:World} {b:Nat} {A:Ab} {h:Dk} {K:VK}
theorem isBody56:isBody Tryz.prog 165 = true:=by kernel_rfl
theorem isBody58:isBody Tryz.prog 167 = true:=by kernel_rfl
theorem test1_ok {x:Nat} {f:Int} (p:Int × Int) (hx:w.heap[x]? = some (.cells #[.int .i64 f] 3 (0,0))) (k:∀ w',Fr (fun _=>False) w w' → K (.bool (decide (p.1 = f))) w'):callM Tryz.prog 165 #[.agg #[.int .i64 p.1,.int .i64 p.2],.pointer (some ⟨x,0,none⟩)] K w:=by
 apply sh_165_ok
 unfold sh_165
 have hlt:=(Array.getElem?_eq_some_iff.1 hx).1
 have f0:Fr (fun _=>False) w (w.alloc (.cells #[.int .i64 p.1,.int .i64 p.2] 147 (0,0))):=(Fr.refl _ _).alloc _
 have hx2:=(f0.block x hlt (fun h=>h)).trans hx
 have e:=cell_of_block hx2 0
 simp at e
 repeat (any_goals ((with_reducible refine oG fun X Y=>?_); simp [go_sem,e]; apply Y; clear Y X))
 exact k _ f0
theorem test2_ok {x:Nat} {f:Int} (p:Int × Int) (v:Value) (hx:w.heap[x]? = some (.cells #[.int .i64 f] 3 (0,0))) (k:∀ w',Fr (fun _=>False) w w' → K (.bool (decide (p.1 = f))) w'):callM Tryz.prog 167 #[.agg #[.int .i64 p.1,.int .i64 p.2],v,.pointer (some ⟨x,0,none⟩)] K w:=by
 apply sh_167_ok
 unfold sh_167
 have hlt:=(Array.getElem?_eq_some_iff.1 hx).1
 have f0:Fr (fun _=>False) w (w.alloc (.cells #[.int .i64 p.1,.int .i64 p.2] 147 (0,0))):=(Fr.refl _ _).alloc _
 have hx2:=(f0.block x hlt (fun h=>h)).trans hx
 have e:=cell_of_block hx2 0
 simp at e
 repeat (any_goals ((with_reducible refine oG fun X Y=>?_); simp [go_sem,e]; apply Y; clear Y X))
 exact k _ f0
def idxOf (f:Int):List (Int × Int) → Int
 | []=>-1
 | p :: q=>if p.1 = f then 0 else if idxOf f q = -1 then -1 else idxOf f q + 1
theorem idxOf_split (f:Int) (q:List (Int × Int)):(idxOf f q = -1 ∧ ∀ p ∈ q,p.1 ≠ f) ∨ ∃ q1 p q2,q = q1 ++ p :: q2 ∧ p.1 = f ∧ (∀ r ∈ q1,r.1 ≠ f) ∧ idxOf f q = q1.length:=by
 induction q with
 | nil=>exact .inl ⟨rfl,by simp⟩
 | cons p q ih=>
  by_cases hp:p.1 = f
  ·exact .inr ⟨[],p,q,rfl,hp,by simp,by simp [idxOf,hp]⟩
  ·rcases ih with ⟨h1,h2⟩ | ⟨q1,r,q2,rfl,h2,h3,h4⟩
   ·refine .inl ⟨by simp [idxOf,hp,h1],?_⟩
    intro r hr
    rcases List.mem_cons.1 hr with rfl | hr
    ·exact hp
    ·exact h2 r hr
   ·refine .inr ⟨p :: q1,r,q2,rfl,h2,?_,?_⟩
    ·intro x hx
     rcases List.mem_cons.1 hx with rfl | hx
     ·exact hp
     ·exact h3 x hx
    ·simp only [idxOf,hp,if_false,h4,List.length_cons]
     rw [if_neg (by omega)]
     omega
theorem idxOf_drop (f:Int) (q:List (Int × Int)) (j:Nat) (hj:∀ p ∈ q.take j,p.1 ≠ f) (p:Int × Int) (hp:q[j]? = some p) (hf:p.1 = f):idxOf f q = j:=by
 induction q generalizing j with
 | nil=>simp at hp
 | cons r q ih=>
  cases j with
  | zero=>
   simp only [List.getElem?_cons_zero,Option.some.injEq] at hp
   subst hp
   simp [idxOf,hf]
  | succ j=>
   have hr:r.1 ≠ f:=hj r (by simp)
   have:=ih j (fun x hx=>hj x (by simp [hx])) (by simpa using hp)
   simp only [idxOf,hr,if_false,this]
   rw [if_neg (by omega)]
   omega
theorem idxOf_none (f:Int) (q:List (Int × Int)) (h:∀ p ∈ q,p.1 ≠ f):idxOf f q = -1:=by
 induction q with
 | nil=>rfl
 | cons r q ih=>
  have hr:r.1 ≠ f:=h r (List.mem_cons_self ..)
  simp [idxOf,hr,ih (fun p hp=>h p (List.mem_cons_of_mem _ hp))]
theorem sec_cells {v:Value} {q:List (Int × Int)} (ho:w.ownsRow 0 147 2 v q.length (flat secC q)) {j:Nat} {p:Int × Int} (hj:q[j]? = some p):∃ g c,v = .slice (some ⟨g,0,none⟩) q.length c ∧ w.cell? ⟨g,j * 2,none⟩ = some (.int .i64 p.1) ∧ w.cell? ⟨g,j * 2 + 1,none⟩ = some (.int .i64 p.2):=by
 have hlt:=(gS hj).1
 obtain ⟨g,cap,cur,rfl,_,_,_,_,_,hc⟩:=owns_cells ho (by omega)
 refine ⟨g,cap,rfl,hc _ _ ?_,hc _ _ ?_⟩
 ·have:=flat_at secC_len q j 0 hj (by omega)
  simpa [secC] using this
 ·have:=flat_at secC_len q j 1 hj (by omega)
  simpa [secC] using this
theorem idxSec {g n c k:Nat} (hk:k < n) (w:World):(Instr.indexAt 142 (.slice (some ⟨g,0,none⟩) n c) (.int .i64 k)).run Tryz.prog w = .ok (.pointer (some ⟨g,k * 2,none⟩)) w:=by
 rw [run_indexAt_slice (h:=by kernel_rfl),if_pos (by omega)]
 have hs:(sizeOf (Tryz.prog.elem 142)).run Tryz.prog w = .ok 2 w:=by kernel_rfl
 rw [hs]
 simp only [Result.andThen,Int.toNat_natCast,add_none,Nat.zero_add]
theorem index_ok {x:Nat} {f:Int} {v:Value} {q:List (Int × Int)} (hq:q.length < 2 ^ 40) (hx:w.heap[x]? = some (.cells #[.int .i64 f] 3 (0,0))) (ho:w.ownsRow 0 147 2 v q.length (flat secC q)) (k:∀ w',Fr (fun _=>False) w w' → K (.int .i64 (idxOf f q)) w'):callM Tryz.prog 204 #[v,.func (.func 165) #[] #[.pointer (some ⟨x,0,none⟩)]] K w:=by
 apply sh_204_ok
 unfold sh_204
 obtain ⟨va,vc,rfl⟩:=owns_len ho
 repeat (any_goals ((with_reducible refine oG fun X Y=>?_); simp [go_sem]; apply Y; clear Y X))
 refine ⟨fun l w'=>∃ u1 u2,∃ j:Nat,l = [u1,u2,.int .i64 (j:Int)] ∧ j ≤ q.length ∧ (∀ p ∈ q.take j,p.1 ≠ f) ∧ Fr (fun _=>False) w w',fun l _=>match l with | [_,_,.int _ n]=>((q.length:Int) - n).toNat | _=>0,⟨_,_,0,rfl,by omega,by simp,Fr.refl _ _⟩,?_⟩
 rintro l u w1 ⟨u1,u2,j,rfl,hj,hpre,fr⟩
 simp only [List.getD_cons_zero,List.getD_cons_succ]
 repeat (any_goals (first
 | (with_reducible ((refine idCond ?_); refine yP (fun hg=>?_) fun hg=>?_))
 | ((with_reducible refine oG fun X Y=>?_); simp [go_sem]; apply Y; clear Y X)))
 ·have hlt:j < q.length:=by omega
  have hx1:=(fr.block x (Array.getElem?_eq_some_iff.1 hx).1 (fun h=>h)).trans hx
  have ho1:w1.ownsRow 0 147 2 (.slice va q.length vc) q.length (flat secC q):=owns_keep ho (fun i hi=>fr.block i (owns_own ho hi).1 (fun h=>h))
  obtain ⟨g,c,hv,e0,e1⟩:=sec_cells ho1 (gE hlt)
  cases hv
  have hix:=idxSec (c:=vc) (g:=g) hlt w1
  repeat (any_goals (first
  | (with_reducible refine oM_callv1 isBody56 ?_)
  | ((with_reducible refine oG fun X Y=>?_); simp [go_sem,hix,e0,e1]; apply Y; clear Y X)))
  refine test1_ok (f:=f) q[j] hx1 (fun w2 f2=>?_)
  repeat (any_goals (first
  | (with_reducible ((refine idCond ?_); refine yP (fun hg=>?_) fun hg=>?_))
  | ((with_reducible refine oG fun X Y=>?_); simp [go_sem]; (try simp (disch:=omega) only [wrapI64,wrapU8,wrapU32,wrapU64]); apply Y; clear Y X)))
  ·have hg':q[j].1 = f:=by assumption
   rw [idxOf_drop f q j hpre _ (gE hlt) hg'] at k
   exact k w2 (fr.trans f2 (fun _ h=>h.elim))
  ·have hg':¬ q[j].1 = f:=by assumption
   refine ⟨⟨_,_,j + 1,rfl,by omega,?_,fr.trans f2 (fun _ h=>h.elim)⟩,?_⟩
   ·intro p hp
    rw [List.take_succ_eq_append_getElem hlt] at hp
    rcases List.mem_append.1 hp with hp | hp
    ·exact hpre p hp
    ·simp only [List.mem_singleton] at hp
     rw [hp]; exact hg'
   ·show ((q.length:Int) - ((j:Int) + 1)).toNat < ((q.length:Int) - (j:Int)).toNat
    omega
 ·rw [idxOf_none f q (by
   rw [List.take_of_length_le (by omega)] at hpre
   exact hpre)] at k
  exact k w1 fr
theorem clear_at {t T e:TypeId} {z:Value} {g o n c:Nat} {cur:Array Value} {zs:List Value} (ht:Tryz.prog.underlying t = some (.slice e)) (hv:∀ w,(zeroValue e).run Tryz.prog w = .ok z w) (hn:0 < n) (hzs:(Builtin.zeroCells z.cells n).toList = zs) (h1:∀ v ∈ zs,v.oneCell' = true) (hg:w.heap[g]? = some (.cells cur e (0,0))) (hfit:o + zs.length ≤ cur.size)
  (k:∀ w' cur',w.grownBy w' (some g) → w'.heap[g]? = some (.cells cur' e (0,0)) → cur'.size = cur.size → (∀ i,i < o → cur'[i]? = cur[i]?) → K (.tuple #[]) w'):oM Tryz.prog (.call { callee:=.builtin .clear,args:=#[.tmp 0],argTypes:=#[t] }) T [.slice (some ⟨g,o,none⟩) n c] K w:=by
 have hst:=run_storeCells_at Tryz.prog g o e zs 0 cur w hg (by simpa using hfit) h1
 rw [oM_clear]
 have hr:(Builtin.clear_ #[t] T #[.slice (some ⟨g,o,none⟩) n c]).run Tryz.prog w = .ok (.tuple #[]) (w.setRow g (cur.toList.take o ++ zs ++ cur.toList.drop (o + zs.length)).toArray):=by
  obtain ⟨m,rfl⟩:∃ m,n = m + 1:=⟨n - 1,by omega⟩
  simp only [Nat.add_zero] at hst
  simp [Builtin.clear_,run_underlying ht,hv,hzs,hst]
 rw [hr]
 refine k _ _ (grown_setRow _ _ _) (setRow_heap w g _ _ e (0,0) hg) ?_ ?_
 ·simp
  omega
 ·intro i hi
  simp only [List.getElem?_toArray,List.append_assoc]
  rw [List.getElem?_append_left (by simp; omega),List.getElem?_take_of_lt hi]
  simp
theorem store2_at {t T e:TypeId} {x y:Value} {g o:Nat} {cur:Array Value} (hs:∀ w,(sizeOf t).run Tryz.prog w = .ok 2 w) (hx:x.oneCell' = true) (hy:y.oneCell' = true) (hg:w.heap[g]? = some (.cells cur e (0,0))) (hfit:o + 2 ≤ cur.size)
  (k:∀ w' cur',w.grownBy w' (some g) → w'.heap[g]? = some (.cells cur' e (0,0)) → cur'.size = cur.size → (∀ i,i ≠ o → i ≠ o + 1 → cur'[i]? = cur[i]?) → cur'[o]? = some x → cur'[o + 1]? = some y → K undef w'):oM Tryz.prog (.store t (.tmp 0) (.tmp 1)) T [.pointer (some ⟨g,o,none⟩),.agg #[x,y]] K w:=by
 have hst:=run_storeCells_at Tryz.prog g o e [x,y] 0 cur w hg (by simpa using hfit) (by
  intro v hv
  simp at hv
  rcases hv with rfl | rfl
  ·exact hx
  ·exact hy)
 rw [oM_store]
 have hr:(Instr.storeAt t (.pointer (some ⟨g,o,none⟩)) (.agg #[x,y])).run Tryz.prog w = .ok () (w.setRow g (cur.toList.take o ++ [x,y] ++ cur.toList.drop (o + 2)).toArray):=by
  simp only [Nat.add_zero,List.length_cons,List.length_nil,Nat.zero_add] at hst
  have e2:(Value.agg #[x,y]).cells = #[x,y]:=rfl
  simp [Instr.storeAt,storeVar,hs,e2,go_sem]
  simpa [go_sem] using hst
 rw [hr]
 have hl:(cur.toList.take o).length = o:=by simp; omega
 refine k _ _ (grown_setRow _ _ _) (setRow_heap w g _ _ e (0,0) hg) ?_ ?_ ?_ ?_
 ·simp
  omega
 ·intro i h1 h2
  simp only [List.getElem?_toArray,List.append_assoc,List.cons_append,List.nil_append]
  by_cases hi:i < o
  ·rw [List.getElem?_append_left (by rw [hl]; exact hi),List.getElem?_take_of_lt hi]
   simp
  ·rw [List.getElem?_append_right (by rw [hl]; omega),hl]
   obtain ⟨m,rfl⟩:∃ m,i = o + (m + 2):=⟨i - o - 2,by omega⟩
   have e3:o + (m + 2) - o = m + 2:=by omega
   rw [e3]
   simp only [List.getElem?_cons_succ,List.getElem?_drop,Array.getElem?_toList]
   congr 1
   omega
 ·simp only [List.getElem?_toArray,List.append_assoc,List.cons_append,List.nil_append]
  rw [List.getElem?_append_right (by rw [hl]; omega),hl]
  simp
 ·simp only [List.getElem?_toArray,List.append_assoc,List.cons_append,List.nil_append]
  rw [List.getElem?_append_right (by rw [hl]; omega),hl]
  have e3:o + 1 - o = 1:=by omega
  rw [e3]
  simp
theorem zero_sec (n:Nat):(Builtin.zeroCells (Value.agg #[.int .i64 0,.int .i64 0]).cells n).toList.length = n * 2 ∧ ∀ v ∈ (Builtin.zeroCells (Value.agg #[.int .i64 0,.int .i64 0]).cells n).toList,v.oneCell' = true:=by
 constructor
 ·simp [Builtin.zeroCells,Value.cells]
 ·intro v hv
  simp only [Builtin.zeroCells,Array.toList_map,List.mem_map] at hv
  obtain ⟨i,_,rfl⟩:=hv
  have:i % 2 = 0 ∨ i % 2 = 1:=by omega
  rcases this with e | e <;> simp [Value.cells,e,Value.oneCell']
def keepQ (f:Int) (q:List (Int × Int)):List (Int × Int):=q.filter (fun p=>decide (p.1 ≠ f))
theorem keepQ_take (f:Int) (q:List (Int × Int)) (j:Nat) (h:j < q.length):keepQ f (q.take (j + 1)) = if q[j].1 = f then keepQ f (q.take j) else keepQ f (q.take j) ++ [q[j]]:=by
 unfold keepQ
 rw [List.take_succ_eq_append_getElem h,List.filter_append]
 by_cases hf:q[j].1 = f
 ·rw [if_pos hf]; simp [hf]
 ·rw [if_neg hf]; simp [hf]
def Taking (w:World) (g cap:Nat) (f:Int) (q:List (Int × Int)) (j:Nat):Prop:=
 ∃ cur:Array Value,w.heap[g]? = some (.cells cur 147 (0,0)) ∧ cur.size = cap * 2 ∧ (∀ (k:Nat) (x:Value),(flat secC (keepQ f (q.take j)))[k]? = some x → cur[k]? = some x) ∧ (∀ (k:Nat) (x:Value),2 * j ≤ k → (flat secC q)[k]? = some x → cur[k]? = some x)
theorem delete_ok {x:Nat} {f:Int} {v:Value} {q:List (Int × Int)} (hq:q.length < 2 ^ 40) (hx:w.heap[x]? = some (.cells #[.int .i64 f] 3 (0,0))) (ho:w.ownsRow 0 147 2 v q.length (flat secC q)) (k:∀ v' w',w'.ownsRow 0 147 2 v' (keepQ f q).length (flat secC (keepQ f q)) → Fr (fun i=>v.ownBlock = some i) w w' → (∀ i,v'.ownBlock = some i → v.ownBlock = some i) → K v' w'):callM Tryz.prog 164 #[v,.func (.func 165) #[] #[.pointer (some ⟨x,0,none⟩)]] K w:=by
 apply sh_164_ok
 unfold sh_164
 refine index_ok hq hx ho (fun w1 f1=>?_)
 have hx1:=(f1.block x (Array.getElem?_eq_some_iff.1 hx).1 (fun h=>h)).trans hx
 have ho1:w1.ownsRow 0 147 2 v q.length (flat secC q):=owns_keep ho (fun i hi=>f1.block i (owns_own ho hi).1 (fun h=>h))
 rcases idxOf_split f q with ⟨hi,hall⟩ | ⟨q1,p,q2,hsp,hpf,hpre,hi⟩
 ·rw [hi]
  have hk:keepQ f q = q:=List.filter_eq_self.2 (fun p hp=>by simpa using hall p hp)
  rw [hk] at k
  repeat (any_goals (first
  | (with_reducible refine yL ?_)
  | ((with_reducible refine oG fun X Y=>?_); simp [go_sem]; apply Y; clear Y X)))
  exact k v w1 ho1 (f1.mono (fun _ _ h=>h.elim)) (fun i h=>h)
 ·rw [hi]
  have hlen:q.length = q1.length + 1 + q2.length:=by rw [hsp]; simp; omega
  obtain ⟨g,cap,cur,rfl,hg,_,hcur,hcs,hnc,hcell⟩:=owns_cells ho1 (by omega)
  have ht1:q.take q1.length = q1:=by rw [hsp]; simp
  have hk1:keepQ f (q.take q1.length) = q1:=by
   rw [ht1]
   exact List.filter_eq_self.2 (fun p hp=>by simpa using hpre p hp)
  have hqg:q[q1.length]? = some p:=by rw [hsp]; simp
  have hk2:keepQ f (q.take (q1.length + 1)) = q1:=by
   rw [keepQ_take f q q1.length (by omega),hk1,if_pos]
   rw [gE (by omega)] at hqg
   rw [oI hqg]; exact hpf
  have hcf:∀ (k:Nat) (x:Value),(flat secC q)[k]? = some x → cur[k]? = some x:=fun k x h=>by
   have:=hcell k x h
   rw [cell_of_block hcur] at this
   exact this
  have hxg:x ≠ g:=fun e=>by rw [e,hcur] at hx1; cases hx1
  repeat (any_goals (first
  | (with_reducible refine yM ?_)
  | ((with_reducible refine oG fun X Y=>?_); simp [go_sem]; (try simp (disch:=omega) only [wrapI64,wrapU8,wrapU32,wrapU64]); apply Y; clear Y X)))
  have T1:Taking w1 g cap f q (q1.length + 1):=⟨cur,hcur,hcs,fun k x h=>by
   rw [hk2] at h
   refine hcf k x ?_
   rw [hsp,flat_append]
   rw [List.getElem?_append_left (by have:=(gS h).1; exact this)]
   exact h,fun k x _ h=>hcf k x h⟩
  refine ⟨fun l w'=>∃ j:Nat,l = [.int .i64 ((keepQ f (q.take j)).length:Int),.int .i64 (j:Int)] ∧ (keepQ f (q.take j)).length + 1 ≤ j ∧ j ≤ q.length ∧ Taking w' g cap f q j ∧ Fr (fun i=>i = g) w w',fun l _=>match l with | [_,.int _ n]=>((q.length:Int) - n).toNat | _=>0,⟨q1.length + 1,by rw [hk2]; rfl,by rw [hk2]; omega,by omega,T1,f1.mono (fun _ _ h=>h.elim)⟩,?_⟩
  rintro l u w2 ⟨j,rfl,hij,hjn,T2,f2⟩
  simp only [List.getD_cons_zero,List.getD_cons_succ]
  repeat (any_goals (first
  | (with_reducible ((refine idCond ?_); refine yP (fun hg=>?_) fun hg=>?_))
  | ((with_reducible refine oG fun X Y=>?_); simp [go_sem]; apply Y; clear Y X)))
  ·have hlt:j < q.length:=by omega
   obtain ⟨cur2,hcur2,hcs2,hlo2,hhi2⟩:=T2
   have hx2:=(f2.block x (Array.getElem?_eq_some_iff.1 hx).1 (fun h=>hxg h)).trans hx
   have e0:w2.cell? ⟨g,j * 2,none⟩ = some (.int .i64 q[j].1):=by
    rw [cell_of_block hcur2]
    exact hhi2 _ _ (by omega) (by have:=flat_at secC_len q j 0 (gE hlt) (by omega); simpa [secC] using this)
   have e1:w2.cell? ⟨g,j * 2 + 1,none⟩ = some (.int .i64 q[j].2):=by
    rw [cell_of_block hcur2]
    exact hhi2 _ _ (by omega) (by have:=flat_at secC_len q j 1 (gE hlt) (by omega); simpa [secC] using this)
   have hix:=idxSec (c:=cap) (g:=g) hlt w2
   refine ⟨fun l w'=>l = [.int .i64 ((keepQ f (q.take (j + 1))).length:Int)] ∧ (keepQ f (q.take (j + 1))).length + 1 ≤ j + 1 ∧ Taking w' g cap f q (j + 1) ∧ Fr (fun i=>i = g) w w',?_,?_⟩
   ·repeat (any_goals ((with_reducible refine oG fun X Y=>?_); simp [go_sem,hix,e0,e1]; apply Y; clear Y X))
    have pf:Fr (fun _=>False) w2 (w2.alloc (.cells #[.int .i64 q[j].1,.int .i64 q[j].2] 147 (0,0))):=(Fr.refl _ _).alloc _
    have p0:=heap_alloc_new w2 (.cells #[.int .i64 q[j].1,.int .i64 q[j].2] 147 (0,0))
    have pz:=alloc_size w2 (.cells #[.int .i64 q[j].1,.int .i64 q[j].2] 147 (0,0))
    generalize w2.alloc (.cells #[.int .i64 q[j].1,.int .i64 q[j].2] 147 (0,0)) = w3 at *
    have hx3:=(pf.block x (Array.getElem?_eq_some_iff.1 hx2).1 (fun h=>h)).trans hx2
    refine oM_callv1 isBody56 (test1_ok (f:=f) q[j] hx3 (fun w4 f4=>?_))
    have hg2:=(Array.getElem?_eq_some_iff.1 hcur2).1
    have f24:=pf.trans f4 (fun _ h=>h.elim)
    have hcur4:=(f24.block g hg2 (fun h=>h)).trans hcur2
    have p4:=(f4.block w2.heap.size (by omega) (fun h=>h)).trans p0
    have p40:=cell_of_block p4 0
    have p41:=cell_of_block p4 1
    simp at p40 p41
    have fr4:Fr (fun i=>i = g) w w4:=f2.trans f24 (fun _ h=>h.elim)
    have hkt:=keepQ_take f q j hlt
    have hix4:=idxSec (c:=cap) (g:=g) (n:=q.length) (k:=(keepQ f (q.take j)).length) (by omega) w4
    obtain ⟨i,hii⟩:∃ i,i = (keepQ f (q.take j)).length:=⟨_,rfl⟩
    rw [← hii] at hix4 hij ⊢
    have z0:=cell_of_block hcur4 (i * 2)
    have z1:=frozen_of_block hcur4 (i * 2)
    have z3:=frozen_of_block hcur4 (i * 2 + 1)
    have s0:(cur2[i * 2]?).isSome = true:=by simp; omega
    have s1:(cur2[i * 2 + 1]?).isSome = true:=by simp; omega
    have T4:(∀ (k:Nat) (x:Value),2 * (j + 1) ≤ k → (flat secC q)[k]? = some x → cur2[k]? = some x):=fun k x h1 h2=>hhi2 k x (by omega) h2
    repeat (any_goals (first
    | (with_reducible ((refine idCond ?_); refine yS (fun hg=>?_) fun hg=>?_))
    | ((with_reducible refine oG fun X Y=>?_); simp [go_sem,p40,p41,hix4]; apply Y; clear Y X)))
    ·have hpf':q[j].1 = f:=by assumption
     rw [if_pos hpf'] at hkt
     refine ⟨by rw [hkt,hii],by rw [hkt]; omega,⟨cur2,hcur4,hcs2,by rw [hkt]; exact hlo2,T4⟩,fr4⟩
    ·have hpf':¬ q[j].1 = f:=by assumption
     rw [if_neg hpf'] at hkt
     refine store2_at (fun w=>by kernel_rfl) rfl rfl hcur4 (by omega) (fun w5 cur5 hg5 hcur5 hs5 hne5 ha5 hb5=>?_)
     repeat (any_goals ((with_reducible refine oG fun X Y=>?_); simp [go_sem]; (try simp (disch:=omega) only [wrapI64,wrapU8,wrapU32,wrapU64]); apply Y; clear Y X))
     have hfl:=flat_length secC_len (keepQ f (q.take j))
     refine ⟨by rw [hkt,List.length_append,← hii]; rfl,by rw [hkt,List.length_append,← hii]; simp; omega,⟨cur5,hcur5,by rw [hs5,hcs2],?_,?_⟩,fr4.by hg5 (fun i hi=>by cases hi; exact .inl rfl)⟩
     ·intro k x hk
      rw [hkt,flat_snoc] at hk
      by_cases hki:k < i * 2
      ·rw [List.getElem?_append_left (by rw [hfl,← hii]; exact hki)] at hk
       rw [hne5 k (by omega) (by omega)]
       exact hlo2 k x hk
      ·rw [List.getElem?_append_right (by rw [hfl,← hii]; omega),hfl,← hii] at hk
       have hk2:k - i * 2 < 2:=by have:=(gS hk).1; exact this
       obtain ⟨m,rfl⟩:∃ m,k = i * 2 + m:=⟨k - i * 2,by omega⟩
       have e3:i * 2 + m - i * 2 = m:=by omega
       rw [e3] at hk hk2
       match m,hk2,hk with
       | 0,_,hk=>rw [Nat.add_zero,ha5]; exact hk
       | 1,_,hk=>rw [hb5]; exact hk
     ·intro k x h1 h2
      rw [hne5 k (by omega) (by omega)]
      exact T4 k x h1 h2
   ·rintro l u w3 ⟨rfl,hij3,T3,f3⟩
    simp only [List.getD_cons_zero]
    repeat (any_goals ((with_reducible refine oG fun X Y=>?_); simp [go_sem]; (try simp (disch:=omega) only [wrapI64,wrapU8,wrapU32,wrapU64]); apply Y; clear Y X))
    refine ⟨⟨j + 1,rfl,hij3,by omega,T3,f3⟩,?_⟩
    show ((q.length:Int) - ((j:Int) + 1)).toNat < ((q.length:Int) - (j:Int)).toNat
    omega
  ·have hjq:j = q.length:=by omega
   subst hjq
   obtain ⟨cur2,hcur2,hcs2,hlo2,hhi2⟩:=T2
   have htk:q.take q.length = q:=List.take_of_length_le (rL)
   rw [htk] at hij hlo2 ⊢
   obtain ⟨hz1,hz2⟩:=zero_sec (q.length - (keepQ f q).length)
   refine sliceFrom_at (sz:=2) (by kernel_rfl) (fun w=>by kernel_rfl) _ (by omega) (by omega) ?_
   rw [Nat.zero_add]
   refine clear_at (by kernel_rfl) (z:=.agg #[.int .i64 0,.int .i64 0]) (fun w=>by kernel_rfl) (by omega) rfl hz2 hcur2 (by rw [hz1]; omega) (fun w3 cur3 hg3 hcur3 hs3 hlo3=>?_)
   refine sliceTo_at (sz:=2) (by kernel_rfl) (fun w=>by kernel_rfl) _ (by omega) ?_
   have f3:Fr (fun i=>i = g) w w3:=f2.by hg3 (fun i hi=>by cases hi; exact .inl rfl)
   have hfl:=flat_length secC_len (keepQ f q)
   refine k _ w3 ⟨hfl,.inr ⟨g,cap,cur3,rfl,Nat.zero_le _,hcur3,by omega,?_,by rw [hs3,hcs2],?_⟩⟩ (f3.mono (fun i _ hi=>by rw [hi]; rfl)) (fun i hi=>hi)
   ·rcases ho.2 with ⟨h1,_⟩ | ⟨g',cap',cur',h1,_,_,_,hm,_⟩
    ·cases h1
    ·cases h1; exact hm
   ·apply List.ext_getElem?
    intro i
    by_cases hi:i < (keepQ f q).length * 2
    ·rw [List.getElem?_take_of_lt hi]
     have hx':(flat secC (keepQ f q))[i]? = some ((flat secC (keepQ f q))[i]'(by rw [hfl]; exact hi)):=gE _
     rw [hx',Array.getElem?_toList,hlo3 i hi]
     exact hlo2 i _ hx'
    ·rw [List.getElem?_eq_none (by simp; omega),List.getElem?_eq_none (by rw [hfl]; omega)]
end
end Go.Proofs
namespace Go.Sh
open Go Go.RowKit
theorem nodup_sub_len {κ:Type} [DecidableEq κ] (d ks:List κ) (hn:d.Nodup) (hs:∀ x ∈ d,x ∈ ks):d.length ≤ ks.length:=by
 induction d generalizing ks with
 | nil=>simp
 | cons a d ih=>
  rw [List.nodup_cons] at hn
  have ha:=hs a (List.mem_cons_self ..)
  have:=ih (ks.erase a) hn.2 (fun x hx=>by
   have hne:x ≠ a:=fun e=>hn.1 (by rw [← e]; exact hx)
   exact (List.mem_erase_of_ne hne).2 (hs x (List.mem_cons_of_mem _ hx)))
  rw [List.length_erase_of_mem ha] at this
  have:=List.length_pos_of_mem ha
  simp only [List.length_cons]
  omega
@[go_sem] theorem oM_extract1 {P:Program} {K:VK} {w:World} (T:TypeId) (a:Value):oM P (.extract (.tmp 0) 0) T [.tuple #[a]] K w = K a w:=oM_of_run rfl
section
variable {w:World} {κ:Type} [DecidableEq κ] {mk:κ → Value}
theorem Ranged.seen {it b:Nat} {l:List (κ × Value)} {ks done:List κ} (h:Ranged mk w it b l ks done):(w.iterSeen it).size = done.length:=by
 obtain ⟨es,clock,seen,f,h1,h2,h3,h4,h5,h6,h7,h8,_⟩:=h
 unfold World.iterSeen
 rw [h2]
 have:=congrArg List.length h8
 simpa using this
theorem Ranged.sub {it b:Nat} {l:List (κ × Value)} {ks done:List κ} (h:Ranged mk w it b l ks done):∀ a ∈ done,a ∈ ks:=by
 obtain ⟨es,clock,seen,f,h1,h2,h3,h4,h5,h6,h7,h8,h9,h10⟩:=h
 exact h10
end
end Go.Sh
namespace Go.Proofs
open Go Go.Sh Go.RowKit DkSpec
attribute [local go_sem] oM_indexAddr
section
variable {w:World} {b:Nat} {A:Ab} {h:Dk} {K:VK}
theorem oM_callv2 {P:Program} {f:FuncId} {fs cs:Array Value} {T:TypeId} {ts:Array TypeId} {x y:Value} (hb:isBody P f = true) (h:callM P f (fs ++ #[x,y] ++ cs) K w):oM P (.call { callee:=.value (.tmp 0),args:=#[.tmp 1,.tmp 2],argTypes:=ts }) T [.func (.func f) fs cs,x,y] K w:=
 oM_callv _ hb (by simp [xop,execOp,evalL,evE,resolve,Deferred.ofValue,invoke]) h
theorem deleteMap_ok {x sm:Nat} {f:Int} {ls:List ((Int × Int) × Value)} (hx:w.heap[x]? = some (.cells #[.int .i64 f] 3 (0,0))) (m:MapIs secV w sm ls) (k:∀ w',MapIs secV w' sm (ls.filter (fun y=>decide (y.1.1 ≠ f))) → Fr (fun i=>i = sm) w w' → K (.tuple #[]) w'):callM Tryz.prog 166 #[.map (some sm),.func (.func 167) #[] #[.pointer (some ⟨x,0,none⟩)]] K w:=by
 apply sh_166_ok
 unfold sh_166
 obtain ⟨o,hr,R⟩:=run_range (P:=Tryz.prog) (t:=143) (kt:=147) (et:=4) (by kernel_rfl) m
 have f0:Fr (fun i=>i = sm) w (w.alloc o):=(Fr.refl _ _).alloc _
 repeat (any_goals ((with_reducible refine oG fun X Y=>?_); simp [go_sem,hr]; apply Y; clear Y X))
 generalize w.alloc o = w0 at *
 have hsm:sm < w.heap.size:=m.lt
 refine ⟨fun l w'=>∃ u done,l = [u] ∧ done.Nodup ∧ Ranged secV w' w.heap.size sm (ls.filter (fun y=>decide (¬ (y.1 ∈ done ∧ y.1.1 = f)))) (ls.map (·.1)) done ∧ Fr (fun i=>i = sm) w w',fun _ w'=>(ls.map (·.1)).length + 1 - (w'.iterSeen w.heap.size).size,⟨_,[],rfl,List.nodup_nil,by
  have e:ls.filter (fun y=>decide (¬ (y.1 ∈ ([]:List (Int × Int)) ∧ y.1.1 = f))) = ls:=List.filter_eq_self.2 (fun y _=>by simp)
  rw [e]; exact R,f0⟩,?_⟩
 rintro l u w1 ⟨u1,done,rfl,hnd,R1,f1⟩
 have hlen:=nodup_sub_len done _ hnd R1.sub
 have hseen:=R1.seen
 rcases run_next (P:=Tryz.prog) (ty:=0) R1 with ⟨hall,hn⟩ | ⟨y,hy,hyd,w2,hn,R2,g2,z2⟩
 ·repeat (any_goals (first
  | (with_reducible refine yM ?_)
  | ((with_reducible refine oG fun X Y=>?_); simp [go_sem,hn]; apply Y; clear Y X)))
  refine k w1 ?_ f1
  have:=R1.map
  have e:ls.filter (fun y=>decide (¬ (y.1 ∈ done ∧ y.1.1 = f))) = ls.filter (fun y=>decide (y.1.1 ≠ f)):=by
   apply List.filter_congr
   intro y hy
   by_cases hf:y.1.1 = f
   ·by_cases hd:y.1 ∈ done
    ·simp [hf,hd]
    ·have hy':y ∈ ls.filter (fun y=>decide (¬ (y.1 ∈ done ∧ y.1.1 = f))):=List.mem_filter.2 ⟨hy,by simp [hd]⟩
     exact absurd (hall y hy') hd
   ·simp [hf]
  rw [e] at this
  exact this
 ·have he:=run_entry (P:=Tryz.prog) R2 hy
  have f2:Fr (fun i=>i = sm) w w2:=f1.by g2 (fun i hi=>by cases hi; exact .inr (rL))
  simp only [secV] at hn he
  repeat (any_goals (first
  | (with_reducible refine yL ?_)
  | ((with_reducible refine oG fun X Y=>?_); simp [go_sem,hn,he]; apply Y; clear Y X)))
  have pf:Fr (fun _=>False) w2 (w2.alloc (.cells #[.int .i64 y.1.1,.int .i64 y.1.2] 147 (0,0))):=(Fr.refl _ _).alloc _
  have p0:=heap_alloc_new w2 (.cells #[.int .i64 y.1.1,.int .i64 y.1.2] 147 (0,0))
  have pz:=alloc_size w2 (.cells #[.int .i64 y.1.1,.int .i64 y.1.2] 147 (0,0))
  generalize w2.alloc (.cells #[.int .i64 y.1.1,.int .i64 y.1.2] 147 (0,0)) = w3 at *
  have hxl:=(Array.getElem?_eq_some_iff.1 hx).1
  have hxs:x ≠ sm:=fun e=>by
   obtain ⟨es,c,hm⟩:=MapIs.isMap m
   rw [e,hm] at hx; cases hx
  have hx2:=(f2.block x hxl hxs).trans hx
  have hx3:=(pf.block x (Array.getElem?_eq_some_iff.1 hx2).1 (fun h=>h)).trans hx2
  refine oM_callv2 isBody58 (test2_ok (f:=f) y.1 y.2 hx3 (fun w4 f4=>?_))
  have f24:=pf.trans f4 (fun _ h=>h.elim)
  have R4:=R2.of_blocks (f24.block sm R2.lt.1 (fun h=>h)) (f24.block w.heap.size R2.lt.2.1 (fun h=>h))
  have p4:=(f4.block w2.heap.size (by omega) (fun h=>h)).trans p0
  have p40:=cell_of_block p4 0
  have p41:=cell_of_block p4 1
  simp at p40 p41
  have fr4:Fr (fun i=>i = sm) w w4:=f2.trans f24 (fun _ h=>h.elim)
  have hmem:y.1 ∈ (ls.filter (fun y=>decide (¬ (y.1 ∈ done ∧ y.1.1 = f)))).map (·.1):=List.mem_map_of_mem hy
  have hlen4:=nodup_sub_len (y.1 :: done) _ (List.nodup_cons.2 ⟨hyd,hnd⟩) R4.sub
  simp only [List.length_cons] at hlen4
  obtain ⟨w5,hd,R5,g5,z5⟩:=run_deleteR (P:=Tryz.prog) (t:=143) (et:=4) (ty:=0) keyS (by kernel_rfl) R4 y.1 hmem
  simp only [secV] at hd
  repeat (any_goals (first
  | (with_reducible ((refine idCond ?_); refine yP (fun hg=>?_) fun hg=>?_))
  | ((with_reducible refine oG fun X Y=>?_); simp [go_sem,p40,p41,hd]; apply Y; clear Y X)))
  ·have hf:y.1.1 = f:=by assumption
   refine ⟨⟨_,y.1 :: done,rfl,List.nodup_cons.2 ⟨hyd,hnd⟩,?_,fr4.by g5 (fun i hi=>by cases hi; exact .inl rfl)⟩,?_⟩
   ·have e:delA (ls.filter (fun y=>decide (¬ (y.1 ∈ done ∧ y.1.1 = f)))) y.1 = ls.filter (fun z=>decide (¬ (z.1 ∈ y.1 :: done ∧ z.1.1 = f))):=by
     unfold delA
     rw [List.filter_filter]
     apply List.filter_congr
     intro z _
     by_cases hz:z.1 = y.1
     ·simp [hz,hf]
     ·simp [hz]
    rw [← e]; exact R5
   ·have:=R5.seen
    simp only [List.length_cons] at this
    show _ - _ < _ - _
    omega
  ·have hf:¬ y.1.1 = f:=by assumption
   refine ⟨⟨_,y.1 :: done,rfl,List.nodup_cons.2 ⟨hyd,hnd⟩,?_,fr4⟩,?_⟩
   ·have e:ls.filter (fun y=>decide (¬ (y.1 ∈ done ∧ y.1.1 = f))) = ls.filter (fun z=>decide (¬ (z.1 ∈ y.1 :: done ∧ z.1.1 = f))):=by
     apply List.filter_congr
     intro z _
     by_cases hz:z.1 = y.1
     ·simp [hz,hf]
     ·simp [hz]
    rw [← e]; exact R4
   ·have:=R4.seen
    simp only [List.length_cons] at this
    show _ - _ < _ - _
    omega
end
end Go.Proofs
namespace Go.Proofs
open Go Go.Sh Go.RowKit DkSpec
attribute [local go_sem] oM_indexAddr
section
variable {w:World} {b:Nat} {A:Ab} {h:Dk} {K:VK}
@[go_sem] theorem oM_makeFuncC {P:Program} (fn:Fn) (T:TypeId) (x:Value):oM P (.makeFunc fn #[] #[.tmp 0]) T [x] K w = K (.func fn #[] #[x]) w:=oM_of_run (by simp [xop,execOp,evalL,evE,Instr.makeFunc])
theorem settle_ok (d:IsDk w b A h) (f:Int) (s:Bs) (hs:s.length ≤ 16777216) (k:∀ w' h',IsDk w' b (settleA A f s) h' → Step w b h w' h' → K (.tuple #[]) w'):callM Tryz.prog 119 #[dkP b,.int .i64 f,bsV s] K w:=by
 apply sh_119_ok
 unfold sh_119
 repeat (any_goals ((with_reducible refine oG fun X Y=>?_); simp [go_sem]; apply Y; clear Y X))
 have pf:Fr (fun _=>False) w (w.alloc (.cells #[.int .i64 f] 3 (0,0))):=(Fr.refl _ _).alloc _
 have p0:=heap_alloc_new w (.cells #[.int .i64 f] 3 (0,0))
 have pz:=alloc_size w (.cells #[.int .i64 f] 3 (0,0))
 generalize w.alloc (.cells #[.int .i64 f] 3 (0,0)) = w1 at *
 have d1:=d.fresh pf
 have c0:=d1.c 0
 simp only [dkCells] at c0
 have p00:=cell_of_block p0 0
 simp at p00
 refine ⟨fun sg w'=>sg ≤ 1 → w'.heap = w1.heap,fun _=>rfl,?_⟩
 repeat (first | (with_reducible refine pX ?_) | (with_reducible refine oH_nil ?_) | (with_reducible refine gdH_true rfl ?_) | (with_reducible refine gdH_false rfl ?_) | (refine oH_of ⟨_,rfl⟩ (fun W0 hW0=>by (obtain ⟨s0,hs0,hC⟩:=hW0); (refine oG (fun X Y=>?_)); simp [go_sem,cell_heap (hC (by omega)),c0,p00]; (first | exact Y _ _ ⟨rfl,rfl⟩ | exact ⟨by omega,Y _ _ ⟨rfl,rfl⟩⟩)) ?_))
 generalize hw2:({ w1 with drawn:=w1.drawn + 1 }:World) = w2
 have hh:w2.heap = w1.heap:=by rw [← hw2]
 have d2:=d1.heap hh
 have f2:Fr (fun _=>False) w w2:=by rw [← hw2]; exact pf.drew
 have p2:w2.heap[w.heap.size]? = some (.cells #[.int .i64 f] 3 (0,0)):=by rw [hh]; exact p0
 rw [← hh] at pz
 clear hw2
 obtain ⟨w4,hr4,d4,t4⟩:=d2.setFile f (s,s) ⟨hs,hs⟩
 simp only at hr4
 repeat (any_goals (first
 | (with_reducible refine And.intro (fun _=>hh) ?_) | (with_reducible refine And.intro (fun hs=>absurd hs (by decide)) ?_)
 | ((with_reducible refine oG fun X Y=>?_); simp [go_sem,hr4]; apply Y; clear Y X)))
 have t04:Step w b h w4 h:=(Step.fresh f2).trans t4
 have blt:b < w.heap.size:=d.lt (.inl (.inl rfl))
 have hnown:∀ i,Own b h i → i < w.heap.size:=fun i hi=>d.lt (.inl hi)
 have p4:=(t4.fr.block w.heap.size (by omega) (fun ho=>by have:=hnown _ ho; omega)).trans p2
 have c1:=d4.c 1
 simp only [dkCells] at c1
 repeat (any_goals (first
 | (with_reducible refine delete_ok (f:=f) (by have:=d4.wf.ql; omega) p4 d4.que ?_)
 | ((with_reducible refine oG fun X Y=>?_); simp [go_sem,c1]; apply Y; clear Y X)))
 intro v' w5 ho5 f5 hv5
 obtain ⟨va,vc,rfl⟩:=owns_len ho5
 have hq4:∀ i,h.q.ownBlock = some i → i < w.heap.size:=fun i hi=>hnown i (.inr (.inr (.inr hi)))
 have k5:∀ i,i < w4.heap.size → h.q.ownBlock ≠ some i → w5.heap[i]? = w4.heap[i]?:=fun i hi hn=>f5.block i hi (fun e=>hn e)
 have hz4:=t4.fr.size
 have hz5:=f5.size
 have hqb:h.q.ownBlock ≠ some b:=fun e=>(d4.qne e).1 rfl
 have hqf:h.q.ownBlock ≠ some h.fm:=fun e=>(d4.qne e).2.1 rfl
 have hqs:h.q.ownBlock ≠ some h.sm:=fun e=>(d4.qne e).2.2 rfl
 have b5:=(k5 b (by omega) hqb).trans d4.blk
 have p5:=(k5 w.heap.size (by omega) (fun e=>by have:=hq4 _ e; omega)).trans p4
 have e1:=cell_of_block b5 1
 have y1:=frozen_of_block b5 1
 have b6:=block_set (i:=1) b5 (.slice va (keepQ f A.queue).length vc)
 have e2:=cell_of_block b6 2
 simp [dkCells] at e1 e2
 repeat (any_goals ((with_reducible refine oG fun X Y=>?_); simp [go_sem,e1,y1,e2]; apply Y; clear Y X))
 have k6:∀ i,i ≠ b → (w5.setCell ⟨b,1,none⟩ (.slice va (keepQ f A.queue).length vc)).heap[i]? = w5.heap[i]?:=fun i hi=>setCell_heap_ne _ _ _ _ hi
 have z6:=grown_setCell w5 ⟨b,1,none⟩ (.slice va (keepQ f A.queue).length vc)
 have zz6:(w5.setCell ⟨b,1,none⟩ (.slice va (keepQ f A.queue).length vc)).heap.size = w5.heap.size:=by simp [World.setCell]
 generalize w5.setCell ⟨b,1,none⟩ (.slice va (keepQ f A.queue).length vc) = w6 at *
 have p6:=(k6 w.heap.size (by omega)).trans p5
 have hsm4:h.sm < w.heap.size:=hnown _ (.inr (.inr (.inl rfl)))
 have hfm4:h.fm < w.heap.size:=hnown _ (.inr (.inl rfl))
 obtain ⟨ls,ms,hls⟩:=d4.set
 have m6:MapIs secV w6 h.sm ls:=ms.of_block ((k6 _ d4.bsm.symm).trans (k5 _ (by omega) hqs))
 refine deleteMap_ok (f:=f) p6 m6 (fun w7 m7 f7=>?_)
 have k7:∀ i,i < w4.heap.size → i ≠ h.sm → w7.heap[i]? = w6.heap[i]?:=fun i hi hn=>f7.block i (by omega) hn
 have hvn:∀ i,(Value.slice va (keepQ f A.queue).length vc).ownBlock = some i → i ≠ b ∧ i ≠ h.sm ∧ i < w.heap.size:=fun i hi=>⟨(d4.qne (hv5 i hi)).1,(d4.qne (hv5 i hi)).2.2,hq4 i (hv5 i hi)⟩
 refine k w7 { h with q:=.slice va (keepQ f A.queue).length vc } ⟨?_,?_,?_,?_,?_,d.ne,settleA_wf d.wf f s hs⟩ ⟨?_,?_,fun i hi=>.inl hi⟩
 ·rw [k7 b (by omega) d4.bsm,b6]; rfl
 ·obtain ⟨l,m,hl⟩:=d4.files
  exact ⟨l,m.of_block (by rw [k7 _ (by omega) d4.ne,k6 _ d4.bfm.symm,k5 _ (by omega) hqf]),hl⟩
 ·refine ⟨_,m7,fun p=>?_⟩
  rw [lookA_filter (fun p:Int × Int=>decide (p.1 ≠ f)),hls]
  show _ = if p ∈ A.queue.filter (fun p=>decide (p.1 ≠ f)) then _ else _
  by_cases hp:p.1 = f
  ·simp [hp]
  ·simp [hp]
 ·exact owns_keep ho5 (fun i hi=>by
   have:=hvn i hi
   rw [k7 i (by omega) this.2.1,k6 i this.1])
 ·refine owns_keep d4.kep (fun i hi=>?_)
  have h1:=d4.kne hi
  have h2:=d4.lt (.inr hi)
  rw [k7 i h2 h1.2.2.1,k6 i h1.1,k5 i h2 h1.2.2.2]
 ·have fA:Fr (Own b h) w w5:=t04.fr.trans f5 (fun i hi=>.inl (.inr (.inr (.inr hi))))
  have fB:Fr (Own b h) w w6:=fA.by z6 (fun i hi=>by cases hi; exact .inl (.inl rfl))
  exact fB.trans f7 (fun i hi=>.inl (.inr (.inr (.inl hi))))
 ·rintro i (rfl | rfl | rfl | hi)
  ·exact .inl (.inl rfl)
  ·exact .inl (.inr (.inl rfl))
  ·exact .inl (.inr (.inr (.inl rfl)))
  ·exact .inl (.inr (.inr (.inr (hv5 i hi))))
end
end Go.Proofs
namespace Go.Proofs
open Go Go.Sh Go.RowKit DkSpec
attribute [local go_sem] oM_indexAddr
def crTail (a0 v5_20 v6_32 v39_31 x:Value) (M_16:List Value → World → Prop) (w:World):Prop:=
 (stageM w (fun C_52 w=>(oH Tryz.prog (Go.Op.fieldAddr 149 (.tmp 0) 1) 0 [v6_32] (upto C_52 0) (fun v61_53=>
 oH Tryz.prog (Go.Op.load 9 (.tmp 0)) 9 [v61_53] (upto C_52 0) (fun v62_54=>
 pureH v39_31 (upto C_52 0) (fun v63_55=>
 oH Tryz.prog (Go.Op.fieldAddr 149 (.tmp 0) 0) 0 [v6_32] (upto C_52 0) (fun v64_56=>
 oH Tryz.prog (Go.Op.load 9 (.tmp 0)) 9 [v64_56] (upto C_52 0) (fun v65_57=>
 pureH v39_31 (upto C_52 0) (fun v66_58=>
 pureH v39_31 (upto C_52 0) (fun v67_59=>
 oH Tryz.prog (Go.Op.binOp Go.BinOp.add 3 (.tmp 0) (.tmp 1) 3) 3 [v67_59,(.int .i64 64)] (upto C_52 0) (fun v68_60=>
 oH Tryz.prog (Go.Op.fieldAddr 149 (.tmp 0) 0) 0 [v6_32] (upto C_52 0) (fun v69_61=>
 oH Tryz.prog (Go.Op.load 9 (.tmp 0)) 9 [v69_61] (upto C_52 0) (fun v70_62=>
 oH Tryz.prog (Go.Op.call (Go.Call.mk (Go.Callee.builtin Go.Builtin.len) #[(.tmp 0)] #[9])) 3 [v70_62] (upto C_52 0) (fun v71_63=>
 oH Tryz.prog (Go.Op.call (Go.Call.mk (Go.Callee.builtin Go.Builtin.min) #[(.tmp 0),(.tmp 1)] #[3,3])) 3 [v68_60,v71_63] (upto C_52 0) (fun v72_64=>
 oH Tryz.prog (Go.Op.slice 9 (.tmp 0) (some (.tmp 1)) (some (.tmp 2)) none) 9 [v65_57,v66_58,v72_64] (upto C_52 0) (fun v73_65=>
 callM Tryz.prog 76 #[v62_54,v63_55,v73_65] (fun v74_66 w=>C_52 1 w ∧ (
 oM Tryz.prog (Go.Op.fieldAddr 149 (.tmp 0) 1) 0 [v6_32] (fun v75_67 w=>C_52 2 w ∧ (
 oM Tryz.prog (Go.Op.store 9 (.tmp 0) (.tmp 1)) 0 [v75_67,v74_66] (fun _ w=>C_52 3 w ∧ (
 stageM w (fun C_68 w=>(pureH a0 (upto C_68 0) (fun v76_69=>
 oH Tryz.prog (Go.Op.nilCheck (.tmp 0)) 0 [v76_69] (upto C_68 0) (fun v77_70=>
 oH Tryz.prog (Go.Op.fieldAddr 145 (.tmp 0) 0) 0 [v77_70] (upto C_68 0) (fun v78_71=>
 oH Tryz.prog (Go.Op.load 141 (.tmp 0)) 141 [v78_71] (upto C_68 0) (fun v79_72=>
 oH Tryz.prog (Go.Op.fieldAddr 147 (.tmp 0) 0) 0 [v5_20] (upto C_68 0) (fun v80_73=>
 oH Tryz.prog (Go.Op.load 3 (.tmp 0)) 3 [v80_73] (upto C_68 0) (fun v81_74=>
 oH Tryz.prog (Go.Op.load 149 (.tmp 0)) 149 [v6_32] (upto C_68 0) (fun v82_75=>
 oM Tryz.prog (Go.Op.mapUpdate 141 (.tmp 0) (.tmp 1) (.tmp 2)) 0 [v79_72,v81_74,v82_75] (fun _ w=>C_68 1 w ∧ (
 M_16 [x,v39_31] w)) w))))))))))) w)) w)) w))))))))))))))))
def crEnd (a0:Value) (K:VK) (w:World):Prop:=
 (oM Tryz.prog (Go.Op.nilCheck (.tmp 0)) 0 [a0] (fun v85_77 w=>
 oM Tryz.prog (Go.Op.fieldAddr 145 (.tmp 0) 0) 0 [v85_77] (fun v86_78 w=>
 oM Tryz.prog (Go.Op.load 141 (.tmp 0)) 141 [v86_78] (fun v87_79 w=>
 oM Tryz.prog (Go.Op.range 141 (.tmp 0)) 0 [v87_79] (fun v88_80 w=>
 loopM [undef] w (fun J_81 m_82 l_83 u_l_83 w0_l_83=>(fun w=>(
 oM Tryz.prog (Go.Op.next (.tmp 0) false) 0 [v88_80] (fun v89_84 w=>
 oM Tryz.prog (Go.Op.extract (.tmp 0) 0) 4 [v89_84] (fun v90_85 w=>
 condM v90_85
 (oM Tryz.prog (Go.Op.entry (.tmp 0)) 0 [v88_80] (fun v91_86 w=>
 oM Tryz.prog (Go.Op.extract (.tmp 0) 0) 3 [v91_86] (fun v92_87 w=>
 oM Tryz.prog (Go.Op.extract (.tmp 0) 1) 149 [v91_86] (fun v93_88 w=>
 oM Tryz.prog (Go.Op.alloc 149) 0 [] (fun v9_89 w=>
 oM Tryz.prog (Go.Op.store 149 (.tmp 0) (.tmp 1)) 0 [v9_89,v93_88] (fun _ w=>
 stageM w (fun C_90 w=>(pureH a0 (upto C_90 1) (fun v94_91=>
 oH Tryz.prog (Go.Op.nilCheck (.tmp 0)) 0 [v94_91] (upto C_90 1) (fun v95_92=>
 oH Tryz.prog (Go.Op.fieldAddr 145 (.tmp 0) 0) 0 [v95_92] (upto C_90 1) (fun v96_93=>
 oH Tryz.prog (Go.Op.load 141 (.tmp 0)) 141 [v96_93] (upto C_90 1) (fun v97_94=>
 pureH v92_87 (upto C_90 1) (fun v98_95=>
 oH Tryz.prog (Go.Op.fieldAddr 149 (.tmp 0) 1) 0 [v9_89] (upto C_90 0) (fun v99_96=>
 oH Tryz.prog (Go.Op.load 9 (.tmp 0)) 9 [v99_96] (upto C_90 0) (fun v100_97=>
 oH Tryz.prog (Go.Op.fieldAddr 149 (.tmp 0) 1) 0 [v9_89] (upto C_90 0) (fun v101_98=>
 oH Tryz.prog (Go.Op.load 9 (.tmp 0)) 9 [v101_98] (upto C_90 0) (fun v102_99=>
 oM Tryz.prog (Go.Op.build 149 #[(0,(.tmp 0)),(1,(.tmp 1))]) 149 [v100_97,v102_99] (fun v103_100 w=>C_90 1 w ∧ (
 oM Tryz.prog (Go.Op.mapUpdate 141 (.tmp 0) (.tmp 1) (.tmp 2)) 0 [v97_94,v98_95,v103_100] (fun _ w=>C_90 2 w ∧ (
 J_81 [v92_87] w ∧ m_82 [v92_87] w < m_82 l_83 w0_l_83)) w)) w)))))))))))) w) w) w) w) w)
 (oM Tryz.prog (Go.Op.makeMap 143 none) 143 [] (fun v106_101 w=>
 oM Tryz.prog (Go.Op.nilCheck (.tmp 0)) 0 [a0] (fun v107_102 w=>
 oM Tryz.prog (Go.Op.fieldAddr 145 (.tmp 0) 1) 0 [v107_102] (fun v108_103 w=>
 oM Tryz.prog (Go.Op.store 142 (.tmp 0) (.tmp 1)) 0 [v108_103,(.slice none 0 0)] (fun _ w=>
 oM Tryz.prog (Go.Op.nilCheck (.tmp 0)) 0 [a0] (fun v109_104 w=>
 oM Tryz.prog (Go.Op.fieldAddr 145 (.tmp 0) 2) 0 [v109_104] (fun v110_105 w=>
 oM Tryz.prog (Go.Op.store 143 (.tmp 0) (.tmp 1)) 0 [v110_105,v106_101] (fun _ w=>
 K (.tuple #[]) w) w) w) w) w) w) w) w)) w) w)) w0_l_83)) w) w) w) w)
section
variable {w:World} {b:Nat} {A:Ab} {h:Dk} {K:VK}
set_option maxHeartbeats 1000000 in
theorem crTail_ok {n m:Nat} {p:Int × Int} {x:Value} {M:List Value → World → Prop} (d:IsDk w b A h) (hp:w.heap[n]? = some (.cells #[.int .i64 p.1,.int .i64 p.2] 147 (0,0))) {cur:Array Value} (hm:w.heap[m]? = some (.cells cur 149 (0,0))) (hc0:cur[0]? = some (bsV (A.F p.1).1)) (hc1:cur[1]? = some (bsV (A.F p.1).2)) (hs:cur.size = 2)
  (hn:¬ Own b h n) (hm':¬ Own b h m) (hm2:¬ Rdb h m) (hnm:n ≠ m) (h0:0 ≤ p.2 ∧ p.2 < 262144) (hbig:64 * p.2 < ((A.F p.1).1.length:Int))
  (k:∀ w',IsDk w' b { A with F:=setF A.F p.1 ((A.F p.1).1,putB (A.F p.1).2 (64 * p.2).toNat (DkSpec.sector (A.F p.1).1 p.2)) } h → Fr (fun i=>Own b h i ∨ i = m) w w' → M [x,.int .i64 (64 * p.2)] w'):crTail (dkP b) (.pointer (some ⟨n,0,none⟩)) (.pointer (some ⟨m,0,none⟩)) (.int .i64 (64 * p.2)) x M w:=by
 unfold crTail
 have z0:=cell_of_block hm 0
 have z1:=cell_of_block hm 1
 have hsz:=d.wf.sz p.1
 obtain ⟨now,hnow⟩:∃ now,now = (A.F p.1).1:=⟨_,rfl⟩
 obtain ⟨last,hlast⟩:∃ last,last = (A.F p.1).2:=⟨_,rfl⟩
 rw [← hnow,← hlast] at hsz
 rw [← hnow] at hc0 hbig
 rw [← hlast] at hc1
 rw [hc0] at z0
 rw [hc1] at z1
 obtain ⟨a,ha⟩:∃ a:Nat,(a:Int) = 64 * p.2:=⟨(64 * p.2).toNat,by omega⟩
 have hmin:min ((a:Int) + 64) (now.length:Int) = ((min (a + 64) now.length:Nat):Int):=by omega
 rw [← ha] at hbig ⊢
 refine ⟨fun sg w'=>sg ≤ 0 → w'.heap = w.heap,fun _=>rfl,?_⟩
 have hwr:IntKind.i64.wrap ((a:Int) + 64) = (a:Int) + 64:=wrapI64 _ (by omega) (by omega)
 repeat (first | (with_reducible refine pX ?_) | (with_reducible refine oH_nil ?_) | (with_reducible refine gdH_true rfl ?_) | (with_reducible refine gdH_false rfl ?_) | (refine oH_of ⟨_,rfl⟩ (fun W0 hW0=>by (obtain ⟨s0,hs0,hC⟩:=hW0); (refine oG (fun X Y=>?_)); simp [go_sem,cell_heap (hC (by omega)),z0,z1,hwr,hmin,ba_ext]; (first | exact Y _ _ ⟨rfl,rfl⟩ | exact ⟨by omega,Y _ _ ⟨rfl,rfl⟩⟩)) ?_))
 have hsec:(now.drop a).take (min (a + 64) now.length - a) = DkSpec.sector now p.2:=by
  unfold DkSpec.sector
  rw [← ha,Int.toNat_natCast,List.take_eq_take_iff,List.length_drop]
  omega
 simp only [bsV,Int.toNat_natCast]
 rw [hsec]
 generalize hw2:({ w with drawn:=w.drawn + 1 }:World) = w2
 have hh:w2.heap = w.heap:=by rw [← hw2]
 have f2:Fr (fun _=>False) w w2:=by rw [← hw2]; exact (Fr.refl _ _).drew
 clear hw2
 have hsl:(DkSpec.sector now p.2).length ≤ 64:=by unfold DkSpec.sector; simp; omega
 refine put_ok' last (DkSpec.sector now p.2) (a:Int) (by omega) (by have:=hsl; unfold DkSpec.sector at *; simp at *; omega) hsz.2 (fun w3 f3=>⟨fun hs=>absurd hs (by decide),?_⟩)
 have f03:=f2.trans f3 (fun _ h=>h.elim)
 have d3:=d.fresh f03
 have hml:=(Array.getElem?_eq_some_iff.1 hm).1
 have hpl:=(Array.getElem?_eq_some_iff.1 hp).1
 have hm3:=(f03.block m hml (fun h=>h)).trans hm
 have hp3:=(f03.block n hpl (fun h=>h)).trans hp
 have y1:=frozen_of_block hm3 1
 have q1:=cell_of_block hm3 1
 rw [hc1] at q1
 have hm4:=block_set (i:=1) hm3 (bsV (putB last a (DkSpec.sector now p.2)))
 have hp4:=(setCell_heap_ne w3 ⟨m,1,none⟩ (bsV (putB last a (DkSpec.sector now p.2))) n hnm).trans hp3
 have d4:IsDk (w3.setCell ⟨m,1,none⟩ (bsV (putB last a (DkSpec.sector now p.2)))) b A h:=d3.keep (fun i hi=>setCell_heap_ne _ _ _ _ (fun e=>by subst e; exact hi.elim hm' hm2))
 rw [Int.toNat_natCast]
 repeat (any_goals (first
 | (with_reducible refine And.intro (fun hs=>absurd hs (by decide)) ?_)
 | ((with_reducible refine oG fun X Y=>?_); simp [go_sem,y1,q1]; apply Y; clear Y X)))
 have f04:Fr (fun i=>Own b h i ∨ i = m) w (w3.setCell ⟨m,1,none⟩ (bsV (putB last a (DkSpec.sector now p.2)))):=(f03.mono (fun i _ hi=>hi.elim)).set ⟨m,1,none⟩ _ (.inl (.inr rfl))
 generalize w3.setCell ⟨m,1,none⟩ (bsV (putB last a (DkSpec.sector now p.2))) = w4 at *
 have c0:=d4.c 0
 simp only [dkCells] at c0
 have e0:=cell_of_block hm4 0
 have e1:=cell_of_block hm4 1
 have g0:=cell_of_block hp4 0
 simp at g0
 have h1lt:1 < cur.size:=by omega
 rw [Array.getElem?_setIfInBounds_ne (by omega),hc0] at e0
 rw [Array.getElem?_setIfInBounds_self_of_lt h1lt] at e1
 refine ⟨fun sg w'=>sg ≤ 0 → w'.heap = w4.heap,fun _=>rfl,?_⟩
 repeat (first | (with_reducible refine pX ?_) | (with_reducible refine oH_nil ?_) | (with_reducible refine gdH_true rfl ?_) | (with_reducible refine gdH_false rfl ?_) | (refine oH_of ⟨_,rfl⟩ (fun W0 hW0=>by (obtain ⟨s0,hs0,hC⟩:=hW0); (refine oG (fun X Y=>?_)); simp [go_sem,cell_heap (hC (by omega)),c0,e0,e1,g0]; (first | exact Y _ _ ⟨rfl,rfl⟩ | exact ⟨by omega,Y _ _ ⟨rfl,rfl⟩⟩)) ?_))
 generalize hw5:({ w4 with drawn:=w4.drawn + 1 }:World) = w5
 have d5:IsDk w5 b A h:=d4.heap (by rw [← hw5])
 have f05:Fr (fun i=>Own b h i ∨ i = m) w w5:=by rw [← hw5]; exact f04.drew
 clear hw5
 have hpl2:=putB_length last a (DkSpec.sector now p.2)
 obtain ⟨w6,hr6,d6,t6⟩:=d5.setFile p.1 (now,putB last a (DkSpec.sector now p.2)) ⟨hsz.1,by
  show (putB last a (DkSpec.sector now p.2)).length ≤ _
  rw [hpl2]
  split
  ·exact hsz.2
  ·have hs2:(DkSpec.sector now p.2).length ≤ now.length - a:=by rw [← hsec]; simp; omega
   omega⟩
 simp only at hr6
 repeat (any_goals (first
 | (with_reducible refine And.intro (fun hs=>absurd hs (by decide)) ?_)
 | ((with_reducible refine oG fun X Y=>?_); simp [go_sem,hr6]; apply Y; clear Y X)))
 rw [← hnow,← hlast,← ha,Int.toNat_natCast] at k
 exact k w6 d6 (f05.trans t6.fr (fun i hi=>.inl (.inl hi)))
def durL (F:Int → Bs × Bs) (l:List (Int × Value)) (done:List Int):List (Int × Value):=l.map (fun y=>(y.1,if y.1 ∈ done then flV ((F y.1).2,(F y.1).2) else y.2))
theorem durL_nil (F:Int → Bs × Bs) (l:List (Int × Value)):durL F l [] = l:=by
 unfold durL
 have:(fun y:Int × Value=>(y.1,if y.1 ∈ ([]:List Int) then flV ((F y.1).2,(F y.1).2) else y.2)) = id:=by funext y; simp
 rw [this,List.map_id]
theorem durL_keys (F:Int → Bs × Bs) (l:List (Int × Value)) (done:List Int):(durL F l done).map (·.1) = l.map (·.1):=by
 unfold durL; rw [List.map_map]; rfl
theorem durL_put (F:Int → Bs × Bs) (l:List (Int × Value)) (done:List Int) (k:Int) (hk:k ∈ l.map (·.1)):putA (durL F l done) k (flV ((F k).2,(F k).2)) = durL F l (k :: done):=by
 unfold putA
 rw [if_pos ((lookA_isSome _ _).2 (by rw [durL_keys]; exact hk))]
 unfold durL
 rw [List.map_map]
 apply List.map_congr_left
 intro y _
 simp only [Function.comp]
 by_cases hy:y.1 = k
 ·simp [hy]
 ·simp [hy]
theorem durL_look (F:Int → Bs × Bs) (l:List (Int × Value)) (done:List Int) (k:Int):lookA (durL F l done) k = (lookA l k).map (fun v=>if k ∈ done then flV ((F k).2,(F k).2) else v):=by
 unfold durL
 exact lookA_mapVal (fun k v=>if k ∈ done then flV ((F k).2,(F k).2) else v) l k
theorem flV_inj {x y:Bs × Bs} (h:flV x = flV y):x = y:=by
 obtain ⟨a,b⟩:=x
 obtain ⟨c,d⟩:=y
 simp [flV,bsV] at h
 simp [h.1,h.2]
theorem crEnd_ok (d:IsDk w b A h) (k:∀ w' h',IsDk w' b { A with F:=fun f=>((A.F f).2,(A.F f).2),queue:=[] } h' → Step w b h w' h' → K (.tuple #[]) w'):crEnd (dkP b) K w:=by
 unfold crEnd
 have c0:=d.c 0
 simp only [dkCells] at c0
 obtain ⟨l0,m0,hl0⟩:=d.files
 have hnd0:(l0.map (·.1)).Nodup:=by obtain ⟨es,c,h1,h2,h3,_⟩:=m0; exact h3
 obtain ⟨o,hr,R⟩:=run_range (P:=Tryz.prog) (t:=141) (kt:=3) (et:=149) (by kernel_rfl) m0
 have f0:Fr (fun i=>i = h.fm) w (w.alloc o):=(Fr.refl _ _).alloc _
 repeat (any_goals ((with_reducible refine oG fun X Y=>?_); simp [go_sem,c0,hr]; apply Y; clear Y X))
 generalize w.alloc o = w0 at *
 have hfm:h.fm < w.heap.size:=m0.lt
 have hbl:b < w.heap.size:=d.lt (.inl (.inl rfl))
 refine ⟨fun l w'=>∃ u done,l = [u] ∧ done.Nodup ∧ Ranged i64V w' w.heap.size h.fm (durL A.F l0 done) (l0.map (·.1)) done ∧ Fr (fun i=>i = h.fm) w w',fun _ w'=>(l0.map (·.1)).length + 1 - (w'.iterSeen w.heap.size).size,⟨_,[],rfl,List.nodup_nil,by rw [durL_nil]; exact R,f0⟩,?_⟩
 rintro l u w1 ⟨u1,done,rfl,hnd,R1,f1⟩
 have hlen:=nodup_sub_len done _ hnd R1.sub
 have hseen:=R1.seen
 rcases run_next (P:=Tryz.prog) (ty:=0) R1 with ⟨hall,hn⟩ | ⟨y,hy,hyd,w2,hn,R2,g2,z2⟩
 ·have m1:=R1.map
  have hF:∀ f,(lookA (durL A.F l0 done) f).getD (flV ([],[])) = flV ((A.F f).2,(A.F f).2):=by
   intro f
   rw [durL_look]
   have h2:=hl0 f
   cases hlk:lookA l0 f with
   | none=>
    rw [hlk] at h2
    have:=flV_inj h2
    simp only [Option.map_none,Option.getD_none]
    rw [← this]
   | some v=>
    have hfk:f ∈ l0.map (·.1):=(lookA_isSome _ _).1 (by rw [hlk]; rfl)
    rw [← durL_keys A.F l0 done] at hfk
    obtain ⟨y,hy,rfl⟩:=List.mem_map.1 hfk
    simp only [Option.map_some,Option.getD_some,if_pos (hall y hy)]
  have b1:=(f1.block b hbl d.bfm).trans d.blk
  repeat (any_goals (first
  | (with_reducible refine yM ?_)
  | ((with_reducible refine oG fun X Y=>?_); simp [go_sem,hn]; apply Y; clear Y X)))
  have pf:Fr (fun _=>False) w1 (w1.alloc (.map #[] 0)):=(Fr.refl _ _).alloc _
  have pm:MapIs secV (w1.alloc (.map #[] 0)) w1.heap.size []:=mapIs_new w1
  have pz:=alloc_size w1 (.map #[] 0)
  have hz1:=f1.size
  have hb2:=(pf.block b (by omega) (fun h=>h)).trans b1
  have m2:=m1.alloc (.map #[] 0)
  have f2:=f1.trans pf (fun _ h=>h.elim)
  generalize w1.alloc (.map #[] 0) = w2 at *
  have y1:=frozen_of_block hb2 1
  have e1:=cell_of_block hb2 1
  have hb3:=block_set (i:=1) hb2 (.slice none 0 0)
  have y2:=frozen_of_block hb3 2
  have e2:=cell_of_block hb3 2
  have hb4:=block_set (i:=2) hb3 (.map (some w1.heap.size))
  simp [dkCells] at e1 e2
  repeat (any_goals ((with_reducible refine oG fun X Y=>?_); simp [go_sem,y1,e1,y2,e2]; apply Y; clear Y X))
  have f4:=(f2.mono (S':=Own b h) (fun i _ hi=>.inr (.inl hi))).set ⟨b,1,none⟩ (.slice none 0 0) (.inl (.inl rfl)) |>.set ⟨b,2,none⟩ (.map (some w1.heap.size)) (.inl (.inl rfl))
  have k4:∀ i,i ≠ b → ((w2.setCell ⟨b,1,none⟩ (.slice none 0 0)).setCell ⟨b,2,none⟩ (.map (some w1.heap.size))).heap[i]? = w2.heap[i]?:=fun i hi=>by rw [setCell_heap_ne _ _ _ _ hi,setCell_heap_ne _ _ _ _ hi]
  generalize (w2.setCell ⟨b,1,none⟩ (.slice none 0 0)).setCell ⟨b,2,none⟩ (.map (some w1.heap.size)) = w4 at *
  have hfne:h.fm ≠ w1.heap.size:=by omega
  refine k w4 { h with q:=.slice none 0 0,sm:=w1.heap.size } ⟨?_,⟨_,m2.of_block (k4 _ d.bfm.symm),hF⟩,⟨[],pm.of_block (k4 _ (by omega)),fun p=>by simp [lookA_nil]⟩,?_,?_,hfne,?_⟩ ⟨f4,?_,fun i hi=>.inl hi⟩
  ·rw [hb4]; rfl
  ·exact World.ownsRow_nil _ _ _ _
  ·refine owns_keep d.kep (fun i hi=>?_)
   have h1:=d.kne hi
   have h2:=d.lt (.inr hi)
   rw [k4 i h1.1]
   exact f2.block i h2 h1.2.1
  ·exact ⟨d.wf.l0,d.wf.l1,d.wf.a0,d.wf.a1,List.nodup_nil,fun p hp=>absurd hp (by simp),fun f=>⟨(d.wf.sz f).2,(d.wf.sz f).2⟩,d.wf.kr,d.wf.kl⟩
  ·rintro i (rfl | rfl | rfl | hi)
   ·exact .inl (.inl rfl)
   ·exact .inl (.inr (.inl rfl))
   ·exact .inr hz1
   ·cases hi
 ·have he:=run_entry (P:=Tryz.prog) R2 hy
  have f2:Fr (fun i=>i = h.fm) w w2:=f1.by g2 (fun i hi=>by cases hi; exact .inr (rL))
  have hyk:y.1 ∈ l0.map (·.1):=by
   have:=List.mem_map_of_mem (f:=(·.1)) hy
   rw [durL_keys] at this
   exact this
  have hyv:y.2 = flV (A.F y.1):=by
   have h1:=lookA_mem (durL A.F l0 done) (by rw [durL_keys]; exact hnd0) y hy
   rw [durL_look] at h1
   have h2:=hl0 y.1
   cases hlk:lookA l0 y.1 with
   | none=>rw [hlk] at h1; cases h1
   | some v=>
    rw [hlk] at h1 h2
    simp only [Option.map_some,if_neg hyd,Option.some.injEq] at h1
    simp only [Option.getD_some] at h2
    rw [← h1,h2]
  rw [hyv] at he
  simp only [i64V] at hn he
  repeat (any_goals (first
  | (with_reducible refine yL ?_)
  | ((with_reducible refine oG fun X Y=>?_); simp [go_sem,hn,he]; apply Y; clear Y X)))
  have pf:Fr (fun _=>False) w2 (w2.alloc (.cells #[.string ⟨#[]⟩,.string ⟨#[]⟩] 149 (0,0))):=(Fr.refl _ _).alloc _
  have p0:=heap_alloc_new w2 (.cells #[.string ⟨#[]⟩,.string ⟨#[]⟩] 149 (0,0))
  have pz:=alloc_size w2 (.cells #[.string ⟨#[]⟩,.string ⟨#[]⟩] 149 (0,0))
  generalize w2.alloc (.cells #[.string ⟨#[]⟩,.string ⟨#[]⟩] 149 (0,0)) = w3 at *
  refine store2_at (fun w=>by kernel_rfl) rfl rfl p0 (by simp) (fun w4 cur4 g4 n4 s4 _ a4 b4=>?_)
  have f24:Fr (fun _=>False) w2 w4:=pf.by g4 (fun i hi=>by cases hi; exact .inr (rL))
  have R4:=R2.of_blocks (f24.block h.fm R2.lt.1 (fun h=>h)) (f24.block w.heap.size R2.lt.2.1 (fun h=>h))
  have fr4:Fr (fun i=>i = h.fm) w w4:=f2.trans f24 (fun _ h=>h.elim)
  have b4':w4.heap[b]? = some (.cells (dkCells A h) 145 (0,0)):=(fr4.block b hbl d.bfm).trans d.blk
  have e0:=cell_of_block b4' 0
  simp only [dkCells] at e0
  have z0:=cell_of_block n4 1
  rw [Nat.zero_add] at b4
  rw [b4] at z0
  refine ⟨fun sg w'=>sg ≤ 1 → w'.heap = w4.heap,fun _=>rfl,?_⟩
  repeat (first | (with_reducible refine pX ?_) | (with_reducible refine oH_nil ?_) | (with_reducible refine gdH_true rfl ?_) | (with_reducible refine gdH_false rfl ?_) | (refine oH_of ⟨_,rfl⟩ (fun W0 hW0=>by (obtain ⟨s0,hs0,hC⟩:=hW0); (refine oG (fun X Y=>?_)); simp [go_sem,cell_heap (hC (by omega)),e0,z0]; (first | exact Y _ _ ⟨rfl,rfl⟩ | exact ⟨by omega,Y _ _ ⟨rfl,rfl⟩⟩)) ?_))
  generalize hw5:({ w4 with drawn:=w4.drawn + 1 }:World) = w5
  have hh5:w5.heap = w4.heap:=by rw [← hw5]
  have f5:Fr (fun i=>i = h.fm) w w5:=by rw [← hw5]; exact fr4.drew
  have R5:=R4.of_blocks (w':=w5) (by rw [hh5]) (by rw [hh5])
  clear hw5
  obtain ⟨w6,hu,R6,g6,z6⟩:=run_updateR (P:=Tryz.prog) (t:=141) (et:=149) keyI (by kernel_rfl) R5 y.1 (flV ((A.F y.1).2,(A.F y.1).2)) (by rw [durL_keys]; exact hyk)
  rw [durL_put _ _ _ _ hyk] at R6
  simp only [i64V,flV,bsV] at hu
  repeat (any_goals (first
  | (with_reducible refine And.intro (fun _=>hh5) ?_) | (with_reducible refine And.intro (fun hs=>absurd hs (by decide)) ?_)
  | ((with_reducible refine oG fun X Y=>?_); simp [go_sem,hu]; apply Y; clear Y X)))
  refine ⟨⟨_,y.1 :: done,rfl,List.nodup_cons.2 ⟨hyd,hnd⟩,R6,f5.by g6 (fun i hi=>by cases hi; exact .inl rfl)⟩,?_⟩
  have h6:=R6.seen
  have h7:=nodup_sub_len (y.1 :: done) _ (List.nodup_cons.2 ⟨hyd,hnd⟩) R6.sub
  simp only [List.length_cons] at h6 h7
  show _ - _ < _ - _
  omega
end
end Go.Proofs
namespace Go.Proofs
open Go Go.Sh Go.RowKit DkSpec
attribute [local go_sem] oM_indexAddr
def crMid (a0 a1 v5_20 v6_32 v39_31 x:Value) (M_16:List Value → World → Prop) (w:World):Prop:=
 (oM Tryz.prog (Go.Op.call (Go.Call.mk (Go.Callee.builtin Go.Builtin.len) #[(.tmp 0)] #[22])) 3 [a1] (fun v41_34 w=>
 oM Tryz.prog (Go.Op.binOp Go.BinOp.eql 3 (.tmp 0) (.const (.int .i64 0)) 3) 4 [v41_34] (fun v42_35 w=>
 gdM (gd v42_35 false) (pureM a1) (fun v44_36 w=>
 gdM (gd v42_35 false) (pureM x) (fun v45_37 w=>
 gdM (gd v42_35 false) (pureM a1) (fun v46_38 w=>
 gdM (gd v42_35 false) (oM Tryz.prog (Go.Op.call (Go.Call.mk (Go.Callee.builtin Go.Builtin.len) #[(.tmp 0)] #[22])) 3 [v46_38]) (fun v47_39 w=>
 gdM (gd v42_35 false) (oM Tryz.prog (Go.Op.binOp Go.BinOp.rem 3 (.tmp 0) (.tmp 1) 3) 3 [v45_37,v47_39]) (fun v48_40 w=>
 gdM (gd v42_35 false) (oM Tryz.prog (Go.Op.indexAddr 22 (.tmp 0) (.tmp 1)) 0 [v44_36,v48_40]) (fun v49_41 w=>
 gdM (gd v42_35 false) (oM Tryz.prog (Go.Op.load 3 (.tmp 0)) 3 [v49_41]) (fun v50_42 w=>
 gdM (gd v42_35 false) (oM Tryz.prog (Go.Op.binOp Go.BinOp.and 3 (.tmp 0) (.tmp 1) 3) 3 [v50_42,(.int .i64 1)]) (fun v51_43 w=>
 gdM (gd v42_35 false) (oM Tryz.prog (Go.Op.binOp Go.BinOp.eql 3 (.tmp 0) (.const (.int .i64 0)) 3) 4 [v51_43]) (fun v52_44 w=>
 oM Tryz.prog (Go.Op.pick (.tmp 0) (.tmp 1) (.tmp 2)) 4 [v42_35,(.bool true),v52_44] (fun v53_45 w=>
 gdM (gd v53_45 false) (pureM v39_31) (fun v55_46 w=>
 gdM (gd v53_45 false) (oM Tryz.prog (Go.Op.fieldAddr 149 (.tmp 0) 0) 0 [v6_32]) (fun v56_47 w=>
 gdM (gd v53_45 false) (oM Tryz.prog (Go.Op.load 9 (.tmp 0)) 9 [v56_47]) (fun v57_48 w=>
 gdM (gd v53_45 false) (oM Tryz.prog (Go.Op.call (Go.Call.mk (Go.Callee.builtin Go.Builtin.len) #[(.tmp 0)] #[9])) 3 [v57_48]) (fun v58_49 w=>
 gdM (gd v53_45 false) (oM Tryz.prog (Go.Op.binOp Go.BinOp.geq 3 (.tmp 0) (.tmp 1) 3) 4 [v55_46,v58_49]) (fun v59_50 w=>
 oM Tryz.prog (Go.Op.pick (.tmp 0) (.tmp 1) (.tmp 2)) 4 [v53_45,(.bool true),v59_50] (fun v60_51 w=>
 condM v60_51
 (M_16 [x,v39_31] w)
 (stageM w (fun C_52 w=>(oH Tryz.prog (Go.Op.fieldAddr 149 (.tmp 0) 1) 0 [v6_32] (upto C_52 0) (fun v61_53=>
 oH Tryz.prog (Go.Op.load 9 (.tmp 0)) 9 [v61_53] (upto C_52 0) (fun v62_54=>
 pureH v39_31 (upto C_52 0) (fun v63_55=>
 oH Tryz.prog (Go.Op.fieldAddr 149 (.tmp 0) 0) 0 [v6_32] (upto C_52 0) (fun v64_56=>
 oH Tryz.prog (Go.Op.load 9 (.tmp 0)) 9 [v64_56] (upto C_52 0) (fun v65_57=>
 pureH v39_31 (upto C_52 0) (fun v66_58=>
 pureH v39_31 (upto C_52 0) (fun v67_59=>
 oH Tryz.prog (Go.Op.binOp Go.BinOp.add 3 (.tmp 0) (.tmp 1) 3) 3 [v67_59,(.int .i64 64)] (upto C_52 0) (fun v68_60=>
 oH Tryz.prog (Go.Op.fieldAddr 149 (.tmp 0) 0) 0 [v6_32] (upto C_52 0) (fun v69_61=>
 oH Tryz.prog (Go.Op.load 9 (.tmp 0)) 9 [v69_61] (upto C_52 0) (fun v70_62=>
 oH Tryz.prog (Go.Op.call (Go.Call.mk (Go.Callee.builtin Go.Builtin.len) #[(.tmp 0)] #[9])) 3 [v70_62] (upto C_52 0) (fun v71_63=>
 oH Tryz.prog (Go.Op.call (Go.Call.mk (Go.Callee.builtin Go.Builtin.min) #[(.tmp 0),(.tmp 1)] #[3,3])) 3 [v68_60,v71_63] (upto C_52 0) (fun v72_64=>
 oH Tryz.prog (Go.Op.slice 9 (.tmp 0) (some (.tmp 1)) (some (.tmp 2)) none) 9 [v65_57,v66_58,v72_64] (upto C_52 0) (fun v73_65=>
 callM Tryz.prog 76 #[v62_54,v63_55,v73_65] (fun v74_66 w=>C_52 1 w ∧ (
 oM Tryz.prog (Go.Op.fieldAddr 149 (.tmp 0) 1) 0 [v6_32] (fun v75_67 w=>C_52 2 w ∧ (
 oM Tryz.prog (Go.Op.store 9 (.tmp 0) (.tmp 1)) 0 [v75_67,v74_66] (fun _ w=>C_52 3 w ∧ (
 stageM w (fun C_68 w=>(pureH a0 (upto C_68 0) (fun v76_69=>
 oH Tryz.prog (Go.Op.nilCheck (.tmp 0)) 0 [v76_69] (upto C_68 0) (fun v77_70=>
 oH Tryz.prog (Go.Op.fieldAddr 145 (.tmp 0) 0) 0 [v77_70] (upto C_68 0) (fun v78_71=>
 oH Tryz.prog (Go.Op.load 141 (.tmp 0)) 141 [v78_71] (upto C_68 0) (fun v79_72=>
 oH Tryz.prog (Go.Op.fieldAddr 147 (.tmp 0) 0) 0 [v5_20] (upto C_68 0) (fun v80_73=>
 oH Tryz.prog (Go.Op.load 3 (.tmp 0)) 3 [v80_73] (upto C_68 0) (fun v81_74=>
 oH Tryz.prog (Go.Op.load 149 (.tmp 0)) 149 [v6_32] (upto C_68 0) (fun v82_75=>
 oM Tryz.prog (Go.Op.mapUpdate 141 (.tmp 0) (.tmp 1) (.tmp 2)) 0 [v79_72,v81_74,v82_75] (fun _ w=>C_68 1 w ∧ (
 M_16 [x,v39_31] w)) w))))))))))) w)) w)) w))))))))))))))))) w) w) w) w) w) w) w) w) w) w) w) w) w) w) w) w) w) w)
def crBody (a0 a1 v23_10 x:Value) (M_16:List Value → World → Prop) (w:World):Prop:=
 (oM Tryz.prog (Go.Op.indexAddr 142 (.tmp 0) (.tmp 1)) 0 [v23_10,x] (fun v28_18 w=>
 oM Tryz.prog (Go.Op.load 147 (.tmp 0)) 147 [v28_18] (fun v29_19 w=>
 oM Tryz.prog (Go.Op.alloc 147) 0 [] (fun v5_20 w=>
 oM Tryz.prog (Go.Op.store 147 (.tmp 0) (.tmp 1)) 0 [v5_20,v29_19] (fun _ w=>
 stageM w (fun C_21 w=>(pureH a0 (upto C_21 1) (fun v30_22=>
 oH Tryz.prog (Go.Op.nilCheck (.tmp 0)) 0 [v30_22] (upto C_21 1) (fun v31_23=>
 oH Tryz.prog (Go.Op.fieldAddr 145 (.tmp 0) 0) 0 [v31_23] (upto C_21 1) (fun v32_24=>
 oH Tryz.prog (Go.Op.load 141 (.tmp 0)) 141 [v32_24] (upto C_21 1) (fun v33_25=>
 oH Tryz.prog (Go.Op.fieldAddr 147 (.tmp 0) 0) 0 [v5_20] (upto C_21 1) (fun v34_26=>
 oH Tryz.prog (Go.Op.load 3 (.tmp 0)) 3 [v34_26] (upto C_21 1) (fun v35_27=>
 oH Tryz.prog (Go.Op.lookup 141 (.tmp 0) (.tmp 1) false) 149 [v33_25,v35_27] (upto C_21 1) (fun v36_28=>
 oH Tryz.prog (Go.Op.fieldAddr 147 (.tmp 0) 1) 0 [v5_20] (upto C_21 2) (fun v37_29=>
 oH Tryz.prog (Go.Op.load 3 (.tmp 0)) 3 [v37_29] (upto C_21 2) (fun v38_30=>
 oH Tryz.prog (Go.Op.binOp Go.BinOp.mul 3 (.tmp 0) (.tmp 1) 3) 3 [v38_30,(.int .i64 64)] (upto C_21 2) (fun v39_31=>
 oM Tryz.prog (Go.Op.alloc 149) 0 [] (fun v6_32 w=>C_21 1 w ∧ (
 oM Tryz.prog (Go.Op.store 149 (.tmp 0) (.tmp 1)) 0 [v6_32,v36_28] (fun _ w=>C_21 2 w ∧ (
 C_21 3 w ∧ (oM Tryz.prog (Go.Op.call (Go.Call.mk (Go.Callee.builtin Go.Builtin.len) #[(.tmp 0)] #[22])) 3 [a1] (fun v41_34 w=>
 oM Tryz.prog (Go.Op.binOp Go.BinOp.eql 3 (.tmp 0) (.const (.int .i64 0)) 3) 4 [v41_34] (fun v42_35 w=>
 gdM (gd v42_35 false) (pureM a1) (fun v44_36 w=>
 gdM (gd v42_35 false) (pureM x) (fun v45_37 w=>
 gdM (gd v42_35 false) (pureM a1) (fun v46_38 w=>
 gdM (gd v42_35 false) (oM Tryz.prog (Go.Op.call (Go.Call.mk (Go.Callee.builtin Go.Builtin.len) #[(.tmp 0)] #[22])) 3 [v46_38]) (fun v47_39 w=>
 gdM (gd v42_35 false) (oM Tryz.prog (Go.Op.binOp Go.BinOp.rem 3 (.tmp 0) (.tmp 1) 3) 3 [v45_37,v47_39]) (fun v48_40 w=>
 gdM (gd v42_35 false) (oM Tryz.prog (Go.Op.indexAddr 22 (.tmp 0) (.tmp 1)) 0 [v44_36,v48_40]) (fun v49_41 w=>
 gdM (gd v42_35 false) (oM Tryz.prog (Go.Op.load 3 (.tmp 0)) 3 [v49_41]) (fun v50_42 w=>
 gdM (gd v42_35 false) (oM Tryz.prog (Go.Op.binOp Go.BinOp.and 3 (.tmp 0) (.tmp 1) 3) 3 [v50_42,(.int .i64 1)]) (fun v51_43 w=>
 gdM (gd v42_35 false) (oM Tryz.prog (Go.Op.binOp Go.BinOp.eql 3 (.tmp 0) (.const (.int .i64 0)) 3) 4 [v51_43]) (fun v52_44 w=>
 oM Tryz.prog (Go.Op.pick (.tmp 0) (.tmp 1) (.tmp 2)) 4 [v42_35,(.bool true),v52_44] (fun v53_45 w=>
 gdM (gd v53_45 false) (pureM v39_31) (fun v55_46 w=>
 gdM (gd v53_45 false) (oM Tryz.prog (Go.Op.fieldAddr 149 (.tmp 0) 0) 0 [v6_32]) (fun v56_47 w=>
 gdM (gd v53_45 false) (oM Tryz.prog (Go.Op.load 9 (.tmp 0)) 9 [v56_47]) (fun v57_48 w=>
 gdM (gd v53_45 false) (oM Tryz.prog (Go.Op.call (Go.Call.mk (Go.Callee.builtin Go.Builtin.len) #[(.tmp 0)] #[9])) 3 [v57_48]) (fun v58_49 w=>
 gdM (gd v53_45 false) (oM Tryz.prog (Go.Op.binOp Go.BinOp.geq 3 (.tmp 0) (.tmp 1) 3) 4 [v55_46,v58_49]) (fun v59_50 w=>
 oM Tryz.prog (Go.Op.pick (.tmp 0) (.tmp 1) (.tmp 2)) 4 [v53_45,(.bool true),v59_50] (fun v60_51 w=>
 condM v60_51
 (M_16 [x,v39_31] w)
 (stageM w (fun C_52 w=>(oH Tryz.prog (Go.Op.fieldAddr 149 (.tmp 0) 1) 0 [v6_32] (upto C_52 0) (fun v61_53=>
 oH Tryz.prog (Go.Op.load 9 (.tmp 0)) 9 [v61_53] (upto C_52 0) (fun v62_54=>
 pureH v39_31 (upto C_52 0) (fun v63_55=>
 oH Tryz.prog (Go.Op.fieldAddr 149 (.tmp 0) 0) 0 [v6_32] (upto C_52 0) (fun v64_56=>
 oH Tryz.prog (Go.Op.load 9 (.tmp 0)) 9 [v64_56] (upto C_52 0) (fun v65_57=>
 pureH v39_31 (upto C_52 0) (fun v66_58=>
 pureH v39_31 (upto C_52 0) (fun v67_59=>
 oH Tryz.prog (Go.Op.binOp Go.BinOp.add 3 (.tmp 0) (.tmp 1) 3) 3 [v67_59,(.int .i64 64)] (upto C_52 0) (fun v68_60=>
 oH Tryz.prog (Go.Op.fieldAddr 149 (.tmp 0) 0) 0 [v6_32] (upto C_52 0) (fun v69_61=>
 oH Tryz.prog (Go.Op.load 9 (.tmp 0)) 9 [v69_61] (upto C_52 0) (fun v70_62=>
 oH Tryz.prog (Go.Op.call (Go.Call.mk (Go.Callee.builtin Go.Builtin.len) #[(.tmp 0)] #[9])) 3 [v70_62] (upto C_52 0) (fun v71_63=>
 oH Tryz.prog (Go.Op.call (Go.Call.mk (Go.Callee.builtin Go.Builtin.min) #[(.tmp 0),(.tmp 1)] #[3,3])) 3 [v68_60,v71_63] (upto C_52 0) (fun v72_64=>
 oH Tryz.prog (Go.Op.slice 9 (.tmp 0) (some (.tmp 1)) (some (.tmp 2)) none) 9 [v65_57,v66_58,v72_64] (upto C_52 0) (fun v73_65=>
 callM Tryz.prog 76 #[v62_54,v63_55,v73_65] (fun v74_66 w=>C_52 1 w ∧ (
 oM Tryz.prog (Go.Op.fieldAddr 149 (.tmp 0) 1) 0 [v6_32] (fun v75_67 w=>C_52 2 w ∧ (
 oM Tryz.prog (Go.Op.store 9 (.tmp 0) (.tmp 1)) 0 [v75_67,v74_66] (fun _ w=>C_52 3 w ∧ (
 stageM w (fun C_68 w=>(pureH a0 (upto C_68 0) (fun v76_69=>
 oH Tryz.prog (Go.Op.nilCheck (.tmp 0)) 0 [v76_69] (upto C_68 0) (fun v77_70=>
 oH Tryz.prog (Go.Op.fieldAddr 145 (.tmp 0) 0) 0 [v77_70] (upto C_68 0) (fun v78_71=>
 oH Tryz.prog (Go.Op.load 141 (.tmp 0)) 141 [v78_71] (upto C_68 0) (fun v79_72=>
 oH Tryz.prog (Go.Op.fieldAddr 147 (.tmp 0) 0) 0 [v5_20] (upto C_68 0) (fun v80_73=>
 oH Tryz.prog (Go.Op.load 3 (.tmp 0)) 3 [v80_73] (upto C_68 0) (fun v81_74=>
 oH Tryz.prog (Go.Op.load 149 (.tmp 0)) 149 [v6_32] (upto C_68 0) (fun v82_75=>
 oM Tryz.prog (Go.Op.mapUpdate 141 (.tmp 0) (.tmp 1) (.tmp 2)) 0 [v79_72,v81_74,v82_75] (fun _ w=>C_68 1 w ∧ (
 M_16 [x,v39_31] w)) w))))))))))) w)) w)) w))))))))))))))))) w) w) w) w) w) w) w) w) w) w) w) w) w) w) w) w) w) w))) w)) w))))))))))))) w) w) w) w)
theorem survAll_snoc (keep:List Int) (q:List (Int × Int)) (p:Int × Int) (F:Int → Bs × Bs) (i:Nat):survAll keep F i (q ++ [p]) = survF keep (survAll keep F i q) (i + q.length) p:=by
 induction q generalizing F i with
 | nil=>rfl
 | cons r q ih=>
  show survAll keep (survF keep F i r) (i + 1) (q ++ [p]) = survF keep (survAll keep (survF keep F i r) (i + 1) q) (i + (q.length + 1)) p
  rw [ih]
  congr 1
  omega
section
variable {w:World} {b:Nat} {A:Ab} {h:Dk} {K:VK}
theorem IsDk.reF (d:IsDk w b A h) {F:Int → Bs × Bs} (e:F = A.F):IsDk w b { A with F:=F } h:=by
 rw [e]; exact d
set_option maxHeartbeats 1000000 in
theorem crMid_ok {n m i:Nat} {p:Int × Int} {M:List Value → World → Prop} (d:IsDk w b A h) (hp:w.heap[n]? = some (.cells #[.int .i64 p.1,.int .i64 p.2] 147 (0,0))) {cur:Array Value} (hm:w.heap[m]? = some (.cells cur 149 (0,0))) (hc0:cur[0]? = some (bsV (A.F p.1).1)) (hc1:cur[1]? = some (bsV (A.F p.1).2)) (hs:cur.size = 2)
  (hn:¬ Own b h n) (hm':¬ Own b h m) (hm2:¬ Rdb h m) (hnm:n ≠ m) (h0:0 ≤ p.2 ∧ p.2 < 262144) (hi:i < 2 ^ 40) {kv:Value} {kl:List Int} (hkr:RowR intC 1 w kv kl) (hkl:kl.length < 2 ^ 62)
  (k:∀ w',IsDk w' b { A with F:=survF kl A.F i p } h → Fr (fun j=>Own b h j ∨ j = m) w w' → M [.int .i64 (i:Int),.int .i64 (64 * p.2)] w'):crMid (dkP b) kv (.pointer (some ⟨n,0,none⟩)) (.pointer (some ⟨m,0,none⟩)) (.int .i64 (64 * p.2)) (.int .i64 (i:Int)) M w:=by
 unfold crMid
 have z7:=cell_of_block hm 0
 have z71:=cell_of_block hm 1
 have hsz:=d.wf.sz p.1
 have hlen:(A.F p.1).1.length ≤ 16777216:=hsz.1
 rw [hc0] at z7
 rw [hc1] at z71
 obtain ⟨ad,c,rfl,h0',hc⟩:=id hkr
 by_cases hkn:kl = []
 ·subst hkn
  have hsv:survF [] A.F i p = A.F:=by unfold survF; rw [if_pos (.inl rfl)]
  repeat (any_goals (first
  | (with_reducible first|refine zD ?_|refine yB ?_|refine yL ?_)
  | ((with_reducible refine oG fun X Y=>?_); simp [go_sem]; apply Y; clear Y X)))
  exact k w (d.reF hsv) (Fr.refl _ _)
 ·rcases hc with hc | ⟨kb,ko,rfl,hkb,hc⟩
  ·exact absurd hc hkn
  have hkpos:0 < kl.length:=List.length_pos_iff.2 hkn
  have hmod:((i:Int)).tmod (kl.length:Int) = ((i % kl.length:Nat):Int):=by
   rw [tmodN _ _ (by omega)]; rfl
  have hml:i % kl.length < kl.length:=Nat.mod_lt _ hkpos
  have hki:=hc (i % kl.length) (i64V kl[i % kl.length]) (by rw [show flat intC kl = kl.map i64V from flat_one i64V kl]; simp [hml])
  unfold i64V at hki
  have hixk:(Instr.indexAt 22 (.slice (some ⟨kb,ko,none⟩) kl.length c) (.int .i64 ((i % kl.length:Nat):Int))).run Tryz.prog w = .ok (.pointer (some ⟨kb,ko + i % kl.length,none⟩)) w:=by
   rw [run_indexAt_slice (h:=by kernel_rfl),if_pos (by omega)]
   have hs:(sizeOf (Tryz.prog.elem 22)).run Tryz.prog w = .ok 1 w:=by kernel_rfl
   rw [hs]
   simp only [Result.andThen,Int.toNat_natCast,add_none,Nat.mul_one]
  rw [Int.natCast_emod] at hixk
  have hgd:kl.getD (i % kl.length) 0 = kl[i % kl.length]:=by simp [List.getD,hml]
  clear hkr hc h0'
  obtain ⟨kx,hkx⟩:∃ kx,kx = kl[i % kl.length]:=⟨_,rfl⟩
  rw [← hkx] at hki hgd
  clear hkx
  repeat (any_goals (first
  | (with_reducible first|refine pureM_in ?_|((refine idGd ?_); ((refine idGdD ?_); first|refine zI ?_|refine zJ ?_|refine zK (fun hg=>?_) fun hg=>?_))|((refine idPick ?_); first|refine yD ?_|refine yE ?_)|((refine idCond ?_); first|refine yL ?_|refine yP (fun hg=>?_) fun hg=>?_))
  | ((with_reducible refine oG fun X Y=>?_); simp [go_sem,hmod,hixk,hki,z7,z71]; (first|refine Y _ _ ?_|refine And.intro (by omega) (Y _ _ ?_)); clear Y X)))
  ·have hsv:survF kl A.F i p = A.F:=by unfold survF; rw [if_pos (.inr (.inl (by rw [hgd]; assumption)))]
   exact k w (d.reF hsv) (Fr.refl _ _)
  ·have hsv:survF kl A.F i p = A.F:=by unfold survF; rw [if_pos (.inr (.inr (by assumption)))]
   exact k w (d.reF hsv) (Fr.refl _ _)
  ·have hbig:¬ ((A.F p.1).1.length:Int) ≤ 64 * p.2:=by assumption
   have hodd:¬ kx % 2 = 0:=by assumption
   have hsv:survF kl A.F i p = setF A.F p.1 ((A.F p.1).1,putB (A.F p.1).2 (64 * p.2).toNat (DkSpec.sector (A.F p.1).1 p.2)):=by
    unfold survF
    rw [if_neg]
    rw [hgd]
    rintro (h | h | h)
    ·exact hkn h
    ·exact hodd h
    ·exact hbig h
   refine crTail_ok (n:=n) (m:=m) (p:=p) d hp hm hc0 hc1 hs hn hm' hm2 hnm h0 (by omega) (fun w8 d8 f8=>?_)
   refine k w8 ?_ f8
   rw [hsv]
   exact d8
set_option maxHeartbeats 1000000 in
theorem crBody_ok {i:Nat} {p:Int × Int} {M:List Value → World → Prop} (d:IsDk w b A h) {qa:Option Addr} {qc:Nat} (hq:h.q = .slice qa A.queue.length qc) (hqi:A.queue[i]? = some p) {kv:Value} {kl:List Int} (hkr:RowR intC 1 w kv kl) (hkl:kl.length < 2 ^ 62)
  (k:∀ w' (at_:Int),IsDk w' b { A with F:=survF kl A.F i p } h → Step w b h w' h → M [.int .i64 (i:Int),.int .i64 at_] w'):crBody (dkP b) kv (.slice qa A.queue.length qc) (.int .i64 (i:Int)) M w:=by
 unfold crBody
 have hlt:i < A.queue.length:=(gS hqi).1
 have hql:=d.wf.ql
 have hpr:=d.wf.qr p (List.mem_of_getElem? hqi)
 have ho3:=d.que
 rw [hq] at ho3
 obtain ⟨g,c,hv,e0,e1⟩:=sec_cells ho3 hqi
 cases hv
 have hix:=idxSec (c:=qc) (g:=g) hlt w
 repeat (any_goals ((with_reducible refine oG fun X Y=>?_); simp [go_sem,hix,e0,e1]; apply Y; clear Y X))
 have pf:Fr (fun _=>False) w (w.alloc (.cells #[.int .i64 p.1,.int .i64 p.2] 147 (0,0))):=(Fr.refl _ _).alloc _
 have p0:=heap_alloc_new w (.cells #[.int .i64 p.1,.int .i64 p.2] 147 (0,0))
 have pz:=alloc_size w (.cells #[.int .i64 p.1,.int .i64 p.2] 147 (0,0))
 generalize w.alloc (.cells #[.int .i64 p.1,.int .i64 p.2] 147 (0,0)) = w4 at *
 have d4:=d.fresh pf
 have p00:=cell_of_block p0 0
 have p01:=cell_of_block p0 1
 simp at p00 p01
 have c0:=d4.c 0
 simp only [dkCells] at c0
 have lk:∀ W:World,IsDk W b A h → _:=fun W hW=>hW.look p.1
 simp only [flV,bsV] at lk
 have hwr:IntKind.i64.wrap (p.2 * 64) = 64 * p.2:=by rw [wrapI64 _ (by omega) (by omega)]; omega
 refine ⟨fun sg w'=>sg ≤ 2 → IsDk w' b A h ∧ w'.heap[w.heap.size]? = some (.cells #[.int .i64 p.1,.int .i64 p.2] 147 (0,0)),fun _=>⟨d4.heap rfl,p0⟩,?_⟩
 repeat (first | (with_reducible refine pX ?_) | (with_reducible refine oH_nil ?_) | (with_reducible refine gdH_true rfl ?_) | (with_reducible refine gdH_false rfl ?_) | (refine oH_of ⟨_,rfl⟩ (fun W0 hW0=>by (obtain ⟨s0,hs0,hC⟩:=hW0); (refine oG (fun X Y=>?_)); simp [go_sem,cell_of_block (hC (by omega)).1.blk,cell_of_block (hC (by omega)).2,dkCells,lk W0 (hC (by omega)).1,hwr]; (first | exact Y _ _ ⟨rfl,rfl⟩ | exact ⟨by omega,Y _ _ ⟨rfl,rfl⟩⟩)) ?_))
 generalize hw5:({ w4 with drawn:=w4.drawn + 1 }:World) = w5
 have f35:Fr (fun _=>False) w w5:=by rw [← hw5]; exact pf.drew
 have d5:=d.fresh f35
 have p5:w5.heap[w.heap.size]? = some (.cells #[.int .i64 p.1,.int .i64 p.2] 147 (0,0)):=by rw [← hw5]; exact p0
 clear hw5
 repeat (any_goals ((with_reducible refine oG fun X Y=>?_); simp [go_sem]; apply Y; clear Y X))
 have z35:=f35.size
 have p5l:=(Array.getElem?_eq_some_iff.1 p5).1
 have g6:Fr (fun _=>False) w5 (w5.alloc (.cells #[.string ⟨#[]⟩,.string ⟨#[]⟩] 149 (0,0))):=(Fr.refl _ _).alloc _
 have n6:=heap_alloc_new w5 (.cells #[.string ⟨#[]⟩,.string ⟨#[]⟩] 149 (0,0))
 generalize w5.alloc (.cells #[.string ⟨#[]⟩,.string ⟨#[]⟩] 149 (0,0)) = w6 at *
 refine ⟨fun _=>⟨d5.fresh g6,(g6.block _ p5l (fun h=>h)).trans p5⟩,?_⟩
 refine store2_at (fun w=>by kernel_rfl) rfl rfl n6 (by simp) (fun w7 cur7 g7 n7 s7 _ a7 b7=>?_)
 have f7:Fr (fun _=>False) w5 w7:=g6.by g7 (fun i hi=>by cases hi; exact .inr (rL))
 have f37:=f35.trans f7 (fun _ h=>h.elim)
 have d7:=d.fresh f37
 have p7:=(f7.block _ p5l (fun h=>h)).trans p5
 refine ⟨fun _=>⟨d7,p7⟩,fun hs=>absurd hs (by decide),?_⟩
 rw [Nat.zero_add] at b7
 have hz37:=f37.size
 have hown:∀ i,Own b h i ∨ Rdb h i → i < w.heap.size:=fun i hi=>d.lt hi
 have hkr7:RowR intC 1 w7 kv kl:=hkr.keep hz37 (fun i _ hi=>f37.block i hi (fun h=>h))
 refine crMid_ok (n:=w.heap.size) (m:=w5.heap.size) (p:=p) d7 p7 n7 a7 b7 (by rw [s7]; rfl) (fun e=>by have:=hown _ (.inl e); omega) (fun e=>by have:=hown _ (.inl e); omega) (fun e=>by have:=hown _ (.inr e); omega) (by omega) ⟨hpr.2.2.1,hpr.2.2.2⟩ (by omega) hkr7 hkl (fun w8 d8 f8=>?_)
 exact k w8 _ d8 ⟨(f37.mono (fun i _ hi=>hi.elim)).trans f8 (fun i hi=>hi.elim .inl (fun e=>.inr (by omega))),fun _ h=>.inl h,fun _ h=>.inl h⟩
set_option maxHeartbeats 1000000 in
theorem crash_ok (d:IsDk w b A h) {kv:Value} {kl:List Int} (hkr:RowR intC 1 w kv kl) (hkl:kl.length < 2 ^ 62) (hkv:∀ w',Fr (Own b h) w w' → RowR intC 1 w' kv kl) (k:∀ w' h',IsDk w' b (crashA A kl) h' → Step w b h w' h' → K (.tuple #[]) w'):callM Tryz.prog 32 #[dkP b,kv] K w:=by
 apply sh_32_ok
 unfold sh_32
 have c4:=d.c 4
 have f4:=d.fz 4
 simp only [dkCells] at c4
 have d1:=d.set4 true
 have c5:=d1.c 5
 have f5:=d1.fz 5
 simp only [dkCells] at c5
 have d2:=d1.set5 0 (by omega)
 have c1:=d2.c 1
 simp only [dkCells] at c1
 obtain ⟨qa,qc,hq⟩:=owns_len d.que
 repeat (any_goals (first
 | (with_reducible ((refine idCond ?_); refine yY (fun hg=>?_) fun hg=>?_))
 | ((with_reducible refine oG fun X Y=>?_); simp [go_sem,c4,f4,c5,f5,c1,hq]; apply Y; clear Y X)))
 ·have e:crashA A kl = A:=by unfold crashA; rw [if_pos hg]
  rw [e] at k
  exact k w h d (Step.refl _ _ _)
 have hdown:A.down = false:=hg
 have t2:Step w b h ((w.setCell ⟨b,4,none⟩ (.bool true)).setCell ⟨b,5,none⟩ (.int .i64 0)) h:=(step_set _ _ _ _ _).trans (step_set _ _ _ _ _)
 generalize (w.setCell ⟨b,4,none⟩ (.bool true)).setCell ⟨b,5,none⟩ (.int .i64 0) = w2 at *
 refine ⟨fun l w'=>∃ u1 u2,∃ i:Nat,l = [u1,u2,.int .i64 (i:Int)] ∧ i ≤ A.queue.length ∧ IsDk w' b { A with F:=survAll kl A.F 0 (A.queue.take i),down:=true,armed:=0 } h ∧ Step w b h w' h,fun l _=>match l with | [_,_,.int _ n]=>((A.queue.length:Int) - n).toNat | _=>0,⟨_,_,0,rfl,by omega,d2,t2⟩,?_⟩
 rintro l u w3 ⟨u1,u2,i,rfl,hin,d3,t3⟩
 have hqlen:=d.wf.ql
 simp only [List.getD_cons_zero,List.getD_cons_succ]
 repeat (any_goals (first
 | (with_reducible ((refine idCond ?_); refine yP (fun hg=>?_) fun hg=>?_))
 | ((with_reducible refine oG fun X Y=>?_); simp [go_sem]; apply Y; clear Y X)))
 ·have hlt:i < A.queue.length:=by omega
  obtain ⟨Fi,hFi⟩:∃ Fi,Fi = survAll kl A.F 0 (A.queue.take i):=⟨_,rfl⟩
  rw [← hFi] at d3
  obtain ⟨p,hp⟩:∃ p,p = A.queue[i]:=⟨_,rfl⟩
  have hqi:A.queue[i]? = some p:=by rw [hp]; exact gE hlt
  have hnext:survAll kl A.F 0 (A.queue.take (i + 1)) = survF kl Fi i p:=by
   rw [List.take_succ_eq_append_getElem hlt,survAll_snoc,← hFi,hp,List.length_take,Nat.zero_add,Nat.min_eq_left (by omega)]
  have hkr3:RowR intC 1 w3 kv kl:=hkv _ t3.fr
  refine ⟨fun l w'=>∃ u1,∃ at_:Int,l = [u1,.int .i64 at_] ∧ IsDk w' b { A with F:=survAll kl A.F 0 (A.queue.take (i + 1)),down:=true,armed:=0 } h ∧ Step w b h w' h,?_,?_⟩
  ·refine crBody_ok (M:=fun l w'=>∃ u1,∃ at_:Int,l = [u1,.int .i64 at_] ∧ IsDk w' b { A with F:=survAll kl A.F 0 (A.queue.take (i + 1)),down:=true,armed:=0 } h ∧ Step w b h w' h) (p:=p) d3 hq hqi hkr3 hkl (fun w' at_ d' t'=>⟨_,at_,rfl,?_,t3.trans t'⟩)
   rw [hnext]
   exact d'
  ·rintro l u w4 ⟨u3,at_,rfl,d4,t4⟩
   simp only [List.getD_cons_zero,List.getD_cons_succ]
   repeat (any_goals ((with_reducible refine oG fun X Y=>?_); simp [go_sem]; (try simp (disch:=omega) only [wrapI64,wrapU8,wrapU32,wrapU64]); apply Y; clear Y X))
   refine ⟨⟨_,_,i + 1,rfl,by omega,d4,t4⟩,?_⟩
   show ((A.queue.length:Int) - ((i:Int) + 1)).toNat < ((A.queue.length:Int) - (i:Int)).toNat
   omega
 ·have hi:i = A.queue.length:=by omega
  subst hi
  rw [List.take_of_length_le (rL)] at d3
  have e:crashA A kl = { ({ A with F:=survAll kl A.F 0 A.queue,down:=true,armed:=0 }:Ab) with F:=fun f=>((survAll kl A.F 0 A.queue f).2,(survAll kl A.F 0 A.queue f).2),queue:=[] }:=by
   unfold crashA
   rw [if_neg (by rw [hdown]; simp)]
  rw [e] at k
  exact crEnd_ok d3 (fun w' h' d' t'=>k w' h' d' (t3.trans t'))
end
end Go.Proofs
namespace Go.Proofs
open Go Go.Sh Go.RowKit DkSpec
attribute [local go_sem] oM_indexAddr
section
variable {w:World} {b:Nat} {A:Ab} {h:Dk} {K:VK}
theorem inBlock_own {B:Nat} {e:TypeId} {sz:Nat} {v:Value} {n:Nat} {xs:List Value} (ho:w.ownsRow B e sz v n xs) {i:Nat} (hi:Value.inBlock v = some i):v.ownBlock = some i:=by
 rcases ho.2 with ⟨rfl,_⟩ | ⟨g,cap,cur,rfl,_⟩
 ·cases hi
 ·cases hi; rfl
theorem IsDk.keepRow (d:IsDk w b A h):RowR intC 1 w h.kp A.keep:=by
 have:=d.kep
 rw [show A.keep.map i64V = flat intC A.keep from (flat_one i64V A.keep).symm] at this
 exact RowR.of_owns this
theorem crashK_ok (d:IsDk w b A h) (k:∀ w' h',IsDk w' b (crashA A A.keep) h' → Step w b h w' h' → K (.tuple #[]) w'):callM Tryz.prog 32 #[dkP b,h.kp] K w:=
 crash_ok d d.keepRow d.wf.kl (fun w' f=>d.keepRow.keep f.size (fun i hi hlt=>f.block i hlt (fun ho=>by
  have hk:=inBlock_own d.kep hi
  have:=d.kne hk
  rcases ho with rfl | rfl | rfl | ho
  ·exact this.1 rfl
  ·exact this.2.1 rfl
  ·exact this.2.2.1 rfl
  ·exact this.2.2.2 ho))) k
theorem Write_ok (d:IsDk w b A h) (f at_:Int) (s:Bs) (hs:s.length < 2 ^ 60) (hat:-2 ^ 63 ≤ at_ ∧ at_ < 2 ^ 63) (k:∀ w' h',IsDk w' b (writeA A f at_ s).2 h' → Step w b h w' h' → K (.int .i64 (writeA A f at_ s).1) w'):callM Tryz.prog 157 #[dkP b,.int .i64 f,.int .i64 at_,bsV s] K w:=by
 apply sh_157_ok
 unfold sh_157
 refine ends_ok d (fun w1 d1 t1=>?_)
 refine write_ok d1 f at_ s hs hat (fun w2 h2 d2 t2=>?_)
 have t02:=t1.trans t2
 unfold writeA at k
 cases he:(endsA A).1 with
 | false=>
  rw [he] at k
  simp only [Bool.false_eq_true,if_false] at k
  repeat (any_goals (with_reducible refine yM ?_))
  exact k w2 h2 d2 t02
 | true=>
  rw [he] at k
  simp only [if_true] at k
  have c6:=d2.c 6
  simp only [dkCells] at c6
  repeat (any_goals (first
  | (with_reducible refine crashK_ok d2 ?_)
  | (with_reducible refine yL ?_)
  | ((with_reducible refine oG fun X Y=>?_); simp [go_sem,c6]; apply Y; clear Y X)))
  intro w3 h3 d3 t3
  skip
  exact k w3 h3 d3 (t02.trans t3)
theorem Sync_ok (d:IsDk w b A h) (f:Int) (k:∀ w' h',IsDk w' b (syncA A f).2 h' → Step w b h w' h' → K (.int .i64 (syncA A f).1) w'):callM Tryz.prog 69 #[dkP b,.int .i64 f] K w:=by
 apply sh_69_ok
 unfold sh_69
 refine ⟨fun l w'=>l = [] ∧ ∃ h',IsDk w' b (comesA A) h' ∧ Step w b h w' h',?_,?_⟩
 ·refine ends_ok d (fun w1 d1 t1=>?_)
  unfold comesA
  cases he:(endsA A).1 with
  | false=>
   simp only [Bool.false_eq_true,if_false]
   repeat (any_goals (with_reducible refine yM ?_))
   exact ⟨by first | trivial | rfl,h,d1,t1⟩
  | true=>
   simp only [if_true]
   have c6:=d1.c 6
   simp only [dkCells] at c6
   repeat (any_goals (first
   | (with_reducible refine crashK_ok d1 ?_)
   | (with_reducible refine yL ?_)
   | ((with_reducible refine oG fun X Y=>?_); simp [go_sem,c6]; apply Y; clear Y X)))
   intro w3 h3 d3 t3
   exact ⟨by first | trivial | rfl,h3,d3,t1.trans t3⟩
 ·rintro l u w1 ⟨rfl,h1,d1,t1⟩
  refine may_ok d1 f ?_
  have c0:=d1.c 0
  have c3:=d1.c 3
  have f3:=d1.fz 3
  simp only [dkCells] at c0 c3
  have hl:=d1.look f
  have l0:=d1.wf.l0
  have l1:=d1.wf.l1
  unfold syncA at k
  repeat (any_goals (first
  | (with_reducible ((refine idCond ?_); first|refine yP (fun hg=>?_) fun hg=>?_|refine yS (fun hg=>?_) fun hg=>?_))
  | ((with_reducible refine oG fun X Y=>?_); simp [go_sem,c0,c3,f3,hl,flV,bsV]; (try simp (disch:=omega) only [wrapI64,wrapU8,wrapU32,wrapU64]); apply Y; clear Y X)))
  ·rename_i hm
   rw [if_neg (by omega),if_pos hg] at k
   exact k _ _ (d1.set3 ((comesA A).lost - 1) (by omega)) (t1.trans (step_set _ _ _ _ _))
  ·rename_i hm
   rw [if_neg (by omega),if_neg hg] at k
   refine settle_ok d1 f ((comesA A).F f).1 (d1.wf.sz f).1 (fun w2 h2 d2 t2=>?_)
   skip
   exact k w2 h2 d2 (t1.trans t2)
  ·rw [if_pos hg] at k
   exact k _ _ d1 t1
theorem Trunc_ok (d:IsDk w b A h) (f n:Int) (k:∀ w' h',IsDk w' b (truncA A f n).2 h' → Step w b h w' h' → K (.int .i64 (truncA A f n).1) w'):callM Tryz.prog 130 #[dkP b,.int .i64 f,.int .i64 n] K w:=by
 apply sh_130_ok
 unfold sh_130
 refine ⟨fun l w'=>l = [] ∧ ∃ h',IsDk w' b (comesA A) h' ∧ Step w b h w' h',?_,?_⟩
 ·refine ends_ok d (fun w1 d1 t1=>?_)
  unfold comesA
  cases he:(endsA A).1 with
  | false=>
   simp only [Bool.false_eq_true,if_false]
   repeat (any_goals (with_reducible refine yM ?_))
   exact ⟨by first | trivial | rfl,h,d1,t1⟩
  | true=>
   simp only [if_true]
   have c6:=d1.c 6
   simp only [dkCells] at c6
   repeat (any_goals (first
   | (with_reducible refine crashK_ok d1 ?_)
   | (with_reducible refine yL ?_)
   | ((with_reducible refine oG fun X Y=>?_); simp [go_sem,c6]; apply Y; clear Y X)))
   intro w3 h3 d3 t3
   exact ⟨by first | trivial | rfl,h3,d3,t1.trans t3⟩
 ·rintro l u w1 ⟨rfl,h1,d1,t1⟩
  refine may_ok d1 f ?_
  have c0:=d1.c 0
  simp only [dkCells] at c0
  have hl:=d1.look f
  unfold truncA at k
  repeat (any_goals (first
  | (with_reducible refine size_ok d1 f ?_)
  | (with_reducible first|refine pureM_in ?_|((refine idGd ?_); ((refine idGdD ?_); first|refine zI ?_|refine zJ ?_|refine zK (fun hg=>?_) fun hg=>?_))|((refine idPick ?_); first|refine yD ?_|refine yE ?_)|((refine idCond ?_); first|refine yL ?_|refine yP (fun hg=>?_) fun hg=>?_|refine yS (fun hg=>?_) fun hg=>?_))
  | ((with_reducible refine oG fun X Y=>?_); simp [go_sem,c0,hl,flV,bsV]; (first|refine Y _ _ ?_|refine And.intro (by omega) (Y _ _ ?_)); clear Y X)))
  ·rename_i hm
   rw [if_neg (by omega),if_pos (.inl hg)] at k
   exact k _ _ d1 t1
  ·rename_i hm h0
   rw [if_neg (by omega),if_pos (.inr (by omega))] at k
   exact k _ _ d1 t1
  ·rename_i hm h0
   rw [if_neg (by omega),if_neg (by omega)] at k
   have hsz:=(d1.wf.sz f).1
   have e:(⟨((comesA A).F f).1.toArray⟩:ByteArray).extract 0 n.toNat = ⟨(((comesA A).F f).1.take n.toNat).toArray⟩:=by
    rw [ba_ext]; simp
   try rw [e]
   refine settle_ok d1 f (((comesA A).F f).1.take n.toNat) (by simp; omega) (fun w2 h2 d2 t2=>?_)
   skip
   exact k w2 h2 d2 (t1.trans t2)
  ·rw [if_pos hg] at k
   exact k _ _ d1 t1
end
end Go.Proofs
namespace Go.Proofs
open Go Go.Sh Go.RowKit CodeSpec JnSpec DkSpec
attribute [local go_sem] oM_indexAddr
def JO (p:Nat) (v:Value) (i:Nat):Prop:=i = p ∨ v.ownBlock = some i
def jnCells (b:Nat) (f:Int) (v:Value) (j:Jn):Array Value:=#[dkP b,.int .i64 f,v,.int .i64 (j.bytes:Int),.bool j.broken]
structure IsJn (w:World) (b:Nat) (h:Dk) (p:Nat) (f:Int) (j:Jn) (v:Value):Prop where
 blk:w.heap[p]? = some (.cells (jnCells b f v j) 212 (0,0))
 row:w.ownsRow 0 9 1 v j.recs.length (j.recs.map Cd.strV)
 sep:∀ i,JO p v i → ¬ Own b h i ∧ ¬ Rdb h i
 six:∀ i,JO p v i → 8 ≤ i
 len:j.recs.length ≤ j.bytes ∧ j.bytes ≤ 16777216
structure Sys (w:World) (b:Nat) (A:Ab) (h:Dk):Prop where
 d:IsDk w b A h
 l:Cd.LaidE w
 six:∀ i,Own b h i → 8 ≤ i
section
variable {w w':World} {b p:Nat} {A A':Ab} {h h':Dk} {f:Int} {j j':Jn} {v v':Value} {K:VK}
theorem Sys.step (s:Sys w b A h) (d:IsDk w' b A' h') (t:Step w b h w' h'):Sys w' b A' h':=
 ⟨d,s.l.keep (fun k hk=>t.fr.block k (by have:=s.l.size; omega) (fun ho=>by have:=s.six k ho; omega)) t.fr.size,fun i hi=>(t.own i hi).elim (s.six i) (fun hn=>by have:=s.l.size; omega)⟩
theorem Sys.fresh (s:Sys w b A h) {S:Nat → Prop} (f:Fr S w w') (hs:∀ i,S i → ¬ (Own b h i ∨ Rdb h i) ∧ 8 ≤ i):Sys w' b A h:=
 ⟨s.d.keep (fun i hi=>f.block i (s.d.lt hi) (fun hx=>(hs i hx).1 hi)),s.l.keep (fun k hk=>f.block k (by have:=s.l.size; omega) (fun hx=>by have:=(hs k hx).2; omega)) f.size,s.six⟩
theorem Sys.below (s:Sys w b A h) (f:Bw w w'):Sys w' b A h:=
 s.fresh (S:=fun _=>False) ⟨f.os,f.tape,f.output,f.size,fun i hi _=>f.block i hi⟩ (fun _ h=>h.elim)
theorem IsJn.lt (jn:IsJn w b h p f j v) {i:Nat} (hi:JO p v i):i < w.heap.size:=by
 rcases hi with rfl | hi
 ·exact (Array.getElem?_eq_some_iff.1 jn.blk).1
 ·exact (owns_own jn.row hi).1
theorem IsJn.pv (jn:IsJn w b h p f j v):v.ownBlock ≠ some p:=fun hp=>by
 obtain ⟨_,_,cur,hc⟩:=owns_own jn.row hp
 rw [jn.blk] at hc; cases hc
theorem IsJn.keep (jn:IsJn w b h p f j v) {S:Nat → Prop} (g:Fr S w w') (hs:∀ i,S i → ¬ JO p v i) (ho:∀ i,Own b h' i ∨ Rdb h' i → Own b h i ∨ Rdb h i ∨ w.heap.size ≤ i):IsJn w' b h' p f j v:=by
 have hb:∀ i,JO p v i → w'.heap[i]? = w.heap[i]?:=fun i hi=>g.block i (jn.lt hi) (fun hx=>hs i hx hi)
 refine ⟨by rw [hb p (.inl rfl)]; exact jn.blk,owns_keep jn.row (fun i hi=>hb i (.inr hi)),fun i hi=>?_,jn.six,jn.len⟩
 have hl:=jn.lt hi
 have hs:=jn.sep i hi
 exact ⟨fun hx=>(ho i (.inl hx)).elim hs.1 (fun hy=>hy.elim hs.2 (fun hz=>by omega)),fun hx=>(ho i (.inr hx)).elim hs.1 (fun hy=>hy.elim hs.2 (fun hz=>by omega))⟩
theorem IsJn.step (jn:IsJn w b h p f j v) (t:Step w b h w' h'):IsJn w' b h' p f j v:=
 jn.keep t.fr (fun i hi hj=>(jn.sep i hj).1 hi) (fun i hi=>hi.elim (fun hx=>(t.own i hx).elim .inl (fun hy=>.inr (.inr hy))) (fun hx=>(t.rd i hx).elim (fun hy=>.inr (.inl hy)) (fun hy=>.inr (.inr hy))))
theorem IsJn.below (jn:IsJn w b h p f j v) (g:Bw w w'):IsJn w' b h p f j v:=
 jn.keep (S:=fun _=>False) ⟨g.os,g.tape,g.output,g.size,fun i hi _=>g.block i hi⟩ (fun _ h=>h.elim) (fun i hi=>hi.elim .inl (fun h=>.inr (.inl h)))
theorem IsJn.c (jn:IsJn w b h p f j v) (i:Nat):w.cell? ⟨p,i,none⟩ = (jnCells b f v j)[i]?:=cell_of_block jn.blk i
theorem IsJn.fz (jn:IsJn w b h p f j v) (i:Nat):w.frozen? ⟨p,i,none⟩ = false:=frozen_of_block jn.blk i
@[reducible] def jnP (p:Nat):Value:=.pointer (some ⟨p,0,none⟩)
end
end Go.Proofs
namespace Go.Proofs
open Go Go.Sh Go.RowKit CodeSpec JnSpec DkSpec
section
variable {w w':World} {b p:Nat} {A A':Ab} {h h':Dk} {f:Int} {j j':Jn} {v v':Value} {K:VK}
theorem all_ok (jn:IsJn w b h p f j v) (k:∀ v' w',w'.ownsRow w.heap.size 9 1 v' j.recs.length (j.recs.map Cd.strV) → Bw w w' → K v' w'):callM Tryz.prog 83 #[jnP p] K w:=by
 apply sh_83_ok
 unfold sh_83 jnP
 have c2:=jn.c 2
 simp only [jnCells] at c2
 have hlen:=jn.len
 have hrow:=jn.row
 obtain ⟨va,vc,rfl⟩:=owns_len hrow
 have hmk:=run_make (P:=Tryz.prog) w 157 9 Tryz.t9 (.string ⟨#[]⟩) Tryz.underlying157 (by kernel_rfl) (by kernel_rfl) .i64 .i64 (j.recs.length:Int) (j.recs.length:Int) (by omega) (Int.le_refl _) (by
  have:Tryz.t9.bytes = 16:=by kernel_rfl
  rw [this]; omega) (by omega)
 simp only [Int.toNat_natCast] at hmk
 have hsz:Tryz.t9.size = 1:=by kernel_rfl
 rw [hsz,Nat.mul_one] at hmk
 obtain ⟨cs,hcs⟩:∃ cs,cs = madeCells (Value.string ⟨#[]⟩).cells j.recs.length:=⟨_,rfl⟩
 have hcz:cs.size = j.recs.length:=by rw [hcs]; simp [madeCells]
 rw [← hcs] at hmk
 have hb1:Below w.heap.size w (w.alloc (.cells cs 9)):=(bR).alloc (rL) _
 have h1:=heap_alloc_new w (.cells cs 9)
 have jn1:=jn.below hb1
 have c21:=jn1.c 2
 simp only [jnCells] at c21
 repeat (any_goals ((with_reducible refine oG fun X Y=>?_); simp [go_sem,c2,hmk]; apply Y; clear Y X))
 generalize w.alloc (.cells cs 9) = w1 at *
 by_cases hn:j.recs.length = 0
 ·have hcp:=run_copy_none (P:=Tryz.prog) w1 157 157 3 9 (some ⟨w.heap.size,0,none⟩) va j.recs.length j.recs.length j.recs.length vc Tryz.underlying157 (by kernel_rfl) (by rw [hn]; rfl)
  repeat (any_goals ((with_reducible refine oG fun X Y=>?_); simp [go_sem,c21,hcp]; apply Y; clear Y X))
  have e0:j.recs = []:=List.length_eq_zero_iff.1 hn
  refine k _ w1 ⟨by simp,.inr ⟨_,_,_,rfl,rL,h1,rL,by unfold maxLen; omega,by omega,by rw [hn,e0]; simp⟩⟩ hb1
 ·obtain ⟨g,cap,cur,hv,hg,_,hcur,hcs2,hnc,hcell⟩:=owns_cells jn1.row (by omega)
  cases hv
  have hxl:(j.recs.map Cd.strV).length = j.recs.length:=by simp
  have hcp:=run_copy_row (P:=Tryz.prog) w1 157 157 3 9 w.heap.size 0 j.recs.length j.recs.length ⟨g,0,none⟩ j.recs.length vc cs 9 (j.recs.map Cd.strV) Tryz.underlying157 (by kernel_rfl) h1 (by rw [hxl]; exact (Nat.min_self _).symm) (fun i x hx=>by
   rw [Cd.addr_add,Nat.zero_add]; exact hcell i x hx) (by omega) (by
   intro x hx
   obtain ⟨s,_,rfl⟩:=List.mem_map.1 hx
   rfl)
  repeat (any_goals ((with_reducible refine oG fun X Y=>?_); simp [go_sem,c21,hcp]; apply Y; clear Y X))
  have e1:cs.toList.drop j.recs.length = []:=List.drop_eq_nil_of_le (by simp; omega)
  rw [e1,List.append_nil]
  have h2:=setRow_heap w1 w.heap.size cs (j.recs.map Cd.strV).toArray 9 (0,0) h1
  refine k _ _ ⟨by simp,.inr ⟨_,_,_,rfl,rL,h2,rL,by unfold maxLen; omega,by simp,by rw [Nat.mul_one,List.take_of_length_le (by simp)]⟩⟩ (hb1.trans (Cd.below_of_grown (grown_setRow _ _ _) hb1.size (fun i hi=>by cases hi; exact rL)))
end
end Go.Proofs
namespace Go.Proofs
open Go Go.Sh Go.RowKit CodeSpec JnSpec DkSpec
structure JSt (w:World) (b:Nat) (h:Dk) (p:Nat) (v:Value) (w':World) (h':Dk) (v':Value):Prop where
 fr:Fr (fun i=>Own b h i ∨ JO p v i) w w'
 own:∀ i,Own b h' i → Own b h i ∨ w.heap.size ≤ i
 rd:∀ i,Rdb h' i → Rdb h i ∨ w.heap.size ≤ i
 jo:∀ i,JO p v' i → JO p v i ∨ w.heap.size ≤ i
def Same (w W:World):Prop:=W.heap = w.heap ∧ W.os = w.os ∧ W.tape = w.tape ∧ W.output = w.output
theorem Same.below {w W:World} (h:Same w W):Bw w W:=⟨h.2.1,h.2.2.1,h.2.2.2,by rw [h.1]; exact rL,fun i _=>by rw [h.1]⟩
section
variable {w w' w2:World} {b p:Nat} {A A':Ab} {h h' h2:Dk} {f:Int} {j j':Jn} {v v' v2:Value} {K:VK}
theorem JSt.refl:JSt w b h p v w h v:=⟨Fr.refl _ _,fun _ h=>.inl h,fun _ h=>.inl h,fun _ h=>.inl h⟩
theorem JSt.of_step (t:Step w b h w' h'):JSt w b h p v w' h' v:=⟨t.fr.mono (fun _ _ h=>.inl h),t.own,t.rd,fun _ h=>.inl h⟩
theorem JSt.trans (t:JSt w b h p v w' h' v') (u:JSt w' b h' p v' w2 h2 v2):JSt w b h p v w2 h2 v2:=
 ⟨t.fr.trans u.fr (fun i hi=>hi.elim (fun h=>(t.own i h).elim (fun h=>.inl (.inl h)) .inr) (fun h=>(t.jo i h).elim (fun h=>.inl (.inr h)) .inr)),
  fun i hi=>(u.own i hi).elim (t.own i) (fun h=>.inr (Nat.le_trans t.fr.size h)),
  fun i hi=>(u.rd i hi).elim (t.rd i) (fun h=>.inr (Nat.le_trans t.fr.size h)),
  fun i hi=>(u.jo i hi).elim (t.jo i) (fun h=>.inr (Nat.le_trans t.fr.size h))⟩
theorem JSt.below (g:Bw w w'):JSt w b h p v w' h v:=⟨⟨g.os,g.tape,g.output,g.size,fun i hi _=>g.block i hi⟩,fun _ h=>.inl h,fun _ h=>.inl h,fun _ h=>.inl h⟩
theorem IsJn.set4 (jn:IsJn w b h p f j v) (t:Bool):IsJn (w.setCell ⟨p,4,none⟩ (.bool t)) b h p f { j with broken:=t } v:=by
 refine ⟨by rw [block_set jn.blk]; rfl,owns_keep jn.row (fun i hi=>setCell_heap_ne _ _ _ _ (fun e=>jn.pv (by rw [hi]; exact congrArg some e))),jn.sep,jn.six,jn.len⟩
theorem JSt.set (i:Nat) (u:Value):JSt w b h p v (w.setCell ⟨p,i,none⟩ u) h v:=⟨(Fr.refl _ _).set _ _ (.inl (.inr (.inl rfl))),fun _ h=>.inl h,fun _ h=>.inl h,fun _ h=>.inl h⟩
theorem Sys.set (s:Sys w b A h) (jn:IsJn w b h p f j v) (i:Nat) (u:Value):Sys (w.setCell ⟨p,i,none⟩ u) b A h:=
 s.fresh (S:=fun k=>k = p) ((Fr.refl _ _).set _ _ (.inl rfl)) (fun k hk=>by
  subst hk
  have h1:=jn.sep k (.inl rfl)
  exact ⟨fun h=>h.elim h1.1 h1.2,jn.six k (.inl rfl)⟩)
theorem Sys.drew (s:Sys w b A h):Sys { w with drawn:=w.drawn + 1 } b A h:=s.fresh (S:=fun _=>False) ((Fr.refl _ _).drew) (fun _ h=>h.elim)
theorem syncJ_ok (s:Sys w b A h) (jn:IsJn w b h p f j v) (k:∀ w' h',Sys w' b (syncJ A f j).2.1 h' → IsJn w' b h' p f (syncJ A f j).2.2 v → JSt w b h p v w' h' v → K (.int .i64 (syncJ A f j).1) w'):callM Tryz.prog 100 #[jnP p] K w:=by
 apply sh_100_ok
 unfold sh_100 jnP
 have c0:=jn.c 0
 have c1:=jn.c 1
 have c4:=jn.c 4
 simp only [jnCells] at c0 c1 c4
 cases hb:j.broken with
 | true=>
  rw [hb] at c4
  unfold syncJ at k
  rw [if_pos hb] at k
  repeat (any_goals (first
  | (with_reducible refine yL ?_)
  | ((with_reducible refine oG fun X Y=>?_); simp [go_sem,c4]; apply Y; clear Y X)))
  exact k w h s jn JSt.refl
 | false=>
  rw [hb] at c4
  unfold syncJ at k
  rw [if_neg (by rw [hb]; simp)] at k
  repeat (any_goals (first
  | (with_reducible refine yM ?_)
  | ((with_reducible refine oG fun X Y=>?_); simp [go_sem,c4]; apply Y; clear Y X)))
  refine ⟨Same w,⟨rfl,rfl,rfl,rfl⟩,?_⟩
  refine ⟨rfl,?_⟩
  repeat (first | (with_reducible refine pX ?_) | (with_reducible refine oH_nil ?_) | (with_reducible refine gdH_true rfl ?_) | (with_reducible refine gdH_false rfl ?_) | (refine oH_of ⟨_,rfl⟩ (fun W0 hW0=>by (refine oG (fun X Y=>?_)); simp [go_sem,cell_heap hW0.1,c0,c1]; (first | exact Y _ _ ⟨rfl,rfl⟩ | exact ⟨by omega,Y _ _ ⟨rfl,rfl⟩⟩)) ?_))
  refine ⟨fun _ _=>True,fun w1 hw1=>?_⟩
  have s1:=s.below hw1.below
  have jn1:=jn.below hw1.below
  refine Sync_ok s1.d f (fun w2 h2 d2 t2=>?_)
  have s2:=s1.step d2 t2
  have jn2:=jn1.step t2
  have c42:=jn2.c 4
  have f42:=jn2.fz 4
  simp only [jnCells] at c42
  have e1:(decide ((syncA A f).1 ≠ 0)) = !decide ((syncA A f).1 = 0):=by simp
  repeat (any_goals ((with_reducible refine oG fun X Y=>?_); simp [go_sem,c42,f42]; apply Y; clear Y X))
  rw [← e1]
  exact k _ h2 (s2.set jn2 4 _) (jn2.set4 _) ((JSt.below hw1.below).trans ((JSt.of_step t2).trans (JSt.set 4 _)))
theorem append_ok (s:Sys w b A h) (jn:IsJn w b h p f j v) (hf:0 ≤ f ∧ f ≤ 15) (t:List UInt8) (ht:t.length ≤ 16777216) (k:∀ w' h' v',Sys w' b (appendJ A f j t).2.1 h' → IsJn w' b h' p f (appendJ A f j t).2.2 v' → JSt w b h p v w' h' v' → K (.int .i64 (appendJ A f j t).1) w'):callM Tryz.prog 106 #[jnP p,.string ⟨t.toArray⟩] K w:=by
 apply sh_106_ok
 unfold sh_106 jnP
 refine form_ok t ht s.l (fun w1 hb1=>?_)
 have s1:=s.below hb1
 have jn1:=jn.below hb1
 have j1:JSt w b h p v w1 h v:=JSt.below hb1
 have hfl:=form_len ht
 have hfp:=form_pos t
 have hl:=jn.len
 clear hb1 s jn
 have c0:=jn1.c 0
 have c1:=jn1.c 1
 have c3:=jn1.c 3
 have c4:=jn1.c 4
 simp only [jnCells] at c0 c1 c3 c4
 cases hb:j.broken with
 | true=>
  rw [hb] at c4
  unfold appendJ at k
  rw [if_pos hb] at k
  repeat (any_goals (first
  | (with_reducible refine yL ?_)
  | ((with_reducible refine oG fun X Y=>?_); simp [go_sem,c4]; apply Y; clear Y X)))
  exact k w1 h v s1 jn1 j1
 | false=>
  rw [hb] at c4
  unfold appendJ at k
  rw [if_neg (by rw [hb]; simp)] at k
  by_cases h1:20000 < t.length
  ·rw [if_pos h1] at k
   repeat (any_goals (first
   | (with_reducible ((refine idCond ?_); first|refine yM ?_|refine yN ?_))
   | ((with_reducible refine oG fun X Y=>?_); simp [go_sem,c4]; apply Y; clear Y X)))
   exact k w1 h v s1 jn1 j1
  rw [if_neg h1] at k
  by_cases h2:1048576 < j.bytes + (form t).length
  ·rw [if_pos h2] at k
   repeat (any_goals (first
   | (with_reducible ((refine idCond ?_); first|refine yM ?_|refine yN ?_|refine yO ?_))
   | ((with_reducible refine oG fun X Y=>?_); simp [go_sem,c4,c3]; (try simp (disch:=omega) only [wrapI64,wrapU8,wrapU32,wrapU64]); apply Y; clear Y X)))
   exact k w1 h v s1 jn1 j1
  rw [if_neg h2] at k
  repeat (any_goals (first
  | (with_reducible ((refine idCond ?_); first|refine yM ?_|refine yO ?_))
  | ((with_reducible refine oG fun X Y=>?_); simp [go_sem,c4,c3]; (try simp (disch:=omega) only [wrapI64,wrapU8,wrapU32,wrapU64]); apply Y; clear Y X)))
  refine ⟨Same w1,⟨rfl,rfl,rfl,rfl⟩,?_⟩
  refine ⟨rfl,?_⟩
  repeat (first | (with_reducible refine pX ?_) | (with_reducible refine oH_nil ?_) | (with_reducible refine gdH_true rfl ?_) | (with_reducible refine gdH_false rfl ?_) | (refine oH_of ⟨_,rfl⟩ (fun W0 hW0=>by (refine oG (fun X Y=>?_)); simp [go_sem,cell_heap hW0.1,c0,c1,c3]; (first | exact Y _ _ ⟨rfl,rfl⟩ | exact ⟨by omega,Y _ _ ⟨rfl,rfl⟩⟩)) ?_))
  refine ⟨fun _ _=>True,fun w2 hw2=>?_⟩
  have s2:=s1.below hw2.below
  have jn2:=jn1.below hw2.below
  have j2:=j1.trans (JSt.below hw2.below)
  clear s1 jn1 j1 hw2 c0 c1 c3 c4
  refine Write_ok s2.d f j.bytes (form t) (by omega) (by omega) (fun w3 hh3 d3 t3=>?_)
  have s3:=s2.step d3 t3
  have jn3:=jn2.step t3
  have j3:=j2.trans (JSt.of_step t3)
  clear s2 jn2 j2 t3 d3
  by_cases h3:(writeA A f j.bytes (form t)).1 = 0
  ·rw [if_neg (by rw [h3]; simp)] at k
   repeat (any_goals (first
   | (with_reducible refine yR ?_)
   | ((with_reducible refine oG fun X Y=>?_); simp [go_sem]; apply Y; clear Y X)))
   have b3:=jn3.blk
   have hwr:IntKind.i64.wrap ((j.bytes:Int) + ((form t).length:Int)) = ((j.bytes + (form t).length:Nat):Int):=by rw [wrapI64] <;> omega
   refine ⟨fun sg W=>sg ≤ 2 → W.heap[p]? = some (.cells (jnCells b f v j) 212 (0,0)),fun _=>b3,?_⟩
   iterate 11 (first | (with_reducible refine pX ?_) | (with_reducible refine oH_nil ?_) | (with_reducible refine gdH_true rfl ?_) | (with_reducible refine gdH_false rfl ?_) | (refine oH_of ⟨_,rfl⟩ (fun W0 hW0=>by (obtain ⟨s0,hs0,hC⟩:=hW0); (have hsk:s0 ≤ 2:=by omega); (refine oG (fun X Y=>?_)); simp [go_sem,cell_of_block (hC hsk),jnCells]; (first | exact Y _ _ ⟨rfl,rfl⟩ | exact ⟨by omega,Y _ _ ⟨rfl,rfl⟩⟩)) ?_))
   repeat (first | (with_reducible refine pX ?_) | (with_reducible refine oH_nil ?_) | (with_reducible refine gdH_true rfl ?_) | (with_reducible refine gdH_false rfl ?_) | (refine oH_of ⟨_,rfl⟩ (fun W0 hW0=>by (obtain ⟨s0,hs0,hC⟩:=hW0); (refine oG (fun X Y=>?_)); simp [go_sem,hwr]; (first | exact Y _ _ ⟨rfl,rfl⟩ | exact ⟨by omega,Y _ _ ⟨rfl,rfl⟩⟩)) ?_))
   have s4:=s3.drew
   have jn4:=jn3.below (w':={ w3 with drawn:=w3.drawn + 1 }) ((bR).drew)
   have j4:=j3.trans (JSt.below (w':={ w3 with drawn:=w3.drawn + 1 }) ((bR).drew))
   generalize ({ w3 with drawn:=w3.drawn + 1 }:World) = w4 at *
   clear s3 jn3 j3 b3
   repeat (any_goals ((with_reducible refine oG fun X Y=>?_); simp [go_sem]; apply Y; clear Y X))
   have hb5:Below w4.heap.size w4 (w4.alloc (.cells #[.string ⟨t.toArray⟩] 9)):=(bR).alloc (rL) _
   have hn5:=heap_alloc_new w4 (.cells #[.string ⟨t.toArray⟩] 9)
   have s5:=s4.below hb5
   have jn5:=jn4.below hb5
   have j5:=j4.trans (JSt.below hb5)
   generalize w4.alloc (.cells #[.string ⟨t.toArray⟩] 9) = w5 at *
   clear s4 jn4 j4
   have b5:=jn5.blk
   have hp5:=jn5.lt (.inl rfl)
   refine ⟨fun _=>b5,?_⟩
   refine append_at 157 157 9 Tryz.t9 (.string ⟨#[]⟩) 1 16 Tryz.underlying157 (by kernel_rfl) (by kernel_rfl) (by kernel_rfl) (by kernel_rfl) rfl (by omega) jn5.row [Cd.strV t] rfl (fun e=>by cases e) (fun a ha i u hu=>by
    cases ha
    rw [Cd.addr_add,Nat.zero_add,cell_of_block hn5]
    match i,hu with
    | 0,hu=>exact hu
    | i + 1,hu=>simp at hu) (by intro u hu; simp only [List.mem_singleton] at hu; subst hu; rfl) (by unfold maxLen; omega) (by omega) (fun v6 w6 ho6 hg6 hv6=>?_)
   have b6:w6.heap[p]? = some (.cells (jnCells b f v j) 212 (0,0)):=(hg6.block p hp5 (fun e=>jn5.pv e.symm)).trans b5
   refine ⟨fun _=>b6,?_⟩
   have f62:=frozen_of_block b6 2
   have c63:=block_set (i:=2) b6 v6
   have f63:=frozen_of_block c63 3
   have c62:=cell_of_block b6 2
   have c633:=cell_of_block c63 3
   simp [jnCells] at c62 c633
   obtain ⟨va6,vc6,rfl⟩:=owns_len ho6
   repeat (any_goals (first
   | (refine ⟨fun hh=>absurd hh (by decide),?_⟩)
   | ((with_reducible refine oG fun X Y=>?_); simp [go_sem,c62,c633,f62,f63]; apply Y; clear Y X)))
   obtain ⟨v6,hv6e⟩:∃ v6,v6 = Value.slice va6 (j.recs.length + 1) vc6:=⟨_,rfl⟩
   rw [← hv6e] at c63 ho6 hv6 ⊢
   have c64:=block_set (i:=3) c63 (.int .i64 ((j.bytes + (form t).length:Nat):Int))
   have hz6:=hg6.size
   have hpv6:v6.ownBlock ≠ some p:=fun e=>(hv6 p e).elim (fun e=>jn5.pv e) (fun e=>by omega)
   have hz5:=s5.l.size
   have hF:Fr (JO p v) w5 ((w6.setCell ⟨p,2,none⟩ v6).setCell ⟨p,3,none⟩ (.int .i64 ((j.bytes + (form t).length:Nat):Int))):=
    (((Fr.refl (JO p v) w5).by hg6 (fun i e=>.inl (.inr e))).set _ _ (.inl (.inl rfl))).set _ _ (.inl (.inl rfl))
   refine k _ hh3 v6 (s5.fresh hF (fun i hi=>⟨fun e=>e.elim (jn5.sep i hi).1 (jn5.sep i hi).2,jn5.six i hi⟩)) ⟨?_,?_,?_,?_,?_⟩ (j5.trans ⟨hF.mono (fun _ _ h=>.inr h),fun _ h=>.inl h,fun _ h=>.inl h,?_⟩)
   ·refine Eq.trans c64 ?_
    simp [jnCells,hb]
   ·simp only [List.length_append,List.length_singleton,List.map_append,List.map_cons,List.map_nil]
    refine owns_keep ho6 (fun i hi=>?_)
    have hip:i ≠ p:=fun e=>hpv6 (by rw [← e]; exact hi)
    rw [setCell_heap_ne _ _ _ _ hip,setCell_heap_ne _ _ _ _ hip]
   ·rintro i (rfl | hi)
    ·exact jn5.sep _ (.inl rfl)
    ·rcases hv6 i hi with e | e
     ·exact jn5.sep i (.inr e)
     ·exact ⟨fun ho=>by have:=s5.d.lt (.inl ho); omega,fun ho=>by have:=s5.d.lt (.inr ho); omega⟩
   ·rintro i (rfl | hi)
    ·exact jn5.six _ (.inl rfl)
    ·rcases hv6 i hi with e | e
     ·exact jn5.six i (.inr e)
     ·omega
   ·simp only [List.length_append,List.length_singleton]
    omega
   ·rintro i (rfl | hi)
    ·exact .inl (.inl rfl)
    ·exact (hv6 i hi).imp .inr id
  ·rw [if_pos h3] at k
   have c43:=jn3.c 4
   have f43:=jn3.fz 4
   simp only [jnCells] at c43
   repeat (any_goals (first
   | (with_reducible refine yQ ?_)
   | ((with_reducible refine oG fun X Y=>?_); simp [go_sem,c43,f43]; apply Y; clear Y X)))
   exact k _ hh3 v (s3.set jn3 4 _) (jn3.set4 _) (j3.trans (JSt.set 4 _))
end
end Go.Proofs
namespace Go.Proofs
open Go Go.Sh Go.RowKit CodeSpec JnSpec DkSpec
section
variable {w w' w2:World} {b p:Nat} {A A':Ab} {h h' h2:Dk} {f:Int} {j j':Jn} {v v' v2:Value} {K:VK}
theorem Step.below (g:Bw w w'):Step w b h w' h:=⟨⟨g.os,g.tape,g.output,g.size,fun i hi _=>g.block i hi⟩,fun _ h=>.inl h,fun _ h=>.inl h⟩
theorem readA_len (A:Ab) (f a n:Int):(readA A f a n).1.length ≤ (A.F f).1.length:=by
 unfold readA
 split
 ·simp
 ·split
  ·simp
  ·simp; omega
theorem formL_len (l:List Bs):l.length ≤ (formL l).length:=by
 induction l with
 | nil=>simp
 | cons t l ih=>
  have:=form_pos t
  rw [formL_cons,List.length_append,List.length_cons]
  omega
def Opened (w:World) (b:Nat) (h:Dk) (w0:World) (f:Int) (r:Value):Option Jn → Prop
 | none=>r = .pointer none
 | some j=>∃ p v,r = jnP p ∧ IsJn w b h p f j v ∧ ∀ i,JO p v i → w0.heap.size ≤ i
theorem owns_zero {w:World} {B:Nat} {e:TypeId} {sz n:Nat} {v:Value} {xs:List Value} (h:w.ownsRow B e sz v n xs):w.ownsRow 0 e sz v n xs:=by
 refine ⟨h.1,h.2.imp id ?_⟩
 rintro ⟨g,cap,cur,a,b,c⟩
 exact ⟨g,cap,cur,a,Nat.zero_le _,c⟩
theorem opened_new {w0 w2 w3:World} {C:Ab} {h1 h3:Dk} {recs:List Bs} {n:Nat} (s3:Sys w3 b C h3) (t3:Step w2 b h1 w3 h3) (ho:w2.ownsRow 0 9 1 v recs.length (recs.map Cd.strV)) (hvo:∀ i,v.ownBlock = some i → w0.heap.size ≤ i)
  (hvd:∀ i,v.ownBlock = some i → ¬ Own b h1 i ∧ ¬ Rdb h1 i) (h6:8 ≤ w0.heap.size) (hz:w0.heap.size ≤ w2.heap.size) (hn:recs.length ≤ n ∧ n ≤ 16777216) :
  Sys (w3.alloc (.cells #[dkP b,.int .i64 f,v,.int .i64 (n:Int),.bool false] 212)) b C h3 ∧ Step w2 b h1 (w3.alloc (.cells #[dkP b,.int .i64 f,v,.int .i64 (n:Int),.bool false] 212)) h3 ∧
  Opened (w3.alloc (.cells #[dkP b,.int .i64 f,v,.int .i64 (n:Int),.bool false] 212)) b h3 w0 f (jnP w3.heap.size) (some ⟨recs,n,false⟩):=by
 have hb:Below w3.heap.size w3 (w3.alloc (.cells #[dkP b,.int .i64 f,v,.int .i64 (n:Int),.bool false] 212)):=(bR).alloc (rL) _
 have hnew:=heap_alloc_new w3 (.cells #[dkP b,.int .i64 f,v,.int .i64 (n:Int),.bool false] 212)
 generalize w3.alloc (.cells #[dkP b,.int .i64 f,v,.int .i64 (n:Int),.bool false] 212) = w4 at *
 have hz3:=t3.fr.size
 refine ⟨s3.below hb,t3.trans (Step.below hb),_,v,rfl,⟨hnew,?_,?_,?_,hn⟩,?_⟩
 ·refine owns_keep ho (fun i hi=>?_)
  have hl:=(owns_own ho hi).1
  rw [hb.block i (by omega)]
  exact t3.fr.block i hl (hvd i hi).1
 ·rintro i (rfl | hi)
  ·exact ⟨fun ho=>by have:=s3.d.lt (.inl ho); omega,fun ho=>by have:=s3.d.lt (.inr ho); omega⟩
  ·have hl:=(owns_own ho hi).1
   exact ⟨fun hx=>(t3.own i hx).elim (hvd i hi).1 (fun h=>by omega),fun hx=>(t3.rd i hx).elim (hvd i hi).2 (fun h=>by omega)⟩
 ·rintro i (rfl | hi)
  ·omega
  ·have:=hvo i hi; omega
 ·rintro i (rfl | hi)
  ·omega
  ·exact hvo i hi
theorem openJ_ok (s:Sys w b A h) (f:Int) (k:∀ w' h' r,Sys w' b (openJ A f).2.2 h' → Step w b h w' h' → Opened w' b h' w f r (openJ A f).1 → K (.tuple #[r,.int .i64 (openJ A f).2.1]) w'):callM Tryz.prog 80 #[dkP b,.int .i64 f] K w:=by
 apply sh_80_ok
 unfold sh_80
 unfold openJ at k
 by_cases hf:f < 0 ∨ 15 < f
 ·rw [if_pos hf] at k
  by_cases h0:f < 0
  ·repeat (any_goals (first
   | (with_reducible first|((refine idGd ?_); ((refine idGdD ?_); refine zJ ?_))|refine yD ?_|refine yL ?_)
   | ((with_reducible refine oG fun X Y=>?_); simp [go_sem]; apply Y; clear Y X)))
   exact k w h _ s (Step.refl _ _ _) rfl
  ·have h1:15 < f:=hf.resolve_left h0
   repeat (any_goals (first
   | (with_reducible first|refine pureM_in ?_|((refine idGd ?_); ((refine idGdD ?_); refine zI ?_))|refine yE ?_|refine yN ?_)
   | ((with_reducible refine oG fun X Y=>?_); simp [go_sem]; apply Y; clear Y X)))
   exact k w h _ s (Step.refl _ _ _) rfl
 rw [if_neg hf] at k
 have h0:¬ f < 0:=fun e=>hf (.inl e)
 have h1:¬ 15 < f:=fun e=>hf (.inr e)
 repeat (any_goals (first
 | (with_reducible first|refine pureM_in ?_|((refine idGd ?_); ((refine idGdD ?_); refine zI ?_))|refine yE ?_|refine yO ?_)
 | ((with_reducible refine oG fun X Y=>?_); simp [go_sem]; apply Y; clear Y X)))
 refine Sync_ok s.d f (fun w1 h1' d1 t1=>?_)
 have s1:=s.step d1 t1
 by_cases he:(syncA A f).1 = 0
 ·rw [if_neg (by simp [he])] at k
  repeat (any_goals (first
  | (with_reducible refine yR ?_)
  | ((with_reducible refine oG fun X Y=>?_); simp [go_sem]; apply Y; clear Y X)))
  refine size_ok s1.d f ?_
  refine read_ok s1.d f 0 _ ?_
  have hrl:=readA_len (syncA A f).2 f 0 ((((syncA A f).2.F f).1.length:Nat):Int)
  have hsz:=(s1.d.wf.sz f).1
  generalize (syncA A f).2 = B at *
  unfold openB at k
  generalize readA B f 0 (((B.F f).1.length:Nat):Int) = r at *
  obtain ⟨x,e⟩:=r
  dsimp only at k hrl ⊢
  by_cases h2:e = 0
  ·rw [if_neg (by simp [h2])] at k
   repeat (any_goals (first
   | (with_reducible refine yR ?_)
   | ((with_reducible refine oG fun X Y=>?_); simp [go_sem]; apply Y; clear Y X)))
   refine readJ_ok x (by omega) s1.l (fun v w2 ho2 hb2=>?_)
   have hrs:=readJ_spec x
   have hrl1:=formL_len (readJ x).1
   rw [← hrs.2.1] at hrl1
   have hrl2:(readJ x).2 ≤ x.length:=by
    have:=congrArg List.length hrs.2.2.1
    rw [List.length_append,← hrs.2.1] at this
    omega
   clear hrs
   have s2:=s1.below hb2
   have t2:=t1.trans (Step.below (b:=b) (h:=h1') hb2)
   have hz1:=t1.fr.size
   have hvo:∀ i,v.ownBlock = some i → w1.heap.size ≤ i:=fun i hi=>(owns_own ho2 hi).2.1
   have ho20:w2.ownsRow 0 9 1 v (readJ x).1.length ((readJ x).1.map Cd.strV):=owns_zero ho2
   have hvd:∀ i,v.ownBlock = some i → ¬ Own b h1' i ∧ ¬ Rdb h1' i:=fun i hi=>by
    have h3:=hvo i hi
    exact ⟨fun ho=>by have:=s1.d.lt (.inl ho); omega,fun ho=>by have:=s1.d.lt (.inr ho); omega⟩
   have hz2:=hb2.size
   have hz5:=s.l.size
   by_cases h3:(readJ x).2 < x.length
   ·rw [if_pos h3] at k
    by_cases h4:(truncA B f (readJ x).2).1 = 0
    ·rw [if_neg (by simp [h4])] at k
     repeat (any_goals ((with_reducible refine oG fun X Y=>?_); simp [go_sem]; apply Y; clear Y X))
     refine ⟨fun vs W=>∃ u h',vs = [u,.pointer none,.int .i64 0] ∧ Sys W b (truncA B f (readJ x).2).2 h' ∧ Step w2 b h1' W h',?_,?_⟩
     ·repeat (any_goals (first
      | (with_reducible refine yN ?_)
      | ((with_reducible refine oG fun X Y=>?_); simp [go_sem]; apply Y; clear Y X)))
      refine Trunc_ok s2.d f (readJ x).2 (fun w3 h3' d3 t3=>?_)
      repeat (any_goals (first
      | (with_reducible refine yR ?_)
      | ((with_reducible refine oG fun X Y=>?_); simp [go_sem]; apply Y; clear Y X)))
      exact ⟨_,h3',rfl,s2.step d3 t3,t3⟩
     ·rintro _ _ w3 ⟨u,h3',rfl,s3,t3⟩
      obtain ⟨va,vc,hve⟩:=owns_len ho20
      have hve2:=hve
      subst hve
      repeat (any_goals ((with_reducible refine oG fun X Y=>?_); simp [go_sem]; apply Y; clear Y X))
      obtain ⟨s4,t4,o4⟩:=opened_new (f:=f) (w0:=w) (n:=(readJ x).2) s3 t3 ho20 (fun i hi=>Nat.le_trans hz1 (hvo i hi)) hvd (by omega) (by omega) ⟨hrl1,by omega⟩
      exact k _ h3' _ s4 (t2.trans t4) o4
    ·rw [if_pos h4] at k
     repeat (any_goals ((with_reducible refine oG fun X Y=>?_); simp [go_sem]; apply Y; clear Y X))
     refine ⟨fun _ _=>False,?_,fun _ _ _ h=>h.elim⟩
     repeat (any_goals (first
     | (with_reducible refine yN ?_)
     | ((with_reducible refine oG fun X Y=>?_); simp [go_sem]; apply Y; clear Y X)))
     refine Trunc_ok s2.d f (readJ x).2 (fun w3 h3' d3 t3=>?_)
     repeat (any_goals (first
     | (with_reducible refine yQ ?_)
     | ((with_reducible refine oG fun X Y=>?_); simp [go_sem]; apply Y; clear Y X)))
     exact k w3 h3' _ (s2.step d3 t3) (t2.trans t3) rfl
   ·rw [if_neg h3] at k
    repeat (any_goals ((with_reducible refine oG fun X Y=>?_); simp [go_sem]; apply Y; clear Y X))
    refine ⟨fun vs W=>∃ u h',vs = [u,.pointer none,.int .i64 0] ∧ Sys W b B h' ∧ Step w2 b h1' W h',?_,?_⟩
    ·repeat (any_goals (first
     | (with_reducible refine yO ?_)
     | ((with_reducible refine oG fun X Y=>?_); simp [go_sem]; apply Y; clear Y X)))
     exact ⟨_,h1',rfl,s2,Step.refl _ _ _⟩
    ·rintro _ _ w3 ⟨u,h3',rfl,s3,t3⟩
     obtain ⟨va,vc,hve⟩:=owns_len ho20
     subst hve
     repeat (any_goals ((with_reducible refine oG fun X Y=>?_); simp [go_sem]; apply Y; clear Y X))
     obtain ⟨s4,t4,o4⟩:=opened_new (f:=f) (w0:=w) (n:=(readJ x).2) s3 t3 ho20 (fun i hi=>Nat.le_trans hz1 (hvo i hi)) hvd (by omega) (by omega) ⟨hrl1,by omega⟩
     exact k _ h3' _ s4 (t2.trans t4) o4
  ·rw [if_pos h2] at k
   repeat (any_goals (first
   | (with_reducible refine yQ ?_)
   | ((with_reducible refine oG fun X Y=>?_); simp [go_sem]; apply Y; clear Y X)))
   exact k w1 h1' _ s1 t1 rfl
 ·rw [if_pos he] at k
  repeat (any_goals (first
  | (with_reducible refine yQ ?_)
  | ((with_reducible refine oG fun X Y=>?_); simp [go_sem]; apply Y; clear Y X)))
  exact k w1 h1' _ s1 t1 rfl
end
end Go.Proofs
namespace PuSpec
open FdSpec TkSpec CodeSpec
variable {s:Stp} {lims:List Lim}
theorem doneR_good:doneR ⟨[],false⟩ = true:=rfl
theorem rdNums_whole (vs:List Int) (hl:Len vs.length) (h:∀ v ∈ vs,InR v):rdNums ⟨recNums vs,false⟩ = (vs,⟨[],false⟩):=by
 have:=rdNums_enc vs [] hl h
 rw [List.append_nil] at this
 exact this
theorem recNums_head (vs:List Int) (h:vs.length = 2 ∨ vs.length = 3):¬ [48,59] <+: recNums vs:=by
 have e:recNums vs = Go.Lib.itoa vs.length ++ 91 :: ((vs.map encInt).flatten ++ [93]):=by simp [recNums,encNums,encList]
 rw [e]
 rcases h with h | h <;> rw [h]
 ·rw [show Go.Lib.itoa ((2:Nat):Int) = [50] by decide +kernel]
  intro hp
  have:=List.cons_prefix_cons.1 hp
  exact absurd this.1 (by decide)
 ·rw [show Go.Lib.itoa ((3:Nat):Int) = [51] by decide +kernel]
  intro hp
  have:=List.cons_prefix_cons.1 hp
  exact absurd this.1 (by decide)
theorem replay_add (items:List Itm) (h:Hld) (w:WHld h) (hl:h.links.length ≤ 4) :
  replayM s lims items (recAdd h) = if validM s lims h = true ∧ hasM items h.t = false ∧ items.length < 400 then some (items ++ [freshI h]) else none:=by
 have e0:recAdd h = [48,59] ++ heldE h:=by
  have:encNum 0 = [48,59]:=by decide +kernel
  rw [recAdd,this]
 unfold replayM
 rw [if_pos (by rw [e0]; exact List.prefix_append _ _)]
 rw [e0]
 have e1:([48,59] ++ heldE h).drop 2 = heldE h:=rfl
 rw [e1]
 unfold addR
 rw [decode_enc h w hl]
 dsimp only
 by_cases hc:validM s lims h = true ∧ hasM items h.t = false ∧ items.length < 400
 ·rw [if_pos hc,if_neg]
  simp only [Bool.not_true,Bool.false_or,hc.1,hc.2.1,Bool.or_false,decide_eq_true_eq]
  omega
 ·rw [if_neg hc,if_pos]
  simp only [Bool.not_true,Bool.false_or,Bool.or_eq_true,decide_eq_true_eq,Bool.not_eq_true']
  by_cases h1:validM s lims h = true
  ·by_cases h2:hasM items h.t = true
   ·exact .inr h2
   ·by_cases h3:items.length < 400
    ·exact absurd ⟨h1,by simpa using h2,h3⟩ hc
    ·exact .inl (.inl (by omega))
  ·exact .inl (.inr (by simpa using h1))
theorem replay_nums (items:List Itm) (n:List Int) (h:∀ v ∈ n,InR v) (hn:n.length = 2 ∨ n.length = 3) {i:Nat} (hi:n.getD 1 0 = i) {x:Itm} (hx:items[i]? = some x) :
  replayM s lims items (recNums n) = (stepR s n x).map fun y=>items.set i y:=by
 unfold replayM
 rw [if_neg (recNums_head n hn),rdNums_whole n (by simp only [Len]; omega) h]
 rw [if_neg (by simp [doneR_good]; omega)]
 dsimp only
 rw [hi,if_neg (by omega)]
 simp only [Int.toNat_natCast,hx]
 cases stepR s n x <;> rfl
theorem replayL_append:∀ (a b:List Bytes) (items:List Itm),replayL s lims items (a ++ b) = (replayL s lims items a).bind fun l=>replayL s lims l b
 | [],b,items=>rfl
 | r :: a,b,items=>by
  rw [List.cons_append,replayL,replayL]
  cases replayM s lims items r with
  | none=>rfl
  | some l=>exact replayL_append a b l
theorem replayL_one (items:List Itm) (r:Bytes):replayL s lims items [r] = replayM s lims items r:=by
 rw [replayL]
 cases replayM s lims items r <;> rfl
structure Later (x y:Itm):Prop where
 held:y.held = x.held
 up:x.status ≤ y.status
 dare:x.status ≠ 0 → y.dare = x.dare ∧ y.lent = x.lent
 back:x.back = true → y.back = true
def LaterL (l m:List Itm):Prop:=∀ (i:Nat) (x:Itm),l[i]? = some x → ∃ y,m[i]? = some y ∧ Later x y
theorem Later.refl (x:Itm):Later x x:=⟨rfl,Int.le_refl _,fun _=>⟨rfl,rfl⟩,id⟩
theorem LaterL.refl (l:List Itm):LaterL l l:=fun _ x h=>⟨x,h,.refl x⟩
def Raw (l:List Itm):Prop:=∀ x ∈ l,x.status = 0 ∨ x.status = 1 ∨ x.status = 2
theorem Later.trans {x y z:Itm} (h:Later x y) (k:Later y z) (hx:0 ≤ x.status):Later x z:=
 ⟨k.held.trans h.held,Int.le_trans h.up k.up,fun hn=>by
  have hy:y.status ≠ 0:=by have:=h.up; omega
  exact ⟨(k.dare hy).1.trans (h.dare hn).1,(k.dare hy).2.trans (h.dare hn).2⟩,fun hb=>k.back (h.back hb)⟩
theorem step_later {n:List Int} {x y:Itm} (h:stepR s n x = some y):Later x y ∧ (y.status = x.status ∨ y.status = 1 ∨ y.status = 2):=by
 unfold stepR at h
 split at h
 ·split at h
  ·split at h
   ·rename_i _ hc
    simp only [Option.some.injEq] at h
    subst h
    simp only [Bool.and_eq_true,decide_eq_true_eq] at hc
    exact ⟨⟨rfl,by dsimp only; omega,fun hn=>absurd hc.1.1 hn,id⟩,.inr (.inl rfl)⟩
   ·cases h
  ·cases h
 ·split at h
  ·split at h
   ·rename_i hc
    simp only [Option.some.injEq] at h
    subst h
    exact ⟨⟨rfl,by dsimp only; omega,fun _=>⟨rfl,rfl⟩,id⟩,.inr (.inr rfl)⟩
   ·cases h
  ·split at h
   ·split at h
    ·simp only [Option.some.injEq] at h
     subst h
     exact ⟨⟨rfl,Int.le_refl _,fun _=>⟨rfl,rfl⟩,fun _=>rfl⟩,.inl rfl⟩
    ·cases h
   ·cases h
 ·cases h
def Fr (s:Stp) (x:Itm):Prop:=(x.status = 0 → x = freshI x.held) ∧ (x.status ≠ 0 → 1 ≤ x.dare ∧ x.dare < s.g.Q)
theorem step_fr {n:List Int} {x y:Itm} (h:stepR s n x = some y) (hx:Fr s x):Fr s y:=by
 unfold stepR at h
 split at h
 ·split at h
  ·split at h
   ·rename_i _ hc
    simp only [Option.some.injEq] at h
    subst h
    simp only [Bool.and_eq_true,decide_eq_true_eq] at hc
    exact ⟨fun e=>absurd e (by simp),fun _=>⟨hc.1.2,hc.2⟩⟩
   ·cases h
  ·cases h
 ·split at h
  ·split at h
   ·rename_i hc
    simp only [Option.some.injEq] at h
    subst h
    exact ⟨fun e=>absurd e (by simp),fun _=>hx.2 (by rw [hc]; decide)⟩
   ·cases h
  ·split at h
   ·split at h
    ·rename_i hc
     simp only [Option.some.injEq] at h
     subst h
     have hn:x.status ≠ 0:=fun e=>by
      have:=hx.1 e
      rw [this] at hc
      simp [freshI] at hc
     exact ⟨fun e=>absurd e hn,fun _=>hx.2 hn⟩
    ·cases h
   ·cases h
 ·cases h
theorem fresh_fr (h:Hld):Fr s (freshI h):=⟨fun _=>rfl,fun e=>absurd rfl e⟩
def Uniq (l:List Itm):Prop:=∀ (i j:Nat) (x y:Itm),l[i]? = some x → l[j]? = some y → x.held.t = y.held.t → i = j
def AllV (s:Stp) (lims:List Lim) (l:List Itm):Prop:=∀ x ∈ l,validM s lims x.held = true
theorem set_later {l:List Itm} {i:Nat} {x y:Itm} (hx:l[i]? = some x) (h:Later x y):LaterL l (l.set i y):=by
 intro j z hz
 rw [List.getElem?_set]
 by_cases hj:i = j
 ·subst hj
  rw [hx] at hz
  cases hz
  have hl:i < l.length:=(List.getElem?_eq_some_iff.1 hx).1
  rw [if_pos rfl,if_pos hl]
  exact ⟨y,rfl,h⟩
 ·rw [if_neg hj]
  exact ⟨z,hz,.refl z⟩
theorem append_later (l:List Itm) (m:List Itm):LaterL l (l ++ m):=fun i x hx=>⟨x,by rw [List.getElem?_append_left (List.getElem?_eq_some_iff.1 hx).1]; exact hx,.refl x⟩
theorem LaterL.trans {l m n:List Itm} (h:LaterL l m) (k:LaterL m n) (hr:Raw l):LaterL l n:=by
 intro i x hx
 obtain ⟨y,hy,h1⟩:=h i x hx
 obtain ⟨z,hz,h2⟩:=k i y hy
 exact ⟨z,hz,h1.trans h2 (by rcases hr x (List.mem_of_getElem? hx) with e | e | e <;> omega)⟩
theorem uniq_set {l:List Itm} (h:Uniq l) {i:Nat} {x y:Itm} (hx:l[i]? = some x) (hy:y.held = x.held):Uniq (l.set i y):=by
 have key:∀ (j:Nat) (z:Itm),(l.set i y)[j]? = some z → ∃ w,l[j]? = some w ∧ w.held = z.held:=by
  intro j z hz
  rw [List.getElem?_set] at hz
  by_cases hj:i = j
  ·subst hj
   rw [if_pos rfl] at hz
   split at hz
   ·cases hz; exact ⟨x,hx,hy.symm⟩
   ·cases hz
  ·rw [if_neg hj] at hz
   exact ⟨z,hz,rfl⟩
 intro a b u v hu hv e
 obtain ⟨u',hu',eu⟩:=key a u hu
 obtain ⟨v',hv',ev⟩:=key b v hv
 exact h a b u' v' hu' hv' (by rw [eu,ev]; exact e)
theorem hasM_false {l:List Itm} {t:Tkt} (h:hasM l t = false):∀ x ∈ l,x.held.t ≠ t:=by
 intro x hx e
 have:hasM l t = true:=List.any_eq_true.2 ⟨x,hx,by simpa using e⟩
 rw [h] at this; cases this
theorem uniq_append {l:List Itm} (h:Uniq l) {x:Itm} (hx:hasM l x.held.t = false):Uniq (l ++ [x]):=by
 have hn:=hasM_false hx
 have key:∀ (j:Nat) (z:Itm),(l ++ [x])[j]? = some z → (l[j]? = some z ∧ j < l.length) ∨ (z = x ∧ j = l.length):=by
  intro j z hz
  rw [List.getElem?_append] at hz
  split at hz
  ·rename_i hj; exact .inl ⟨hz,hj⟩
  ·rename_i hj
   right
   have hj0:j - l.length = 0:=by
    rcases hk:j - l.length with _ | k
    ·rfl
    ·rw [hk] at hz; simp at hz
   rw [hj0] at hz
   simp only [List.getElem?_cons_zero,Option.some.injEq] at hz
   exact ⟨hz.symm,by omega⟩
 intro a b u v hu hv e
 rcases key a u hu with ⟨u1,u2⟩ | ⟨u1,u2⟩ <;> rcases key b v hv with ⟨v1,v2⟩ | ⟨v1,v2⟩
 ·exact h a b u v u1 v1 e
 ·subst v1; exact absurd e (hn u (List.mem_of_getElem? u1))
 ·subst u1; exact absurd e.symm (hn v (List.mem_of_getElem? v1))
 ·omega
structure GoodI (s:Stp) (lims:List Lim) (l:List Itm):Prop where
 raw:Raw l
 uniq:Uniq l
 val:AllV s lims l
 fr:∀ x ∈ l,Fr s x
theorem goodI_nil:GoodI s lims [] where
 raw x h:=by cases h
 uniq i j x y h:=by simp at h
 val x h:=by cases h
 fr x h:=by cases h
theorem replay_later {l m:List Itm} {r:Bytes} (g:GoodI s lims l) (h:replayM s lims l r = some m):GoodI s lims m ∧ LaterL l m:=by
 unfold replayM at h
 split at h
 ·unfold addR at h
  generalize decodeH (List.drop 2 r) = d at h
  split at h
  ·cases h
  ·rename_i hc
   simp only [Option.some.injEq] at h
   subst h
   simp only [Bool.or_eq_true,Bool.not_eq_true',decide_eq_true_eq,not_or,Bool.not_eq_false,Bool.not_eq_true] at hc
   refine ⟨⟨?_,uniq_append g.uniq hc.2,?_,?_⟩,append_later _ _⟩
   ·intro x hx
    rcases List.mem_append.1 hx with hx | hx
    ·exact g.raw x hx
    ·simp only [List.mem_singleton] at hx
     subst hx; exact .inl rfl
   ·intro x hx
    rcases List.mem_append.1 hx with hx | hx
    ·exact g.val x hx
    ·simp only [List.mem_singleton] at hx
     subst hx; exact hc.1.2
   ·intro x hx
    rcases List.mem_append.1 hx with hx | hx
    ·exact g.fr x hx
    ·simp only [List.mem_singleton] at hx
     subst hx; exact fresh_fr _
 ·split at h
  ·cases h
  ·dsimp only at h
   split at h
   ·cases h
   ·split at h
    ·cases h
    ·rename_i x hx
     split at h
     ·cases h
     ·rename_i y hy
      simp only [Option.some.injEq] at h
      subst h
      obtain ⟨k1,k2⟩:=step_later hy
      have gx:=g.raw x (List.mem_of_getElem? hx)
      refine ⟨⟨?_,uniq_set g.uniq hx k1.held,?_,?_⟩,set_later hx k1⟩
      ·intro z hz
       rcases List.mem_or_eq_of_mem_set hz with hz | rfl
       ·exact g.raw z hz
       ·rcases k2 with e | e | e
        ·rw [e]; exact gx
        ·exact .inr (.inl e)
        ·exact .inr (.inr e)
      ·intro z hz
       rcases List.mem_or_eq_of_mem_set hz with hz | rfl
       ·exact g.val z hz
       ·rw [k1.held]; exact g.val x (List.mem_of_getElem? hx)
      ·intro z hz
       rcases List.mem_or_eq_of_mem_set hz with hz | rfl
       ·exact g.fr z hz
       ·exact step_fr hy (g.fr x (List.mem_of_getElem? hx))
theorem replayL_later:∀ (rs:List Bytes) {l m:List Itm},GoodI s lims l → replayL s lims l rs = some m → GoodI s lims m ∧ LaterL l m
 | [],l,m,g,h=>by
  rw [replayL,Option.some.injEq] at h
  subst h
  exact ⟨g,.refl _⟩
 | r :: rs,l,m,g,h=>by
  rw [replayL] at h
  split at h
  ·cases h
  ·rename_i k hk
   obtain ⟨g1,h1⟩:=replay_later g hk
   obtain ⟨g2,h2⟩:=replayL_later rs g1 h
   exact ⟨g2,h1.trans h2 g.raw⟩
theorem replayL_pre {a b:List Bytes} (h:a <+: b) {m:List Itm} (hb:replayL s lims [] b = some m):∃ l,replayL s lims [] a = some l ∧ GoodI s lims l ∧ GoodI s lims m ∧ LaterL l m:=by
 obtain ⟨c,rfl⟩:=h
 rw [replayL_append] at hb
 rcases e:replayL s lims [] a with _ | l
 ·rw [e] at hb; cases hb
 ·rw [e] at hb
  obtain ⟨g1,_⟩:=replayL_later a goodI_nil e
  obtain ⟨g2,h2⟩:=replayL_later c g1 hb
  exact ⟨l,rfl,g1,g2,h2⟩
end PuSpec
