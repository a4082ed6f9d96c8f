/- Parts of the proof of the seat's statements (GrA, GrB, GrC, GrD, GrE, GrF, GrG): lemmas about the given translation and plain laws. No condition of their own. -/
import Derived.Test.YtlmhhgemiknhdaaGreatDoorKnc
set_option linter.all false
set_option maxRecDepth 100000
namespace Go.Proofs
open Go Go.Sh Go.RowKit FdSpec TkSpec CodeSpec PrSpec
theorem pow2_lt {n m:Nat} (h:n ≤ m):(2:Int) ^ n ≤ 2 ^ m:=by exact_mod_cast Nat.pow_le_pow_right (by decide) h
theorem oM_shl_i (P:Program) (t t' T:TypeId) (y:Int) (h0:0 ≤ y) (h1:y ≤ 62):oM P (.binOp .shl t (.tmp 0) (.tmp 1) t') T [.int .i64 1,.int .i64 y] = pureM (.int .i64 (2 ^ y.toNat)):=by
 funext K w
 have hp:(2:Int) ^ y.toNat ≤ 2 ^ 62:=pow2_lt (by omega)
 have hp0:(0:Int) < 2 ^ y.toNat:=Int.pow_pos (by decide)
 have e:IntKind.i64.wrap (2 ^ y.toNat) = 2 ^ y.toNat:=wrapI64 _ (by omega) (by simp at hp; omega)
 simp [oM,opM,xop,execOp,evalL,evE,binOp,Op.shift,h0,e]
 rfl
theorem oM_shr_i (P:Program) (t t' T:TypeId) (x y:Int) (h0:0 ≤ y) (h1:y ≤ 62):oM P (.binOp .shr t (.tmp 0) (.tmp 1) t') T [.int .i64 x,.int .i64 y] = pureM (.int .i64 (x / 2 ^ y.toNat)):=by
 funext K w
 simp [oM,opM,xop,execOp,evalL,evE,binOp]
 rfl
theorem oM_and1_i (P:Program) (t t' T:TypeId) (x:Int) (h0:0 ≤ x) (h1:x < 9223372036854775808):oM P (.binOp .and t (.tmp 0) (.tmp 1) t') T [.int .i64 x,.int .i64 1] = pureM (.int .i64 (x % 2)):=by
 funext K w
 have e:bits BinOp.and IntKind.i64 x 1 = x % 2:=by
  obtain ⟨a,rfl⟩:=Int.eq_ofNat_of_zero_le h0
  have ha:a < 2 ^ 64:=by omega
  rw [show (1:Int) = ((1:Nat):Int) from rfl]
  simp only [bits]
  rw [BitVec.ofInt_natCast,BitVec.ofInt_natCast,BitVec.toNat_and]
  simp only [BitVec.toNat_ofNat]
  rw [show IntKind.i64.bits = 64 from rfl,Nat.mod_eq_of_lt ha,Nat.mod_eq_of_lt (by decide:1 < 2 ^ 64),Nat.and_one_is_mod]
  rw [wrapI64 _ (by omega) (by omega)]
  omega
 simp [oM,opM,xop,execOp,evalL,evE,binOp,go_sem,e]
theorem shlI {P:Program} {t t' T:TypeId} {n:Nat} {K:Value → World → Prop} {w:World} (h:n ≤ 62) (k:K (.int .i64 (2 ^ n)) w):oM P (.binOp .shl t (.tmp 0) (.tmp 1) t') T [.int .i64 1,.int .i64 (n:Int)] K w:=by
 rw [oM_shl_i P t t' T n (by omega) (by omega),Int.toNat_natCast]; exact k
theorem shrI {P:Program} {t t' T:TypeId} {n:Nat} {x:Int} {K:Value → World → Prop} {w:World} (h:n ≤ 62) (k:K (.int .i64 (x / 2 ^ n)) w):oM P (.binOp .shr t (.tmp 0) (.tmp 1) t') T [.int .i64 x,.int .i64 (n:Int)] K w:=by
 rw [oM_shr_i P t t' T x n (by omega) (by omega),Int.toNat_natCast]; exact k
theorem andI {P:Program} {t t' T:TypeId} {x:Int} {K:Value → World → Prop} {w:World} (h:0 ≤ x ∧ x < 9223372036854775808) (k:K (.int .i64 (x % 2)) w):oM P (.binOp .and t (.tmp 0) (.tmp 1) t') T [.int .i64 x,.int .i64 1] K w:=by
 rw [oM_and1_i P t t' T x h.1 h.2]; exact k
section
variable {α:Type} {n:Nat} {V:World → List Value → α → Prop} {w w':World} {v:Value} {l:List α}
theorem atOf_stay (h:VStay V):Stay (AtOf n V):=fun w w' b p x ⟨c,hc,h1,h2⟩ hlt hb=>⟨c,hc,fun j u hj=>(hb.cell hlt).trans (h1 j u hj),h _ _ _ _ h2 hb⟩
theorem rows_stay (h:VStay V):VStay (VOne fun w v (l:List α)=>SRow n (AtOf n V) w v l):=fun w w' c x ⟨v,hc,hr⟩ hb=>⟨v,hc,hr.next (atOf_stay h) hb⟩
theorem ints_stay:VStay (VOne Ints):=fun w w' c x ⟨v,hc,hr⟩ hb=>⟨v,hc,hr.next hb⟩
theorem SRow.nil:SRow n (AtOf n V) w (.slice none 0 0) ([]:List α):=⟨⟨none,0,rfl,.inl rfl⟩,by simp⟩
theorem _root_.Go.Sh.GRow.srow {e:TypeId} {B:Nat} {D:Nat → Prop} (hn:0 < n) (h:GRow n e V B D w v l) (hl:l.length ≤ 9223372036854775807):SRow n (AtOf n V) w v l:=by
 obtain ⟨cs,ho,hf⟩:=h.ex
 obtain ⟨hc1,hc2⟩:=hf.here
 obtain ⟨ad,c,rfl⟩:=owns_len ho
 refine ⟨⟨ad,c,rfl,?_⟩,hl⟩
 by_cases h0:l = []
 ·exact .inl h0
 right
 obtain ⟨g,cap,cur,hv,hlt,_,_,_,_,hcell⟩:=owns_cells ho (List.length_pos_iff.2 h0)
 cases hv
 refine ⟨g,0,rfl,hlt,fun i hi=>?_⟩
 have hci:cs[i]? = some cs[i]:=List.getElem?_eq_getElem (by omega)
 refine ⟨cs[i].1,cs[i].2,fun j u hj=>?_,hc2 i _ _ hci (List.getElem?_eq_getElem hi)⟩
 rw [Nat.zero_add]
 refine hcell _ _ ?_
 have hj':j < n:=by have:=(List.getElem?_eq_some_iff.1 hj).1; rw [cs[i].2] at this; exact this
 rw [flat_at (mk:=Cl.cs) (sz:=n) (fun c=>c.2) cs i j hci hj']
 exact hj
theorem _root_.Go.Sh.GRow.fp {e:TypeId} {B:Nat} {D:Nat → Prop} (hn:0 < n) (h:GRow n e V B D w v l) (hl:l.length ≤ 9223372036854775807):FP (fun i=>D i ∨ v.ownBlock = some i) w (fun w=>SRow n (AtOf n V) w v l):=by
 obtain ⟨cs,ho,hf⟩:=h.ex
 intro w' a b c d e'
 have h2:GRow n e V B D w' v l:=⟨cs,owns_keep ho (fun i hi=>e' i (.inr hi)),fun w2 a2 b2 c2 d2 e2=>hf w2 (a2.trans a) (b2.trans b) (c2.trans c) (Nat.le_trans d d2) (fun i hi=>(e2 i hi).trans (e' i (.inl hi)))⟩
 exact h2.srow hn hl
end
end Go.Proofs
namespace Go.Proofs
open Go Go.Sh Go.RowKit FdSpec TkSpec CodeSpec PrSpec
section
variable {K:Value → World → Prop} {w w0:World} {L:List (Addr × Value)}
theorem shl1 {i:Nat} (h:i ≤ 62):IntKind.i64.wrap (1 * 2 ^ min i IntKind.i64.bits) = 2 ^ i:=by
 have hp:(2:Int) ^ i ≤ 2 ^ 62:=pow2_lt h
 have hp0:(0:Int) < 2 ^ i:=Int.pow_pos (by decide)
 have e:min i IntKind.i64.bits = i:=Nat.min_eq_left (by show i ≤ 64; omega)
 rw [e,Int.one_mul,wrapI64 _ (by omega) (by simp at hp; omega)]
theorem Over_ok (g:Grp) (a b:Int) (k:∀ w',Below w.heap.size w w' → K (.int .i64 (overG g a b)) w'):callM Tryz.prog 121 #[grpV g,.int .i64 a,.int .i64 b] K w:=by
 apply sh_121_ok
 unfold sh_121
 refine box_kn (cs:=[.int .i64 g.P,.int .i64 g.Q,.int .i64 g.G]) rfl (.start w) fun b1 W hk hb1 hbb=>?_
 refine ⟨Kn w (cellsOf [] b1 0 [.int .i64 g.P,.int .i64 g.Q,.int .i64 g.G]),hk.drew,?_⟩
 repeat (any_goals ((with_reducible refine idOQ ?_); (with_reducible refine oQ_of ⟨_,rfl⟩ (fun W0 hW0=>by (refine oM_gen (fun Kv hK=>?_)); simp [go_sem,hW0.cells]; (first | exact hK _ _ ⟨rfl,rfl⟩ | exact ⟨by omega,hK _ _ ⟨rfl,rfl⟩⟩)) ?_)))
 refine callQ_of (fun W hW=>Pow_ok g.P b (-1) (by omega) (fun w' hb=>⟨rfl,hW.next hb⟩)) ?_
 refine callQ_of (fun W hW=>Times_ok g a _ (fun w' hb=>⟨rfl,hW.next hb⟩)) ?_
 intro W hW
 exact k _ hW.below
theorem overG_I64 (g:Grp) (a b:Int):I64 (overG g a b):=by
 unfold overG timesG
 split
 ·exact mulM_I64 _ _ _
 ·exact I64_0
theorem Commit_ok (s:Stp) (v r:Int) {sv:Value} (hs:SetR w s sv) (hv:I64 v) (hr:I64 r) (k:∀ w',Below w.heap.size w w' → K (.int .i64 (commitM s v r)) w'):callM Tryz.prog 44 #[stpV s sv,.int .i64 v,.int .i64 r] K w:=by
 apply sh_44_ok
 unfold sh_44
 have hs':=hs
 obtain ⟨ad,c,rfl⟩:=hs.ints.isSlice
 refine box_kn (cs:=stpC s (.slice ad s.bases.length c)) rfl (.start w) fun b1 W hk hb1 hbb=>?_
 clear hb1 hbb
 repeat (any_goals ((with_reducible refine oM_gen fun Kv hK=>?_); simp [go_sem,hk.cells]; refine hK _ _ ?_; clear hK Kv))
 refine ValidSetup_ok s (hs'.next hk.below) (fun w2 h2=>?_)
 have hk:=hk.next h2
 unfold commitM at k
 cases hvs:validS s with
 | false=>
  rw [hvs] at k
  repeat (any_goals (first
  | (with_reducible refine yL ?_)
  | ((with_reducible refine oM_gen fun Kv hK=>?_); simp [go_sem]; refine hK _ _ ?_; clear hK Kv)))
  exact k _ hk.below
 | true=>
 rw [hvs,if_pos rfl] at k
 iterate 9 (any_goals (first
 | (with_reducible refine yM ?_)
 | ((with_reducible refine oM_gen fun Kv hK=>?_); simp [go_sem,hk.cells]; refine hK _ _ ?_; clear hK Kv)))
 refine mk2 _ _ hs'.grp.2.2 hs'.blind (fun u1 w3 h3 hi1=>?_)
 have hk:=hk.next h3
 refine mk2 _ _ hv hr (fun u2 w4 h4 hi2=>?_)
 have hk:=hk.next h4
 refine Product_ok s.g (hi1.next h4) hi2 (fun w5 h5=>?_)
 have hk:=hk.next h5
 repeat (any_goals ((with_reducible refine oM_gen fun Kv hK=>?_); simp [go_sem]; refine hK _ _ ?_; clear hK Kv))
 exact k _ hk.below
def RsJ (s:Stp) (q:Int) (l:List Int) (R:Int) (w0:World) (L:List (Addr × Value)) (vs:List Value) (w':World):Prop:=Kn w0 L w' ∧ ∃ (u1 u2:Value) (o:Int) (i:Nat),vs = [u1,u2,.int .i64 o,.int .i64 (i:Int)] ∧ i ≤ l.length ∧ restL q i o (l.drop i) = R
theorem Rest_ok (s:Stp) (r:Int) (l:List Int) {sv lv:Value} (hs:SetR w s sv) (hl:Ints w lv l) (k:∀ w',Below w.heap.size w w' → K (.int .i64 (restM s r l)) w'):callM Tryz.prog 71 #[stpV s sv,.int .i64 r,lv] K w:=by
 apply sh_71_ok
 unfold sh_71
 have hs':=hs
 obtain ⟨ad,c,rfl⟩:=hs.ints.isSlice
 have hl':=hl
 obtain ⟨lad,lc,rfl⟩:=hl.isSlice
 refine box_kn (cs:=stpC s (.slice ad s.bases.length c)) rfl (.start w) fun b1 W hk hb1 hbb=>?_
 clear hb1 hbb
 repeat (any_goals ((with_reducible refine oM_gen fun Kv hK=>?_); simp [go_sem,hk.cells]; refine hK _ _ ?_; clear hK Kv))
 refine ValidSetup_ok s (hs'.next hk.below) (fun w2 h2=>?_)
 have hk:=hk.next h2
 unfold restM at k
 cases hvs:validS s with
 | false=>
  rw [hvs,Bool.false_and] at k
  repeat (any_goals (first
  | (with_reducible first|refine zD ?_|refine yB ?_|refine yL ?_)
  | ((with_reducible refine oM_gen fun Kv hK=>?_); simp [go_sem]; refine hK _ _ ?_; clear hK Kv)))
  exact k _ hk.below
 | true=>
 rw [hvs,Bool.true_and] at k
 by_cases h6:(60:Int) < l.length
 ·rw [decide_eq_false (by omega)] at k
  repeat (any_goals (first
  | (with_reducible first|refine pureM_in ?_|refine zC ?_|refine yC ?_|refine yL ?_)
  | ((with_reducible refine oM_gen fun Kv hK=>?_); simp [go_sem,h6]; refine hK _ _ ?_; clear hK Kv)))
  exact k _ hk.below
 rw [decide_eq_true (by omega),if_pos rfl] at k
 repeat (any_goals (first
 | (with_reducible first|refine pureM_in ?_|refine zC ?_|refine yC ?_|refine yM ?_)
 | ((with_reducible refine oM_gen fun Kv hK=>?_); simp [go_sem,hk.cells,h6]; refine hK _ _ ?_; clear hK Kv)))
 refine Add_ok _ _ _ ?_
 repeat (any_goals ((with_reducible refine oM_gen fun Kv hK=>?_); simp [go_sem]; refine hK _ _ ?_; clear hK Kv))
 refine ⟨RsJ s s.g.Q l (restL s.g.Q 0 (addM s.g.Q r 0) l) w _,(fun vs _=>match vs with | [_,_,_,.int _ i]=>l.length - i.toNat | _=>0),⟨hk,_,_,_,0,rfl,by omega,rfl⟩,?_⟩
 generalize restL s.g.Q 0 (addM s.g.Q r 0) l = R at *
 rintro _ _ w3 ⟨hk,u1,u2,o,i,rfl,hi,ha⟩
 by_cases hin:i = l.length
 ·rw [List.drop_of_length_le (by omega)] at ha
  repeat (any_goals (first
  | (with_reducible refine yO ?_)
  | ((with_reducible refine oM_gen fun Kv hK=>?_); simp [go_sem]; refine hK _ _ ?_; clear hK Kv)))
  have e:o = R:=ha
  rw [e]
  exact k _ hk.below
 rw [List.drop_eq_getElem_cons (by omega)] at ha
 obtain ⟨b8,o8,rfl,hb8',ca,ra,_⟩:=hl'.at (i:=i) (by omega)
 repeat (any_goals (first
 | (with_reducible refine yN ?_)
 | ((with_reducible refine oM_gen fun Kv hK=>?_); simp [go_sem,ca _ hk.below]; (first|refine hK _ _ ?_|refine And.intro (by omega) (hK _ _ ?_)); clear hK Kv)))
 refine Mul_ok _ _ _ (fun w4 h4=>?_)
 have hk:=hk.next h4
 refine Sub_ok _ _ _ ?_
 repeat (any_goals ((with_reducible refine oM_gen fun Kv hK=>?_); simp [go_sem]; (try simp (disch:=omega) only [wrapI64,wrapU8,wrapU32,wrapU64]); refine hK _ _ ?_; clear hK Kv))
 refine ⟨⟨hk,_,_,_,i + 1,rfl,by omega,?_⟩,by show l.length - (((i + 1:Nat):Int)).toNat < l.length - ((i:Nat):Int).toNat; omega⟩
 rw [← ha,shl1 (by omega)]
 rfl
def WgJ (g:Grp) (l:List Int) (R:Bool) (w0:World) (vs:List Value) (w':World):Prop:=Below w0.heap.size w0 w' ∧ ∃ (u1 u2 u3 u4 ev:Value) (i:Nat),vs = [u1,u2,u3,u4,ev,.int .i64 (i:Int)] ∧ i ≤ l.length ∧ OwnI w' w0.heap.size ev ((pows l.length).take i) ∧ (l.drop i).all (elemG g) = R
theorem pows_len (n:Nat):(pows n).length = n:=by simp [pows]
theorem pows_at {n i:Nat} (h:i < n):(pows n)[i]? = some (2 ^ i):=by simp [pows,h]
theorem pows_I64 {n:Nat} (h:n ≤ 60):∀ x ∈ pows n,I64 x:=by
 intro x hx
 simp only [pows,List.mem_map,List.mem_range] at hx
 obtain ⟨k,hk,rfl⟩:=hx
 have hp:(2:Int) ^ k ≤ 2 ^ 62:=pow2_lt (by omega)
 have hp0:(0:Int) < 2 ^ k:=Int.pow_pos (by decide)
 simp at hp
 unfold I64
 omega
theorem Weigh_ok (s:Stp) (l:List Int) {sv lv:Value} (hs:SetR w s sv) (hl:Ints w lv l) (k:∀ w',Below w.heap.size w w' → K (.tuple #[.int .i64 (weighM s l).1,.bool (weighM s l).2]) w'):callM Tryz.prog 74 #[stpV s sv,lv] K w:=by
 apply sh_74_ok
 unfold sh_74
 have hs':=hs
 obtain ⟨ad,c,rfl⟩:=hs.ints.isSlice
 have hl':=hl
 obtain ⟨lad,lc,rfl⟩:=hl.isSlice
 refine box_kn (cs:=stpC s (.slice ad s.bases.length c)) rfl (.start w) fun b1 W hk hb1 hbb=>?_
 clear hb1 hbb
 repeat (any_goals ((with_reducible refine oM_gen fun Kv hK=>?_); simp [go_sem,hk.cells]; refine hK _ _ ?_; clear hK Kv))
 refine ValidSetup_ok s (hs'.next hk.below) (fun w2 h2=>?_)
 have hk:=hk.next h2
 unfold weighM at k
 cases hvs:validS s with
 | false=>
  rw [hvs,Bool.false_and,Bool.false_and,Bool.false_and] at k
  repeat (any_goals (first
  | (with_reducible first|refine zD ?_|refine yB ?_|refine yL ?_)
  | ((with_reducible refine oM_gen fun Kv hK=>?_); simp [go_sem]; refine hK _ _ ?_; clear hK Kv)))
  exact k _ hk.below
 | true=>
 rw [hvs,Bool.true_and] at k
 by_cases h1:(l.length:Int) < 1
 ·rw [decide_eq_false (by omega),Bool.false_and,Bool.false_and] at k
  repeat (any_goals (first
  | (with_reducible first|refine pureM_in ?_|((refine idGd ?_); first|refine zC ?_|refine zD ?_)|((refine idPick ?_); first|refine yB ?_|refine yC ?_)|refine yL ?_)
  | ((with_reducible refine oM_gen fun Kv hK=>?_); simp [go_sem,h1]; refine hK _ _ ?_; clear hK Kv)))
  exact k _ hk.below
 rw [decide_eq_true (by omega),Bool.true_and] at k
 by_cases h6:(60:Int) < l.length
 ·rw [decide_eq_false (by omega),Bool.false_and] at k
  repeat (any_goals (first
  | (with_reducible first|refine pureM_in ?_|refine zC ?_|refine yC ?_|refine yL ?_)
  | ((with_reducible refine oM_gen fun Kv hK=>?_); simp [go_sem,h1,h6]; refine hK _ _ ?_; clear hK Kv)))
  exact k _ hk.below
 rw [decide_eq_true (by omega),Bool.true_and] at k
 repeat (any_goals (first
 | (with_reducible first|refine pureM_in ?_|refine zC ?_|refine yC ?_|refine yM ?_)
 | ((with_reducible refine oM_gen fun Kv hK=>?_); simp [go_sem,hk.cells,h1,h6]; refine hK _ _ ?_; clear hK Kv)))
 have hel:∀ i (h:i < l.length),l[i]? = some l[i]:=fun i h=>List.getElem?_eq_getElem h
 refine ⟨WgJ s.g l (l.all (elemG s.g)) w2,(fun vs _=>match vs with | [_,_,_,_,_,.int _ i]=>l.length - i.toNat | _=>0),⟨Below.refl _ _,_,_,_,_,_,0,rfl,by omega,own_none,rfl⟩,?_⟩
 generalize hR:l.all (elemG s.g) = R at *
 rintro _ _ w3 ⟨hb3,u1,u2,u3,u4,ev,i,rfl,hi,hoe,ha⟩
 have hk3:=hk.next hb3
 by_cases hin:i = l.length
 ·rw [List.drop_of_length_le (by omega),List.all_nil] at ha
  rw [List.take_of_length_le (by rw [pows_len]; omega)] at hoe
  rw [← ha,if_pos rfl] at k
  have hoi:=hoe.ints (pows_I64 (by omega)) (by rw [pows_len]; omega)
  repeat (any_goals (first
  | (with_reducible refine yO ?_)
  | ((with_reducible refine oM_gen fun Kv hK=>?_); simp [go_sem,hk3.cells]; refine hK _ _ ?_; clear hK Kv)))
  refine Product_ok s.g (hl'.next hk3.below) hoi (fun w5 h5=>?_)
  have hk:=hk3.next h5
  repeat (any_goals ((with_reducible refine oM_gen fun Kv hK=>?_); simp [go_sem]; refine hK _ _ ?_; clear hK Kv))
  exact k _ hk.below
 rw [List.drop_eq_getElem_cons (by omega),List.all_cons] at ha
 obtain ⟨b8,o8,rfl,hb8',ca,ra,_⟩:=hl'.at (i:=i) (by omega)
 repeat (any_goals (first
 | (with_reducible refine yN ?_)
 | ((with_reducible refine oM_gen fun Kv hK=>?_); simp [go_sem,ca _ hk3.below,hk3.cells]; (first|refine hK _ _ ?_|refine And.intro (by omega) (hK _ _ ?_)); clear hK Kv)))
 refine Element_ok s.g _ hs'.grp (hs'.db.next hk3.below) (fun w4 h4=>?_)
 have hk':=hk3.next h4
 cases hel:elemG s.g l[i] with
 | false=>
  rw [hel,Bool.false_and] at ha
  rw [← ha] at k
  repeat (any_goals (first
  | (with_reducible refine yL ?_)
  | ((with_reducible refine oM_gen fun Kv hK=>?_); simp [go_sem]; refine hK _ _ ?_; clear hK Kv)))
  exact k _ hk'.below
 | true=>
 rw [hel,Bool.true_and] at ha
 have hx:I64 (2 ^ i):=pows_I64 (n:=l.length) (by omega) _ (List.mem_of_getElem? (pows_at (by omega)))
 iterate 3 (any_goals (first
 | (with_reducible refine yM ?_)
 | ((with_reducible refine oM_gen fun Kv hK=>?_); simp [go_sem]; refine hK _ _ ?_; clear hK Kv)))
 rw [shl1 (by omega)]
 refine mk1 _ hx (fun v5 w5 h5 hi5=>?_)
 have hoe:=(hoe.keep h4).keep h5
 have hb5:=(hb3.on h4).on h5
 refine append1g hoe hb5.size hi5 (by rw [List.length_take]; omega) (fun v6 w6 ho6 hg6 hv6=>?_)
 rw [Int.toNat_natCast,take_snoc' (pows_at (by omega))] at ho6
 repeat (any_goals ((with_reducible refine oM_gen fun Kv hK=>?_); simp [go_sem]; (try simp (disch:=omega) only [wrapI64,wrapU8,wrapU32,wrapU64]); refine hK _ _ ?_; clear hK Kv))
 exact ⟨⟨hb5.grown hg6 hb5.size (fun j hj=>(owns_own hoe hj).2.1),_,_,_,_,_,i + 1,rfl,by omega,ho6,ha⟩,by show l.length - (((i + 1:Nat):Int)).toNat < l.length - ((i:Nat):Int).toNat; omega⟩
end
end Go.Proofs
namespace Go.Proofs
open Go Go.Sh Go.RowKit FdSpec TkSpec CodeSpec PrSpec
section
variable {K:Value → World → Prop} {w w' w0 W:World} {L:List (Addr × Value)}
section
variable {α:Type} {n:Nat} {V:World → List Value → α → Prop}
theorem srow_lit1 {g c:Nat} {T:TypeId} {x:α} {xs:List Value} (h:Holds w g T xs) (hl:xs.length = n) (hV:V w xs x):SRow n (AtOf n V) w (.slice (some ⟨g,0,none⟩) 1 c) [x]:=by
 refine ⟨⟨_,c,rfl,.inr ⟨g,0,rfl,h.lt,fun i hi=>?_⟩⟩,by simp⟩
 obtain rfl:i = 0:=by simpa using hi
 refine ⟨xs,hl,fun j u hj=>?_,hV⟩
 rw [Nat.zero_mul,Nat.zero_add,cell_of_block h]
 simpa using hj
theorem srow_lit2 {g c:Nat} {T:TypeId} {x y:α} {xs ys:List Value} (h:Holds w g T (xs ++ ys)) (hl:xs.length = n) (hl2:ys.length = n) (hV:V w xs x) (hV2:V w ys y):SRow n (AtOf n V) w (.slice (some ⟨g,0,none⟩) 2 c) [x,y]:=by
 refine ⟨⟨_,c,rfl,.inr ⟨g,0,rfl,h.lt,fun i hi=>?_⟩⟩,by simp⟩
 match i,hi with
 | 0,_=>
  refine ⟨xs,hl,fun j u hj=>?_,hV⟩
  rw [Nat.zero_mul,Nat.zero_add,cell_of_block h]
  simp only [List.getElem?_toArray,Nat.zero_add]
  rw [List.getElem?_append_left (List.getElem?_eq_some_iff.1 hj).1]
  exact hj
 | 1,_=>
  refine ⟨ys,hl2,fun j u hj=>?_,hV2⟩
  rw [Nat.one_mul,cell_of_block h]
  simp only [List.getElem?_toArray,Nat.zero_add]
  rw [List.getElem?_append_right (by omega)]
  rw [show n + j - xs.length = j by omega]
  exact hj
 | i + 2,h=>exact absurd h (by simp)
end
def VClm (w:World) (c:List Value) (x:Clm):Prop:=∃ v,c = clmC x v ∧ ClmR w x v
@[reducible] def clsC (c:Cls) (v:Value):List Value:=[.int .i64 c.need,v]
@[reducible] def clsV (c:Cls) (v:Value):Value:=.agg #[.int .i64 c.need,v]
def ClsR (w:World) (c:Cls) (v:Value):Prop:=I64 c.need ∧ SRow 2 (AtOf 2 VClm) w v c.claims
def VCls (w:World) (c:List Value) (x:Cls):Prop:=∃ v,c = clsC x v ∧ ClsR w x v
abbrev GoalR (w:World) (v:Value) (l:List Cls):Prop:=SRow 2 (AtOf 2 VCls) w v l
@[reducible] def knwC (k:Knw) (v:Value):List Value:=[.bool k.has,v]
@[reducible] def knwV (k:Knw) (v:Value):Value:=.agg #[.bool k.has,v]
def VKnw (w:World) (c:List Value) (x:Knw):Prop:=∃ v,c = knwC x v ∧ Ints w v x.values
abbrev KnwsR (w:World) (v:Value) (l:List Knw):Prop:=SRow 2 (AtOf 2 VKnw) w v l
abbrev KnowR (w:World) (v:Value) (l:List (List Knw)):Prop:=SRow 1 (AtOf 1 (VOne KnwsR)) w v l
abbrev ListsR (w:World) (v:Value) (l:List (List Int)):Prop:=SRow 1 (AtOf 1 (VOne Ints)) w v l
abbrev NumsR (w:World) (v:Value) (l:List (List (List Int))):Prop:=SRow 1 (AtOf 1 (VOne ListsR)) w v l
theorem clm_vstay:VStay VClm:=fun w w' c x ⟨v,hc,h⟩ hb=>⟨v,hc,h.next hb⟩
theorem cls_vstay:VStay VCls:=fun w w' c x ⟨v,hc,h1,h2⟩ hb=>⟨v,hc,h1,h2.next (atOf_stay clm_vstay) hb⟩
theorem knw_vstay:VStay VKnw:=fun w w' c x ⟨v,hc,h1⟩ hb=>⟨v,hc,h1.next hb⟩
theorem knws_vstay:VStay (VOne KnwsR):=rows_stay knw_vstay
theorem lists_vstay:VStay (VOne ListsR):=rows_stay ints_stay
section
theorem lit_trm {T:TypeId} (a b:Int) (k:∀ g W,Below w.heap.size w W → w.heap.size ≤ g → Holds W g 146 [.int .i64 a,.int .i64 b] → K (.slice (some ⟨g,0,none⟩) 1 1) W):oM Tryz.prog (.buildSlice 142 1 #[(0,.tmp 0)]) T [.agg #[.int .i64 a,.int .i64 b]] K w:=by
 rw [oM_buildSlice1]; exact lit_run (by kernel_rfl) k
theorem lit_eqn {T:TypeId} (a:Int) (ad:Option Addr) (n c:Nat) (k:∀ g W,Below w.heap.size w W → w.heap.size ≤ g → Holds W g 144 [.int .i64 a,.slice ad n c] → K (.slice (some ⟨g,0,none⟩) 1 1) W):oM Tryz.prog (.buildSlice 67 1 #[(0,.tmp 0)]) T [.agg #[.int .i64 a,.slice ad n c]] K w:=by
 rw [oM_buildSlice1]; exact lit_run (by kernel_rfl) k
theorem lit_clm {T:TypeId} (a:Int) (ad:Option Addr) (n c:Nat) (k:∀ g W,Below w.heap.size w W → w.heap.size ≤ g → Holds W g 69 [.int .i64 a,.slice ad n c] → K (.slice (some ⟨g,0,none⟩) 1 1) W):oM Tryz.prog (.buildSlice 63 1 #[(0,.tmp 0)]) T [.agg #[.int .i64 a,.slice ad n c]] K w:=by
 rw [oM_buildSlice1]; exact lit_run (by kernel_rfl) k
theorem lit_clm2 {T:TypeId} (a a2:Int) (ad ad2:Option Addr) (n c n2 c2:Nat) (k:∀ g W,Below w.heap.size w W → w.heap.size ≤ g → Holds W g 69 ([.int .i64 a,.slice ad n c] ++ [.int .i64 a2,.slice ad2 n2 c2]) → K (.slice (some ⟨g,0,none⟩) 2 2) W):oM Tryz.prog (.buildSlice 63 2 #[(0,.tmp 0),(1,.tmp 1)]) T [.agg #[.int .i64 a,.slice ad n c],.agg #[.int .i64 a2,.slice ad2 n2 c2]] K w:=by
 rw [oM_buildSlice2]; exact lit_run (by kernel_rfl) k
theorem lit_cls {T:TypeId} (a:Int) (ad:Option Addr) (n c:Nat) (k:∀ g W,Below w.heap.size w W → w.heap.size ≤ g → Holds W g 65 [.int .i64 a,.slice ad n c] → K (.slice (some ⟨g,0,none⟩) 1 1) W):oM Tryz.prog (.buildSlice 27 1 #[(0,.tmp 0)]) T [.agg #[.int .i64 a,.slice ad n c]] K w:=by
 rw [oM_buildSlice1]; exact lit_run (by kernel_rfl) k
theorem lit_knws {T:TypeId} (ad:Option Addr) (n c:Nat) (k:∀ g W,Below w.heap.size w W → w.heap.size ≤ g → Holds W g 114 [.slice ad n c] → K (.slice (some ⟨g,0,none⟩) 1 1) W):oM Tryz.prog (.buildSlice 28 1 #[(0,.tmp 0)]) T [.slice ad n c] K w:=by
 rw [oM_buildSlice1]; exact lit_run (by kernel_rfl) k
end
theorem sz_clm (w:World):(sizeOf 69).run Tryz.prog w = .ok 2 w:=by kernel_rfl
theorem al_clm (w:World):(Instr.alloc 69 true (.tuple #[])).run Tryz.prog w = .ok (.pointer (some ⟨w.heap.size,0,none⟩)) (w.alloc (.cells [.int .i64 0,.slice none 0 0].toArray 69)):=by kernel_rfl
theorem clm_one (a:Int) (ad:Option Addr) (n c:Nat):∀ u ∈ ([.int .i64 a,.slice ad n c]:List Value),u.oneCell' = true:=by
 intro u hu
 simp only [List.mem_cons,List.not_mem_nil,or_false] at hu
 rcases hu with rfl | rfl <;> rfl
theorem un_clm:Tryz.prog.underlying 69 = some ((Tryz.prog.underlying 69).getD default):=by kernel_rfl
theorem blind_clm {s:Stp} {t:Int} {g1 g2 c1 c2:Nat} {T1 T2:TypeId} (ht:I64 t) (hb:I64 s.blind) (h1:Holds w g1 T1 [.int .i64 0,.int .i64 s.blind]) (h2:Holds w g2 T2 [.int .i64 t,.slice (some ⟨g1,0,none⟩) 1 c1]):ClmR w (blindedM s t) (.slice (some ⟨g2,0,none⟩) 1 c2):=by
 refine ⟨by show I64 1; unfold I64; decide,⟨⟨_,c2,rfl,.inr ⟨g2,0,rfl,h2.lt,fun i hi=>?_⟩⟩,by simp [blindedM]⟩⟩
 obtain rfl:i = 0:=by simpa [blindedM] using hi
 refine ⟨_,?_,?_,⟨⟨_,c1,rfl,.inr ⟨g1,0,rfl,h1.lt,fun i hi=>?_⟩⟩,by simp [blindedM]⟩,ht⟩
 ·rw [cell_of_block h2]; simp [blindedM]
 ·rw [cell_of_block h2]; simp [blindedM]
 ·obtain rfl:i = 0:=by simpa [blindedM] using hi
  refine ⟨?_,?_,?_,hb⟩
  ·rw [cell_of_block h1]; simp [blindedM]
  ·rw [cell_of_block h1]; simp [blindedM]
  ·simp [blindedM,I64]
def ClmF (W w:World) (x:Clm) (v:Value):Prop:=∃ ad c,v = clmV x (.slice ad x.eqs.length c) ∧ Fresh W w (fun w=>ClmR w x (.slice ad x.eqs.length c))
theorem blinded_ok (s:Stp) (t:Int) {sv:Value} (hs:SetR w s sv) (ht:I64 t) (k:∀ w' v,Below w.heap.size w w' → ClmF w w' (blindedM s t) v → K v w'):callM Tryz.prog 120 #[stpV s sv,.int .i64 t] K w:=by
 apply sh_120_ok
 unfold sh_120
 have hs':=hs
 obtain ⟨ad,c,rfl⟩:=hs.ints.isSlice
 refine box_kn (cs:=stpC s (.slice ad s.bases.length c)) rfl (.start w) fun b1 W hk hb1 hbb=>?_
 refine arr_alloc al_clm (fun g2 w2 h2 hg2 hh=>?_)
 have hk:=hk.next h2
 have hglt:=hh.lt
 have hW:=hb1.size
 have h2s:=h2.size
 iterate 3 (any_goals ((with_reducible refine oM_gen fun Kv hK=>?_); simp [go_sem,hk.cells]; refine hK _ _ ?_; clear hK Kv))
 refine lit_trm _ _ (fun g3 w3 h3 hg3 hh3=>?_)
 iterate 1 (any_goals ((with_reducible refine oM_gen fun Kv hK=>?_); simp [go_sem]; refine hK _ _ ?_; clear hK Kv))
 refine lit_eqn _ _ _ _ (fun g4 w4 h4 hg4 hh4=>?_)
 iterate 1 (any_goals ((with_reducible refine oM_gen fun Kv hK=>?_); simp [go_sem]; refine hK _ _ ?_; clear hK Kv))
 have hh3:=hh3.next h4
 have hh:=(hh.next h3).next h4
 refine arr_store sz_clm (xs:=[.int .i64 1,.slice (some ⟨g4,0,none⟩) 1 1]) rfl rfl (clm_one 1 _ 1 1) hh rfl (fun w5 hg5 hh5=>?_)
 have hh3:=hh3.other hg5 (by omega)
 have hh4:=hh4.other hg5 (by have:=h3.size; omega)
 have hb:=(hk.next h3).next h4 |>.below
 have hgg:w.heap.size ≤ g2:=by omega
 refine arr_ret hh5 un_clm (by kernel_rfl) (by kernel_rfl) (k _ _ (grown_below hb hg5 hgg) ⟨some ⟨g4,0,none⟩,1,rfl,?_⟩)
 have h3s:=h3.size
 refine ((hh3.fresh (W:=w) (by omega)).both (hh4.fresh (W:=w) (by omega))).imp ?_
 rintro w' ⟨e1,e2⟩
 exact blind_clm ht hs'.blind e1 e2
end
end Go.Proofs
namespace Go.Proofs
open Go Go.Sh Go.RowKit FdSpec TkSpec CodeSpec PrSpec
section
variable {K:Value → World → Prop} {w w' w0 W:World} {L:List (Addr × Value)}
def RowF {α:Type} (n:Nat) (V:World → List Value → α → Prop) (W w:World) (l:List α) (v:Value):Prop:=(∃ ad c,v = .slice ad l.length c) ∧ Fresh W w (fun w=>SRow n (AtOf n V) w v l)
def ClsF (W w:World) (x:Cls) (v:Value):Prop:=∃ ad c,v = clsV x (.slice ad x.claims.length c) ∧ Fresh W w (fun w=>ClsR w x (.slice ad x.claims.length c))
def LitF (T:TypeId) (W w:World) (x:Cls) (v:Value):Prop:=∃ g ad c,v = .slice (some ⟨g,0,none⟩) 1 1 ∧ W.heap.size ≤ g ∧ Holds w g T (clsC x (.slice ad x.claims.length c)) ∧ Fresh W w (fun w=>ClsR w x (.slice ad x.claims.length c))
theorem _root_.Go.Sh.GRow.base {α:Type} {n:Nat} {e:TypeId} {V:World → List Value → α → Prop} {B C:Nat} {D:Nat → Prop} {v:Value} {l:List α} (h:GRow n e V B D w v l) (hc:C ≤ B):GRow n e V C D w v l:=by
 obtain ⟨cs,h1,h2⟩:=h.ex
 exact ⟨cs,owns_base h1 hc,h2⟩
theorem ClmF.next {x:Clm} {v:Value} (h:ClmF W w x v) (hb:Below w.heap.size w w'):ClmF W w' x v:=by
 obtain ⟨ad,c,rfl,h⟩:=h; exact ⟨ad,c,rfl,h.next hb⟩
theorem ClmF.up {x:Clm} {v:Value} (h:ClmF W w x v) (hb:w0.heap.size ≤ W.heap.size):ClmF w0 w x v:=by
 obtain ⟨ad,c,rfl,h⟩:=h; exact ⟨ad,c,rfl,h.up hb⟩
theorem RowF.next {α:Type} {n:Nat} {V:World → List Value → α → Prop} {l:List α} {v:Value} (h:RowF n V W w l v) (hb:Below w.heap.size w w'):RowF n V W w' l v:=⟨h.1,h.2.next hb⟩
theorem ClsF.next {x:Cls} {v:Value} (h:ClsF W w x v) (hb:Below w.heap.size w w'):ClsF W w' x v:=by
 obtain ⟨ad,c,rfl,h⟩:=h; exact ⟨ad,c,rfl,h.next hb⟩
theorem LitF.next {T:TypeId} {x:Cls} {v:Value} (h:LitF T W w x v) (hb:Below w.heap.size w w'):LitF T W w' x v:=by
 obtain ⟨g,ad,c,rfl,hg,hh,h⟩:=h; exact ⟨g,ad,c,rfl,hg,hh.next hb,h.next hb⟩
theorem one_clm {w:World} {x:Clm} {v:Value} (h:ClmF W w x v) {T:TypeId}
  (k:∀ v w',Below w.heap.size w w' → RowF 2 VClm W w' [x] v → K v w') (hW:W.heap.size ≤ w.heap.size):oM Tryz.prog (.buildSlice 63 1 #[(0,.tmp 0)]) T [v] K w:=by
 obtain ⟨ad,c,rfl,h⟩:=h
 refine lit_clm _ _ _ _ (fun g w1 h1 hg hh=>k _ _ h1 ⟨⟨_,_,rfl⟩,?_⟩)
 refine ((hh.fresh (W:=W) (by omega)).both (h.next h1)).imp ?_
 rintro w2 ⟨e1,e2⟩
 exact srow_lit1 e1 rfl ⟨_,rfl,e2⟩
theorem two_clm {w:World} {x y:Clm} {v u:Value} (h:ClmF W w x v) (h2:ClmF W w y u) {T:TypeId}
  (k:∀ v w',Below w.heap.size w w' → RowF 2 VClm W w' [x,y] v → K v w') (hW:W.heap.size ≤ w.heap.size):oM Tryz.prog (.buildSlice 63 2 #[(0,.tmp 0),(1,.tmp 1)]) T [v,u] K w:=by
 obtain ⟨ad,c,rfl,h⟩:=h
 obtain ⟨ad2,c2,rfl,h2⟩:=h2
 refine lit_clm2 _ _ _ _ _ _ _ _ (fun g w1 h1 hg hh=>k _ _ h1 ⟨⟨_,_,rfl⟩,?_⟩)
 refine (((hh.fresh (W:=W) (by omega)).both (h.next h1)).both (h2.next h1)).imp ?_
 rintro w2 ⟨⟨e1,e2⟩,e3⟩
 exact srow_lit2 e1 rfl rfl ⟨_,rfl,e2⟩ ⟨_,rfl,e3⟩
theorem build_cls (T:TypeId) (ad:Option Addr) (n c:Nat):oM Tryz.prog (Go.Op.build 65 #[(0,(.tmp 0)),(1,(.tmp 1))]) T [.int .i64 1,.slice ad n c] = pureM (.agg #[.int .i64 1,.slice ad n c]):=by
 funext K w
 kernel_rfl
theorem cls_of {x:Cls} {v:Value} (hn:x.need = 1) (h:RowF 2 VClm W w x.claims v):ClsF W w x (.agg #[.int .i64 1,v]):=by
 obtain ⟨⟨ad,c,rfl⟩,h⟩:=h
 refine ⟨ad,c,by rw [← hn],(h.both (Fresh.pure (p:=I64 x.need) (by rw [hn]; unfold I64; omega))).imp ?_⟩
 rintro w ⟨a,b⟩
 exact ⟨b,a⟩
theorem lit_of {x:Cls} {v:Value} {T:TypeId} (h:ClsF W w x v) (hW:W.heap.size ≤ w.heap.size)
  (k:∀ v w',Below w.heap.size w w' → LitF 65 W w' x v → K v w'):oM Tryz.prog (.buildSlice 27 1 #[(0,.tmp 0)]) T [v] K w:=by
 obtain ⟨ad,c,rfl,h⟩:=h
 exact lit_cls _ _ _ _ (fun g w1 h1 hg hh=>k _ _ h1 ⟨g,ad,c,rfl,by omega,hh,h.next h1⟩)
theorem cls_one (a:Int) (ad:Option Addr) (n c:Nat):∀ u ∈ ([.int .i64 a,.slice ad n c]:List Value),u.oneCell' = true:=clm_one a ad n c
abbrev ClsG (B:Nat) (D:Nat → Prop) (w:World) (v:Value) (l:List Cls):Prop:=GRow 2 65 VCls B D w v l
def Off (D:Nat → Prop) (w:World) (v:Value):Prop:=∀ i,D i → i < w.heap.size ∧ v.ownBlock ≠ some i
theorem Off.next {D:Nat → Prop} {v:Value} (h:Off D w v) (hb:w.heap.size ≤ w'.heap.size):Off D w' v:=fun i hi=>⟨Nat.lt_of_lt_of_le (h i hi).1 hb,(h i hi).2⟩
theorem cls_append {B:Nat} {D:Nat → Prop} {v u:Value} {l:List Cls} {x:Cls} {T:TypeId} (h:ClsG B D w v l) (hB:B ≤ w.heap.size) (hx:LitF 65 W w x u) (hD:Off D w v) (hvW:∀ i,v.ownBlock = some i → i < W.heap.size) (hl:l.length < 1099511627776)
  (k:∀ v' w' D',ClsG B D' w' v' (l ++ [x]) → w.grownBy w' v.ownBlock → (∀ i,v'.ownBlock = some i → v.ownBlock = some i ∨ w.heap.size ≤ i) → Off D' w' v' → K v' w') :
  oM Tryz.prog (.call { callee:=.builtin .append,args:=#[.tmp 0,.tmp 1],argTypes:=#[27,27] }) T [v,u] K w:=by
 obtain ⟨g,ad,c,rfl,hg,hh,hf⟩:=hx
 refine grow_append (D:=fun i=>D i ∨ (W.heap.size ≤ i ∧ i < w.heap.size)) 27 T ((Tryz.prog.info? 65).getD default) (((Tryz.prog.info? 65).getD default).zero.getD undef) 32 (by kernel_rfl) (by kernel_rfl) (by kernel_rfl) (by kernel_rfl) (by kernel_rfl) (by kernel_rfl) (by decide) (by decide)
  (h.mono fun i hi=>.inl hi) hB (xs:=clsC x (.slice ad x.claims.length c)) rfl ?_ (cls_one _ _ _ _) ((hf.imp fun w h=>⟨_,rfl,h⟩).mono fun i hi=>.inr hi) ?_ hl ?_
 ·intro j u hj
  rw [cell_of_block hh]
  simpa using hj
 ·rintro i (hi | hi)
  ·exact hD i hi
  ·exact ⟨hi.2,fun e=>by have:=hvW i e; omega⟩
 ·intro v' w' h1 h2 h3 h4
  exact k v' w' _ h1 h2 h3 h4
def BtJ (s:Stp) (l:List Int) (w0:World) (vs:List Value) (w':World):Prop:=Below w0.heap.size w0 w' ∧ ∃ (u1 rv:Value) (i:Nat) (D:Nat → Prop),vs = [u1,rv,.int .i64 (i:Int)] ∧ i ≤ l.length ∧ ClsG w0.heap.size D w' rv ((l.map (bitC s)).take i) ∧ Off D w' rv
theorem Bits_ok (s:Stp) (l:List Int) {sv lv:Value} (hs:SetR w s sv) (hl:Ints w lv l) (k:∀ w' v D,Below w.heap.size w w' → ClsG w.heap.size D w' v (bitsM s l) → Off D w' v → K v w'):callM Tryz.prog 68 #[stpV s sv,lv] K w:=by
 apply sh_68_ok
 unfold sh_68
 have hs':=hs
 obtain ⟨ad,c,rfl⟩:=hs.ints.isSlice
 have hl':=hl
 obtain ⟨lad,lc,rfl⟩:=hl.isSlice
 refine box_kn (cs:=stpC s (.slice ad s.bases.length c)) rfl (.start w) fun b1 W hk hb1 hbb=>?_
 clear hb1 hbb
 repeat (any_goals ((with_reducible refine oM_gen fun Kv hK=>?_); simp [go_sem,hk.cells]; refine hK _ _ ?_; clear hK Kv))
 refine Weigh_ok s l (hs'.next hk.below) (hl'.next hk.below) (fun w2 h2=>?_)
 have hk:=hk.next h2
 unfold bitsM at k
 cases hw:(weighM s l).2 with
 | false=>
  rw [hw] at k
  repeat (any_goals (first
  | (with_reducible refine yL ?_)
  | ((with_reducible refine oM_gen fun Kv hK=>?_); simp [go_sem]; refine hK _ _ ?_; clear hK Kv)))
  exact k _ _ (fun _=>False) hk.below .nil (fun i h=>h.elim)
 | true=>
 rw [hw,if_pos rfl] at k
 have h60:l.length ≤ 60:=by
  unfold weighM at hw
  split at hw
  ·rename_i h
   simp only [Bool.and_eq_true,decide_eq_true_eq] at h
   exact h.1.2
  ·cases hw
 repeat (any_goals (first
 | (with_reducible refine yM ?_)
 | ((with_reducible refine oM_gen fun Kv hK=>?_); simp [go_sem,hk.cells]; refine hK _ _ ?_; clear hK Kv)))
 refine ⟨BtJ s l w2,(fun vs _=>match vs with | [_,_,.int _ i]=>l.length - i.toNat | _=>0),⟨Below.refl _ _,_,_,0,fun _=>False,rfl,by omega,.nil,fun i h=>h.elim⟩,?_⟩
 rintro _ _ w3 ⟨hb3,u1,rv,i,D,rfl,hi,hg,hD⟩
 have hk3:=hk.next hb3
 by_cases hin:i = l.length
 ·rw [List.take_of_length_le (by rw [List.length_map]; omega)] at hg
  repeat (any_goals (first
  | (with_reducible refine yO ?_)
  | ((with_reducible refine oM_gen fun Kv hK=>?_); simp [go_sem]; refine hK _ _ ?_; clear hK Kv)))
  exact k _ _ D hk3.below (hg.base hk.below.size) hD
 obtain ⟨b8,o8,rfl,hb8',ca,ra,_⟩:=hl'.at (i:=i) (by omega)
 repeat (any_goals (first
 | (with_reducible refine yN ?_)
 | ((with_reducible refine oM_gen fun Kv hK=>?_); simp [go_sem,ca _ hk3.below]; (first|refine hK _ _ ?_|refine And.intro (by omega) (hK _ _ ?_)); clear hK Kv)))
 have hk4:=hk3.drew
 have hg4:=hg.next (w':={ w3 with drawn:=w3.drawn + 1 }) .drawn (fun i hi=>(hD i hi).1)
 have hD4:Off D { w3 with drawn:=w3.drawn + 1 } rv:=hD
 have hrl:∀ i,rv.ownBlock = some i → i < ({ w3 with drawn:=w3.drawn + 1 }:World).heap.size:=fun i hi=>(hg4.own hi).1
 have hb4:Below w2.heap.size w2 { w3 with drawn:=w3.drawn + 1 }:=hb3.on .drawn
 refine ⟨Nx { w3 with drawn:=w3.drawn + 1 },Below.refl _ _,rfl,?_⟩
 generalize ({ w3 with drawn:=w3.drawn + 1 }:World) = W4 at hk4 hg4 hrl hb4 hD4 ⊢
 repeat (any_goals (first
 | (with_reducible refine pureH_in ?_)
 | ((with_reducible refine idOH ?_); (with_reducible refine oH_of ⟨_,rfl⟩ (fun W0 hW0=>by (refine oM_gen (fun Kv hK=>?_)); simp [go_sem,(hk4.next hW0).cells]; (first | exact hK _ _ ⟨rfl,rfl⟩ | exact ⟨by omega,hK _ _ ⟨rfl,rfl⟩⟩)) ?_))))
 refine ⟨Nx,?_⟩
 refine monoR (fun v w'=>ClmF W4 w' (blindedM s l[i]) v) (fun v w w1 hS h=>h.next hS) ?_ ?_
 ·intro w1 h1
  exact blinded_ok s l[i] (hs'.next (hk4.next h1).below) ra (fun w' v hb hf=>⟨h1.on hb,hb,hf.up h1.size⟩)
 apply monoE
 ·intro w1 h1
  exact Over_ok s.g l[i] s.g.G (fun w2 h2=>⟨h1.on h2,h2,rfl⟩)
 refine monoR (fun v w'=>ClmF W4 w' (blindedM s (overG s.g l[i] s.g.G)) v) (fun v w w1 hS h=>h.next hS) ?_ ?_
 ·rintro w1 h1 _ rfl
  exact blinded_ok s _ (hs'.next (hk4.next h1).below) (overG_I64 _ _ _) (fun w' v hb hf=>⟨h1.on hb,hb,hf.up h1.size⟩)
 refine monoR (fun v w'=>RowF 2 VClm W4 w' (bitC s l[i]).claims v) (fun v w w1 hS h=>h.next hS) ?_ ?_
 ·intro w1 h1 v1 hv1 v2 hv2
  exact two_clm hv1 hv2 (fun v w' hb hr=>⟨h1.on hb,hb,hr⟩) h1.size
 refine monoR (fun v w'=>ClsF W4 w' (bitC s l[i]) v) (fun v w w1 hS h=>h.next hS) ?_ ?_
 ·intro w1 h1 v1 hv1
  obtain ⟨ad,c,rfl⟩:=hv1.1
  rw [build_cls]
  exact ⟨h1,Below.refl _ _,cls_of rfl hv1⟩
 refine monoR (fun v w'=>LitF 65 W4 w' (bitC s l[i]) v) (fun v w w1 hS h=>h.next hS) ?_ ?_
 ·intro w1 h1 v1 hv1
  exact lit_of hv1 h1.size (fun v w' hb hr=>⟨h1.on hb,hb,hr⟩)
 rintro w9 h9 v1 _ _ rfl v2 _ v3 _ v4 _ v5 hv5
 refine cls_append (hg4.next h9 (fun i hi=>(hD4 i hi).1)) (Nat.le_trans hb4.size h9.size) hv5 (hD4.next h9.size) hrl (by rw [List.length_take,List.length_map]; omega) (fun v6 w6 D6 hg6 hb6 hv6 hD6=>?_)
 have e:(l.map (bitC s)).take i ++ [bitC s l[i]] = (l.map (bitC s)).take (i + 1):=by
  rw [List.take_add_one,List.getElem?_map,List.getElem?_eq_getElem (show i < l.length by omega)]
  rfl
 rw [e] at hg6
 repeat (any_goals ((with_reducible refine oM_gen fun Kv hK=>?_); simp [go_sem]; (try simp (disch:=omega) only [wrapI64,wrapU8,wrapU32,wrapU64]); refine hK _ _ ?_; clear hK Kv))
 exact ⟨⟨(hb4.on h9).grown hb6 (hb4.on h9).size (fun j hj=>(hg4.own hj).2),_,_,i + 1,D6,rfl,by omega,hg6,hD6⟩,by show l.length - (((i + 1:Nat):Int)).toNat < l.length - ((i:Nat):Int).toNat; omega⟩
end
end Go.Proofs
namespace Go.Proofs
open Go Go.Sh Go.RowKit FdSpec TkSpec CodeSpec PrSpec
section
variable {K:Value → World → Prop} {w w' w0 W:World} {L:List (Addr × Value)}
theorem weigh_len {s:Stp} {l:List Int} (hw:(weighM s l).2 = true):l.length ≤ 60:=by
 unfold weighM at hw
 split at hw
 ·rename_i h
  simp only [Bool.and_eq_true,decide_eq_true_eq] at h
  exact h.1.2
 ·cases hw
theorem bitsM_len {s:Stp} {l:List Int}:(bitsM s l).length ≤ 60:=by
 unfold bitsM
 split
 ·rename_i h
  rw [List.length_map]; exact weigh_len h
 ·simp
theorem Range_ok (s:Stp) (x:Int) (l:List Int) {sv lv:Value} (hs:SetR w s sv) (hx:I64 x) (hl:Ints w lv l) (k:∀ w' v,Below w.heap.size w w' → GoalR w' v (PrSpec.rangeM s x l) → K v w'):callM Tryz.prog 40 #[stpV s sv,.int .i64 x,lv] K w:=by
 apply sh_40_ok
 unfold sh_40
 have hs':=hs
 obtain ⟨ad,c,rfl⟩:=hs.ints.isSlice
 have hl':=hl
 obtain ⟨lad,lc,rfl⟩:=hl.isSlice
 refine box_kn (cs:=stpC s (.slice ad s.bases.length c)) rfl (.start w) fun b1 W hk hb1 hbb=>?_
 clear hb1 hbb
 repeat (any_goals ((with_reducible refine oM_gen fun Kv hK=>?_); simp [go_sem,hk.cells]; refine hK _ _ ?_; clear hK Kv))
 refine Weigh_ok s l (hs'.next hk.below) (hl'.next hk.below) (fun w2 h2=>?_)
 have hk:=hk.next h2
 unfold PrSpec.rangeM at k
 cases hw:(weighM s l).2 with
 | false=>
  rw [hw,Bool.false_and] at k
  repeat (any_goals (first
  | (with_reducible first|refine zD ?_|refine yB ?_|refine yL ?_)
  | ((with_reducible refine oM_gen fun Kv hK=>?_); simp [go_sem]; refine hK _ _ ?_; clear hK Kv)))
  exact k _ _ hk.below SRow.nil
 | true=>
 rw [hw,Bool.true_and] at k
 repeat (any_goals (first
 | (with_reducible first|refine pureM_in ?_|refine zC ?_)
 | ((with_reducible refine oM_gen fun Kv hK=>?_); simp [go_sem,hk.cells]; refine hK _ _ ?_; clear hK Kv)))
 refine Element_ok s.g _ hs'.grp (hs'.db.next hk.below) (fun w4 h4=>?_)
 have hk:=hk.next h4
 cases hel:elemG s.g x with
 | false=>
  rw [hel] at k
  repeat (any_goals (first
  | (with_reducible first|refine zC ?_|refine yC ?_|refine yL ?_)
  | ((with_reducible refine oM_gen fun Kv hK=>?_); simp [go_sem]; refine hK _ _ ?_; clear hK Kv)))
  exact k _ _ hk.below SRow.nil
 | true=>
 rw [hel,if_pos rfl] at k
 generalize (weighM s l).1 = wt at *
 repeat (any_goals (first
 | (with_reducible first|refine zC ?_|refine yC ?_|refine yM ?_)
 | ((with_reducible refine oM_gen fun Kv hK=>?_); simp [go_sem]; refine hK _ _ ?_; clear hK Kv)))
 have hk4:=hk.drew
 refine ⟨Nx { w4 with drawn:=w4.drawn + 1 },Below.refl _ _,rfl,?_⟩
 generalize ({ w4 with drawn:=w4.drawn + 1 }:World) = W4 at hk4 ⊢
 repeat (any_goals (first
 | (with_reducible refine pureH_in ?_)
 | ((with_reducible refine idOH ?_); (with_reducible refine oH_of ⟨_,rfl⟩ (fun W0 hW0=>by (refine oM_gen (fun Kv hK=>?_)); simp [go_sem,(hk4.next hW0).cells]; (first | exact hK _ _ ⟨rfl,rfl⟩ | exact ⟨by omega,hK _ _ ⟨rfl,rfl⟩⟩)) ?_))))
 refine ⟨Nx,?_⟩
 refine monoR (fun v w'=>∃ D,ClsG W4.heap.size D w' v (bitsM s l) ∧ Off D w' v) (fun v w w1 hS h=>h.imp fun D h=>⟨h.1.next hS (fun i hi=>(h.2 i hi).1),h.2.next hS.size⟩) ?_ ?_
 ·intro w1 h1
  refine Bits_ok s l (hs'.next (hk4.next h1).below) (hl'.next (hk4.next h1).below) (fun w' v D hb hg hD=>⟨h1.on hb,hb,D,hg.base h1.size,hD⟩)
 apply monoE
 ·intro w1 h1
  exact Over_ok s.g x wt (fun w2 h2=>⟨h1.on h2,h2,rfl⟩)
 rintro w9 h9 v1 ⟨D,hg,hD⟩ _ rfl
 have hk9:=hk4.next h9
 refine blinded_ok s (overG s.g x wt) (hs'.next hk9.below) (overG_I64 _ _ _) (fun w10 v hb10 hf=>?_)
 refine one_clm hf (fun v11 w11 h11 hr11=>?_) hb10.size
 obtain ⟨ad11,c11,rfl⟩:=hr11.1
 rw [show ([blindedM s (overG s.g x wt)]:List Clm).length = 1 from rfl] at *
 rw [build_cls]
 have hc:ClsF w9 w11 (lastC s x wt) (.agg #[.int .i64 1,.slice ad11 1 c11]):=cls_of rfl hr11
 refine lit_of hc (Nat.le_trans hb10.size h11.size) (fun v12 w12 h12 hl12=>?_)
 have hb12:=(hb10.on h11).on h12
 refine cls_append (hg.next hb12 (fun i hi=>(hD i hi).1)) (Nat.le_trans h9.size hb12.size) hl12 (hD.next hb12.size) (fun i hi=>(hg.own hi).1) (by have:=bitsM_len (s:=s) (l:=l); omega) (fun v13 w13 D13 hg13 hb13 hv13 hD13=>?_)
 have hk12:=(hk9.next hb12).below
 refine k _ _ (hk12.grown hb13 hk12.size (fun j hj=>Nat.le_trans hk4.below.size (hg.own hj).2)) (hg13.srow (by decide) ?_)
 rw [List.length_append,List.length_singleton]
 have:=bitsM_len (s:=s) (l:=l)
 omega
end
end Go.Proofs
namespace Go.Proofs
open Go Go.Sh Go.RowKit FdSpec TkSpec CodeSpec PrSpec
section
variable {K:Value → World → Prop} {w w' w0 W:World} {L:List (Addr × Value)}
theorem splitL_fst (s:Stp) (v:Int):∀ (l:List Int) (k i:Nat),(splitL s v k l).1[i]? = l[i]?.map fun r=>commitM s (bitOf v (k + i)) r
 | [],k,i=>by simp [splitL]
 | r :: l,k,0=>by simp [splitL]
 | r :: l,k,i + 1=>by
  have:=splitL_fst s v l (k + 1) i
  simp only [splitL,List.getElem?_cons_succ,this]
  rw [show k + 1 + i = k + (i + 1) by omega]
theorem splitL_snd (s:Stp) (v:Int):∀ (l:List Int) (k i:Nat),(splitL s v k l).2[i]? = l[i]?.map fun r=>knwOf (bitOf v (k + i)) r
 | [],k,i=>by simp [splitL]
 | r :: l,k,0=>by simp [splitL]
 | r :: l,k,i + 1=>by
  have:=splitL_snd s v l (k + 1) i
  simp only [splitL,List.getElem?_cons_succ,this]
  rw [show k + 1 + i = k + (i + 1) by omega]
theorem splitL_len (s:Stp) (v:Int):∀ (l:List Int) (k:Nat),(splitL s v k l).1.length = l.length ∧ (splitL s v k l).2.length = l.length
 | [],k=>by simp [splitL]
 | r :: l,k=>by have:=splitL_len s v l (k + 1); simp [splitL,this]
theorem take_snoc2 {α:Type} {al:List α} {i:Nat} {x:α} (h:al[i]? = some x):al.take i ++ [x] = al.take (i + 1):=by
 rw [List.take_add_one,h]; rfl
theorem prodL_I64 (g:Grp):∀ (l:List (Int × Int)) (o:Int),I64 o → I64 (prodL g o l)
 | [],o,h=>h
 | (b,e) :: l,o,h=>prodL_I64 g l _ (mulM_I64 _ _ _)
theorem prodG_I64 (g:Grp) (bs es:List Int):I64 (prodG g bs es).1:=by
 unfold prodG
 split
 ·rename_i h
  refine prodL_I64 g _ _ (I64_of ⟨Int.emod_nonneg _ ?_,Int.emod_lt_of_pos _ ?_⟩ h.1) <;> have:=h.1 <;> unfold okN at this <;> omega
 ·exact I64_0
theorem commitM_I64 (s:Stp) (v r:Int):I64 (commitM s v r):=by
 unfold commitM
 split
 ·exact prodG_I64 _ _ _
 ·exact I64_0
theorem bitOf_01 (v:Int) (k:Nat):bitOf v k = 0 ∨ bitOf v k = 1:=by unfold bitOf; omega
theorem make_knw (T:TypeId) (k:∀ g W,Below w.heap.size w W → w.heap.size ≤ g → Holds W g 113 [.bool false,.slice none 0 0,.bool false,.slice none 0 0] → K (.slice (some ⟨g,0,none⟩) 2 2) W):oM Tryz.prog (.makeSlice 114 (.tmp 0) (.tmp 1)) T [.int .i64 2,.int .i64 2] K w:=by
 rw [oM_makeSlice]; exact lit_run (by kernel_rfl) k
theorem sz_knw (w:World):(sizeOf 113).run Tryz.prog w = .ok 2 w:=by kernel_rfl
theorem idx_knw (T:TypeId) (b o n c:Nat) (x:Int):oM Tryz.prog (.indexAddr 114 (.tmp 0) (.tmp 1)) T [.slice (some ⟨b,o,none⟩) n c,.int .i64 x] = onM (0 ≤ x ∧ x < n) (.pointer (some ⟨b,o + x.toNat * 2,none⟩)):=
 idx_row (K:=fun _ _=>True) _ T (by kernel_rfl) (fun w=>by kernel_rfl) b o n c x
theorem knw_one (a:Bool) (ad:Option Addr) (n c:Nat):∀ u ∈ ([.bool a,.slice ad n c]:List Value),u.oneCell' = true:=by
 intro u hu
 simp only [List.mem_cons,List.not_mem_nil,or_false] at hu
 rcases hu with rfl | rfl <;> rfl
theorem row_one (ad:Option Addr) (n c:Nat):∀ u ∈ ([.slice ad n c]:List Value),u.oneCell' = true:=by
 intro u hu
 simp only [List.mem_cons,List.not_mem_nil,or_false] at hu
 rcases hu with rfl; rfl
abbrev KnwG (B:Nat) (D:Nat → Prop) (w:World) (v:Value) (l:List (List Knw)):Prop:=GRow 1 114 (VOne KnwsR) B D w v l
theorem know_store {g:Nat} {b r:Int} {ad:Option Addr} {n c:Nat} {T T2:TypeId} (hb:b = 0 ∨ b = 1) (hh:Holds w g 113 [.bool false,.slice none 0 0,.bool false,.slice none 0 0]) (hi:Ints w (.slice ad n c) [r]) (hg:W.heap.size ≤ g)
  (hoff:∀ i,Value.inBlock (.slice ad n c) = some i → W.heap.size ≤ i ∧ i ≠ g)
  (k:∀ w',w.grownBy w' (some g) → Fresh W w' (fun w=>KnwsR w (.slice (some ⟨g,0,none⟩) 2 2) (knwOf b r)) → K undef w') :
  oM Tryz.prog (.indexAddr 114 (.tmp 0) (.tmp 1)) T [.slice (some ⟨g,0,none⟩) 2 2,.int .i64 b] (fun v w=>oM Tryz.prog (.store 113 (.tmp 0) (.tmp 1)) T2 [v,.agg #[.bool true,.slice ad n c]] K w) w:=by
 rw [idx_knw]
 refine ⟨by omega,?_⟩
 have hint:∀ w',w.grownBy w' (some g) → Fresh W w' (fun w=>Ints w (.slice ad n c) [r]):=fun w' hg'=>
  Ints.fresh ⟨hi.row.keep hg'.size (fun i e hlt=>hg'.block i hlt (fun e2=>(hoff i e).2 (by first | exact Option.some.inj e2 | exact (Option.some.inj e2).symm))),hi.rng,hi.len⟩ (fun i e=>(hoff i e).1)
 rcases hb with rfl | rfl
 ·refine arr_storeRow (o:=0) (xs:=[.bool true,.slice ad n c]) sz_knw rfl rfl (knw_one true ad n c) hh (by decide) (fun w' h1 h2=>k w' h1 ?_)
  refine ((h2.fresh (W:=W) hg).both (hint w' h1)).imp ?_
  rintro w2 ⟨e1,e2⟩
  exact srow_lit2 (xs:=[.bool true,.slice ad n c]) (ys:=[.bool false,.slice none 0 0]) e1 rfl rfl ⟨_,rfl,e2⟩ ⟨_,rfl,Ints.nil _⟩
 ·refine arr_storeRow (o:=2) (xs:=[.bool true,.slice ad n c]) sz_knw rfl rfl (knw_one true ad n c) hh (by decide) (fun w' h1 h2=>k w' h1 ?_)
  refine ((h2.fresh (W:=W) hg).both (hint w' h1)).imp ?_
  rintro w2 ⟨e1,e2⟩
  exact srow_lit2 (xs:=[.bool false,.slice none 0 0]) (ys:=[.bool true,.slice ad n c]) e1 rfl rfl ⟨_,rfl,Ints.nil _⟩ ⟨_,rfl,e2⟩
theorem build_knw (T:TypeId) (ad:Option Addr) (n c:Nat):oM Tryz.prog (Go.Op.build 113 #[(0,(.tmp 0)),(1,(.tmp 1))]) T [.bool true,.slice ad n c] = pureM (.agg #[.bool true,.slice ad n c]):=by
 funext K w
 kernel_rfl
theorem knws_append {B g c:Nat} {D E:Nat → Prop} {v:Value} {l:List (List Knw)} {x:List Knw} {T:TypeId} (h:KnwG B D w v l) (hB:B ≤ w.heap.size) {b:Nat} {ad:Option Addr} {n:Nat} (hh:Holds w b 114 [.slice ad n c])
  (hx:FP E w (fun w=>KnwsR w (.slice ad n c) x)) (hD:Off D w v) (hE:Off E w v) (hl:l.length < 1099511627776)
  (k:∀ v' w',KnwG B (fun i=>D i ∨ E i) w' v' (l ++ [x]) → w.grownBy w' v.ownBlock → (∀ i,v'.ownBlock = some i → v.ownBlock = some i ∨ w.heap.size ≤ i) → Off (fun i=>D i ∨ E i) w' v' → K v' w') :
  oM Tryz.prog (.call { callee:=.builtin .append,args:=#[.tmp 0,.tmp 1],argTypes:=#[28,28] }) T [v,.slice (some ⟨b,0,none⟩) 1 g] K w:=by
 refine grow_append (D:=fun i=>D i ∨ E i) 28 T ((Tryz.prog.info? 114).getD default) (.slice none 0 0) 24 (by kernel_rfl) (by kernel_rfl) (by kernel_rfl) (by kernel_rfl) (by kernel_rfl) (by kernel_rfl) (by decide) (by decide)
  (h.mono fun i hi=>.inl hi) hB (xs:=[.slice ad n c]) rfl ?_ (row_one _ _ _) ((hx.imp fun w h=>⟨_,rfl,h⟩).mono fun i hi=>.inr hi) ?_ hl k
 ·intro j u hj
  rw [cell_of_block hh]
  simpa using hj
 ·rintro i (hi | hi)
  ·exact hD i hi
  ·exact hE i hi
def SpJ (s:Stp) (v:Int) (l:List Int) (w0:World) (vs:List Value) (w':World):Prop:=Below w0.heap.size w0 w' ∧ ∃ (u1 u2 u3 u4 bv kv:Value) (i:Nat) (D:Nat → Prop),vs = [u1,u2,u3,u4,bv,kv,.int .i64 (i:Int)] ∧ i ≤ l.length ∧
 OwnI w' w0.heap.size bv ((splitL s v 0 l).1.take i) ∧ KnwG w0.heap.size D w' kv ((splitL s v 0 l).2.take i) ∧ Off D w' bv ∧ Off D w' kv ∧ apart bv kv
theorem Split_ok (s:Stp) (v:Int) (l:List Int) {sv lv:Value} (hs:SetR w s sv) (hv:I64 v) (hl:Ints w lv l) (k:∀ w' bv kv D,Below w.heap.size w w' → Ints w' bv (splitM s v l).1.1 → KnwG w.heap.size D w' kv (splitM s v l).1.2 → Off D w' kv → (∀ i,Value.inBlock bv = some i → kv.ownBlock ≠ some i) → K (.tuple #[bv,kv,.bool (splitM s v l).2]) w'):callM Tryz.prog 76 #[stpV s sv,.int .i64 v,lv] K w:=by
 apply sh_76_ok
 unfold sh_76
 have hs':=hs
 obtain ⟨ad,c,rfl⟩:=hs.ints.isSlice
 have hl':=hl
 obtain ⟨lad,lc,rfl⟩:=hl.isSlice
 refine box_kn (cs:=stpC s (.slice ad s.bases.length c)) rfl (.start w) fun b1 W hk hb1 hbb=>?_
 clear hb1 hbb
 repeat (any_goals ((with_reducible refine oM_gen fun Kv hK=>?_); simp [go_sem,hk.cells]; refine hK _ _ ?_; clear hK Kv))
 refine ValidSetup_ok s (hs'.next hk.below) (fun w2 h2=>?_)
 have hk:=hk.next h2
 have hno:splitFine s v l = false → ∀ w',Below w.heap.size w w' → K (.tuple #[.slice none 0 0,.slice none 0 0,.bool false]) w':=fun e w' hb=>by
  have:=k w' (.slice none 0 0) (.slice none 0 0) (fun _=>False) hb
  unfold splitM at this
  rw [e] at this
  exact this (Ints.nil _) .nil (fun i h=>h.elim) (fun i h=>by cases h)
 have eF:splitFine s v l = (validS s && decide (1 ≤ l.length) && decide (l.length ≤ 60) && exponentsM s l l.length && decide (0 ≤ v) && decide (v < 2 ^ l.length)):=rfl
 cases hvs:validS s with
 | false=>
  rw [hvs] at eF
  repeat (any_goals (first
  | (with_reducible first|refine zD ?_|refine yB ?_|refine yL ?_)
  | ((with_reducible refine oM_gen fun Kv hK=>?_); simp [go_sem]; refine hK _ _ ?_; clear hK Kv)))
  exact hno (by rw [eF]; simp) _ hk.below
 | true=>
 by_cases h1:(l.length:Int) < 1
 ·repeat (any_goals (first
  | (with_reducible first|refine pureM_in ?_|((refine idGd ?_); first|refine zC ?_|refine zD ?_)|((refine idPick ?_); first|refine yB ?_|refine yC ?_)|refine yL ?_)
  | ((with_reducible refine oM_gen fun Kv hK=>?_); simp [go_sem,h1]; refine hK _ _ ?_; clear hK Kv)))
  exact hno (by rw [eF,decide_eq_false (by omega:¬ 1 ≤ l.length)]; simp) _ hk.below
 by_cases h6:(60:Int) < l.length
 ·repeat (any_goals (first
  | (with_reducible first|refine pureM_in ?_|((refine idGd ?_); first|refine zC ?_|refine zD ?_)|((refine idPick ?_); first|refine yB ?_|refine yC ?_)|refine yL ?_)
  | ((with_reducible refine oM_gen fun Kv hK=>?_); simp [go_sem,h1,h6]; refine hK _ _ ?_; clear hK Kv)))
  exact hno (by rw [eF,decide_eq_false (by omega:¬ l.length ≤ 60)]; simp) _ hk.below
 repeat (any_goals (first
 | (with_reducible first|refine pureM_in ?_|refine zC ?_|refine yC ?_)
 | ((with_reducible refine oM_gen fun Kv hK=>?_); simp [go_sem,hk.cells,h1,h6]; refine hK _ _ ?_; clear hK Kv)))
 refine exponents_ok s l.length (hs'.next hk.below) (hl'.next hk.below) (fun w3 h3=>?_)
 have hk:=hk.next h3
 cases hex:exponentsM s l l.length with
 | false=>
  rw [hex] at eF
  repeat (any_goals (first
  | (with_reducible first|((refine idGd ?_); first|refine zC ?_|refine zD ?_)|((refine idPick ?_); first|refine yB ?_|refine yC ?_)|refine yL ?_)
  | ((with_reducible refine oM_gen fun Kv hK=>?_); simp [go_sem]; refine hK _ _ ?_; clear hK Kv)))
  exact hno (by rw [eF]; simp) _ hk.below
 | true=>
 by_cases h0:v < 0
 ·repeat (any_goals (first
  | (with_reducible first|refine pureM_in ?_|((refine idGd ?_); first|refine zC ?_|refine zD ?_)|((refine idPick ?_); first|refine yB ?_|refine yC ?_)|refine yL ?_)
  | ((with_reducible refine oM_gen fun Kv hK=>?_); simp [go_sem,h0]; refine hK _ _ ?_; clear hK Kv)))
  exact hno (by rw [eF,decide_eq_false (by omega:¬ 0 ≤ v)]; simp) _ hk.below
 repeat (any_goals (first
 | (with_reducible first|refine pureM_in ?_|refine zC ?_|refine yC ?_)
 | ((with_reducible refine oM_gen fun Kv hK=>?_); simp [go_sem,h0]; refine hK _ _ ?_; clear hK Kv)))
 refine shlI (by omega) ?_
 by_cases hg:2 ^ l.length ≤ v
 ·repeat (any_goals (first
  | (with_reducible first|refine zC ?_|refine yC ?_|refine yL ?_)
  | ((with_reducible refine oM_gen fun Kv hK=>?_); simp [go_sem,hg]; refine hK _ _ ?_; clear hK Kv)))
  exact hno (by rw [eF,decide_eq_false (by omega:¬ v < 2 ^ l.length)]; simp) _ hk.below
 repeat (any_goals (first
 | (with_reducible first|refine zC ?_|refine yC ?_|refine yM ?_)
 | ((with_reducible refine oM_gen fun Kv hK=>?_); simp [go_sem,hg]; refine hK _ _ ?_; clear hK Kv)))
 have eS:splitM s v l = (splitL s v 0 l,true):=by
  unfold splitM
  rw [if_pos]
  rw [eF,hvs,hex,decide_eq_true (by omega:1 ≤ l.length),decide_eq_true (by omega:l.length ≤ 60),decide_eq_true (by omega:0 ≤ v),decide_eq_true (by omega:v < 2 ^ l.length)]
  rfl
 rw [eS] at k
 clear hno eF
 have hlen:=splitL_len s v l 0
 refine ⟨SpJ s v l w3,(fun vs _=>match vs with | [_,_,_,_,_,_,.int _ i]=>l.length - i.toNat | _=>0),⟨Below.refl _ _,_,_,_,_,_,_,0,fun _=>False,rfl,by omega,own_none,.nil,fun i h=>h.elim,fun i h=>h.elim,fun i h=>by cases h⟩,?_⟩
 rintro _ _ w4 ⟨hb4,u1,u2,u3,u4,bv,kv,i,D,rfl,hi,ho,hg4,hDb,hDk,hap⟩
 have hk4:=hk.next hb4
 by_cases hin:i = l.length
 ·rw [List.take_of_length_le (by omega)] at ho hg4
  repeat (any_goals (first
  | (with_reducible refine yO ?_)
  | ((with_reducible refine oM_gen fun Kv hK=>?_); simp [go_sem]; refine hK _ _ ?_; clear hK Kv)))
  refine k w4 bv kv D hk4.below (ho.ints (fun n hn=>?_) (by omega)) (hg4.base hk.below.size) hDk (fun j e1 e2=>?_)
  ·obtain ⟨j,hj,rfl⟩:=List.getElem_of_mem hn
   have:=splitL_fst s v l 0 j
   rw [List.getElem?_eq_getElem hj,List.getElem?_eq_getElem (by omega)] at this
   rw [Option.some.inj this]
   exact commitM_I64 _ _ _
  ·rcases ho.2 with ⟨rfl,_⟩ | ⟨g',cap,cur,rfl,_⟩
   ·cases e1
   ·cases e1
    exact hap _ rfl e2
 obtain ⟨b8,o8,rfl,hb8',ca,ra,_⟩:=hl'.at (i:=i) (by omega)
 iterate 4 (any_goals (first
 | (with_reducible refine yN ?_)
 | ((with_reducible refine oM_gen fun Kv hK=>?_); simp [go_sem,ca _ hk4.below]; (first|refine hK _ _ ?_|refine And.intro (by omega) (hK _ _ ?_)); clear hK Kv)))
 refine shrI (by omega) ?_
 have hp:(0:Int) < 2 ^ i:=Int.pow_pos (by decide)
 have hd0:0 ≤ v / 2 ^ i:=Int.ediv_nonneg (by omega) (by omega)
 have hd1:v / 2 ^ i ≤ v:=Int.ediv_le_self _ (by omega)
 refine andI ⟨hd0,by have:=hv.2; omega⟩ ?_
 have e1:=splitL_fst s v l 0 i
 have e2:=splitL_snd s v l 0 i
 rw [List.getElem?_eq_getElem (show i < l.length by omega),Option.map_some,Nat.zero_add] at e1 e2
 have hb01:=bitOf_01 v i
 have ebit:v / 2 ^ i % 2 = bitOf v i:=rfl
 rw [ebit]
 generalize bitOf v i = b at *
 generalize l[i] = r at *
 refine make_knw _ (fun g5 w5 h5 hg5 hh5=>?_)
 refine mk1g r ra (fun v6 w6 h6 hi6 hb6=>?_)
 obtain ⟨ad6,c6,rfl⟩:=hi6.isSlice
 rw [show ([r]:List Int).length = 1 from rfl] at *
 rw [build_knw]
 have hh6:=hh5.next h6
 have hs5:=h5.size
 have hlt5:=hh5.lt
 refine know_store (W:=w4) hb01 hh6 hi6 hg5 (fun j hj=>?_) (fun w7 h7 hf7=>?_)
 ·rw [hb6] at hj
  have:w5.heap.size = j:=Option.some.inj hj
  omega
 have hb47:Below w4.heap.size w4 w7:=(h5.on h6).grown h7 (h5.on h6).size (fun j hj=>by have:g5 = j:=Option.some.inj hj; omega)
 have hk7:=hk4.next hb47
 iterate 1 (any_goals ((with_reducible refine oM_gen fun Kv hK=>?_); simp [go_sem,hk7.cells]; refine hK _ _ ?_; clear hK Kv))
 refine Commit_ok s b r (hs'.next hk7.below) (by unfold I64; omega) ra (fun w8 h8=>?_)
 have hb48:=hb47.on h8
 refine mk1g _ (commitM_I64 s b r) (fun v9 w9 h9 hi9 _=>?_)
 have hb49:=hb48.on h9
 have ho9:=ho.keep hb49
 have hoo:=fun j hj=>owns_own (i:=j) ho hj
 have hkk:=fun j hj=>hg4.own (i:=j) hj
 refine append1g ho9 (Nat.le_trans hb4.size hb49.size) hi9 (by rw [List.length_take]; omega) (fun bv' w10 ho10 hg10 hv10=>?_)
 rw [take_snoc' e1] at ho10
 have hbF:=Fr.of_by' hg10
 have hg10':=(hg4.next hb49 (fun i hi=>(hDk i hi).1)).keep hbF (fun j hj=>⟨Nat.lt_of_lt_of_le (hDb j hj).1 hb49.size,(hDb j hj).2⟩) (fun j hj e=>hap j e hj)
 have hb410:=hb49.size
 have h10s:=hg10.size
 have hf10:FP (fun i=>w4.heap.size ≤ i ∧ i < w7.heap.size) w10 (fun w=>KnwsR w (.slice (some ⟨g5,0,none⟩) 2 2) (knwOf b r)):=
  (FP.next hf7 (h8.on h9) (fun j hj=>hj.2)).by hg10 (fun j hj=>⟨Nat.lt_of_lt_of_le hj.2 (h8.on h9).size,fun e=>by have:=(hoo j e).1; omega⟩)
 have h79:=(h8.on h9).size
 refine lit_knws _ _ _ (fun g11 w11 h11 hg11 hh11=>?_)
 have hg11':=hg10'.next h11 (fun j hj=>by have:=(hDk j hj).1; omega)
 have h11s:=h11.size
 have h47:=hb47.size
 have hb4s:=hb4.size
 refine knws_append hg11' (by omega) hh11 (hf10.next h11 (fun j hj=>by have:=hj.2; omega)) (fun j hj=>⟨by have:=(hDk j hj).1; omega,(hDk j hj).2⟩) (fun j hj=>⟨by have:=hj.2; omega,fun e=>by have:=(hkk j e).1; have:=hj.1; omega⟩) (by rw [List.length_take]; omega) (fun kv' w12 hg12 hb12 hv12 hD12=>?_)
 rw [take_snoc2 e2] at hg12
 have h12s:=hb12.size
 repeat (any_goals ((with_reducible refine oM_gen fun Kv hK=>?_); simp [go_sem]; (try simp (disch:=omega) only [wrapI64,wrapU8,wrapU32,wrapU64]); refine hK _ _ ?_; clear hK Kv))
 have hlt10:=fun j hj=>(owns_own (i:=j) ho10 hj)
 refine ⟨⟨((hb4.on hb49).grown hg10 (hb4.on hb49).size (fun j hj=>(hoo j hj).2.1)).trans ((h11.mono (by omega)).grown hb12 (by omega) (fun j hj=>(hkk j hj).2)),_,_,_,_,_,_,i + 1,_,rfl,by omega,?_,hg12,?_,hD12,?_⟩,by show l.length - (((i + 1:Nat):Int)).toNat < l.length - ((i:Nat):Int).toNat; omega⟩
 ·refine owns_keep (ho10.keep h11) (fun j hj=>hb12.block j (by have:=(hlt10 j hj).1; omega) (fun e=>?_))
  have e':kv.ownBlock = some j:=by first | exact e | exact e.symm
  rcases hv10 j hj with h | h
  ·exact hap j h e'
  ·have:=(hkk j e').1; omega
 ·rintro j (hj | hj)
  ·refine ⟨by have:=(hDb j hj).1; omega,fun e=>?_⟩
   rcases hv10 j e with h | h
   ·exact (hDb j hj).2 h
   ·have:=(hDb j hj).1; omega
  ·refine ⟨by have:=hj.2; omega,fun e=>?_⟩
   rcases hv10 j e with h | h
   ·have:=(hoo j h).1; have:=hj.1; omega
   ·have:=hj.2; omega
 ·intro j e1 e2
  rcases hv12 j e2 with h | h
  ·rcases hv10 j e1 with h' | h'
   ·exact hap j h' h
   ·have:=(hkk j h).1; omega
  ·have:=(hlt10 j e1).1; omega
end
end Go.Proofs
namespace Go.Proofs
open Go Go.Sh Go.RowKit FdSpec TkSpec CodeSpec PrSpec
section
variable {K:Value → World → Prop} {w w' w0 W:World} {L:List (Addr × Value)}
theorem InR_iff (n:Int):InR n ↔ I64 n:=by unfold InR I64; omega
theorem _root_.Go.Sh.Ints.rowOf {v:Value} {l:List Int} (h:Ints w v l):Cd.RowOf Cd.intV w v l:=by
 obtain ⟨⟨ad,c,rfl,h0,hc⟩,hr,hl⟩:=h
 refine ⟨ad,c,rfl,hc.imp id ?_⟩
 rintro ⟨b,o,rfl,hlt,hcell⟩
 exact ⟨b,o,rfl,hlt,fun i hi=>hcell i _ (by rw [flat_int]; simp [hi,Cd.intV])⟩
theorem sz_grp (w:World):(sizeOf 23).run Tryz.prog w = .ok 3 w:=by kernel_rfl
theorem al_grp (w:World):(Instr.alloc 23 true (.tuple #[])).run Tryz.prog w = .ok (.pointer (some ⟨w.heap.size,0,none⟩)) (w.alloc (.cells [.int .i64 0,.int .i64 0,.int .i64 0].toArray 23)):=by kernel_rfl
@[reducible] def grpCs (g:Grp):List Value:=[.int .i64 g.P,.int .i64 g.Q,.int .i64 g.G]
theorem grp_one (g:Grp):∀ u ∈ grpCs g,u.oneCell' = true:=by
 intro u hu
 simp only [grpCs,List.mem_cons,List.not_mem_nil,or_false] at hu
 rcases hu with rfl | rfl | rfl <;> rfl
theorem local_grpM {K:Value → World → Prop} {T' T2:TypeId} {g n:Nat} (t:Grp) (hk:KnM w0 L g n w)
  (k:∀ b W,KnM w0 (cellsOf L b 0 (grpCs t)) g n W → Below w.heap.size w W → w.heap.size ≤ b → K (.pointer (some ⟨b,0,none⟩)) W) :
  oM Tryz.prog (.alloc 23) T' [] (fun v w=>oM Tryz.prog (.store 23 (.tmp 0) (.tmp 1)) T2 [v,grpV t] (fun _ w=>K v w) w) w:=
 local_knm al_grp rfl sz_grp rfl rfl (grp_one t) hk k
theorem local_grp {K:Value → World → Prop} {T' T2:TypeId} (t:Grp) (hk:Kn w0 L w)
  (k:∀ b W,Kn w0 (cellsOf L b 0 (grpCs t)) W → Below w.heap.size w W → w.heap.size ≤ b → K (.pointer (some ⟨b,0,none⟩)) W) :
  oM Tryz.prog (.alloc 23) T' [] (fun v w=>oM Tryz.prog (.store 23 (.tmp 0) (.tmp 1)) T2 [v,grpV t] (fun _ w=>K v w) w) w:=
 local_kn al_grp rfl sz_grp rfl rfl (grp_one t) hk k
@[reducible] def sigC (c z:Int):List Value:=[.int .i64 c,.int .i64 z]
@[reducible] def sigV (c z:Int):Value:=.agg #[.int .i64 c,.int .i64 z]
theorem sz_sig (w:World):(sizeOf 74).run Tryz.prog w = .ok 2 w:=by kernel_rfl
theorem al_sig (w:World):(Instr.alloc 74 true (.tuple #[])).run Tryz.prog w = .ok (.pointer (some ⟨w.heap.size,0,none⟩)) (w.alloc (.cells [.int .i64 0,.int .i64 0].toArray 74)):=by kernel_rfl
theorem sig_one (c z:Int):∀ u ∈ sigC c z,u.oneCell' = true:=by
 intro u hu
 simp only [sigC,List.mem_cons,List.not_mem_nil,or_false] at hu
 rcases hu with rfl | rfl <;> rfl
theorem build_sig2 (T:TypeId) (a b:Int):oM Tryz.prog (Go.Op.build 74 #[(0,(.tmp 0)),(1,(.tmp 1))]) T [.int .i64 a,.int .i64 b] = pureM (sigV a b):=by
 funext K w
 kernel_rfl
theorem pub_len {a b:Int} (ha:I64 a) (hb:I64 b):(encNums [a,b]).length ≤ 100:=by
 have h1:=Cd.encInt_len a ((InR_iff a).2 ha)
 have h2:=Cd.encInt_len b ((InR_iff b).2 hb)
 have h3:(Lib.itoa ((0 + 1 + 1:Nat):Int)).length ≤ 20:=itoa_len 2 (by unfold InR; omega)
 simp only [encNums,encList,List.map_cons,List.map_nil,List.length_cons,List.length_nil,List.flatten_cons,List.flatten_nil,List.length_append,List.append_nil] at *
 omega
theorem challenge_ok (s:Stp) (pub a:Int) (msg:Bytes) {v:Value} (hs:SetR w s v) (hl:Cd.Laid w) (hp:I64 pub) (ha:I64 a) (hm:msg.length ≤ 1000) (k:∀ w',Below w.heap.size w w' → K (.int .i64 (chalM s pub a msg)) w') :
  callM Tryz.prog 128 #[stpV s v,.int .i64 pub,.int .i64 a,.string ⟨msg.toArray⟩] K w:=by
 apply sh_128_ok
 unfold sh_128
 obtain ⟨ad,c,rfl⟩:=hs.ints.isSlice
 refine box_kn (cs:=stpC s (.slice ad s.bases.length c)) rfl (.start w) fun b W hk hb1 hb=>?_
 have hk:=hk.drew
 have hl4:=hl.below hk.below hl.size
 refine ⟨Nx { W with drawn:=W.drawn + 1 },Below.refl _ _,rfl,?_⟩
 generalize ({ W with drawn:=W.drawn + 1 }:World) = W at hk hl4 ⊢
 have elen:=Cd.encText_len msg (by omega)
 have plen:=pub_len hp ha
 repeat (any_goals (first
 | (with_reducible refine pureH_in ?_)
 | ((with_reducible refine idOH ?_); (with_reducible refine oH_of ⟨_,rfl⟩ (fun W0 hW0=>by (refine oM_gen (fun Kv hK=>?_)); simp [go_sem,(hk.next hW0).cells]; (first | exact hK _ _ ⟨rfl,rfl⟩ | exact ⟨by omega,hK _ _ ⟨rfl,rfl⟩⟩)) ?_))))
 refine ⟨Nx,?_⟩
 apply monoE
 ·intro w1 h1
  exact Cd.pText_ok msg (by omega) (hl4.below h1 hl4.size) (fun w2 h2=>⟨h1.on h2,h2,rfl⟩)
 refine monoR (fun v w'=>Ints w' v [pub,a]) (fun v w w1 hS h=>h.next hS) ?_ ?_
 ·intro w1 h1
  exact mk2 _ _ hp ha (fun v w2 h2 hi=>⟨h1.on h2,h2,hi⟩)
 apply monoE
 ·intro w1 h1 v1 hi1
  exact Cd.pNums_ok [pub,a] v1 (hl4.below h1 hl4.size) (Ints.rowOf hi1) (fun x hx=>(InR_iff x).2 (hi1.rng x hx)) (by unfold encNums at plen; omega) (fun w2 h2=>⟨h1.on h2,h2,rfl⟩)
 refine monoR (fun v w'=>v = .string ⟨(encText msg ++ encNums [pub,a]).toArray⟩) (fun v w w1 hS h=>h) ?_ ?_
 ·rintro w1 h1 _ rfl _ rfl
  rw [oM_adds]
  refine ⟨?_,h1,Below.refl _ _,?_⟩
  ·have e1:(ByteArray.mk (encText msg).toArray).size = (encText msg).length:=by simp [ByteArray.size]
   have e2:(ByteArray.mk (encList (List.map encInt [pub,a])).toArray).size = (encNums [pub,a]).length:=by simp [ByteArray.size,encNums]
   rw [e1,e2]
   omega
  ·show Value.string (ByteArray.mk (encText msg).toArray ++ ByteArray.mk (encList (List.map encInt [pub,a])).toArray) = _
   refine congrArg Value.string ?_
   apply ByteArray.ext
   simp [encNums]
 rintro w9 h9 _ rfl v1 _ _ rfl _ rfl
 refine Number_ok _ _ (by rw [List.length_append]; omega) (fun w4 h4=>?_)
 exact k _ (hk.next (h9.on h4)).below
theorem Sign_ok (s:Stp) (x kk:Int) (msg:Bytes) {v:Value} (hs:SetR w s v) (hl:Cd.Laid w) (hx:I64 x) (hkk:I64 kk) (hm:msg.length ≤ 1000)
  (k:∀ w',Below w.heap.size w w' → K (.tuple #[sigV (signM s x kk msg).1.1 (signM s x kk msg).1.2,.bool (signM s x kk msg).2]) w') :
  callM Tryz.prog 45 #[stpV s v,.int .i64 x,.int .i64 kk,.string ⟨msg.toArray⟩] K w:=by
 apply sh_45_ok
 unfold sh_45
 have hs':=hs
 obtain ⟨ad,c,rfl⟩:=hs.ints.isSlice
 refine box_kn (cs:=stpC s (.slice ad s.bases.length c)) rfl (.start w) fun b1 W hk hb1 hbb=>?_
 refine alloc_mine (n:=2) al_sig rfl hk fun g0 W3 hk hb3 hg0=>?_
 clear hb1 hb3 hbb
 repeat (any_goals ((with_reducible refine oM_gen fun Kv hK=>?_); simp [go_sem,hk.cells]; refine hK _ _ ?_; clear hK Kv))
 refine ValidSetup_ok s (hs'.next hk.below) (fun w2 h2=>?_)
 have hk:=hk.next h2
 clear h2
 unfold signM at k
 have bad:(validS s && exponentM s x && exponentM s kk) = false → ∀ w2 (hk:KnM w (cellsOf [] b1 0 (stpC s (.slice ad s.bases.length c))) g0 2 w2),
   oM Tryz.prog (Go.Op.store 74 (.tmp 0) (.tmp 1)) 0 [.pointer (some ⟨g0,0,none⟩),sigV 0 0] (fun _ w=>
    ∃ r,(do loadVar 74 (← asAddr (.pointer (some ⟨g0,0,none⟩))):Sem Value).run Tryz.prog w = .ok r w ∧ K (.tuple #[r,(.bool false)]) w) w2:=fun e w2 hk=>by
  rw [e] at k
  exact store_mine sz_sig rfl rfl (sig_one 0 0) hk (fun W3 hk hc=>⟨_,by simp [go_sem,hc],k _ hk.below⟩)
 cases hvs:validS s with
 | false=>
  repeat (any_goals (first
  | (with_reducible first|refine zD ?_|refine yB ?_|refine yL ?_)
  | ((with_reducible refine oM_gen fun Kv hK=>?_); simp [go_sem,hk.cells]; refine hK _ _ ?_; clear hK Kv)))
  exact bad (by rw [hvs]; rfl) _ hk
 | true=>
 repeat (any_goals (first
 | (with_reducible first|refine pureM_in ?_|refine zC ?_)
 | ((with_reducible refine oM_gen fun Kv hK=>?_); simp [go_sem,hk.cells]; refine hK _ _ ?_; clear hK Kv)))
 refine exponent_ok s x (hs'.next hk.below) (fun w2 h2=>?_)
 have hk:=hk.next h2
 clear h2
 cases hex:exponentM s x with
 | false=>
  repeat (any_goals (first
  | (with_reducible first|((refine idGd ?_); first|refine zC ?_|refine zD ?_)|((refine idPick ?_); first|refine yB ?_|refine yC ?_)|refine yL ?_)
  | ((with_reducible refine oM_gen fun Kv hK=>?_); simp [go_sem,hk.cells]; refine hK _ _ ?_; clear hK Kv)))
  exact bad (by rw [hex]; simp) _ hk
 | true=>
 repeat (any_goals (first
 | (with_reducible first|refine pureM_in ?_|refine zC ?_|refine yC ?_)
 | ((with_reducible refine oM_gen fun Kv hK=>?_); simp [go_sem,hk.cells]; refine hK _ _ ?_; clear hK Kv)))
 refine exponent_ok s kk (hs'.next hk.below) (fun w2 h2=>?_)
 have hk:=hk.next h2
 clear h2
 cases hek:exponentM s kk with
 | false=>
  repeat (any_goals (first
  | (with_reducible first|refine zC ?_|refine yC ?_|refine yL ?_)
  | ((with_reducible refine oM_gen fun Kv hK=>?_); simp [go_sem,hk.cells]; refine hK _ _ ?_; clear hK Kv)))
  exact bad (by rw [hek]; simp) _ hk
 | true=>
 clear bad
 rw [hvs,hex,hek] at k
 simp only [Bool.and_self,if_true] at k
 iterate 6 (any_goals (first
 | (with_reducible first|refine zC ?_|refine yC ?_|refine yM ?_)
 | ((with_reducible refine oM_gen fun Kv hK=>?_); simp [go_sem,hk.cells]; refine hK _ _ ?_; clear hK Kv)))
 refine local_grpM s.g hk (fun b4 W4 hk _ hb4=>?_)
 have hk:=hk.drew
 refine ⟨Nx { W4 with drawn:=W4.drawn + 1 },Below.refl _ _,rfl,?_⟩
 generalize ({ W4 with drawn:=W4.drawn + 1 }:World) = W at hk ⊢
 repeat (any_goals (first
 | (with_reducible refine pureH_in ?_)
 | ((with_reducible refine idOH ?_); (with_reducible refine oH_of ⟨_,rfl⟩ (fun W0 hW0=>by (refine oM_gen (fun Kv hK=>?_)); simp [go_sem,(hk.next hW0).cells]; (first | exact hK _ _ ⟨rfl,rfl⟩ | exact ⟨by omega,hK _ _ ⟨rfl,rfl⟩⟩)) ?_))))
 refine ⟨Nx,?_⟩
 apply monoE
 ·intro w1 h1
  exact Power_ok s.g _ _ (fun w2 h2=>⟨h1.on h2,h2,rfl⟩)
 apply monoE
 ·intro w1 h1
  exact Power_ok s.g _ _ (fun w2 h2=>⟨h1.on h2,h2,rfl⟩)
 rintro w9 h9 _ rfl _ rfl
 have hk:=hk.next h9
 refine challenge_ok s _ _ msg (hs'.next hk.below) (hl.below hk.below hl.size) (powerG_I64 _ _ _) (powerG_I64 _ _ _) hm (fun w5 h5=>?_)
 have hk:=hk.next h5
 generalize chalM s (powerG s.g s.g.G x) (powerG s.g s.g.G kk) msg = cc at *
 have hk:=hk.drew
 refine ⟨Nx { w5 with drawn:=w5.drawn + 1 },Below.refl _ _,rfl,?_⟩
 generalize ({ w5 with drawn:=w5.drawn + 1 }:World) = W at hk ⊢
 repeat (any_goals (first
 | (with_reducible refine pureH_in ?_)
 | ((with_reducible refine idOH ?_); (with_reducible refine oH_of ⟨_,rfl⟩ (fun W0 hW0=>by (refine oM_gen (fun Kv hK=>?_)); simp [go_sem,(hk.next hW0).cells]; (first | exact hK _ _ ⟨rfl,rfl⟩ | exact ⟨by omega,hK _ _ ⟨rfl,rfl⟩⟩)) ?_))))
 refine ⟨Nx,?_⟩
 apply monoE
 ·intro w1 h1
  exact Mul_ok _ _ _ (fun w2 h2=>⟨h1.on h2,h2,rfl⟩)
 apply monoE
 ·rintro w1 h1 _ rfl
  exact Add_ok _ _ _ ⟨h1,Below.refl _ _,rfl⟩
 rintro w10 h10 _ rfl _ rfl
 have hk:=hk.next h10
 rw [build_sig2]
 exact store_mine sz_sig rfl rfl (sig_one _ _) hk (fun W3 hk hc=>⟨_,by simp [go_sem,hc],k _ hk.below⟩)
theorem Signed_ok (s:Stp) (pub:Int) (msg:Bytes) (c z:Int) {v:Value} (hs:SetR w s v) (hl:Cd.Laid w) (hp:I64 pub) (hm:msg.length ≤ 1000)
  (k:∀ w',Below w.heap.size w w' → K (.bool (PrSpec.signedM s pub msg c z)) w') :
  callM Tryz.prog 47 #[stpV s v,.int .i64 pub,.string ⟨msg.toArray⟩,sigV c z] K w:=by
 apply sh_47_ok
 unfold sh_47
 have hs':=hs
 obtain ⟨ad,ca,rfl⟩:=hs.ints.isSlice
 refine box_kn (cs:=stpC s (.slice ad s.bases.length ca)) rfl (.start w) fun b1 W hk hb1 hbb=>?_
 refine box_kn (cs:=sigC c z) rfl hk fun b2 W2 hk hb2 hbb2=>?_
 clear hb1 hb2 hbb2 hbb
 iterate 2 (any_goals ((with_reducible refine oM_gen fun Kv hK=>?_); simp [go_sem,hk.cells]; refine hK _ _ ?_; clear hK Kv))
 refine local_grp s.g hk (fun b4 W4 hk _ hb4=>?_)
 repeat (any_goals ((with_reducible refine oM_gen fun Kv hK=>?_); simp [go_sem,hk.cells]; refine hK _ _ ?_; clear hK Kv))
 refine ValidSetup_ok s (hs'.next hk.below) (fun w2 h2=>?_)
 have hk:=hk.next h2
 clear h2
 unfold PrSpec.signedM at k
 cases hvs:validS s with
 | false=>
  rw [hvs] at k
  simp only [Bool.false_and] at k
  repeat (any_goals (first
  | (with_reducible first|refine zD ?_|refine yB ?_|refine yL ?_)
  | ((with_reducible refine oM_gen fun Kv hK=>?_); simp [go_sem,hk.cells]; refine hK _ _ ?_; clear hK Kv)))
  exact k _ hk.below
 | true=>
 rw [hvs,Bool.true_and] at k
 repeat (any_goals (first
 | (with_reducible first|refine pureM_in ?_|refine zC ?_)
 | ((with_reducible refine oM_gen fun Kv hK=>?_); simp [go_sem,hk.cells]; refine hK _ _ ?_; clear hK Kv)))
 refine Element_ok s.g pub hs'.grp (hs'.db.next hk.below) (fun w2 h2=>?_)
 have hk:=hk.next h2
 clear h2
 cases hex:elemG s.g pub with
 | false=>
  rw [hex] at k
  simp only [Bool.false_and] at k
  repeat (any_goals (first
  | (with_reducible first|((refine idGd ?_); first|refine zC ?_|refine zD ?_)|((refine idPick ?_); first|refine yB ?_|refine yC ?_)|refine yL ?_)
  | ((with_reducible refine oM_gen fun Kv hK=>?_); simp [go_sem,hk.cells]; refine hK _ _ ?_; clear hK Kv)))
  exact k _ hk.below
 | true=>
 rw [hex,Bool.true_and] at k
 repeat (any_goals (first
 | (with_reducible first|refine zC ?_|refine yC ?_)
 | ((with_reducible refine oM_gen fun Kv hK=>?_); simp [go_sem,hk.cells]; refine hK _ _ ?_; clear hK Kv)))
 refine exponent_ok s c (hs'.next hk.below) (fun w2 h2=>?_)
 have hk:=hk.next h2
 clear h2
 cases hek:exponentM s c with
 | false=>
  rw [hek] at k
  simp only [Bool.false_and] at k
  repeat (any_goals (first
  | (with_reducible first|((refine idGd ?_); first|refine zC ?_|refine zD ?_)|((refine idPick ?_); first|refine yB ?_|refine yC ?_)|refine yL ?_)
  | ((with_reducible refine oM_gen fun Kv hK=>?_); simp [go_sem,hk.cells]; refine hK _ _ ?_; clear hK Kv)))
  exact k _ hk.below
 | true=>
 rw [hek,Bool.true_and] at k
 repeat (any_goals (first
 | (with_reducible first|refine zC ?_|refine yC ?_)
 | ((with_reducible refine oM_gen fun Kv hK=>?_); simp [go_sem,hk.cells]; refine hK _ _ ?_; clear hK Kv)))
 refine exponent_ok s z (hs'.next hk.below) (fun w2 h2=>?_)
 have hk:=hk.next h2
 clear h2
 cases hez:exponentM s z with
 | false=>
  rw [hez] at k
  simp only [Bool.false_and] at k
  repeat (any_goals (first
  | (with_reducible first|refine zC ?_|refine yC ?_|refine yL ?_)
  | ((with_reducible refine oM_gen fun Kv hK=>?_); simp [go_sem,hk.cells]; refine hK _ _ ?_; clear hK Kv)))
  exact k _ hk.below
 | true=>
 rw [hez,Bool.true_and] at k
 repeat (any_goals (first
 | (with_reducible first|refine zC ?_|refine yC ?_|refine yM ?_)
 | ((with_reducible refine oM_gen fun Kv hK=>?_); simp [go_sem,hk.cells]; refine hK _ _ ?_; clear hK Kv)))
 have hk:=hk.drew
 refine ⟨Nx { w2 with drawn:=w2.drawn + 1 },Below.refl _ _,rfl,?_⟩
 generalize ({ w2 with drawn:=w2.drawn + 1 }:World) = W at hk ⊢
 repeat (any_goals (first
 | (with_reducible refine pureH_in ?_)
 | ((with_reducible refine idOH ?_); (with_reducible refine oH_of ⟨_,rfl⟩ (fun W0 hW0=>by (refine oM_gen (fun Kv hK=>?_)); simp [go_sem,(hk.next hW0).cells]; (first | exact hK _ _ ⟨rfl,rfl⟩ | exact ⟨by omega,hK _ _ ⟨rfl,rfl⟩⟩)) ?_))))
 refine ⟨Nx,?_⟩
 apply monoE
 ·intro w1 h1
  exact Power_ok s.g _ _ (fun w2 h2=>⟨h1.on h2,h2,rfl⟩)
 apply monoE
 ·intro w1 h1
  exact Power_ok s.g _ _ (fun w2 h2=>⟨h1.on h2,h2,rfl⟩)
 rintro w9 h9 _ rfl _ rfl
 have hk:=hk.next h9
 refine Over_ok s.g _ _ (fun w5 h5=>?_)
 have hk:=hk.next h5
 have hI:=overG_I64 s.g (powerG s.g s.g.G z) (powerG s.g pub c)
 generalize overG s.g (powerG s.g s.g.G z) (powerG s.g pub c) = a at *
 have hk:=hk.drew
 refine ⟨Nx { w5 with drawn:=w5.drawn + 1 },Below.refl _ _,rfl,?_⟩
 generalize ({ w5 with drawn:=w5.drawn + 1 }:World) = W at hk ⊢
 repeat (any_goals (first
 | (with_reducible refine pureH_in ?_)
 | ((with_reducible refine idOH ?_); (with_reducible refine oH_of ⟨_,rfl⟩ (fun W0 hW0=>by (refine oM_gen (fun Kv hK=>?_)); simp [go_sem,(hk.next hW0).cells]; (first | exact hK _ _ ⟨rfl,rfl⟩ | exact ⟨by omega,hK _ _ ⟨rfl,rfl⟩⟩)) ?_))))
 refine ⟨Nx,?_⟩
 apply monoE
 ·intro w1 h1
  exact challenge_ok s _ _ msg (hs'.next (hk.next h1).below) (hl.below (hk.next h1).below hl.size) hp hI hm (fun w2 h2=>⟨h1.on h2,h2,rfl⟩)
 rintro w10 h10 _ rfl
 have hk:=hk.next h10
 repeat (any_goals ((with_reducible refine oM_gen fun Kv hK=>?_); simp [go_sem]; refine hK _ _ ?_; clear hK Kv))
 exact k _ hk.below
end
end Go.Proofs
