/- Parts of the proof of the seat's statements (RfD, HRb, HRp, RpA, RpB, PrIff, RpC, RpD, RpE, PrIff2, HLn, RpF, HRq, FdFun, RqA, RqB, RqC, RqD, RqE, HRc, TcF, RqF, HRm, HRt, RtA, RtB, RtC, RfE, RfF, RfG, RfH, RfI, RtD, RtE, PrRow, RtF, HRd, TcG): lemmas about the given translation and plain laws. No condition of their own. -/
import Derived.Test.YtlmhhgemiknhdaaGreatDoorPtod
import Derived.Test.YtlmhhgemiknhdaaGreatDoorProg
import Derived.Laws.IdiomStrings
set_option linter.all false
set_option maxRecDepth 100000
namespace Go.Proofs
open Go Go.Sh Go.RowKit FdSpec TkSpec
section
variable {K:VK} {w:World}
@[reducible] def grpC (g:Grp):List Value:=[.int .i64 g.P,.int .i64 g.Q,.int .i64 g.G]
def memM (g:Grp) (x:Int):Bool:=decide (1 ≤ x) && decide (x < g.P) && decide (pw g.P x g.Q.toNat = 1)
theorem rMember_ok (g:Grp) (x:Int) (hP:okN g.P) (hQ:0 ≤ g.Q ∧ g.Q < 9223372036854775808) (k:∀ w',Bw w w' → K (.bool (memM g x)) w'):callM Tryz.prog 173 #[grpV g,.int .i64 x] K w:=by
 apply sh_173_ok
 unfold sh_173
 refine box_kn (cs:=grpC g) rfl (.start w) fun b W hk hb1 hb=>?_
 have k:=k W hk.below
 unfold memM at k
 have hp1:=hP.1
 by_cases h1:1 ≤ x
 ·by_cases h2:x < g.P
  ·rw [decide_eq_true h1,decide_eq_true h2,bT,bT] at k
   obtain ⟨q,hq⟩:=natN g.Q hQ.1
   refine Xa (An3 hk.cells @h1 @h2) ?_
   have e:(Value.int .i64 g.Q) = .int .i64 (q:Int):=by rw [hq]
   rw [e]
   refine rpow_ok g.P x q hP (by omega) ?_
   rw [hq,Int.toNat_natCast] at k
   generalize pw g.P x q = z at *
   refine Xa0 ?_
   exact k
  ·rw [decide_eq_false h2] at k
   refine Xa (An3 hk.cells @h1 @h2) ?_
   simpa using k
 ·rw [decide_eq_false h1] at k
  refine Xa (An2 hk.cells @h1) ?_
  simpa using k
theorem validG_facts {g:Grp} (h:validG g = true):okN g.P ∧ okN g.Q ∧ 5 ≤ g.Q ∧ 2 ≤ g.G:=by
 unfold validG at h
 split at h
 ·cases h
 rename_i hn
 exact ⟨⟨by omega,by omega⟩,⟨by omega,by omega⟩,by omega,by omega⟩
theorem elemG_eq {g:Grp} (h:validG g = true) (x:Int):elemG g x = memM g x:=by
 unfold elemG memM; rw [h,Bool.and_true]
theorem rElement_ok (g:Grp) (x:Int) (hg:GrpR g) (k:∀ w',Bw w w' → K (.bool (elemG g x)) w'):callM Tryz.prog 146 #[grpV g,.int .i64 x] K w:=by
 apply sh_146_ok
 unfold sh_146
 refine box_kn (cs:=grpC g) rfl (.start w) fun b W hk hb1 hb=>?_
 have e0:elemG g x = (decide (1 ≤ x) && decide (x < g.P) && validG g && decide (pw g.P x g.Q.toNat = 1)):=rfl
 by_cases h1:1 ≤ x
 ·by_cases h2:x < g.P
  ·refine Xa (An3 hk.cells @h1 @h2) ?_
   refine rValidGroup_ok g hg (fun w1 h=>?_)
   have hk:=hk.next h
   cases hv:validG g with
   | false=>
    refine Xa hk.cells ?_
    have k:=k _ hk.below
    rw [e0,hv] at k
    simpa using k
   | true=>
    have hf:=validG_facts hv
    have hq:=hf.2.1.1
    have hq2:=hf.2.1.2
    refine Xa hk.cells ?_
    refine rMember_ok g x hf.1 ⟨by omega,by omega⟩ (fun w2 h=>?_)
    have hk:=hk.next h
    refine Xa0 ?_
    have k:=k _ hk.below
    rw [elemG_eq hv] at k
    exact k
  ·have k:=k _ hk.below
   rw [e0,decide_eq_false h2] at k
   refine Xa (An3 hk.cells @h1 @h2) ?_
   simpa using k
 ·have k:=k _ hk.below
  rw [e0,decide_eq_false h1] at k
  refine Xa (An2 hk.cells @h1) ?_
  simpa using k
theorem rPower_ok (g:Grp) (x n:Int) (k:∀ w',Bw w w' → K (.int .i64 (powerG g x n)) w'):callM Tryz.prog 137 #[grpV g,.int .i64 x,.int .i64 n] K w:=by
 apply sh_137_ok
 unfold sh_137
 refine box_kn (cs:=grpC g) rfl (.start w) fun b W hk hb1 hb=>?_
 unfold powerG at k
 refine Xa hk.cells ?_
 refine rValid_ok g.P ?_
 by_cases hp:okN g.P
 ·refine Xa hk.cells ?_
  refine rValid_ok g.Q ?_
  by_cases hq:okN g.Q
  ·rw [if_pos ⟨hp,hq⟩] at k
   refine Xa hk.cells ?_
   refine ⟨Kn w _,hk.drew,rfl,?_⟩
   repeat (any_goals (first
   | (with_reducible refine pX ?_)
   | ((with_reducible refine idOH ?_); (with_reducible refine oH_of ⟨_,rfl⟩ (fun W0 hW0=>by (refine oG (fun X Y=>?_)); simp [go_sem,hW0.cells]; (first | exact Y _ _ ⟨rfl,rfl⟩ | exact ⟨by omega,Y _ _ ⟨rfl,rfl⟩⟩)) ?_))))
   refine ⟨Nx,?_⟩
   have hq1:=hq.1
   have hq2:=hq.2
   have a3:=Int.emod_nonneg n (b:=g.Q) (by omega)
   have a4:=Int.emod_lt_of_pos n (b:=g.Q) (by omega)
   obtain ⟨m,hm⟩:=natN (n % g.Q) a3
   rw [hm] at k
   rw [Int.toNat_natCast] at k
   apply monoE
   ·(intro w9 h9; repeat (intro v9 e9; try (obtain rfl:=e9)))
    refine rResidue_ok g.Q n hq ?_
    rw [hm]
    exact ⟨h9,bR,rfl⟩
   (intro w9 h9; repeat (intro v9 e9; try (obtain rfl:=e9)))
   refine rpow_ok g.P x m hp (by omega) ?_
   exact k _ h9.below
  ·rw [if_neg (fun h=>hq h.2)] at k
   refine Xa hk.cells ?_
   exact k _ hk.below
 ·rw [if_neg (fun h=>hp h.1)] at k
  refine Xa hk.cells ?_
  exact k _ hk.below
theorem rTimes_ok (g:Grp) (x n:Int) (k:∀ w',Bw w w' → K (.int .i64 (timesG g x n)) w'):callM Tryz.prog 138 #[grpV g,.int .i64 x,.int .i64 n] K w:=by
 apply sh_138_ok
 unfold sh_138
 refine box_kn (cs:=grpC g) rfl (.start w) fun b W hk hb1 hb=>?_
 unfold timesG at k
 refine Xa hk.cells ?_
 refine rValid_ok g.Q ?_
 by_cases hq:okN g.Q
 ·rw [if_pos hq] at k
  refine Xa hk.cells ?_
  refine rMul_ok g.P x n ?_
  exact k _ hk.below
 ·rw [if_neg hq] at k
  refine Xa hk.cells ?_
  exact k _ hk.below
def rpdMu (n:Nat) (l:List Value) (_:World):Nat:=match l with | [_,.int _ i]=>n - i.toNat | _=>0
theorem rpdMu_eq (n:Nat) (x:Value) (q:IntKind) (i:Int) (w:World):rpdMu n [x,.int q i] w = n - i.toNat:=rfl
theorem rother_ok (g:Grp) (x:Int) (hv:validG g = true) (k:∀ w',Bw w w' → K (.bool (otherM g x)) w'):callM Tryz.prog 111 #[grpV g,.int .i64 x] K w:=by
 apply sh_111_ok
 unfold sh_111
 refine box_kn (cs:=grpC g) rfl (.start w) fun b W hk hb1 hb=>?_
 unfold otherM at k
 by_cases hx:x = 1
 ·have k:=k _ hk.below
  refine Xa (An2 hk.cells @hx) ?_
  simpa [hx] using k
 ·have hf:=validG_facts hv
  have hq:=hf.2.1.1
  have hq2:=hf.2.1.2
  refine Xa (An2 hk.cells @hx) ?_
  refine rMember_ok g x hf.1 ⟨by omega,by omega⟩ (fun w2 h=>?_)
  have k:=k _ (hk.next h).below
  rw [elemG_eq hv] at k
  refine Xa0 ?_
  simpa [hx] using k
def RvsJ (s:Stp) (L:List (Addr × Value)) (R:Bool) (w0:World) (l:List Value) (w':World):Prop:=Kn w0 L w' ∧ ∃ (v:Value) (i:Nat),l = [v,.int .i64 (i:Int)] ∧ i ≤ s.bases.length ∧ (s.bases.drop i).all (otherM s.g) = R
theorem rValidSetup_ok (s:Stp) {v:Value} (hs:SetR w s v) (k:∀ w',Bw w w' → K (.bool (validS s)) w'):callM Tryz.prog 22 #[stpV s v] K w:=by
 apply sh_22_ok
 unfold sh_22
 obtain ⟨ad,c,rfl⟩:=hs.ints.isSlice
 refine box_kn (cs:=stpC s (.slice ad s.bases.length c)) rfl (.start w) fun b W hk hb1 hb=>?_
 have k2:∀ w' r,validS s = r → Bw w w' → K (.bool r) w':=fun w' r e hb=>by rw [← e]; exact k w' hb
 have e0:validS s = (validG s.g && decide (2 ≤ s.bases.length) && decide (s.bases.length ≤ 7) && s.bases.all (otherM s.g) && otherM s.g s.blind):=rfl
 have hl:=hs.ints.len
 clear k
 refine Xa hk.cells ?_
 refine rValidGroup_ok s.g hs.grp (fun w1 h1=>?_)
 have hk:=hk.next h1
 clear h1 hb1
 cases hv:validG s.g with
 | false=>
  refine Xa0 ?_
  exact k2 _ _ (by rw [e0,hv]; simp) hk.below
 | true=>
  repeat (any_goals (first
  | (with_reducible first|((refine idGd ?_); first|refine zC ?_|refine zD ?_|((refine idGdD ?_); first|refine zI ?_|refine zJ ?_|refine zK (fun hg=>?_) fun hg=>?_))|((refine idPick ?_); first|refine yB ?_|refine yC ?_|refine yD ?_|refine yE ?_)|refine yL ?_)
  | ((with_reducible refine oG fun X Y=>?_); simp [go_sem,hk.cells]; apply Y; clear Y X)))
  ·exact k2 _ _ (by rw [e0]; simp; omega) hk.below
  ·exact k2 _ _ (by rw [e0]; simp; omega) hk.below
  refine rother_ok s.g s.blind hv (fun w3 h3=>?_)
  have hk:=hk.next h3
  have e1:validS s = (s.bases.all (otherM s.g) && otherM s.g s.blind):=by
   rw [e0,hv,decide_eq_true (by omega:2 ≤ s.bases.length),decide_eq_true (by omega:s.bases.length ≤ 7)]; rfl
  cases ho:otherM s.g s.blind with
  | false=>
   refine Xa hk.cells ?_
   exact k2 _ _ (by rw [e1,ho,Bool.and_false]) hk.below
  | true=>
  rw [ho,Bool.and_true] at e1
  refine Xa0 ?_
  refine ⟨RvsJ s _ (s.bases.all (otherM s.g)) w,rpdMu s.bases.length,⟨hk,_,0,rfl,by omega,rfl⟩,?_⟩
  rw [e1] at k2
  generalize s.bases.all (otherM s.g) = R at *
  rintro _ _ w2 ⟨hk,u1,i,rfl,hi,hall⟩
  by_cases hin:i = s.bases.length
  ·rw [List.drop_of_length_le (by omega),List.all_nil] at hall
   refine Xa hk.cells ?_
   exact k2 _ _ hall.symm hk.below
  ·rw [List.drop_eq_getElem_cons (by omega),List.all_cons] at hall
   obtain ⟨b1,o1,rfl,hb1,ca,ra,_⟩:=hs.ints.at (i:=i) (by omega)
   refine Xa hk.cells ?_
   refine ⟨Kn w _,hk.drew,rfl,?_⟩
   repeat (any_goals (first
   | (with_reducible refine pX ?_)
   | ((with_reducible refine idOH ?_); (with_reducible refine oH_of ⟨_,rfl⟩ (fun W0 hW0=>by (refine oG (fun X Y=>?_)); simp [go_sem,hW0.cells,ca _ hW0.below]; (first | exact Y _ _ ⟨rfl,rfl⟩ | exact ⟨by omega,Y _ _ ⟨rfl,rfl⟩⟩)) ?_))))
   refine ⟨Nx,fun w1 hk=>?_⟩
   refine rother_ok s.g _ hv (fun w3 h3=>?_)
   have hk:=hk.next h3
   cases ho:otherM s.g s.bases[i] with
   | false=>
    rw [ho,bF] at hall
    refine Xa0 ?_
    exact k2 _ _ hall.symm hk.below
   | true=>
    rw [ho,bT] at hall
    refine Xa0 ?_
    refine ⟨⟨hk,_,i + 1,rfl,by omega,hall⟩,?_⟩
    simp only [rpdMu_eq]; omega
end
end Go.Proofs
namespace Go.Proofs
open Go.Sh Tryz
def sh_163 (a0 a1:Value) (K:VK) (w:World):Prop:=
 callM prog 167 #[a1] (fun v9 w=>
 kU v9 (fun v10 w=>
 condM v10
 (K (.int .i64 0) w)
 (callM prog 199 #[a0] (fun v12 w=>
 loopM [(.int .i64 0),(.int .i64 0)] w (fun J_4 m_5 l_6 u_l_6 w0_l_6=>(fun w=>(
 kN 9 v12 (fun v15 w=>
 kB .lss 3 4 (l_6.getD 1 undef) v15 (fun v16 w=>
 condM v16
 (quietM w (fun C_9=>(callQ prog 104 #[a1,(l_6.getD 0 undef),(.int .i64 256)] C_9 (fun v22=>
 oQ prog (.index 9 (.tmp 0) (.tmp 1)) 5 [v12,(l_6.getD 1 undef)] C_9 (fun v25=>
 oQ prog (.convert 5 3 (.tmp 0)) 3 [v25] C_9 (fun v26=>
 callQ prog 103 #[a1,v22,v26] C_9 (fun v27=>
 ∀ w,C_9 w → (kB .add 3 3 (l_6.getD 1 undef) (.int .i64 1) (fun v18 w=>
 J_4 [v27,v18] w ∧ m_5 [v27,v18] w < m_5 l_6 w0_l_6) w))))))))
 (K (l_6.getD 0 undef) w)) w) w)) w0_l_6)) w)) w) w
theorem sh_163_ok {a0 a1:Value} {K:VK} {w:World} (h:sh_163 a0 a1 K w):callM prog 163 #[a0,a1] K w:=
 calls_of_code (fun _=>0) (fn:=Tryz.f163) (rs:=[.tmp 4]) Tryz.func163 rfl rfl (by kernel_rfl) (nB rfl) (Eq.mp (by kernel_rfl) h)
def sh_199 (a0:Value) (K:VK) (w:World):Prop:=
 oM prog (.convert 9 202 (.tmp 0)) 202 [a0] (fun v9 w=>
 callM prog 217 #[v9] (fun v10 w=>
 callM prog 218 #[] (fun v11 w=>
 loopM [v11,(.int .i64 0)] w (fun J_4 m_5 l_6 u_l_6 w0_l_6=>(fun w=>(
 kN 202 v10 (fun v14 w=>
 kB .lss 3 4 (l_6.getD 1 undef) v14 (fun v15 w=>
 condM v15
 (kB .add 3 3 (l_6.getD 1 undef) (.int .i64 64) (fun v22 w=>
 oM prog (.slice 202 (.tmp 0) (some (.tmp 1)) (some (.tmp 2)) none) 202 [v10,(l_6.getD 1 undef),v22] (fun v23 w=>
 callM prog 219 #[(l_6.getD 0 undef),v23] (fun v24 w=>
 kB .add 3 3 (l_6.getD 1 undef) (.int .i64 64) (fun v17 w=>
 J_4 [v24,v17] w ∧ m_5 [v24,v17] w < m_5 l_6 w0_l_6) w) w) w) w)
 (oM prog (.buildSlice 202 0 #[]) 202 [] (fun v25 w=>
 loopM [v25,(.int .i64 0)] w (fun J_14 m_15 l_16 u_l_16 w0_l_16=>(fun w=>(
 kB .lss 3 4 (l_16.getD 1 undef) (.int .i64 32) (fun v27 w=>
 condM v27
 (kB .quo 3 3 (l_16.getD 1 undef) (.int .i64 4) (fun v33 w=>
 kI 230 (l_6.getD 0 undef) v33 (fun v34 w=>
 kL 223 v34 (fun v35 w=>
 kB .rem 3 3 (l_16.getD 1 undef) (.int .i64 4) (fun v37 w=>
 kB .mul 3 3 (.int .i64 8) v37 (fun v38 w=>
 kB .sub 3 3 (.int .i64 24) v38 (fun v39 w=>
 oM prog (.binOp .shr 223 (.tmp 0) (.tmp 1) 3) 223 [v35,v39] (fun v40 w=>
 oM prog (.convert 223 5 (.tmp 0)) 5 [v40] (fun v41 w=>
 oM prog (.buildSlice 202 1 #[(0,(.tmp 0))]) 202 [v41] (fun v42 w=>
 oM prog (.call (Go.Call.mk (.builtin .append) #[(.tmp 0),(.tmp 1)] #[202,202])) 202 [(l_16.getD 0 undef),v42] (fun v43 w=>
 kB .add 3 3 (l_16.getD 1 undef) (.int .i64 1) (fun v29 w=>
 J_14 [v43,v29] w ∧ m_15 [v43,v29] w < m_15 l_16 w0_l_16) w) w) w) w) w) w) w) w) w) w) w)
 (oM prog (.convert 202 9 (.tmp 0)) 9 [(l_16.getD 0 undef)] (fun v45 w=>
 K v45 w) w)) w)) w0_l_16)) w)) w) w)) w0_l_6)) w) w) w
theorem sh_199_ok {a0:Value} {K:VK} {w:World} (h:sh_199 a0 K w):callM prog 199 #[a0] K w:=
 calls_of_code (fun _=>0) (fn:=Tryz.f199) (rs:=[.tmp 2]) Tryz.func199 rfl rfl (by kernel_rfl) (nB rfl) (Eq.mp (by kernel_rfl) h)
def sh_217 (a0:Value) (K:VK) (w:World):Prop:=
 oM prog (.buildSlice 202 0 #[]) 202 [] (fun v6 w=>
 oM prog (.call (Go.Call.mk (.builtin .append) #[(.tmp 0),(.tmp 1)] #[202,202])) 202 [v6,a0] (fun v8 w=>
 oM prog (.buildSlice 202 1 #[(0,(.tmp 0))]) 202 [(.int .u8 128)] (fun v10 w=>
 oM prog (.call (Go.Call.mk (.builtin .append) #[(.tmp 0),(.tmp 1)] #[202,202])) 202 [v8,v10] (fun v11 w=>
 loopM [v11] w (fun J_5 m_6 l_7 u_l_7 w0_l_7=>(fun w=>(
 kN 202 (l_7.getD 0 undef) (fun v13 w=>
 kB .rem 3 3 v13 (.int .i64 64) (fun v14 w=>
 kC .neq 3 56 4 v14 (fun v15 w=>
 condM v15
 (oM prog (.buildSlice 202 1 #[(0,(.tmp 0))]) 202 [(.int .u8 0)] (fun v17 w=>
 oM prog (.call (Go.Call.mk (.builtin .append) #[(.tmp 0),(.tmp 1)] #[202,202])) 202 [(l_7.getD 0 undef),v17] (fun v18 w=>
 J_5 [v18] w ∧ m_6 [v18] w < m_6 l_7 w0_l_7) w) w)
 (kN 202 a0 (fun v20 w=>
 oM prog (.convert 3 150 (.tmp 0)) 150 [v20] (fun v21 w=>
 kB .mul 150 150 (.int .u64 8) v21 (fun v22 w=>
 loopM [(l_7.getD 0 undef),(.int .i64 56)] w (fun J_16 m_17 l_18 u_l_18 w0_l_18=>(fun w=>(
 kB .geq 3 4 (l_18.getD 1 undef) (.int .i64 0) (fun v24 w=>
 condM v24
 (oM prog (.binOp .shr 150 (.tmp 0) (.tmp 1) 3) 150 [v22,(l_18.getD 1 undef)] (fun v30 w=>
 oM prog (.convert 150 5 (.tmp 0)) 5 [v30] (fun v31 w=>
 oM prog (.buildSlice 202 1 #[(0,(.tmp 0))]) 202 [v31] (fun v32 w=>
 oM prog (.call (Go.Call.mk (.builtin .append) #[(.tmp 0),(.tmp 1)] #[202,202])) 202 [(l_18.getD 0 undef),v32] (fun v33 w=>
 kB .sub 3 3 (l_18.getD 1 undef) (.int .i64 8) (fun v26 w=>
 J_16 [v33,v26] w ∧ m_17 [v33,v26] w < m_17 l_18 w0_l_18) w) w) w) w) w)
 (K (l_18.getD 0 undef) w)) w)) w0_l_18)) w) w) w)) w) w) w)) w0_l_7)) w) w) w) w
theorem sh_217_ok {a0:Value} {K:VK} {w:World} (h:sh_217 a0 K w):callM prog 217 #[a0] K w:=
 calls_of_code (fun _=>0) (fn:=Tryz.f217) (rs:=[.tmp 2]) Tryz.func217 rfl rfl (by kernel_rfl) (nB rfl) (Eq.mp (by kernel_rfl) h)
def sh_218 (K:VK) (w:World):Prop:=
 oM prog (.buildSlice 230 8 #[(0,(.tmp 0)),(1,(.tmp 1)),(2,(.tmp 2)),(3,(.tmp 3)),(4,(.tmp 4)),(5,(.tmp 5)),(6,(.tmp 6)),(7,(.tmp 7))]) 230 [(.int .u32 1779033703),(.int .u32 3144134277),(.int .u32 1013904242),(.int .u32 2773480762),(.int .u32 1359893119),(.int .u32 2600822924),(.int .u32 528734635),(.int .u32 1541459225)] (fun v1 w=>
 K v1 w) w
theorem sh_218_ok {K:VK} {w:World} (h:sh_218 K w):callM prog 218 #[] K w:=
 calls_of_code (fun _=>0) (fn:=Tryz.f218) (rs:=[.tmp 0]) Tryz.func218 rfl rfl (by kernel_rfl) (nB rfl) (Eq.mp (by kernel_rfl) h)
def sh_219 (a0 a1:Value) (K:VK) (w:World):Prop:=
 callM prog 232 #[a1] (fun v16 w=>
 callM prog 233 #[] (fun v17 w=>
 oM prog (.buildSlice 230 0 #[]) 230 [] (fun v18 w=>
 oM prog (.call (Go.Call.mk (.builtin .append) #[(.tmp 0),(.tmp 1)] #[230,230])) 230 [v18,a0] (fun v20 w=>
 loopM [undef,undef,undef,undef,undef,v20,(.int .i64 0)] w (fun J_5 m_6 l_7 u_l_7 w0_l_7=>(fun w=>(
 kB .lss 3 4 (l_7.getD 6 undef) (.int .i64 64) (fun v22 w=>
 condM v22
 (quietM w (fun C_9=>(oQ prog (.indexAddr 230 (.tmp 0) (.tmp 1)) 0 [(l_7.getD 5 undef),(.int .i64 4)] C_9 (fun v26=>
 oQ prog (.load 223 (.tmp 0)) 223 [v26] C_9 (fun v27=>
 callQ prog 234 #[v27,(.int .i64 6)] C_9 (fun v28=>
 oQ prog (.indexAddr 230 (.tmp 0) (.tmp 1)) 0 [(l_7.getD 5 undef),(.int .i64 4)] C_9 (fun v30=>
 oQ prog (.load 223 (.tmp 0)) 223 [v30] C_9 (fun v31=>
 callQ prog 234 #[v31,(.int .i64 11)] C_9 (fun v32=>
 oQ prog (.binOp .xor 223 (.tmp 0) (.tmp 1) 223) 223 [v28,v32] C_9 (fun v33=>
 oQ prog (.indexAddr 230 (.tmp 0) (.tmp 1)) 0 [(l_7.getD 5 undef),(.int .i64 4)] C_9 (fun v35=>
 oQ prog (.load 223 (.tmp 0)) 223 [v35] C_9 (fun v36=>
 callQ prog 234 #[v36,(.int .i64 25)] C_9 (fun v37=>
 oQ prog (.binOp .xor 223 (.tmp 0) (.tmp 1) 223) 223 [v33,v37] C_9 (fun v38=>
 ∀ w,C_9 w → (quietM w (fun C_21=>(oQ prog (.indexAddr 230 (.tmp 0) (.tmp 1)) 0 [(l_7.getD 5 undef),(.int .i64 4)] C_21 (fun v40=>
 oQ prog (.load 223 (.tmp 0)) 223 [v40] C_21 (fun v41=>
 oQ prog (.indexAddr 230 (.tmp 0) (.tmp 1)) 0 [(l_7.getD 5 undef),(.int .i64 5)] C_21 (fun v43=>
 oQ prog (.load 223 (.tmp 0)) 223 [v43] C_21 (fun v44=>
 oQ prog (.binOp .and 223 (.tmp 0) (.tmp 1) 223) 223 [v41,v44] C_21 (fun v45=>
 oQ prog (.indexAddr 230 (.tmp 0) (.tmp 1)) 0 [(l_7.getD 5 undef),(.int .i64 4)] C_21 (fun v47=>
 oQ prog (.load 223 (.tmp 0)) 223 [v47] C_21 (fun v48=>
 oQ prog (.unOp .xor 223 (.tmp 0)) 223 [v48] C_21 (fun v49=>
 oQ prog (.indexAddr 230 (.tmp 0) (.tmp 1)) 0 [(l_7.getD 5 undef),(.int .i64 6)] C_21 (fun v51=>
 oQ prog (.load 223 (.tmp 0)) 223 [v51] C_21 (fun v52=>
 oQ prog (.binOp .and 223 (.tmp 0) (.tmp 1) 223) 223 [v49,v52] C_21 (fun v53=>
 oQ prog (.binOp .xor 223 (.tmp 0) (.tmp 1) 223) 223 [v45,v53] C_21 (fun v54=>
 ∀ w,C_21 w → (quietM w (fun C_34=>(oQ prog (.indexAddr 230 (.tmp 0) (.tmp 1)) 0 [(l_7.getD 5 undef),(.int .i64 7)] C_34 (fun v56=>
 oQ prog (.load 223 (.tmp 0)) 223 [v56] C_34 (fun v57=>
 oQ prog (.binOp .add 223 (.tmp 0) (.tmp 1) 223) 223 [v57,v38] C_34 (fun v59=>
 oQ prog (.binOp .add 223 (.tmp 0) (.tmp 1) 223) 223 [v59,v54] C_34 (fun v61=>
 oQ prog (.indexAddr 230 (.tmp 0) (.tmp 1)) 0 [v17,(l_7.getD 6 undef)] C_34 (fun v64=>
 oQ prog (.load 223 (.tmp 0)) 223 [v64] C_34 (fun v65=>
 oQ prog (.binOp .add 223 (.tmp 0) (.tmp 1) 223) 223 [v61,v65] C_34 (fun v66=>
 oQ prog (.indexAddr 230 (.tmp 0) (.tmp 1)) 0 [v16,(l_7.getD 6 undef)] C_34 (fun v69=>
 oQ prog (.load 223 (.tmp 0)) 223 [v69] C_34 (fun v70=>
 oQ prog (.binOp .add 223 (.tmp 0) (.tmp 1) 223) 223 [v66,v70] C_34 (fun v71=>
 ∀ w,C_34 w → (quietM w (fun C_45=>(oQ prog (.indexAddr 230 (.tmp 0) (.tmp 1)) 0 [(l_7.getD 5 undef),(.int .i64 0)] C_45 (fun v73=>
 oQ prog (.load 223 (.tmp 0)) 223 [v73] C_45 (fun v74=>
 callQ prog 234 #[v74,(.int .i64 2)] C_45 (fun v75=>
 oQ prog (.indexAddr 230 (.tmp 0) (.tmp 1)) 0 [(l_7.getD 5 undef),(.int .i64 0)] C_45 (fun v77=>
 oQ prog (.load 223 (.tmp 0)) 223 [v77] C_45 (fun v78=>
 callQ prog 234 #[v78,(.int .i64 13)] C_45 (fun v79=>
 oQ prog (.binOp .xor 223 (.tmp 0) (.tmp 1) 223) 223 [v75,v79] C_45 (fun v80=>
 oQ prog (.indexAddr 230 (.tmp 0) (.tmp 1)) 0 [(l_7.getD 5 undef),(.int .i64 0)] C_45 (fun v82=>
 oQ prog (.load 223 (.tmp 0)) 223 [v82] C_45 (fun v83=>
 callQ prog 234 #[v83,(.int .i64 22)] C_45 (fun v84=>
 oQ prog (.binOp .xor 223 (.tmp 0) (.tmp 1) 223) 223 [v80,v84] C_45 (fun v85=>
 ∀ w,C_45 w → (quietM w (fun C_57=>(oQ prog (.indexAddr 230 (.tmp 0) (.tmp 1)) 0 [(l_7.getD 5 undef),(.int .i64 0)] C_57 (fun v87=>
 oQ prog (.load 223 (.tmp 0)) 223 [v87] C_57 (fun v88=>
 oQ prog (.indexAddr 230 (.tmp 0) (.tmp 1)) 0 [(l_7.getD 5 undef),(.int .i64 1)] C_57 (fun v90=>
 oQ prog (.load 223 (.tmp 0)) 223 [v90] C_57 (fun v91=>
 oQ prog (.binOp .and 223 (.tmp 0) (.tmp 1) 223) 223 [v88,v91] C_57 (fun v92=>
 oQ prog (.indexAddr 230 (.tmp 0) (.tmp 1)) 0 [(l_7.getD 5 undef),(.int .i64 0)] C_57 (fun v94=>
 oQ prog (.load 223 (.tmp 0)) 223 [v94] C_57 (fun v95=>
 oQ prog (.indexAddr 230 (.tmp 0) (.tmp 1)) 0 [(l_7.getD 5 undef),(.int .i64 2)] C_57 (fun v97=>
 oQ prog (.load 223 (.tmp 0)) 223 [v97] C_57 (fun v98=>
 oQ prog (.binOp .and 223 (.tmp 0) (.tmp 1) 223) 223 [v95,v98] C_57 (fun v99=>
 oQ prog (.binOp .xor 223 (.tmp 0) (.tmp 1) 223) 223 [v92,v99] C_57 (fun v100=>
 oQ prog (.indexAddr 230 (.tmp 0) (.tmp 1)) 0 [(l_7.getD 5 undef),(.int .i64 1)] C_57 (fun v102=>
 oQ prog (.load 223 (.tmp 0)) 223 [v102] C_57 (fun v103=>
 oQ prog (.indexAddr 230 (.tmp 0) (.tmp 1)) 0 [(l_7.getD 5 undef),(.int .i64 2)] C_57 (fun v105=>
 oQ prog (.load 223 (.tmp 0)) 223 [v105] C_57 (fun v106=>
 oQ prog (.binOp .and 223 (.tmp 0) (.tmp 1) 223) 223 [v103,v106] C_57 (fun v107=>
 oQ prog (.binOp .xor 223 (.tmp 0) (.tmp 1) 223) 223 [v100,v107] C_57 (fun v108=>
 ∀ w,C_57 w → (heldM w (fun C_75 w=>(((true:Bool) = true) ∧ (pureH v71 C_75 (fun v109=>
 pureH v85 C_75 (fun v110=>
 jB .add 223 223 v109 v110 C_75 (fun v111=>
 pureH v108 C_75 (fun v112=>
 jB .add 223 223 v111 v112 C_75 (fun v113=>
 pureH (l_7.getD 5 undef) C_75 (fun v114=>
 jI 230 v114 (.int .i64 0) C_75 (fun v115=>
 jL 223 v115 C_75 (fun v116=>
 pureH (l_7.getD 5 undef) C_75 (fun v117=>
 jI 230 v117 (.int .i64 1) C_75 (fun v118=>
 jL 223 v118 C_75 (fun v119=>
 pureH (l_7.getD 5 undef) C_75 (fun v120=>
 jI 230 v120 (.int .i64 2) C_75 (fun v121=>
 jL 223 v121 C_75 (fun v122=>
 pureH (l_7.getD 5 undef) C_75 (fun v123=>
 jI 230 v123 (.int .i64 3) C_75 (fun v124=>
 jL 223 v124 C_75 (fun v125=>
 pureH v71 C_75 (fun v126=>
 jB .add 223 223 v125 v126 C_75 (fun v127=>
 pureH (l_7.getD 5 undef) C_75 (fun v128=>
 jI 230 v128 (.int .i64 4) C_75 (fun v129=>
 jL 223 v129 C_75 (fun v130=>
 pureH (l_7.getD 5 undef) C_75 (fun v131=>
 jI 230 v131 (.int .i64 5) C_75 (fun v132=>
 jL 223 v132 C_75 (fun v133=>
 pureH (l_7.getD 5 undef) C_75 (fun v134=>
 jI 230 v134 (.int .i64 6) C_75 (fun v135=>
 jL 223 v135 C_75 (fun v136=>
 ∃ S_104:World → WK,∀ w,C_75 w → (
 oM prog (.buildSlice 230 8 #[(0,(.tmp 0)),(1,(.tmp 1)),(2,(.tmp 2)),(3,(.tmp 3)),(4,(.tmp 4)),(5,(.tmp 5)),(6,(.tmp 6)),(7,(.tmp 7))]) 230 [v113,v116,v119,v122,v127,v130,v133,v136] (fun v137 w=>
 kB .add 3 3 (l_7.getD 6 undef) (.int .i64 1) (fun v24 w=>
 J_5 [v38,v54,v71,v85,v108,v137,v24] w ∧ m_6 [v38,v54,v71,v85,v108,v137,v24] w < m_6 l_7 w0_l_7) w) w)))))))))))))))))))))))))))))))))))))))))))))))))))))))))))))))))))))))))))))))))))))))))))))))))))))))))))))
 (loopM [(.int .i64 0)] w (fun J_107 m_108 l_109 u_l_109 w0_l_109=>(fun w=>(
 kB .lss 3 4 (l_109.getD 0 undef) (.int .i64 8) (fun v139 w=>
 condM v139
 (heldM w (fun C_111 w=>(((true:Bool) = true) ∧ (pureH (l_7.getD 5 undef) C_111 (fun v142=>
 pureH (l_109.getD 0 undef) C_111 (fun v143=>
 pureH (l_7.getD 5 undef) C_111 (fun v144=>
 pureH (l_109.getD 0 undef) C_111 (fun v145=>
 jI 230 v144 v145 C_111 (fun v146=>
 jL 223 v146 C_111 (fun v147=>
 pureH a0 C_111 (fun v148=>
 pureH (l_109.getD 0 undef) C_111 (fun v149=>
 jI 230 v148 v149 C_111 (fun v150=>
 jL 223 v150 C_111 (fun v151=>
 jB .add 223 223 v147 v151 C_111 (fun v152=>
 jI 230 v142 v143 C_111 (fun v153=>
 ∃ S_124:World → WK,∀ w,C_111 w → (
 kS 223 v153 v152 (fun _ w=>
 kB .add 3 3 (l_109.getD 0 undef) (.int .i64 1) (fun v141 w=>
 J_107 [v141] w ∧ m_108 [v141] w < m_108 l_109 w0_l_109) w) w)))))))))))))))))
 (K (l_7.getD 5 undef) w)) w)) w0_l_109))) w)) w0_l_7)) w) w) w) w
theorem sh_219_ok {a0 a1:Value} {K:VK} {w:World} (h:sh_219 a0 a1 K w):callM prog 219 #[a0,a1] K w:=
 calls_of_code (fun i=>bif Nat.beq i 7 then 0 else bif Nat.beq i 8 then 0 else bif Nat.beq i 9 then 0 else bif Nat.beq i 10 then 0 else bif Nat.beq i 11 then 0 else bif Nat.beq i 12 then .free [0,1,2,3,4,5,6,7,8,9,10,11,12,13,14,15,16,17,18,19,20,21,22,23,24,25,26,27] [] [28,29] else bif Nat.beq i 16 then .free [0,1,2,3,4,5,6,7,8,9,10,11] [] [12] else 0) (fn:=Tryz.f219) (rs:=[.tmp 4]) Tryz.func219 rfl rfl (by kernel_rfl) (nB rfl) (Eq.mp (by kernel_rfl) h)
def sh_232 (a0:Value) (K:VK) (w:World):Prop:=
 loopM [(.slice none 0 0),(.int .i64 0)] w (fun J_1 m_2 l_3 u_l_3 w0_l_3=>(fun w=>(
 kB .lss 3 4 (l_3.getD 1 undef) (.int .i64 16) (fun v11 w=>
 condM v11
 (heldM w (fun C_5 w=>(((true:Bool) = true) ∧ (pureH (l_3.getD 0 undef) C_5 (fun v14=>
 pureH a0 C_5 (fun v15=>
 pureH (l_3.getD 1 undef) C_5 (fun v16=>
 jB .mul 3 3 (.int .i64 4) v16 C_5 (fun v17=>
 jI 202 v15 v17 C_5 (fun v18=>
 jL 5 v18 C_5 (fun v19=>
 oH prog (.convert 5 223 (.tmp 0)) 223 [v19] C_5 (fun v20=>
 oH prog (.binOp .shl 223 (.tmp 0) (.tmp 1) 191) 223 [v20,(.int .u64 24)] C_5 (fun v21=>
 pureH a0 C_5 (fun v22=>
 pureH (l_3.getD 1 undef) C_5 (fun v23=>
 jB .mul 3 3 (.int .i64 4) v23 C_5 (fun v24=>
 jB .add 3 3 v24 (.int .i64 1) C_5 (fun v25=>
 jI 202 v22 v25 C_5 (fun v26=>
 jL 5 v26 C_5 (fun v27=>
 oH prog (.convert 5 223 (.tmp 0)) 223 [v27] C_5 (fun v28=>
 oH prog (.binOp .shl 223 (.tmp 0) (.tmp 1) 191) 223 [v28,(.int .u64 16)] C_5 (fun v29=>
 jB .or 223 223 v21 v29 C_5 (fun v30=>
 pureH a0 C_5 (fun v31=>
 pureH (l_3.getD 1 undef) C_5 (fun v32=>
 jB .mul 3 3 (.int .i64 4) v32 C_5 (fun v33=>
 jB .add 3 3 v33 (.int .i64 2) C_5 (fun v34=>
 jI 202 v31 v34 C_5 (fun v35=>
 jL 5 v35 C_5 (fun v36=>
 oH prog (.convert 5 223 (.tmp 0)) 223 [v36] C_5 (fun v37=>
 oH prog (.binOp .shl 223 (.tmp 0) (.tmp 1) 191) 223 [v37,(.int .u64 8)] C_5 (fun v38=>
 jB .or 223 223 v30 v38 C_5 (fun v39=>
 pureH a0 C_5 (fun v40=>
 pureH (l_3.getD 1 undef) C_5 (fun v41=>
 jB .mul 3 3 (.int .i64 4) v41 C_5 (fun v42=>
 jB .add 3 3 v42 (.int .i64 3) C_5 (fun v43=>
 jI 202 v40 v43 C_5 (fun v44=>
 jL 5 v44 C_5 (fun v45=>
 oH prog (.convert 5 223 (.tmp 0)) 223 [v45] C_5 (fun v46=>
 jB .or 223 223 v39 v46 C_5 (fun v47=>
 ∃ S_40:World → WK,∃ R_41:VK,(∀ v w w_1,S_40 w w_1 → R_41 v w → R_41 v w_1) ∧
 (∀ w,C_5 w → (oM prog (.buildSlice 230 1 #[(0,(.tmp 0))]) 230 [v47] (fun v w_1=>C_5 w_1 ∧ S_40 w w_1 ∧ R_41 v w_1) w)) ∧
 (∀ w,C_5 w → ∀ v48,R_41 v48 w → (
 oM prog (.call (Go.Call.mk (.builtin .append) #[(.tmp 0),(.tmp 1)] #[230,230])) 230 [v14,v48] (fun v49 w=>
 kB .add 3 3 (l_3.getD 1 undef) (.int .i64 1) (fun v13 w=>
 J_1 [v49,v13] w ∧ m_2 [v49,v13] w < m_2 l_3 w0_l_3) w) w))))))))))))))))))))))))))))))))))))))))
 (loopM [undef,undef,undef,undef,(l_3.getD 0 undef),(.int .i64 16)] w (fun J_45 m_46 l_47 u_l_47 w0_l_47=>(fun w=>(
 kB .lss 3 4 (l_47.getD 5 undef) (.int .i64 64) (fun v51 w=>
 condM v51
 (kB .sub 3 3 (l_47.getD 5 undef) (.int .i64 15) (fun v56 w=>
 kI 230 (l_47.getD 4 undef) v56 (fun v57 w=>
 kL 223 v57 (fun v58 w=>
 kB .sub 3 3 (l_47.getD 5 undef) (.int .i64 2) (fun v61 w=>
 kI 230 (l_47.getD 4 undef) v61 (fun v62 w=>
 kL 223 v62 (fun v63 w=>
 callM prog 234 #[v58,(.int .i64 7)] (fun v65 w=>
 callM prog 234 #[v58,(.int .i64 18)] (fun v67 w=>
 kB .xor 223 223 v65 v67 (fun v68 w=>
 oM prog (.binOp .shr 223 (.tmp 0) (.tmp 1) 191) 223 [v58,(.int .u64 3)] (fun v70 w=>
 kB .xor 223 223 v68 v70 (fun v71 w=>
 callM prog 234 #[v63,(.int .i64 17)] (fun v73 w=>
 callM prog 234 #[v63,(.int .i64 19)] (fun v75 w=>
 kB .xor 223 223 v73 v75 (fun v76 w=>
 oM prog (.binOp .shr 223 (.tmp 0) (.tmp 1) 191) 223 [v63,(.int .u64 10)] (fun v78 w=>
 kB .xor 223 223 v76 v78 (fun v79 w=>
 heldM w (fun C_65 w=>(((true:Bool) = true) ∧ (pureH (l_47.getD 4 undef) C_65 (fun v80=>
 pureH (l_47.getD 4 undef) C_65 (fun v81=>
 pureH (l_47.getD 5 undef) C_65 (fun v82=>
 jB .sub 3 3 v82 (.int .i64 16) C_65 (fun v83=>
 jI 230 v81 v83 C_65 (fun v84=>
 jL 223 v84 C_65 (fun v85=>
 pureH v71 C_65 (fun v86=>
 jB .add 223 223 v85 v86 C_65 (fun v87=>
 pureH (l_47.getD 4 undef) C_65 (fun v88=>
 pureH (l_47.getD 5 undef) C_65 (fun v89=>
 jB .sub 3 3 v89 (.int .i64 7) C_65 (fun v90=>
 jI 230 v88 v90 C_65 (fun v91=>
 jL 223 v91 C_65 (fun v92=>
 jB .add 223 223 v87 v92 C_65 (fun v93=>
 pureH v79 C_65 (fun v94=>
 jB .add 223 223 v93 v94 C_65 (fun v95=>
 ∃ S_82:World → WK,∃ R_83:VK,(∀ v w w_1,S_82 w w_1 → R_83 v w → R_83 v w_1) ∧
 (∀ w,C_65 w → (oM prog (.buildSlice 230 1 #[(0,(.tmp 0))]) 230 [v95] (fun v w_1=>C_65 w_1 ∧ S_82 w w_1 ∧ R_83 v w_1) w)) ∧
 (∀ w,C_65 w → ∀ v96,R_83 v96 w → (
 oM prog (.call (Go.Call.mk (.builtin .append) #[(.tmp 0),(.tmp 1)] #[230,230])) 230 [v80,v96] (fun v97 w=>
 kB .add 3 3 (l_47.getD 5 undef) (.int .i64 1) (fun v53 w=>
 J_45 [v58,v63,v71,v79,v97,v53] w ∧ m_46 [v58,v63,v71,v79,v97,v53] w < m_46 l_47 w0_l_47) w) w)))))))))))))))))))))) w) w) w) w) w) w) w) w) w) w) w) w) w) w) w) w)
 (K (l_47.getD 4 undef) w)) w)) w0_l_47))) w)) w0_l_3)
theorem sh_232_ok {a0:Value} {K:VK} {w:World} (h:sh_232 a0 K w):callM prog 232 #[a0] K w:=
 calls_of_code (fun i=>bif Nat.beq i 5 then .free [0,1,2,3,4,5,6,7,8,9,10,11,12,13,14,15,16,17,18,19,20,21,22,23,24,25,26,27,28,29,30,31,32,33] [34] [35,36] else bif Nat.beq i 13 then .free [0,1,2,3,4,5,6,7,8,9,10,11,12,13,14,15] [16] [17,18] else 0) (fn:=Tryz.f232) (rs:=[.tmp 2]) Tryz.func232 rfl rfl (by kernel_rfl) (nB rfl) (Eq.mp (by kernel_rfl) h)
def sh_233 (K:VK) (w:World):Prop:=
 oM prog (.buildSlice 230 64 #[(0,(.tmp 0)),(1,(.tmp 1)),(2,(.tmp 2)),(3,(.tmp 3)),(4,(.tmp 4)),(5,(.tmp 5)),(6,(.tmp 6)),(7,(.tmp 7)),(8,(.tmp 8)),(9,(.tmp 9)),(10,(.tmp 10)),(11,(.tmp 11)),(12,(.tmp 12)),(13,(.tmp 13)),(14,(.tmp 14)),(15,(.tmp 15)),(16,(.tmp 16)),(17,(.tmp 17)),(18,(.tmp 18)),(19,(.tmp 19)),(20,(.tmp 20)),(21,(.tmp 21)),(22,(.tmp 22)),(23,(.tmp 23)),(24,(.tmp 24)),(25,(.tmp 25)),(26,(.tmp 26)),(27,(.tmp 27)),(28,(.tmp 28)),(29,(.tmp 29)),(30,(.tmp 30)),(31,(.tmp 31)),(32,(.tmp 32)),(33,(.tmp 33)),(34,(.tmp 34)),(35,(.tmp 35)),(36,(.tmp 36)),(37,(.tmp 37)),(38,(.tmp 38)),(39,(.tmp 39)),(40,(.tmp 40)),(41,(.tmp 41)),(42,(.tmp 42)),(43,(.tmp 43)),(44,(.tmp 44)),(45,(.tmp 45)),(46,(.tmp 46)),(47,(.tmp 47)),(48,(.tmp 48)),(49,(.tmp 49)),(50,(.tmp 50)),(51,(.tmp 51)),(52,(.tmp 52)),(53,(.tmp 53)),(54,(.tmp 54)),(55,(.tmp 55)),(56,(.tmp 56)),(57,(.tmp 57)),(58,(.tmp 58)),(59,(.tmp 59)),(60,(.tmp 60)),(61,(.tmp 61)),(62,(.tmp 62)),(63,(.tmp 63))]) 230 [(.int .u32 1116352408),(.int .u32 1899447441),(.int .u32 3049323471),(.int .u32 3921009573),(.int .u32 961987163),(.int .u32 1508970993),(.int .u32 2453635748),(.int .u32 2870763221),(.int .u32 3624381080),(.int .u32 310598401),(.int .u32 607225278),(.int .u32 1426881987),(.int .u32 1925078388),(.int .u32 2162078206),(.int .u32 2614888103),(.int .u32 3248222580),(.int .u32 3835390401),(.int .u32 4022224774),(.int .u32 264347078),(.int .u32 604807628),(.int .u32 770255983),(.int .u32 1249150122),(.int .u32 1555081692),(.int .u32 1996064986),(.int .u32 2554220882),(.int .u32 2821834349),(.int .u32 2952996808),(.int .u32 3210313671),(.int .u32 3336571891),(.int .u32 3584528711),(.int .u32 113926993),(.int .u32 338241895),(.int .u32 666307205),(.int .u32 773529912),(.int .u32 1294757372),(.int .u32 1396182291),(.int .u32 1695183700),(.int .u32 1986661051),(.int .u32 2177026350),(.int .u32 2456956037),(.int .u32 2730485921),(.int .u32 2820302411),(.int .u32 3259730800),(.int .u32 3345764771),(.int .u32 3516065817),(.int .u32 3600352804),(.int .u32 4094571909),(.int .u32 275423344),(.int .u32 430227734),(.int .u32 506948616),(.int .u32 659060556),(.int .u32 883997877),(.int .u32 958139571),(.int .u32 1322822218),(.int .u32 1537002063),(.int .u32 1747873779),(.int .u32 1955562222),(.int .u32 2024104815),(.int .u32 2227730452),(.int .u32 2361852424),(.int .u32 2428436474),(.int .u32 2756734187),(.int .u32 3204031479),(.int .u32 3329325298)] (fun v1 w=>
 K v1 w) w
theorem sh_233_ok {K:VK} {w:World} (h:sh_233 K w):callM prog 233 #[] K w:=
 calls_of_code (fun _=>0) (fn:=Tryz.f233) (rs:=[.tmp 0]) Tryz.func233 rfl rfl (by kernel_rfl) (nB rfl) (Eq.mp (by kernel_rfl) h)
def sh_234 (a0 a1:Value) (K:VK) (w:World):Prop:=
 quietM w (fun C_1=>(oQ prog (.binOp .shr 223 (.tmp 0) (.tmp 1) 3) 223 [a0,a1] C_1 (fun v7=>
 oQ prog (.binOp .sub 3 (.tmp 0) (.tmp 1) 3) 3 [(.int .i64 32),a1] C_1 (fun v10=>
 oQ prog (.binOp .shl 223 (.tmp 0) (.tmp 1) 3) 223 [a0,v10] C_1 (fun v11=>
 oQ prog (.binOp .or 223 (.tmp 0) (.tmp 1) 223) 223 [v7,v11] C_1 (fun v12=>
 ∀ w,C_1 w → (K v12 w)))))))
theorem sh_234_ok {a0 a1:Value} {K:VK} {w:World} (h:sh_234 a0 a1 K w):callM prog 234 #[a0,a1] K w:=
 calls_of_code (fun _=>0) (fn:=Tryz.f234) (rs:=[.tmp 4]) Tryz.func234 rfl rfl (by kernel_rfl) (nB rfl) (Eq.mp (by kernel_rfl) h)
end Go.Proofs
namespace Go.Proofs
open Go Go.Sh Tryz
def held_119_7 (J_2:List Value → World → Prop) (K:VK) (a1:Value) (l_4:List Value) (m_3:List Value → World → Nat) (v3:Value) (w0_l_4 w:World):Prop:=
 heldM w (fun C_7 w=>(((true:Bool) = true) ∧ (jL 26 v3 C_7 (fun v14=>
 pureH a1 C_7 (fun v15=>
 pureH (l_4.getD 1 undef) C_7 (fun v16=>
 jI 24 v15 v16 C_7 (fun v17=>
 jL 3 v17 C_7 (fun v18=>
 ∃ S_13:World → WK,∀ w,C_7 w → (
 callM prog 85 #[v14,v18] (fun v19 w=>
 kU v19 (fun v20 w=>
 condM v20
 (K (.bool false) w)
 (kB .add 3 3 (l_4.getD 1 undef) (.int .i64 1) (fun v13 w=>
 J_2 [(l_4.getD 0 undef),v13] w ∧ m_3 [(l_4.getD 0 undef),v13] w < m_3 l_4 w0_l_4) w)) w) w)))))))))
def sh_119 (a0 a1 a2:Value) (K:VK) (w:World):Prop:=
 oM prog (.box 26 (.tmp 0)) 0 [a0] (fun v3 w=>
 loopM [(.bool false),(.int .i64 0)] w (fun J_2 m_3 l_4 u_l_4 w0_l_4=>(fun w=>(
 kN 24 a1 (fun v10 w=>
 kB .lss 3 4 (l_4.getD 1 undef) v10 (fun v11 w=>
 condM v11
 (held_119_7 J_2 K a1 l_4 m_3 v3 w0_l_4 w)
 (kN 24 a1 (fun v22 w=>
 kB .eql 3 4 v22 a2 (fun v24 w=>
 K v24 w) w) w)) w) w)) w0_l_4)) w
theorem sh_119_ok {a0 a1 a2:Value} {K:VK} {w:World} (h:sh_119 a0 a1 a2 K w):callM prog 119 #[a0,a1,a2] K w:=
 calls_of_code (fun _=>.free [0,1,2,3,4] [] [5,6]) (fn:=Tryz.f119) (rs:=[.tmp 6]) Tryz.func119 rfl rfl (by kernel_rfl) (nB rfl) (Eq.mp (by kernel_rfl) h)
def held_61_25 (J_18:List Value → World → Prop) (K:VK) (a2:Value) (l_20:List Value) (m_19:List Value → World → Nat) (v3 v4:Value) (w0_l_20 w:World):Prop:=
 heldM w (fun C_25 w=>(((true:Bool) = true) ∧ (jL 26 v3 C_25 (fun v32=>
 jF 69 1 v4 C_25 (fun v33=>
 jL 67 v33 C_25 (fun v34=>
 pureH (l_20.getD 1 undef) C_25 (fun v35=>
 jI 67 v34 v35 C_25 (fun v36=>
 jL 144 v36 C_25 (fun v37=>
 pureH a2 C_25 (fun v38=>
 jF 69 1 v4 C_25 (fun v40=>
 jL 67 v40 C_25 (fun v41=>
 pureH (l_20.getD 1 undef) C_25 (fun v42=>
 jI 67 v41 v42 C_25 (fun v43=>
 jF 144 0 v43 C_25 (fun v44=>
 jL 3 v44 C_25 (fun v45=>
 ∃ S_39:World → WK,∃ R_40:VK,(∀ v w w_1,S_39 w w_1 → R_40 v w → R_40 v w_1) ∧
 (∀ w,C_25 w → (callM prog 139 #[v32,v37,v38] (fun v w_1=>C_25 w_1 ∧ S_39 w w_1 ∧ R_40 v w_1) w)) ∧
 (∀ w,C_25 w → ∀ v39,R_40 v39 w → (
 kB .neq 3 4 v39 v45 (fun v46 w=>
 condM v46
 (K (.bool false) w)
 (kB .add 3 3 (l_20.getD 1 undef) (.int .i64 1) (fun v31 w=>
 J_18 [(l_20.getD 0 undef),v31] w ∧ m_19 [(l_20.getD 0 undef),v31] w < m_19 l_20 w0_l_20) w)) w))))))))))))))))))
def sh_61 (a0 a1 a2:Value) (K:VK) (w:World):Prop:=
 oM prog (.box 26 (.tmp 0)) 0 [a0] (fun v3 w=>
 oM prog (.box 69 (.tmp 0)) 0 [a1] (fun v4 w=>
 kL 26 v3 (fun v8 w=>
 callM prog 22 #[v8] (fun v9 w=>
 kU v9 (fun v10 w=>
 gF v10 (kL 26 v3) (fun v12 w=>
 gF v10 (kL 69 v4) (fun v13 w=>
 gF v10 (callM prog 113 #[v12,v13]) (fun v14 w=>
 gF v10 (kU v14) (fun v15 w=>
 kP v10 (.bool true) v15 (fun v16 w=>
 gF v16 (kL 26 v3) (fun v18 w=>
 gF v16 (pureM a2) (fun v19 w=>
 gF v16 (kF 69 0 v4) (fun v20 w=>
 gF v16 (kL 3 v20) (fun v21 w=>
 gF v16 (callM prog 119 #[v18,v19,v21]) (fun v22 w=>
 gF v16 (kU v22) (fun v23 w=>
 kP v16 (.bool true) v23 (fun v24 w=>
 condM v24
 (K (.bool false) w)
 (loopM [(.bool false),(.int .i64 0)] w (fun J_18 m_19 l_20 u_l_20 w0_l_20=>(fun w=>(
 kF 69 1 v4 (fun v26 w=>
 kL 67 v26 (fun v27 w=>
 kN 67 v27 (fun v28 w=>
 kB .lss 3 4 (l_20.getD 1 undef) v28 (fun v29 w=>
 condM v29
 (held_61_25 J_18 K a2 l_20 m_19 v3 v4 w0_l_20 w)
 (K (.bool true) w)) w) w) w) w)) w0_l_20))) w) w) w) w) w) w) w) w) w) w) w) w) w) w) w) w) w
theorem sh_61_ok {a0 a1 a2:Value} {K:VK} {w:World} (h:sh_61 a0 a1 a2 K w):callM prog 61 #[a0,a1,a2] K w:=
 calls_of_code (fun _=>.free [0,1,2,3,4,5,6,8,9,10,11,12,13] [7] [14]) (fn:=Tryz.f61) (rs:=[.tmp 6]) Tryz.func61 rfl rfl (by kernel_rfl) (nB rfl) (Eq.mp (by kernel_rfl) h)
def held_113_50 (J_43:List Value → World → Prop) (K:VK) (l_45:List Value) (m_44:List Value → World → Nat) (v2 v3 v6:Value) (w0_l_45 w:World):Prop:=
 heldM w (fun C_50 w=>(((true:Bool) = true) ∧ (jF 144 1 v6 C_50 (fun v59=>
 jL 142 v59 C_50 (fun v60=>
 pureH (l_45.getD 1 undef) C_50 (fun v61=>
 jI 142 v60 v61 C_50 (fun v62=>
 jF 146 0 v62 C_50 (fun v63=>
 jL 3 v63 C_50 (fun v64=>
 jB .lss 3 4 v64 (.int .i64 0) C_50 (fun v65=>
 pureH v65 C_50 (fun v66=>
 jG v66 (jF 144 1 v6) C_50 (fun v67=>
 jG v66 (jL 142 v67) C_50 (fun v68=>
 jG v66 (pureH (l_45.getD 1 undef)) C_50 (fun v69=>
 jG v66 (jI 142 v68 v69) C_50 (fun v70=>
 jG v66 (jF 146 0 v70) C_50 (fun v71=>
 jG v66 (jL 3 v71) C_50 (fun v72=>
 jG v66 (jF 69 0 v3) C_50 (fun v73=>
 jG v66 (jL 3 v73) C_50 (fun v74=>
 jG v66 (jB .geq 3 4 v72 v74) C_50 (fun v75=>
 jP v66 (.bool true) v75 C_50 (fun v76=>
 pureH v76 C_50 (fun v77=>
 jG v77 (jF 26 0 v2) C_50 (fun v78=>
 jG v77 (jL 23 v78) C_50 (fun v79=>
 jG v77 (jF 144 1 v6) C_50 (fun v80=>
 jG v77 (jL 142 v80) C_50 (fun v81=>
 jG v77 (pureH (l_45.getD 1 undef)) C_50 (fun v82=>
 jG v77 (jI 142 v81 v82) C_50 (fun v83=>
 jG v77 (jF 146 1 v83) C_50 (fun v84=>
 jG v77 (jL 3 v84) C_50 (fun v85=>
 ∃ S_78:World → WK,∀ w,C_50 w → (
 gF v77 (callM prog 146 #[v79,v85]) (fun v86 w=>
 gF v77 (kU v86) (fun v87 w=>
 kP v77 (.bool true) v87 (fun v88 w=>
 condM v88
 (K (.bool false) w)
 (kB .add 3 3 (l_45.getD 1 undef) (.int .i64 1) (fun v58 w=>
 J_43 [(l_45.getD 0 undef),v58] w ∧ m_44 [(l_45.getD 0 undef),v58] w < m_44 l_45 w0_l_45) w)) w) w) w)))))))))))))))))))))))))))))))
def loop_113_43 (J_20 J_43:List Value → World → Prop) (K:VK) (l_22 l_45:List Value) (m_21 m_44:List Value → World → Nat) (v2 v3 v6:Value) (w0_l_22 w0_l_45:World):Prop:=
(fun w=>(
 kF 144 1 v6 (fun v53 w=>
 kL 142 v53 (fun v54 w=>
 kN 142 v54 (fun v55 w=>
 kB .lss 3 4 (l_45.getD 1 undef) v55 (fun v56 w=>
 condM v56
 (held_113_50 J_43 K l_45 m_44 v2 v3 v6 w0_l_45 w)
 (kB .add 3 3 (l_22.getD 2 undef) (.int .i64 1) (fun v34 w=>
 J_20 [(l_45.getD 0 undef),(l_45.getD 1 undef),v34] w ∧ m_21 [(l_45.getD 0 undef),(l_45.getD 1 undef),v34] w < m_21 l_22 w0_l_22) w)) w) w) w) w)) w0_l_45
def loop_113_20 (J_20:List Value → World → Prop) (K:VK) (l_22:List Value) (m_21:List Value → World → Nat) (v2 v3:Value) (w0_l_22:World):Prop:=
(fun w=>(
 kF 69 1 v3 (fun v29 w=>
 kL 67 v29 (fun v30 w=>
 kN 67 v30 (fun v31 w=>
 kB .lss 3 4 (l_22.getD 2 undef) v31 (fun v32 w=>
 condM v32
 (kF 69 1 v3 (fun v35 w=>
 kL 67 v35 (fun v36 w=>
 kI 67 v36 (l_22.getD 2 undef) (fun v38 w=>
 kL 144 v38 (fun v39 w=>
 kA 144 (fun v6 w=>
 kS 144 v6 v39 (fun _ w=>
 kF 26 0 v2 (fun v40 w=>
 kL 23 v40 (fun v41 w=>
 kF 144 0 v6 (fun v42 w=>
 kL 3 v42 (fun v43 w=>
 callM prog 146 #[v41,v43] (fun v44 w=>
 kU v44 (fun v45 w=>
 gF v45 (kF 144 1 v6) (fun v47 w=>
 gF v45 (kL 142 v47) (fun v48 w=>
 gF v45 (kN 142 v48) (fun v49 w=>
 gF v45 (kB .gtr 3 4 v49 (.int .i64 80)) (fun v50 w=>
 kP v45 (.bool true) v50 (fun v51 w=>
 condM v51
 (K (.bool false) w)
 (loopM [(l_22.getD 0 undef),(.int .i64 0)] w (fun J_43 m_44 l_45 u_l_45 w0_l_45=>loop_113_43 J_20 J_43 K l_22 l_45 m_21 m_44 v2 v3 v6 w0_l_22 w0_l_45))) w) w) w) w) w) w) w) w) w) w) w) w) w) w) w) w) w)
 (K (.bool true) w)) w) w) w) w)) w0_l_22
def sh_113 (a0 a1:Value) (K:VK) (w:World):Prop:=
 oM prog (.box 26 (.tmp 0)) 0 [a0] (fun v2 w=>
 oM prog (.box 69 (.tmp 0)) 0 [a1] (fun v3 w=>
 kF 69 0 v3 (fun v8 w=>
 kL 3 v8 (fun v9 w=>
 kB .lss 3 4 v9 (.int .i64 0) (fun v10 w=>
 gF v10 (kF 69 0 v3) (fun v12 w=>
 gF v10 (kL 3 v12) (fun v13 w=>
 gF v10 (kB .gtr 3 4 v13 (.int .i64 120)) (fun v14 w=>
 kP v10 (.bool true) v14 (fun v15 w=>
 gF v15 (kF 69 1 v3) (fun v17 w=>
 gF v15 (kL 67 v17) (fun v18 w=>
 gF v15 (kN 67 v18) (fun v19 w=>
 gF v15 (kB .lss 3 4 v19 (.int .i64 1)) (fun v20 w=>
 kP v15 (.bool true) v20 (fun v21 w=>
 gF v21 (kF 69 1 v3) (fun v23 w=>
 gF v21 (kL 67 v23) (fun v24 w=>
 gF v21 (kN 67 v24) (fun v25 w=>
 gF v21 (kB .gtr 3 4 v25 (.int .i64 60)) (fun v26 w=>
 kP v21 (.bool true) v26 (fun v27 w=>
 condM v27
 (K (.bool false) w)
 (loopM [(.bool false),undef,(.int .i64 0)] w (fun J_20 m_21 l_22 u_l_22 w0_l_22=>loop_113_20 J_20 K l_22 m_21 v2 v3 w0_l_22))) w) w) w) w) w) w) w) w) w) w) w) w) w) w) w) w) w) w) w
theorem sh_113_ok {a0 a1:Value} {K:VK} {w:World} (h:sh_113 a0 a1 K w):callM prog 113 #[a0,a1] K w:=
 calls_of_code (fun _=>.free [0,1,2,3,4,5,6,7,8,9,10,11,12,13,14,15,16,17,18,19,20,21,22,23,24,25,26] [] [27,28,29]) (fn:=Tryz.f113) (rs:=[.tmp 4]) Tryz.func113 rfl rfl (by kernel_rfl) (nB rfl) (Eq.mp (by kernel_rfl) h)
def held_139_10 (J_3:List Value → World → Prop) (a2:Value) (l_5:List Value) (m_4:List Value → World → Nat) (v3 v4:Value) (w0_l_5 w:World):Prop:=
 heldM w (fun C_10 w=>(((true:Bool) = true) ∧ (jF 26 0 v3 C_10 (fun v16=>
 jL 23 v16 C_10 (fun v17=>
 pureH (l_5.getD 0 undef) C_10 (fun v18=>
 jF 26 0 v3 C_10 (fun v19=>
 jL 23 v19 C_10 (fun v20=>
 jF 144 1 v4 C_10 (fun v21=>
 jL 142 v21 C_10 (fun v22=>
 pureH (l_5.getD 1 undef) C_10 (fun v23=>
 jI 142 v22 v23 C_10 (fun v24=>
 jF 146 1 v24 C_10 (fun v25=>
 jL 3 v25 C_10 (fun v26=>
 pureH a2 C_10 (fun v27=>
 jF 144 1 v4 C_10 (fun v28=>
 jL 142 v28 C_10 (fun v29=>
 pureH (l_5.getD 1 undef) C_10 (fun v30=>
 jI 142 v29 v30 C_10 (fun v31=>
 jF 146 0 v31 C_10 (fun v32=>
 jL 3 v32 C_10 (fun v33=>
 jI 24 v27 v33 C_10 (fun v34=>
 jL 3 v34 C_10 (fun v35=>
 ∃ S_31:World → WK,∃ R_32:VK,(∀ v w w_1,S_31 w w_1 → R_32 v w → R_32 v w_1) ∧
 (∀ w,C_10 w → (callM prog 137 #[v20,v26,v35] (fun v w_1=>C_10 w_1 ∧ S_31 w w_1 ∧ R_32 v w_1) w)) ∧
 (∀ w,C_10 w → ∀ v36,R_32 v36 w → (
 callM prog 138 #[v17,v18,v36] (fun v37 w=>
 kB .add 3 3 (l_5.getD 1 undef) (.int .i64 1) (fun v15 w=>
 J_3 [v37,v15] w ∧ m_4 [v37,v15] w < m_4 l_5 w0_l_5) w) w)))))))))))))))))))))))))
def sh_139 (a0 a1 a2:Value) (K:VK) (w:World):Prop:=
 oM prog (.box 26 (.tmp 0)) 0 [a0] (fun v3 w=>
 oM prog (.box 144 (.tmp 0)) 0 [a1] (fun v4 w=>
 loopM [(.int .i64 1),(.int .i64 0)] w (fun J_3 m_4 l_5 u_l_5 w0_l_5=>(fun w=>(
 kF 144 1 v4 (fun v10 w=>
 kL 142 v10 (fun v11 w=>
 kN 142 v11 (fun v12 w=>
 kB .lss 3 4 (l_5.getD 1 undef) v12 (fun v13 w=>
 condM v13
 (held_139_10 J_3 a2 l_5 m_4 v3 v4 w0_l_5 w)
 (K (l_5.getD 0 undef) w)) w) w) w) w)) w0_l_5)) w) w
theorem sh_139_ok {a0 a1 a2:Value} {K:VK} {w:World} (h:sh_139 a0 a1 a2 K w):callM prog 139 #[a0,a1,a2] K w:=
 calls_of_code (fun _=>.free [0,1,2,3,4,5,6,7,8,9,10,11,12,13,14,15,16,17,18,19] [20] [21,22]) (fn:=Tryz.f139) (rs:=[.tmp 6]) Tryz.func139 rfl rfl (by kernel_rfl) (nB rfl) (Eq.mp (by kernel_rfl) h)
end Go.Proofs
namespace Go.Proofs
open Go Go.Sh Go.RowKit FdSpec TkSpec CodeSpec PrSpec FdPoly GrLaw
section
variable {K:VK} {w w' w0 W W' We W1 W2:World} {L:List (Addr × Value)} {g n B b i:Nat} {row:Option Nat}
theorem rExponent_ok (s:Stp) (x:Int) {v:Value} (hs:SetR w s v) (k:∀ w',Bw w w' → K (.bool (exponentM s x)) w'):callM Tryz.prog 85 #[stpV s v,.int .i64 x] K w:=by
 apply sh_85_ok
 unfold sh_85
 obtain ⟨ad,c,rfl⟩:=hs.ints.isSlice
 refine box_kn (cs:=stpC s (.slice ad s.bases.length c)) rfl (.start w) fun b1 W hk hb1 hbb=>?_
 have k:=k _ hk.below
 unfold exponentM at k
 by_cases h0:0 ≤ x
 ·by_cases h1:x < s.g.Q
  ·rw [decide_eq_true h0,decide_eq_true h1] at k
   refine Xa (An3 hk.cells @h0 @h1) ?_
   exact k
  ·rw [decide_eq_true h0,decide_eq_false h1] at k
   refine Xa (An3 hk.cells @h0 @h1) ?_
   exact k
 ·rw [decide_eq_false h0] at k
  refine Xa (An2 hk.cells @h0) ?_
  exact k
theorem exps_is (s:Stp) (l:List Int) (n:Int):exponentsM s l n = (l.all (exponentM s) && decide ((l.length:Int) = n)):=by
 unfold exponentsM
 rw [Bool.and_comm,List.all_eq_not_any_not]
theorem rExponents_ok (s:Stp) (n:Int) {v lv:Value} {l:List Int} (hs:SetR w s v) (hl:Ints w lv l) (k:∀ w',Bw w w' → K (.bool (exponentsM s l n)) w'):callM Tryz.prog 119 #[stpV s v,lv,.int .i64 n] K w:=by
 apply sh_119_ok
 unfold sh_119
 have hs':=hs
 obtain ⟨ad,c,rfl⟩:=hs.ints.isSlice
 have hl':=hl
 obtain ⟨lad,lc,rfl⟩:=hl.isSlice
 have hll:=hl'.len
 refine box_kn (cs:=stpC s (.slice ad s.bases.length c)) rfl (.start w) fun b1 W hk hb1 hbb=>?_
 clear hb1 hbb
 rw [exps_is] at k
 refine ⟨AlJk hk (exponentM s) l (l.all (exponentM s)),grMu l.length,⟨hk,_,0,rfl,by omega,by rw [List.drop_zero]⟩,?_⟩
 generalize l.all (exponentM s) = R at *
 rintro _ _ w3 ⟨hk,u,i,rfl,hi,ha⟩
 by_cases hin:i = l.length
 ·rw [List.drop_of_length_le (by omega),List.all_nil] at ha
  rw [← ha,bT] at k
  subst hin
  have k:=k _ hk.below
  generalize hq:decide ((l.length:Int) = n) = q at *
  refine Xa0 ?_
  rw [hq]
  exact k
 obtain ⟨b8,o8,rfl,hb8,ca,ra,_⟩:=hl'.at (i:=i) (by omega)
 rw [List.drop_eq_getElem_cons (by omega),List.all_cons] at ha
 generalize l[i] = x at *
 have hil:(i:Int) < l.length:=by omega
 refine Xa @hil ?_
 unfold held_119_7
 simp only [List.getD_cons_succ,List.getD_cons_zero]
 have hk9:=hk.drew
 refine ⟨Nx { w3 with drawn:=w3.drawn + 1 },bR,by trivial,?_⟩
 generalize ({ w3 with drawn:=w3.drawn + 1 }:World) = W9 at hk9 ⊢
 refine Xf (fun W0 hW0=>An2 ((hk9.next hW0).cells) (ca _ (hk9.next hW0).below)) @hil ?_
 refine ⟨Nx,fun w9 h9=>?_⟩
 have hk:=hk9.next h9
 refine Xa0 ?_
 refine rExponent_ok s x (hs'.next hk.below) (fun w10 h10=>?_)
 have hk:=hk.next h10
 cases hx:exponentM s x with
 | false=>
  rw [hx,bF] at ha
  rw [← ha,bF] at k
  refine Xa0 ?_
  exact k _ hk.below
 | true=>
  rw [hx,bT] at ha
  refine Xa0 ?_
  refine ⟨⟨hk,_,i + 1,rfl,by omega,ha⟩,?_⟩
  simp only [grMu_eq]; omega
def RlJ (w0:World) (L:List (Addr × Value)) (s:Stp) (vs:List Int) (l:List Trm) (R:Int) (us:List Value) (w':World):Prop:=Kn w0 L w' ∧ ∃ (o:Int) (i:Nat),us = [.int .i64 o,.int .i64 (i:Int)] ∧ i ≤ l.length ∧ prodL s.g o ((l.drop i).map fun t=>(t.base,vs.getD t.var.toNat 0)) = R
theorem rLeft_ok (s:Stp) (e:Eqn) (vs:List Int) {v ev lv:Value} (hs:SetR w s v) (he:SRow 2 TrmAt w ev e.terms) (hl:Ints w lv vs) (hlen:e.terms.length < 1000) (hv:∀ t ∈ e.terms,0 ≤ t.var ∧ t.var < vs.length) (hg:validS s = true)
  (k:∀ w',Bw w w' → K (.int .i64 (leftM s e vs)) w'):callM Tryz.prog 139 #[stpV s v,eqnV e ev,lv] K w:=by
 apply sh_139_ok
 unfold sh_139
 have hs':=hs
 have he':=he
 have hl':=hl
 obtain ⟨ad,c,rfl⟩:=hs.ints.isSlice
 obtain ⟨ead,ec,rfl⟩:=he.isSlice
 obtain ⟨lad,lc,rfl⟩:=hl.isSlice
 refine box_kn (cs:=stpC s (.slice ad s.bases.length c)) rfl (.start w) fun b1 W1 hk hb1 hbb=>?_
 refine box_kn (cs:=eqnC e (.slice ead e.terms.length ec)) rfl hk fun b2 W2 hk hb2 hbb=>?_
 clear hb1 hb2 hbb
 have hgv:=gv_setup hg
 have hq:=hgv.okQ
 have hp:okN s.g.P:=by have h1:=hgv.p; have h2:=hgv.q0; have h3:=hgv.q1; unfold okN; omega
 have hp1:1 % s.g.P = 1:=Int.emod_eq_of_lt (by decide) (by have:=hgv.p; have:=hgv.q0; omega)
 have eL:leftM s e vs = prodL s.g 1 (e.terms.map fun t=>(t.base,vs.getD t.var.toNat 0)):=by
  unfold leftM prodG
  rw [if_pos ⟨hp,hq,by simp⟩,hp1,List.zip_map']
 rw [eL] at k
 clear eL
 refine ⟨RlJ w (cellsOf (cellsOf [] b1 0 (stpC s (.slice ad s.bases.length c))) b2 0 (eqnC e (.slice ead e.terms.length ec))) s vs e.terms (prodL s.g 1 (e.terms.map fun t=>(t.base,vs.getD t.var.toNat 0))),grMu e.terms.length,⟨hk,1,0,rfl,by omega,by rw [List.drop_zero]⟩,?_⟩
 generalize prodL s.g 1 (e.terms.map fun t=>(t.base,vs.getD t.var.toNat 0)) = R at *
 rintro _ _ w3 ⟨hk,o,i,rfl,hi,ha⟩
 by_cases hin:i = e.terms.length
 ·rw [List.drop_of_length_le (by omega)] at ha
  have ha:o = R:=ha
  subst ha
  subst hin
  refine Xa hk.cells ?_
  exact k _ hk.below
 obtain ⟨b4,o4,rfl,hb4,d0,d1,di0,di1⟩:=(he'.next trm_stay hk.below).at (i:=i) (by omega)
 obtain ⟨hv0,hv1⟩:=hv _ (List.getElem_mem (show i < e.terms.length by omega))
 rw [List.drop_eq_getElem_cons (by omega)] at ha
 generalize e.terms[i] = t at *
 have hvt:t.var.toNat < vs.length:=by omega
 obtain ⟨b8,o8,rfl,hb8,ca,ra,_⟩:=hl'.at (i:=t.var.toNat) hvt
 have ha:prodL s.g (mulM s.g.P o (powerG s.g t.base (vs.getD t.var.toNat 0))) ((e.terms.drop (i + 1)).map fun t=>(t.base,vs.getD t.var.toNat 0)) = R:=ha
 rw [List.getD_eq_getElem?_getD,gE hvt,Option.getD_some] at ha
 generalize vs[t.var.toNat] = x at *
 have hil:(i:Int) < e.terms.length:=by omega
 refine Xa (An2 hk.cells @hil) ?_
 unfold held_139_10
 simp only [List.getD_cons_succ,List.getD_cons_zero]
 have hk9:=hk.drew
 have hodr:Below w3.heap.size w3 { w3 with drawn:=w3.drawn + 1 }:=.drawn
 refine ⟨Nx { w3 with drawn:=w3.drawn + 1 },bR,by trivial,?_⟩
 generalize ({ w3 with drawn:=w3.drawn + 1 }:World) = W9 at *
 refine Xf (fun W0 hW0=>An4 ((hk9.next hW0).cells) (((hodr.on hW0).cell hb4).trans d0) (((hodr.on hW0).cell hb4).trans d1) (ca _ (hk9.next hW0).below)) (An3 @hil @hv0 @hv1) ?_
 refine ⟨Nx,?_⟩
 apply monoE
 ·intro w1 h1
  exact rPower_ok s.g t.base x (fun w2 h2=>⟨h1.on h2,h2,rfl⟩)
 rintro w9 h9 _ rfl
 have hk:=hk9.next h9
 refine rTimes_ok s.g o _ (fun w10 h10=>?_)
 have hk:=hk.next h10
 refine Xa0 ?_
 refine ⟨⟨hk,_,i + 1,rfl,by omega,?_⟩,?_⟩
 ·unfold timesG
  rw [if_pos hq]
  exact ha
 ·simp only [grMu_eq]; omega
def AlJ3 {α:Type} (w0:World) (L:List (Addr × Value)) (p:α → Bool) (l:List α) (R:Bool) (vs:List Value) (w':World):Prop:=Kn w0 L w' ∧ ∃ (u v:Value) (i:Nat),vs = [u,v,.int .i64 (i:Int)] ∧ i ≤ l.length ∧ (l.drop i).all p = R
def grMu3 (n:Nat) (l:List Value) (_:World):Nat:=match l with | [_,_,.int _ i]=>n - i.toNat | _=>0
theorem grMu3_eq (n:Nat) (u v:Value) (k:IntKind) (i:Int) (w:World):grMu3 n [u,v,.int k i] w = n - i.toNat:=rfl
set_option maxHeartbeats 2000000 in
theorem rValidClaim_ok (s:Stp) (c:Clm) {v cv:Value} (hs:SetR w s v) (hc:ClmR w c cv) (k:∀ w',Bw w w' → K (.bool (claimM s c)) w'):callM Tryz.prog 113 #[stpV s v,clmV c cv] K w:=by
 apply sh_113_ok
 unfold sh_113
 have hs':=hs
 have hc':=hc
 obtain ⟨ad,ca,rfl⟩:=hs.ints.isSlice
 obtain ⟨ead,ec,rfl⟩:=hc.eqs.isSlice
 refine box_kn (cs:=stpC s (.slice ad s.bases.length ca)) rfl (.start w) fun b1 W1 hk hb1 hbb=>?_
 refine box_kn (cs:=clmC c (.slice ead c.eqs.length ec)) rfl hk fun b2 W2 hk hb2 hbb=>?_
 clear hb1 hb2 hbb
 have hel:=hc'.eqs.len
 have eC:claimM s c = (decide (0 ≤ c.vars) && decide (c.vars ≤ 120) && decide (1 ≤ c.eqs.length) && decide (c.eqs.length ≤ 60) && c.eqs.all (eqnFine s c.vars)):=rfl
 by_cases h1:c.vars < 0
 ·rw [decide_eq_false (by omega),bF,bF,bF,bF] at eC
  rw [eC] at k
  refine Xa (An2 hk.cells @h1) ?_
  exact k _ hk.below
 by_cases h2:120 < c.vars
 ·rw [decide_eq_false (by omega:¬ c.vars ≤ 120),Bool.and_false,bF,bF,bF] at eC
  rw [eC] at k
  refine Xa (An3 hk.cells @h1 @h2) ?_
  exact k _ hk.below
 by_cases h3:(c.eqs.length:Int) < 1
 ·rw [decide_eq_false (by omega:¬ 1 ≤ c.eqs.length),Bool.and_false,bF,bF] at eC
  rw [eC] at k
  refine Xa (An4 hk.cells @h1 @h2 @h3) ?_
  exact k _ hk.below
 by_cases h4:(60:Int) < c.eqs.length
 ·rw [decide_eq_false (by omega:¬ c.eqs.length ≤ 60),Bool.and_false,bF] at eC
  rw [eC] at k
  refine Xa (An5 hk.cells @h1 @h2 @h3 @h4) ?_
  exact k _ hk.below
 rw [decide_eq_true (by omega),decide_eq_true (by omega:c.vars ≤ 120),decide_eq_true (by omega:1 ≤ c.eqs.length),decide_eq_true (by omega:c.eqs.length ≤ 60)] at eC
 simp only [bT] at eC
 rw [eC] at k
 clear eC
 refine Xa (An5 hk.cells @h1 @h2 @h3 @h4) ?_
 refine ⟨AlJ3 w (cellsOf (cellsOf [] b1 0 (stpC s (.slice ad s.bases.length ca))) b2 0 (clmC c (.slice ead c.eqs.length ec))) (eqnFine s c.vars) c.eqs (c.eqs.all (eqnFine s c.vars)),grMu3 c.eqs.length,⟨hk,_,_,0,rfl,by omega,by rw [List.drop_zero]⟩,?_⟩
 generalize c.eqs.all (eqnFine s c.vars) = R at *
 rintro _ _ w3 ⟨hk,u,u',i,rfl,hi,ha⟩
 unfold loop_113_20
 by_cases hin:i = c.eqs.length
 ·rw [List.drop_of_length_le (by omega),List.all_nil] at ha
  subst hin
  refine Xa hk.cells ?_
  rw [ha]
  exact k _ hk.below
 rw [List.drop_eq_getElem_cons (by omega),List.all_cons] at ha
 obtain ⟨b3,o3,rfl,hb3,tv,c0,c1,htr,hti⟩:=(hc'.eqs.next eqn_stay hk.below).at (i:=i) (by omega)
 generalize c.eqs[i] = e at *
 obtain ⟨tad,tc,rfl⟩:=htr.isSlice
 have hic:(i:Int) < c.eqs.length:=by omega
 repeat (any_goals (first
 | ((with_reducible refine local_eqn e tad e.terms.length tc hk ?_); intro g13 W13 hk hb13 hg13)
 | (with_reducible refine yL ?_)
 | ((with_reducible refine oG fun X Y=>?_); simp [go_sem,hk.cells,c0,c1,hic]; apply Y; clear Y X)))
 have htr:=htr.next trm_stay hb13
 clear hb13 c0 c1
 refine Xa hk.cells ?_
 refine rElement_ok s.g e.target hs'.grp (fun w4 h4=>?_)
 have hk:=hk.next h4
 have htr:=htr.next trm_stay h4
 clear h4
 have eE:eqnFine s c.vars e = (elemG s.g e.target && decide (e.terms.length ≤ 80) && e.terms.all (trmFine s c.vars)):=rfl
 cases hel:elemG s.g e.target with
 | false=>
  rw [hel,bF,bF] at eE
  rw [eE,bF] at ha
  refine Xa hk.cells ?_
  rw [ha]
  exact k _ hk.below
 | true=>
 rw [hel,bT] at eE
 by_cases h8:(80:Int) < e.terms.length
 ·rw [decide_eq_false (by omega:¬ e.terms.length ≤ 80),bF] at eE
  rw [eE,bF] at ha
  refine Xa (An2 hk.cells @h8) ?_
  rw [ha]
  exact k _ hk.below
 rw [decide_eq_true (by omega:e.terms.length ≤ 80),bT] at eE
 rw [eE] at ha
 clear eE
 have htl:=htr.len
 refine Xa (An2 hk.cells @h8) ?_
 have hkk:=hk
 have htw:Kn w4 _ w4:=⟨bR,hk.cells⟩
 refine ⟨AlJk htw (trmFine s c.vars) e.terms (e.terms.all (trmFine s c.vars)),grMu e.terms.length,⟨htw,_,0,rfl,by omega,by rw [List.drop_zero]⟩,?_⟩
 generalize e.terms.all (trmFine s c.vars) = R2 at *
 rintro _ _ w5 ⟨hk2,u2,j,rfl,hj,hb⟩
 have hk:Kn w _ w5:=⟨hkk.below.on hk2.below,hk2.cells⟩
 unfold loop_113_43
 by_cases hjn:j = e.terms.length
 ·rw [List.drop_of_length_le (by omega),List.all_nil] at hb
  rw [← hb,bT] at ha
  subst hjn
  refine Xa hk.cells ?_
  refine ⟨⟨⟨hk.below,hk.cells.2.2⟩,_,_,i + 1,rfl,by omega,ha⟩,?_⟩
  simp only [grMu3_eq]; omega
 rw [List.drop_eq_getElem_cons (by omega),List.all_cons] at hb
 obtain ⟨b4,o4,rfl,hb4,d0,d1,di0,di1⟩:=(htr.next trm_stay hk2.below).at (i:=j) (by omega)
 generalize e.terms[j] = t at *
 have eT:trmFine s c.vars t = (decide (0 ≤ t.var) && decide (t.var < c.vars) && elemG s.g t.base):=rfl
 have hno:trmFine s c.vars t = false → K (.bool false) = K (.bool R):=fun h=>by
  rw [h,bF] at hb
  rw [← hb,bF] at ha
  rw [ha]
 have hjt:(j:Int) < e.terms.length:=by omega
 refine Xa (An2 hk.cells @hjt) ?_
 unfold held_113_50
 simp only [List.getD_cons_succ,List.getD_cons_zero]
 have hk9:=hk.drew
 have hodr:Below w5.heap.size w5 { w5 with drawn:=w5.drawn + 1 }:=.drawn
 refine ⟨Nx { w5 with drawn:=w5.drawn + 1 },bR,by trivial,?_⟩
 generalize ({ w5 with drawn:=w5.drawn + 1 }:World) = W9 at *
 by_cases g1:t.var < 0
 ·rw [decide_eq_false (by omega),bF,bF] at eT
  refine Xf (fun W0 hW0=>An3 ((hk9.next hW0).cells) (((hodr.on hW0).cell hb4).trans d0) (((hodr.on hW0).cell hb4).trans d1)) (An2 @hjt @g1) ?_
  refine ⟨Nx,fun w9 h9=>?_⟩
  refine Xa0 ?_
  rw [hno eT]
  exact k _ (hk9.next h9).below
 rw [decide_eq_true (by omega),bT] at eT
 by_cases g2:c.vars ≤ t.var
 ·rw [decide_eq_false (by omega),bF] at eT
  refine Xf (fun W0 hW0=>An3 ((hk9.next hW0).cells) (((hodr.on hW0).cell hb4).trans d0) (((hodr.on hW0).cell hb4).trans d1)) (An3 @hjt @g1 @g2) ?_
  refine ⟨Nx,fun w9 h9=>?_⟩
  refine Xa0 ?_
  rw [hno eT]
  exact k _ (hk9.next h9).below
 rw [decide_eq_true (by omega),bT] at eT
 refine Xf (fun W0 hW0=>An3 ((hk9.next hW0).cells) (((hodr.on hW0).cell hb4).trans d0) (((hodr.on hW0).cell hb4).trans d1)) (An3 @hjt @g1 @g2) ?_
 refine ⟨Nx,fun w9 h9=>?_⟩
 refine Xa0 ?_
 refine rElement_ok s.g t.base hs'.grp (fun w6 h6=>?_)
 have hk:=(hk9.next h9).next h6
 cases hel2:elemG s.g t.base with
 | false=>
  rw [hel2] at eT
  refine Xa hk.cells ?_
  rw [hno eT]
  exact k _ hk.below
 | true=>
  rw [hel2] at eT
  rw [eT,bT] at hb
  refine Xa hk.cells ?_
  refine ⟨⟨⟨((hk2.below.on hodr).on h9).on h6,hk.cells⟩,_,j + 1,rfl,by omega,hb⟩,?_⟩
  simp only [grMu_eq]; omega
set_option maxHeartbeats 2000000 in
theorem rHolds_ok (s:Stp) (c:Clm) (l:List Int) {v cv lv:Value} (hs:SetR w s v) (hc:ClmR w c cv) (hl:Ints w lv l)
  (k:∀ w',Bw w w' → K (.bool (HoldsM s c l)) w'):callM Tryz.prog 61 #[stpV s v,clmV c cv,lv] K w:=by
 apply sh_61_ok
 unfold sh_61
 have hs':=hs
 have hc':=hc
 have hl':=hl
 obtain ⟨ad,ca,rfl⟩:=hs.ints.isSlice
 obtain ⟨ead,ec,rfl⟩:=hc.eqs.isSlice
 obtain ⟨lad,lc,rfl⟩:=hl.isSlice
 refine box_kn (cs:=stpC s (.slice ad s.bases.length ca)) rfl (.start w) fun b1 W1 hk hb1 hbb=>?_
 refine box_kn (cs:=clmC c (.slice ead c.eqs.length ec)) rfl hk fun b2 W2 hk hb2 hbb=>?_
 clear hb1 hb2 hbb
 have eH:HoldsM s c l = (validS s && claimM s c && (exponentsM s l c.vars && c.eqs.all fun e=>decide (leftM s e l = e.target))):=by
  show (validS s && claimM s c && (exponentsM s l c.vars && !(c.eqs.any fun e=>!decide (leftM s e l = e.target)))) = _
  rw [List.all_eq_not_any_not]
 refine Xa hk.cells ?_
 refine rValidSetup_ok s (hs'.next hk.below) (fun w4 h4=>?_)
 have hk:=hk.next h4
 clear h4
 cases hv:validS s with
 | false=>
  rw [hv,bF,bF] at eH
  rw [eH] at k
  refine Xa hk.cells ?_
  exact k _ hk.below
 | true=>
 rw [hv,bT] at eH
 refine Xa hk.cells ?_
 refine rValidClaim_ok s c (hs'.next hk.below) (hc'.next hk.below) (fun w5 h5=>?_)
 have hk:=hk.next h5
 clear h5
 cases hcl:claimM s c with
 | false=>
  rw [hcl,bF] at eH
  rw [eH] at k
  refine Xa hk.cells ?_
  exact k _ hk.below
 | true=>
 rw [hcl,bT] at eH
 refine Xa hk.cells ?_
 refine rExponents_ok s c.vars (hs'.next hk.below) (hl'.next hk.below) (fun w6 h6=>?_)
 have hk:=hk.next h6
 clear h6
 cases hx:exponentsM s l c.vars with
 | false=>
  rw [hx,bF] at eH
  rw [eH] at k
  refine Xa hk.cells ?_
  exact k _ hk.below
 | true=>
 rw [hx,bT] at eH
 rw [eH] at k
 have hln:(l.length:Int) = c.vars:=by
  unfold exponentsM at hx
  simp only [bA,dE] at hx
  exact hx.1
 have hfit:=claim_fit hcl
 have hel:=hc'.eqs.len
 refine Xa hk.cells ?_
 refine ⟨AlJk hk (fun e=>decide (leftM s e l = e.target)) c.eqs (c.eqs.all fun e=>decide (leftM s e l = e.target)),grMu c.eqs.length,⟨hk,_,0,rfl,by omega,by rw [List.drop_zero]⟩,?_⟩
 generalize (c.eqs.all fun e=>decide (leftM s e l = e.target)) = R at *
 rintro _ _ w3 ⟨hk,u,i,rfl,hi,ha⟩
 by_cases hin:i = c.eqs.length
 ·rw [List.drop_of_length_le (by omega),List.all_nil] at ha
  subst hin
  refine Xa hk.cells ?_
  rw [ha]
  exact k _ hk.below
 rw [List.drop_eq_getElem_cons (by omega),List.all_cons] at ha
 obtain ⟨b3,o3,rfl,hb3,tv,c0,c1,htr,hti⟩:=(hc'.eqs.next eqn_stay hk.below).at (i:=i) (by omega)
 have hfe:=hfit _ (List.getElem_mem (show i < c.eqs.length by omega))
 generalize c.eqs[i] = e at *
 obtain ⟨tad,tc,rfl⟩:=htr.isSlice
 have hic:(i:Int) < c.eqs.length:=by omega
 refine Xa (An2 hk.cells @hic) ?_
 unfold held_61_25
 simp only [List.getD_cons_succ,List.getD_cons_zero]
 have hk9:=hk.drew
 have hodr:Below w3.heap.size w3 { w3 with drawn:=w3.drawn + 1 }:=.drawn
 refine ⟨Nx { w3 with drawn:=w3.drawn + 1 },bR,by trivial,?_⟩
 generalize ({ w3 with drawn:=w3.drawn + 1 }:World) = W9 at *
 refine Xf (fun W0 hW0=>An3 ((hk9.next hW0).cells) (((hodr.on hW0).cell hb3).trans c0) (((hodr.on hW0).cell hb3).trans c1)) @hic ?_
 refine ⟨Nx,?_⟩
 apply monoE
 ·intro w1 h1
  exact rLeft_ok s e l (hs'.next (hk9.next h1).below) (htr.next trm_stay (hodr.on h1)) (hl'.next (hk9.next h1).below) hfe.1 (fun t ht=>by have:=hfe.2 t ht; omega) hv (fun w2 h2=>⟨h1.on h2,h2,rfl⟩)
 rintro w9 h9 _ rfl
 have hk:=hk9.next h9
 by_cases heq:leftM s e l = e.target
 ·rw [decide_eq_true heq,bT] at ha
  refine Xa @heq ?_
  refine ⟨⟨hk,_,i + 1,rfl,by omega,ha⟩,?_⟩
  simp only [grMu_eq]; omega
 ·rw [decide_eq_false heq,bF] at ha
  rw [← ha] at k
  refine Xa @heq ?_
  exact k _ hk.below
end
end Go.Proofs
namespace PrSpec
open FdSpec TkSpec CodeSpec Go.Proofs
end PrSpec
namespace Go.Proofs
open Go Go.Sh Go.RowKit FdSpec TkSpec CodeSpec PrSpec FdPoly GrLaw
section
variable {K:VK} {w w' w0 W W' We W1 W2:World} {L:List (Addr × Value)} {g n B b i:Nat} {row:Option Nat}
def grMu4 (n:Nat) (l:List Value) (_:World):Nat:=match l with | [_,_,_,.int _ i]=>n - i.toNat | _=>0
theorem grMu4_eq (n:Nat) (u v x:Value) (k:IntKind) (i:Int) (w:World):grMu4 n [u,v,x,.int k i] w = n - i.toNat:=rfl
end
end Go.Proofs
namespace PrSpec
open FdSpec TkSpec CodeSpec Go.Proofs
end PrSpec
namespace Go.Proofs
open Go Go.Sh Tryz
end Go.Proofs
namespace Go.Proofs
open Go Go.Sh Go.RowKit FdSpec TkSpec CodeSpec PrSpec FdPoly GrLaw
section
variable {K:VK} {w w' w0 W W' We W1 W2:World} {L:List (Addr × Value)} {g n B b i:Nat} {row:Option Nat}
end
end Go.Proofs
namespace Go.Proofs
open Go Go.Sh Tryz
def held_26_82 (J_72:List Value → World → Prop) (l_48 l_74:List Value) (m_73:List Value → World → Nat) (v6:Value) (w0_l_74 w:World):Prop:=
 heldM w (fun C_82 w=>(((true:Bool) = true) ∧ (pureH (l_74.getD 0 undef) C_82 (fun v92=>
 jF 69 1 v6 C_82 (fun v93=>
 jL 67 v93 C_82 (fun v94=>
 pureH (l_48.getD 2 undef) C_82 (fun v95=>
 jI 67 v94 v95 C_82 (fun v96=>
 jF 144 1 v96 C_82 (fun v97=>
 jL 142 v97 C_82 (fun v98=>
 pureH (l_74.getD 1 undef) C_82 (fun v99=>
 jI 142 v98 v99 C_82 (fun v100=>
 jF 146 0 v100 C_82 (fun v101=>
 jL 3 v101 C_82 (fun v102=>
 jF 69 1 v6 C_82 (fun v103=>
 jL 67 v103 C_82 (fun v104=>
 pureH (l_48.getD 2 undef) C_82 (fun v105=>
 jI 67 v104 v105 C_82 (fun v106=>
 jF 144 1 v106 C_82 (fun v107=>
 jL 142 v107 C_82 (fun v108=>
 pureH (l_74.getD 1 undef) C_82 (fun v109=>
 jI 142 v108 v109 C_82 (fun v110=>
 jF 146 1 v110 C_82 (fun v111=>
 jL 3 v111 C_82 (fun v112=>
 ∃ S_104:World → WK,∃ R_105:VK,(∀ v w w_1,S_104 w w_1 → R_105 v w → R_105 v w_1) ∧
 (∀ w,C_82 w → (oM prog (.buildSlice 24 2 #[(0,(.tmp 0)),(1,(.tmp 1))]) 24 [v102,v112] (fun v w_1=>C_82 w_1 ∧ S_104 w w_1 ∧ R_105 v w_1) w)) ∧
 (∀ w,C_82 w → ∀ v113,R_105 v113 w → (
 oM prog (.call (Go.Call.mk (.builtin .append) #[(.tmp 0),(.tmp 1)] #[24,24])) 24 [v92,v113] (fun v114 w=>
 kB .add 3 3 (l_74.getD 1 undef) (.int .i64 1) (fun v91 w=>
 J_72 [v114,v91] w ∧ m_73 [v114,v91] w < m_73 l_74 w0_l_74) w) w))))))))))))))))))))))))))
def loop_26_72 (J_46 J_72:List Value → World → Prop) (l_48 l_74:List Value) (m_47 m_73:List Value → World → Nat) (v6:Value) (w0_l_48 w0_l_74:World):Prop:=
(fun w=>(
 kF 69 1 v6 (fun v82 w=>
 kL 67 v82 (fun v83 w=>
 kI 67 v83 (l_48.getD 2 undef) (fun v85 w=>
 kF 144 1 v85 (fun v86 w=>
 kL 142 v86 (fun v87 w=>
 kN 142 v87 (fun v88 w=>
 kB .lss 3 4 (l_74.getD 1 undef) v88 (fun v89 w=>
 condM v89
 (held_26_82 J_72 l_48 l_74 m_73 v6 w0_l_74 w)
 (kB .add 3 3 (l_48.getD 2 undef) (.int .i64 1) (fun v64 w=>
 J_46 [(l_74.getD 0 undef),(l_74.getD 1 undef),v64] w ∧ m_47 [(l_74.getD 0 undef),(l_74.getD 1 undef),v64] w < m_47 l_48 w0_l_48) w)) w) w) w) w) w) w) w)) w0_l_74
def held_26_53 (J_46:List Value → World → Prop) (l_48:List Value) (m_47:List Value → World → Nat) (v6:Value) (w0_l_48 w:World):Prop:=
 heldM w (fun C_53 w=>(((true:Bool) = true) ∧ (pureH (l_48.getD 0 undef) C_53 (fun v65=>
 jF 69 1 v6 C_53 (fun v66=>
 jL 67 v66 C_53 (fun v67=>
 pureH (l_48.getD 2 undef) C_53 (fun v68=>
 jI 67 v67 v68 C_53 (fun v69=>
 jF 144 0 v69 C_53 (fun v70=>
 jL 3 v70 C_53 (fun v71=>
 jF 69 1 v6 C_53 (fun v72=>
 jL 67 v72 C_53 (fun v73=>
 pureH (l_48.getD 2 undef) C_53 (fun v74=>
 jI 67 v73 v74 C_53 (fun v75=>
 jF 144 1 v75 C_53 (fun v76=>
 jL 142 v76 C_53 (fun v77=>
 jN 142 v77 C_53 (fun v78=>
 ∃ S_68:World → WK,∃ R_69:VK,(∀ v w w_1,S_68 w w_1 → R_69 v w → R_69 v w_1) ∧
 (∀ w,C_53 w → (oM prog (.buildSlice 24 2 #[(0,(.tmp 0)),(1,(.tmp 1))]) 24 [v71,v78] (fun v w_1=>C_53 w_1 ∧ S_68 w w_1 ∧ R_69 v w_1) w)) ∧
 (∀ w,C_53 w → ∀ v79,R_69 v79 w → (
 oM prog (.call (Go.Call.mk (.builtin .append) #[(.tmp 0),(.tmp 1)] #[24,24])) 24 [v65,v79] (fun v80 w=>
 loopM [v80,(.int .i64 0)] w (fun J_72 m_73 l_74 u_l_74 w0_l_74=>loop_26_72 J_46 J_72 l_48 l_74 m_47 m_73 v6 w0_l_48 w0_l_74)) w)))))))))))))))))))
def loop_26_46 (J_25 J_46:List Value → World → Prop) (l_27 l_48:List Value) (m_26 m_47:List Value → World → Nat) (v6:Value) (w0_l_27 w0_l_48:World):Prop:=
(fun w=>(
 kF 69 1 v6 (fun v59 w=>
 kL 67 v59 (fun v60 w=>
 kN 67 v60 (fun v61 w=>
 kB .lss 3 4 (l_48.getD 2 undef) v61 (fun v62 w=>
 condM v62
 (held_26_53 J_46 l_48 m_47 v6 w0_l_48 w)
 (kB .add 3 3 (l_27.getD 3 undef) (.int .i64 1) (fun v41 w=>
 J_25 [(l_48.getD 0 undef),(l_48.getD 2 undef),(l_48.getD 1 undef),v41] w ∧ m_26 [(l_48.getD 0 undef),(l_48.getD 2 undef),(l_48.getD 1 undef),v41] w < m_26 l_27 w0_l_27) w)) w) w) w) w)) w0_l_48
def loop_26_25 (J_25 J_3:List Value → World → Prop) (a0:Value) (l_27 l_5:List Value) (m_26 m_4:List Value → World → Nat) (w0_l_5 w0_l_27:World):Prop:=
(fun w=>(
 kI 27 a0 (l_5.getD 4 undef) (fun v35 w=>
 kF 65 1 v35 (fun v36 w=>
 kL 63 v36 (fun v37 w=>
 kN 63 v37 (fun v38 w=>
 kB .lss 3 4 (l_27.getD 3 undef) v38 (fun v39 w=>
 condM v39
 (kI 27 a0 (l_5.getD 4 undef) (fun v44 w=>
 kF 65 1 v44 (fun v45 w=>
 kL 63 v45 (fun v46 w=>
 kI 63 v46 (l_27.getD 3 undef) (fun v48 w=>
 kL 69 v48 (fun v49 w=>
 kA 69 (fun v6 w=>
 kS 69 v6 v49 (fun _ w=>
 kF 69 0 v6 (fun v51 w=>
 kL 3 v51 (fun v52 w=>
 kF 69 1 v6 (fun v53 w=>
 kL 67 v53 (fun v54 w=>
 kN 67 v54 (fun v55 w=>
 oM prog (.buildSlice 24 2 #[(0,(.tmp 0)),(1,(.tmp 1))]) 24 [v52,v55] (fun v56 w=>
 oM prog (.call (Go.Call.mk (.builtin .append) #[(.tmp 0),(.tmp 1)] #[24,24])) 24 [(l_27.getD 0 undef),v56] (fun v57 w=>
 loopM [v57,(l_27.getD 2 undef),(.int .i64 0)] w (fun J_46 m_47 l_48 u_l_48 w0_l_48=>loop_26_46 J_25 J_46 l_27 l_48 m_26 m_47 v6 w0_l_27 w0_l_48)) w) w) w) w) w) w) w) w) w) w) w) w) w) w)
 (kB .add 3 3 (l_5.getD 4 undef) (.int .i64 1) (fun v17 w=>
 J_3 [(l_27.getD 0 undef),(l_27.getD 3 undef),(l_27.getD 1 undef),(l_27.getD 2 undef),v17] w ∧ m_4 [(l_27.getD 0 undef),(l_27.getD 3 undef),(l_27.getD 1 undef),(l_27.getD 2 undef),v17] w < m_4 l_5 w0_l_5) w)) w) w) w) w) w)) w0_l_27
def held_26_8 (J_3:List Value → World → Prop) (a0:Value) (l_5:List Value) (m_4:List Value → World → Nat) (w0_l_5 w:World):Prop:=
 heldM w (fun C_8 w=>(((true:Bool) = true) ∧ (pureH (l_5.getD 0 undef) C_8 (fun v18=>
 pureH a0 C_8 (fun v19=>
 pureH (l_5.getD 4 undef) C_8 (fun v20=>
 jI 27 v19 v20 C_8 (fun v21=>
 jF 65 0 v21 C_8 (fun v22=>
 jL 3 v22 C_8 (fun v23=>
 pureH a0 C_8 (fun v24=>
 pureH (l_5.getD 4 undef) C_8 (fun v25=>
 jI 27 v24 v25 C_8 (fun v26=>
 jF 65 1 v26 C_8 (fun v27=>
 jL 63 v27 C_8 (fun v28=>
 jN 63 v28 C_8 (fun v29=>
 ∃ S_21:World → WK,∃ R_22:VK,(∀ v w w_1,S_21 w w_1 → R_22 v w → R_22 v w_1) ∧
 (∀ w,C_8 w → (oM prog (.buildSlice 24 2 #[(0,(.tmp 0)),(1,(.tmp 1))]) 24 [v23,v29] (fun v w_1=>C_8 w_1 ∧ S_21 w w_1 ∧ R_22 v w_1) w)) ∧
 (∀ w,C_8 w → ∀ v30,R_22 v30 w → (
 oM prog (.call (Go.Call.mk (.builtin .append) #[(.tmp 0),(.tmp 1)] #[24,24])) 24 [v18,v30] (fun v31 w=>
 loopM [v31,(l_5.getD 2 undef),(l_5.getD 3 undef),(.int .i64 0)] w (fun J_25 m_26 l_27 u_l_27 w0_l_27=>loop_26_25 J_25 J_3 a0 l_27 l_5 m_26 m_4 w0_l_5 w0_l_27)) w)))))))))))))))))
def sh_26 (a0:Value) (K:VK) (w:World):Prop:=
 kN 27 a0 (fun v10 w=>
 oM prog (.buildSlice 24 1 #[(0,(.tmp 0))]) 24 [v10] (fun v11 w=>
 loopM [v11,undef,undef,undef,(.int .i64 0)] w (fun J_3 m_4 l_5 u_l_5 w0_l_5=>(fun w=>(
 kN 27 a0 (fun v14 w=>
 kB .lss 3 4 (l_5.getD 4 undef) v14 (fun v15 w=>
 condM v15
 (held_26_8 J_3 a0 l_5 m_4 w0_l_5 w)
 (callM prog 115 #[(l_5.getD 0 undef)] (fun v116 w=>
 K v116 w) w)) w) w)) w0_l_5)) w) w
theorem sh_26_ok {a0:Value} {K:VK} {w:World} (h:sh_26 a0 K w):callM prog 26 #[a0] K w:=
 calls_of_code (fun i=>bif Nat.beq i 5 then .free [0,1,2,3,4,5,6,7,8,9,10,11] [12] [13,14] else bif Nat.beq i 14 then .free [0,1,2,3,4,5,6,7,8,9,10,11,12,13] [14] [15,16] else bif Nat.beq i 18 then .free [0,1,2,3,4,5,6,7,8,9,10,11,12,13,14,15,16,17,18,19,20] [21] [22,23] else 0) (fn:=Tryz.f26) (rs:=[.tmp 2]) Tryz.func26 rfl rfl (by kernel_rfl) (nB rfl) (Eq.mp (by kernel_rfl) h)
def held_64_30 (J_23:List Value → World → Prop) (a2 a3:Value) (l_25:List Value) (m_24:List Value → World → Nat) (v4 v5:Value) (w0_l_25 w:World):Prop:=
 heldM w (fun C_30 w=>(((true:Bool) = true) ∧ (pureH (l_25.getD 0 undef) C_30 (fun v41=>
 jF 26 0 v4 C_30 (fun v42=>
 jL 23 v42 C_30 (fun v43=>
 jL 26 v4 C_30 (fun v44=>
 jF 69 1 v5 C_30 (fun v45=>
 jL 67 v45 C_30 (fun v46=>
 pureH (l_25.getD 1 undef) C_30 (fun v47=>
 jI 67 v46 v47 C_30 (fun v48=>
 jL 144 v48 C_30 (fun v49=>
 pureH a3 C_30 (fun v50=>
 jF 26 0 v4 C_30 (fun v52=>
 jL 23 v52 C_30 (fun v53=>
 jF 69 1 v5 C_30 (fun v54=>
 jL 67 v54 C_30 (fun v55=>
 pureH (l_25.getD 1 undef) C_30 (fun v56=>
 jI 67 v55 v56 C_30 (fun v57=>
 jF 144 0 v57 C_30 (fun v58=>
 jL 3 v58 C_30 (fun v59=>
 pureH a2 C_30 (fun v60=>
 ∃ S_50:World → WK,∃ R_51:VK,(∀ v w w_1,S_50 w w_1 → R_51 v w → R_51 v w_1) ∧
 (∀ w,C_30 w → (callM prog 139 #[v44,v49,v50] (fun v w_1=>C_30 w_1 ∧ S_50 w w_1 ∧ R_51 v w_1) w)) ∧
 (∃ R_52:VK,(∀ v w w_1,S_50 w w_1 → R_52 v w → R_52 v w_1) ∧
 (∀ w,C_30 w → (callM prog 137 #[v53,v59,v60] (fun v w_1=>C_30 w_1 ∧ S_50 w w_1 ∧ R_52 v w_1) w)) ∧
 (∃ R_53:VK,(∀ v w w_1,S_50 w w_1 → R_53 v w → R_53 v w_1) ∧
 (∀ w,C_30 w → ∀ v51,R_51 v51 w → ∀ v61,R_52 v61 w → (callM prog 142 #[v43,v51,v61] (fun v w_1=>C_30 w_1 ∧ S_50 w w_1 ∧ R_53 v w_1) w)) ∧
 (∃ R_56:VK,(∀ v w w_1,S_50 w w_1 → R_56 v w → R_56 v w_1) ∧
 (∀ w,C_30 w → ∀ v62,R_53 v62 w → (oM prog (.buildSlice 24 1 #[(0,(.tmp 0))]) 24 [v62] (fun v w_1=>C_30 w_1 ∧ S_50 w w_1 ∧ R_56 v w_1) w)) ∧
 (∀ w,C_30 w → ∀ v51,R_51 v51 w → ∀ v61,R_52 v61 w → ∀ v62,R_53 v62 w → ∀ v63,R_56 v63 w → (
 oM prog (.call (Go.Call.mk (.builtin .append) #[(.tmp 0),(.tmp 1)] #[24,24])) 24 [v41,v63] (fun v64 w=>
 kB .add 3 3 (l_25.getD 1 undef) (.int .i64 1) (fun v40 w=>
 J_23 [v64,v40] w ∧ m_24 [v64,v40] w < m_24 l_25 w0_l_25) w) w)))))))))))))))))))))))))))
def sh_64 (a0 a1 a2 a3:Value) (K:VK) (w:World):Prop:=
 oM prog (.box 26 (.tmp 0)) 0 [a0] (fun v4 w=>
 oM prog (.box 69 (.tmp 0)) 0 [a1] (fun v5 w=>
 kL 26 v4 (fun v11 w=>
 callM prog 22 #[v11] (fun v12 w=>
 kU v12 (fun v13 w=>
 gF v13 (kL 26 v4) (fun v15 w=>
 gF v13 (kL 69 v5) (fun v16 w=>
 gF v13 (callM prog 113 #[v15,v16]) (fun v17 w=>
 gF v13 (kU v17) (fun v18 w=>
 kP v13 (.bool true) v18 (fun v19 w=>
 gF v19 (kL 26 v4) (fun v21 w=>
 gF v19 (pureM a2) (fun v22 w=>
 gF v19 (callM prog 85 #[v21,v22]) (fun v23 w=>
 gF v19 (kU v23) (fun v24 w=>
 kP v19 (.bool true) v24 (fun v25 w=>
 gF v25 (kL 26 v4) (fun v27 w=>
 gF v25 (pureM a3) (fun v28 w=>
 gF v25 (kF 69 0 v5) (fun v29 w=>
 gF v25 (kL 3 v29) (fun v30 w=>
 gF v25 (callM prog 119 #[v27,v28,v30]) (fun v31 w=>
 gF v25 (kU v31) (fun v32 w=>
 kP v25 (.bool true) v32 (fun v33 w=>
 condM v33
 (K (.slice none 0 0) w)
 (loopM [(.slice none 0 0),(.int .i64 0)] w (fun J_23 m_24 l_25 u_l_25 w0_l_25=>(fun w=>(
 kF 69 1 v5 (fun v35 w=>
 kL 67 v35 (fun v36 w=>
 kN 67 v36 (fun v37 w=>
 kB .lss 3 4 (l_25.getD 1 undef) v37 (fun v38 w=>
 condM v38
 (held_64_30 J_23 a2 a3 l_25 m_24 v4 v5 w0_l_25 w)
 (K (l_25.getD 0 undef) w)) w) w) w) w)) w0_l_25))) w) w) w) w) w) w) w) w) w) w) w) w) w) w) w) w) w) w) w) w) w) w
theorem sh_64_ok {a0 a1 a2 a3:Value} {K:VK} {w:World} (h:sh_64 a0 a1 a2 a3 K w):callM prog 64 #[a0,a1,a2,a3] K w:=
 calls_of_code (fun _=>.free [0,1,2,3,4,5,6,7,8,9,11,12,13,14,15,16,17,18,19] [10,20,21,22] [23,24]) (fn:=Tryz.f64) (rs:=[.tmp 8]) Tryz.func64 rfl rfl (by kernel_rfl) (nB rfl) (Eq.mp (by kernel_rfl) h)
end Go.Proofs
namespace FdPoly
open FdSpec
end FdPoly
namespace Go.Proofs
open Go Go.Sh Go.RowKit FdSpec TkSpec CodeSpec PrSpec FdPoly GrLaw
section
variable {K:VK} {w w' w0 W W' We W1 W2:World} {L:List (Addr × Value)} {g n B b i:Nat} {row:Option Nat}
end
end Go.Proofs
namespace Go.Proofs
open Go.Sh Tryz
def sh_176 (a0:Value) (K:VK) (w:World):Prop:=
 kB .rem 3 3 a0 (.int .i64 10) (fun v5 w=>
 kB .sub 3 3 (.int .i64 48) v5 (fun v6 w=>
 oM prog (.convert 3 5 (.tmp 0)) 5 [v6] (fun v7 w=>
 oM prog (.buildSlice 202 1 #[(0,(.tmp 0))]) 202 [v7] (fun v8 w=>
 oM prog (.convert 202 9 (.tmp 0)) 9 [v8] (fun v9 w=>
 kB .gtr 3 4 a0 (.int .i64 (-10)) (fun v11 w=>
 condM v11
 (K v9 w)
 (kB .quo 3 3 a0 (.int .i64 10) (fun v14 w=>
 callM prog 176 #[v14] (fun v15 w=>
 kB .add 9 9 v15 v9 (fun v17 w=>
 K v17 w) w) w) w)) w) w) w) w) w) w
theorem sh_176_ok {a0:Value} {K:VK} {w:World} (h:sh_176 a0 K w):callM prog 176 #[a0] K w:=
 calls_of_code (fun _=>0) (fn:=Tryz.f176) (rs:=[.tmp 2]) Tryz.func176 rfl rfl (by kernel_rfl) (nB rfl) (Eq.mp (by kernel_rfl) h)
def sh_177 (a0:Value) (K:VK) (w:World):Prop:=
 kB .lss 3 4 a0 (.int .i64 0) (fun v4 w=>
 condM v4
 (callM prog 176 #[a0] (fun v6 w=>
 oM prog (.binOp .add 9 (.tmp 0) (.tmp 1) 9) 9 [(.string ⟨#[45]⟩),v6] (fun v7 w=>
 oM prog (.binOp .add 9 (.tmp 0) (.tmp 1) 9) 9 [v7,(.string ⟨#[59]⟩)] (fun v8 w=>
 K v8 w) w) w) w)
 (oM prog (.unOp .neg 3 (.tmp 0)) 3 [a0] (fun v10 w=>
 callM prog 176 #[v10] (fun v11 w=>
 oM prog (.binOp .add 9 (.tmp 0) (.tmp 1) 9) 9 [v11,(.string ⟨#[59]⟩)] (fun v12 w=>
 K v12 w) w) w) w)) w
theorem sh_177_ok {a0:Value} {K:VK} {w:World} (h:sh_177 a0 K w):callM prog 177 #[a0] K w:=
 calls_of_code (fun _=>0) (fn:=Tryz.f177) (rs:=[.tmp 2]) Tryz.func177 rfl rfl (by kernel_rfl) (nB rfl) (Eq.mp (by kernel_rfl) h)
def sh_164 (a0:Value) (K:VK) (w:World):Prop:=
 kN 9 a0 (fun v4 w=>
 oM prog (.unOp .neg 3 (.tmp 0)) 3 [v4] (fun v5 w=>
 callM prog 176 #[v5] (fun v6 w=>
 oM prog (.binOp .add 9 (.tmp 0) (.tmp 1) 9) 9 [v6,(.string ⟨#[58]⟩)] (fun v7 w=>
 kB .add 9 9 v7 a0 (fun v9 w=>
 oM prog (.binOp .add 9 (.tmp 0) (.tmp 1) 9) 9 [v9,(.string ⟨#[44]⟩)] (fun v10 w=>
 K v10 w) w) w) w) w) w) w
theorem sh_164_ok {a0:Value} {K:VK} {w:World} (h:sh_164 a0 K w):callM prog 164 #[a0] K w:=
 calls_of_code (fun _=>0) (fn:=Tryz.f164) (rs:=[.tmp 2]) Tryz.func164 rfl rfl (by kernel_rfl) (nB rfl) (Eq.mp (by kernel_rfl) h)
def sh_115 (a0:Value) (K:VK) (w:World):Prop:=
 kN 24 a0 (fun v6 w=>
 oM prog (.unOp .neg 3 (.tmp 0)) 3 [v6] (fun v7 w=>
 callM prog 176 #[v7] (fun v8 w=>
 oM prog (.binOp .add 9 (.tmp 0) (.tmp 1) 9) 9 [v8,(.string ⟨#[91]⟩)] (fun v9 w=>
 loopM [v9,(.int .i64 0)] w (fun J_5 m_6 l_7 u_l_7 w0_l_7=>(fun w=>(
 kN 24 a0 (fun v12 w=>
 kB .lss 3 4 (l_7.getD 1 undef) v12 (fun v13 w=>
 condM v13
 (kI 24 a0 (l_7.getD 1 undef) (fun v19 w=>
 kL 3 v19 (fun v20 w=>
 callM prog 177 #[v20] (fun v21 w=>
 kB .add 9 9 (l_7.getD 0 undef) v21 (fun v22 w=>
 kB .add 3 3 (l_7.getD 1 undef) (.int .i64 1) (fun v15 w=>
 J_5 [v22,v15] w ∧ m_6 [v22,v15] w < m_6 l_7 w0_l_7) w) w) w) w) w)
 (oM prog (.binOp .add 9 (.tmp 0) (.tmp 1) 9) 9 [(l_7.getD 0 undef),(.string ⟨#[93]⟩)] (fun v24 w=>
 K v24 w) w)) w) w)) w0_l_7)) w) w) w) w
theorem sh_115_ok {a0:Value} {K:VK} {w:World} (h:sh_115 a0 K w):callM prog 115 #[a0] K w:=
 calls_of_code (fun _=>0) (fn:=Tryz.f115) (rs:=[.tmp 2]) Tryz.func115 rfl rfl (by kernel_rfl) (nB rfl) (Eq.mp (by kernel_rfl) h)
end Go.Proofs
namespace Go.Proofs.Cd
open Go Go.Sh Go.RowKit Go.Lib CodeSpec
theorem digits_ok (m:Nat) (hm:m ≤ 9223372036854775808) {K:VK} {w:World} (k:∀ w',Bw w w' → K (.string ⟨(decDigits m).toArray⟩) w'):callM Tryz.prog 176 #[.int .i64 (-(m:Int))] K w:=by
 induction m using Nat.strongRecOn generalizing K w with
 | ind m ih=>
 apply sh_176_ok
 unfold sh_176
 have hr:(-(m:Int)).tmod 10 = -((m % 10:Nat):Int):=by rw [Int.neg_tmod,Int.tmod_eq_emod_of_nonneg (by omega)]; omega
 have hq:(-(m:Int)).tdiv 10 = -((m / 10:Nat):Int):=by rw [Int.neg_tdiv,Int.tdiv_eq_ediv_of_nonneg (by omega)]; omega
 obtain ⟨d,hd⟩:∃ d,d = m % 10:=⟨_,rfl⟩
 obtain ⟨q,hqq⟩:∃ q,q = m / 10:=⟨_,rfl⟩
 rw [← hd] at hr
 rw [← hqq] at hq
 have hd10:d < 10:=by omega
 have hconv:(convert 202 9 (.slice (some ⟨w.heap.size,0,none⟩) 1 1)).run Tryz.prog (w.alloc (.cells #[.int .u8 (48 + (d:Int))] 5)) = .ok (.string ⟨[UInt8.ofNat (48 + d)].toArray⟩) (w.alloc (.cells #[.int .u8 (48 + (d:Int))] 5)):=by
  refine run_convert_bytes_back (P:=Tryz.prog) _ 202 9 5 ⟨w.heap.size,0,none⟩ 1 [UInt8.ofNat (48 + d)] Tryz.underlying202 (by kernel_rfl) Tryz.underlying9 ?_
  intro j hj
  obtain rfl:j = 0:=by simpa using hj
  have hdn:=digit_toNat d hd10
  rw [addr_add]
  unfold World.cell?
  rw [heap_alloc_new]
  simp only [List.getElem_cons_zero,hdn]
  simp
 have hba:Below w.heap.size w (w.alloc (.cells #[.int .u8 (48 + (d:Int))] 5)):=(bR).alloc (rL) _
 have hdl:=decDigits_len q 19 (by omega) (by omega)
 repeat (any_goals (first
 | (with_reducible ((refine idCond ?_); refine yP (fun hg=>?_) fun hg=>?_))
 | ((with_reducible refine oG fun X Y=>?_); simp [go_sem,hr,hq,hconv]; (try simp (disch:=omega) only [wrapI64,wrapU8,wrapU32,wrapU64]); apply Y; clear Y X)))
 ·refine K_eq (k _ hba) ?_
  have:m < 10:=by omega
  rw [decDigits,dif_pos this]
  have:d = m:=by omega
  rw [this]
  simp
 ·refine ih q (by omega) (by omega) ?_
  intro w' hb
  refine Xa0 ?_
  refine K_eq (k _ (hba.trans (hb.mono (by simp)))) ?_
  have:¬ m < 10:=by omega
  rw [decDigits.eq_def m,dif_neg this,hd,hqq]
  simp
theorem itoa_neg (n:Int) (h:n < 0):itoa n = 45 :: decDigits n.natAbs:=by rw [itoa,if_pos h]
theorem itoa_pos (n:Int) (h:¬ n < 0):itoa n = decDigits n.natAbs:=by
 rw [itoa,if_neg h]
 congr 1
 omega
theorem dig_len (n:Int) (h:InR n):(decDigits n.natAbs).length ≤ 19:=by
 obtain ⟨h1,h2⟩:=h
 exact decDigits_len n.natAbs 19 (by omega) (by omega)
theorem qInt_ok (n:Int) (hn:InR n) {K:VK} {w:World} (k:∀ w',Bw w w' → K (.string ⟨(encInt n).toArray⟩) w'):callM Tryz.prog 177 #[.int .i64 n] K w:=by
 apply sh_177_ok
 unfold sh_177
 have hl:=dig_len n hn
 have hn':=hn
 obtain ⟨h1,h2⟩:=hn'
 by_cases hneg:n < 0
 ·have e:n = -(n.natAbs:Int):=by omega
  refine Xa0 ?_
  conv=>enter [3]; rw [e]
  refine digits_ok n.natAbs (by omega) ?_
  intro w' hb
  refine Xa0 ?_
  exact K_eq (k _ hb) (by rw [encInt,itoa_neg n hneg]; simp)
 ·have e:-n = -(n.natAbs:Int):=by omega
  refine Xa0 ?_
  rw [e]
  refine digits_ok n.natAbs (by omega) ?_
  intro w' hb
  refine Xa0 ?_
  exact K_eq (k _ hb) (by rw [encInt,itoa_pos n hneg])
theorem itoa_nat (m:Nat):itoa (m:Int) = decDigits m:=by
 rw [itoa,if_neg (by omega)]; simp
theorem qText_ok (s:List UInt8) (hs:s.length < 2^60) {K:VK} {w:World} (k:∀ w',Bw w w' → K (.string ⟨(encText s).toArray⟩) w'):callM Tryz.prog 164 #[.string ⟨s.toArray⟩] K w:=by
 apply sh_164_ok
 unfold sh_164
 have hl:=decDigits_len s.length 19 (by omega) (by omega)
 refine Xa0 ?_
 refine digits_ok s.length (by omega) ?_
 intro w' hb
 refine Xa0 ?_
 exact K_eq (k _ hb) (by simp [encText,itoa_nat])
theorem qNums_ok (xs:List (Int)) (v:Value) {K:VK} {w:World} (hrow:RowOf intV w v xs) (hx:∀ x ∈ xs,InR x) (hlen:(encList (xs.map encInt)).length < 2^40)
  (k:∀ w',Bw w w' → K (.string ⟨(encList (xs.map encInt)).toArray⟩) w'):callM Tryz.prog 115 #[v] K w:=by
 apply sh_115_ok
 unfold sh_115
 have hsz:(encList (xs.map encInt)).length = (itoa (xs.length:Nat)).length + 1 + ((xs.map encInt).flatten).length + 1:=by simp [encList]; omega
 have hxl:xs.length ≤ (xs.map encInt).flatten.length:=by
  rw [List.length_flatten]
  clear hrow hlen hsz k
  induction xs with
  | nil=>simp
  | cons x xs ih=>
   have:=ih (fun y hy=>hx y (List.mem_cons_of_mem _ hy))
   have h1:1 ≤ (encInt x).length:=by simp [encInt]; try omega
   simp only [List.length_cons,List.map_cons,List.sum_cons]
   omega
 have hdl:=decDigits_len xs.length 19 (by omega) (by omega)
 obtain ⟨ad,c,rfl,hcell⟩:=hrow
 refine Xa0 ?_
 refine digits_ok xs.length (by omega) ?_
 intro w1 hb1
 refine Xa0 ?_
 refine ⟨fun l w'=>∃ (k:Nat),l = [.string ⟨(itoa (xs.length:Nat) ++ 91 :: ((xs.take k).map encInt).flatten).toArray⟩,.int .i64 k] ∧ k ≤ xs.length ∧ Bw w w',fun l _=>xs.length - (match l with | [_,.int _ n]=>n.toNat | _=>0),⟨0,by simp [itoa_nat],by omega,hb1⟩,?_⟩
 rintro _ _ w3 ⟨j,rfl,hj,hb3⟩
 have hz3:=hb3.size
 simp only [List.getD_cons_zero,List.getD_cons_succ]
 have hfl:=flat_le encInt xs j
 by_cases hlt:j < xs.length
 ·rcases hcell with rfl | ⟨b,o,rfl,hbw,hcells⟩
  ·simp at hlt
  have hc:=hcells j hlt
  rw [← hb3.cell hbw] at hc
  simp only [intV] at hc
  have hix:=idx22 (b:=b) (o:=o) (c:=c) hlt w3
  have hP:=hx xs[j] (List.getElem_mem hlt)
  have hfl1:=flat_le encInt xs (j + 1)
  rw [flat_snoc _ _ _ hlt,List.length_append] at hfl1
  have hgoal:∀ w4,Bw w3 w4 → ∃ k:Nat,([Value.string ⟨((itoa (xs.length:Nat) ++ 91 :: ((xs.take j).map encInt).flatten) ++ encInt xs[j]).toArray⟩,Value.int .i64 ((j:Int) + 1)] = [.string ⟨(itoa (xs.length:Nat) ++ 91 :: ((xs.take k).map encInt).flatten).toArray⟩,.int .i64 (k:Int)]) ∧ k ≤ xs.length ∧ Bw w w4:=
   fun w4 hb4=>⟨j + 1,by rw [flat_snoc _ _ _ hlt]; simp,hlt,hb3.trans (hb4.mono hz3)⟩
  obtain ⟨F,hF⟩:∃ F,F = itoa (xs.length:Nat) ++ 91 :: ((xs.take j).map encInt).flatten:=⟨_,rfl⟩
  have hFl:F.length ≤ 2^41:=by rw [hF,List.length_append,List.length_cons]; omega
  obtain ⟨E,hE⟩:∃ E,E = encInt xs[j]:=⟨_,rfl⟩
  rw [← hF,← hE] at hgoal
  rw [← hE] at hfl1
  rw [← hF]
  repeat (any_goals (first
  | (rw [kI,oM_indexAddr,hix,rM_ok])
  | (with_reducible refine yN ?_)
  | ((with_reducible refine oG fun X Y=>?_); simp [go_sem,hc]; apply Y; clear Y X)))
  refine qInt_ok _ hP ?_
  intro w4 hb4
  rw [← hE]
  refine Xa0 ?_
  exact ⟨hgoal w4 hb4,by simp; omega⟩
 ·obtain rfl:j = xs.length:=by omega
  rw [List.take_length] at hfl ⊢
  have hfin:∀ F,F = itoa (xs.length:Nat) ++ 91 :: ((xs.map encInt).flatten) → encList (xs.map encInt) = F ++ [93] ∧ F.length < 2^41:=by
   rintro F rfl
   refine ⟨by simp [encList],?_⟩
   rw [List.length_append,List.length_cons]; omega
  generalize itoa (xs.length:Nat) ++ 91 :: ((xs.map encInt).flatten) = F at *
  obtain ⟨hf1,hf2⟩:=hfin F rfl
  refine Xa0 ?_
  exact K_eq (k _ hb3) (by rw [hf1])
end Go.Proofs.Cd
namespace Go.Proofs
open Go Go.Sh Go.RowKit FdSpec TkSpec CodeSpec PrSpec FdPoly GrLaw
section
variable {K:VK} {w w' w0 W W' We W1 W2:World} {L:List (Addr × Value)} {g n B b i:Nat} {row:Option Nat}
theorem inv_pow (n y:Int):(invM n y).getD 0 = powM n y (-1):=by
 unfold powM
 by_cases hn:okN n
 ·rw [if_pos hn,if_neg (by decide)]
  cases hi:invM n y with
  | none=>rfl
  | some x=>
   have hx:0 ≤ x ∧ x < n:=by
    unfold invM at hi
    rw [if_pos hn] at hi
    split at hi
    ·cases hi
     exact ⟨Int.emod_nonneg _ (by have:=hn.1; omega),Int.emod_lt_of_pos _ (by have:=hn.1; omega)⟩
    ·cases hi
   show x = pw n x 1
   unfold pw
   have:x ^ 1 = x:=by rw [show (1:Nat) = 0 + 1 from rfl,Int.pow_succ,Int.pow_zero,Int.one_mul]
   rw [this,Int.emod_eq_of_lt hx.1 hx.2]
 ·unfold invM
  rw [if_neg hn,if_neg hn]; rfl
theorem mul_one' {n x:Int} (hn:okN n) (hx:0 ≤ x ∧ x < n):mulM n x (pw n x 0) = x:=by
 unfold mulM pw
 rw [if_pos hn,Int.pow_zero,Int.mul_emod,Int.emod_emod_of_dvd _ (Int.dvd_refl n),← Int.mul_emod,Int.mul_one,Int.emod_eq_of_lt hx.1 hx.2]
theorem rPowInv_ok (n y:Int) (k:K (.int .i64 (powM n y (-1))) w):callM Tryz.prog 188 #[.int .i64 n,.int .i64 y,.int .i64 (-1)] K w:=by
 apply sh_188_ok
 unfold sh_188
 rw [← inv_pow] at k
 refine rValid_ok n ?_
 by_cases hn:okN n
 ·refine Xa0 ?_
  refine rInv_ok n y ?_
  cases hi:invM n y with
  | none=>
   rw [hi] at k
   refine Xa0 ?_
   exact k
  | some x=>
   rw [hi] at k
   have hx:0 ≤ x ∧ x < n:=by
    unfold invM at hi
    rw [if_pos hn] at hi
    split at hi
    ·cases hi
     exact ⟨Int.emod_nonneg _ (by have:=hn.1; omega),Int.emod_lt_of_pos _ (by have:=hn.1; omega)⟩
    ·cases hi
   refine Xa0 ?_
   refine rpow_ok n x 0 hn (by omega) ?_
   refine Xa0 ?_
   refine rMul_ok n x _ ?_
   rw [mul_one' hn hx]
   exact k
 ·rw [show (invM n y).getD 0 = 0 by unfold invM; rw [if_neg hn]; rfl] at k
  refine Xa0 ?_
  exact k
theorem rOver_ok (g:Grp) (a b:Int) (k:∀ w',Bw w w' → K (.int .i64 (overG g a b)) w'):callM Tryz.prog 142 #[grpV g,.int .i64 a,.int .i64 b] K w:=by
 apply sh_142_ok
 unfold sh_142
 refine box_kn (cs:=grpC g) rfl (.start w) fun b1 W hk hb1 hb=>?_
 unfold overG timesG at k
 refine Xa hk.cells ?_
 refine rValid_ok g.Q ?_
 by_cases hq:okN g.Q
 ·rw [if_pos hq] at k
  refine Xa hk.cells ?_
  refine ⟨Kn w _,hk.drew,rfl,?_⟩
  repeat (any_goals (first
  | (with_reducible refine pX ?_)
  | ((with_reducible refine idOH ?_); (with_reducible refine oH_of ⟨_,rfl⟩ (fun W0 hW0=>by (refine oG (fun X Y=>?_)); simp [go_sem,hW0.cells]; (first | exact Y _ _ ⟨rfl,rfl⟩ | exact ⟨by omega,Y _ _ ⟨rfl,rfl⟩⟩)) ?_))))
  refine ⟨Nx,?_⟩
  apply monoE
  ·(intro w9 h9; repeat (intro v9 e9; try (obtain rfl:=e9)))
   refine Xa0 ?_
   exact rPowInv_ok _ _ ⟨h9,bR,rfl⟩
  (intro w9 h9; repeat (intro v9 e9; try (obtain rfl:=e9)))
  refine Xa0 ?_
  refine rMul_ok g.P a _ ?_
  exact k _ h9.below
 ·rw [if_neg hq] at k
  refine Xa hk.cells ?_
  exact k _ hk.below
def RsiJ (l:List Int) (w0 W1:World) (vs:List Value) (W:World):Prop:=Bw W1 W ∧ ∃ (v:Value) (i:Nat),vs = [v,.int .i64 (i:Int)] ∧ i ≤ l.length ∧ OwnI W W1.heap.size v (l.take i)
set_option maxHeartbeats 1000000 in
theorem rSimulate_ok (s:Stp) (c:Clm) (dare:Int) (an:List Int) {sv cv av:Value} (hs:SetR w s sv) (hc:ClmR w c cv) (hd:I64 dare) (ha:Ints w av an)
  (k:∀ v w',Bw w w' → Ints w' v (simM s c dare an) → K v w'):callM Tryz.prog 64 #[stpV s sv,clmV c cv,.int .i64 dare,av] K w:=by
 apply sh_64_ok
 unfold sh_64
 have hs':=hs
 have hc':=hc
 obtain ⟨ad,cc,rfl⟩:=hs.ints.isSlice
 obtain ⟨ead,ec,rfl⟩:=hc.eqs.isSlice
 refine box_kn (cs:=stpC s (.slice ad s.bases.length cc)) rfl (.start w) fun b1 W hk hb1 hbb=>?_
 refine box_kn (cs:=clmC c (.slice ead c.eqs.length ec)) rfl hk fun b2 W hk hb2 hbb2=>?_
 clear hb1 hb2
 have no:simM s c dare an = [] → ∀ w',Bw w w' → K (.slice none 0 0) w':=fun e w' h=>by
  have:=k (.slice none 0 0) w' h
  rw [e] at this
  exact this (Ints.nil _)
 refine Xa hk.cells ?_
 refine rValidSetup_ok s (hs'.next hk.below) (fun w2 h2=>?_)
 have hk:=hk.next h2
 cases hv:validS s with
 | false=>
  refine Xa0 ?_
  exact no (by simp [simM,hv]) _ hk.below
 | true=>
 refine Xa hk.cells ?_
 refine rValidClaim_ok s c (hs'.next hk.below) (hc'.next hk.below) (fun w2 h2=>?_)
 have hk:=hk.next h2
 cases hcm:claimM s c with
 | false=>
  refine Xa0 ?_
  exact no (by simp [simM,hcm]) _ hk.below
 | true=>
 refine Xa hk.cells ?_
 refine rExponent_ok s dare (hs'.next hk.below) (fun w2 h2=>?_)
 have hk:=hk.next h2
 cases hem:exponentM s dare with
 | false=>
  refine Xa0 ?_
  exact no (by simp [simM,hem]) _ hk.below
 | true=>
 refine Xa hk.cells ?_
 refine rExponents_ok s c.vars (hs'.next hk.below) (ha.next hk.below) (fun wE h2=>?_)
 have hk:=hk.next h2
 cases hes:exponentsM s an c.vars with
 | false=>
  refine Xa0 ?_
  exact no (by simp [simM,hes]) _ hk.below
 | true=>
 refine Xa hk.cells ?_
 have e:simM s c dare an = commitsM s c dare an:=by simp [simM,hv,hcm,hem,hes]
 rw [e] at k
 clear no e
 have hcf:=claim_fit hcm
 have hlen:(an.length:Int) = c.vars:=by
  simp only [exponentsM,bA,dE] at hes
  exact hes.1
 have hcm2:=hcm
 simp only [claimM,bA,dE] at hcm2
 have hcl:(commitsM s c dare an).length = c.eqs.length:=by simp [commitsM]
 have hI:∀ x ∈ commitsM s c dare an,I64 x:=by
  intro x hx
  unfold commitsM at hx
  obtain ⟨e,_,rfl⟩:=List.mem_map.1 hx
  exact overG_I64 _ _ _
 refine ⟨RsiJ (commitsM s c dare an) w wE,grMu c.eqs.length,⟨bR,_,0,rfl,by omega,own_none⟩,?_⟩
 rintro _ _ w6 ⟨h6,v,i,rfl,hi,ho⟩
 rw [hcl] at hi
 have hk6:=hk.next h6
 by_cases hin:i = c.eqs.length
 ·subst hin
  refine Xa hk6.cells ?_
  rw [List.take_of_length_le (by omega)] at ho
  exact k _ _ hk6.below (ho.ints hI (by omega))
 have ee:c.eqs[i]? = some c.eqs[i]:=gE (by omega)
 have hfe:=hcf _ (List.getElem_mem (by omega:i < c.eqs.length))
 have hst:(commitsM s c dare an)[i]? = some (overG s.g (leftM s c.eqs[i] an) (powerG s.g c.eqs[i].target dare)):=by
  unfold commitsM
  rw [List.getElem?_map,ee]
  rfl
 obtain ⟨bC,oC,rfl,hltC,cvC,c0C,c1C,hrowC,hIC⟩:=hc'.eqs.at (i:=i) (by omega)
 generalize c.eqs[i] = e at *
 obtain ⟨cadC,ccC,rfl⟩:=id hrowC.isSlice
 have hllC:(i:Int) < c.eqs.length:=by omega
 refine Xa (An2 hk6.cells @hllC) ?_
 unfold held_64_30
 simp only [List.getD_cons_succ,List.getD_cons_zero]
 have hk9:=hk6.drew
 have ho9:OwnI { w6 with drawn:=w6.drawn + 1 } wE.heap.size v ((commitsM s c dare an).take i):=ho.keep .drawn
 have h69:Below wE.heap.size wE { w6 with drawn:=w6.drawn + 1 }:=h6.on .drawn
 refine ⟨Nx { w6 with drawn:=w6.drawn + 1 },bR,by trivial,?_⟩
 generalize ({ w6 with drawn:=w6.drawn + 1 }:World) = W9 at hk9 ho9 h69 ⊢
 refine Xf (fun W0 hW0=>An3 ((hk9.next hW0).cells) (((hk9.next hW0).below.cell hltC).trans c0C) (((hk9.next hW0).below.cell hltC).trans c1C)) @hllC ?_
 refine ⟨Nx,?_⟩
 apply monoE
 ·intro w5 h5
  exact rLeft_ok s e an (hs'.next (hk9.next h5).below) (hrowC.next trm_stay (hk9.next h5).below) (ha.next (hk9.next h5).below) hfe.1 (fun t ht=>by have:=hfe.2 t ht; omega) hv (fun w6 h6=>⟨h5.on h6,h6,rfl⟩)
 apply monoE
 ·intro w5 h5
  exact rPower_ok _ _ _ (fun w6 h6=>⟨h5.on h6,h6,rfl⟩)
 apply monoE
 ·rintro w5 h5 _ rfl _ rfl
  exact rOver_ok _ _ _ (fun w6 h6=>⟨h5.on h6,h6,rfl⟩)
 refine monoR (fun v w'=>Ints w' v [overG s.g (leftM s e an) (powerG s.g e.target dare)]) (fun v w w1 hS h=>h.next hS) ?_ ?_
 ·rintro w5 h5 _ rfl
  exact mk1 _ (overG_I64 _ _ _) (fun v w6 h6 hi=>⟨h5.on h6,h6,hi⟩)
 rintro w9 h9 _ rfl _ rfl _ rfl v9 hi9
 refine append1 (ho9.keep h9) (Nat.le_trans h69.size h9.size) hi9 (by simp only [List.length_take]; omega) (fun v10 w10 ho10 h10=>?_)
 refine Xa0 ?_
 refine ⟨⟨(h69.on h9).trans h10,_,i + 1,rfl,by omega,?_⟩,by simp only [grMu_eq]; omega⟩
 rw [← take_snoc' hst]
 exact ho10
end
end Go.Proofs
namespace Go.Proofs
open Go.Sh Tryz
def sh_56 (a0 a1:Value) (K:VK) (w:World):Prop:=
 oM prog (.box 23 (.tmp 0)) 0 [a0] (fun v2 w=>
 oM prog (.box 88 (.tmp 0)) 0 [a1] (fun v3 w=>
 kA 26 (fun v4 w=>
 kL 23 v2 (fun v8 w=>
 callM prog 110 #[v8] (fun v9 w=>
 kU v9 (fun v10 w=>
 gF v10 (kF 88 0 v3) (fun v12 w=>
 gF v10 (kL 24 v12) (fun v13 w=>
 gF v10 (kN 24 v13) (fun v14 w=>
 gF v10 (kB .lss 3 4 v14 (.int .i64 2)) (fun v15 w=>
 kP v10 (.bool true) v15 (fun v16 w=>
 gF v16 (kF 88 0 v3) (fun v18 w=>
 gF v16 (kL 24 v18) (fun v19 w=>
 gF v16 (kN 24 v19) (fun v20 w=>
 gF v16 (kB .gtr 3 4 v20 (.int .i64 7)) (fun v21 w=>
 kP v16 (.bool true) v21 (fun v22 w=>
 gF v22 (kF 88 1 v3) (fun v24 w=>
 gF v22 (kL 3 v24) (fun v25 w=>
 gF v22 (kB .lss 3 4 v25 (.int .i64 1)) (fun v26 w=>
 kP v22 (.bool true) v26 (fun v27 w=>
 gF v27 (kF 88 1 v3) (fun v29 w=>
 gF v27 (kL 3 v29) (fun v30 w=>
 gF v27 (kF 23 1 v2) (fun v31 w=>
 gF v27 (kL 3 v31) (fun v32 w=>
 gF v27 (kB .geq 3 4 v30 v32) (fun v33 w=>
 kP v27 (.bool true) v33 (fun v34 w=>
 condM v34
 (oM prog (.build 26 #[]) 26 [] (fun v35 w=>
 kS 26 v4 v35 (fun _ w=>
 ∃ r_28,(do loadVar 26 (← asAddr v4):Sem Value).run prog w = .ok r_28 w ∧ K (.tuple #[r_28,(.bool false)]) w) w) w)
 (heldM w (fun C_29 w=>(((true:Bool) = true) ∧ (jL 23 v2 C_29 (fun v36=>
 jL 23 v2 C_29 (fun v37=>
 jF 23 2 v2 C_29 (fun v38=>
 jL 3 v38 C_29 (fun v39=>
 jF 88 1 v3 C_29 (fun v40=>
 jL 3 v40 C_29 (fun v41=>
 ∃ S_36:World → WK,∃ R_37:VK,(∀ v w w_1,S_36 w w_1 → R_37 v w → R_37 v w_1) ∧
 (∀ w,C_29 w → (callM prog 137 #[v37,v39,v41] (fun v w_1=>C_29 w_1 ∧ S_36 w w_1 ∧ R_37 v w_1) w)) ∧
 (∃ R_38:VK,(∀ v w w_1,S_36 w w_1 → R_38 v w → R_38 v w_1) ∧
 (∀ w,C_29 w → ∀ v42,R_37 v42 w → (oM prog (.build 26 #[(0,(.tmp 0)),(2,(.tmp 1))]) 26 [v36,v42] (fun v w_1=>C_29 w_1 ∧ S_36 w w_1 ∧ R_38 v w_1) w)) ∧
 (∃ R_40:VK,(∀ v w w_1,S_36 w w_1 → R_40 v w → R_40 v w_1) ∧
 (∀ w,C_29 w → (kA 26 (fun v w_1=>C_29 w_1 ∧ S_36 w w_1 ∧ R_40 v w_1) w)) ∧
 (∀ w,C_29 w → ∀ v42,R_37 v42 w → ∀ v43,R_38 v43 w → ∀ v6,R_40 v6 w → (
 kS 26 v6 v43 (fun _ w=>
 loopM [(.bool false),(.int .i64 0)] w (fun J_44 m_45 l_46 u_l_46 w0_l_46=>(fun w=>(
 kF 88 0 v3 (fun v45 w=>
 kL 24 v45 (fun v46 w=>
 kN 24 v46 (fun v47 w=>
 kB .lss 3 4 (l_46.getD 1 undef) v47 (fun v48 w=>
 condM v48
 (heldM w (fun C_51 w=>(((true:Bool) = true) ∧ (jF 88 0 v3 C_51 (fun v51=>
 jL 24 v51 C_51 (fun v52=>
 pureH (l_46.getD 1 undef) C_51 (fun v53=>
 jI 24 v52 v53 C_51 (fun v54=>
 jL 3 v54 C_51 (fun v55=>
 jB .lss 3 4 v55 (.int .i64 1) C_51 (fun v56=>
 pureH v56 C_51 (fun v57=>
 jG v57 (jF 88 0 v3) C_51 (fun v58=>
 jG v57 (jL 24 v58) C_51 (fun v59=>
 jG v57 (pureH (l_46.getD 1 undef)) C_51 (fun v60=>
 jG v57 (jI 24 v59 v60) C_51 (fun v61=>
 jG v57 (jL 3 v61) C_51 (fun v62=>
 jG v57 (jF 23 1 v2) C_51 (fun v63=>
 jG v57 (jL 3 v63) C_51 (fun v64=>
 jG v57 (jB .geq 3 4 v62 v64) C_51 (fun v65=>
 jP v57 (.bool true) v65 C_51 (fun v66=>
 ∃ S_68:World → WK,∀ w,C_51 w → (
 condM v66
 (oM prog (.build 26 #[]) 26 [] (fun v67 w=>
 kS 26 v4 v67 (fun _ w=>
 ∃ r_70,(do loadVar 26 (← asAddr v4):Sem Value).run prog w = .ok r_70 w ∧ K (.tuple #[r_70,(.bool false)]) w) w) w)
 (heldM w (fun C_71 w=>(((true:Bool) = true) ∧ (jF 26 1 v6 C_71 (fun v68=>
 jL 24 v68 C_71 (fun v69=>
 jL 23 v2 C_71 (fun v70=>
 jF 23 2 v2 C_71 (fun v71=>
 jL 3 v71 C_71 (fun v72=>
 jF 88 0 v3 C_71 (fun v73=>
 jL 24 v73 C_71 (fun v74=>
 pureH (l_46.getD 1 undef) C_71 (fun v75=>
 jI 24 v74 v75 C_71 (fun v76=>
 jL 3 v76 C_71 (fun v77=>
 ∃ S_82:World → WK,∃ R_83:VK,(∀ v w w_1,S_82 w w_1 → R_83 v w → R_83 v w_1) ∧
 (∀ w,C_71 w → (callM prog 137 #[v70,v72,v77] (fun v w_1=>C_71 w_1 ∧ S_82 w w_1 ∧ R_83 v w_1) w)) ∧
 (∃ R_84:VK,(∀ v w w_1,S_82 w w_1 → R_84 v w → R_84 v w_1) ∧
 (∀ w,C_71 w → ∀ v78,R_83 v78 w → (oM prog (.buildSlice 24 1 #[(0,(.tmp 0))]) 24 [v78] (fun v w_1=>C_71 w_1 ∧ S_82 w w_1 ∧ R_84 v w_1) w)) ∧
 (∀ w,C_71 w → ∀ v78,R_83 v78 w → ∀ v79,R_84 v79 w → (
 oM prog (.call (Go.Call.mk (.builtin .append) #[(.tmp 0),(.tmp 1)] #[24,24])) 24 [v69,v79] (fun v80 w=>
 kF 26 1 v6 (fun v81 w=>
 kS 24 v81 v80 (fun _ w=>
 kB .add 3 3 (l_46.getD 1 undef) (.int .i64 1) (fun v50 w=>
 J_44 [(l_46.getD 0 undef),v50] w ∧ m_45 [(l_46.getD 0 undef),v50] w < m_45 l_46 w0_l_46) w) w) w) w))))))))))))))))))))))))))))))))))))))
 (kL 26 v6 (fun v82 w=>
 kS 26 v4 v82 (fun _ w=>
 ∃ r_92,(do loadVar 26 (← asAddr v4):Sem Value).run prog w = .ok r_92 w ∧ K (.tuple #[r_92,(.bool true)]) w) w) w)) w) w) w) w)) w0_l_46)) w))))))))))))))) w) w) w) w) w) w) w) w) w) w) w) w) w) w) w) w) w) w) w) w) w) w) w) w) w) w
theorem sh_56_ok {a0 a1:Value} {K:VK} {w:World} (h:sh_56 a0 a1 K w):callM prog 56 #[a0,a1] K w:=
 calls_of_code (fun i=>bif Nat.beq i 3 then .free [0,1,2,3,4,5] [6,7,8] [9] else bif Nat.beq i 7 then .free [0,1,2,3,4,5,6,7,8,9,10,11,12,13,14,15] [] [] else bif Nat.beq i 9 then .free [0,1,2,3,4,5,6,7,8,9] [10,11] [12,13,14] else 0) (fn:=Tryz.f56) (rs:=[.cell 4 26,.tmp 5]) Tryz.func56 rfl rfl (by kernel_rfl) (nB rfl) (Eq.mp (by kernel_rfl) h)
def sh_57 (a0 a1:Value) (K:VK) (w:World):Prop:=
 oM prog (.box 26 (.tmp 0)) 0 [a0] (fun v2 w=>
 oM prog (.box 26 (.tmp 0)) 0 [a1] (fun v3 w=>
 kF 26 0 v2 (fun v5 w=>
 kL 23 v5 (fun v6 w=>
 kF 26 0 v3 (fun v7 w=>
 kL 23 v7 (fun v8 w=>
 kB .eql 23 4 v6 v8 (fun v9 w=>
 gT v9 (kF 26 2 v2) (fun v11 w=>
 gT v9 (kL 3 v11) (fun v12 w=>
 gT v9 (kF 26 2 v3) (fun v13 w=>
 gT v9 (kL 3 v13) (fun v14 w=>
 gT v9 (kB .eql 3 4 v12 v14) (fun v15 w=>
 kP v9 v15 (.bool false) (fun v16 w=>
 gT v16 (kF 26 1 v2) (fun v18 w=>
 gT v16 (kL 24 v18) (fun v19 w=>
 gT v16 (kF 26 1 v3) (fun v20 w=>
 gT v16 (kL 24 v20) (fun v21 w=>
 gT v16 (callM prog 62 #[v19,v21]) (fun v22 w=>
 kP v16 v22 (.bool false) (fun v23 w=>
 K v23 w) w) w) w) w) w) w) w) w) w) w) w) w) w) w) w) w) w) w) w
theorem sh_57_ok {a0 a1:Value} {K:VK} {w:World} (h:sh_57 a0 a1 K w):callM prog 57 #[a0,a1] K w:=
 calls_of_code (fun _=>0) (fn:=Tryz.f57) (rs:=[.tmp 4]) Tryz.func57 rfl rfl (by kernel_rfl) (nB rfl) (Eq.mp (by kernel_rfl) h)
def sh_59 (a0 a1:Value) (K:VK) (w:World):Prop:=
 oM prog (.box 26 (.tmp 0)) 0 [a0] (fun v2 w=>
 oM prog (.box 88 (.tmp 0)) 0 [a1] (fun v3 w=>
 kF 26 0 v2 (fun v8 w=>
 kL 23 v8 (fun v9 w=>
 kL 88 v3 (fun v10 w=>
 callM prog 56 #[v9,v10] (fun v11 w=>
 kE 0 26 v11 (fun v12 w=>
 kE 1 4 v11 (fun v13 w=>
 kA 26 (fun v5 w=>
 kS 26 v5 v12 (fun _ w=>
 gT v13 (kL 26 v2) (fun v16 w=>
 gT v13 (kL 26 v5) (fun v17 w=>
 gT v13 (callM prog 57 #[v16,v17]) (fun v18 w=>
 kP v13 v18 (.bool false) (fun v19 w=>
 K v19 w) w) w) w) w) w) w) w) w) w) w) w) w) w) w
theorem sh_59_ok {a0 a1:Value} {K:VK} {w:World} (h:sh_59 a0 a1 K w):callM prog 59 #[a0,a1] K w:=
 calls_of_code (fun _=>0) (fn:=Tryz.f59) (rs:=[.tmp 4]) Tryz.func59 rfl rfl (by kernel_rfl) (nB rfl) (Eq.mp (by kernel_rfl) h)
end Go.Proofs
namespace Go.Proofs
open Go Go.Sh Tryz
def held_60_5 (K:VK) (a1 a2 v3:Value) (w:World):Prop:=
 heldM w (fun C_5 w=>(((true:Bool) = true) ∧ (jF 26 0 v3 C_5 (fun v10=>
 jL 23 v10 C_5 (fun v11=>
 jF 26 0 v3 C_5 (fun v12=>
 jL 23 v12 C_5 (fun v13=>
 jF 26 0 v3 C_5 (fun v14=>
 jF 23 2 v14 C_5 (fun v15=>
 jL 3 v15 C_5 (fun v16=>
 pureH a1 C_5 (fun v17=>
 jF 26 0 v3 C_5 (fun v19=>
 jL 23 v19 C_5 (fun v20=>
 jF 26 2 v3 C_5 (fun v21=>
 jL 3 v21 C_5 (fun v22=>
 pureH a2 C_5 (fun v23=>
 ∃ S_19:World → WK,∃ R_20:VK,(∀ v w w_1,S_19 w w_1 → R_20 v w → R_20 v w_1) ∧
 (∀ w,C_5 w → (callM prog 137 #[v13,v16,v17] (fun v w_1=>C_5 w_1 ∧ S_19 w w_1 ∧ R_20 v w_1) w)) ∧
 (∃ R_21:VK,(∀ v w w_1,S_19 w w_1 → R_21 v w → R_21 v w_1) ∧
 (∀ w,C_5 w → (callM prog 137 #[v20,v22,v23] (fun v w_1=>C_5 w_1 ∧ S_19 w w_1 ∧ R_21 v w_1) w)) ∧
 (∀ w,C_5 w → ∀ v18,R_20 v18 w → ∀ v24,R_21 v24 w → (
 callM prog 138 #[v11,v18,v24] (fun v25 w=>
 K v25 w) w)))))))))))))))))))
def sh_60 (a0 a1 a2:Value) (K:VK) (w:World):Prop:=
 oM prog (.box 26 (.tmp 0)) 0 [a0] (fun v3 w=>
 kL 26 v3 (fun v7 w=>
 callM prog 22 #[v7] (fun v8 w=>
 kU v8 (fun v9 w=>
 condM v9
 (K (.int .i64 0) w)
 (held_60_5 K a1 a2 v3 w)) w) w) w) w
theorem sh_60_ok {a0 a1 a2:Value} {K:VK} {w:World} (h:sh_60 a0 a1 a2 K w):callM prog 60 #[a0,a1,a2] K w:=
 calls_of_code (fun _=>.free [0,1,2,3,4,5,6,7,9,10,11,12,13] [8,14] [15,16]) (fn:=Tryz.f60) (rs:=[.tmp 6]) Tryz.func60 rfl rfl (by kernel_rfl) (nB rfl) (Eq.mp (by kernel_rfl) h)
def held_66_36 (J_31:List Value → World → Prop) (a3 a5:Value) (l_33:List Value) (m_32:List Value → World → Nat) (v52 v60:Value) (w0_l_33 w:World):Prop:=
 heldM w (fun C_36 w=>(((true:Bool) = true) ∧ (pureH (l_33.getD 0 undef) C_36 (fun v68=>
 pureH v52 C_36 (fun v69=>
 pureH v52 C_36 (fun v70=>
 pureH a3 C_36 (fun v71=>
 pureH (l_33.getD 1 undef) C_36 (fun v72=>
 jI 24 v71 v72 C_36 (fun v73=>
 jL 3 v73 C_36 (fun v74=>
 pureH a5 C_36 (fun v75=>
 pureH (l_33.getD 1 undef) C_36 (fun v76=>
 jI 24 v75 v76 C_36 (fun v77=>
 jL 3 v77 C_36 (fun v78=>
 pureH v60 C_36 (fun v80=>
 ∃ S_49:World → WK,∃ R_50:VK,(∀ v w w_1,S_49 w w_1 → R_50 v w → R_50 v w_1) ∧
 (∀ w,C_36 w → (callM prog 116 #[v70,v74,v78] (fun v w_1=>C_36 w_1 ∧ S_49 w w_1 ∧ R_50 v w_1) w)) ∧
 (∃ R_51:VK,(∀ v w w_1,S_49 w w_1 → R_51 v w → R_51 v w_1) ∧
 (∀ w,C_36 w → ∀ v79,R_50 v79 w → (callM prog 104 #[v69,v79,v80] (fun v w_1=>C_36 w_1 ∧ S_49 w w_1 ∧ R_51 v w_1) w)) ∧
 (∃ R_53:VK,(∀ v w w_1,S_49 w w_1 → R_53 v w → R_53 v w_1) ∧
 (∀ w,C_36 w → ∀ v81,R_51 v81 w → (oM prog (.buildSlice 24 1 #[(0,(.tmp 0))]) 24 [v81] (fun v w_1=>C_36 w_1 ∧ S_49 w w_1 ∧ R_53 v w_1) w)) ∧
 (∀ w,C_36 w → ∀ v79,R_50 v79 w → ∀ v81,R_51 v81 w → ∀ v82,R_53 v82 w → (
 oM prog (.call (Go.Call.mk (.builtin .append) #[(.tmp 0),(.tmp 1)] #[24,24])) 24 [v68,v82] (fun v83 w=>
 kB .add 3 3 (l_33.getD 1 undef) (.int .i64 1) (fun v67 w=>
 J_31 [v83,v67] w ∧ m_32 [v83,v67] w < m_32 l_33 w0_l_33) w) w)))))))))))))))))))
def sh_66 (a0 a1 a2 a3 a4 a5:Value) (K:VK) (w:World):Prop:=
 oM prog (.box 26 (.tmp 0)) 0 [a0] (fun v6 w=>
 oM prog (.box 69 (.tmp 0)) 0 [a1] (fun v7 w=>
 kL 26 v6 (fun v21 w=>
 kL 69 v7 (fun v22 w=>
 callM prog 64 #[v21,v22,a2,a3] (fun v25 w=>
 kL 26 v6 (fun v26 w=>
 kL 69 v7 (fun v27 w=>
 callM prog 64 #[v26,v27,a4,a5] (fun v30 w=>
 kN 24 v25 (fun v32 w=>
 kC .eql 3 0 4 v32 (fun v33 w=>
 gF v33 (pureM v30) (fun v35 w=>
 gF v33 (kN 24 v35) (fun v36 w=>
 gF v33 (kC .eql 3 0 4 v36) (fun v37 w=>
 kP v33 (.bool true) v37 (fun v38 w=>
 gF v38 (pureM v25) (fun v40 w=>
 gF v38 (pureM v30) (fun v41 w=>
 gF v38 (callM prog 62 #[v40,v41]) (fun v42 w=>
 gF v38 (kU v42) (fun v43 w=>
 kP v38 (.bool true) v43 (fun v44 w=>
 gF v44 (pureM a2) (fun v46 w=>
 gF v44 (pureM a4) (fun v47 w=>
 gF v44 (kB .eql 3 4 v46 v47) (fun v48 w=>
 kP v44 (.bool true) v48 (fun v49 w=>
 condM v49
 (K (.tuple #[(.slice none 0 0),(.bool false)]) w)
 (kF 26 0 v6 (fun v50 w=>
 kF 23 1 v50 (fun v51 w=>
 kL 3 v51 (fun v52 w=>
 callM prog 116 #[v52,a2,a4] (fun v58 w=>
 callM prog 144 #[v52,v58] (fun v59 w=>
 kE 0 3 v59 (fun v60 w=>
 kE 1 4 v59 (fun v61 w=>
 loopM [(.slice none 0 0),(.int .i64 0)] w (fun J_31 m_32 l_33 u_l_33 w0_l_33=>(fun w=>(
 kN 24 a3 (fun v64 w=>
 kB .lss 3 4 (l_33.getD 1 undef) v64 (fun v65 w=>
 condM v65
 (held_66_36 J_31 a3 a5 l_33 m_32 v52 v60 w0_l_33 w)
 (K (.tuple #[(l_33.getD 0 undef),(.bool true)]) w)) w) w)) w0_l_33)) w) w) w) w) w) w) w)) w) w) w) w) w) w) w) w) w) w) w) w) w) w) w) w) w) w) w) w) w) w) w
theorem sh_66_ok {a0 a1 a2 a3 a4 a5:Value} {K:VK} {w:World} (h:sh_66 a0 a1 a2 a3 a4 a5 K w):callM prog 66 #[a0,a1,a2,a3,a4,a5] K w:=
 calls_of_code (fun _=>.free [0,1,2,3,4,5,6,7,8,9,10,12] [11,13,14] [15,16]) (fn:=Tryz.f66) (rs:=[.tmp 12,.tmp 13]) Tryz.func66 rfl rfl (by kernel_rfl) (nB rfl) (Eq.mp (by kernel_rfl) h)
def sh_67 (a0 a1:Value) (K:VK) (w:World):Prop:=
 callM prog 26 #[a0] (fun v6 w=>
 callM prog 26 #[a1] (fun v8 w=>
 kB .eql 9 4 v6 v8 (fun v9 w=>
 K v9 w) w) w) w
theorem sh_67_ok {a0 a1:Value} {K:VK} {w:World} (h:sh_67 a0 a1 K w):callM prog 67 #[a0,a1] K w:=
 calls_of_code (fun _=>0) (fn:=Tryz.f67) (rs:=[.tmp 4]) Tryz.func67 rfl rfl (by kernel_rfl) (nB rfl) (Eq.mp (by kernel_rfl) h)
def held_69_13 (J_6:List Value → World → Prop) (a1:Value) (l_8:List Value) (m_7:List Value → World → Nat) (v2:Value) (w0_l_8 w:World):Prop:=
 heldM w (fun C_13 w=>(((true:Bool) = true) ∧ (pureH (l_8.getD 0 undef) C_13 (fun v24=>
 jL 26 v2 C_13 (fun v25=>
 pureH a1 C_13 (fun v26=>
 pureH (l_8.getD 1 undef) C_13 (fun v27=>
 jI 24 v26 v27 C_13 (fun v28=>
 jL 3 v28 C_13 (fun v29=>
 jL 26 v2 C_13 (fun v31=>
 jF 26 0 v2 C_13 (fun v32=>
 jL 23 v32 C_13 (fun v33=>
 pureH a1 C_13 (fun v34=>
 pureH (l_8.getD 1 undef) C_13 (fun v35=>
 jI 24 v34 v35 C_13 (fun v36=>
 jL 3 v36 C_13 (fun v37=>
 jF 26 0 v2 C_13 (fun v38=>
 jF 23 2 v38 C_13 (fun v39=>
 jL 3 v39 C_13 (fun v40=>
 ∃ S_30:World → WK,∃ R_31:VK,(∀ v w w_1,S_30 w w_1 → R_31 v w → R_31 v w_1) ∧
 (∀ w,C_13 w → (callM prog 145 #[v25,v29] (fun v w_1=>C_13 w_1 ∧ S_30 w w_1 ∧ R_31 v w_1) w)) ∧
 (∃ R_32:VK,(∀ v w w_1,S_30 w w_1 → R_32 v w → R_32 v w_1) ∧
 (∀ w,C_13 w → (callM prog 142 #[v33,v37,v40] (fun v w_1=>C_13 w_1 ∧ S_30 w w_1 ∧ R_32 v w_1) w)) ∧
 (∃ R_33:VK,(∀ v w w_1,S_30 w w_1 → R_33 v w → R_33 v w_1) ∧
 (∀ w,C_13 w → ∀ v41,R_32 v41 w → (callM prog 145 #[v31,v41] (fun v w_1=>C_13 w_1 ∧ S_30 w w_1 ∧ R_33 v w_1) w)) ∧
 (∃ R_35:VK,(∀ v w w_1,S_30 w w_1 → R_35 v w → R_35 v w_1) ∧
 (∀ w,C_13 w → ∀ v30,R_31 v30 w → ∀ v42,R_33 v42 w → (oM prog (.buildSlice 63 2 #[(0,(.tmp 0)),(1,(.tmp 1))]) 63 [v30,v42] (fun v w_1=>C_13 w_1 ∧ S_30 w w_1 ∧ R_35 v w_1) w)) ∧
 (∃ R_38:VK,(∀ v w w_1,S_30 w w_1 → R_38 v w → R_38 v w_1) ∧
 (∀ w,C_13 w → ∀ v43,R_35 v43 w → (oM prog (.build 65 #[(0,(.tmp 0)),(1,(.tmp 1))]) 65 [(.int .i64 1),v43] (fun v w_1=>C_13 w_1 ∧ S_30 w w_1 ∧ R_38 v w_1) w)) ∧
 (∃ R_40:VK,(∀ v w w_1,S_30 w w_1 → R_40 v w → R_40 v w_1) ∧
 (∀ w,C_13 w → ∀ v44,R_38 v44 w → (oM prog (.buildSlice 27 1 #[(0,(.tmp 0))]) 27 [v44] (fun v w_1=>C_13 w_1 ∧ S_30 w w_1 ∧ R_40 v w_1) w)) ∧
 (∀ w,C_13 w → ∀ v30,R_31 v30 w → ∀ v41,R_32 v41 w → ∀ v42,R_33 v42 w → ∀ v43,R_35 v43 w → ∀ v44,R_38 v44 w → ∀ v45,R_40 v45 w → (
 oM prog (.call (Go.Call.mk (.builtin .append) #[(.tmp 0),(.tmp 1)] #[27,27])) 27 [v24,v45] (fun v46 w=>
 kB .add 3 3 (l_8.getD 1 undef) (.int .i64 1) (fun v23 w=>
 J_6 [v46,v23] w ∧ m_7 [v46,v23] w < m_7 l_8 w0_l_8) w) w))))))))))))))))))))))))))
def sh_69 (a0 a1:Value) (K:VK) (w:World):Prop:=
 oM prog (.box 26 (.tmp 0)) 0 [a0] (fun v2 w=>
 kL 26 v2 (fun v10 w=>
 callM prog 75 #[v10,a1] (fun v12 w=>
 kE 0 3 v12 (fun v13 w=>
 kE 1 4 v12 (fun v14 w=>
 loopM [(.slice none 0 0),(.int .i64 0)] w (fun J_6 m_7 l_8 u_l_8 w0_l_8=>(fun w=>(
 kN 24 a1 (fun v17 w=>
 kB .lss 3 4 (l_8.getD 1 undef) v17 (fun v18 w=>
 gT v18 (pureM v14) (fun v20 w=>
 kP v18 v20 (.bool false) (fun v21 w=>
 condM v21
 (held_69_13 J_6 a1 l_8 m_7 v2 w0_l_8 w)
 (K (l_8.getD 0 undef) w)) w) w) w) w)) w0_l_8)) w) w) w) w) w
theorem sh_69_ok {a0 a1:Value} {K:VK} {w:World} (h:sh_69 a0 a1 K w):callM prog 69 #[a0,a1] K w:=
 calls_of_code (fun _=>.free [0,1,2,3,4,5,7,8,9,10,11,12,13,14,15,16] [6,17,18,19,20,21] [22,23]) (fn:=Tryz.f69) (rs:=[.tmp 4]) Tryz.func69 rfl rfl (by kernel_rfl) (nB rfl) (Eq.mp (by kernel_rfl) h)
def held_70_13 (K:VK) (a1 a2 v13 v3:Value) (w:World):Prop:=
 heldM w (fun C_13 w=>(((true:Bool) = true) ∧ (jL 26 v3 C_13 (fun v24=>
 pureH a2 C_13 (fun v25=>
 jL 26 v3 C_13 (fun v27=>
 jF 26 0 v3 C_13 (fun v28=>
 jL 23 v28 C_13 (fun v29=>
 pureH a1 C_13 (fun v30=>
 pureH v13 C_13 (fun v31=>
 ∃ S_21:World → WK,∃ R_22:VK,(∀ v w w_1,S_21 w w_1 → R_22 v w → R_22 v w_1) ∧
 (∀ w,C_13 w → (callM prog 69 #[v24,v25] (fun v w_1=>C_13 w_1 ∧ S_21 w w_1 ∧ R_22 v w_1) w)) ∧
 (∃ R_23:VK,(∀ v w w_1,S_21 w w_1 → R_23 v w → R_23 v w_1) ∧
 (∀ w,C_13 w → (callM prog 142 #[v29,v30,v31] (fun v w_1=>C_13 w_1 ∧ S_21 w w_1 ∧ R_23 v w_1) w)) ∧
 (∀ w,C_13 w → ∀ v26,R_22 v26 w → ∀ v32,R_23 v32 w → (
 callM prog 145 #[v27,v32] (fun v33 w=>
 oM prog (.buildSlice 63 1 #[(0,(.tmp 0))]) 63 [v33] (fun v34 w=>
 oM prog (.build 65 #[(0,(.tmp 0)),(1,(.tmp 1))]) 65 [(.int .i64 1),v34] (fun v35 w=>
 oM prog (.buildSlice 27 1 #[(0,(.tmp 0))]) 27 [v35] (fun v36 w=>
 oM prog (.call (Go.Call.mk (.builtin .append) #[(.tmp 0),(.tmp 1)] #[27,27])) 27 [v26,v36] (fun v37 w=>
 K v37 w) w) w) w) w) w)))))))))))))
def sh_70 (a0 a1 a2:Value) (K:VK) (w:World):Prop:=
 oM prog (.box 26 (.tmp 0)) 0 [a0] (fun v3 w=>
 kL 26 v3 (fun v10 w=>
 callM prog 75 #[v10,a2] (fun v12 w=>
 kE 0 3 v12 (fun v13 w=>
 kE 1 4 v12 (fun v14 w=>
 kU v14 (fun v16 w=>
 gF v16 (kF 26 0 v3) (fun v18 w=>
 gF v16 (kL 23 v18) (fun v19 w=>
 gF v16 (pureM a1) (fun v20 w=>
 gF v16 (callM prog 146 #[v19,v20]) (fun v21 w=>
 gF v16 (kU v21) (fun v22 w=>
 kP v16 (.bool true) v22 (fun v23 w=>
 condM v23
 (K (.slice none 0 0) w)
 (held_70_13 K a1 a2 v13 v3 w)) w) w) w) w) w) w) w) w) w) w) w) w
theorem sh_70_ok {a0 a1 a2:Value} {K:VK} {w:World} (h:sh_70 a0 a1 a2 K w):callM prog 70 #[a0,a1,a2] K w:=
 calls_of_code (fun _=>.free [0,1,3,4,5,6,7] [2,8] [9,10,11,12,13,14]) (fn:=Tryz.f70) (rs:=[.tmp 6]) Tryz.func70 rfl rfl (by kernel_rfl) (nB rfl) (Eq.mp (by kernel_rfl) h)
def held_72_18 (J_13:List Value → World → Prop) (a2:Value) (l_15:List Value) (m_14:List Value → World → Nat) (v20:Value) (w0_l_15 w:World):Prop:=
 heldM w (fun C_18 w=>(((true:Bool) = true) ∧ (pureH v20 C_18 (fun v30=>
 pureH (l_15.getD 0 undef) C_18 (fun v31=>
 pureH v20 C_18 (fun v32=>
 pureH a2 C_18 (fun v33=>
 pureH (l_15.getD 1 undef) C_18 (fun v34=>
 jI 24 v33 v34 C_18 (fun v35=>
 jL 3 v35 C_18 (fun v36=>
 pureH (l_15.getD 1 undef) C_18 (fun v37=>
 jB .shl 3 3 (.int .i64 1) v37 C_18 (fun v38=>
 ∃ S_28:World → WK,∃ R_29:VK,(∀ v w w_1,S_28 w w_1 → R_29 v w → R_29 v w_1) ∧
 (∀ w,C_18 w → (callM prog 104 #[v32,v36,v38] (fun v w_1=>C_18 w_1 ∧ S_28 w w_1 ∧ R_29 v w_1) w)) ∧
 (∀ w,C_18 w → ∀ v39,R_29 v39 w → (
 callM prog 116 #[v30,v31,v39] (fun v40 w=>
 kB .add 3 3 (l_15.getD 1 undef) (.int .i64 1) (fun v29 w=>
 J_13 [v40,v29] w ∧ m_14 [v40,v29] w < m_14 l_15 w0_l_15) w) w))))))))))))))
def sh_72 (a0 a1 a2:Value) (K:VK) (w:World):Prop:=
 oM prog (.box 26 (.tmp 0)) 0 [a0] (fun v3 w=>
 kL 26 v3 (fun v10 w=>
 callM prog 22 #[v10] (fun v11 w=>
 kU v11 (fun v12 w=>
 gF v12 (pureM a2) (fun v14 w=>
 gF v12 (kN 24 v14) (fun v15 w=>
 gF v12 (kB .gtr 3 4 v15 (.int .i64 60)) (fun v16 w=>
 kP v12 (.bool true) v16 (fun v17 w=>
 condM v17
 (K (.int .i64 0) w)
 (kF 26 0 v3 (fun v18 w=>
 kF 23 1 v18 (fun v19 w=>
 kL 3 v19 (fun v20 w=>
 callM prog 103 #[v20,a1,(.int .i64 0)] (fun v23 w=>
 loopM [v23,(.int .i64 0)] w (fun J_13 m_14 l_15 u_l_15 w0_l_15=>(fun w=>(
 kN 24 a2 (fun v26 w=>
 kB .lss 3 4 (l_15.getD 1 undef) v26 (fun v27 w=>
 condM v27
 (held_72_18 J_13 a2 l_15 m_14 v20 w0_l_15 w)
 (K (l_15.getD 0 undef) w)) w) w)) w0_l_15)) w) w) w) w)) w) w) w) w) w) w) w) w
theorem sh_72_ok {a0 a1 a2:Value} {K:VK} {w:World} (h:sh_72 a0 a1 a2 K w):callM prog 72 #[a0,a1,a2] K w:=
 calls_of_code (fun _=>.free [0,1,2,3,4,5,6,7,8] [9] [10,11]) (fn:=Tryz.f72) (rs:=[.tmp 6]) Tryz.func72 rfl rfl (by kernel_rfl) (nB rfl) (Eq.mp (by kernel_rfl) h)
def held_73_43 (K:VK) (a1 a2 v48 v4 v7:Value) (w:World):Prop:=
 heldM w (fun C_43 w=>(((true:Bool) = true) ∧ (jL 26 v4 C_43 (fun v49=>
 pureH a1 C_43 (fun v50=>
 pureH v48 C_43 (fun v51=>
 pureH a2 C_43 (fun v52=>
 jF 74 0 v7 C_43 (fun v54=>
 jL 3 v54 C_43 (fun v55=>
 ∃ S_50:World → WK,∃ R_51:VK,(∀ v w w_1,S_50 w w_1 → R_51 v w → R_51 v w_1) ∧
 (∀ w,C_43 w → (callM prog 147 #[v49,v50,v51,v52] (fun v w_1=>C_43 w_1 ∧ S_50 w w_1 ∧ R_51 v w_1) w)) ∧
 (∀ w,C_43 w → ∀ v53,R_51 v53 w → (
 kB .eql 3 4 v53 v55 (fun v56 w=>
 K v56 w) w)))))))))))
def held_73_26 (K:VK) (a1 a2 v4 v7 v9:Value) (w:World):Prop:=
 heldM w (fun C_26 w=>(((true:Bool) = true) ∧ (jL 23 v9 C_26 (fun v36=>
 jL 23 v9 C_26 (fun v37=>
 jF 23 2 v9 C_26 (fun v38=>
 jL 3 v38 C_26 (fun v39=>
 jF 74 1 v7 C_26 (fun v40=>
 jL 3 v40 C_26 (fun v41=>
 jL 23 v9 C_26 (fun v43=>
 pureH a1 C_26 (fun v44=>
 jF 74 0 v7 C_26 (fun v45=>
 jL 3 v45 C_26 (fun v46=>
 ∃ S_37:World → WK,∃ R_38:VK,(∀ v w w_1,S_37 w w_1 → R_38 v w → R_38 v w_1) ∧
 (∀ w,C_26 w → (callM prog 137 #[v37,v39,v41] (fun v w_1=>C_26 w_1 ∧ S_37 w w_1 ∧ R_38 v w_1) w)) ∧
 (∃ R_39:VK,(∀ v w w_1,S_37 w w_1 → R_39 v w → R_39 v w_1) ∧
 (∀ w,C_26 w → (callM prog 137 #[v43,v44,v46] (fun v w_1=>C_26 w_1 ∧ S_37 w w_1 ∧ R_39 v w_1) w)) ∧
 (∀ w,C_26 w → ∀ v42,R_38 v42 w → ∀ v47,R_39 v47 w → (
 callM prog 142 #[v36,v42,v47] (fun v48 w=>
 held_73_43 K a1 a2 v48 v4 v7 w) w))))))))))))))))
def sh_73 (a0 a1 a2 a3:Value) (K:VK) (w:World):Prop:=
 oM prog (.box 26 (.tmp 0)) 0 [a0] (fun v4 w=>
 oM prog (.box 74 (.tmp 0)) 0 [a3] (fun v7 w=>
 kF 26 0 v4 (fun v11 w=>
 kL 23 v11 (fun v12 w=>
 kA 23 (fun v9 w=>
 kS 23 v9 v12 (fun _ w=>
 kL 26 v4 (fun v13 w=>
 callM prog 22 #[v13] (fun v14 w=>
 kU v14 (fun v15 w=>
 gF v15 (kL 23 v9) (fun v17 w=>
 gF v15 (pureM a1) (fun v18 w=>
 gF v15 (callM prog 146 #[v17,v18]) (fun v19 w=>
 gF v15 (kU v19) (fun v20 w=>
 kP v15 (.bool true) v20 (fun v21 w=>
 gF v21 (kL 26 v4) (fun v23 w=>
 gF v21 (kF 74 0 v7) (fun v24 w=>
 gF v21 (kL 3 v24) (fun v25 w=>
 gF v21 (callM prog 85 #[v23,v25]) (fun v26 w=>
 gF v21 (kU v26) (fun v27 w=>
 kP v21 (.bool true) v27 (fun v28 w=>
 gF v28 (kL 26 v4) (fun v30 w=>
 gF v28 (kF 74 1 v7) (fun v31 w=>
 gF v28 (kL 3 v31) (fun v32 w=>
 gF v28 (callM prog 85 #[v30,v32]) (fun v33 w=>
 gF v28 (kU v33) (fun v34 w=>
 kP v28 (.bool true) v34 (fun v35 w=>
 condM v35
 (K (.bool false) w)
 (held_73_26 K a1 a2 v4 v7 v9 w)) w) w) w) w) w) w) w) w) w) w) w) w) w) w) w) w) w) w) w) w) w) w) w) w) w) w
theorem sh_73_ok {a0 a1 a2 a3:Value} {K:VK} {w:World} (h:sh_73 a0 a1 a2 a3 K w):callM prog 73 #[a0,a1,a2,a3] K w:=
 calls_of_code (fun i=>bif Nat.beq i 4 then .free [0,1,2,3,4,5,7,8,9,10] [6,11] [12,13] else bif Nat.beq i 5 then .free [0,1,2,3,5,6] [4] [7,8] else 0) (fn:=Tryz.f73) (rs:=[.tmp 8]) Tryz.func73 rfl rfl (by kernel_rfl) (nB rfl) (Eq.mp (by kernel_rfl) h)
def held_75_28 (J_13:List Value → World → Prop) (a1:Value) (l_15:List Value) (m_14:List Value → World → Nat) (v2:Value) (w0_l_15 w:World):Prop:=
 heldM w (fun C_28 w=>(((true:Bool) = true) ∧ (jF 26 0 v2 C_28 (fun v35=>
 jL 23 v35 C_28 (fun v36=>
 pureH (l_15.getD 2 undef) C_28 (fun v37=>
 jF 26 0 v2 C_28 (fun v38=>
 jL 23 v38 C_28 (fun v39=>
 pureH a1 C_28 (fun v40=>
 pureH (l_15.getD 3 undef) C_28 (fun v41=>
 jI 24 v40 v41 C_28 (fun v42=>
 jL 3 v42 C_28 (fun v43=>
 pureH (l_15.getD 3 undef) C_28 (fun v44=>
 jB .shl 3 3 (.int .i64 1) v44 C_28 (fun v45=>
 ∃ S_40:World → WK,∃ R_41:VK,(∀ v w w_1,S_40 w w_1 → R_41 v w → R_41 v w_1) ∧
 (∀ w,C_28 w → (callM prog 137 #[v39,v43,v45] (fun v w_1=>C_28 w_1 ∧ S_40 w w_1 ∧ R_41 v w_1) w)) ∧
 (∀ w,C_28 w → ∀ v46,R_41 v46 w → (
 callM prog 138 #[v36,v37,v46] (fun v47 w=>
 kB .add 3 3 (l_15.getD 3 undef) (.int .i64 1) (fun v26 w=>
 J_13 [(l_15.getD 0 undef),(l_15.getD 1 undef),v47,v26] w ∧ m_14 [(l_15.getD 0 undef),(l_15.getD 1 undef),v47,v26] w < m_14 l_15 w0_l_15) w) w))))))))))))))))
def held_75_18 (J_13:List Value → World → Prop) (K:VK) (a1:Value) (l_15:List Value) (m_14:List Value → World → Nat) (v2:Value) (w0_l_15 w:World):Prop:=
 heldM w (fun C_18 w=>(((true:Bool) = true) ∧ (jF 26 0 v2 C_18 (fun v27=>
 jL 23 v27 C_18 (fun v28=>
 pureH a1 C_18 (fun v29=>
 pureH (l_15.getD 3 undef) C_18 (fun v30=>
 jI 24 v29 v30 C_18 (fun v31=>
 jL 3 v31 C_18 (fun v32=>
 ∃ S_25:World → WK,∀ w,C_18 w → (
 callM prog 146 #[v28,v32] (fun v33 w=>
 kU v33 (fun v34 w=>
 condM v34
 (K (.tuple #[(.int .i64 0),(.bool false)]) w)
 (held_75_28 J_13 a1 l_15 m_14 v2 w0_l_15 w)) w) w))))))))))
def sh_75 (a0 a1:Value) (K:VK) (w:World):Prop:=
 oM prog (.box 26 (.tmp 0)) 0 [a0] (fun v2 w=>
 kL 26 v2 (fun v8 w=>
 callM prog 22 #[v8] (fun v9 w=>
 kU v9 (fun v10 w=>
 gF v10 (pureM a1) (fun v12 w=>
 gF v10 (kN 24 v12) (fun v13 w=>
 gF v10 (kB .lss 3 4 v13 (.int .i64 1)) (fun v14 w=>
 kP v10 (.bool true) v14 (fun v15 w=>
 gF v15 (pureM a1) (fun v17 w=>
 gF v15 (kN 24 v17) (fun v18 w=>
 gF v15 (kB .gtr 3 4 v18 (.int .i64 60)) (fun v19 w=>
 kP v15 (.bool true) v19 (fun v20 w=>
 condM v20
 (K (.tuple #[(.int .i64 0),(.bool false)]) w)
 (loopM [(.int .i64 0),(.bool false),(.int .i64 1),(.int .i64 0)] w (fun J_13 m_14 l_15 u_l_15 w0_l_15=>(fun w=>(
 kN 24 a1 (fun v23 w=>
 kB .lss 3 4 (l_15.getD 3 undef) v23 (fun v24 w=>
 condM v24
 (held_75_18 J_13 K a1 l_15 m_14 v2 w0_l_15 w)
 (K (.tuple #[(l_15.getD 2 undef),(.bool true)]) w)) w) w)) w0_l_15))) w) w) w) w) w) w) w) w) w) w) w) w
theorem sh_75_ok {a0 a1:Value} {K:VK} {w:World} (h:sh_75 a0 a1 K w):callM prog 75 #[a0,a1] K w:=
 calls_of_code (fun i=>bif Nat.beq i 7 then .free [0,1,2,3,4,5] [] [6,7] else bif Nat.beq i 9 then .free [0,1,2,3,4,5,6,7,8,9,10] [11] [12,13] else 0) (fn:=Tryz.f75) (rs:=[.tmp 4,.tmp 5]) Tryz.func75 rfl rfl (by kernel_rfl) (nB rfl) (Eq.mp (by kernel_rfl) h)
def held_77_40 (J_26:List Value → World → Prop) (a2:Value) (l_28:List Value) (m_27:List Value → World → Nat) (v3 v53 v56:Value) (w0_l_28 w:World):Prop:=
 heldM w (fun C_40 w=>(((true:Bool) = true) ∧ (pureH (l_28.getD 2 undef) C_40 (fun v66=>
 jL 26 v3 C_40 (fun v67=>
 pureH v53 C_40 (fun v68=>
 pureH a2 C_40 (fun v69=>
 pureH (l_28.getD 4 undef) C_40 (fun v70=>
 jI 24 v69 v70 C_40 (fun v71=>
 jL 3 v71 C_40 (fun v72=>
 ∃ S_48:World → WK,∃ R_49:VK,(∀ v w w_1,S_48 w w_1 → R_49 v w → R_49 v w_1) ∧
 (∀ w,C_40 w → (callM prog 60 #[v67,v68,v72] (fun v w_1=>C_40 w_1 ∧ S_48 w w_1 ∧ R_49 v w_1) w)) ∧
 (∃ R_50:VK,(∀ v w w_1,S_48 w w_1 → R_50 v w → R_50 v w_1) ∧
 (∀ w,C_40 w → ∀ v73,R_49 v73 w → (oM prog (.buildSlice 24 1 #[(0,(.tmp 0))]) 24 [v73] (fun v w_1=>C_40 w_1 ∧ S_48 w w_1 ∧ R_50 v w_1) w)) ∧
 (∀ w,C_40 w → ∀ v73,R_49 v73 w → ∀ v74,R_50 v74 w → (
 oM prog (.call (Go.Call.mk (.builtin .append) #[(.tmp 0),(.tmp 1)] #[24,24])) 24 [v66,v74] (fun v75 w=>
 oM prog (.buildSlice 28 1 #[(0,(.tmp 0))]) 28 [v56] (fun v78 w=>
 oM prog (.call (Go.Call.mk (.builtin .append) #[(.tmp 0),(.tmp 1)] #[28,28])) 28 [(l_28.getD 3 undef),v78] (fun v79 w=>
 kB .add 3 3 (l_28.getD 4 undef) (.int .i64 1) (fun v49 w=>
 J_26 [v53,v56,v75,v79,v49] w ∧ m_27 [v53,v56,v75,v79,v49] w < m_27 l_28 w0_l_28) w) w) w) w)))))))))))))
def loop_77_26 (J_26:List Value → World → Prop) (K:VK) (a1 a2:Value) (l_28:List Value) (m_27:List Value → World → Nat) (v16 v3:Value) (w0_l_28:World):Prop:=
(fun w=>(
 kB .lss 3 4 (l_28.getD 4 undef) v16 (fun v47 w=>
 condM v47
 (kB .shr 3 3 a1 (l_28.getD 4 undef) (fun v52 w=>
 kB .and 3 3 v52 (.int .i64 1) (fun v53 w=>
 oM prog (.build 113 #[]) 113 [] (fun v54 w=>
 oM prog (.build 113 #[]) 113 [] (fun v55 w=>
 oM prog (.buildSlice 114 2 #[(0,(.tmp 0)),(1,(.tmp 1))]) 114 [v54,v55] (fun v56 w=>
 kI 24 a2 (l_28.getD 4 undef) (fun v61 w=>
 kL 3 v61 (fun v62 w=>
 oM prog (.buildSlice 24 1 #[(0,(.tmp 0))]) 24 [v62] (fun v63 w=>
 oM prog (.build 113 #[(0,(.tmp 0)),(1,(.tmp 1))]) 113 [(.bool true),v63] (fun v64 w=>
 kI 114 v56 v53 (fun v65 w=>
 kS 113 v65 v64 (fun _ w=>
 held_77_40 J_26 a2 l_28 m_27 v3 v53 v56 w0_l_28 w) w) w) w) w) w) w) w) w) w) w) w)
 (K (.tuple #[(l_28.getD 2 undef),(l_28.getD 3 undef),(.bool true)]) w)) w)) w0_l_28
def sh_77 (a0 a1 a2:Value) (K:VK) (w:World):Prop:=
 oM prog (.box 26 (.tmp 0)) 0 [a0] (fun v3 w=>
 kN 24 a2 (fun v16 w=>
 kL 26 v3 (fun v17 w=>
 callM prog 22 #[v17] (fun v18 w=>
 kU v18 (fun v19 w=>
 gF v19 (pureM v16) (fun v21 w=>
 gF v19 (kB .lss 3 4 v21 (.int .i64 1)) (fun v22 w=>
 kP v19 (.bool true) v22 (fun v23 w=>
 gF v23 (pureM v16) (fun v25 w=>
 gF v23 (kB .gtr 3 4 v25 (.int .i64 60)) (fun v26 w=>
 kP v23 (.bool true) v26 (fun v27 w=>
 gF v27 (kL 26 v3) (fun v29 w=>
 gF v27 (pureM a2) (fun v30 w=>
 gF v27 (pureM v16) (fun v31 w=>
 gF v27 (callM prog 119 #[v29,v30,v31]) (fun v32 w=>
 gF v27 (kU v32) (fun v33 w=>
 kP v27 (.bool true) v33 (fun v34 w=>
 gF v34 (pureM a1) (fun v36 w=>
 gF v34 (kB .lss 3 4 v36 (.int .i64 0)) (fun v37 w=>
 kP v34 (.bool true) v37 (fun v38 w=>
 gF v38 (pureM a1) (fun v40 w=>
 gF v38 (pureM v16) (fun v41 w=>
 gF v38 (kB .shl 3 3 (.int .i64 1) v41) (fun v42 w=>
 gF v38 (kB .geq 3 4 v40 v42) (fun v43 w=>
 kP v38 (.bool true) v43 (fun v44 w=>
 condM v44
 (K (.tuple #[(.slice none 0 0),(.slice none 0 0),(.bool false)]) w)
 (loopM [undef,undef,(.slice none 0 0),(.slice none 0 0),(.int .i64 0)] w (fun J_26 m_27 l_28 u_l_28 w0_l_28=>loop_77_26 J_26 K a1 a2 l_28 m_27 v16 v3 w0_l_28))) w) w) w) w) w) w) w) w) w) w) w) w) w) w) w) w) w) w) w) w) w) w) w) w) w
theorem sh_77_ok {a0 a1 a2:Value} {K:VK} {w:World} (h:sh_77 a0 a1 a2 K w):callM prog 77 #[a0,a1,a2] K w:=
 calls_of_code (fun _=>.free [0,1,2,3,4,5,6] [7,8] [9,10]) (fn:=Tryz.f77) (rs:=[.tmp 6,.tmp 7,.tmp 8]) Tryz.func77 rfl rfl (by kernel_rfl) (nB rfl) (Eq.mp (by kernel_rfl) h)
def held_78_29 (J_22:List Value → World → Prop) (K:VK) (a0 a1:Value) (l_24 l_6:List Value) (m_23:List Value → World → Nat) (w0_l_24 w:World):Prop:=
 heldM w (fun C_29 w=>(((true:Bool) = true) ∧ (pureH a0 C_29 (fun v38=>
 pureH (l_6.getD 2 undef) C_29 (fun v39=>
 jI 28 v38 v39 C_29 (fun v40=>
 jL 114 v40 C_29 (fun v41=>
 pureH (l_24.getD 1 undef) C_29 (fun v42=>
 jI 114 v41 v42 C_29 (fun v43=>
 jF 113 0 v43 C_29 (fun v44=>
 jL 4 v44 C_29 (fun v45=>
 pureH a1 C_29 (fun v46=>
 pureH (l_6.getD 2 undef) C_29 (fun v47=>
 jI 28 v46 v47 C_29 (fun v48=>
 jL 114 v48 C_29 (fun v49=>
 pureH (l_24.getD 1 undef) C_29 (fun v50=>
 jI 114 v49 v50 C_29 (fun v51=>
 jF 113 0 v51 C_29 (fun v52=>
 jL 4 v52 C_29 (fun v53=>
 jB .neq 4 4 v45 v53 C_29 (fun v54=>
 pureH v54 C_29 (fun v55=>
 jG v55 (pureH a0) C_29 (fun v56=>
 jG v55 (pureH (l_6.getD 2 undef)) C_29 (fun v57=>
 jG v55 (jI 28 v56 v57) C_29 (fun v58=>
 jG v55 (jL 114 v58) C_29 (fun v59=>
 jG v55 (pureH (l_24.getD 1 undef)) C_29 (fun v60=>
 jG v55 (jI 114 v59 v60) C_29 (fun v61=>
 jG v55 (jF 113 1 v61) C_29 (fun v62=>
 jG v55 (jL 24 v62) C_29 (fun v63=>
 jG v55 (pureH a1) C_29 (fun v64=>
 jG v55 (pureH (l_6.getD 2 undef)) C_29 (fun v65=>
 jG v55 (jI 28 v64 v65) C_29 (fun v66=>
 jG v55 (jL 114 v66) C_29 (fun v67=>
 jG v55 (pureH (l_24.getD 1 undef)) C_29 (fun v68=>
 jG v55 (jI 114 v67 v68) C_29 (fun v69=>
 jG v55 (jF 113 1 v69) C_29 (fun v70=>
 jG v55 (jL 24 v70) C_29 (fun v71=>
 ∃ S_64:World → WK,∀ w,C_29 w → (
 gF v55 (callM prog 62 #[v63,v71]) (fun v72 w=>
 gF v55 (kU v72) (fun v73 w=>
 kP v55 (.bool true) v73 (fun v74 w=>
 condM v74
 (K (.bool false) w)
 (kB .add 3 3 (l_24.getD 1 undef) (.int .i64 1) (fun v37 w=>
 J_22 [(l_24.getD 0 undef),v37] w ∧ m_23 [(l_24.getD 0 undef),v37] w < m_23 l_24 w0_l_24) w)) w) w) w))))))))))))))))))))))))))))))))))))))
def loop_78_22 (J_22 J_4:List Value → World → Prop) (K:VK) (a0 a1:Value) (l_24 l_6:List Value) (m_23 m_5:List Value → World → Nat) (w0_l_6 w0_l_24:World):Prop:=
(fun w=>(
 kI 28 a0 (l_6.getD 2 undef) (fun v32 w=>
 kL 114 v32 (fun v33 w=>
 kN 114 v33 (fun v34 w=>
 kB .lss 3 4 (l_24.getD 1 undef) v34 (fun v35 w=>
 condM v35
 (held_78_29 J_22 K a0 a1 l_24 l_6 m_23 w0_l_24 w)
 (kB .add 3 3 (l_6.getD 2 undef) (.int .i64 1) (fun v17 w=>
 J_4 [(l_24.getD 0 undef),(l_24.getD 1 undef),v17] w ∧ m_5 [(l_24.getD 0 undef),(l_24.getD 1 undef),v17] w < m_5 l_6 w0_l_6) w)) w) w) w) w)) w0_l_24
def held_78_9 (J_4:List Value → World → Prop) (K:VK) (a0 a1:Value) (l_6:List Value) (m_5:List Value → World → Nat) (w0_l_6 w:World):Prop:=
 heldM w (fun C_9 w=>(((true:Bool) = true) ∧ (pureH a0 C_9 (fun v18=>
 pureH (l_6.getD 2 undef) C_9 (fun v19=>
 jI 28 v18 v19 C_9 (fun v20=>
 jL 114 v20 C_9 (fun v21=>
 jN 114 v21 C_9 (fun v22=>
 pureH a1 C_9 (fun v23=>
 pureH (l_6.getD 2 undef) C_9 (fun v24=>
 jI 28 v23 v24 C_9 (fun v25=>
 jL 114 v25 C_9 (fun v26=>
 jN 114 v26 C_9 (fun v27=>
 jB .neq 3 4 v22 v27 C_9 (fun v28=>
 ∃ S_21:World → WK,∀ w,C_9 w → (
 condM v28
 (K (.bool false) w)
 (loopM [(l_6.getD 0 undef),(.int .i64 0)] w (fun J_22 m_23 l_24 u_l_24 w0_l_24=>loop_78_22 J_22 J_4 K a0 a1 l_24 l_6 m_23 m_5 w0_l_6 w0_l_24)))))))))))))))))
def sh_78 (a0 a1:Value) (K:VK) (w:World):Prop:=
 kN 28 a0 (fun v8 w=>
 kN 28 a1 (fun v10 w=>
 kB .neq 3 4 v8 v10 (fun v11 w=>
 condM v11
 (K (.bool false) w)
 (loopM [(.bool false),undef,(.int .i64 0)] w (fun J_4 m_5 l_6 u_l_6 w0_l_6=>(fun w=>(
 kN 28 a0 (fun v14 w=>
 kB .lss 3 4 (l_6.getD 2 undef) v14 (fun v15 w=>
 condM v15
 (held_78_9 J_4 K a0 a1 l_6 m_5 w0_l_6 w)
 (K (.bool true) w)) w) w)) w0_l_6))) w) w) w
theorem sh_78_ok {a0 a1:Value} {K:VK} {w:World} (h:sh_78 a0 a1 K w):callM prog 78 #[a0,a1] K w:=
 calls_of_code (fun i=>bif Nat.beq i 6 then .free [0,1,2,3,4,5,6,7,8,9,10] [] [] else bif Nat.beq i 11 then .free [0,1,2,3,4,5,6,7,8,9,10,11,12,13,14,15,16,17,18,19,20,21,22,23,24,25,26,27,28,29,30,31,32,33] [] [34,35,36] else 0) (fn:=Tryz.f78) (rs:=[.tmp 4]) Tryz.func78 rfl rfl (by kernel_rfl) (nB rfl) (Eq.mp (by kernel_rfl) h)
def held_79_38 (K:VK) (a1 a2 v10 v42 v8:Value) (w:World):Prop:=
 heldM w (fun C_38 w=>(((true:Bool) = true) ∧ (pureH v42 C_38 (fun v43=>
 jF 23 1 v10 C_38 (fun v44=>
 jL 3 v44 C_38 (fun v45=>
 pureH a2 C_38 (fun v46=>
 jF 23 1 v10 C_38 (fun v47=>
 jL 3 v47 C_38 (fun v48=>
 pureH v42 C_38 (fun v49=>
 pureH a1 C_38 (fun v50=>
 ∃ S_47:World → WK,∃ R_48:VK,(∀ v w w_1,S_47 w w_1 → R_48 v w → R_48 v w_1) ∧
 (∀ w,C_38 w → (callM prog 104 #[v48,v49,v50] (fun v w_1=>C_38 w_1 ∧ S_47 w w_1 ∧ R_48 v w_1) w)) ∧
 (∃ R_49:VK,(∀ v w w_1,S_47 w w_1 → R_49 v w → R_49 v w_1) ∧
 (∀ w,C_38 w → ∀ v51,R_48 v51 w → (callM prog 103 #[v45,v46,v51] (fun v w_1=>C_38 w_1 ∧ S_47 w w_1 ∧ R_49 v w_1) w)) ∧
 (∀ w,C_38 w → ∀ v51,R_48 v51 w → ∀ v52,R_49 v52 w → (
 oM prog (.build 74 #[(0,(.tmp 0)),(1,(.tmp 1))]) 74 [v43,v52] (fun v53 w=>
 kS 74 v8 v53 (fun _ w=>
 ∃ r_54,(do loadVar 74 (← asAddr v8):Sem Value).run prog w = .ok r_54 w ∧ K (.tuple #[r_54,(.bool true)]) w) w) w))))))))))))))
def held_79_21 (K:VK) (a1 a2 a3 v10 v4 v8:Value) (w:World):Prop:=
 heldM w (fun C_21 w=>(((true:Bool) = true) ∧ (jL 26 v4 C_21 (fun v30=>
 jL 23 v10 C_21 (fun v31=>
 jF 23 2 v10 C_21 (fun v32=>
 jL 3 v32 C_21 (fun v33=>
 pureH a1 C_21 (fun v34=>
 jL 23 v10 C_21 (fun v36=>
 jF 23 2 v10 C_21 (fun v37=>
 jL 3 v37 C_21 (fun v38=>
 pureH a2 C_21 (fun v39=>
 pureH a3 C_21 (fun v41=>
 ∃ S_32:World → WK,∃ R_33:VK,(∀ v w w_1,S_32 w w_1 → R_33 v w → R_33 v w_1) ∧
 (∀ w,C_21 w → (callM prog 137 #[v31,v33,v34] (fun v w_1=>C_21 w_1 ∧ S_32 w w_1 ∧ R_33 v w_1) w)) ∧
 (∃ R_34:VK,(∀ v w w_1,S_32 w w_1 → R_34 v w → R_34 v w_1) ∧
 (∀ w,C_21 w → (callM prog 137 #[v36,v38,v39] (fun v w_1=>C_21 w_1 ∧ S_32 w w_1 ∧ R_34 v w_1) w)) ∧
 (∀ w,C_21 w → ∀ v35,R_33 v35 w → ∀ v40,R_34 v40 w → (
 callM prog 147 #[v30,v35,v40,v41] (fun v42 w=>
 held_79_38 K a1 a2 v10 v42 v8 w) w))))))))))))))))
def sh_79 (a0 a1 a2 a3:Value) (K:VK) (w:World):Prop:=
 oM prog (.box 26 (.tmp 0)) 0 [a0] (fun v4 w=>
 kA 74 (fun v8 w=>
 kL 26 v4 (fun v12 w=>
 callM prog 22 #[v12] (fun v13 w=>
 kU v13 (fun v14 w=>
 gF v14 (kL 26 v4) (fun v16 w=>
 gF v14 (pureM a1) (fun v17 w=>
 gF v14 (callM prog 85 #[v16,v17]) (fun v18 w=>
 gF v14 (kU v18) (fun v19 w=>
 kP v14 (.bool true) v19 (fun v20 w=>
 gF v20 (kL 26 v4) (fun v22 w=>
 gF v20 (pureM a2) (fun v23 w=>
 gF v20 (callM prog 85 #[v22,v23]) (fun v24 w=>
 gF v20 (kU v24) (fun v25 w=>
 kP v20 (.bool true) v25 (fun v26 w=>
 condM v26
 (oM prog (.build 74 #[]) 74 [] (fun v27 w=>
 kS 74 v8 v27 (fun _ w=>
 ∃ r_17,(do loadVar 74 (← asAddr v8):Sem Value).run prog w = .ok r_17 w ∧ K (.tuple #[r_17,(.bool false)]) w) w) w)
 (kF 26 0 v4 (fun v28 w=>
 kL 23 v28 (fun v29 w=>
 kA 23 (fun v10 w=>
 kS 23 v10 v29 (fun _ w=>
 held_79_21 K a1 a2 a3 v10 v4 v8 w) w) w) w) w)) w) w) w) w) w) w) w) w) w) w) w) w) w) w) w
theorem sh_79_ok {a0 a1 a2 a3:Value} {K:VK} {w:World} (h:sh_79 a0 a1 a2 a3 K w):callM prog 79 #[a0,a1,a2,a3] K w:=
 calls_of_code (fun i=>bif Nat.beq i 4 then .free [0,1,2,3,4,6,7,8,9,11] [5,10] [12,13] else bif Nat.beq i 5 then .free [0,1,2,3,4,5,6,7] [8,9] [10,11,12] else 0) (fn:=Tryz.f79) (rs:=[.cell 8 74,.tmp 9]) Tryz.func79 rfl rfl (by kernel_rfl) (nB rfl) (Eq.mp (by kernel_rfl) h)
def held_80_51 (J_42:List Value → World → Prop) (l_15 l_44:List Value) (m_43:List Value → World → Nat) (v1:Value) (w0_l_44 w:World):Prop:=
 heldM w (fun C_51 w=>(pureH (l_44.getD 0 undef) C_51 (fun v57=>
 jF 34 0 v1 C_51 (fun v58=>
 jL 30 v58 C_51 (fun v59=>
 pureH (l_15.getD 4 undef) C_51 (fun v60=>
 jI 30 v59 v60 C_51 (fun v61=>
 jL 24 v61 C_51 (fun v62=>
 pureH (l_44.getD 1 undef) C_51 (fun v63=>
 jI 24 v62 v63 C_51 (fun v64=>
 jL 3 v64 C_51 (fun v65=>
 jF 34 1 v1 C_51 (fun v66=>
 jL 29 v66 C_51 (fun v67=>
 pureH (l_15.getD 4 undef) C_51 (fun v68=>
 jI 29 v67 v68 C_51 (fun v69=>
 jL 30 v69 C_51 (fun v70=>
 pureH (l_44.getD 1 undef) C_51 (fun v71=>
 jI 30 v70 v71 C_51 (fun v72=>
 jL 24 v72 C_51 (fun v73=>
 jN 24 v73 C_51 (fun v74=>
 jF 34 1 v1 C_51 (fun v77=>
 jL 29 v77 C_51 (fun v78=>
 pureH (l_15.getD 4 undef) C_51 (fun v79=>
 jI 29 v78 v79 C_51 (fun v80=>
 jL 30 v80 C_51 (fun v81=>
 pureH (l_44.getD 1 undef) C_51 (fun v82=>
 jI 30 v81 v82 C_51 (fun v83=>
 jL 24 v83 C_51 (fun v84=>
 oM prog (.buildSlice 24 2 #[(0,(.tmp 0)),(1,(.tmp 1))]) 24 [v65,v74] (fun v75 w=>C_51 w ∧ (
 oM prog (.call (Go.Call.mk (.builtin .append) #[(.tmp 0),(.tmp 1)] #[24,24])) 24 [v57,v75] (fun v76 w=>C_51 w ∧ (
 oM prog (.call (Go.Call.mk (.builtin .append) #[(.tmp 0),(.tmp 1)] #[24,24])) 24 [v76,v84] (fun v85 w=>C_51 w ∧ (
 C_51 w ∧ (kB .add 3 3 (l_44.getD 1 undef) (.int .i64 1) (fun v56 w=>
 J_42 [v85,v56] w ∧ m_43 [v85,v56] w < m_43 l_44 w0_l_44) w))) w)) w)) w))))))))))))))))))))))))))))
def loop_80_42 (J_13 J_42:List Value → World → Prop) (l_15 l_44:List Value) (m_14 m_43:List Value → World → Nat) (v1:Value) (w0_l_15 w0_l_44:World):Prop:=
(fun w=>(
 kF 34 0 v1 (fun v48 w=>
 kL 30 v48 (fun v49 w=>
 kI 30 v49 (l_15.getD 4 undef) (fun v51 w=>
 kL 24 v51 (fun v52 w=>
 kN 24 v52 (fun v53 w=>
 kB .lss 3 4 (l_44.getD 1 undef) v53 (fun v54 w=>
 condM v54
 (held_80_51 J_42 l_15 l_44 m_43 v1 w0_l_44 w)
 (kB .add 3 3 (l_15.getD 4 undef) (.int .i64 1) (fun v24 w=>
 J_13 [(l_15.getD 0 undef),(l_15.getD 1 undef),(l_44.getD 0 undef),(l_44.getD 1 undef),v24] w ∧ m_14 [(l_15.getD 0 undef),(l_15.getD 1 undef),(l_44.getD 0 undef),(l_44.getD 1 undef),v24] w < m_14 l_15 w0_l_15) w)) w) w) w) w) w) w)) w0_l_44
def held_80_20 (J_13:List Value → World → Prop) (K:VK) (l_15:List Value) (m_14:List Value → World → Nat) (v1:Value) (w0_l_15 w:World):Prop:=
 heldM w (fun C_20 w=>(((true:Bool) = true) ∧ (jF 34 0 v1 C_20 (fun v25=>
 jL 30 v25 C_20 (fun v26=>
 pureH (l_15.getD 4 undef) C_20 (fun v27=>
 jI 30 v26 v27 C_20 (fun v28=>
 jL 24 v28 C_20 (fun v29=>
 jN 24 v29 C_20 (fun v30=>
 jF 34 1 v1 C_20 (fun v31=>
 jL 29 v31 C_20 (fun v32=>
 pureH (l_15.getD 4 undef) C_20 (fun v33=>
 jI 29 v32 v33 C_20 (fun v34=>
 jL 30 v34 C_20 (fun v35=>
 jN 30 v35 C_20 (fun v36=>
 jB .neq 3 4 v30 v36 C_20 (fun v37=>
 ∃ S_34:World → WK,∀ w,C_20 w → (
 condM v37
 (K (.tuple #[(.string ⟨#[]⟩),(.bool false)]) w)
 (kF 34 0 v1 (fun v39 w=>
 kL 30 v39 (fun v40 w=>
 kI 30 v40 (l_15.getD 4 undef) (fun v42 w=>
 kL 24 v42 (fun v43 w=>
 kN 24 v43 (fun v44 w=>
 oM prog (.buildSlice 24 1 #[(0,(.tmp 0))]) 24 [v44] (fun v45 w=>
 oM prog (.call (Go.Call.mk (.builtin .append) #[(.tmp 0),(.tmp 1)] #[24,24])) 24 [(l_15.getD 2 undef),v45] (fun v46 w=>
 loopM [v46,(.int .i64 0)] w (fun J_42 m_43 l_44 u_l_44 w0_l_44=>loop_80_42 J_13 J_42 l_15 l_44 m_14 m_43 v1 w0_l_15 w0_l_44)) w) w) w) w) w) w) w))))))))))))))))))
def sh_80 (a0:Value) (K:VK) (w:World):Prop:=
 oM prog (.box 34 (.tmp 0)) 0 [a0] (fun v1 w=>
 kF 34 0 v1 (fun v7 w=>
 kL 30 v7 (fun v8 w=>
 kN 30 v8 (fun v9 w=>
 kF 34 1 v1 (fun v10 w=>
 kL 29 v10 (fun v11 w=>
 kN 29 v11 (fun v12 w=>
 kB .neq 3 4 v9 v12 (fun v13 w=>
 condM v13
 (K (.tuple #[(.string ⟨#[]⟩),(.bool false)]) w)
 (kF 34 0 v1 (fun v14 w=>
 kL 30 v14 (fun v15 w=>
 kN 30 v15 (fun v16 w=>
 oM prog (.buildSlice 24 1 #[(0,(.tmp 0))]) 24 [v16] (fun v17 w=>
 loopM [(.string ⟨#[]⟩),(.bool false),v17,undef,(.int .i64 0)] w (fun J_13 m_14 l_15 u_l_15 w0_l_15=>(fun w=>(
 kF 34 0 v1 (fun v19 w=>
 kL 30 v19 (fun v20 w=>
 kN 30 v20 (fun v21 w=>
 kB .lss 3 4 (l_15.getD 4 undef) v21 (fun v22 w=>
 condM v22
 (held_80_20 J_13 K l_15 m_14 v1 w0_l_15 w)
 (callM prog 115 #[(l_15.getD 2 undef)] (fun v87 w=>
 K (.tuple #[v87,(.bool true)]) w) w)) w) w) w) w)) w0_l_15)) w) w) w) w)) w) w) w) w) w) w) w) w
theorem sh_80_ok {a0:Value} {K:VK} {w:World} (h:sh_80 a0 K w):callM prog 80 #[a0] K w:=
 calls_of_code (fun i=>bif Nat.beq i 7 then .free [0,1,2,3,4,5,6,7,8,9,10,11,12] [] [] else bif Nat.beq i 13 then 2 else 0) (fn:=Tryz.f80) (rs:=[.tmp 2,.tmp 3]) Tryz.func80 rfl rfl (by kernel_rfl) (nB rfl) (Eq.mp (by kernel_rfl) h)
def sh_145 (a0 a1:Value) (K:VK) (w:World):Prop:=
 oM prog (.box 26 (.tmp 0)) 0 [a0] (fun v2 w=>
 kA 69 (fun v4 w=>
 kF 26 2 v2 (fun v6 w=>
 kL 3 v6 (fun v7 w=>
 oM prog (.build 146 #[(0,(.tmp 0)),(1,(.tmp 1))]) 146 [(.int .i64 0),v7] (fun v8 w=>
 oM prog (.buildSlice 142 1 #[(0,(.tmp 0))]) 142 [v8] (fun v9 w=>
 oM prog (.build 144 #[(0,(.tmp 0)),(1,(.tmp 1))]) 144 [a1,v9] (fun v10 w=>
 oM prog (.buildSlice 67 1 #[(0,(.tmp 0))]) 67 [v10] (fun v11 w=>
 oM prog (.build 69 #[(0,(.tmp 0)),(1,(.tmp 1))]) 69 [(.int .i64 1),v11] (fun v12 w=>
 kS 69 v4 v12 (fun _ w=>
 ∃ r_10,(do loadVar 69 (← asAddr v4):Sem Value).run prog w = .ok r_10 w ∧ K r_10 w) w) w) w) w) w) w) w) w) w) w
theorem sh_145_ok {a0 a1:Value} {K:VK} {w:World} (h:sh_145 a0 a1 K w):callM prog 145 #[a0,a1] K w:=
 calls_of_code (fun _=>0) (fn:=Tryz.f145) (rs:=[.cell 4 69]) Tryz.func145 rfl rfl (by kernel_rfl) (nB rfl) (Eq.mp (by kernel_rfl) h)
def held_147_2 (K:VK) (a1 a2 a3 v4:Value) (w:World):Prop:=
 heldM w (fun C_2 w=>(((true:Bool) = true) ∧ (pureH a3 C_2 (fun v9=>
 pureH a1 C_2 (fun v11=>
 pureH a2 C_2 (fun v12=>
 jF 26 0 v4 C_2 (fun v16=>
 jF 23 1 v16 C_2 (fun v17=>
 jL 3 v17 C_2 (fun v18=>
 ∃ S_9:World → WK,∃ R_10:VK,(∀ v w w_1,S_9 w w_1 → R_10 v w → R_10 v w_1) ∧
 (∀ w,C_2 w → (callM prog 164 #[v9] (fun v w_1=>C_2 w_1 ∧ S_9 w w_1 ∧ R_10 v w_1) w)) ∧
 (∃ R_11:VK,(∀ v w w_1,S_9 w w_1 → R_11 v w → R_11 v w_1) ∧
 (∀ w,C_2 w → (oM prog (.buildSlice 24 2 #[(0,(.tmp 0)),(1,(.tmp 1))]) 24 [v11,v12] (fun v w_1=>C_2 w_1 ∧ S_9 w w_1 ∧ R_11 v w_1) w)) ∧
 (∃ R_12:VK,(∀ v w w_1,S_9 w w_1 → R_12 v w → R_12 v w_1) ∧
 (∀ w,C_2 w → ∀ v13,R_11 v13 w → (callM prog 115 #[v13] (fun v w_1=>C_2 w_1 ∧ S_9 w w_1 ∧ R_12 v w_1) w)) ∧
 (∃ R_14:VK,(∀ v w w_1,S_9 w w_1 → R_14 v w → R_14 v w_1) ∧
 (∀ w,C_2 w → ∀ v10,R_10 v10 w → ∀ v14,R_12 v14 w → (kB .add 9 9 v10 v14 (fun v w_1=>C_2 w_1 ∧ S_9 w w_1 ∧ R_14 v w_1) w)) ∧
 (∀ w,C_2 w → ∀ v10,R_10 v10 w → ∀ v13,R_11 v13 w → ∀ v14,R_12 v14 w → ∀ v15,R_14 v15 w → (
 callM prog 163 #[v15,v18] (fun v19 w=>
 K v19 w) w))))))))))))))
def sh_147 (a0 a1 a2 a3:Value) (K:VK) (w:World):Prop:=
 oM prog (.box 26 (.tmp 0)) 0 [a0] (fun v4 w=>
 held_147_2 K a1 a2 a3 v4 w) w
theorem sh_147_ok {a0 a1 a2 a3:Value} {K:VK} {w:World} (h:sh_147 a0 a1 a2 a3 K w):callM prog 147 #[a0,a1,a2,a3] K w:=
 calls_of_code (fun _=>.free [0,2,3,7,8,9] [1,4,5,6] [10,11]) (fn:=Tryz.f147) (rs:=[.tmp 8]) Tryz.func147 rfl rfl (by kernel_rfl) (nB rfl) (Eq.mp (by kernel_rfl) h)
def held_151_2 (K:VK) (a0 v5:Value) (w:World):Prop:=
 heldM w (fun C_2 w=>(((true:Bool) = true) ∧ (pureH v5 C_2 (fun v6=>
 jB .lss 3 4 v6 (.int .i64 0) C_2 (fun v7=>
 pureH v7 C_2 (fun v8=>
 jG v8 (pureH v5) C_2 (fun v9=>
 jG v8 (pureH a0) C_2 (fun v10=>
 jG v8 (oH prog (.nilCheck (.tmp 0)) 0 [v10]) C_2 (fun v11=>
 jG v8 (jF 169 0 v11) C_2 (fun v12=>
 jG v8 (jL 24 v12) C_2 (fun v13=>
 jG v8 (jN 24 v13) C_2 (fun v14=>
 jG v8 (pureH a0) C_2 (fun v15=>
 jG v8 (oH prog (.nilCheck (.tmp 0)) 0 [v15]) C_2 (fun v16=>
 jG v8 (jF 169 1 v16) C_2 (fun v17=>
 jG v8 (jL 3 v17) C_2 (fun v18=>
 jG v8 (jB .sub 3 3 v14 v18) C_2 (fun v19=>
 jG v8 (jB .gtr 3 4 v9 v19) C_2 (fun v20=>
 jP v8 (.bool true) v20 C_2 (fun v21=>
 ∃ S_19:World → WK,∀ w,C_2 w → (
 condM v21
 (oM prog (.nilCheck (.tmp 0)) 0 [a0] (fun v23 w=>
 kF 169 2 v23 (fun v24 w=>
 kS 4 v24 (.bool true) (fun _ w=>
 K (.int .i64 0) w) w) w) w)
 (K v5 w)))))))))))))))))))))
def sh_151 (a0:Value) (K:VK) (w:World):Prop:=
 callM prog 152 #[a0] (fun v5 w=>
 held_151_2 K a0 v5 w) w
theorem sh_151_ok {a0:Value} {K:VK} {w:World} (h:sh_151 a0 K w):callM prog 151 #[a0] K w:=
 calls_of_code (fun _=>.free [0,1,2,3,4,5,6,7,8,9,10,11,12,13,14,15] [] []) (fn:=Tryz.f151) (rs:=[.tmp 2]) Tryz.func151 rfl rfl (by kernel_rfl) (nB rfl) (Eq.mp (by kernel_rfl) h)
def held_152_27 (K:VK) (a0:Value) (w:World):Prop:=
 heldM w (fun C_27 w=>(((true:Bool) = true) ∧ (pureH a0 C_27 (fun v29=>
 oH prog (.nilCheck (.tmp 0)) 0 [v29] C_27 (fun v30=>
 jF 169 0 v30 C_27 (fun v31=>
 jL 24 v31 C_27 (fun v32=>
 pureH a0 C_27 (fun v33=>
 oH prog (.nilCheck (.tmp 0)) 0 [v33] C_27 (fun v34=>
 jF 169 1 v34 C_27 (fun v35=>
 jL 3 v35 C_27 (fun v36=>
 jB .sub 3 3 v36 (.int .i64 1) C_27 (fun v37=>
 jI 24 v32 v37 C_27 (fun v38=>
 jL 3 v38 C_27 (fun v39=>
 ∃ S_39:World → WK,∀ w,C_27 w → (
 K v39 w)))))))))))))))
def held_152_1 (K:VK) (a0:Value) (w:World):Prop:=
 heldM w (fun C_1 w=>(((true:Bool) = true) ∧ (pureH a0 C_1 (fun v3=>
 oH prog (.nilCheck (.tmp 0)) 0 [v3] C_1 (fun v4=>
 jF 169 2 v4 C_1 (fun v5=>
 jL 4 v5 C_1 (fun v6=>
 pureH v6 C_1 (fun v7=>
 jG v7 (pureH a0) C_1 (fun v8=>
 jG v7 (oH prog (.nilCheck (.tmp 0)) 0 [v8]) C_1 (fun v9=>
 jG v7 (jF 169 1 v9) C_1 (fun v10=>
 jG v7 (jL 3 v10) C_1 (fun v11=>
 jG v7 (pureH a0) C_1 (fun v12=>
 jG v7 (oH prog (.nilCheck (.tmp 0)) 0 [v12]) C_1 (fun v13=>
 jG v7 (jF 169 0 v13) C_1 (fun v14=>
 jG v7 (jL 24 v14) C_1 (fun v15=>
 jG v7 (jN 24 v15) C_1 (fun v16=>
 jG v7 (jB .geq 3 4 v11 v16) C_1 (fun v17=>
 jP v7 (.bool true) v17 C_1 (fun v18=>
 ∃ S_18:World → WK,∀ w,C_1 w → (
 condM v18
 (oM prog (.nilCheck (.tmp 0)) 0 [a0] (fun v20 w=>
 kF 169 2 v20 (fun v21 w=>
 kS 4 v21 (.bool true) (fun _ w=>
 K (.int .i64 0) w) w) w) w)
 (oM prog (.nilCheck (.tmp 0)) 0 [a0] (fun v23 w=>
 kF 169 1 v23 (fun v24 w=>
 kL 3 v24 (fun v25 w=>
 kB .add 3 3 v25 (.int .i64 1) (fun v26 w=>
 oM prog (.nilCheck (.tmp 0)) 0 [a0] (fun v27 w=>
 kF 169 1 v27 (fun v28 w=>
 kS 3 v28 v26 (fun _ w=>
 held_152_27 K a0 w) w) w) w) w) w) w) w)))))))))))))))))))))
def sh_152 (a0:Value) (K:VK) (w:World):Prop:=
 held_152_1 K a0 w
theorem sh_152_ok {a0:Value} {K:VK} {w:World} (h:sh_152 a0 K w):callM prog 152 #[a0] K w:=
 calls_of_code (fun i=>bif Nat.beq i 1 then .free [0,1,2,3,4,5,6,7,8,9,10,11,12,13,14,15] [] [] else bif Nat.beq i 5 then .free [0,1,2,3,4,5,6,7,8,9,10] [] [11] else 0) (fn:=Tryz.f152) (rs:=[.tmp 2]) Tryz.func152 rfl rfl (by kernel_rfl) (nB rfl) (Eq.mp (by kernel_rfl) h)
end Go.Proofs
namespace Go.Proofs
open Go Go.Sh Go.RowKit FdSpec TkSpec CodeSpec PrSpec FdPoly GrLaw
section
variable {K:VK} {w w' w0 W W':World} {L:List (Addr × Value)}
theorem eql_grp (T:TypeId) (a b:Grp):oM Tryz.prog (.binOp .eql 23 (.tmp 0) (.tmp 1) 23) T [grpV a,grpV b] = pureM (.bool (decide (a = b))):=by
 funext K w
 have h1:(eqGuard .eql 23 (.tmp 0) (.tmp 1) (grpV a) (grpV b)).run Tryz.prog w = .ok () w:=run_eqGuard_agg w _ _ _ _ _ _ (by kernel_rfl)
 have h2:(binOp .eql 23 (grpV a) (grpV b)).run Tryz.prog w = .ok (.bool (decide (a = b))) w:=by
  rw [run_eql_struct,run_equalIn_agg w 9999 23 _ _ (by kernel_rfl) (by kernel_rfl)]
  have u3:=Tryz.underlying3
  have e:decide (a = b) = ((a.P == b.P) && (a.Q == b.Q) && (a.G == b.G)):=by
   obtain ⟨a1,a2,a3⟩:=a
   obtain ⟨b1,b2,b3⟩:=b
   simp [Grp.mk.injEq,and_assoc,Bool.and_assoc]
   rfl
  rw [e]
  simp [go_sem,Program.fieldsOf,Tryz.underlying23,Op.eqFields,part,u3]
  repeat' split
  all_goals simp_all
 unfold oM opM
 simp [xop,execOp,evalL,evE,h1,h2]
 exact Iff.rfl
theorem rSameSetup_ok (s t:Stp) {v u:Value} (hs:Ints w v s.bases) (ht:Ints w u t.bases) (k:∀ w',Bw w w' → K (.bool (decide (s.g = t.g) && (decide (s.blind = t.blind) && decide (s.bases = t.bases)))) w'):callM Tryz.prog 57 #[stpV s v,stpV t u] K w:=by
 apply sh_57_ok
 unfold sh_57
 have hs':=hs
 have ht':=ht
 obtain ⟨ad,c,rfl⟩:=hs.isSlice
 obtain ⟨ad2,c2,rfl⟩:=ht.isSlice
 refine box_kn (cs:=stpC s (.slice ad s.bases.length c)) rfl (.start w) fun b1 W hk hb1 hbb=>?_
 refine box_kn (cs:=stpC t (.slice ad2 t.bases.length c2)) rfl hk fun b2 W2 hk hb2 hbb=>?_
 have eg:=fun T=>eql_grp T s.g t.g
 by_cases hg:s.g = t.g
 rotate_left
 ·rw [decide_eq_false hg,bF] at k
  simp only [decide_eq_false hg] at eg
  refine Xa (An2 hk.cells @eg) ?_
  exact k _ hk.below
 rw [decide_eq_true hg,bT] at k
 simp only [decide_eq_true hg] at eg
 by_cases hbl:s.blind = t.blind
 rotate_left
 ·rw [decide_eq_false hbl,bF] at k
  refine Xa (An3 hk.cells @eg @hbl) ?_
  exact k _ hk.below
 rw [decide_eq_true hbl,bT] at k
 refine Xa (An3 hk.cells @eg @hbl) ?_
 refine SameInts_ok (hs'.next hk.below) (ht'.next hk.below) (fun w3 h3=>?_)
 have k:=k _ (hk.next h3).below
 generalize decide (s.bases = t.bases) = q at *
 refine Xa0 ?_
 exact k
def RkJ (Wl:World) (g:Nat) (T:TypeId) (cs:Value → List Value) (p:Int → Bool) (ms al:List Int) (R:Bool) (vs:List Value) (w':World):Prop:=∃ (v ov:Value) (i:Nat),vs = [v,.int .i64 (i:Int)] ∧ i ≤ al.length ∧ (ms.drop i).any p = R ∧ GrI Wl w' g T (cs ov) ov (al.take i)
theorem rMake_ok (g:Grp) (m:Mir) {mv:Value} (hg:GrpR g) (hT:DbT w) (hm:MirR w m mv)
  (k:∀ w' sv,Bw w w' → SetR w' (makeM g m).1 sv → K (.tuple #[stpV (makeM g m).1 sv,.bool (makeM g m).2]) w'):callM Tryz.prog 56 #[grpV g,mirV m mv] K w:=by
 apply sh_56_ok
 unfold sh_56
 have hms:=hm.ints
 obtain ⟨ad,c,rfl⟩:=hm.ints.isSlice
 have k2:∀ w' sv r,makeM g m = r → Bw w w' → SetR w' r.1 sv → K (.tuple #[stpV r.1 sv,.bool r.2]) w':=fun w' sv r e hb hi=>by
  rw [← e] at hi ⊢
  exact k w' sv hb hi
 clear k
 have hno:=makeM_no (g:=g) (m:=m)
 have hml:=hms.len
 refine box_kn (cs:=[.int .i64 g.P,.int .i64 g.Q,.int .i64 g.G]) rfl (.start w) fun b1 W hk hb1 hbb=>?_
 refine box_kn (cs:=mirC m (.slice ad m.bases.length c)) rfl hk fun b2 W2 hk hb2 hbb=>?_
 refine alloc_mine (n:=5) al_stp rfl hk fun g0 W3 hk hb3 hg0=>?_
 clear hb1 hb2 hb3
 have bad:makeM g m = (⟨⟨0,0,0⟩,[],0⟩,false) → ∀ w2 (hk:KnM w (cellsOf (cellsOf [] b1 0 [.int .i64 g.P,.int .i64 g.Q,.int .i64 g.G]) b2 0 (mirC m (.slice ad m.bases.length c))) g0 5 w2),
   oM Tryz.prog (Go.Op.store 26 (.tmp 0) (.tmp 1)) 0 [.pointer (some ⟨g0,0,none⟩),stpV zS (.slice none 0 0)] (fun _ w=>
    ∃ r_29,(do loadVar 26 (← asAddr (.pointer (some ⟨g0,0,none⟩))):Sem Value).run Tryz.prog w = .ok r_29 w ∧ K (.tuple #[r_29,(.bool false)]) w) w2:=fun e w2 hk=>
  store_stp zS none 0 0 hk (fun W3 hk hc _=>⟨_,by simp [go_sem,hc],k2 _ _ _ e hk.below (zS_R (hT.next hk.below) (Ints.nil _))⟩)
 refine Xa hk.cells ?_
 refine rValidGroup_ok g hg (fun w2 h2=>?_)
 have hk:=hk.next h2
 clear h2
 cases hv:validG g with
 | false=>
  refine Xa hk.cells ?_
  exact bad (hno (.inl hv)) _ hk
 | true=>
 by_cases h2:(m.bases.length:Int) < 2
 ·refine Xa (An2 hk.cells @h2) ?_
  exact bad (hno (.inr (.inl (by omega)))) _ hk
 by_cases h7:(7:Int) < m.bases.length
 ·refine Xa (An3 hk.cells @h2 @h7) ?_
  exact bad (hno (.inr (.inr (.inl (by omega))))) _ hk
 by_cases hb1:m.blind < 1
 ·refine Xa (An4 hk.cells @h2 @h7 @hb1) ?_
  exact bad (hno (.inr (.inr (.inr (.inr (by unfold badN; rw [decide_eq_true hb1]; rfl)))))) _ hk
 by_cases hb2:g.Q ≤ m.blind
 ·refine Xa (An5 hk.cells @h2 @h7 @hb1 @hb2) ?_
  exact bad (hno (.inr (.inr (.inr (.inr (by unfold badN; rw [decide_eq_true hb2,Bool.or_true]))))) ) _ hk
 have hb:badN g m.blind = false:=by unfold badN; rw [decide_eq_false hb1,decide_eq_false hb2]; rfl
 have ey:m.bases.any (badN g) = false → makeM g m = (⟨g,m.bases.map (powerG g g.G),powerG g g.G m.blind⟩,true):=fun ha=>by
  unfold makeM
  rw [if_pos]
  rw [hv,ha,hb,decide_eq_true (by omega:2 ≤ m.bases.length),decide_eq_true (by omega:m.bases.length ≤ 7)]; rfl
 refine Xa (An5 hk.cells @h2 @h7 @hb1 @hb2) ?_
 have hk:=hk.drew
 refine ⟨Nx { w2 with drawn:=w2.drawn + 1 },bR,rfl,?_⟩
 generalize ({ w2 with drawn:=w2.drawn + 1 }:World) = W at hk ⊢
 refine Xc (fun W0 hW0=>(hk.next hW0).cells) ?_
 refine ⟨Nx,?_⟩
 apply monoE
 ·intro w1 h1
  exact rPower_ok g g.G m.blind (fun w2 h2=>⟨h1.on h2,h2,rfl⟩)
 repeat (apply monoE; focus (intro w9 h9; (repeat (intro v9 e9; try (obtain rfl:=e9))); (repeat (any_goals ((with_reducible refine oG fun X Y=>?_); simp [go_sem,build_stp2]; apply Y; clear Y X))); exact ⟨h9,bR,rfl⟩))
 refine monoR (fun v w'=>∃ g2,v = ptr g2 0 ∧ W.heap.size ≤ g2 ∧ Holds w' g2 26 (stpC zS (.slice none 0 0))) (fun v w w1 hS h=>h.imp fun g2 h=>⟨h.1,h.2.1,h.2.2.next hS⟩) ?_ ?_
 ·intro w1 h1
  exact arr_alloc al_stp (fun g2 w2 h2 hg2 hh=>⟨h1.on h2,h2,g2,rfl,Nat.le_trans h1.size hg2,hh⟩)
 (intro w9 h9; repeat (intro v9 e9; try (obtain rfl:=e9)))
 obtain ⟨g2,rfl,hg2,hh⟩:=e9
 refine arr_store sz_stp (xs:=stpC ⟨g,[],powerG g g.G m.blind⟩ (.slice none 0 0)) rfl rfl (stp_one ⟨g,[],powerG g g.G m.blind⟩ none 0 0) hh rfl (fun w10 hg10 hh=>?_)
 have h10:=grown_below h9 hg10 hg2
 have hgW:g0 < W.heap.size:=mine_lt hk.mine
 have hoffL:=cells_lt hk.cells
 have hk:=hk.next h10
 clear hg10 h9
 have hne:g0 ≠ g2:=by omega
 have hoff:∀ p ∈ cellsOf (cellsOf [] b1 0 [.int .i64 g.P,.int .i64 g.Q,.int .i64 g.G]) b2 0 (mirC m (.slice ad m.bases.length c)),p.1.block ≠ g2:=fun p hp=>by have:=hoffL p hp; omega
 have hbase:w.heap.size ≤ g2:=Nat.le_trans hk.base (by omega)
 have hal:(m.bases.map (powerG g g.G)).length = m.bases.length:=List.length_map _
 have hrng:∀ n ∈ m.bases.map (powerG g g.G),I64 n:=by
  intro n hn
  obtain ⟨x,_,rfl⟩:=List.mem_map.1 hn
  exact powerG_I64 _ _ _
 have hat:∀ i (h:i < m.bases.length),(m.bases.map (powerG g g.G))[i]? = some (powerG g g.G m.bases[i]):=fun i h=>by simp [h]
 generalize m.bases.map (powerG g g.G) = al at *
 refine ⟨RkJ w10 g2 26 (fun ov=>stpC ⟨g,[],powerG g g.G m.blind⟩ ov) (badN g) m.bases al (m.bases.any (badN g)),grMu m.bases.length,⟨_,.slice none 0 0,0,rfl,by omega,by rw [List.drop_zero],.start hh.lt hh⟩,?_⟩
 have hk0:=hk
 rintro _ _ w6 ⟨u,ov,i,rfl,hi,ha,hgr⟩
 have hk:=hk0.fr hgr.fr hoff hne hbase
 by_cases hin:i = m.bases.length
 ·rw [List.drop_of_length_le (by omega)] at ha
  have ey:=ey ha.symm
  have ho:=hgr.own
  rw [List.take_of_length_le (by omega)] at ho
  have hints:=ho.ints hrng (by omega)
  obtain ⟨g',oc,cur,rfl,hlt,hB,_,_,_,_⟩:=owns_cells ho (by omega)
  refine Xa (An2 hk.cells hgr.holds.are) ?_
  refine store_stp ⟨g,al,powerG g g.G m.blind⟩ (some ⟨g',0,none⟩) al.length oc hk (fun W3 hk hc hg3=>⟨stpV ⟨g,al,powerG g g.G m.blind⟩ (.slice (some ⟨g',0,none⟩) al.length oc),by simp [go_sem,hc],k2 W3 (.slice (some ⟨g',0,none⟩) al.length oc) _ ey hk.below ⟨hg,⟨hints.row.keep hg3.size (fun i hi hlt=>hg3.block i hlt ?_),hrng,by show al.length ≤ _; omega⟩,powerG_I64 _ _ _,hT.next hk.below⟩⟩)
  cases hi
  intro e
  have e2:g' = g0:=oI e
  have:=hh.lt
  omega
 ·rw [List.drop_eq_getElem_cons (by omega),List.any_cons] at ha
  obtain ⟨b8,o8,rfl,hb8',ca,ra,_⟩:=hms.at (i:=i) (by omega)
  have hat:=hat i (by omega)
  have htk:=take_snoc' hat
  generalize m.bases[i] = x at *
  refine Xa hk.cells ?_
  have hk:=hk.drew
  have hgr:=hgr.next (.drawn (B:=w6.heap.size))
  refine ⟨Nx { w6 with drawn:=w6.drawn + 1 },bR,rfl,?_⟩
  generalize ({ w6 with drawn:=w6.drawn + 1 }:World) = W6 at hk hgr ⊢
  by_cases hx1:x < 1
  ·have hbx:badN g x = true:=by unfold badN; rw [decide_eq_true hx1]; rfl
   rw [hbx,Bool.true_or] at ha
   refine Xf (fun W0 hW0=>An2 ((hk.next hW0).cells) (ca _ (hk.next hW0).below)) @hx1 ?_
   refine ⟨Nx,fun w7 h7=>?_⟩
   refine Xa0 ?_
   exact bad (hno (.inr (.inr (.inr (.inl ha.symm))))) _ (hk.next h7)
  by_cases hx2:g.Q ≤ x
  ·have hbx:badN g x = true:=by unfold badN; rw [decide_eq_true hx2,Bool.or_true]
   rw [hbx,Bool.true_or] at ha
   refine Xf (fun W0 hW0=>An2 ((hk.next hW0).cells) (ca _ (hk.next hW0).below)) (An2 @hx1 @hx2) ?_
   refine ⟨Nx,fun w7 h7=>?_⟩
   refine Xa0 ?_
   exact bad (hno (.inr (.inr (.inr (.inl ha.symm))))) _ (hk.next h7)
  have hbx:badN g x = false:=by unfold badN; rw [decide_eq_false hx1,decide_eq_false hx2]; rfl
  rw [hbx,Bool.false_or] at ha
  refine Xf (fun W0 hW0=>An2 ((hk.next hW0).cells) (ca _ (hk.next hW0).below)) (An2 @hx1 @hx2) ?_
  refine ⟨Nx,fun w7 h7=>?_⟩
  refine Xa0 ?_
  have hk:=(hk.next h7).drew
  have hgr:=(hgr.next h7).next (.drawn (B:=w7.heap.size))
  clear h7
  refine ⟨Nx { w7 with drawn:=w7.drawn + 1 },bR,rfl,?_⟩
  generalize ({ w7 with drawn:=w7.drawn + 1 }:World) = W6 at hk hgr ⊢
  refine Xc (fun W0 hW0=>An3 ((hk.next hW0).cells) (ca _ (hk.next hW0).below) ((hgr.next hW0).holds.are)) ?_
  refine ⟨Nx,?_⟩
  apply monoE
  ·intro w1 h1
   exact rPower_ok g g.G x (fun w2 h2=>⟨h1.on h2,h2,rfl⟩)
  refine monoR (fun v w'=>Ints w' v [powerG g g.G x]) (fun v w w1 hS h=>h.next hS) ?_ ?_
  ·rintro w1 h1 _ rfl
   exact mk1 _ (powerG_I64 _ _ _) (fun v w2 h2 hi=>⟨h1.on h2,h2,hi⟩)
  rintro w9 h9 _ rfl v9 hi9
  refine gr_append (hgr.next h9) hi9 (by rw [List.length_take]; omega) (fun ad n c w11 hgr=>?_)
  refine Xa0 ?_
  refine gr_store (i:=3) hgr (show 3 < 5 by decide) (fun w12 hgr=>?_)
  refine Xa0 ?_
  rw [htk] at hgr
  refine ⟨⟨_,_,i + 1,rfl,by omega,ha,hgr⟩,?_⟩
  simp only [grMu_eq]; omega
theorem rMirrors_ok (s:Stp) (m:Mir) {v mv:Value} (hs:SetR w s v) (hm:MirR w m mv) (k:∀ w',Bw w w' → K (.bool (mirrorsM s m)) w'):callM Tryz.prog 59 #[stpV s v,mirV m mv] K w:=by
 apply sh_59_ok
 unfold sh_59
 have hs':=hs
 obtain ⟨ad,c,rfl⟩:=hs.ints.isSlice
 have hms:=hm
 obtain ⟨mad,mc,rfl⟩:=hm.ints.isSlice
 refine box_kn (cs:=stpC s (.slice ad s.bases.length c)) rfl (.start w) fun b1 W hk hb1 hbb=>?_
 refine box_kn (cs:=mirC m (.slice mad m.bases.length mc)) rfl hk fun b2 W2 hk hb2 hbb=>?_
 clear hb1 hb2
 have eM:mirrorsM s m = ((makeM s.g m).2 && (decide (s.g = (makeM s.g m).1.g) && (decide (s.blind = (makeM s.g m).1.blind) && decide (s.bases = (makeM s.g m).1.bases)))):=by
  unfold mirrorsM
  cases hq:(makeM s.g m).2 with
  | false=>rfl
  | true=>
   have hg:(makeM s.g m).1.g = s.g:=by
    unfold makeM at hq ⊢
    split at hq
    ·rename_i h; rw [if_pos h]
    ·cases hq
   simp only [hg,bT,decide_true,eq_comm]
 rw [eM] at k
 clear eM
 refine Xa hk.cells ?_
 refine rMake_ok s.g m hs'.grp (hs'.db.next hk.below) (hms.next hk.below) (fun w3 sv h3 hr=>?_)
 have hk:=hk.next h3
 obtain ⟨sad,sc,rfl⟩:=id hr.ints.isSlice
 generalize (makeM s.g m).1 = t at *
 generalize (makeM s.g m).2 = q at *
 refine Xb2_0 ?_
 refine local_stp t sad t.bases.length sc hk (fun b7 W7 hk hb7 hg7=>?_)
 cases q with
 | false=>
  rw [bF] at k
  refine Xa0 ?_
  exact k _ hk.below
 | true=>
 rw [bT] at k
 refine Xa hk.cells ?_
 refine rSameSetup_ok s t (hs'.ints.next hk.below) (hr.ints.next hb7) (fun w8 h8=>?_)
 have k:=k _ (hk.next h8).below
 generalize (decide (s.g = t.g) && (decide (s.blind = t.blind) && decide (s.bases = t.bases))) = q at *
 refine Xa0 ?_
 exact k
theorem one_mod {g:Grp} (h:Gv g):1 % g.P = 1:=Int.emod_eq_of_lt (by decide) (by have:=h.p; have:=h.q0; omega)
theorem prodG_gv {g:Grp} (h:Gv g) (bs es:List Int) (hl:bs.length = es.length):prodG g bs es = (prodL g 1 (bs.zip es),true):=by
 unfold prodG
 rw [if_pos ⟨h.okP,h.okQ,hl⟩,one_mod h]
theorem mul_oneL {g:Grp} (h:Gv g) {x:Int} (hx:0 ≤ x ∧ x < g.P):mulM g.P 1 x = x:=by
 unfold mulM
 rw [if_pos h.okP,Int.one_mul,Int.emod_eq_of_lt hx.1 hx.2]
theorem powerG_range {g:Grp} (h:Gv g) (x n:Int):0 ≤ powerG g x n ∧ powerG g x n < g.P:=by
 unfold powerG pw
 rw [if_pos ⟨h.okP,h.okQ⟩]
 have:=h.okP
 exact ⟨Int.emod_nonneg _ (by have:=this.1; omega),Int.emod_lt_of_pos _ (by have:=this.1; omega)⟩
theorem timesG_gv {g:Grp} (h:Gv g) (a b:Int):timesG g a b = mulM g.P a b:=by unfold timesG; rw [if_pos h.okQ]
theorem rCommit_ok (s:Stp) (v r:Int) {sv:Value} (hs:SetR w s sv) (k:∀ w',Bw w w' → K (.int .i64 (commitM s v r)) w'):callM Tryz.prog 60 #[stpV s sv,.int .i64 v,.int .i64 r] K w:=by
 apply sh_60_ok
 unfold sh_60
 have hs':=hs
 obtain ⟨ad,c,rfl⟩:=hs.ints.isSlice
 refine box_kn (cs:=stpC s (.slice ad s.bases.length c)) rfl (.start w) fun b1 W hk hb1 hbb=>?_
 clear hb1 hbb
 refine Xa hk.cells ?_
 refine rValidSetup_ok s (hs'.next hk.below) (fun w2 h2=>?_)
 have hk:=hk.next h2
 unfold commitM at k
 cases hvs:validS s with
 | false=>
  rw [hvs] at k
  refine Xa0 ?_
  exact k _ hk.below
 | true=>
 rw [hvs,if_pos rfl] at k
 have hgv:=gv_setup hvs
 rw [prodG_gv hgv [s.g.G,s.blind] [v,r] rfl] at k
 have k:∀ w',Bw w w' → K (.int .i64 (mulM s.g.P (mulM s.g.P 1 (powerG s.g s.g.G v)) (powerG s.g s.blind r))) w':=k
 rw [mul_oneL hgv (powerG_range hgv _ _)] at k
 refine Xa0 ?_
 unfold held_60_5
 have hk9:=hk.drew
 refine ⟨Nx { w2 with drawn:=w2.drawn + 1 },bR,by trivial,?_⟩
 generalize ({ w2 with drawn:=w2.drawn + 1 }:World) = W9 at hk9 ⊢
 refine Xc (fun W0 hW0=>(hk9.next hW0).cells) ?_
 refine ⟨Nx,?_⟩
 apply monoE
 ·intro w1 h1
  exact rPower_ok s.g _ _ (fun w2 h2=>⟨h1.on h2,h2,rfl⟩)
 apply monoE
 ·intro w1 h1
  exact rPower_ok s.g _ _ (fun w2 h2=>⟨h1.on h2,h2,rfl⟩)
 rintro w9 h9 _ rfl _ rfl
 have hk:=hk9.next h9
 refine rTimes_ok s.g _ _ (fun w5 h5=>?_)
 rw [timesG_gv hgv]
 exact k _ (hk.next h5).below
def RrJ (q:Int) (l:List Int) (R:Int) (w0:World) (L:List (Addr × Value)) (vs:List Value) (w':World):Prop:=Kn w0 L w' ∧ ∃ (o:Int) (i:Nat),vs = [.int .i64 o,.int .i64 (i:Int)] ∧ i ≤ l.length ∧ restL q i o (l.drop i) = R
theorem rRest_ok (s:Stp) (r:Int) (l:List Int) {sv lv:Value} (hs:SetR w s sv) (hl:Ints w lv l) (k:∀ w',Bw w w' → K (.int .i64 (restM s r l)) w'):callM Tryz.prog 72 #[stpV s sv,.int .i64 r,lv] K w:=by
 apply sh_72_ok
 unfold sh_72
 have hs':=hs
 obtain ⟨ad,c,rfl⟩:=hs.ints.isSlice
 have hl':=hl
 obtain ⟨lad,lc,rfl⟩:=hl.isSlice
 refine box_kn (cs:=stpC s (.slice ad s.bases.length c)) rfl (.start w) fun b1 W hk hb1 hbb=>?_
 clear hb1 hbb
 refine Xa hk.cells ?_
 refine rValidSetup_ok s (hs'.next hk.below) (fun w2 h2=>?_)
 have hk:=hk.next h2
 unfold restM at k
 cases hvs:validS s with
 | false=>
  rw [hvs,bF] at k
  refine Xa0 ?_
  exact k _ hk.below
 | true=>
 rw [hvs,bT] at k
 by_cases h6:(60:Int) < l.length
 ·rw [decide_eq_false (by omega)] at k
  refine Xa @h6 ?_
  exact k _ hk.below
 rw [decide_eq_true (by omega),if_pos rfl] at k
 refine Xa (An2 hk.cells @h6) ?_
 refine rAdd_ok _ _ _ ?_
 refine ⟨RrJ s.g.Q l (restL s.g.Q 0 (addM s.g.Q r 0) l) w _,grMu l.length,⟨hk,_,0,rfl,by omega,rfl⟩,?_⟩
 generalize restL s.g.Q 0 (addM s.g.Q r 0) l = R at *
 rintro _ _ w3 ⟨hk,o,i,rfl,hi,ha⟩
 by_cases hin:i = l.length
 ·rw [List.drop_of_length_le (by omega)] at ha
  subst hin
  refine Xa0 ?_
  have e:o = R:=ha
  rw [e]
  exact k _ hk.below
 rw [List.drop_eq_getElem_cons (by omega)] at ha
 obtain ⟨b8,o8,rfl,hb8',ca,ra,_⟩:=hl'.at (i:=i) (by omega)
 generalize l[i] = x at *
 have hil:(i:Int) < l.length:=by omega
 refine Xa @hil ?_
 unfold held_72_18
 simp only [List.getD_cons_succ,List.getD_cons_zero]
 have hk9:=hk.drew
 refine ⟨Nx { w3 with drawn:=w3.drawn + 1 },bR,by trivial,?_⟩
 generalize ({ w3 with drawn:=w3.drawn + 1 }:World) = W9 at hk9 ⊢
 refine Xf (fun W0 hW0=>An2 ((hk9.next hW0).cells) (ca _ (hk9.next hW0).below)) @hil ?_
 refine oH_of (v:=.int .i64 (2 ^ i)) ⟨_,rfl⟩ (fun W0 hW0=>shlI (by omega) ⟨rfl,rfl⟩) ?_
 refine ⟨Nx,?_⟩
 apply monoE
 ·intro w1 h1
  exact rMul_ok _ _ _ ⟨h1,bR,rfl⟩
 rintro w9 h9 _ rfl
 have hk:=hk9.next h9
 refine rSub_ok _ _ _ ?_
 refine Xa0 ?_
 refine ⟨⟨hk,_,i + 1,rfl,by omega,ha⟩,?_⟩
 simp only [grMu_eq]; omega
def RwJ (g:Grp) (l:List Int) (N:Nat) (R:Bool) (V:Int) (w0:World) (L:List (Addr × Value)) (vs:List Value) (w':World):Prop:=Kn w0 L w' ∧ ∃ (o:Int) (i:Nat),vs = [.int .i64 0,.bool false,.int .i64 o,.int .i64 (i:Int)] ∧ i ≤ l.length ∧ (l.drop i).all (elemG g) = R ∧ prodL g o ((l.drop i).zip ((pows N).drop i)) = V
theorem rWeigh_ok (s:Stp) (l:List Int) {sv lv:Value} (hs:SetR w s sv) (hl:Ints w lv l) (k:∀ w',Bw w w' → K (.tuple #[.int .i64 (weighM s l).1,.bool (weighM s l).2]) w'):callM Tryz.prog 75 #[stpV s sv,lv] K w:=by
 apply sh_75_ok
 unfold sh_75
 have hs':=hs
 obtain ⟨ad,c,rfl⟩:=hs.ints.isSlice
 have hl':=hl
 obtain ⟨lad,lc,rfl⟩:=hl.isSlice
 refine box_kn (cs:=stpC s (.slice ad s.bases.length c)) rfl (.start w) fun b1 W hk hb1 hbb=>?_
 clear hb1 hbb
 refine Xa hk.cells ?_
 refine rValidSetup_ok s (hs'.next hk.below) (fun w2 h2=>?_)
 have hk:=hk.next h2
 unfold weighM at k
 cases hvs:validS s with
 | false=>
  rw [hvs,bF,bF,bF] at k
  refine Xa0 ?_
  exact k _ hk.below
 | true=>
 rw [hvs,bT] at k
 by_cases h1:(l.length:Int) < 1
 ·rw [decide_eq_false (by omega),bF,bF] at k
  refine Xa @h1 ?_
  exact k _ hk.below
 rw [decide_eq_true (by omega),bT] at k
 by_cases h6:(60:Int) < l.length
 ·rw [decide_eq_false (by omega),bF] at k
  refine Xa (An2 @h1 @h6) ?_
  exact k _ hk.below
 rw [decide_eq_true (by omega),bT] at k
 have hgv:=gv_setup hvs
 rw [prodG_gv hgv _ _ (pows_len _).symm] at k
 refine Xa (An3 hk.cells @h1 @h6) ?_
 refine ⟨RwJ s.g l l.length (l.all (elemG s.g)) (prodL s.g 1 (l.zip (pows l.length))) w _,(fun vs _=>match vs with | [_,_,_,.int _ i]=>l.length - i.toNat | _=>0),⟨hk,_,0,rfl,by omega,rfl,rfl⟩,?_⟩
 generalize prodL s.g 1 (l.zip (pows l.length)) = V at *
 generalize l.all (elemG s.g) = R at *
 rintro _ _ w3 ⟨hk,o,i,rfl,hi,ha,hV⟩
 by_cases hin:i = l.length
 ·rw [List.drop_of_length_le (by omega)] at ha hV
  have hV:o = V:=hV
  have ha:true = R:=ha
  subst ha hV hin
  rw [if_pos rfl] at k
  refine Xa0 ?_
  exact k _ hk.below
 have hpi:(pows l.length)[i]? = some (2 ^ i):=pows_at (by omega)
 have hpl:i < (pows l.length).length:=by rw [pows_len]; omega
 have hpe:(pows l.length)[i] = 2 ^ i:=by rw [gE hpl] at hpi; exact oI hpi
 rw [List.drop_eq_getElem_cons (by omega),List.all_cons] at ha
 rw [List.drop_eq_getElem_cons (show i < l.length by omega),List.drop_eq_getElem_cons hpl,hpe,List.zip_cons_cons] at hV
 obtain ⟨b8,o8,rfl,hb8',ca,ra,_⟩:=hl'.at (i:=i) (by omega)
 generalize l[i] = x at *
 have hil:(i:Int) < l.length:=by omega
 refine Xa @hil ?_
 unfold held_75_18
 simp only [List.getD_cons_succ,List.getD_cons_zero]
 have hk9:=hk.drew
 refine ⟨Nx { w3 with drawn:=w3.drawn + 1 },bR,by trivial,?_⟩
 generalize ({ w3 with drawn:=w3.drawn + 1 }:World) = W9 at hk9 ⊢
 refine Xf (fun W0 hW0=>An2 ((hk9.next hW0).cells) (ca _ (hk9.next hW0).below)) @hil ?_
 refine ⟨Nx,fun w9 h9=>?_⟩
 have hk:=hk9.next h9
 refine rElement_ok s.g x hs'.grp (fun w4 h4=>?_)
 have hk:=hk.next h4
 cases hel:elemG s.g x with
 | false=>
  rw [hel,bF] at ha
  rw [← ha] at k
  refine Xa0 ?_
  exact k _ hk.below
 | true=>
 rw [hel,bT] at ha
 refine Xa0 ?_
 unfold held_75_28
 simp only [List.getD_cons_succ,List.getD_cons_zero]
 have hk9:=hk.drew
 refine ⟨Nx { w4 with drawn:=w4.drawn + 1 },bR,by trivial,?_⟩
 generalize ({ w4 with drawn:=w4.drawn + 1 }:World) = W9 at hk9 ⊢
 refine Xf (fun W0 hW0=>An2 ((hk9.next hW0).cells) (ca _ (hk9.next hW0).below)) @hil ?_
 refine oH_of (v:=.int .i64 (2 ^ i)) ⟨_,rfl⟩ (fun W0 hW0=>shlI (by omega) ⟨rfl,rfl⟩) ?_
 refine ⟨Nx,?_⟩
 apply monoE
 ·intro w1 h1
  exact rPower_ok _ _ _ (fun w2 h2=>⟨h1.on h2,h2,rfl⟩)
 rintro w9 h9 _ rfl
 have hk:=hk9.next h9
 refine rTimes_ok s.g _ _ (fun w5 h5=>?_)
 have hk:=hk.next h5
 rw [timesG_gv hgv]
 refine Xa0 ?_
 refine ⟨⟨hk,_,i + 1,rfl,by omega,ha,hV⟩,?_⟩
 show l.length - (((i + 1:Nat):Int)).toNat < l.length - ((i:Nat):Int).toNat
 omega
end
section
variable {K:VK} {w w' w0 W:World} {L:List (Addr × Value)}
theorem rBlinded_ok (s:Stp) (t:Int) {sv:Value} (hs:SetR w s sv) (ht:I64 t) (k:∀ w' v,Bw w w' → ClmF w w' (blindedM s t) v → K v w'):callM Tryz.prog 145 #[stpV s sv,.int .i64 t] K w:=by
 apply sh_145_ok
 unfold sh_145
 have hs':=hs
 obtain ⟨ad,c,rfl⟩:=hs.ints.isSlice
 refine box_kn (cs:=stpC s (.slice ad s.bases.length c)) rfl (.start w) fun b1 W hk hb1 hbb=>?_
 refine arr_alloc al_clm (fun g2 w2 h2 hg2 hh=>?_)
 have hk:=hk.next h2
 have hglt:=hh.lt
 have hW:=hb1.size
 have h2s:=h2.size
 refine Xb3 hk.cells ?_
 refine lit_trm _ _ (fun g3 w3 h3 hg3 hh3=>?_)
 refine Xb1_0 ?_
 refine lit_eqn _ _ _ _ (fun g4 w4 h4 hg4 hh4=>?_)
 refine Xb1_0 ?_
 have hh3:=hh3.next h4
 have hh:=(hh.next h3).next h4
 refine arr_store sz_clm (xs:=[.int .i64 1,.slice (some ⟨g4,0,none⟩) 1 1]) rfl rfl (clm_one 1 _ 1 1) hh rfl (fun w5 hg5 hh5=>?_)
 have hh3:=hh3.other hg5 (by omega)
 have hh4:=hh4.other hg5 (by have:=h3.size; omega)
 have hb:=(hk.next h3).next h4 |>.below
 have hgg:w.heap.size ≤ g2:=by omega
 refine arr_ret hh5 un_clm (by kernel_rfl) (by kernel_rfl) (k _ _ (grown_below hb hg5 hgg) ⟨some ⟨g4,0,none⟩,1,rfl,?_⟩)
 have h3s:=h3.size
 refine ((hh3.fresh (W:=w) (by omega)).both (hh4.fresh (W:=w) (by omega))).imp ?_
 rintro w' ⟨e1,e2⟩
 exact blind_clm ht hs'.blind e1 e2
def RbtJ (s:Stp) (l:List Int) (w0:World) (vs:List Value) (w':World):Prop:=Bw w0 w' ∧ ∃ (rv:Value) (i:Nat) (D:Nat → Prop),vs = [rv,.int .i64 (i:Int)] ∧ i ≤ l.length ∧ ClsG w0.heap.size D w' rv ((l.map (bitC s)).take i) ∧ Off D w' rv
theorem rBits_ok (s:Stp) (l:List Int) {sv lv:Value} (hs:SetR w s sv) (hl:Ints w lv l) (k:∀ w' v D,Bw w w' → ClsG w.heap.size D w' v (bitsM s l) → Off D w' v → K v w'):callM Tryz.prog 69 #[stpV s sv,lv] K w:=by
 apply sh_69_ok
 unfold sh_69
 have hs':=hs
 obtain ⟨ad,c,rfl⟩:=hs.ints.isSlice
 have hl':=hl
 obtain ⟨lad,lc,rfl⟩:=hl.isSlice
 refine box_kn (cs:=stpC s (.slice ad s.bases.length c)) rfl (.start w) fun b1 W hk hb1 hbb=>?_
 clear hb1 hbb
 refine Xa hk.cells ?_
 refine rWeigh_ok s l (hs'.next hk.below) (hl'.next hk.below) (fun w2 h2=>?_)
 have hk:=hk.next h2
 unfold bitsM at k
 cases hw:(weighM s l).2 with
 | false=>
  rw [hw] at k
  refine Xa0 ?_
  refine ⟨fun vs W=>Bw w W ∧ vs = [.slice none 0 0,.int .i64 0],fun _ _=>0,⟨hk.below,rfl⟩,?_⟩
  rintro _ _ w3 ⟨h3,rfl⟩
  by_cases h0:(0:Int) < l.length
  ·refine Xa @h0 ?_
   exact k _ _ (fun _=>False) h3 .nil (fun i h=>h.elim)
  ·refine Xa @h0 ?_
   exact k _ _ (fun _=>False) h3 .nil (fun i h=>h.elim)
 | true=>
 rw [hw,if_pos rfl] at k
 have h60:l.length ≤ 60:=by
  unfold weighM at hw
  split at hw
  ·rename_i h
   simp only [bA,dE] at h
   exact h.1.2
  ·cases hw
 refine Xa hk.cells ?_
 refine ⟨RbtJ s l w2,grMu l.length,⟨bR,_,0,fun _=>False,rfl,by omega,.nil,fun i h=>h.elim⟩,?_⟩
 rintro _ _ w3 ⟨hb3,rv,i,D,rfl,hi,hg,hD⟩
 have hk3:=hk.next hb3
 by_cases hin:i = l.length
 ·rw [List.take_of_length_le (by rw [List.length_map]; omega)] at hg
  subst hin
  refine Xa0 ?_
  exact k _ _ D hk3.below (hg.base hk.below.size) hD
 obtain ⟨b8,o8,rfl,hb8',ca,ra,_⟩:=hl'.at (i:=i) (by omega)
 have hil:(i:Int) < l.length:=by omega
 refine Xa @hil ?_
 unfold held_69_13
 simp only [List.getD_cons_succ,List.getD_cons_zero]
 have hk4:=hk3.drew
 have hg4:=hg.next (w':={ w3 with drawn:=w3.drawn + 1 }) .drawn (fun i hi=>(hD i hi).1)
 have hD4:Off D { w3 with drawn:=w3.drawn + 1 } rv:=hD
 have hrl:∀ i,rv.ownBlock = some i → i < ({ w3 with drawn:=w3.drawn + 1 }:World).heap.size:=fun i hi=>(hg4.own hi).1
 have hb4:Below w2.heap.size w2 { w3 with drawn:=w3.drawn + 1 }:=hb3.on .drawn
 refine ⟨Nx { w3 with drawn:=w3.drawn + 1 },bR,by trivial,?_⟩
 generalize ({ w3 with drawn:=w3.drawn + 1 }:World) = W4 at hk4 hg4 hrl hb4 hD4 ⊢
 refine Xf (fun W0 hW0=>An2 ((hk4.next hW0).cells) (ca _ (hk4.next hW0).below)) @hil ?_
 refine ⟨Nx,?_⟩
 refine monoR (fun v w'=>ClmF W4 w' (blindedM s l[i]) v) (fun v w w1 hS h=>h.next hS) ?_ ?_
 ·intro w1 h1
  exact rBlinded_ok s l[i] (hs'.next (hk4.next h1).below) ra (fun w' v hb hf=>⟨h1.on hb,hb,hf.up h1.size⟩)
 apply monoE
 ·intro w1 h1
  exact rOver_ok s.g l[i] s.g.G (fun w2 h2=>⟨h1.on h2,h2,rfl⟩)
 refine monoR (fun v w'=>ClmF W4 w' (blindedM s (overG s.g l[i] s.g.G)) v) (fun v w w1 hS h=>h.next hS) ?_ ?_
 ·rintro w1 h1 _ rfl
  exact rBlinded_ok s _ (hs'.next (hk4.next h1).below) (overG_I64 _ _ _) (fun w' v hb hf=>⟨h1.on hb,hb,hf.up h1.size⟩)
 refine monoR (fun v w'=>RowF 2 VClm W4 w' (bitC s l[i]).claims v) (fun v w w1 hS h=>h.next hS) ?_ ?_
 ·intro w1 h1 v1 hv1 v2 hv2
  exact two_clm hv1 hv2 (fun v w' hb hr=>⟨h1.on hb,hb,hr⟩) h1.size
 refine monoR (fun v w'=>ClsF W4 w' (bitC s l[i]) v) (fun v w w1 hS h=>h.next hS) ?_ ?_
 ·intro w1 h1 v1 hv1
  obtain ⟨ad,c,rfl⟩:=hv1.1
  rw [build_cls]
  exact ⟨h1,bR,cls_of rfl hv1⟩
 refine monoR (fun v w'=>LitF 65 W4 w' (bitC s l[i]) v) (fun v w w1 hS h=>h.next hS) ?_ ?_
 ·intro w1 h1 v1 hv1
  exact lit_of hv1 h1.size (fun v w' hb hr=>⟨h1.on hb,hb,hr⟩)
 rintro w9 h9 v1 _ _ rfl v2 _ v3 _ v4 _ v5 hv5
 refine cls_append (hg4.next h9 (fun i hi=>(hD4 i hi).1)) (Nat.le_trans hb4.size h9.size) hv5 (hD4.next h9.size) hrl (by rw [List.length_take,List.length_map]; omega) (fun v6 w6 D6 hg6 hb6 hv6 hD6=>?_)
 have e:(l.map (bitC s)).take i ++ [bitC s l[i]] = (l.map (bitC s)).take (i + 1):=by
  rw [List.take_add_one,List.getElem?_map,gE (show i < l.length by omega)]
  rfl
 rw [e] at hg6
 refine Xa0 ?_
 refine ⟨⟨(hb4.on h9).grown hb6 (hb4.on h9).size (fun j hj=>(hg4.own hj).2),_,i + 1,D6,rfl,by omega,hg6,hD6⟩,?_⟩
 simp only [grMu_eq]; omega
theorem rRange_ok (s:Stp) (x:Int) (l:List Int) {sv lv:Value} (hs:SetR w s sv) (hx:I64 x) (hl:Ints w lv l) (k:∀ w' v,Bw w w' → GoalR w' v (PrSpec.rangeM s x l) → K v w'):callM Tryz.prog 70 #[stpV s sv,.int .i64 x,lv] K w:=by
 apply sh_70_ok
 unfold sh_70
 have hs':=hs
 obtain ⟨ad,c,rfl⟩:=hs.ints.isSlice
 have hl':=hl
 obtain ⟨lad,lc,rfl⟩:=hl.isSlice
 refine box_kn (cs:=stpC s (.slice ad s.bases.length c)) rfl (.start w) fun b1 W hk hb1 hbb=>?_
 clear hb1 hbb
 refine Xa hk.cells ?_
 refine rWeigh_ok s l (hs'.next hk.below) (hl'.next hk.below) (fun w2 h2=>?_)
 have hk:=hk.next h2
 unfold PrSpec.rangeM at k
 cases hw:(weighM s l).2 with
 | false=>
  rw [hw,bF] at k
  refine Xa0 ?_
  exact k _ _ hk.below SRow.nil
 | true=>
 rw [hw,bT] at k
 refine Xa hk.cells ?_
 refine rElement_ok s.g _ hs'.grp (fun w4 h4=>?_)
 have hk:=hk.next h4
 cases hel:elemG s.g x with
 | false=>
  rw [hel] at k
  refine Xa0 ?_
  exact k _ _ hk.below SRow.nil
 | true=>
 rw [hel,if_pos rfl] at k
 generalize (weighM s l).1 = wt at *
 refine Xa0 ?_
 unfold held_70_13
 have hk4:=hk.drew
 refine ⟨Nx { w4 with drawn:=w4.drawn + 1 },bR,by trivial,?_⟩
 generalize ({ w4 with drawn:=w4.drawn + 1 }:World) = W4 at hk4 ⊢
 refine Xc (fun W0 hW0=>(hk4.next hW0).cells) ?_
 refine ⟨Nx,?_⟩
 refine monoR (fun v w'=>∃ D,ClsG W4.heap.size D w' v (bitsM s l) ∧ Off D w' v) (fun v w w1 hS h=>h.imp fun D h=>⟨h.1.next hS (fun i hi=>(h.2 i hi).1),h.2.next hS.size⟩) ?_ ?_
 ·intro w1 h1
  refine rBits_ok s l (hs'.next (hk4.next h1).below) (hl'.next (hk4.next h1).below) (fun w' v D hb hg hD=>⟨h1.on hb,hb,D,hg.base h1.size,hD⟩)
 apply monoE
 ·intro w1 h1
  exact rOver_ok s.g x wt (fun w2 h2=>⟨h1.on h2,h2,rfl⟩)
 rintro w9 h9 v1 ⟨D,hg,hD⟩ _ rfl
 have hk9:=hk4.next h9
 refine rBlinded_ok s (overG s.g x wt) (hs'.next hk9.below) (overG_I64 _ _ _) (fun w10 v hb10 hf=>?_)
 refine one_clm hf (fun v11 w11 h11 hr11=>?_) hb10.size
 obtain ⟨ad11,c11,rfl⟩:=hr11.1
 rw [show ([blindedM s (overG s.g x wt)]:List Clm).length = 1 from rfl] at *
 rw [build_cls]
 have hc:ClsF w9 w11 (lastC s x wt) (.agg #[.int .i64 1,.slice ad11 1 c11]):=cls_of rfl hr11
 refine lit_of hc (Nat.le_trans hb10.size h11.size) (fun v12 w12 h12 hl12=>?_)
 have hb12:=(hb10.on h11).on h12
 refine cls_append (hg.next hb12 (fun i hi=>(hD i hi).1)) (Nat.le_trans h9.size hb12.size) hl12 (hD.next hb12.size) (fun i hi=>(hg.own hi).1) (by have:=bitsM_len (s:=s) (l:=l); omega) (fun v13 w13 D13 hg13 hb13 hv13 hD13=>?_)
 have hk12:=(hk9.next hb12).below
 refine k _ _ (hk12.grown hb13 hk12.size (fun j hj=>Nat.le_trans hk4.below.size (hg.own hj).2)) (hg13.srow (by decide) ?_)
 rw [List.length_append,List.length_singleton]
 have:=bitsM_len (s:=s) (l:=l)
 omega
theorem build_knw0 (T:TypeId):oM Tryz.prog (Go.Op.build 113 #[]) T [] = pureM (.agg #[.bool false,.slice none 0 0]):=by
 funext K w
 kernel_rfl
theorem lit_knw0 {T:TypeId} (k:∀ g W,Bw w W → w.heap.size ≤ g → Holds W g 113 [.bool false,.slice none 0 0,.bool false,.slice none 0 0] → K (.slice (some ⟨g,0,none⟩) 2 2) W):oM Tryz.prog (.buildSlice 114 2 #[(0,.tmp 0),(1,.tmp 1)]) T [.agg #[.bool false,.slice none 0 0],.agg #[.bool false,.slice none 0 0]] K w:=by
 rw [oM_buildSlice2]; exact lit_run (by kernel_rfl) k
def RspJ (s:Stp) (v:Int) (l:List Int) (w0:World) (vs:List Value) (w':World):Prop:=Bw w0 w' ∧ ∃ (u1 u2 bv kv:Value) (i:Nat) (D:Nat → Prop),vs = [u1,u2,bv,kv,.int .i64 (i:Int)] ∧ i ≤ l.length ∧
 OwnI w' w0.heap.size bv ((splitL s v 0 l).1.take i) ∧ KnwG w0.heap.size D w' kv ((splitL s v 0 l).2.take i) ∧ Off D w' bv ∧ Off D w' kv ∧ apart bv kv
def rspMu (n:Nat) (vs:List Value) (_:World):Nat:=match vs with | [_,_,_,_,.int _ i]=>n - i.toNat | _=>0
theorem rSplit_ok (s:Stp) (v:Int) (l:List Int) {sv lv:Value} (hs:SetR w s sv) (hv:I64 v) (hl:Ints w lv l) (k:∀ w' bv kv D,Bw w w' → Ints w' bv (splitM s v l).1.1 → KnwG w.heap.size D w' kv (splitM s v l).1.2 → Off D w' kv → (∀ i,Value.inBlock bv = some i → kv.ownBlock ≠ some i) → K (.tuple #[bv,kv,.bool (splitM s v l).2]) w'):callM Tryz.prog 77 #[stpV s sv,.int .i64 v,lv] K w:=by
 apply sh_77_ok
 unfold sh_77
 have hs':=hs
 obtain ⟨ad,c,rfl⟩:=hs.ints.isSlice
 have hl':=hl
 obtain ⟨lad,lc,rfl⟩:=hl.isSlice
 refine box_kn (cs:=stpC s (.slice ad s.bases.length c)) rfl (.start w) fun b1 W hk hb1 hbb=>?_
 clear hb1 hbb
 refine Xa hk.cells ?_
 refine rValidSetup_ok s (hs'.next hk.below) (fun w2 h2=>?_)
 have hk:=hk.next h2
 have hno:splitFine s v l = false → ∀ w',Bw w w' → K (.tuple #[.slice none 0 0,.slice none 0 0,.bool false]) w':=fun e w' hb=>by
  have:=k w' (.slice none 0 0) (.slice none 0 0) (fun _=>False) hb
  unfold splitM at this
  rw [e] at this
  exact this (Ints.nil _) .nil (fun i h=>h.elim) (fun i h=>by cases h)
 have eF:splitFine s v l = (validS s && decide (1 ≤ l.length) && decide (l.length ≤ 60) && exponentsM s l l.length && decide (0 ≤ v) && decide (v < 2 ^ l.length)):=rfl
 cases hvs:validS s with
 | false=>
  rw [hvs] at eF
  refine Xa0 ?_
  exact hno (by rw [eF]; simp) _ hk.below
 | true=>
 by_cases h1:(l.length:Int) < 1
 ·refine Xa @h1 ?_
  exact hno (by rw [eF,decide_eq_false (by omega:¬ 1 ≤ l.length)]; simp) _ hk.below
 by_cases h6:(60:Int) < l.length
 ·refine Xa (An2 @h1 @h6) ?_
  exact hno (by rw [eF,decide_eq_false (by omega:¬ l.length ≤ 60)]; simp) _ hk.below
 refine Xa (An3 hk.cells @h1 @h6) ?_
 refine rExponents_ok s l.length (hs'.next hk.below) (hl'.next hk.below) (fun w3 h3=>?_)
 have hk:=hk.next h3
 cases hex:exponentsM s l l.length with
 | false=>
  rw [hex] at eF
  refine Xa0 ?_
  exact hno (by rw [eF]; simp) _ hk.below
 | true=>
 by_cases h0:v < 0
 ·refine Xa @h0 ?_
  exact hno (by rw [eF,decide_eq_false (by omega:¬ 0 ≤ v)]; simp) _ hk.below
 refine Xa @h0 ?_
 refine shlI (by omega) ?_
 by_cases hg:2 ^ l.length ≤ v
 ·refine Xa @hg ?_
  exact hno (by rw [eF,decide_eq_false (by omega:¬ v < 2 ^ l.length)]; simp) _ hk.below
 refine Xa @hg ?_
 have eS:splitM s v l = (splitL s v 0 l,true):=by
  unfold splitM
  rw [if_pos]
  rw [eF,hvs,hex,decide_eq_true (by omega:1 ≤ l.length),decide_eq_true (by omega:l.length ≤ 60),decide_eq_true (by omega:0 ≤ v),decide_eq_true (by omega:v < 2 ^ l.length)]
  rfl
 rw [eS] at k
 clear hno eF
 have hlen:=splitL_len s v l 0
 refine ⟨RspJ s v l w3,rspMu l.length,⟨bR,_,_,_,_,0,fun _=>False,rfl,by omega,own_none,.nil,fun i h=>h.elim,fun i h=>h.elim,fun i h=>by cases h⟩,?_⟩
 rintro _ _ w4 ⟨hb4,u1,u2,bv,kv,i,D,rfl,hi,ho,hg4,hDb,hDk,hap⟩
 have hk4:=hk.next hb4
 unfold loop_77_26
 simp only [List.getD_cons_succ,List.getD_cons_zero]
 by_cases hin:i = l.length
 ·rw [List.take_of_length_le (by omega)] at ho hg4
  have hnl:¬ (i:Int) < l.length:=by omega
  refine Xa @hnl ?_
  refine k w4 bv kv D hk4.below (ho.ints (fun n hn=>?_) (by omega)) (hg4.base hk.below.size) hDk (fun j e1 e2=>?_)
  ·obtain ⟨j,hj,rfl⟩:=List.getElem_of_mem hn
   have:=splitL_fst s v l 0 j
   rw [gE hj,gE (by omega)] at this
   rw [oI this]
   exact commitM_I64 _ _ _
  ·rcases ho.2 with ⟨rfl,_⟩ | ⟨g',cap,cur,rfl,_⟩
   ·cases e1
   ·cases e1
    exact hap _ rfl e2
 obtain ⟨b8,o8,rfl,hb8',ca,ra,_⟩:=hl'.at (i:=i) (by omega)
 have hil:(i:Int) < l.length:=by omega
 refine Xb2 @hil ?_
 refine shrI (by omega) ?_
 have hp:(0:Int) < 2 ^ i:=Int.pow_pos (by decide)
 have hd0:0 ≤ v / 2 ^ i:=Int.ediv_nonneg (by omega) (by omega)
 have hd1:v / 2 ^ i ≤ v:=Int.ediv_le_self _ (by omega)
 refine andI ⟨hd0,by have:=hv.2; omega⟩ ?_
 have e1:=splitL_fst s v l 0 i
 have e2:=splitL_snd s v l 0 i
 rw [gE (show i < l.length by omega),Option.map_some,Nat.zero_add] at e1 e2
 have hb01:=bitOf_01 v i
 have ebit:v / 2 ^ i % 2 = bitOf v i:=rfl
 rw [ebit]
 generalize bitOf v i = b at *
 generalize l[i] = r at *
 rw [build_knw0]
 refine pureM_in ?_
 refine pureM_in ?_
 refine lit_knw0 (fun g5 w5 h5 hg5 hh5=>?_)
 refine Xb2 (An2 (ca _ (hk4.next h5).below) @hil) ?_
 refine mk1g r ra (fun v6 w6 h6 hi6 hb6=>?_)
 obtain ⟨ad6,c6,rfl⟩:=hi6.isSlice
 rw [show ([r]:List Int).length = 1 from rfl] at *
 rw [build_knw]
 have hh6:=hh5.next h6
 have hs5:=h5.size
 have hlt5:=hh5.lt
 refine know_store (W:=w4) hb01 hh6 hi6 hg5 (fun j hj=>?_) (fun w7 h7 hf7=>?_)
 ·rw [hb6] at hj
  have:w5.heap.size = j:=oI hj
  omega
 have hb47:Bw w4 w7:=(h5.on h6).grown h7 (h5.on h6).size (fun j hj=>by have:g5 = j:=oI hj; omega)
 have hk7:=(hk4.next hb47).drew
 unfold held_77_40
 simp only [List.getD_cons_succ,List.getD_cons_zero]
 have h7d:Below w7.heap.size w7 { w7 with drawn:=w7.drawn + 1 }:=.drawn
 refine ⟨Nx { w7 with drawn:=w7.drawn + 1 },bR,by trivial,?_⟩
 generalize ({ w7 with drawn:=w7.drawn + 1 }:World) = W7 at hk7 h7d ⊢
 refine Xf (fun W0 hW0=>An2 ((hk7.next hW0).cells) (ca _ (hk7.next hW0).below)) @hil ?_
 refine ⟨Nx,?_⟩
 apply monoE
 ·intro w1 h1
  exact rCommit_ok s b r (hs'.next (hk7.next h1).below) (fun w2 h2=>⟨h1.on h2,h2,rfl⟩)
 refine monoR (fun v w'=>Ints w' v [commitM s b r]) (fun v w w1 hS h=>h.next hS) ?_ ?_
 ·rintro w1 h1 _ rfl
  exact mk1 _ (commitM_I64 s b r) (fun v w2 h2 hi=>⟨h1.on h2,h2,hi⟩)
 rintro w9 h9 _ rfl v9 hi9
 have h9:=h7d.on h9
 have hb49:=hb47.on h9
 have ho9:=ho.keep hb49
 have hoo:=fun j hj=>owns_own (i:=j) ho hj
 have hkk:=fun j hj=>hg4.own (i:=j) hj
 refine append1g ho9 (Nat.le_trans hb4.size hb49.size) hi9 (by rw [List.length_take]; omega) (fun bv' w10 ho10 hg10 hv10=>?_)
 rw [take_snoc' e1] at ho10
 have hbF:=Fr.of_by' hg10
 have hg10':=(hg4.next hb49 (fun i hi=>(hDk i hi).1)).keep hbF (fun j hj=>⟨lL (hDb j hj).1 hb49.size,(hDb j hj).2⟩) (fun j hj e=>hap j e hj)
 have hb410:=hb49.size
 have h10s:=hg10.size
 have hf10:FP (fun i=>w4.heap.size ≤ i ∧ i < w7.heap.size) w10 (fun w=>KnwsR w (.slice (some ⟨g5,0,none⟩) 2 2) (knwOf b r)):=
  (FP.next hf7 h9 (fun j hj=>hj.2)).by hg10 (fun j hj=>⟨lL hj.2 h9.size,fun e=>by have:=(hoo j e).1; omega⟩)
 have h79:=h9.size
 refine lit_knws _ _ _ (fun g11 w11 h11 hg11 hh11=>?_)
 have hg11':=hg10'.next h11 (fun j hj=>by have:=(hDk j hj).1; omega)
 have h11s:=h11.size
 have h47:=hb47.size
 have hb4s:=hb4.size
 refine knws_append hg11' (by omega) hh11 (hf10.next h11 (fun j hj=>by have:=hj.2; omega)) (fun j hj=>⟨by have:=(hDk j hj).1; omega,(hDk j hj).2⟩) (fun j hj=>⟨by have:=hj.2; omega,fun e=>by have:=(hkk j e).1; have:=hj.1; omega⟩) (by rw [List.length_take]; omega) (fun kv' w12 hg12 hb12 hv12 hD12=>?_)
 rw [take_snoc2 e2] at hg12
 have h12s:=hb12.size
 refine Xa0 ?_
 have hlt10:=fun j hj=>(owns_own (i:=j) ho10 hj)
 refine ⟨⟨((hb4.on hb49).grown hg10 (hb4.on hb49).size (fun j hj=>(hoo j hj).2.1)).trans ((h11.mono (by omega)).grown hb12 (by omega) (fun j hj=>(hkk j hj).2)),_,_,_,_,i + 1,_,rfl,by omega,?_,hg12,?_,hD12,?_⟩,by show l.length - (((i + 1:Nat):Int)).toNat < l.length - ((i:Nat):Int).toNat; omega⟩
 ·refine owns_keep (ho10.keep h11) (fun j hj=>hb12.block j (by have:=(hlt10 j hj).1; omega) (fun e=>?_))
  have e':kv.ownBlock = some j:=by first | exact e | exact e.symm
  rcases hv10 j hj with h | h
  ·exact hap j h e'
  ·have:=(hkk j e').1; omega
 ·rintro j (hj | hj)
  ·refine ⟨by have:=(hDb j hj).1; omega,fun e=>?_⟩
   rcases hv10 j e with h | h
   ·exact (hDb j hj).2 h
   ·have:=(hDb j hj).1; omega
  ·refine ⟨by have:=hj.2; omega,fun e=>?_⟩
   rcases hv10 j e with h | h
   ·have:=(hoo j h).1; have:=hj.1; omega
   ·have:=hj.2; omega
 ·intro j e1 e2
  rcases hv12 j e2 with h | h
  ·rcases hv10 j e1 with h' | h'
   ·exact hap j h' h
   ·have:=(hkk j h).1; omega
  ·have:=(hlt10 j e1).1; omega
end
end Go.Proofs
namespace Go.Proofs
open Go Go.Sh Go.RowKit ShaSpec
section
variable {K:VK} {w w0:World}
abbrev OwnW (w:World) (B:Nat) (v:Value) (l:List W):Prop:=w.ownsRow B 223 1 v l.length (ws l)
def WrdR (w:World) (v:Value) (l:List W):Prop:=∃ ad c,v = .slice ad l.length c ∧ (l = [] ∨ ∃ b o,ad = some ⟨b,o,none⟩ ∧ b < w.heap.size ∧ ∀ i,i < l.length → w.cell? ⟨b,o + i,none⟩ = some (w32 (at' l i)))
theorem WrdR.next {w':World} {v:Value} {l:List W} (h:WrdR w v l) (hb:Bw w w'):WrdR w' v l:=by
 obtain ⟨ad,c,rfl,h⟩:=h
 refine ⟨ad,c,rfl,h.imp id ?_⟩
 rintro ⟨b,o,rfl,hlt,hc⟩
 exact ⟨b,o,rfl,lL hlt hb.size,fun i hi=>by rw [hb.cell hlt]; exact hc i hi⟩
theorem WrdR.at {v:Value} {l:List W} (h:WrdR w v l) (hne:0 < l.length):∃ b o c,v = .slice (some ⟨b,o,none⟩) l.length c ∧ ∀ w',Bw w w' → ∀ i,i < l.length → w'.cell? ⟨b,o + i,none⟩ = some (w32 (at' l i)):=by
 obtain ⟨ad,c,rfl,h⟩:=h
 rcases h with rfl | ⟨b,o,rfl,hlt,hc⟩
 ·simp at hne
 ·exact ⟨b,o,c,rfl,fun w' hb i hi=>by rw [hb.cell hlt]; exact hc i hi⟩
theorem OwnW.read {B:Nat} {v:Value} {l:List W} (h:OwnW w B v l):WrdR w v l:=by
 by_cases h0:l = []
 ·subst h0
  rcases h.2 with ⟨rfl,_⟩ | ⟨g,cap,cur,rfl,_⟩
  ·exact ⟨none,0,rfl,.inl rfl⟩
  ·exact ⟨_,cap,rfl,.inl rfl⟩
 ·obtain ⟨g,cap,cur,rfl,hlt,_,_,_,_,hc⟩:=owns_cells h (List.length_pos_iff.2 h0)
  refine ⟨_,cap,rfl,.inr ⟨g,0,rfl,hlt,fun i hi=>?_⟩⟩
  rw [Nat.zero_add]
  exact hc i _ (by simp [ws,at',List.getD_eq_getElem?_getD,hi])
theorem OwnW.keep {B:Nat} {v:Value} {l:List W} {w':World} (h:OwnW w B v l) (hb:Bw w w'):OwnW w' B v l:=
 owns_keep h (fun i hi=>hb.block i (owns_own h hi).1)
@[go_sem] theorem idx_w32 (T:TypeId) (b o n c:Nat) (x:Int):oM Tryz.prog (.indexAddr 230 (.tmp 0) (.tmp 1)) T [.slice (some ⟨b,o,none⟩) n c,.int .i64 x] = onM (0 ≤ x ∧ x < n) (.pointer (some ⟨b,o + x.toNat,none⟩)):=by
 funext K w
 rw [oM_indexAddr,run_indexAt_slice (h:=by kernel_rfl)]
 have hs:(sizeOf (Tryz.prog.elem 230)).run Tryz.prog w = .ok 1 w:=by kernel_rfl
 by_cases hi:0 ≤ x ∧ x < n
 ·rw [if_pos hi,hs]
  simp only [Result.andThen,add_none,Nat.mul_one,rM_ok]
  exact propext ⟨fun h=>⟨hi,h⟩,fun h=>h.2⟩
 ·rw [if_neg hi]
  obtain ⟨e',w',he⟩:=halts Value Tryz.prog .i64 x n .index w
  rw [he]
  exact propext ⟨fun h=>h.elim,fun h=>hi h.1⟩
theorem mkW1 {T:TypeId} (x:W) (k:∀ g W,Bw w W → g < W.heap.size → W.cell? ⟨g,0,none⟩ = some (w32 x) → K (.slice (some ⟨g,0,none⟩) 1 1) W):oM Tryz.prog (.buildSlice 230 1 #[(0,.tmp 0)]) T [w32 x] K w:=by
 rw [oM_buildSlice1]
 have e:(Instr.buildSlice 230 1 #[(0,w32 x)]).run Tryz.prog w = .ok (.slice (some ⟨w.heap.size,0,none⟩) 1 1) (w.alloc (.cells #[w32 x] 223)):=by kernel_rfl
 rw [e]
 refine k _ _ ((Below.refl _ w).alloc (rL) _) (by simp) ?_
 have:=World.cell?_alloc_at (w:=w) #[w32 x] 223 w.heap.size 0 rfl
 rw [this]
 rfl
theorem appendW {B:Nat} {T:TypeId} {v:Value} {l:List W} {x:W} {g c:Nat} (ho:OwnW w B v l) (hB:B ≤ w.heap.size) (hx:w.cell? ⟨g,0,none⟩ = some (w32 x)) (hl:l.length < 1099511627776)
  (k:∀ v' w',OwnW w' B v' (l ++ [x]) → Below B w w' → K v' w'):oM Tryz.prog (.call { callee:=.builtin .append,args:=#[.tmp 0,.tmp 1],argTypes:=#[230,230] }) T [v,.slice (some ⟨g,0,none⟩) 1 c] K w:=by
 refine append_at 230 T 223 ((Tryz.prog.info? 223).getD default) (.int .u32 0) 1 4 (by kernel_rfl) (by kernel_rfl) (by kernel_rfl) (by kernel_rfl) (by kernel_rfl) (by kernel_rfl) (by omega) (owns_base ho (Nat.zero_le _)) [w32 x] (by simp) (by simp) ?_ ?_ (by simp only [maxLen]; omega) (by omega) ?_
 ·rintro a ha j u hj
  cases ha
  match j,hj with
  | 0,hj=>
   simp only [List.getElem?_cons_zero,Option.some.injEq] at hj
   subst hj
   rw [add_none]; exact hx
 ·intro u hu
  simp only [List.mem_singleton] at hu
  subst hu; rfl
 ·intro v' w' ho' hg hv
  have hbl:∀ i,v.ownBlock = some i → B ≤ i:=fun i hi=>(owns_own ho hi).2.1
  refine k v' w' ?_ ((Below.refl B w).grown hg hB hbl)
  have e2:ws (l ++ [x]) = ws l ++ [w32 x]:=by simp [ws]
  show w'.ownsRow B 223 1 v' (l ++ [x]).length (ws (l ++ [x]))
  rw [List.length_append,e2]
  exact owns_up ho' (fun i hi=>(hv i hi).elim (hbl i) (fun h=>Nat.le_trans hB h))
theorem turn_ok (x:W) (r:Nat) (h0:0 < r) (h1:r < 32) (k:∀ w',Bw w w' → K (w32 (rotr x r)) w'):callM Tryz.prog 234 #[w32 x,.int .i64 (r:Int)] K w:=by
 apply sh_234_ok
 unfold sh_234
 have s1:=fun t t' T=>wshl (P:=Tryz.prog) t t' T .i64 x (32 - r) (by omega)
 have s2:=fun t t' T=>wshr (P:=Tryz.prog) t t' T .i64 x r (by omega)
 have e1:IntKind.i64.wrap (32 - (r:Int)) = ((32 - r:Nat):Int):=by rw [wrapI64 _ (by omega) (by omega)]; omega
 obtain ⟨m,hm⟩:∃ m,m = 32 - r:=⟨_,rfl⟩
 rw [← hm] at e1 s1
 refine ⟨Nx w,.drawn,?_⟩
 refine Xg (An4 @e1 @s1 @s2 @wor) ?_
 intro w' hw'
 have k:=k w' hw'
 unfold rotr at k
 rw [← hm] at k
 exact k
abbrev W':=BitVec 32
theorem tu6 {K:VK} {w:World} (x:W) (k:∀ w',Bw w w' → K (w32 (rotr x 6)) w'):callM Tryz.prog 234 #[w32 x,.int .i64 6] K w:=turn_ok x 6 (by omega) (by omega) k
theorem tuQ6 {W:World} {KQ:Value → Prop} (x:W') (k:KQ (w32 (rotr x 6))):callQ Tryz.prog 234 #[w32 x,.int .i64 6] (Nx W) KQ:=callQ_of (v:=w32 (rotr x 6)) (fun w hw=>tu6 x (fun w' h=>⟨rfl,hw.on h⟩)) k
theorem tu11 {K:VK} {w:World} (x:W) (k:∀ w',Bw w w' → K (w32 (rotr x 11)) w'):callM Tryz.prog 234 #[w32 x,.int .i64 11] K w:=turn_ok x 11 (by omega) (by omega) k
theorem tuQ11 {W:World} {KQ:Value → Prop} (x:W') (k:KQ (w32 (rotr x 11))):callQ Tryz.prog 234 #[w32 x,.int .i64 11] (Nx W) KQ:=callQ_of (v:=w32 (rotr x 11)) (fun w hw=>tu11 x (fun w' h=>⟨rfl,hw.on h⟩)) k
theorem tu25 {K:VK} {w:World} (x:W) (k:∀ w',Bw w w' → K (w32 (rotr x 25)) w'):callM Tryz.prog 234 #[w32 x,.int .i64 25] K w:=turn_ok x 25 (by omega) (by omega) k
theorem tuQ25 {W:World} {KQ:Value → Prop} (x:W') (k:KQ (w32 (rotr x 25))):callQ Tryz.prog 234 #[w32 x,.int .i64 25] (Nx W) KQ:=callQ_of (v:=w32 (rotr x 25)) (fun w hw=>tu25 x (fun w' h=>⟨rfl,hw.on h⟩)) k
theorem tu2 {K:VK} {w:World} (x:W) (k:∀ w',Bw w w' → K (w32 (rotr x 2)) w'):callM Tryz.prog 234 #[w32 x,.int .i64 2] K w:=turn_ok x 2 (by omega) (by omega) k
theorem tuQ2 {W:World} {KQ:Value → Prop} (x:W') (k:KQ (w32 (rotr x 2))):callQ Tryz.prog 234 #[w32 x,.int .i64 2] (Nx W) KQ:=callQ_of (v:=w32 (rotr x 2)) (fun w hw=>tu2 x (fun w' h=>⟨rfl,hw.on h⟩)) k
theorem tu13 {K:VK} {w:World} (x:W) (k:∀ w',Bw w w' → K (w32 (rotr x 13)) w'):callM Tryz.prog 234 #[w32 x,.int .i64 13] K w:=turn_ok x 13 (by omega) (by omega) k
theorem tuQ13 {W:World} {KQ:Value → Prop} (x:W') (k:KQ (w32 (rotr x 13))):callQ Tryz.prog 234 #[w32 x,.int .i64 13] (Nx W) KQ:=callQ_of (v:=w32 (rotr x 13)) (fun w hw=>tu13 x (fun w' h=>⟨rfl,hw.on h⟩)) k
theorem tu22 {K:VK} {w:World} (x:W) (k:∀ w',Bw w w' → K (w32 (rotr x 22)) w'):callM Tryz.prog 234 #[w32 x,.int .i64 22] K w:=turn_ok x 22 (by omega) (by omega) k
theorem tuQ22 {W:World} {KQ:Value → Prop} (x:W') (k:KQ (w32 (rotr x 22))):callQ Tryz.prog 234 #[w32 x,.int .i64 22] (Nx W) KQ:=callQ_of (v:=w32 (rotr x 22)) (fun w hw=>tu22 x (fun w' h=>⟨rfl,hw.on h⟩)) k
theorem tu7 {K:VK} {w:World} (x:W) (k:∀ w',Bw w w' → K (w32 (rotr x 7)) w'):callM Tryz.prog 234 #[w32 x,.int .i64 7] K w:=turn_ok x 7 (by omega) (by omega) k
theorem tu18 {K:VK} {w:World} (x:W) (k:∀ w',Bw w w' → K (w32 (rotr x 18)) w'):callM Tryz.prog 234 #[w32 x,.int .i64 18] K w:=turn_ok x 18 (by omega) (by omega) k
theorem tu17 {K:VK} {w:World} (x:W) (k:∀ w',Bw w w' → K (w32 (rotr x 17)) w'):callM Tryz.prog 234 #[w32 x,.int .i64 17] K w:=turn_ok x 17 (by omega) (by omega) k
theorem tu19 {K:VK} {w:World} (x:W) (k:∀ w',Bw w w' → K (w32 (rotr x 19)) w'):callM Tryz.prog 234 #[w32 x,.int .i64 19] K w:=turn_ok x 19 (by omega) (by omega) k
theorem row8 {T:TypeId} (s:St) (k:∀ v W,Bw w W → OwnW W w.heap.size v s.list → K v W):oM Tryz.prog (.buildSlice 230 8 #[(0,(.tmp 0)),(1,(.tmp 1)),(2,(.tmp 2)),(3,(.tmp 3)),(4,(.tmp 4)),(5,(.tmp 5)),(6,(.tmp 6)),(7,(.tmp 7))]) T [w32 s.a,w32 s.b,w32 s.c,w32 s.d,w32 s.e,w32 s.f,w32 s.g,w32 s.h] K w:=by
 rw [rM_of (S:=Instr.buildSlice 230 8 (((List.range 8).zip (ws s.list))).toArray) (by kernel_rfl)]
 have e:(Instr.buildSlice 230 8 (((List.range 8).zip (ws s.list))).toArray).run Tryz.prog w = .ok (.slice (some ⟨w.heap.size,0,none⟩) 8 8) (w.alloc (.cells (ws s.list).toArray 223)):=by kernel_rfl
 rw [e]
 refine k _ _ ((Below.refl _ w).alloc (rL) _) ⟨by simp,.inr ⟨w.heap.size,8,_,rfl,rL,heap_alloc_new w _,rL,by decide,rfl,?_⟩⟩
 rw [List.take_of_length_le (by simp [St.list])]
theorem firsts_ok (k:∀ v W,Bw w W → OwnW W w.heap.size v first.list → K v W):callM Tryz.prog 218 #[] K w:=by
 apply sh_218_ok
 unfold sh_218
 exact row8 first k
theorem adds_ok (k:∀ v W,Bw w W → WrdR W v consts → K v W):callM Tryz.prog 233 #[] K w:=by
 apply sh_233_ok
 unfold sh_233
 have e0:∀ K w,oM Tryz.prog (Go.Op.buildSlice 230 64 ((List.range 64).map fun i=>(i,Operand.tmp i)).toArray) 230 (ws consts) K w = K (.slice (some ⟨w.heap.size,0,none⟩) 64 64) (w.alloc (.cells (ws consts).toArray 223)):=by
  intro K w
  kernel_rfl
 refine (e0 _ w).symm ▸ ?_
 refine k _ _ ((Below.refl _ w).alloc (rL) _) ⟨_,64,rfl,.inr ⟨w.heap.size,0,rfl,by simp,fun i hi=>?_⟩⟩
 rw [Nat.zero_add]
 have:=World.cell?_alloc_at (w:=w) (ws consts).toArray 223 w.heap.size i rfl
 rw [this]
 simp [ws,at',List.getD_eq_getElem?_getD,hi]
def WoJ (w0:World) (b:List UInt8) (l:List Value) (w':World):Prop:=∃ (v:Value) (i:Nat),l = [v,.int .i64 (i:Int)] ∧ i ≤ 16 ∧ OwnW w' w0.heap.size v (sched b i) ∧ Bw w0 w'
def woMu (n:Nat) (l:List Value) (_:World):Nat:=match l with | [_,.int _ i]=>n - i.toNat | _=>0
theorem woMu_eq (n:Nat) (x:Value) (q:IntKind) (i:Int) (w:World):woMu n [x,.int q i] w = n - i.toNat:=rfl
def Wo2J (w0:World) (b:List UInt8) (l:List Value) (w':World):Prop:=∃ (v1 v2 v3 v4 v:Value) (i:Nat),l = [v1,v2,v3,v4,v,.int .i64 (i:Int)] ∧ 16 ≤ i ∧ i ≤ 64 ∧ OwnW w' w0.heap.size v (sched b i) ∧ Bw w0 w'
def One (x:W) (v:Value) (w':World):Prop:=∃ g,v = .slice (some ⟨g,0,none⟩) 1 1 ∧ g < w'.heap.size ∧ w'.cell? ⟨g,0,none⟩ = some (w32 x)
theorem One.next {x:W} {v:Value} {w w':World} (h:One x v w) (hb:Nx w w'):One x v w':=by
 obtain ⟨g,rfl,hlt,hc⟩:=h
 exact ⟨g,rfl,lL hlt hb.size,by rw [hb.cell hlt]; exact hc⟩
theorem words_ok (b:List UInt8) {B o c:Nat} (hl:b.length = 64) (hb:ByR w B o b) (k:∀ v W,Bw w W → WrdR W v (sched b 64) → K v W):callM Tryz.prog 232 #[.slice (some ⟨B,o,none⟩) 64 c] K w:=by
 apply sh_232_ok
 unfold sh_232
 refine ⟨WoJ w b,woMu 16,⟨_,0,rfl,by omega,⟨rfl,.inl ⟨rfl,rfl⟩⟩,bR⟩,?_⟩
 rintro _ _ w1 ⟨v,i,rfl,hi,ho,hB⟩
 by_cases h16:i < 16
 ·refine Xa0 ?_
  have ho:=ho.keep (.drawn (B:=w1.heap.size))
  have hB:=hB.on (.drawn (B:=w1.heap.size))
  refine ⟨Nx { w1 with drawn:=w1.drawn + 1 },bR,rfl,?_⟩
  generalize ({ w1 with drawn:=w1.drawn + 1 }:World) = w2 at ho hB ⊢
  have cb:∀ j,j < 64 → ∀ w',Nx w2 w' → w'.cell? ⟨B,o + j,none⟩ = some (.int .u8 ((b.getD j 0).toNat:Int)):=fun j hj w' hw=>(hb.next (hB.on hw)).2 j (by omega)
  have t1:(4 * (i:Int)).toNat = 4 * i:=by omega
  have t2:(4 * (i:Int) + 1).toNat = 4 * i + 1:=by omega
  have t3:(4 * (i:Int) + 2).toNat = 4 * i + 2:=by omega
  have t4:(4 * (i:Int) + 3).toNat = 4 * i + 3:=by omega
  have c1:=cb (4 * i) (by omega)
  have c2:=cb (4 * i + 1) (by omega)
  have c3:=cb (4 * i + 2) (by omega)
  have c4:=cb (4 * i + 3) (by omega)
  have q1:IntKind.i64.wrap (4 * (i:Int)) = 4 * i:=wrapI64 _ (by omega) (by omega)
  have q2:IntKind.i64.wrap (4 * (i:Int) + 1) = 4 * i + 1:=wrapI64 _ (by omega) (by omega)
  have q3:IntKind.i64.wrap (4 * (i:Int) + 2) = 4 * i + 2:=wrapI64 _ (by omega) (by omega)
  have q4:IntKind.i64.wrap (4 * (i:Int) + 3) = 4 * i + 3:=wrapI64 _ (by omega) (by omega)
  refine Xf (fun W0 hW0=>An4 (c1 _ hW0) (c2 _ hW0) (c3 _ hW0) (c4 _ hW0)) (An13 @q1 @q2 @q3 @q4 @t1 @t2 @t3 @t4 @conv_u8 @shl24 @shl16 @shl8 @wor) ?_
  have en:nextW b (sched b i) i = w8 (b[4 * i]?.getD 0) <<< 24 ||| w8 (b[4 * i + 1]?.getD 0) <<< 16 ||| w8 (b[4 * i + 2]?.getD 0) <<< 8 ||| w8 (b[4 * i + 3]?.getD 0):=by
   unfold nextW word
   rw [if_pos h16]
   simp only [List.getD_eq_getElem?_getD]
  rw [← en]
  refine ⟨Nx,monoR (One (nextW b (sched b i) i)) (fun v w w1 hS h=>h.next hS) ?_ ?_⟩
  ·intro w3 h3
   exact mkW1 _ (fun g w4 h4 hlt hc=>⟨h3.on h4,h4,g,rfl,hlt,hc⟩)
  rintro w3 h3 _ ⟨g,rfl,hlt,hc⟩
  refine appendW (ho.keep h3) (hB.on h3).size hc (by rw [sched_length]; omega) (fun v' w4 ho4 hb4=>?_)
  refine Xa0 ?_
  refine ⟨⟨_,i + 1,rfl,h16,ho4,(hB.on h3).trans hb4⟩,?_⟩
  simp only [woMu_eq]; omega
 ·obtain rfl:i = 16:=by omega
  refine Xa0 ?_
  refine ⟨Wo2J w b,schMu,⟨_,_,_,_,_,16,rfl,by omega,by omega,ho,hB⟩,?_⟩
  clear ho hB v
  rintro _ _ w1 ⟨v1,v2,v3,v4,v,i,rfl,hi1,hi,ho,hB⟩
  by_cases hi64:i < 64
  ·obtain ⟨g,og,cg,rfl,hr⟩:=ho.read.at (by rw [sched_length]; omega)
   rw [sched_length] at *
   have t1:((i:Int) - 15).toNat = i - 15:=by omega
   have t2:((i:Int) - 2).toNat = i - 2:=by omega
   have t3:((i:Int) - 16).toNat = i - 16:=by omega
   have t4:((i:Int) - 7).toNat = i - 7:=by omega
   have q3:IntKind.i64.wrap ((i:Int) - 16) = (i:Int) - 16:=wrapI64 _ (by omega) (by omega)
   have q4:IntKind.i64.wrap ((i:Int) - 7) = (i:Int) - 7:=wrapI64 _ (by omega) (by omega)
   have hz:=Below.refl w1.heap.size w1
   refine Xa (An4 @t1 @t2 (hr _ hz (i - 15) (by omega)) (hr _ hz (i - 2) (by omega))) ?_
   refine tu7 _ (fun w2 h2=>?_)
   refine tu18 _ (fun w3 h3=>?_)
   refine Xa (An2 @shr3 @wxor) ?_
   refine tu17 _ (fun w4 h4=>?_)
   refine tu19 _ (fun w5 h5=>?_)
   refine Xa (An2 @shr10 @wxor) ?_
   have h5:=(((h2.on h3).on h4).on h5).on (.drawn (B:=w5.heap.size))
   clear h2 h3 h4 hz
   refine ⟨Nx { w5 with drawn:=w5.drawn + 1 },bR,rfl,?_⟩
   generalize ({ w5 with drawn:=w5.drawn + 1 }:World) = w6 at h5 ⊢
   refine Xf (fun W0 hW0=>An2 (hr _ (h5.on hW0) (i - 16) (by omega)) (hr _ (h5.on hW0) (i - 7) (by omega))) (An5 @q3 @q4 @t3 @t4 @wadd) ?_
   have en:nextW b (sched b i) i = at' (sched b i) (i - 16) + sig0 (at' (sched b i) (i - 15)) + at' (sched b i) (i - 7) + sig1 (at' (sched b i) (i - 2)):=by
    unfold nextW
    rw [if_neg (by omega)]
   unfold sig0 sig1 at en
   rw [← en]
   refine ⟨Nx,monoR (One (nextW b (sched b i) i)) (fun v w w1 hS h=>h.next hS) ?_ ?_⟩
   ·intro w3 h3
    exact mkW1 _ (fun g w4 h4 hlt hc=>⟨h3.on h4,h4,g,rfl,hlt,hc⟩)
   rintro w3 h3 _ ⟨g2,rfl,hlt,hc⟩
   have h3:=h5.on h3
   refine appendW (ho.keep h3) (hB.on h3).size hc (by rw [sched_length]; omega) (fun v' w4 ho4 hb4=>?_)
   refine Xa0 ?_
   refine ⟨⟨_,_,_,_,_,i + 1,rfl,by omega,hi64,ho4,(hB.on h3).trans hb4⟩,?_⟩
   simp only [schMu_eq]; omega
  ·obtain rfl:i = 64:=by omega
   refine Xa0 ?_
   exact k _ _ hB ho.read
theorem mkW0 {T:TypeId} (k:∀ v W,Bw w W → OwnW W w.heap.size v [] → K v W):oM Tryz.prog (.buildSlice 230 0 #[]) T [] K w:=by
 rw [oM_buildSlice0]
 have e:(Instr.buildSlice 230 0 #[]).run Tryz.prog w = .ok (.slice (some ⟨w.heap.size,0,none⟩) 0 0) (w.alloc (.cells #[] 223)):=by kernel_rfl
 rw [e]
 exact k _ _ ((Below.refl _ w).alloc (rL) _) ⟨rfl,.inr ⟨w.heap.size,0,#[],rfl,rL,heap_alloc_new w _,rL,by decide,rfl,rfl⟩⟩
theorem appendRow {B:Nat} {T:TypeId} {v hv:Value} {l m:List W} (ho:OwnW w B v l) (hB:B ≤ w.heap.size) (hx:WrdR w hv m) (hne:0 < m.length) (hl:l.length + m.length < 1099511627776)
  (k:∀ v' w',OwnW w' B v' (l ++ m) → Below B w w' → K v' w'):oM Tryz.prog (.call { callee:=.builtin .append,args:=#[.tmp 0,.tmp 1],argTypes:=#[230,230] }) T [v,hv] K w:=by
 obtain ⟨ad,c,rfl,hm⟩:=hx
 obtain ⟨b,o,rfl,hlt,hc⟩:=hm.resolve_left (fun h0=>by subst h0; simp at hne)
 refine append_at 230 T 223 ((Tryz.prog.info? 223).getD default) (.int .u32 0) 1 4 (by kernel_rfl) (by kernel_rfl) (by kernel_rfl) (by kernel_rfl) (by kernel_rfl) (by kernel_rfl) (by omega) (owns_base ho (Nat.zero_le _)) (ws m) (by simp) (by simp) ?_ ?_ (by simp only [maxLen]; omega) (by omega) ?_
 ·rintro a ha j u hj
  cases ha
  have hjl:j < m.length:=by have:=(gS hj).1; simpa using this
  rw [add_none,hc j hjl,← hj]
  simp [ws,at',List.getD_eq_getElem?_getD,hjl]
 ·exact ws_one m
 ·intro v' w' ho' hg hv
  have hbl:∀ i,v.ownBlock = some i → B ≤ i:=fun i hi=>(owns_own ho hi).2.1
  refine k v' w' ?_ ((Below.refl B w).grown hg hB hbl)
  have e2:ws (l ++ m) = ws l ++ ws m:=by simp [ws]
  show w'.ownsRow B 223 1 v' (l ++ m).length (ws (l ++ m))
  rw [List.length_append,e2]
  exact owns_up ho' (fun i hi=>(hv i hi).elim (hbl i) (fun h=>Nat.le_trans hB h))
theorem setW {B i:Nat} {T:TypeId} {v:Value} {l:List W} (x:W) (ho:OwnW w B v l) (hi:i < l.length):∃ g c,v = .slice (some ⟨g,0,none⟩) l.length c ∧ B ≤ g ∧ ∀ K:VK,(∀ w',w.grownBy w' (some g) → OwnW w' B v (l.set i x) → K undef w') →
  oM Tryz.prog (.store 223 (.tmp 0) (.tmp 1)) T [ptr g i,w32 x] K w:=by
 rcases ho.2 with ⟨_,h0⟩ | ⟨g,cap,cur,rfl,hb,hg,hn,hm,hs,ht⟩
 ·omega
 ·refine ⟨g,cap,rfl,hb,fun K k=>?_⟩
  have hh:Holds w g 223 cur.toList:=by unfold Holds; simpa using hg
  have hcl:cur.toList.length = cap:=by simpa using hs
  refine arr_set (i:=i) sz_u32 rfl rfl hh (by omega) (fun w' hgr hh'=>k w' hgr ⟨by simp,.inr ⟨g,cap,(cur.toList.set i (w32 x)).toArray,by rw [List.length_set],hb,hh',by rw [List.length_set]; exact hn,hm,by simp; omega,?_⟩⟩)
  rw [List.length_set]
  rw [Nat.mul_one] at ht ⊢
  simp only [List.take_set,ht]
  unfold ws
  rw [List.map_set]
def RdJ (w0:World) (b:List UInt8) (s:St) (l:List Value) (w':World):Prop:=∃ (v1 v2 v3 v4 v5 v:Value) (i:Nat),l = [v1,v2,v3,v4,v5,v,.int .i64 (i:Int)] ∧ i ≤ 64 ∧ OwnW w' w0.heap.size v (rounds b s i).list ∧ Bw w0 w'
def rdMu (l:List Value) (_:World):Nat:=match l with | [_,_,_,_,_,_,.int _ i]=>64 - i.toNat | _=>0
theorem rdMu_eq (a b c d e f:Value) (q:IntKind) (i:Int) (w:World):rdMu [a,b,c,d,e,f,.int q i] w = 64 - i.toNat:=rfl
theorem words_ok' (b:List UInt8) {B o c:Nat} (hl:b.length = 64) (hb:ByR w B o b) (k:∀ sl v W,sl = sched b 64 → Bw w W → WrdR W v sl → K v W):callM Tryz.prog 232 #[.slice (some ⟨B,o,none⟩) 64 c] K w:=
 words_ok b hl hb fun v W h1 h2=>k _ v W rfl h1 h2
theorem not32 {P:Program} (t T:TypeId) (x:W):oM P (.unOp .xor t (.tmp 0)) T [w32 x] = pureM (w32 (~~~ x)):=by
 funext K w
 have e:bits .xor .u32 4294967295 (x.toNat:Int) = ((~~~ x).toNat:Int):=by
  have:=bits32_xor (BitVec.allOnes 32) x
  rw [BitVec.allOnes_xor] at this
  exact this
 unfold w32
 rw [← e]
 simp [oM,opM,xop,execOp,evalL,evE,Op.unary,go_sem]
 exact Iff.rfl
theorem block_ok (s:St) (b:List UInt8) {hv:Value} {B o c:Nat} (hl:b.length = 64) (hb:ByR w B o b) (hs:WrdR w hv s.list) (k:∀ v W,Bw w W → OwnW W w.heap.size v (mix s b).list → K v W):callM Tryz.prog 219 #[hv,.slice (some ⟨B,o,none⟩) 64 c] K w:=by
 apply sh_219_ok
 unfold sh_219
 refine words_ok' b hl hb fun sl v1 w1 hsl h1 hw1=>?_
 refine adds_ok fun v2 w2 h2 hw2=>?_
 refine mkW0 fun v3 w3 h3 ho3=>?_
 have hl64:sl.length = 64:=by rw [hsl]; exact sched_length b 64
 have hA:Nx w w2:=h1.on h2
 refine appendRow ho3 h3.size ((hs.next hA).next h3) (show 0 < 8 by decide) (by show 0 + 8 < _; omega) (fun v4 w4 ho5 h4=>?_)
 have ho4:OwnW w4 w2.heap.size v4 s.list:=ho5
 have hB4:Nx w2 w4:=h3.trans h4
 obtain ⟨bs,os,cs,rfl,hsr⟩:=(hw1.next h2).at (by omega)
 obtain ⟨bk,ok,ck,rfl,hkr⟩:=hw2.at (by rw [consts_length]; omega)
 obtain ⟨bh,oh,chh,rfl,hhr⟩:=(hs.next hA).at (show 0 < 8 by decide)
 refine ⟨RdJ w2 b s,rdMu,⟨_,_,_,_,_,_,0,rfl,by omega,ho4,hB4⟩,?_⟩
 clear hB4 ho4 ho5 h4 ho3 h3 w4 w3
 rintro _ _ w5 ⟨u1,u2,u3,u4,u5,v,i,rfl,hi,ho,hB⟩
 rw [consts_length,hl64] at *
 by_cases hi64:i < 64
 ·have e1:rounds b s (i + 1) = round (rounds b s i) (at' consts i) (at' sl i):=by rw [hsl]; rfl
  have kk:=fun w' (h:Nx w5 w')=>hkr w' (hB.on h) i hi64
  have ks:=fun w' (h:Nx w5 w')=>hsr w' (hB.on h) i hi64
  obtain ⟨q,hq⟩:∃ q,q = rounds b s i:=⟨_,rfl⟩
  rw [← hq] at e1 ho
  obtain ⟨bv,ov,cv,rfl,hvr⟩:=ho.read.at (show 0 < 8 by decide)
  have c0:∀ w',Nx w5 w' → w'.cell? ⟨bv,ov,none⟩ = some (w32 q.a):=fun w' h=>hvr w' h 0 (show 0 < 8 by decide)
  have c1:∀ w',Nx w5 w' → w'.cell? ⟨bv,ov + 1,none⟩ = some (w32 q.b):=fun w' h=>hvr w' h 1 (show 1 < 8 by decide)
  have c2:∀ w',Nx w5 w' → w'.cell? ⟨bv,ov + 2,none⟩ = some (w32 q.c):=fun w' h=>hvr w' h 2 (show 2 < 8 by decide)
  have c3:∀ w',Nx w5 w' → w'.cell? ⟨bv,ov + 3,none⟩ = some (w32 q.d):=fun w' h=>hvr w' h 3 (show 3 < 8 by decide)
  have c4:∀ w',Nx w5 w' → w'.cell? ⟨bv,ov + 4,none⟩ = some (w32 q.e):=fun w' h=>hvr w' h 4 (show 4 < 8 by decide)
  have c5:∀ w',Nx w5 w' → w'.cell? ⟨bv,ov + 5,none⟩ = some (w32 q.f):=fun w' h=>hvr w' h 5 (show 5 < 8 by decide)
  have c6:∀ w',Nx w5 w' → w'.cell? ⟨bv,ov + 6,none⟩ = some (w32 q.g):=fun w' h=>hvr w' h 6 (show 6 < 8 by decide)
  have c7:∀ w',Nx w5 w' → w'.cell? ⟨bv,ov + 7,none⟩ = some (w32 q.h):=fun w' h=>hvr w' h 7 (show 7 < 8 by decide)
  have l8:q.list.length = 8:=rfl
  rw [l8] at *
  refine Xa0 ?_
  refine ⟨Nx w5,.drawn,?_⟩
  repeat (any_goals (first
  | (with_reducible refine tuQ6 _ ?_) | (with_reducible refine tuQ11 _ ?_) | (with_reducible refine tuQ25 _ ?_) | (with_reducible refine tuQ2 _ ?_) | (with_reducible refine tuQ13 _ ?_) | (with_reducible refine tuQ22 _ ?_)
  | ((with_reducible refine idOQ ?_); (with_reducible refine oQ_of ⟨_,rfl⟩ (fun W0 hW0=>by (refine oG (fun X Y=>?_)); simp [go_sem,c4 _ hW0,wxor]; (first | exact Y _ _ ⟨rfl,rfl⟩ | exact ⟨by omega,Y _ _ ⟨rfl,rfl⟩⟩)) ?_))))
  intro w6 h6
  refine ⟨Nx w5,h6.on .drawn,?_⟩
  clear h6 w6
  refine Xf (fun W0 hW0=>An3 (c4 _ hW0) (c5 _ hW0) (c6 _ hW0)) (An4 @wxor @wand @not32 @ch_eq) ?_
  intro w6 h6
  refine ⟨Nx w5,h6.on .drawn,?_⟩
  clear h6 w6
  refine Xf (fun W0 hW0=>An3 (c7 _ hW0) (kk _ hW0) (ks _ hW0)) @wadd ?_
  intro w6 h6
  refine ⟨Nx w5,h6.on .drawn,?_⟩
  clear h6 w6
  repeat (any_goals (first
  | (with_reducible refine tuQ6 _ ?_) | (with_reducible refine tuQ11 _ ?_) | (with_reducible refine tuQ25 _ ?_) | (with_reducible refine tuQ2 _ ?_) | (with_reducible refine tuQ13 _ ?_) | (with_reducible refine tuQ22 _ ?_)
  | ((with_reducible refine idOQ ?_); (with_reducible refine oQ_of ⟨_,rfl⟩ (fun W0 hW0=>by (refine oG (fun X Y=>?_)); simp [go_sem,c0 _ hW0,wxor]; (first | exact Y _ _ ⟨rfl,rfl⟩ | exact ⟨by omega,Y _ _ ⟨rfl,rfl⟩⟩)) ?_))))
  intro w6 h6
  refine ⟨Nx w5,h6.on .drawn,?_⟩
  clear h6 w6
  refine Xf (fun W0 hW0=>An3 (c0 _ hW0) (c1 _ hW0) (c2 _ hW0)) (An3 @wxor @wand @maj_eq) ?_
  intro w6 h6
  refine ⟨Nx w5,h6.on .drawn,rfl,?_⟩
  clear h6 w6
  refine Xf (fun W0 hW0=>An7 (c0 _ hW0) (c1 _ hW0) (c2 _ hW0) (c3 _ hW0) (c4 _ hW0) (c5 _ hW0) (c6 _ hW0)) @wadd ?_
  refine ⟨Nx,fun w6 h6=>?_⟩
  refine row8 (round q (at' consts i) (at' sl i)) (fun v6 w7 h7 ho7=>?_)
  rw [← e1] at ho7
  have h67:=(hB.on h6)
  refine Xa0 ?_
  refine ⟨⟨_,_,_,_,_,_,i + 1,rfl,hi64,owns_base ho7 h67.size,h67.on h7⟩,?_⟩
  simp only [rdMu_eq]; omega
 ·obtain rfl:i = 64:=by omega
  have em:(mix s b).list = adL (rounds b s 64) s 8:=rfl
  rw [em] at k
  have ho:OwnW w5 w2.heap.size v (adL (rounds b s 64) s 0):=ho
  clear em
  generalize rounds b s 64 = q at *
  obtain ⟨g,cap,cur,rfl,hlt,hbg,_⟩:=owns_cells ho (show 0 < 8 by decide)
  refine Xa0 ?_
  refine ⟨fun l w'=>∃ j:Nat,l = [.int .i64 (j:Int)] ∧ j ≤ 8 ∧ OwnW w' w2.heap.size (.slice (some ⟨g,0,none⟩) 8 cap) (adL q s j) ∧ Nx w2 w',fun l _=>match l with | [.int _ j]=>8 - j.toNat | _=>0,⟨0,rfl,by omega,ho,hB⟩,?_⟩
  clear ho hB hlt
  rintro _ _ w6 ⟨j,rfl,hj,ho,hB⟩
  by_cases hj8:j < 8
  ·have h8:=adL_length q s j
   refine Xa0 ?_
   have hB:=hB.on (.drawn (B:=w6.heap.size))
   have ho:=ho.keep (.drawn (B:=w6.heap.size))
   refine ⟨Nx { w6 with drawn:=w6.drawn + 1 },bR,rfl,?_⟩
   generalize ({ w6 with drawn:=w6.drawn + 1 }:World) = w7 at ho hB ⊢
   obtain ⟨bv,ov,cv,hv,hvr⟩:=ho.read.at (by omega)
   rw [h8] at hv hvr
   cases hv
   have cv:=fun w' h=>hvr w' h j hj8
   have ch:=fun w' (h:Nx w7 w')=>hhr w' (hB.on h) j hj8
   rw [adL_at q s hj8] at cv
   simp only [Nat.zero_add] at cv
   have hs8:s.list.length = 8:=rfl
   refine Xf (fun W0 hW0=>An2 (cv _ hW0) (ch _ hW0)) (An3 @wadd @adL_length @hs8) ?_
   refine ⟨Nx,fun w8 h8'=>?_⟩
   obtain ⟨g2,c2,hv2,hb2,hset⟩:=setW (T:=0) (i:=j) (at' q.list j + at' s.list j) (ho.keep h8') (by rw [h8]; exact hj8)
   cases hv2
   refine hset _ (fun w9 hg9 ho9=>?_)
   rw [adL_set q s hj8] at ho9
   have hB9:=grown_below (hB.on h8') hg9 hb2
   refine Xa0 ?_
   refine ⟨⟨j + 1,rfl,hj8,ho9,hB9⟩,?_⟩
   show 8 - ((j:Int) + 1).toNat < 8 - (j:Int).toNat
   omega
  ·obtain rfl:j = 8:=by omega
   refine Xa0 ?_
   exact k _ _ (hA.trans (hB.mono hA.size)) (owns_base ho hA.size)
end
end Go.Proofs
namespace Go.Proofs
open Go Go.Sh Go.RowKit ShaSpec FdSpec TkSpec
section
variable {K:VK} {w w0:World}
theorem OwnB.keep {B:Nat} {v:Value} {l:List UInt8} {w':World} (h:OwnB w B v l) (hb:Bw w w'):OwnB w' B v l:=
 owns_keep h (fun i hi=>hb.block i (owns_own h hi).1)
theorem OwnB.shape {B:Nat} {v:Value} {l:List UInt8} (h:OwnB w B v l):∃ ad c,v = .slice ad l.length c:=by
 rcases h.2 with ⟨rfl,h0⟩ | ⟨g,cap,cur,rfl,_⟩
 ·exact ⟨none,0,by rw [h0]⟩
 ·exact ⟨_,cap,rfl⟩
theorem mkB0 {T:TypeId} (k:∀ v W,Bw w W → OwnB W w.heap.size v [] → K v W):oM Tryz.prog (.buildSlice 202 0 #[]) T [] K w:=by
 rw [oM_buildSlice0]
 have e:(Instr.buildSlice 202 0 #[]).run Tryz.prog w = .ok (.slice (some ⟨w.heap.size,0,none⟩) 0 0) (w.alloc (.cells #[] 5)):=by kernel_rfl
 rw [e]
 exact k _ _ ((Below.refl _ w).alloc (rL) _) ⟨rfl,.inr ⟨w.heap.size,0,#[],rfl,rL,heap_alloc_new w _,rL,by decide,rfl,rfl⟩⟩
theorem appendBs {B:Nat} {T:TypeId} {v:Value} {l m:List UInt8} {g o n c:Nat} (ho:OwnB w B v l) (hB:B ≤ w.heap.size) (hn:n = m.length) (hx:∀ i,i < m.length → w.cell? ⟨g,o + i,none⟩ = some (.int .u8 ((m.getD i 0).toNat:Int))) (hl:l.length + m.length < 1099511627776)
  (k:∀ v' w',OwnB w' B v' (l ++ m) → Below B w w' → K v' w'):oM Tryz.prog (.call { callee:=.builtin .append,args:=#[.tmp 0,.tmp 1],argTypes:=#[202,202] }) T [v,.slice (some ⟨g,o,none⟩) n c] K w:=by
 subst hn
 refine append_at 202 T 5 ((Tryz.prog.info? 5).getD default) (.int .u8 0) 1 1 (by kernel_rfl) (by kernel_rfl) (by kernel_rfl) (by kernel_rfl) (by kernel_rfl) (by kernel_rfl) (by omega) (owns_base ho (Nat.zero_le _)) (Lib.byteCells m) (by simp [Lib.byteCells]) (by simp) ?_ ?_ (by simp only [maxLen]; omega) (by omega) ?_
 ·rintro a ha j u hj
  cases ha
  have hjl:j < m.length:=by have:=(gS hj).1; simpa [Lib.byteCells] using this
  rw [add_none,hx j hjl,← hj]
  simp [Lib.byteCells,List.getD_eq_getElem?_getD,hjl]
 ·intro u hu
  simp only [Lib.byteCells,List.mem_map] at hu
  obtain ⟨x,_,rfl⟩:=hu
  rfl
 ·intro v' w' ho' hg hv
  have hbl:∀ i,v.ownBlock = some i → B ≤ i:=fun i hi=>(owns_own ho hi).2.1
  refine k v' w' ?_ ((Below.refl B w).grown hg hB hbl)
  have e2:Lib.byteCells (l ++ m) = Lib.byteCells l ++ Lib.byteCells m:=by simp [Lib.byteCells]
  show w'.ownsRow B 5 1 v' (l ++ m).length (Lib.byteCells (l ++ m))
  rw [List.length_append,e2]
  exact owns_up ho' (fun i hi=>(hv i hi).elim (hbl i) (fun h=>Nat.le_trans hB h))
theorem pushO {B:Nat} {T T':TypeId} {v:Value} {l:List UInt8} (x:UInt8) {n:Int} (hx:n = (x.toNat:Int)) (ho:OwnB w B v l) (hB:B ≤ w.heap.size) (hl:l.length + 1 < 1099511627776) (k:∀ v' w',OwnB w' B v' (l ++ [x]) → Below B w w' → K v' w') :
  oM Tryz.prog (.buildSlice 202 1 #[(0,.tmp 0)]) T [.int .u8 n] (fun u w=>oM Tryz.prog (.call { callee:=.builtin .append,args:=#[.tmp 0,.tmp 1],argTypes:=#[202,202] }) T' [v,u] K w) w:=by
 subst hx
 refine mkB1 x fun g W hb hc=>?_
 refine appendBs (m:=[x]) (ho.keep hb) (Nat.le_trans hB hb.size) rfl (fun i hi=>?_) hl (fun v' w' ho' hb'=>k v' w' ho' ((hb.mono hB).trans hb'))
 obtain rfl:i = 0:=by simp at hi; omega
 exact hc
def RzJ (w0:World) (s:List UInt8) (l:List Value) (w':World):Prop:=∃ v j,l = [v] ∧ j ≤ zeros s.length ∧ OwnB w' w0.heap.size v (s ++ [128] ++ List.replicate j 0) ∧ Bw w0 w'
def RfLJ (w0:World) (s:List UInt8) (l:List Value) (w':World):Prop:=∃ (v:Value) (j:Nat),l = [v,.int .i64 (56 - 8 * (j:Int))] ∧ j ≤ 8 ∧ OwnB w' w0.heap.size v (s ++ [128] ++ List.replicate (zeros s.length) 0 ++ (lenBytes s.length).take j) ∧ Bw w0 w'
theorem padded_ok (s:List UInt8) (hs:s.length ≤ 1000000000) {v0:Value} (h0:BufM w 5 v0 s) (k:∀ v w',OwnB w' w.heap.size v (padded s) → Bw w w' → K v w'):callM Tryz.prog 217 #[v0] K w:=by
 apply sh_217_ok
 unfold sh_217
 obtain ⟨g0,c0,rfl,hlt0⟩:=h0.shape
 have hby:=bufByR h0
 refine mkB0 fun v1 w1 h1 ho1=>?_
 refine appendBs (m:=s) ho1 h1.size rfl (fun i hi=>(hby.next h1).2 i hi) (by simp; omega) (fun v2 w2 ho2 h2=>?_)
 have h2:=h1.trans h2
 rw [List.nil_append] at ho2
 refine pushO 128 rfl ho2 h2.size (by omega) (fun v3 w3 ho3 h3=>?_)
 have h3:=h2.trans h3
 refine ⟨RzJ w s,zeMu (s.length + 1 + zeros s.length),⟨_,0,rfl,by omega,by simpa using ho3,h3⟩,?_⟩
 rintro _ _ w1 ⟨v1,j,rfl,hj,ho,hB⟩
 obtain ⟨ad1,c1,rfl⟩:=ho.shape
 have hz:zeros s.length < 64:=by unfold zeros; omega
 by_cases hjz:j < zeros s.length
 ·have hm:¬ ((s.length:Int) + 1 + (j:Int)).tmod 64 = 56:=by
   rw [Int.tmod_eq_emod_of_nonneg (by omega)]; unfold zeros at hjz; omega
  rw [sha_len] at *
  repeat (any_goals (first
  | ((with_reducible refine pushO 0 rfl ho hB.size (by rw [sha_len]; omega) ?_); intro v2 w2 ho2 h2)
  | (with_reducible refine yL ?_)
  | ((with_reducible refine oG fun X Y=>?_); simp [go_sem,hm]; apply Y; clear Y X)))
  have h2:=hB.trans h2
  have e:s ++ [(128:UInt8)] ++ List.replicate j 0 ++ [0] = s ++ [128] ++ List.replicate (j + 1) 0:=by
   simp [List.replicate_succ',List.append_assoc]
  rw [e] at ho2
  obtain ⟨ad2,c2,rfl⟩:=ho2.shape
  refine ⟨⟨_,j + 1,rfl,hjz,ho2,h2⟩,?_⟩
  rw [sha_len]
  simp only [zeMu_eq]; omega
 ·obtain rfl:j = zeros s.length:=by omega
  have hm:((s.length:Int) + 1 + (zeros s.length:Int)).tmod 64 = 56:=by
   rw [Int.tmod_eq_emod_of_nonneg (by omega)]; unfold zeros; omega
  rw [sha_len] at *
  have hq:IntKind.u64.wrap (s.length:Int) = (s.length:Int):=wrapU64 _ (by omega) (by omega)
  refine Xa (An2 @hm @hq) ?_
  refine ⟨RfLJ w s,leMu,⟨_,0,rfl,by omega,by simpa using ho,hB⟩,?_⟩
  clear ho hB hm
  rintro _ _ w1 ⟨v1,j,rfl,hj,ho,hB⟩
  have hle:(s ++ [(128:UInt8)] ++ List.replicate (zeros s.length) 0 ++ (lenBytes s.length).take j).length = s.length + 1 + zeros s.length + j:=by
   rw [List.length_append,sha_len,List.length_take,lenBytes_length]; omega
  by_cases hj8:j < 8
  ·have hsh:=fun t t' T x=>oM_shr64 (P:=Tryz.prog) t t' T .i64 x (56 - 8 * (j:Int)) (by omega) (by omega)
   repeat (any_goals (first
   | ((with_reducible refine pushO ((lenBytes s.length).getD j 0) (lenByte _ _ hj8 (by omega)) ho hB.size (by omega) ?_); intro v2 w2 ho2 h2)
   | (with_reducible refine yN ?_)
   | ((with_reducible refine oG fun X Y=>?_); simp [go_sem,hq,hsh]; (try simp (disch:=omega) only [wrapI64,wrapU8,wrapU32,wrapU64]); apply Y; clear Y X)))
   refine ⟨⟨_,j + 1,by rw [show 56 - 8 * (j:Int) - 8 = 56 - 8 * ((j + 1:Nat):Int) by omega],hj8,?_,hB.trans h2⟩,?_⟩
   ·rw [take_next _ _ (by rw [lenBytes_length]; exact hj8),← List.append_assoc]
    exact ho2
   ·simp only [leMu_eq]; omega
  ·obtain rfl:j = 8:=by omega
   rw [List.take_of_length_le (by rw [lenBytes_length]; omega)] at ho
   refine Xa0 ?_
   exact k _ _ ho hB
theorem slice64 {T:TypeId} {g n c t:Nat} {j:Int} (hj:j = ((64 * t + 64:Nat):Int)) (hn:64 * t + 64 ≤ c) (k:K (.slice (some ⟨g,64 * t,none⟩) 64 (c - 64 * t)) w) :
  oM Tryz.prog (.slice 202 (.tmp 0) (some (.tmp 1)) (some (.tmp 2)) none) T [.slice (some ⟨g,0,none⟩) n c,.int .i64 ((64 * t:Nat):Int),.int .i64 j] K w:=by
 subst hj
 have hs:∀ w,(sizeOf (Tryz.prog.elem 202)).run Tryz.prog w = .ok 1 w:=fun w=>by kernel_rfl
 rw [rM_of (S:=Instr.sliceAt 202 (.slice (some ⟨g,0,none⟩) n c) (some (.int .i64 ((64 * t:Nat):Int))) (some (.int .i64 ((64 * t + 64:Nat):Int))) none) rfl,
  run_sliceAt_slice w 202 _ _ _ _ (by kernel_rfl),run_slice_lh w 202 _ n c (by kernel_rfl) .i64 .i64 _ _ (by omega) (by omega) (by omega),hs]
 simp only [Result.andThen_ok,sliced,Int.toNat_natCast]
 rw [if_neg (by omega),show 64 * t + 64 - 64 * t = 64 by omega]
 simp only [Option.map_some,add_none,Nat.mul_one,Nat.zero_add,rM_ok]
 exact k
def RbJ (w0:World) (p:List UInt8) (m:Nat) (R:St) (l:List Value) (w':World):Prop:=
 ∃ (v:Value) (t:Nat) (st:St),l = [v,.int .i64 ((64 * t:Nat):Int)] ∧ t ≤ m ∧ WrdR w' v st.list ∧ Nx w0 w' ∧ blocks (m - t) st (p.drop (64 * t)) = R
def rbMu (n:Nat) (l:List Value) (_:World):Nat:=match l with | [_,.int _ i]=>n - i.toNat | _=>0
theorem rbMu_eq (n:Nat) (a:Value) (q:IntKind) (i:Int) (w:World):rbMu n [a,.int q i] w = n - i.toNat:=rfl
def shaL (st:St):List UInt8:=(st.list.map out1).flatten
theorem shaL_length (st:St):(shaL st).length = 32:=by simp [shaL,St.list,out1]
theorem shaL_at (st:St):∀ i,i < 32 → (shaL st).getD i 0 = lo8 (at' st.list (i / 4) >>> (24 - 8 * (i % 4))):=by
 intro i hi
 have e:shaL st = [out1 st.a,out1 st.b,out1 st.c,out1 st.d,out1 st.e,out1 st.f,out1 st.g,out1 st.h].flatten:=rfl
 rw [e]
 simp only [out1_eq]
 obtain ⟨q,r,rfl,hr⟩:∃ q r,i = 4 * q + r ∧ r < 4:=⟨i / 4,i % 4,by omega,by omega⟩
 rw [show (4 * q + r) / 4 = q by omega,show (4 * q + r) % 4 = r by omega]
 have hq:q < 8:=by omega
 rcases q with _ | _ | _ | _ | _ | _ | _ | _ | q
 all_goals first | omega | skip
 all_goals (rcases r with _ | _ | _ | _ | r <;> first | omega | rfl | (show lo8 _ = lo8 _; congr 1))
def RoJ (w0:World) (st:St) (l:List Value) (w':World):Prop:=∃ (v:Value) (i:Nat),l = [v,.int .i64 (i:Int)] ∧ i ≤ 32 ∧ OwnB w' w0.heap.size v ((shaL st).take i) ∧ Nx w0 w'
def roMu (l:List Value) (_:World):Nat:=match l with | [_,.int _ i]=>32 - i.toNat | _=>0
theorem roMu_eq (a:Value) (q:IntKind) (i:Int) (w:World):roMu [a,.int q i] w = 32 - i.toNat:=rfl
theorem rSha_ok (s:List UInt8) (hs:s.length ≤ 1000000000) (k:∀ w',Bw w w' → K (.string ⟨(sha s).toArray⟩) w'):callM Tryz.prog 199 #[.string ⟨s.toArray⟩] K w:=by
 apply sh_199_ok
 unfold sh_199
 refine ofStr s fun v0 w1 h1=>?_
 have hN1:Nx w w1:=h1.below
 refine padded_ok s hs h1.row (fun v1 w2 ho2 h2=>?_)
 have hN2:Nx w w2:=hN1.on h2
 refine firsts_ok fun v2 w3 h3 ho3=>?_
 have hN3:Nx w w3:=hN2.on h3
 have ho1:=ho2.keep h3
 have hp64:=padded_length s
 obtain ⟨m,hm⟩:∃ m,(padded s).length = 64 * m:=⟨(padded s).length / 64,by omega⟩
 have hpl:(padded s).length = s.length + 1 + zeros s.length + 8:=by
  simp only [padded,List.length_append,List.length_replicate,lenBytes_length,List.length_singleton]
 have hpz:zeros s.length < 64:=by unfold zeros; omega
 obtain ⟨g,cap,cur,rfl,hlt,_,_,_,hcap,hc⟩:=owns_cells ho1 (by omega)
 have hby:ByR w3 g 0 (padded s):=⟨hlt,fun i hi=>by
  rw [Nat.zero_add]
  exact hc i _ (by simp [Lib.byteCells,List.getD_eq_getElem?_getD,hi])⟩
 have ef:sha s = shaL (blocks m first (padded s)):=by
  unfold sha shaL
  rw [hm,Nat.mul_div_cancel_left m (by omega)]
 refine ⟨RbJ w3 (padded s) m (blocks m first (padded s)),rbMu (64 * m),⟨_,0,first,rfl,by omega,ho3.read,bR,rfl⟩,?_⟩
 clear ho3 ho1 hc hlt ho2 h2 h1
 generalize blocks m first (padded s) = R at *
 rintro _ _ w4 ⟨hv,t,st,rfl,ht,hw,hN,hR⟩
 by_cases htm:t < m
 ·obtain ⟨r,hr⟩:∃ r,m - t = r + 1:=⟨m - t - 1,by omega⟩
  rw [hr] at hR
  have hlen:((padded s).length:Int) = 64 * (m:Int):=by omega
  have hlt64:(64 * t:Nat) < (64 * m:Nat):=by omega
  refine Xa @hlen ?_
  refine slice64 (t:=t) (by omega) (by omega) ?_
  have hpart:=(hby.next hN).part (64 * t) 64 (by omega)
  rw [Nat.zero_add] at hpart
  refine block_ok st _ (by rw [List.length_take,List.length_drop]; omega) hpart hw (fun v5 w5 h5 ho5=>?_)
  refine Xa0 ?_
  refine ⟨⟨v5,t + 1,_,by rw [show (64 * (t:Int) + 64) = ((64 * (t + 1):Nat):Int) by omega],by omega,ho5.read,hN.on h5,?_⟩,?_⟩
  ·rw [show m - (t + 1) = r by omega,← hR]
   show _ = blocks r (mix st ((List.drop (64 * t) (padded s)).take 64)) ((List.drop (64 * t) (padded s)).drop 64)
   rw [List.drop_drop,show 64 * t + 64 = 64 * (t + 1) by omega]
  ·simp only [rbMu_eq]; omega
 ·obtain rfl:t = m:=by omega
  rw [Nat.sub_self] at hR
  have hst:st = R:=hR
  subst hst
  have hlen:((padded s).length:Int) = 64 * (t:Int):=by omega
  repeat (any_goals (first
  | ((with_reducible refine mkB0 ?_); intro v5 w5 h5 ho5)
  | (with_reducible refine yM ?_)
  | ((with_reducible refine oG fun X Y=>?_); simp [go_sem,hlen]; apply Y; clear Y X)))
  obtain ⟨bh,oh,chh,rfl,hhr⟩:=hw.at (show 0 < 8 by decide)
  have hN5:Nx w4 w5:=h5
  refine ⟨RoJ w4 st,roMu,⟨_,0,rfl,by omega,ho5,hN5⟩,?_⟩
  clear ho5 h5 hN5
  rintro _ _ w6 ⟨v6,i,rfl,hi,ho6,hN6⟩
  by_cases hi32:i < 32
  ·have hl:=shaL_length st
   have e1:(i:Int).tdiv 4 = ((i / 4:Nat):Int):=by rw [Int.tdiv_eq_ediv_of_nonneg (by omega)]; omega
   have e2:(i:Int).tmod 4 = ((i % 4:Nat):Int):=by rw [Int.tmod_eq_emod_of_nonneg (by omega)]; omega
   have hs8:st.list.length = 8:=rfl
   have hcell:=hhr w6 hN6 (i / 4) (by rw [hs8]; omega)
   obtain ⟨q,hq⟩:∃ q,q = i / 4:=⟨_,rfl⟩
   obtain ⟨r,hr⟩:∃ r,r = i % 4:=⟨_,rfl⟩
   have hat:=shaL_at st i hi32
   rw [← hq] at e1 hcell hat
   rw [← hr] at e2 hat
   have hsh:∀ t t' T,oM Tryz.prog (.binOp .shr t (.tmp 0) (.tmp 1) t') T [w32 (at' st.list q),.int .i64 (24 - 8 * (r:Int))] = pureM (w32 (at' st.list q >>> (24 - 8 * r))):=fun t t' T=>by
    have:=wshr (P:=Tryz.prog) t t' T .i64 (at' st.list q) (24 - 8 * r) (by omega)
    rw [← this]
    congr 4
    omega
   repeat (any_goals (first
   | ((with_reducible refine pushO (lo8 (at' st.list q >>> (24 - 8 * r))) rfl ho6 hN6.size (by rw [List.length_take]; omega) ?_); intro v7 w7 ho7 h7)
   | (with_reducible refine yN ?_)
   | ((with_reducible refine oG fun X Y=>?_); simp [go_sem,e1,e2,hcell,hs8,hsh,conv_w8]; (try simp (disch:=omega) only [wrapI64,wrapU8,wrapU32,wrapU64]); (first|refine Y _ _ ?_|refine And.intro (by omega) (Y _ _ ?_)); clear Y X)))
   rw [← hat,← take_next (shaL st) i (by omega)] at ho7
   refine ⟨⟨v7,i + 1,rfl,hi32,ho7,hN6.trans h7⟩,?_⟩
   simp only [roMu_eq]; omega
  ·obtain rfl:i = 32:=by omega
   rw [List.take_of_length_le (by rw [shaL_length]; omega)] at ho6
   repeat (any_goals (first
   | ((with_reducible refine toStrB ho6 (by rw [shaL_length]; omega) ?_))
   | (with_reducible refine yM ?_)
   | ((with_reducible refine oG fun X Y=>?_); simp [go_sem]; apply Y; clear Y X)))
   rw [← ef]
   exact k _ ((hN3.on hN).on hN6)
def RnJ (n R:Int) (d:List UInt8) (w0:World) (l:List Value) (w':World):Prop:=Bw w0 w' ∧ ∃ (o:Int) (i:Nat),l = [.int .i64 o,.int .i64 (i:Int)] ∧ i ≤ d.length ∧ (d.drop i).foldl (numStep n) o = R
theorem rNumber_ok (s:List UInt8) (n:Int) (hs:s.length ≤ 1000000000) (k:∀ w',Bw w w' → K (.int .i64 (numberM s n)) w'):callM Tryz.prog 163 #[.string ⟨s.toArray⟩,.int .i64 n] K w:=by
 apply sh_163_ok
 unfold sh_163
 unfold numberM at k
 refine rValid_ok n ?_
 by_cases hn:okN n
 ·rw [if_pos hn] at k
  refine Xa0 ?_
  refine rSha_ok s hs (fun w1 h1=>?_)
  have hl:=ShaSpec.sha_length s
  generalize ShaSpec.sha s = d at *
  refine ⟨RnJ n (d.foldl (numStep n) 0) d w,rpdMu d.length,⟨h1,_,0,rfl,by omega,rfl⟩,?_⟩
  clear h1
  rintro _ _ w3 ⟨h3,o,i,rfl,hi,hf⟩
  have hds:(⟨d.toArray⟩:ByteArray).size = d.length:=rfl
  by_cases hin:i < d.length
  ·have hbt:byteAt ⟨d.toArray⟩ i = d[i]:=by
    unfold byteAt
    simp [hin]
   refine Xa @hds ?_
   refine ⟨Nx w3,.drawn,?_⟩
   refine callQ_of (fun W0 hW0=>rMul_ok n o 256 ⟨rfl,hW0⟩) ?_
   have hu:=(d[i]).toNat_lt
   have hw8:IntKind.i64.wrap ((d[i]).toNat:Int) = ((d[i]).toNat:Int):=wrapI64 _ (by omega) (by omega)
   refine Xg (An3 @hds @hbt @hw8) ?_
   refine callQ_of (fun W0 hW0=>rAdd_ok n _ _ ⟨rfl,hW0⟩) ?_
   intro w4 h4
   refine Xa0 ?_
   rw [List.drop_eq_getElem_cons hin,List.foldl_cons] at hf
   refine ⟨⟨h3.on h4,_,i + 1,rfl,by omega,hf⟩,?_⟩
   simp only [rpdMu_eq]; omega
  ·rw [List.drop_of_length_le (by omega),List.foldl_nil] at hf
   refine Xa @hds ?_
   rw [hf]
   exact k _ h3
 ·rw [if_neg hn] at k
  refine Xa0 ?_
  exact k _ (bR)
end
end Go.Proofs
namespace Go.Proofs
open Go Go.Sh Go.RowKit FdSpec TkSpec CodeSpec PrSpec FdPoly GrLaw
section
variable {K:VK} {w w' w0 W:World} {L:List (Addr × Value)}
theorem rsealed_ok (s:Stp) (pub a:Int) (msg:Bytes) {v:Value} (hs:SetR w s v) (hp:I64 pub) (ha:I64 a) (hm:msg.length ≤ 1000) (k:∀ w',Bw w w' → K (.int .i64 (chalM s pub a msg)) w') :
  callM Tryz.prog 147 #[stpV s v,.int .i64 pub,.int .i64 a,.string ⟨msg.toArray⟩] K w:=by
 apply sh_147_ok
 unfold sh_147
 obtain ⟨ad,c,rfl⟩:=hs.ints.isSlice
 refine box_kn (cs:=stpC s (.slice ad s.bases.length c)) rfl (.start w) fun b W hk hb1 hb=>?_
 unfold held_147_2
 have hk:=hk.drew
 refine ⟨Nx { W with drawn:=W.drawn + 1 },bR,by trivial,?_⟩
 generalize ({ W with drawn:=W.drawn + 1 }:World) = W at hk ⊢
 have elen:=Cd.encText_len msg (by omega)
 have plen:=pub_len hp ha
 refine Xc (fun W0 hW0=>(hk.next hW0).cells) ?_
 refine ⟨Nx,?_⟩
 apply monoE
 ·intro w1 h1
  exact Cd.qText_ok msg (by omega) (fun w2 h2=>⟨h1.on h2,h2,rfl⟩)
 refine monoR (fun v w'=>Ints w' v [pub,a]) (fun v w w1 hS h=>h.next hS) ?_ ?_
 ·intro w1 h1
  exact mk2 _ _ hp ha (fun v w2 h2 hi=>⟨h1.on h2,h2,hi⟩)
 apply monoE
 ·intro w1 h1 v1 hi1
  exact Cd.qNums_ok [pub,a] v1 (Ints.rowOf hi1) (fun x hx=>(InR_iff x).2 (hi1.rng x hx)) (by unfold encNums at plen; omega) (fun w2 h2=>⟨h1.on h2,h2,rfl⟩)
 refine monoR (fun v w'=>v = .string ⟨(encText msg ++ encNums [pub,a]).toArray⟩) (fun v w w1 hS h=>h) ?_ ?_
 ·rintro w1 h1 _ rfl _ rfl
  rw [kB,oM_adds]
  refine ⟨?_,h1,bR,?_⟩
  ·have e1:(ByteArray.mk (encText msg).toArray).size = (encText msg).length:=by simp [ByteArray.size]
   have e2:(ByteArray.mk (encList (List.map encInt [pub,a])).toArray).size = (encNums [pub,a]).length:=by simp [ByteArray.size,encNums]
   rw [e1,e2]
   omega
  ·show Value.string (ByteArray.mk (encText msg).toArray ++ ByteArray.mk (encList (List.map encInt [pub,a])).toArray) = _
   refine congrArg Value.string ?_
   apply ByteArray.ext
   simp [encNums]
 rintro w9 h9 _ rfl v1 _ _ rfl _ rfl
 refine rNumber_ok _ _ (by rw [List.length_append]; omega) (fun w4 h4=>?_)
 exact k _ (hk.next (h9.on h4)).below
theorem rSign_ok (s:Stp) (x kk:Int) (msg:Bytes) {v:Value} (hs:SetR w s v) (hx:I64 x) (hkk:I64 kk) (hm:msg.length ≤ 1000)
  (k:∀ w',Bw w w' → K (.tuple #[sigV (signM s x kk msg).1.1 (signM s x kk msg).1.2,.bool (signM s x kk msg).2]) w') :
  callM Tryz.prog 79 #[stpV s v,.int .i64 x,.int .i64 kk,.string ⟨msg.toArray⟩] K w:=by
 apply sh_79_ok
 unfold sh_79
 have hs':=hs
 obtain ⟨ad,c,rfl⟩:=hs.ints.isSlice
 refine box_kn (cs:=stpC s (.slice ad s.bases.length c)) rfl (.start w) fun b1 W hk hb1 hbb=>?_
 refine alloc_mine (n:=2) al_sig rfl hk fun g0 W3 hk hb3 hg0=>?_
 clear hb1 hb3 hbb
 refine Xa hk.cells ?_
 refine rValidSetup_ok s (hs'.next hk.below) (fun w2 h2=>?_)
 have hk:=hk.next h2
 clear h2
 unfold signM at k
 have bad:(validS s && exponentM s x && exponentM s kk) = false → ∀ w2 (hk:KnM w (cellsOf [] b1 0 (stpC s (.slice ad s.bases.length c))) g0 2 w2),
   oM Tryz.prog (Go.Op.store 74 (.tmp 0) (.tmp 1)) 0 [.pointer (some ⟨g0,0,none⟩),sigV 0 0] (fun _ w=>
    ∃ r,(do loadVar 74 (← asAddr (.pointer (some ⟨g0,0,none⟩))):Sem Value).run Tryz.prog w = .ok r w ∧ K (.tuple #[r,(.bool false)]) w) w2:=fun e w2 hk=>by
  rw [e] at k
  exact store_mine sz_sig rfl rfl (sig_one 0 0) hk (fun W3 hk hc=>⟨_,by simp [go_sem,hc],k _ hk.below⟩)
 cases hvs:validS s with
 | false=>
  refine Xa hk.cells ?_
  exact bad (by rw [hvs]; rfl) _ hk
 | true=>
 refine Xa hk.cells ?_
 refine rExponent_ok s x (hs'.next hk.below) (fun w2 h2=>?_)
 have hk:=hk.next h2
 clear h2
 cases hex:exponentM s x with
 | false=>
  refine Xa hk.cells ?_
  exact bad (by rw [hex]; simp) _ hk
 | true=>
 refine Xa hk.cells ?_
 refine rExponent_ok s kk (hs'.next hk.below) (fun w2 h2=>?_)
 have hk:=hk.next h2
 clear h2
 cases hek:exponentM s kk with
 | false=>
  refine Xa hk.cells ?_
  exact bad (by rw [hek]; simp) _ hk
 | true=>
 clear bad
 rw [hvs,hex,hek] at k
 simp only [Bool.and_self,if_true] at k
 refine Xb6 hk.cells ?_
 refine local_grpM s.g hk (fun b4 W4 hk _ hb4=>?_)
 unfold held_79_21
 have hk:=hk.drew
 refine ⟨Nx { W4 with drawn:=W4.drawn + 1 },bR,by trivial,?_⟩
 generalize ({ W4 with drawn:=W4.drawn + 1 }:World) = W at hk ⊢
 refine Xc (fun W0 hW0=>(hk.next hW0).cells) ?_
 refine ⟨Nx,?_⟩
 apply monoE
 ·intro w1 h1
  exact rPower_ok s.g _ _ (fun w2 h2=>⟨h1.on h2,h2,rfl⟩)
 apply monoE
 ·intro w1 h1
  exact rPower_ok s.g _ _ (fun w2 h2=>⟨h1.on h2,h2,rfl⟩)
 rintro w9 h9 _ rfl _ rfl
 have hk:=hk.next h9
 refine rsealed_ok s _ _ msg (hs'.next hk.below) (powerG_I64 _ _ _) (powerG_I64 _ _ _) hm (fun w5 h5=>?_)
 have hk:=hk.next h5
 generalize chalM s (powerG s.g s.g.G x) (powerG s.g s.g.G kk) msg = cc at *
 unfold held_79_38
 have hk:=hk.drew
 refine ⟨Nx { w5 with drawn:=w5.drawn + 1 },bR,by trivial,?_⟩
 generalize ({ w5 with drawn:=w5.drawn + 1 }:World) = W at hk ⊢
 refine Xc (fun W0 hW0=>(hk.next hW0).cells) ?_
 refine ⟨Nx,?_⟩
 apply monoE
 ·intro w1 h1
  exact rMul_ok _ _ _ ⟨h1,bR,rfl⟩
 apply monoE
 ·rintro w1 h1 _ rfl
  exact rAdd_ok _ _ _ ⟨h1,bR,rfl⟩
 rintro w10 h10 _ rfl _ rfl
 have hk:=hk.next h10
 rw [build_sig2]
 exact store_mine sz_sig rfl rfl (sig_one _ _) hk (fun W3 hk hc=>⟨_,by simp [go_sem,hc],k _ hk.below⟩)
theorem rSigned_ok (s:Stp) (pub:Int) (msg:Bytes) (c z:Int) {v:Value} (hs:SetR w s v) (hp:I64 pub) (hm:msg.length ≤ 1000)
  (k:∀ w',Bw w w' → K (.bool (PrSpec.signedM s pub msg c z)) w') :
  callM Tryz.prog 73 #[stpV s v,.int .i64 pub,.string ⟨msg.toArray⟩,sigV c z] K w:=by
 apply sh_73_ok
 unfold sh_73
 have hs':=hs
 obtain ⟨ad,ca,rfl⟩:=hs.ints.isSlice
 refine box_kn (cs:=stpC s (.slice ad s.bases.length ca)) rfl (.start w) fun b1 W hk hb1 hbb=>?_
 refine box_kn (cs:=sigC c z) rfl hk fun b2 W2 hk hb2 hbb2=>?_
 clear hb1 hb2 hbb2 hbb
 refine Xb2 hk.cells ?_
 refine local_grp s.g hk (fun b4 W4 hk _ hb4=>?_)
 refine Xa hk.cells ?_
 refine rValidSetup_ok s (hs'.next hk.below) (fun w2 h2=>?_)
 have hk:=hk.next h2
 clear h2
 unfold PrSpec.signedM at k
 cases hvs:validS s with
 | false=>
  rw [hvs] at k
  simp only [bF] at k
  refine Xa hk.cells ?_
  exact k _ hk.below
 | true=>
 rw [hvs,bT] at k
 refine Xa hk.cells ?_
 refine rElement_ok s.g pub hs'.grp (fun w2 h2=>?_)
 have hk:=hk.next h2
 clear h2
 cases hex:elemG s.g pub with
 | false=>
  rw [hex] at k
  simp only [bF] at k
  refine Xa hk.cells ?_
  exact k _ hk.below
 | true=>
 rw [hex,bT] at k
 refine Xa hk.cells ?_
 refine rExponent_ok s c (hs'.next hk.below) (fun w2 h2=>?_)
 have hk:=hk.next h2
 clear h2
 cases hek:exponentM s c with
 | false=>
  rw [hek] at k
  simp only [bF] at k
  refine Xa hk.cells ?_
  exact k _ hk.below
 | true=>
 rw [hek,bT] at k
 refine Xa hk.cells ?_
 refine rExponent_ok s z (hs'.next hk.below) (fun w2 h2=>?_)
 have hk:=hk.next h2
 clear h2
 cases hez:exponentM s z with
 | false=>
  rw [hez] at k
  simp only [bF] at k
  refine Xa hk.cells ?_
  exact k _ hk.below
 | true=>
 rw [hez,bT] at k
 refine Xa hk.cells ?_
 unfold held_73_26
 have hk:=hk.drew
 refine ⟨Nx { w2 with drawn:=w2.drawn + 1 },bR,by trivial,?_⟩
 generalize ({ w2 with drawn:=w2.drawn + 1 }:World) = W at hk ⊢
 refine Xc (fun W0 hW0=>(hk.next hW0).cells) ?_
 refine ⟨Nx,?_⟩
 apply monoE
 ·intro w1 h1
  exact rPower_ok s.g _ _ (fun w2 h2=>⟨h1.on h2,h2,rfl⟩)
 apply monoE
 ·intro w1 h1
  exact rPower_ok s.g _ _ (fun w2 h2=>⟨h1.on h2,h2,rfl⟩)
 rintro w9 h9 _ rfl _ rfl
 have hk:=hk.next h9
 refine rOver_ok s.g _ _ (fun w5 h5=>?_)
 have hk:=hk.next h5
 have hI:=overG_I64 s.g (powerG s.g s.g.G z) (powerG s.g pub c)
 generalize overG s.g (powerG s.g s.g.G z) (powerG s.g pub c) = a at *
 unfold held_73_43
 have hk:=hk.drew
 refine ⟨Nx { w5 with drawn:=w5.drawn + 1 },bR,by trivial,?_⟩
 generalize ({ w5 with drawn:=w5.drawn + 1 }:World) = W at hk ⊢
 refine Xc (fun W0 hW0=>(hk.next hW0).cells) ?_
 refine ⟨Nx,?_⟩
 apply monoE
 ·intro w1 h1
  exact rsealed_ok s _ _ msg (hs'.next (hk.next h1).below) hp hI hm (fun w2 h2=>⟨h1.on h2,h2,rfl⟩)
 rintro w10 h10 _ rfl
 have hk:=hk.next h10
 refine Xa0 ?_
 exact k _ hk.below
def RetJ (T:List Int) (W1:World) (vs:List Value) (W:World):Prop:=Bw W1 W ∧ ∃ (v:Value) (i:Nat),vs = [v,.int .i64 (i:Int)] ∧ i ≤ T.length ∧ OwnI W W1.heap.size v (T.take i)
theorem rExtract_ok (s:Stp) (c:Clm) (d1:Int) (a1:List Int) (d2:Int) (a2:List Int) {sv cv av av2:Value} (hs:SetR w s sv) (hc:ClmR w c cv) (hd1:I64 d1) (ha1:Ints w av a1) (hd2:I64 d2) (ha2:Ints w av2 a2)
  (k:∀ v w',Bw w w' → Ints w' v (extractM s c d1 a1 d2 a2).1 → K (.tuple #[v,.bool (extractM s c d1 a1 d2 a2).2]) w'):callM Tryz.prog 66 #[stpV s sv,clmV c cv,.int .i64 d1,av,.int .i64 d2,av2] K w:=by
 apply sh_66_ok
 unfold sh_66
 have hs':=hs
 have hc':=hc
 have ha1':=ha1
 have ha2':=ha2
 obtain ⟨ad,cc,rfl⟩:=hs.ints.isSlice
 obtain ⟨ead,ec,rfl⟩:=hc.eqs.isSlice
 obtain ⟨aad,ac,rfl⟩:=ha1.isSlice
 obtain ⟨bad,bc,rfl⟩:=ha2.isSlice
 refine box_kn (cs:=stpC s (.slice ad s.bases.length cc)) rfl (.start w) fun b1 W hk hb1 hbb=>?_
 refine box_kn (cs:=clmC c (.slice ead c.eqs.length ec)) rfl hk fun b2 W hk hb2 hbb2=>?_
 clear hb1 hb2
 have no:extractM s c d1 a1 d2 a2 = ([],false) → ∀ w',Bw w w' → K (.tuple #[.slice none 0 0,.bool false]) w':=fun e w' h=>by
  have:=k (.slice none 0 0) w' h
  rw [e] at this
  exact this (Ints.nil _)
 refine Xa hk.cells ?_
 refine rSimulate_ok s c d1 a1 (hs'.next hk.below) (hc'.next hk.below) hd1 (ha1'.next hk.below) (fun v10 w10 h10 hi10=>?_)
 have hk10:=hk.next h10
 refine Xa hk10.cells ?_
 refine rSimulate_ok s c d2 a2 (hs'.next hk10.below) (hc'.next hk10.below) hd2 (ha2'.next hk10.below) (fun v11 w11 h11 hi11=>?_)
 have hk11:=hk10.next h11
 have hi10:=hi10.next h11
 obtain ⟨xad,xc,rfl⟩:=id hi10.isSlice
 obtain ⟨yad,yc,rfl⟩:=id hi11.isSlice
 by_cases h0:simM s c d1 a1 = []
 ·refine Xa0 ?_
  exact no (by simp [extractM,h0]) _ hk11.below
 have h0':¬ (simM s c d1 a1).length = 0:=fun e=>h0 (List.eq_nil_of_length_eq_zero e)
 by_cases h02:simM s c d2 a2 = []
 ·refine Xa (An2 @h0 @h02) ?_
  exact no (by simp [extractM,h02,h0]) _ hk11.below
 refine Xa (An2 @h0 @h02) ?_
 refine SameInts_ok hi10 hi11 (fun w12 h12=>?_)
 have hk12:=hk11.next h12
 by_cases heq:simM s c d1 a1 = simM s c d2 a2
 ·rw [decide_eq_true heq]
  by_cases hdd:d1 = d2
  ·refine Xa0 ?_
   exact no (by simp [extractM,hdd]) _ hk12.below
  ·refine Xa hk12.cells ?_
   refine rSub_ok _ _ _ ?_
   refine rInv_ok _ _ ?_
   have hk13:=hk12
   refine Xb2_0 ?_
   have hl1:=sim_len h0'
   have hl2:=sim_len (by rw [← heq]; exact h0')
   have hem:extractM s c d1 a1 d2 a2 = (extL s a1 a2 ((invM s.g.Q (subM s.g.Q d1 d2)).getD 0),true):=by unfold extractM; rw [decide_eq_false h0',decide_eq_true heq,decide_eq_false hdd]; rfl
   rw [hem] at k
   generalize (invM s.g.Q (subM s.g.Q d1 d2)).getD 0 = over at *
   have hTl:(extL s a1 a2 over).length = a1.length:=by unfold extL; rw [List.length_map,List.length_zip]; omega
   have hTI:∀ x ∈ extL s a1 a2 over,I64 x:=by
    intro x hx
    unfold extL at hx
    obtain ⟨p,_,rfl⟩:=List.mem_map.1 hx
    exact mulM_I64 _ _ _
   have hTe:∀ i (h1:i < a1.length) (h2:i < a2.length),(extL s a1 a2 over)[i]? = some (mulM s.g.Q (subM s.g.Q a1[i] a2[i]) over):=fun i h1 h2=>by
    unfold extL
    rw [List.getElem?_map,List.getElem?_zip_eq_some (z:=(a1[i],a2[i])) |>.2 ⟨gE h1,gE h2⟩]
    rfl
   generalize extL s a1 a2 over = T at *
   refine ⟨RetJ T w12,grMu a1.length,⟨bR,_,0,rfl,by omega,own_none⟩,?_⟩
   rintro _ _ w15 ⟨h15,v,i,rfl,hi,ho⟩
   have hk15:=hk13.next h15
   by_cases hin:i = a1.length
   ·subst hin
    refine Xa0 ?_
    rw [List.take_of_length_le (by omega)] at ho
    exact k _ _ hk15.below (ho.ints hTI (by have:=ha1'.len; omega))
   have h1:i < a1.length:=by omega
   have h2:i < a2.length:=by omega
   obtain ⟨bx,ox,rfl,hltx,cellx,_,_⟩:=ha1'.at (i:=i) h1
   obtain ⟨by',oy,rfl,hlty,celly,_,_⟩:=ha2'.at (i:=i) h2
   have hTi:=hTe i h1 h2
   generalize a1[i] = x at *
   generalize a2[i] = y at *
   have hi1:(i:Int) < a1.length:=by omega
   have hi2:(i:Int) < a2.length:=by omega
   refine Xa @hi1 ?_
   unfold held_66_36
   simp only [List.getD_cons_succ,List.getD_cons_zero]
   have hb9:Below w15.heap.size w15 { w15 with drawn:=w15.drawn + 1 }:=.drawn
   have hk16:=hk15.next hb9
   have ho:=ho.keep hb9
   have h16:=h15.on hb9
   refine ⟨Nx { w15 with drawn:=w15.drawn + 1 },bR,by trivial,?_⟩
   generalize ({ w15 with drawn:=w15.drawn + 1 }:World) = W16 at hk16 ho h16 ⊢
   refine Xf (fun W0 hW0=>An3 ((hk16.next hW0).cells) (cellx _ (hk16.next hW0).below) (celly _ (hk16.next hW0).below)) (An2 @hi1 @hi2) ?_
   refine ⟨Nx,?_⟩
   apply monoE
   ·intro w5 h5
    exact rSub_ok _ _ _ ⟨h5,bR,rfl⟩
   apply monoE
   ·rintro w5 h5 _ rfl
    exact rMul_ok _ _ _ ⟨h5,bR,rfl⟩
   refine monoR (fun v w'=>Ints w' v [mulM s.g.Q (subM s.g.Q x y) over]) (fun v w w1 hS h=>h.next hS) ?_ ?_
   ·rintro w5 h5 _ rfl
    exact mk1 _ (mulM_I64 _ _ _) (fun v8 W8 h8 hi8=>⟨h5.on h8,h8,hi8⟩)
   rintro w17 h17 _ rfl _ rfl v18 hi18
   refine append1 (ho.keep h17) (Nat.le_trans h16.size h17.size) hi18 (by simp only [List.length_take]; omega) (fun v9 W9 ho9 h9=>?_)
   refine Xa0 ?_
   refine ⟨⟨(h16.on h17).trans h9,_,i + 1,rfl,by omega,?_⟩,by simp only [grMu_eq]; omega⟩
   rw [← take_snoc' hTi]
   exact ho9
 ·rw [decide_eq_false heq]
  refine Xa0 ?_
  exact no (by simp [extractM,heq]) _ hk12.below
end
end Go.Proofs
namespace Go.Proofs
open Go Go.Sh Go.RowKit FdSpec TkSpec CodeSpec PrSpec
section
variable {K:VK} {w w' w0 W:World} {L:List (Addr × Value)}
def RenJ (ds:L2) (ls:L3) (w0:World) (vs:List Value) (w':World):Prop:=Bw w0 w' ∧ ∃ (ov u:Value) (i:Nat),vs = [.string ⟨#[]⟩,.bool false,ov,u,.int .i64 (i:Int)] ∧ i ≤ ds.length ∧
 OwnI w' w0.heap.size ov ((ds.length:Int) :: clauseL (ds.take i) (ls.take i)) ∧ ∀ (j:Nat) (d:List Int) (a:L2),j < i → ds[j]? = some d → ls[j]? = some a → d.length = a.length
def ReiJ (w0:World) (pre:List Int) (d:List Int) (a:L2) (vs:List Value) (w':World):Prop:=Bw w0 w' ∧ ∃ (ov:Value) (k:Nat),vs = [ov,.int .i64 (k:Int)] ∧ k ≤ d.length ∧ OwnI w' w0.heap.size ov (pre ++ itemL (d.take k) (a.take k))
theorem rEncode_ok (ds:L2) (ls:L3) {dv av:Value} (hd:ListsR w dv ds) (ha:NumsR w av ls) (hsm:SmallP 1000 ds ls)
  (k:∀ w',Bw w w' → K (.tuple #[.string ⟨(encodeM ds ls).1.toArray⟩,.bool (encodeM ds ls).2]) w'):callM Tryz.prog 80 #[prfV dv av] K w:=by
 apply sh_80_ok
 unfold sh_80
 have hd':=hd
 have ha':=ha
 obtain ⟨dad,dc,rfl⟩:=hd.isSlice
 obtain ⟨aad,ac,rfl⟩:=ha.isSlice
 refine box_kn (cs:=prfC (.slice dad ds.length dc) (.slice aad ls.length ac)) rfl (.start w) fun b1 W hk hb1 hbb=>?_
 clear hb1 hbb
 have no:evenL ds ls = false → ∀ w',Bw w w' → K (.tuple #[.string ⟨#[]⟩,.bool false]) w':=fun e w' hb=>by
  have:=k w' hb
  unfold encodeM at this
  rw [e] at this
  exact this
 by_cases hln:¬ ds.length = ls.length
 ·have hln':¬ (ds.length:Int) = ls.length:=by omega
  refine Xa (An2 hk.cells @hln') ?_
  refine no ?_ _ hk.below
  cases e:evenL ds ls with
  | false=>rfl
  | true=>exact absurd ((even_iff ds ls).1 e).1 hln
 have hln:ds.length = ls.length:=by omega
 have hln':(ds.length:Int) = ls.length:=by omega
 refine Xb11 (An2 hk.cells @hln') ?_
 refine mk1o _ (fun v1 w1 h1 ho1=>?_)
 have hk0:=hk
 have hk:=hk.next h1
 refine ⟨RenJ ds ls W,rspMu ds.length,⟨h1,_,_,0,rfl,by omega,by simpa [clauseL,hln] using ho1,fun j d a hj=>by omega⟩,?_⟩
 rintro _ _ w3 ⟨hb3,ov,u3,i,rfl,hi,ho,hev⟩
 have hWs:=hb3.size
 have hdlen:=hd'.len
 have hcl:=clauseL_small hsm i
 have hk:=hk0.next hb3
 by_cases hin:i = ds.length
 ·have hall:evenL ds ls = true:=(even_iff ds ls).2 ⟨hln,fun j d a e1 e2=>hev j d a (by rw [hin]; exact (gS e1).1) e1 e2⟩
  rw [List.take_of_length_le (by omega),List.take_of_length_le (by omega)] at ho
  have hinr:∀ x ∈ (ds.length:Int) :: clauseL ds ls,InR x:=by
   intro x hx
   rcases List.mem_cons.1 hx with rfl | hx
   ·unfold InR; omega
   ·refine clauseL_in ds ls (fun y hy=>?_) (fun z hz y hy=>?_) x hx
    ·obtain ⟨j,hj,rfl⟩:=List.getElem_of_mem hy
     obtain ⟨_,_,_,_,_,_,h⟩:=hd'.one (i:=j) hj
     exact ⟨by have:=h.len; omega,fun x hx=>(InR_iff x).2 (h.rng x hx)⟩
    ·obtain ⟨j,hj,rfl⟩:=List.getElem_of_mem hz
     obtain ⟨_,_,v,_,_,_,h⟩:=ha'.one (i:=j) hj
     obtain ⟨j2,hj2,rfl⟩:=List.getElem_of_mem hy
     obtain ⟨ad,c,rfl⟩:=h.isSlice
     obtain ⟨_,_,_,_,_,_,h⟩:=h.one (i:=j2) hj2
     exact ⟨by have:=h.len; omega,fun x hx=>(InR_iff x).2 (h.rng x hx)⟩
  have hcl2:(clauseL ds ls).length ≤ 1002001000:=by
   have:=clauseL_small hsm ds.length
   rwa [List.take_of_length_le (by omega),List.take_of_length_le (by omega)] at this
  have hle:=encNums_le hinr (by rw [List.length_cons]; omega)
  have hnl:¬ (i:Int) < ds.length:=by omega
  refine Xa (An2 hk.cells @hnl) ?_
  refine Cd.qNums_ok _ _ (Ints.rowOf (ho.ints (fun x hx=>(InR_iff x).1 (hinr x hx)) (by rw [List.length_cons]; omega))) hinr (by rw [List.length_cons] at hle; omega) (fun w4 h4=>?_)
  have:=k _ (hk.next h4).below
  unfold encodeM at this
  rw [hall,if_pos rfl] at this
  exact this
 have hid:(i:Int) < ds.length:=by omega
 have hil0:(i:Int) < ls.length:=by omega
 obtain ⟨b5,o5,v5,rfl,hb5,c5,i5⟩:=hd'.one (i:=i) (by omega)
 obtain ⟨b6,o6,v6,rfl,hb6,c6,i6⟩:=ha'.one (i:=i) (by omega)
 have e5:ds[i]? = some ds[i]:=gE (by omega)
 have e6:ls[i]? = some ls[i]:=gE (by omega)
 have m5:ds[i] ∈ ds:=List.getElem_mem _
 have m6:ls[i] ∈ ls:=List.getElem_mem _
 have hstep:=clauseL_take ds ls i _ _ e5 e6
 generalize ds[i] = d at *
 generalize ls[i] = a at *
 obtain ⟨ad5,cp5,rfl⟩:=i5.isSlice
 obtain ⟨ad6,cp6,rfl⟩:=i6.isSlice
 by_cases hda:¬ d.length = a.length
 ·have hda':¬ (d.length:Int) = a.length:=by omega
  refine Xa (An2 hk.cells @hid) ?_
  unfold held_80_20
  simp only [List.getD_cons_succ,List.getD_cons_zero]
  have hk9:=hk.drew
  refine ⟨Nx { w3 with drawn:=w3.drawn + 1 },bR,by trivial,?_⟩
  have h3d:Below w3.heap.size w3 { w3 with drawn:=w3.drawn + 1 }:=.drawn
  generalize ({ w3 with drawn:=w3.drawn + 1 }:World) = W9 at hk9 h3d ⊢
  refine Xf (fun W0 hW0=>An3 ((hk9.next hW0).cells) (((hk9.next hW0).below.cell hb5).trans c5) (((hk9.next hW0).below.cell hb6).trans c6)) (An3 @hid @hil0 @hda') ?_
  refine ⟨Nx,fun w9 h9=>?_⟩
  have hk:=hk9.next h9
  refine Xa0 ?_
  refine no ?_ _ hk.below
  cases e:evenL ds ls with
  | false=>rfl
  | true=>exact absurd (((even_iff ds ls).1 e).2 i d a e5 e6) hda
 have hda:d.length = a.length:=by omega
 have hda':(d.length:Int) = a.length:=by omega
 refine Xa (An2 hk.cells @hid) ?_
 unfold held_80_20
 simp only [List.getD_cons_succ,List.getD_cons_zero]
 have hk9:=hk.drew
 refine ⟨Nx { w3 with drawn:=w3.drawn + 1 },bR,by trivial,?_⟩
 have h3d:Below w3.heap.size w3 { w3 with drawn:=w3.drawn + 1 }:=.drawn
 generalize ({ w3 with drawn:=w3.drawn + 1 }:World) = W9 at hk9 h3d ⊢
 refine Xf (fun W0 hW0=>An3 ((hk9.next hW0).cells) (((hk9.next hW0).below.cell hb5).trans c5) (((hk9.next hW0).below.cell hb6).trans c6)) (An3 @hid @hil0 @hda') ?_
 refine ⟨Nx,fun w9 h9=>?_⟩
 have hk:=hk9.next h9
 have h39:=h3d.on h9
 have hb3:=hb3.on h39
 have ho:=ho.keep h39
 refine Xb6 (An6 hk.cells ((hk.below.cell hb5).trans c5) ((hk.below.cell hb6).trans c6) @hid @hil0 @hda') ?_
 refine mk1g _ (by have:=i5.len; unfold I64; omega) (fun v7 w7 h7 hi7 _=>?_)
 have hb7:=hb3.on h7
 refine append1g (ho.keep h7) hb7.size hi7 (by rw [List.length_cons]; omega) (fun v8 w8 ho8 hg8 hv8=>?_)
 have hoo:=fun j hj=>owns_own (i:=j) (ho.keep h7) hj
 have hb8:=hb7.grown hg8 hb7.size (fun j hj=>(hoo j hj).2.1)
 rw [← hda] at ho8
 have hil:=itemL_le (N:=1000) d a (hsm.a a m6)
 have hdl:=hsm.d d m5
 have hil2:(1000 + 2) * d.length ≤ (1000 + 2) * 1000:=Nat.mul_le_mul_left _ hdl
 refine ⟨ReiJ W (((ds.length:Int) :: clauseL (ds.take i) (ls.take i)) ++ [(d.length:Int)]) d a,grMu d.length,⟨hb8,_,0,rfl,by omega,by simpa [itemL] using ho8⟩,?_⟩
 rintro _ _ w9 ⟨hb9,ov,j,rfl,hj,ho⟩
 unfold loop_80_42
 simp only [List.getD_cons_succ,List.getD_cons_zero]
 have hk:=hk0.next hb9
 by_cases hjn:j = d.length
 ·rw [List.take_of_length_le (l:=d) (by omega),List.take_of_length_le (l:=a) (by omega)] at ho
  have hjd:¬ (j:Int) < d.length:=by omega
  refine Xa (An4 hk.cells ((hk.below.cell hb5).trans c5) @hid @hjd) ?_
  refine ⟨⟨hb9,_,_,i + 1,rfl,by omega,?_,?_⟩,by show ds.length - (((i + 1:Nat):Int)).toNat < ds.length - ((i:Nat):Int).toNat; omega⟩
  ·rw [hstep]
   simpa using ho
  ·intro j' d' a' hj' e1 e2
   by_cases h:j' = i
   ·subst h
    rw [e5] at e1; rw [e6] at e2
    cases e1; cases e2
    exact hda
   ·exact hev j' d' a' (by omega) e1 e2
 obtain ⟨b10,o10,rfl,hb10,c10,r10,_⟩:=i5.at (i:=j) (by omega)
 obtain ⟨b11,o11,v11,rfl,hb11,c11,i11⟩:=i6.one (i:=j) (by omega)
 have e10:d[j]? = some d[j]:=gE (by omega)
 have e11:a[j]? = some a[j]:=gE (by omega)
 have m11:a[j] ∈ a:=List.getElem_mem _
 have hin2:=itemL_take d a j _ _ e10 e11
 have hyl:=hsm.a a m6 _ m11
 have hil3:=itemL_le (N:=1000) (d.take j) (a.take j) (fun y hy=>hsm.a a m6 y (List.mem_of_mem_take hy))
 have hil4:(1000 + 2) * (d.take j).length ≤ (1000 + 2) * 1000:=Nat.mul_le_mul_left _ (by rw [List.length_take]; omega)
 generalize d[j] = x at *
 generalize a[j] = y at *
 obtain ⟨ad11,cp11,rfl⟩:=i11.isSlice
 have hal:a.length ≤ 9223372036854775807:=by omega
 have hjl:(j:Int) < a.length:=by omega
 have hjd:(j:Int) < d.length:=by omega
 refine Xa (An4 hk.cells ((hk.below.cell hb5).trans c5) @hid @hjd) ?_
 unfold held_80_51
 simp only [List.getD_cons_succ,List.getD_cons_zero]
 have hk10:=hk.drew
 have hb10':Below W.heap.size W { w9 with drawn:=w9.drawn + 1 }:=hb9.on .drawn
 have ho10:=ho.keep (.drawn (w:=w9) (B:=w9.heap.size))
 refine ⟨fun w'=>Bw W w',hb10',?_⟩
 generalize ({ w9 with drawn:=w9.drawn + 1 }:World) = W9 at hk10 hb10' ho10 ⊢
 have ylI:I64 (y.length:Int):=by have:=i11.len; unfold I64; omega
 repeat (any_goals (first
 | ((with_reducible refine mk2 x (y.length:Int) r10 ylI ?_); intro v12 w12 h12 hi12)
 | (with_reducible refine pX ?_)
 | ((with_reducible refine idOH ?_); (with_reducible refine oH_of ⟨_,rfl⟩ (fun W0 hW0=>by (refine oG (fun X Y=>?_)); simp [go_sem,(hk0.next hW0).cells,((hk0.next hW0).below.cell hb5).trans c5,((hk0.next hW0).below.cell hb6).trans c6,((hk0.next hW0).below.cell hb11).trans c11,c10 _ (hk0.next hW0).below,hid,hil0,hjd,hjl]; (first | exact Y _ _ ⟨rfl,rfl⟩ | exact ⟨by omega,Y _ _ ⟨rfl,rfl⟩⟩)) ?_))))
 have hb12:=hb10'.on h12
 refine ⟨hb12,?_⟩
 have hpl:(((ds.length:Int) :: clauseL (ds.take i) (ls.take i)) ++ [(d.length:Int)] ++ itemL (d.take j) (a.take j)).length ≤ 1003003003:=by
  rw [List.length_append,List.length_append,List.length_cons,List.length_singleton]; omega
 have ho12:=ho10.keep h12
 refine appendNg ho12 hb12.size hi12 (by simp only [List.length_cons,List.length_nil] at hpl ⊢; omega) (fun v13 w13 ho13 hg13 hv13=>?_)
 have hb13:=hb12.grown hg13 hb12.size (fun j hj=>(owns_own ho12 hj).2.1)
 refine ⟨hb13,?_⟩
 refine appendNg ho13 hb13.size (i11.next (hk0.next hb13).below) (by rw [List.length_append]; simp only [List.length_cons,List.length_nil] at hpl ⊢; omega) (fun v14 w14 ho14 hg14 hv14=>?_)
 have hb14:=hb13.grown hg14 hb13.size (fun j hj=>(owns_own ho13 hj).2.1)
 refine ⟨hb14,hb14,?_⟩
 refine Xa0 ?_
 refine ⟨⟨hb14,_,j + 1,rfl,by omega,?_⟩,by show d.length - (((j + 1:Nat):Int)).toNat < d.length - ((j:Nat):Int).toNat; omega⟩
 rw [hin2]
 simpa using ho14
end
end Go.Proofs
namespace PrSpec
open FdSpec TkSpec CodeSpec FdPoly
def nextQ (r:Rw):Int × Rw:=if r.bad then (0,r) else nextR r
def countQ (r:Rw):Nat × Rw:=
 if (nextQ r).1 < 0 ∨ ((nextQ r).2.left.length:Int) < (nextQ r).1 then (0,⟨(nextQ r).2.left,true⟩) else ((nextQ r).1.toNat,(nextQ r).2)
theorem nextQ_good {r:Rw} (h:r.bad = false):nextQ r = nextR r:=by unfold nextQ; rw [h]; rfl
theorem nextQ_bad {r:Rw} (h:r.bad = true):nextQ r = (0,r):=by unfold nextQ; rw [h]; rfl
theorem countQ_good {r:Rw} (h:r.bad = false):countQ r = countR r:=by unfold countQ countR; rw [nextQ_good h]
theorem countQ_bad {r:Rw} (h:r.bad = true):countQ r = (0,r):=by
 unfold countQ
 rw [nextQ_bad h]
 rw [if_neg (by simp only; omega)]
 rfl
theorem nextR_bad {r:Rw} (h:r.bad = true):(nextR r).2.bad = true:=by
 unfold nextR; split
 ·rfl
 ·exact h
theorem countR_bad {r:Rw} (h:r.bad = true):(countR r).2.bad = true:=by
 unfold countR; split
 ·rfl
 ·exact nextR_bad h
theorem itemsR_bad:∀ (k:Nat) (r:Rw),r.bad = true → (itemsR k r).2.bad = true
 | 0,_,h=>h
 | k + 1,r,h=>itemsR_bad k _ (countR_bad (nextR_bad h))
theorem clausesR_bad:∀ (k:Nat) (r:Rw),r.bad = true → (clausesR k r).2.bad = true
 | 0,_,h=>h
 | k + 1,r,h=>clausesR_bad k _ (itemsR_bad _ _ (countR_bad h))
def Stopt (r:Rw):Prop:=r.bad = false ∨ r.left = []
theorem nextR_stopt {r:Rw} (h:r.bad = false):Stopt (nextR r).2:=by
 unfold nextR; split
 ·exact .inr rfl
 ·exact .inl h
theorem countQ_stopt {r:Rw} (h:Stopt r):countQ r = countR r:=by
 rcases h with h | h
 ·exact countQ_good h
 ·cases hb:r.bad with
  | false=>exact countQ_good hb
  | true=>
   rw [countQ_bad hb]
   obtain ⟨l,b⟩:=r
   simp only at h hb
   subst h hb
   rfl
theorem countR_none {r:Rw} (h:Stopt r) (hb:(countR r).2.bad = true):(countR r).1 = 0:=by
 obtain ⟨l,b⟩:=r
 unfold countR at hb ⊢
 split
 ·rfl
 ·rename_i h1
  rw [if_neg h1] at hb
  cases l with
  | nil=>rfl
  | cons x l=>
   rcases h with h | h
   ·simp only [nextR] at hb
    simp only at h
    rw [h] at hb; cases hb
   ·cases h
end PrSpec
namespace Go.Proofs
open Go Go.Sh Go.RowKit FdSpec TkSpec CodeSpec PrSpec
section
variable {K:VK} {w w' w0 W:World} {lv:Value} {M:List Int}
structure IsRq (lv:Value) (M:List Int) (B:Nat) (w:World) (b:Nat) (r:Rw):Prop where
 cells:∃ p:Nat,Holds w b 169 [lv,.int .i64 (p:Int),.bool r.bad] ∧ p ≤ M.length ∧ r.left = M.drop p
 ints:Ints w lv M
 lt:b < B
 off:∀ i,Value.inBlock lv = some i → i < B ∧ i ≠ b
theorem IsRq.keep {B b:Nat} {r:Rw} (h:IsRq lv M B w b r) (hb:Below B w w'):IsRq lv M B w' b r:=
 ⟨h.cells.imp fun p h1=>⟨(hb.block _ h.lt).trans h1.1,h1.2⟩,⟨h.ints.row.keep hb.size (fun i hi _=>hb.block i (h.off i hi).1),h.ints.rng,h.ints.len⟩,h.lt,h.off⟩
theorem IsRq.wrote {B b:Nat} {r r':Rw} {p:Nat} (h:IsRq lv M B w b r) (hg:w.grownBy w' (some b)) (hh:Holds w' b 169 [lv,.int .i64 (p:Int),.bool r'.bad]) (hp:p ≤ M.length) (hl:r'.left = M.drop p):IsRq lv M B w' b r':=
 ⟨⟨p,hh,hp,hl⟩,⟨h.ints.row.keep hg.size (fun i hi hlt=>hg.block i hlt (fun e=>(h.off i hi).2 (by first | exact oI e | exact (oI e).symm))),h.ints.rng,h.ints.len⟩,h.lt,h.off⟩
theorem below_grown {b:Option Nat} (h:Bw w w'):w.grownBy w' b:=⟨h.os,h.tape,h.output,h.size,fun i hi _=>h.block i hi⟩
theorem rone_ok {B b:Nat} {r:Rw} (hr:IsRq lv M B w b r) (hB:B ≤ w.heap.size) (k:∀ w',IsRq lv M B w' b (nextQ r).2 → w.grownBy w' (some b) → I64 (nextQ r).1 → K (.int .i64 (nextQ r).1) w'):callM Tryz.prog 152 #[.pointer (some ⟨b,0,none⟩)] K w:=by
 apply sh_152_ok
 unfold sh_152
 unfold held_152_1
 have hd:Below w.heap.size w { w with drawn:=w.drawn + 1 }:=.drawn
 have hrd:=hr.keep (hd.mono hB)
 refine ⟨Nx { w with drawn:=w.drawn + 1 },bR,by trivial,?_⟩
 generalize ({ w with drawn:=w.drawn + 1 }:World) = W9 at hd hrd ⊢
 have hB9:=Nat.le_trans hB hd.size
 obtain ⟨p,h1,hp,hleft⟩:=hrd.cells
 have hI:=hrd.ints
 obtain ⟨ad,c,rfl⟩:=hI.isSlice
 have hlen:=hI.len
 have bad:∀ w9,Nx W9 w9 → nextQ r = (0,⟨r.left,true⟩) → ∀ w2,w9.grownBy w2 (some b) → Holds w2 b 169 [.slice ad M.length c,.int .i64 (p:Int),.bool true] → K (.int .i64 0) w2:=fun w9 h9 e w2 hg hh=>by
  have:=k w2
  rw [e] at this
  exact this ((hrd.keep (h9.mono hB9)).wrote hg hh hp hleft) (grown_two (below_grown (hd.on h9)) hg) I64_0
 cases hb:r.bad with
 | true=>
  rw [hb] at h1
  refine Xc (fun W0 hW0=>(h1.next hW0).are) ?_
  refine ⟨Nx,fun w9 h9=>?_⟩
  refine Xa0 ?_
  refine arr_set (i:=2) sz_boolR rfl rfl (h1.next h9) (by simp) (fun w2 hg hh=>?_)
  exact bad w9 h9 (by rw [nextQ_bad hb,← hb]) w2 hg hh
 | false=>
 rw [hb] at h1
 by_cases hpl:(M.length:Int) ≤ p
 ·refine Xf (fun W0 hW0=>(h1.next hW0).are) @hpl ?_
  refine ⟨Nx,fun w9 h9=>?_⟩
  refine Xa0 ?_
  refine arr_set (i:=2) sz_boolR rfl rfl (h1.next h9) (by simp) (fun w2 hg hh=>?_)
  have hnil:r.left = []:=by rw [hleft]; exact List.drop_of_length_le (by omega)
  exact bad w9 h9 (by rw [nextQ_good hb]; unfold nextR; rw [hnil]) w2 hg hh
 clear bad
 refine Xf (fun W0 hW0=>(h1.next hW0).are) @hpl ?_
 refine ⟨Nx,fun w9 h9=>?_⟩
 have h1:=h1.next h9
 refine Xa h1.are ?_
 refine arr_set (i:=1) sz_int1 rfl rfl h1 (by simp) (fun w2 hg hh=>?_)
 have hh:Holds w2 b 169 [.slice ad M.length c,.int .i64 ((p + 1:Nat):Int),.bool false]:=hh
 have hplt:p < M.length:=by omega
 have hcons:r.left = M[p] :: M.drop (p + 1):=by rw [hleft,List.drop_eq_getElem_cons hplt]
 have enx:nextQ r = (M[p],⟨M.drop (p + 1),false⟩):=by rw [nextQ_good hb]; unfold nextR; rw [hcons,hb]
 rw [enx] at k
 clear enx hcons
 have hr2:IsRq (.slice ad M.length c) M B w2 b ⟨M.drop (p + 1),false⟩:=(hrd.keep (h9.mono hB9)).wrote hg hh (by omega) rfl
 have hI2:=hr2.ints
 obtain ⟨b8,o8,rfl,hb8,ca,ra,_⟩:=hI2.at (i:=p) hplt
 generalize M[p] = x at *
 unfold held_152_27
 have hd2:Below w2.heap.size w2 { w2 with drawn:=w2.drawn + 1 }:=.drawn
 have hs2:B ≤ w2.heap.size:=Nat.le_trans hB9 (Nat.le_trans h9.size hg.size)
 have hca:=fun w' h=>ca w' (hd2.on h)
 have hh2:=hh.next hd2
 refine ⟨Nx { w2 with drawn:=w2.drawn + 1 },bR,by trivial,?_⟩
 generalize ({ w2 with drawn:=w2.drawn + 1 }:World) = W3 at hd2 hca hh2 ⊢
 have e1:IntKind.i64.wrap (((p + 1:Nat):Int) - 1) = (p:Int):=by rw [wrapI64 _ (by omega) (by omega)]; omega
 have e2:IntKind.i64.wrap (p:Int) = (p:Int):=wrapI64 _ (by omega) (by omega)
 have hpi:(p:Int) < M.length:=by omega
 refine Xf (fun W0 hW0=>An2 ((hh2.next hW0).are) (hca _ hW0)) (An3 @e1 @e2 @hpi) ?_
 refine ⟨Nx,fun w4 h4=>?_⟩
 exact k w4 (hr2.keep ((hd2.on h4).mono hs2)) (grown_two (grown_two (below_grown (hd.on h9)) hg) (below_grown (hd2.on h4))) ra
theorem rcount_ok {B b:Nat} {r:Rw} (hr:IsRq lv M B w b r) (hB:B ≤ w.heap.size) (k:∀ w',IsRq lv M B w' b (countQ r).2 → w.grownBy w' (some b) → K (.int .i64 ((countQ r).1:Int)) w'):callM Tryz.prog 151 #[.pointer (some ⟨b,0,none⟩)] K w:=by
 apply sh_151_ok
 unfold sh_151
 refine rone_ok hr hB (fun w1 hr1 hg1 hI=>?_)
 have hB1:=Nat.le_trans hB hg1.size
 unfold held_151_2
 have hd:Below w1.heap.size w1 { w1 with drawn:=w1.drawn + 1 }:=.drawn
 have hrd:=hr1.keep (hd.mono hB1)
 refine ⟨Nx { w1 with drawn:=w1.drawn + 1 },bR,by trivial,?_⟩
 generalize ({ w1 with drawn:=w1.drawn + 1 }:World) = W9 at hd hrd ⊢
 have hB9:=Nat.le_trans hB1 hd.size
 obtain ⟨p,h1,hp,hleft⟩:=hrd.cells
 have hIn:=hrd.ints
 obtain ⟨ad,c,rfl⟩:=hIn.isSlice
 have hlen:=hIn.len
 have hll:(nextQ r).2.left.length = M.length - p:=by rw [hleft,List.length_drop]
 unfold countQ at k
 have hg9:∀ w9,Nx W9 w9 → w.grownBy w9 (some b):=fun w9 h9=>grown_two hg1 (below_grown (hd.on h9))
 generalize (nextQ r).2 = r' at *
 generalize (nextQ r).1 = n at *
 have esub:IntKind.i64.wrap ((M.length:Int) - p) = (M.length:Int) - p:=wrapI64 _ (by omega) (by omega)
 by_cases hn:n < 0
 ·rw [if_pos (.inl hn)] at k
  refine Xf (fun W0 hW0=>(h1.next hW0).are) @hn ?_
  refine ⟨Nx,fun w9 h9=>?_⟩
  refine Xa0 ?_
  refine arr_set (i:=2) sz_boolR rfl rfl (h1.next h9) (by simp) (fun w2 hg hh=>?_)
  exact k w2 ((hrd.keep (h9.mono hB9)).wrote hg hh hp hleft) (grown_two (hg9 w9 h9) hg)
 by_cases hm:(M.length:Int) - p < n
 ·rw [if_pos (.inr (by omega))] at k
  refine Xf (fun W0 hW0=>(h1.next hW0).are) (An3 @hn @esub @hm) ?_
  refine ⟨Nx,fun w9 h9=>?_⟩
  refine Xa0 ?_
  refine arr_set (i:=2) sz_boolR rfl rfl (h1.next h9) (by simp) (fun w2 hg hh=>?_)
  exact k w2 ((hrd.keep (h9.mono hB9)).wrote hg hh hp hleft) (grown_two (hg9 w9 h9) hg)
 rw [if_neg (by omega)] at k
 refine Xf (fun W0 hW0=>(h1.next hW0).are) (An3 @hn @esub @hm) ?_
 refine ⟨Nx,fun w9 h9=>?_⟩
 refine Xa0 ?_
 have:=k w9 (hrd.keep (h9.mono hB9)) (hg9 w9 h9)
 rw [Int.toNat_of_nonneg (by omega)] at this
 exact this
end
end Go.Proofs
namespace Go.Proofs
open Go.Sh Tryz
def sh_148 (a0:Value) (K:VK) (w:World):Prop:=
 oM prog (.build 197 #[(0,(.tmp 0))]) 197 [a0] (fun v4 w=>
 oM prog (.box 197 (.tmp 0)) 165 [v4] (fun v5 w=>
 K v5 w) w) w
theorem sh_148_ok {a0:Value} {K:VK} {w:World} (h:sh_148 a0 K w):callM prog 148 #[a0] K w:=
 calls_of_code (fun _=>0) (fn:=Tryz.f148) (rs:=[.tmp 2]) Tryz.func148 rfl rfl (by kernel_rfl) (nB rfl) (Eq.mp (by kernel_rfl) h)
def sh_149 (a0:Value) (K:VK) (w:World):Prop:=
 callM prog 189 #[a0,(.int .u8 91)] (fun v7 w=>
 loopM [(.slice none 0 0),(.int .i64 0)] w (fun J_2 m_3 l_4 u_l_4 w0_l_4=>(fun w=>(
 kB .lss 3 4 (l_4.getD 1 undef) v7 (fun v10 w=>
 gT v10 (pureM a0) (fun v12 w=>
 gT v10 (oM prog (.nilCheck (.tmp 0)) 0 [v12]) (fun v13 w=>
 gT v10 (kF 197 1 v13) (fun v14 w=>
 gT v10 (kL 4 v14) (fun v15 w=>
 gT v10 (kU v15) (fun v16 w=>
 kP v10 v16 (.bool false) (fun v17 w=>
 condM v17
 (callM prog 190 #[a0] (fun v22 w=>
 oM prog (.buildSlice 24 1 #[(0,(.tmp 0))]) 24 [v22] (fun v23 w=>
 oM prog (.call (Go.Call.mk (.builtin .append) #[(.tmp 0),(.tmp 1)] #[24,24])) 24 [(l_4.getD 0 undef),v23] (fun v24 w=>
 kB .add 3 3 (l_4.getD 1 undef) (.int .i64 1) (fun v19 w=>
 J_2 [v24,v19] w ∧ m_3 [v24,v19] w < m_3 l_4 w0_l_4) w) w) w) w)
 (oM prog (.nilCheck (.tmp 0)) 0 [a0] (fun v26 w=>
 kF 197 1 v26 (fun v27 w=>
 kL 4 v27 (fun v28 w=>
 gF v28 (pureM a0) (fun v30 w=>
 gF v28 (callM prog 191 #[v30,(.int .u8 93)]) (fun v31 w=>
 gF v28 (kU v31) (fun v32 w=>
 kP v28 (.bool true) v32 (fun v33 w=>
 condM v33
 (K (.slice none 0 0) w)
 (K (l_4.getD 0 undef) w)) w) w) w) w) w) w) w)) w) w) w) w) w) w) w)) w0_l_4)) w
theorem sh_149_ok {a0:Value} {K:VK} {w:World} (h:sh_149 a0 K w):callM prog 149 #[a0] K w:=
 calls_of_code (fun _=>0) (fn:=Tryz.f149) (rs:=[.tmp 2]) Tryz.func149 rfl rfl (by kernel_rfl) (nB rfl) (Eq.mp (by kernel_rfl) h)
def sh_150 (a0:Value) (K:VK) (w:World):Prop:=
 oM prog (.nilCheck (.tmp 0)) 0 [a0] (fun v4 w=>
 kF 197 1 v4 (fun v5 w=>
 kL 4 v5 (fun v6 w=>
 kU v6 (fun v7 w=>
 gT v7 (pureM a0) (fun v9 w=>
 gT v7 (oM prog (.nilCheck (.tmp 0)) 0 [v9]) (fun v10 w=>
 gT v7 (kF 197 0 v10) (fun v11 w=>
 gT v7 (kL 9 v11) (fun v12 w=>
 gT v7 (oM prog (.binOp .eql 9 (.tmp 0) (.const (.string ⟨#[]⟩)) 9) 4 [v12]) (fun v13 w=>
 kP v7 v13 (.bool false) (fun v14 w=>
 K v14 w) w) w) w) w) w) w) w) w) w) w
theorem sh_150_ok {a0:Value} {K:VK} {w:World} (h:sh_150 a0 K w):callM prog 150 #[a0] K w:=
 calls_of_code (fun _=>0) (fn:=Tryz.f150) (rs:=[.tmp 2]) Tryz.func150 rfl rfl (by kernel_rfl) (nB rfl) (Eq.mp (by kernel_rfl) h)
def sh_189 (a0 a1:Value) (K:VK) (w:World):Prop:=
 callM prog 211 #[a0,a1] (fun v8 w=>
 kB .lss 3 4 v8 (.int .i64 0) (fun v10 w=>
 condM v10
 (callM prog 212 #[a0] (fun v12 w=>
 K v12 w) w)
 (K v8 w)) w) w
theorem sh_189_ok {a0 a1:Value} {K:VK} {w:World} (h:sh_189 a0 a1 K w):callM prog 189 #[a0,a1] K w:=
 calls_of_code (fun _=>0) (fn:=Tryz.f189) (rs:=[.tmp 4]) Tryz.func189 rfl rfl (by kernel_rfl) (nB rfl) (Eq.mp (by kernel_rfl) h)
def sh_190 (a0:Value) (K:VK) (w:World):Prop:=
 callM prog 211 #[a0,(.int .u8 59)] (fun v4 w=>
 K v4 w) w
theorem sh_190_ok {a0:Value} {K:VK} {w:World} (h:sh_190 a0 K w):callM prog 190 #[a0] K w:=
 calls_of_code (fun _=>0) (fn:=Tryz.f190) (rs:=[.tmp 2]) Tryz.func190 rfl rfl (by kernel_rfl) (nB rfl) (Eq.mp (by kernel_rfl) h)
def sh_191 (a0 a1:Value) (K:VK) (w:World):Prop:=
 oM prog (.nilCheck (.tmp 0)) 0 [a0] (fun v6 w=>
 kF 197 0 v6 (fun v7 w=>
 kL 9 v7 (fun v8 w=>
 kN 9 v8 (fun v9 w=>
 kC .eql 3 0 4 v9 (fun v10 w=>
 condM v10
 (callM prog 212 #[a0] (fun v12 w=>
 K (.bool false) w) w)
 (oM prog (.nilCheck (.tmp 0)) 0 [a0] (fun v14 w=>
 kF 197 0 v14 (fun v15 w=>
 kL 9 v15 (fun v16 w=>
 oM prog (.index 9 (.tmp 0) (.tmp 1)) 5 [v16,(.int .i64 0)] (fun v17 w=>
 kB .neq 5 4 v17 a1 (fun v19 w=>
 condM v19
 (callM prog 212 #[a0] (fun v21 w=>
 K (.bool false) w) w)
 (oM prog (.nilCheck (.tmp 0)) 0 [a0] (fun v24 w=>
 kF 197 0 v24 (fun v25 w=>
 kL 9 v25 (fun v26 w=>
 oM prog (.slice 9 (.tmp 0) (some (.tmp 1)) none none) 9 [v26,(.int .i64 1)] (fun v27 w=>
 oM prog (.nilCheck (.tmp 0)) 0 [a0] (fun v28 w=>
 kF 197 0 v28 (fun v29 w=>
 kS 9 v29 v27 (fun _ w=>
 K (.bool true) w) w) w) w) w) w) w) w)) w) w) w) w) w)) w) w) w) w) w
theorem sh_191_ok {a0 a1:Value} {K:VK} {w:World} (h:sh_191 a0 a1 K w):callM prog 191 #[a0,a1] K w:=
 calls_of_code (fun _=>0) (fn:=Tryz.f191) (rs:=[.tmp 4]) Tryz.func191 rfl rfl (by kernel_rfl) (nB rfl) (Eq.mp (by kernel_rfl) h)
def sh_211 (a0 a1:Value) (K:VK) (w:World):Prop:=
 loopM [(.int .i64 0)] w (fun J_1 m_2 l_3 u_l_3 w0_l_3=>(fun w=>(
 oM prog (.nilCheck (.tmp 0)) 0 [a0] (fun v10 w=>
 kF 197 0 v10 (fun v11 w=>
 kL 9 v11 (fun v12 w=>
 kN 9 v12 (fun v13 w=>
 kB .lss 3 4 (l_3.getD 0 undef) v13 (fun v14 w=>
 gT v14 (pureM (l_3.getD 0 undef)) (fun v16 w=>
 gT v14 (kB .lss 3 4 v16 (.int .i64 21)) (fun v17 w=>
 kP v14 v17 (.bool false) (fun v18 w=>
 gT v18 (pureM a0) (fun v20 w=>
 gT v18 (oM prog (.nilCheck (.tmp 0)) 0 [v20]) (fun v21 w=>
 gT v18 (kF 197 0 v21) (fun v22 w=>
 gT v18 (kL 9 v22) (fun v23 w=>
 gT v18 (pureM (l_3.getD 0 undef)) (fun v24 w=>
 gT v18 (oM prog (.index 9 (.tmp 0) (.tmp 1)) 5 [v23,v24]) (fun v25 w=>
 gT v18 (pureM a1) (fun v26 w=>
 gT v18 (kB .neq 5 4 v25 v26) (fun v27 w=>
 kP v18 v27 (.bool false) (fun v28 w=>
 condM v28
 (kB .add 3 3 (l_3.getD 0 undef) (.int .i64 1) (fun v30 w=>
 J_1 [v30] w ∧ m_2 [v30] w < m_2 l_3 w0_l_3) w)
 (oM prog (.nilCheck (.tmp 0)) 0 [a0] (fun v33 w=>
 kF 197 0 v33 (fun v34 w=>
 kL 9 v34 (fun v35 w=>
 kN 9 v35 (fun v36 w=>
 kB .geq 3 4 (l_3.getD 0 undef) v36 (fun v37 w=>
 condM v37
 (callM prog 212 #[a0] (fun v39 w=>
 K v39 w) w)
 (oM prog (.nilCheck (.tmp 0)) 0 [a0] (fun v41 w=>
 kF 197 0 v41 (fun v42 w=>
 kL 9 v42 (fun v43 w=>
 oM prog (.index 9 (.tmp 0) (.tmp 1)) 5 [v43,(l_3.getD 0 undef)] (fun v45 w=>
 kB .neq 5 4 v45 a1 (fun v47 w=>
 condM v47
 (callM prog 212 #[a0] (fun v49 w=>
 K v49 w) w)
 (oM prog (.nilCheck (.tmp 0)) 0 [a0] (fun v52 w=>
 kF 197 0 v52 (fun v53 w=>
 kL 9 v53 (fun v54 w=>
 oM prog (.slice 9 (.tmp 0) none (some (.tmp 1)) none) 9 [v54,(l_3.getD 0 undef)] (fun v56 w=>
 callM prog 227 #[v56] (fun v57 w=>
 kE 0 3 v57 (fun v58 w=>
 kE 1 4 v57 (fun v59 w=>
 kU v59 (fun v61 w=>
 condM v61
 (callM prog 212 #[a0] (fun v63 w=>
 K v63 w) w)
 (oM prog (.nilCheck (.tmp 0)) 0 [a0] (fun v66 w=>
 kF 197 0 v66 (fun v67 w=>
 kL 9 v67 (fun v68 w=>
 kB .add 3 3 (l_3.getD 0 undef) (.int .i64 1) (fun v70 w=>
 oM prog (.slice 9 (.tmp 0) (some (.tmp 1)) none none) 9 [v68,v70] (fun v71 w=>
 oM prog (.nilCheck (.tmp 0)) 0 [a0] (fun v72 w=>
 kF 197 0 v72 (fun v73 w=>
 kS 9 v73 v71 (fun _ w=>
 K v58 w) w) w) w) w) w) w) w) w)) w) w) w) w) w) w) w) w)) w) w) w) w) w)) w) w) w) w) w)) w) w) w) w) w) w) w) w) w) w) w) w) w) w) w) w) w)) w0_l_3)
theorem sh_211_ok {a0 a1:Value} {K:VK} {w:World} (h:sh_211 a0 a1 K w):callM prog 211 #[a0,a1] K w:=
 calls_of_code (fun _=>0) (fn:=Tryz.f211) (rs:=[.tmp 4]) Tryz.func211 rfl rfl (by kernel_rfl) (nB rfl) (Eq.mp (by kernel_rfl) h)
def sh_212 (a0:Value) (K:VK) (w:World):Prop:=
 oM prog (.nilCheck (.tmp 0)) 0 [a0] (fun v4 w=>
 kF 197 0 v4 (fun v5 w=>
 oM prog (.store 9 (.tmp 0) (.tmp 1)) 0 [v5,(.string ⟨#[]⟩)] (fun _ w=>
 oM prog (.nilCheck (.tmp 0)) 0 [a0] (fun v7 w=>
 kF 197 1 v7 (fun v8 w=>
 kS 4 v8 (.bool true) (fun _ w=>
 K (.int .i64 0) w) w) w) w) w) w) w
theorem sh_212_ok {a0:Value} {K:VK} {w:World} (h:sh_212 a0 K w):callM prog 212 #[a0] K w:=
 calls_of_code (fun _=>0) (fn:=Tryz.f212) (rs:=[.tmp 2]) Tryz.func212 rfl rfl (by kernel_rfl) (nB rfl) (Eq.mp (by kernel_rfl) h)
def sh_227 (a0:Value) (K:VK) (w:World):Prop:=
 joinM (fun M_1=>(kN 9 a0 (fun v8 w=>
 kB .gtr 3 4 v8 (.int .i64 0) (fun v9 w=>
 gT v9 (pureM a0) (fun v11 w=>
 gT v9 (oM prog (.index 9 (.tmp 0) (.tmp 1)) 5 [v11,(.int .i64 0)]) (fun v12 w=>
 gT v9 (oM prog (.binOp .eql 5 (.tmp 0) (.const (.int .u8 45)) 5) 4 [v12]) (fun v13 w=>
 kP v9 v13 (.bool false) (fun v14 w=>
 condM v14
 (M_1 [(.int .i64 1)] w)
 (M_1 [(.int .i64 0)] w)) w) w) w) w) w) w))
 (fun l_2 u_l_2 w=>(loopM [(.int .i64 0),(.bool false),(.int .i64 0),(l_2.getD 0 undef)] w (fun J_9 m_10 l_11 u_l_11 w0_l_11=>(fun w=>(
 kN 9 a0 (fun v18 w=>
 kB .lss 3 4 (l_11.getD 3 undef) v18 (fun v19 w=>
 condM v19
 (oM prog (.index 9 (.tmp 0) (.tmp 1)) 5 [a0,(l_11.getD 3 undef)] (fun v24 w=>
 kB .lss 5 4 v24 (.int .u8 48) (fun v25 w=>
 gF v25 (pureM a0) (fun v27 w=>
 gF v25 (pureM (l_11.getD 3 undef)) (fun v28 w=>
 gF v25 (oM prog (.index 9 (.tmp 0) (.tmp 1)) 5 [v27,v28]) (fun v29 w=>
 gF v25 (kB .gtr 5 4 v29 (.int .u8 57)) (fun v30 w=>
 kP v25 (.bool true) v30 (fun v31 w=>
 gF v31 (pureM (l_11.getD 3 undef)) (fun v33 w=>
 gF v31 (kB .gtr 3 4 v33 (.int .i64 20)) (fun v34 w=>
 kP v31 (.bool true) v34 (fun v35 w=>
 condM v35
 (K (.tuple #[(.int .i64 0),(.bool false)]) w)
 (kB .mul 3 3 (.int .i64 10) (l_11.getD 2 undef) (fun v37 w=>
 oM prog (.index 9 (.tmp 0) (.tmp 1)) 5 [a0,(l_11.getD 3 undef)] (fun v40 w=>
 kB .sub 5 5 v40 (.int .u8 48) (fun v41 w=>
 oM prog (.convert 5 3 (.tmp 0)) 3 [v41] (fun v42 w=>
 kB .sub 3 3 v37 v42 (fun v43 w=>
 kB .add 3 3 (l_11.getD 3 undef) (.int .i64 1) (fun v21 w=>
 J_9 [(l_11.getD 0 undef),(l_11.getD 1 undef),v43,v21] w ∧ m_10 [(l_11.getD 0 undef),(l_11.getD 1 undef),v43,v21] w < m_10 l_11 w0_l_11) w) w) w) w) w) w)) w) w) w) w) w) w) w) w) w) w)
 (joinM (fun M_30=>(kC .eql 3 0 4 (l_2.getD 0 undef) (fun v45 w=>
 condM v45
 (oM prog (.unOp .neg 3 (.tmp 0)) 3 [(l_11.getD 2 undef)] (fun v47 w=>
 M_30 [v47] w) w)
 (M_30 [(l_11.getD 2 undef)] w)) w))
 (fun l_31 u_l_31 w=>(callM prog 177 #[(l_31.getD 0 undef)] (fun v50 w=>
 oM prog (.binOp .add 9 (.tmp 0) (.tmp 1) 9) 9 [a0,(.string ⟨#[59]⟩)] (fun v52 w=>
 kB .eql 9 4 v50 v52 (fun v53 w=>
 K (.tuple #[(l_31.getD 0 undef),v53]) w) w) w) w)))) w) w)) w0_l_11)))
theorem sh_227_ok {a0:Value} {K:VK} {w:World} (h:sh_227 a0 K w):callM prog 227 #[a0] K w:=
 calls_of_code (fun _=>0) (fn:=Tryz.f227) (rs:=[.tmp 2,.tmp 3]) Tryz.func227 rfl rfl (by kernel_rfl) (nB rfl) (Eq.mp (by kernel_rfl) h)
end Go.Proofs
namespace Go.Proofs.Cd
open Go Go.Sh Go.RowKit Go.Lib CodeSpec
def IsQd (w:World) (b:Nat) (r:Rd):Prop:=w.heap[b]? = some (.cells #[.string ⟨r.rest.toArray⟩,.bool r.bad] 197 (0,0))
def SameW (w w':World):Prop:=w = w'
theorem IsQd.c0 {w:World} {b:Nat} {r:Rd} (h:IsQd w b r):w.cell? ⟨b,0,none⟩ = some (.string ⟨r.rest.toArray⟩):=by
 unfold IsQd at h; simp [World.cell?,h]
theorem IsQd.c1 {w:World} {b:Nat} {r:Rd} (h:IsQd w b r):w.cell? ⟨b,1,none⟩ = some (.bool r.bad):=by
 unfold IsQd at h; simp [World.cell?,h]
theorem IsQd.fz {w:World} {b:Nat} {r:Rd} (h:IsQd w b r) (i:Nat):w.frozen? ⟨b,i,none⟩ = false:=by
 unfold IsQd at h; simp [World.frozen?,h]
theorem IsQd.lt {w:World} {b:Nat} {r:Rd} (h:IsQd w b r):b < w.heap.size:=(Array.getElem?_eq_some_iff.1 h).1
theorem IsQd.set0 {w:World} {b:Nat} {r:Rd} (h:IsQd w b r) (l:List UInt8):IsQd (w.setCell ⟨b,0,none⟩ (.string ⟨l.toArray⟩)) b ⟨l,r.bad⟩:=by
 unfold IsQd at h ⊢
 rw [heap_set h]; rfl
theorem IsQd.set1 {w:World} {b:Nat} {r:Rd} (h:IsQd w b r) (t:Bool):IsQd (w.setCell ⟨b,1,none⟩ (.bool t)) b ⟨r.rest,t⟩:=by
 unfold IsQd at h ⊢
 rw [heap_set h]; rfl
theorem IsQd.below {w w':World} {b:Nat} {r:Rd} (h:IsQd w b r) {B:Nat} (hb:Below B w w') (hB:b < B):IsQd w' b r:=by
 unfold IsQd at h ⊢
 rw [hb.block _ hB]; exact h
theorem wrap_range (x:Int):InR (IntKind.i64.wrap x):=by
 unfold IntKind.wrap InR
 simp only [IntKind.bits,IntKind.signed]
 simp
 omega
def numL (l:List UInt8):Nat:=l.foldl (fun a c=>10 * a + (c.toNat - 48)) 0
theorem numL_snoc (l:List UInt8) (c:UInt8):numL (l ++ [c]) = 10 * numL l + (c.toNat - 48):=by simp [numL]
theorem numL_dec (u:Nat):numL (decDigits u) = u:=by
 induction u using Nat.strongRecOn with
 | ind u ih=>
  rw [decDigits]
  split
  ·rename_i h
   have:=digit_toNat u h
   simp only [numL,List.foldl_cons,List.foldl_nil,this]
   omega
  ·rename_i h
   rw [numL_snoc,ih (u / 10) (by omega),digit_toNat _ (by omega)]
   omega
theorem numL_mono (l:List UInt8) (k:Nat):numL (l.take k) ≤ numL l:=by
 have key:∀ (m:List UInt8) (a:Nat),a ≤ m.foldl (fun a c=>10 * a + (c.toNat - 48)) a:=by
  intro m
  induction m with
  | nil=>intro a; simp
  | cons c m ih=>
   intro a
   simp only [List.foldl_cons]
   have:=ih (10 * a + (c.toNat - 48))
   omega
 conv=>rhs; rw [← List.take_append_drop k l]
 unfold numL
 rw [List.foldl_append]
 exact key _ _
theorem itoa_head (m:Int):(itoa m).head? = some 45 ↔ m < 0:=by
 by_cases h:m < 0
 ·simp [itoa_neg m h,h]
 ·simp only [h,iff_false]
  rw [itoa_pos m h]
  intro e
  have:(45:UInt8) ∈ decDigits m.natAbs:=by
   cases hd:decDigits m.natAbs with
   | nil=>rw [hd] at e; cases e
   | cons c r=>rw [hd] at e; simp at e; rw [e]; simp
  have:=decDigits_digit _ _ this
  simp at this
def sgn (s:List UInt8):Nat:=if s.head? = some 45 then 1 else 0
theorem itoa_drop (m:Int):(itoa m).drop (sgn (itoa m)) = decDigits m.natAbs:=by
 unfold sgn
 by_cases h:m < 0
 ·rw [if_pos ((itoa_head m).2 h),itoa_neg m h]; rfl
 ·rw [if_neg (fun e=>h ((itoa_head m).1 e)),itoa_pos m h]; rfl
theorem canon_none (s:List UInt8) (h:∀ m,InR m → s ≠ itoa m):canon s = none:=by
 cases hc:canon s with
 | none=>rfl
 | some m=>exact absurd (canon_some s m hc).1 (h m (canon_some s m hc).2)
set_option maxHeartbeats 1600000 in
theorem backInt_ok (s:List UInt8) (hs:s.length < 2^40) {K:VK} {w:World} (k:∀ v w',Bw w w' → (∀ n,canon s = some n → v = n) → K (.tuple #[.int .i64 v,.bool (canon s).isSome]) w'):callM Tryz.prog 227 #[.string ⟨s.toArray⟩] K w:=by
 apply sh_227_ok
 unfold sh_227
 have hsg:sgn s ≤ 1:=by unfold sgn; split <;> omega
 refine ⟨fun l w'=>SameW w w' ∧ l = [.int .i64 (sgn s)],?_,?_⟩
 ·cases s with
  | nil=>
   refine Xc0 ?_
   exact ⟨rfl,rfl⟩
  | cons c r=>
   have hc:(c :: r).getD 0 0 = c:=rfl
   repeat (any_goals (first
   | (with_reducible first|refine pureM_in ?_|refine zA ?_|refine yB ?_|((refine idCond ?_); refine yP (fun hg=>?_) fun hg=>?_))
   | ((with_reducible refine oG fun X Y=>?_); simp [go_sem]; apply Y; clear Y X)))
   ·refine ⟨rfl,?_⟩
    have:c = 45:=UInt8.toNat_inj.1 (by simp; omega)
    rw [this]; rfl
   ·refine ⟨rfl,?_⟩
    have:c ≠ 45:=fun e=>by subst e; simp at hg
    simp [sgn,this]
   all_goals (simp only [List.length_cons] at *; omega)
 rintro _ _ _ ⟨rfl,rfl⟩
 simp only [List.getD_cons_zero]
 obtain ⟨a,ha⟩:∃ a,a = sgn s:=⟨_,rfl⟩
 rw [← ha] at hsg ⊢
 refine ⟨fun l w'=>SameW w w' ∧ ∃ (n:Int) (i:Nat),l = [.int .i64 0,.bool false,.int .i64 n,.int .i64 i] ∧ a ≤ i ∧ (i ≤ s.length ∨ i = a) ∧ InR n ∧ ∀ m,InR m → s = itoa m → n = -(numL ((s.drop a).take (i - a)):Int),fun l _=>s.length - (match l with | [_,_,_,.int _ n]=>n.toNat | _=>0),⟨rfl,0,a,rfl,by omega,.inr rfl,⟨by omega,by omega⟩,fun m _ _=>by simp [numL]⟩,?_⟩
 rintro _ _ _ ⟨rfl,n,i,rfl,hai,hil,hn,hinv⟩
 simp only [List.getD_cons_zero,List.getD_cons_succ]
 by_cases hlt:i < s.length
 ·obtain ⟨c,hc⟩:∃ c,c = s[i]:=⟨_,rfl⟩
  have hbyte:s[i]?.getD 0 = c:=by rw [gE hlt,hc]; rfl
  have hfacts:∀ m,InR m → s = itoa m → 48 ≤ c.toNat ∧ c.toNat ≤ 57 ∧ i ≤ 20:=by
   intro m hm e
   have h1:=itoa_len m hm
   rw [← e] at h1
   have h2:c ∈ decDigits m.natAbs:=by
    rw [← itoa_drop m,← e,← ha,hc]
    rw [List.mem_iff_getElem]
    exact ⟨i - a,by rw [List.length_drop]; omega,by rw [List.getElem_drop]; congr 1; omega⟩
   have h3:=decDigits_digit _ c h2
   omega
  have hstep:∀ m,InR m → s = itoa m → ((s.drop a).take (i + 1 - a)) = ((s.drop a).take (i - a)) ++ [c]:=by
   intro m hm e
   have:i + 1 - a = (i - a) + 1:=by omega
   rw [this,List.take_add_one,List.getElem?_drop]
   have e2:a + (i - a) = i:=by omega
   rw [e2,gE hlt,← hc]; rfl
  obtain ⟨hn1,hn2⟩:=hn
  have bad:(∀ m,InR m → s ≠ itoa m) → K (.tuple #[.int .i64 0,.bool false]) w:=by
   intro h
   have h1:=canon_none s h
   have:=k 0 w (bR) (fun n e=>by rw [h1] at e; cases e)
   rw [h1] at this
   exact this
  repeat (any_goals (first
  | (with_reducible first|refine pureM_in ?_|((refine idGd ?_); first|refine zD ?_|((refine idGdD ?_); first|refine zI ?_|refine zJ ?_|refine zK (fun hg=>?_) fun hg=>?_))|((refine idPick ?_); first|refine yB ?_|refine yD ?_|refine yE ?_)|((refine idCond ?_); first|refine yL ?_|refine yN ?_|refine yP (fun hg=>?_) fun hg=>?_))
  | ((with_reducible refine oG fun X Y=>?_); simp [go_sem,hbyte]; (try simp (disch:=omega) only [wrapI64,wrapU8,wrapU32,wrapU64]); (first|refine Y _ _ ?_|refine And.intro (by omega) (Y _ _ ?_)); clear Y X)))
  ·exact bad (fun m hm e=>by have:=hfacts m hm e; omega)
  ·exact bad (fun m hm e=>by have:=hfacts m hm e; omega)
  ·exact bad (fun m hm e=>by have:=hfacts m hm e; omega)
  ·refine ⟨⟨rfl,_,i + 1,rfl,by omega,.inl hlt,wrap_range _,fun m hm e=>?_⟩,by simp; omega⟩
   have hnum:=hinv m hm e
   have hst:=hstep m hm e
   have hmono:=numL_mono (s.drop a) (i + 1 - a)
   have htot:numL (s.drop a) = m.natAbs:=by
    have h0:s.drop (sgn s) = (itoa m).drop (sgn (itoa m)):=by rw [← e]
    rw [ha,h0,itoa_drop m,numL_dec]
   rw [hst,numL_snoc] at hmono ⊢
   obtain ⟨hm1,hm2⟩:=hm
   rw [htot] at hmono
   generalize numL ((s.drop a).take (i - a)) = A at *
   rw [hnum]
   have hc1:((c.toNat - 48:Nat):Int) = (c.toNat:Int) - 48:=by omega
   rw [wrapI64 (10 * -(A:Int)) (by omega) (by omega),wrapI64 _ (by omega) (by omega)]
   omega
 ·have hfin:∀ m,InR m → s = itoa m → n = -(m.natAbs:Int):=by
   intro m hm e
   have:=hinv m hm e
   have htk:(s.drop a).take (i - a) = s.drop a:=List.take_of_length_le (by rw [List.length_drop]; omega)
   have htot:numL (s.drop a) = m.natAbs:=by
    have h0:s.drop (sgn s) = (itoa m).drop (sgn (itoa m)):=by rw [← e]
    rw [ha,h0,itoa_drop m,numL_dec]
   rw [htk,htot] at this
   exact this
  refine Xc0 ?_
  refine ⟨fun l w'=>SameW w w' ∧ ∃ v,l = [.int .i64 v] ∧ InR v ∧ ∀ m,InR m → s = itoa m → v = m,?_,?_⟩
  ·have hsm:∀ m,s = itoa m → (a = 1 ↔ m < 0):=by
    intro m e
    rw [ha,← itoa_head m,← e]
    unfold sgn
    split <;> simp_all
   repeat (any_goals (first
   | (with_reducible ((refine idCond ?_); refine yP (fun hg=>?_) fun hg=>?_))
   | ((with_reducible refine oG fun X Y=>?_); simp [go_sem]; apply Y; clear Y X)))
   ·refine ⟨rfl,_,rfl,wrap_range _,fun m hm e=>?_⟩
    have h1:=hfin m hm e
    have h2:=hsm m e
    obtain ⟨hm1,hm2⟩:=hm
    rw [wrapI64 _ (by omega) (by omega)]
    omega
   ·refine ⟨rfl,_,rfl,hn,fun m hm e=>?_⟩
    have h1:=hfin m hm e
    have h2:=hsm m e
    omega
  ·rintro _ _ _ ⟨rfl,v,rfl,hv,hvm⟩
   simp only [List.getD_cons_zero]
   refine qInt_ok v hv ?_
   intro w1 hb
   have hcan:(canon s).isSome = decide (encInt v = s ++ [59]):=by
    rw [Bool.eq_iff_iff,dE]
    unfold encInt
    rw [List.append_left_inj]
    constructor
    ·intro h
     obtain ⟨m,hm⟩:=Option.isSome_iff_exists.1 h
     obtain ⟨h1,h2⟩:=canon_some s m hm
     rw [hvm m h2 h1,← h1]
    ·intro h
     rw [← h,canon_itoa v hv]; rfl
   refine Xc0 ?_
   have:=k v w1 hb (fun m e=>by
    obtain ⟨h1,h2⟩:=canon_some s m e
    exact hvm m h2 h1)
   rw [hcan] at this
   exact this
end Go.Proofs.Cd
