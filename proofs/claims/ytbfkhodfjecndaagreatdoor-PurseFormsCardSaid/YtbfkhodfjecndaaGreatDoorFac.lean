/- Parts of the proof of the seat's statements (TcI, TcX, UpR, ShaSpec, TkSpec2, TkSpec3, JnSpec, DkSpec, DkLaw, DkLaw4, JnLaw, PuSpec, PuLaw, PuLaw2, UpH, UpI, UpA, TkP0, HPv, UpB, UpD, UpP, UpE, UpF, PuWf, HPy, UpG, UpK, UpL, UpN, UpO, HPx, HJd, HJj, JnLaw2, JnSum, JA, JB): lemmas about the given translation and plain laws. No condition of their own. -/
import Derived.Test.YtbfkhodfjecndaaGreatDoorFab
import Derived.Laws.StructEq
import Derived.Test.YtbfkhodfjecndaaGreatDoorProg
set_option linter.all false
set_option maxRecDepth 100000
namespace Go.Proofs.Cd
open Go Go.Sh Go.RowKit Go.Lib CodeSpec
theorem c5i {w w2 w3:World} {b B:Nat} {e:TypeId} {sz n:Nat} {v:Value} {xs:List Value} (h:w.grownBy w2 (some b)) (hown:w2.ownsRow B e sz v n xs) (hB:w.heap.size ≤ B) (hg:w2.grownBy w3 v.ownBlock):w.grownBy w3 (some b):=
 ⟨hg.os.trans h.os,hg.tape.trans h.tape,hg.output.trans h.output,Nat.le_trans h.size hg.size,fun i hi hne=>
  (hg.block i (lL hi h.size) (fun e=>by have:=(hown.lt i e.symm).1; omega)).trans (h.block i hi hne)⟩
theorem IsRd.own {w2 w3:World} {b B:Nat} {e:TypeId} {sz n:Nat} {v:Value} {xs:List Value} {r:Rd} (h:IsRd w2 b r) (hown:w2.ownsRow B e sz v n xs) (hB:b < B) (hg:w2.grownBy w3 v.ownBlock):IsRd w3 b r:=by
 have hlt:=h.lt
 unfold IsRd at h ⊢
 rw [hg.block b hlt (fun e=>by have:=(hown.lt b e.symm).1; omega)]
 exact h
theorem c2d {w2 w3:World} {b B:Nat} {e:TypeId} {sz n:Nat} {v:Value} {xs:List Value} (hown:w2.ownsRow B e sz v n xs) (hB:b < B) (hg:w2.grownBy w3 (some b)):w3.ownsRow B e sz v n xs:=
 hown.kept hg (by
  cases ho:v.ownBlock with
  | none=>left; rfl
  | some g=>right; intro e; cases e; have:=(hown.lt b ho).1; omega)
theorem b4w {α:Type} (one:Rd → α × Rd) (n:Nat) (r:Rd) (h:n = 0 ∨ r.bad = true):a1p one n r = ([],r):=by
 rcases h with rfl | h
 ·rfl
 ·cases n with
  | zero=>rfl
  | succ n=>unfold a1p; rw [if_pos h]
theorem b4x {α:Type} (one:Rd → α × Rd) (n:Nat) (r:Rd) (h:r.bad = false):a1p one (n + 1) r = ((one r).1 :: (a1p one n (one r).2).1,(a1p one n (one r).2).2):=by
 conv=>lhs; unfold a1p
 rw [if_neg (by simp [h])]
theorem c0d (r:Rd) (hr:r.ok) (_hb:r.bad = false):(a1s r).2 = failed ∨ (a1s r).2.rest.length < r.rest.length ∧ (a1s r).2.bad = false:=by
 rcases a7h r hr with h | ⟨v,t,h,h2,_⟩
 ·left; rw [h]
 ·right
  rw [h,h2]
  simp [a0n]
  try omega
set_option maxHeartbeats 1600000 in
theorem itemsNum_ok (b:Nat) (r:Rd) {K:VK} {w:World} (hl:LaidE w) (hb6:8 ≤ b) (hlen:r.rest.length < 2^40) (hok:r.ok) (hr:IsRd w b r)
  (k:∀ v w',IsRd w' b (a0c r).2 → w.grownBy w' (some b) → w'.ownsRow w.heap.size 3 1 v (a0c r).1.length ((a0c r).1.map intV) → K v w'):a0a Tryz.prog 129 #[.pointer (some ⟨b,0,none⟩)] K w:=by
 apply d8o
 unfold f6q
 refine Xa0 ?_
 apply d8n
 unfold f6p
 refine b3h b r 91 0 hl (by omega) hr ?_
 intro w1 hr1 hg1
 have hle:=rest_le r 91 0
 have hok1:=a7m r hok 91 0
 have hnum:a0c r = if (a0r (a1p a1s (a0e r 91 0).1.toNat (a0e r 91 0).2).2 93).bad then ([],a0r (a1p a1s (a0e r 91 0).1.toNat (a0e r 91 0).2).2 93)
  else ((a1p a1s (a0e r 91 0).1.toNat (a0e r 91 0).2).1,a0r (a1p a1s (a0e r 91 0).1.toNat (a0e r 91 0).2).2 93):=rfl
 have hnr:InR (a0e r 91 0).1:=by
  rcases a1t r 91 0 with h | ⟨n,t,h,_,h3,_⟩
  ·rw [h]; exact ⟨by simp,by simp⟩
  ·rw [h]; exact h3
 generalize (a0e r 91 0).2 = r1 at *
 generalize (a0e r 91 0).1 = n at *
 have hbw:=hr.lt
 obtain ⟨hn1,hn2⟩:=hnr
 refine ⟨fun l w'=>∃ (v:Value) (j:Int) (r':Rd) (xs:List (Int)),l = [v,.int .i64 j] ∧ -9223372036854775808 ≤ j ∧ j ≤ 9223372036854775807 ∧ IsRd w' b r' ∧ r'.ok ∧ w.grownBy w' (some b) ∧ w'.ownsRow w.heap.size 3 1 v xs.length (xs.map intV) ∧
  a1p a1s n.toNat r1 = (xs ++ (a1p a1s j.toNat r').1,(a1p a1s j.toNat r').2) ∧ (xs.length + r'.rest.length ≤ r1.rest.length + 1) ∧ (r'.bad = false → xs.length + r'.rest.length ≤ r1.rest.length),fun l _=>(match l with | [_,.int _ n]=>n.toNat | _=>0),
  ⟨_,n,r1,[],rfl,hn1,hn2,hr1,hok1,hg1,World.ownsRow_nil _ _ _ _,by simp,(by simp only [List.length_nil]; omega),by simp⟩,?_⟩
 rintro _ _ w2 ⟨v,j,r',xs,rfl,hj1,hj2,hr2,hok2,hg2,hown,hgo,hlx,hlx2⟩
 simp only [List.getD_cons_zero,List.getD_cons_succ]
 have h2:=hr2.c1
 have hl2:=hl.grown hg2 hb6
 by_cases hrun:0 < j ∧ r'.bad = false
 ·obtain ⟨hj,hbad⟩:=hrun
  rw [hbad] at h2
  have hlx2:=hlx2 hbad
  refine Xa @h2 ?_
  refine e3e (by kernel_rfl) ?_
  refine rint_ok b r' hl2 (by omega) hr2 ?_
  intro w3 hr3 hg3
  have hown3:=c2d hown hbw hg3
  have hg03:=a0l hg2 hg3
  have hz3:=hg03.size
  have hless:=c0d r' hok2 hbad
  obtain ⟨j',hj'⟩:∃ j':Nat,j.toNat = j' + 1:=⟨j.toNat - 1,by omega⟩
  have hjj:(j - 1).toNat = j':=by omega
  rw [hj',b4x _ _ _ hbad] at hgo
  have hok3:(a1s r').2.ok:=by
   rcases hless with h | ⟨_,h⟩
   ·rw [h]; exact Rd.ok_failed
   ·intro e; rw [h] at e; cases e
  have hby:(xs.length + 1) * Tryz.t3.bytes ≤ 140737488355328:=by
   have:Tryz.t3.bytes = 8:=by kernel_rfl
   rw [this]
   omega
  refine Xa0 ?_
  refine a9t (base:=w.heap.size) (n:=xs.length) (xs:=xs.map intV) (i:=Tryz.t3) (z:=.int .i64 0) (cs:=#[intV (a1s r').1]) Tryz.underlying24 (by kernel_rfl) (by kernel_rfl) rfl rfl (by simp) (by simp [Value.oneCell',intV]) hown3 (by omega) (by unfold maxLen; omega) hby ?_
  intro v' w4 ho4 hg4
  refine Xa0 ?_
  refine ⟨⟨v',j - 1,(a1s r').2,xs ++ [(a1s r').1],rfl,by omega,by omega,hr3.own hown3 hbw hg4,hok3,c5i hg03 hown3 (rL) hg4,by simpa using ho4,?_,?_,?_⟩,by simp; omega⟩
  ·rw [hjj,hgo]; simp
  ·rcases hless with h | ⟨h,_⟩
   ·rw [h,List.length_append]; simp [failed]; omega
   ·rw [List.length_append]; simp; omega
  ·intro hb
   rcases hless with h | ⟨h,_⟩
   ·rw [h] at hb; cases hb
   ·rw [List.length_append]; simp; omega
 ·have hstop:=b4w a1s j.toNat r' (by
   cases hb:r'.bad with
   | true=>right; rfl
   | false=>left; have:¬ 0 < j:=fun h=>hrun ⟨h,hb⟩; omega)
  rw [hstop,List.append_nil] at hgo
  rw [hgo] at hnum
  have rest:a0a Tryz.prog 138 #[.pointer (some ⟨b,0,none⟩),.string ⟨#[93]⟩] (fun v26_16 w=>
    oM Tryz.prog (Go.Op.nilCheck (.tmp 0)) 0 [.pointer (some ⟨b,0,none⟩)] (fun v28_17 w=>
    oM Tryz.prog (Go.Op.fieldAddr 182 (.tmp 0) 1) 0 [v28_17] (fun v29_18 w=>
    oM Tryz.prog (Go.Op.load 4 (.tmp 0)) 4 [v29_18] (fun v30_19 w=>
    a2c v30_19 (K (.slice none 0 0) w) (K v w)) w) w) w) w2:=by
   refine d1e b r' 93 hr2 ?_
   intro w3 hr3 hg3
   have h3:=hr3.c1
   have hg03:=a0l hg2 hg3
   cases hbad:(a0r r' 93).bad with
   | true=>
    rw [hbad] at hnum h3
    rw [if_pos rfl] at hnum
    refine Xa @h3 ?_
    exact k _ w3 (by rw [hnum]; exact hr3) hg03 (by rw [hnum]; exact World.ownsRow_nil _ _ _ _)
   | false=>
    rw [hbad] at hnum h3
    rw [if_neg (by simp)] at hnum
    refine Xa @h3 ?_
    exact k _ w3 (by rw [hnum]; exact hr3) hg03 (by rw [hnum]; exact c2d hown hbw hg3)
  by_cases hj:0 < j
  ·have hbad:r'.bad = true:=by
    cases hb:r'.bad with
    | true=>rfl
    | false=>exact absurd ⟨hj,hb⟩ hrun
   rw [hbad] at h2
   repeat (any_goals (first
   | (with_reducible exact rest)
   | (with_reducible first|refine a0v ?_|((refine a9c ?_); ((refine a6c ?_); refine zF ?_))|refine yD ?_|refine yM ?_)
   | ((with_reducible refine oG fun X Y=>?_); simp [go_sem,h2]; apply Y; clear Y X)))
  ·repeat (any_goals (first
   | (with_reducible exact rest)
   | (with_reducible first|((refine a9c ?_); ((refine a6c ?_); refine zG ?_))|refine yE ?_|refine yM ?_)
   | ((with_reducible refine oG fun X Y=>?_); simp [go_sem]; apply Y; clear Y X)))
end Go.Proofs.Cd
namespace Go.Proofs.Cd
open Go Go.Sh Go.RowKit Go.Lib CodeSpec
theorem pNum_ok (n:Int) (hn:InR n) {K:VK} {w:World} (hl:Laid w) (k:∀ w',Bw w w' → K (.string ⟨(a1a n).toArray⟩) w'):a0a Tryz.prog 65 #[.int .i64 n] K w:=by
 apply e8u
 unfold g5a
 repeat (any_goals (first
 | (with_reducible ((refine a1n ?_); refine yP (fun hg=>?_) fun hg=>?_))
 | ((with_reducible refine oG fun X Y=>?_); simp [go_sem]; apply Y; clear Y X)))
 ·exact K_eq (k _ (bR)) (by simp [a1a,hg])
 ·refine pInt_ok n hn hl ?_
  intro w1 hb
  exact K_eq (k _ hb) (by simp [a1a,hg])
theorem pText_ok (s:List UInt8) (hs:s.length < 2^60) {K:VK} {w:World} (hl:Laid w) (k:∀ w',Bw w w' → K (.string ⟨(a0t s).toArray⟩) w'):a0a Tryz.prog 66 #[.string ⟨s.toArray⟩] K w:=by
 apply e8t
 unfold g4z
 have hin:InR (s.length:Nat):=⟨by omega,by omega⟩
 have hi:=a4k _ hin
 refine Xc0 ?_
 refine c1w _ hin hl (fun w1 hb1=>?_)
 refine Xc0 ?_
 exact K_eq (k _ hb1) (by simp [a0t])
theorem rnum_ok (b:Nat) (r:Rd) {K:VK} {w:World} (hl:LaidE w) (hlen:r.rest.length < 2^60) (hr:IsRd w b r) (k:∀ w',IsRd w' b (a1m r).2 → w.grownBy w' (some b) → K (.int .i64 (a1m r).1) w'):a0a Tryz.prog 62 #[.pointer (some ⟨b,0,none⟩)] K w:=by
 apply e8v
 unfold g5b
 exact b3h b r 59 0 hl hlen hr k
theorem rtext_ok (b:Nat) (r:Rd) {K:VK} {w:World} (hl:LaidE w) (hlen:r.rest.length < 2^60) (hr:IsRd w b r) (k:∀ w',IsRd w' b (a0s r).2 → w.grownBy w' (some b) → K (.string ⟨(a0s r).1.toArray⟩) w'):a0a Tryz.prog 63 #[.pointer (some ⟨b,0,none⟩)] K w:=by
 apply e8w
 unfold g5c
 refine b3h b r 58 0 hl hlen hr ?_
 intro w1 hr1 hg1
 have hle:=rest_le r 58 0
 have h0n:0 ≤ (a0e r 58 0).1:=by
  rcases a1t r 58 0 with h | ⟨n,t,h,_,_,h3⟩
  ·rw [h]; exact Int.le_refl 0
  ·rw [h]; exact h3
 have hnum:a0s r = if ((a0e r 58 0).2.rest.length:Int) < (a0e r 58 0).1 then ([],failed)
   else if (a0r ⟨(a0e r 58 0).2.rest.drop (a0e r 58 0).1.toNat,(a0e r 58 0).2.bad⟩ 44).bad then ([],a0r ⟨(a0e r 58 0).2.rest.drop (a0e r 58 0).1.toNat,(a0e r 58 0).2.bad⟩ 44)
   else ((a0e r 58 0).2.rest.take (a0e r 58 0).1.toNat,a0r ⟨(a0e r 58 0).2.rest.drop (a0e r 58 0).1.toNat,(a0e r 58 0).2.bad⟩ 44):=rfl
 generalize (a0e r 58 0).2 = r1 at *
 generalize (a0e r 58 0).1 = n at *
 have h0:=hr1.c0
 have f0:=hr1.fz 0
 by_cases hlt:(r1.rest.length:Int) < n
 ·rw [if_pos hlt] at hnum
  refine Xg @h0 ?_
  refine c8p b _ hr1 ?_
  intro w2 hr2 hg2
  exact K_eq (k w2 (by rw [hnum]; exact hr2) (a0l hg1 hg2)) (by rw [hnum])
 ·rw [if_neg hlt] at hnum
  have htl:List.take r1.rest.length r1.rest = r1.rest:=List.take_length
  refine Xg (An3 @h0 @f0 @htl) ?_
  refine d1e b _ 44 (hr1.set0 _) ?_
  intro w2 hr2 hg2
  have h2:=hr2.c1
  have hg:=a0l hg1 (a0l (a4h _ _ _ _) hg2)
  cases hbad:(a0r ⟨r1.rest.drop n.toNat,r1.bad⟩ 44).bad with
  | true=>
   rw [hbad] at hnum h2
   rw [if_pos rfl] at hnum
   refine Xg @h2 ?_
   exact K_eq (k w2 (by rw [hnum]; exact hr2) hg) (by rw [hnum])
  | false=>
   rw [hbad] at hnum h2
   rw [if_neg (by simp)] at hnum
   refine Xg @h2 ?_
   exact K_eq (k w2 (by rw [hnum]; exact hr2) hg) (by rw [hnum])
end Go.Proofs.Cd
namespace Go.Proofs
open Go Go.Sh Go.RowKit FdSpec TkSpec CodeSpec
structure SRow {α:Type} (n:Nat) (At:World → Nat → Nat → α → Prop) (w:World) (v:Value) (l:List α):Prop where
 row:∃ ad c,v = .slice ad l.length c ∧ (l = [] ∨ ∃ b o,ad = some ⟨b,o,none⟩ ∧ b < w.heap.size ∧ ∀ (i:Nat) (h:i < l.length),At w b (o + i * n) l[i])
 len:l.length ≤ 9223372036854775807
def h2k {α:Type} (At:World → Nat → Nat → α → Prop):Prop:=∀ (w w':World) (b p:Nat) (x:α),At w b p x → b < w.heap.size → Bw w w' → At w' b p x
section
variable {α:Type} {n:Nat} {At:World → Nat → Nat → α → Prop} {w w':World} {v:Value} {l:List α}
theorem SRow.next (h:SRow n At w v l) (hs:h2k At) (hb:Bw w w'):SRow n At w' v l:=by
 obtain ⟨⟨ad,c,rfl,h1⟩,h2⟩:=h
 refine ⟨⟨ad,c,rfl,h1.imp id ?_⟩,h2⟩
 rintro ⟨b,o,rfl,hlt,hc⟩
 exact ⟨b,o,rfl,lL hlt hb.size,fun i hi=>hs _ _ _ _ _ (hc i hi) hlt hb⟩
theorem SRow.isSlice (h:SRow n At w v l):∃ ad c,v = .slice ad l.length c:=by
 obtain ⟨⟨ad,c,rfl,_⟩,_⟩:=h; exact ⟨ad,c,rfl⟩
theorem SRow.at {ad:Option Addr} {m c:Nat} (h:SRow n At w (.slice ad m c) l) {i:Nat} (hi:i < l.length):∃ b o,ad = some ⟨b,o,none⟩ ∧ b < w.heap.size ∧ At w b (o + i * n) l[i]:=by
 obtain ⟨⟨ad',c',hv,h1⟩,_⟩:=h
 cases hv
 rcases h1 with rfl | ⟨b,o,rfl,hlt,hc⟩
 ·simp at hi
 ·exact ⟨b,o,rfl,hlt,hc i hi⟩
end
theorem b7w {P:Program} {K:VK} {n:Nat} (t T:TypeId) (hu:P.underlying t = some (.slice (P.elem t))) (hs:∀ w,(sizeOf (P.elem t)).run P w = .ok n w) (b o m c:Nat) (x:Int) :
  oM P (.indexAddr t (.tmp 0) (.tmp 1)) T [.slice (some ⟨b,o,none⟩) m c,.int .i64 x] = onM (0 ≤ x ∧ x < m) (.pointer (some ⟨b,o + x.toNat * n,none⟩)):=by
 funext K w
 rw [a2b,run_indexAt_slice (h:=hu)]
 by_cases hi:0 ≤ x ∧ x < m
 ·rw [if_pos hi,hs]
  simp only [Result.andThen,a4n,c8l]
  exact propext ⟨fun h=>⟨hi,h⟩,fun h=>h.2⟩
 ·rw [if_neg hi]
  obtain ⟨e',w',he⟩:=c5a Value P .i64 x m .index w
  rw [he]
  exact propext ⟨fun h=>h.elim,fun h=>hi h.1⟩
section
variable {K:VK} {w w' w0 W:World} {L:List (Addr × Value)}
theorem Fr.of_below {S:Nat → Prop} {w1:World} (h:Bw w w1):Fr S w w1:=⟨h.os,h.tape,h.output,h.size,fun i hi _=>h.block i hi⟩
end
section
variable {α:Type} {n:Nat} {V:World → List Value → α → Prop} {w w':World} {v:Value} {l:List α}
theorem a1o (h:e2b V):h2k (b8b n V):=fun w w' b p x ⟨c,hc,h1,h2⟩ hlt hb=>⟨c,hc,fun j u hj=>(hb.cell hlt).trans (h1 j u hj),h _ _ _ _ h2 hb⟩
theorem c6d:e2b (g5y Ints):=fun w w' c x ⟨v,hc,hr⟩ hb=>⟨v,hc,hr.next hb⟩
theorem SRow.nil:SRow n (b8b n V) w (.slice none 0 0) ([]:List α):=⟨⟨none,0,rfl,.inl rfl⟩,by simp⟩
theorem _root_.Go.Sh.GRow.srow {e:TypeId} {B:Nat} {D:Nat → Prop} (hn:0 < n) (h:GRow n e V B D w v l) (hl:l.length ≤ 9223372036854775807):SRow n (b8b n V) w v l:=by
 obtain ⟨cs,ho,hf⟩:=h.ex
 obtain ⟨hc1,hc2⟩:=hf.here
 obtain ⟨ad,c,rfl⟩:=a2a ho
 refine ⟨⟨ad,c,rfl,?_⟩,hl⟩
 by_cases h0:l = []
 ·exact .inl h0
 right
 obtain ⟨g,cap,cur,hv,hlt,_,_,_,_,hcell⟩:=a3u ho (List.length_pos_iff.2 h0)
 cases hv
 refine ⟨g,0,rfl,hlt,fun i hi=>?_⟩
 have hci:cs[i]? = some cs[i]:=gE (by omega)
 refine ⟨cs[i].1,cs[i].2,fun j u hj=>?_,hc2 i _ _ hci (gE hi)⟩
 rw [Nat.zero_add]
 refine hcell _ _ ?_
 have hj':j < n:=by have:=(gS hj).1; rw [cs[i].2] at this; exact this
 rw [b2b (mk:=Cl.cs) (sz:=n) (fun c=>c.2) cs i j hci hj']
 exact hj
theorem _root_.Go.Sh.GRow.fp {e:TypeId} {B:Nat} {D:Nat → Prop} (hn:0 < n) (h:GRow n e V B D w v l) (hl:l.length ≤ 9223372036854775807):FP (fun i=>D i ∨ v.ownBlock = some i) w (fun w=>SRow n (b8b n V) w v l):=by
 obtain ⟨cs,ho,hf⟩:=h.ex
 intro w' a b c d e'
 have h2:GRow n e V B D w' v l:=⟨cs,a1j ho (fun i hi=>e' i (.inr hi)),fun w2 a2 b2 c2 d2 e2=>hf w2 (a2.trans a) (b2.trans b) (c2.trans c) (Nat.le_trans d d2) (fun i hi=>(e2 i hi).trans (e' i (.inl hi)))⟩
 exact h2.srow hn hl
end
section
variable {K:VK} {w w' w0 W:World} {L:List (Addr × Value)}
section
variable {α:Type} {n:Nat} {V:World → List Value → α → Prop}
theorem e4g {g c:Nat} {T:TypeId} {x y:α} {xs ys:List Value} (h:Holds w g T (xs ++ ys)) (hl:xs.length = n) (hl2:ys.length = n) (hV:V w xs x) (hV2:V w ys y):SRow n (b8b n V) w (.slice (some ⟨g,0,none⟩) 2 c) [x,y]:=by
 refine ⟨⟨_,c,rfl,.inr ⟨g,0,rfl,h.lt,fun i hi=>?_⟩⟩,by simp⟩
 match i,hi with
 | 0,_=>
  refine ⟨xs,hl,fun j u hj=>?_,hV⟩
  rw [Nat.zero_mul,Nat.zero_add,a0b h]
  simp only [List.getElem?_toArray,Nat.zero_add]
  rw [List.getElem?_append_left (gS hj).1]
  exact hj
 | 1,_=>
  refine ⟨ys,hl2,fun j u hj=>?_,hV2⟩
  rw [Nat.one_mul,a0b h]
  simp only [List.getElem?_toArray,Nat.zero_add]
  rw [List.getElem?_append_right (by omega)]
  rw [show n + j - xs.length = j by omega]
  exact hj
 | i + 2,h=>exact absurd h (by simp)
end
theorem _root_.Go.Proofs.SRow.one {α:Type} {R:World → Value → α → Prop} {ad:Option Addr} {m c:Nat} {l:List α} (h:SRow 1 (b8b 1 (g5y R)) w (.slice ad m c) l) {i:Nat} (hi:i < l.length):∃ b o v,ad = some ⟨b,o,none⟩ ∧ b < w.heap.size ∧ w.cell? ⟨b,o + i,none⟩ = some v ∧ R w v l[i]:=by
 obtain ⟨b,o,rfl,hlt,cs,hc,h1,v,rfl,h2⟩:=h.at hi
 refine ⟨b,o,v,rfl,hlt,?_,h2⟩
 have:=h1 0 v rfl
 rwa [Nat.mul_one,Nat.add_zero] at this
end
end Go.Proofs
namespace ShaSpec
end ShaSpec
namespace TkSpec
open FdSpec CodeSpec
end TkSpec
namespace TkSpec
open FdSpec CodeSpec
structure Lnk where
 ticket:Tkt
 spend:Spd
 terms:List UInt8
end TkSpec
namespace JnSpec
open CodeSpec Go.Lib
def a4c:Nat → a0h → Int
 | _,[]=>0
 | i,c :: t=>(c.toNat:Int) * (i + 1) + a4c (i + 1) t
def b2o (s:a0h):Int:=a4c 0 s
def form (s:a0h):a0h:=a0t s ++ a1a (b2o s)
def a2v (l:List a0h):a0h:=(l.map form).flatten
def d2a (s t:a0h) (n:Int):Prop:=20000 < t.length ∨ n ≠ b2o t ∨ s.length < (form t).length ∨ s.take (form t).length ≠ form t
instance (s t:a0h) (n:Int):Decidable (d2a s t n):=by unfold d2a; infer_instance
def first (s:a0h):Option a0h:=if d2a s (a0s ⟨s,false⟩).1 (a1m (a0s ⟨s,false⟩).2).1 then none else some (a0s ⟨s,false⟩).1
def recs:Nat → a0h → List a0h × Nat
 | 0,_=>([],0)
 | k + 1,s=>if s = [] then ([],0) else match first s with
  | none=>([],0)
  | some t=>(t :: (recs k (s.drop (form t).length)).1,(form t).length + (recs k (s.drop (form t).length)).2)
def readJ (s:a0h):List a0h × Nat:=recs s.length s
theorem c0n (s:a0h) (i:Nat):0 ≤ a4c i s ∧ a4c i s ≤ 255 * s.length * (i + s.length):=by
 induction s generalizing i with
 | nil=>simp [a4c]
 | cons c t ih=>
  have h:=ih (i + 1)
  have hc:(c.toNat:Int) ≤ 255:=by have:=c.toNat_lt; omega
  have h0:(0:Int) ≤ (c.toNat:Int):=by omega
  have h1:0 ≤ (c.toNat:Int) * (i + 1):=Int.mul_nonneg h0 (by omega)
  have h2:(c.toNat:Int) * (i + 1) ≤ 255 * (i + 1):=Int.mul_le_mul_of_nonneg_right hc (by omega)
  simp only [a4c,List.length_cons]
  refine ⟨by omega,?_⟩
  have h3:=h.2
  have e:(255:Int) * ((t.length + 1:Nat):Int) * ((i:Int) + ((t.length + 1:Nat):Int)) = 255 * (t.length:Int) * (((i + 1:Nat):Int) + (t.length:Int)) + 255 * ((i:Int) + 1 + (t.length:Int)):=by
   push_cast
   grind
  have e2:(0:Int) ≤ t.length:=by omega
  omega
theorem b3v (s:a0h):0 ≤ b2o s ∧ b2o s ≤ 255 * s.length * s.length:=by
 have:=c0n s 0
 simpa [b2o] using this
theorem g5n {n m:Nat} (h:n ≤ m):(255:Int) * n * n ≤ 255 * m * m:=by
 have h1:(n:Int) ≤ m:=by omega
 have h2:(n:Int) * n ≤ (m:Int) * m:=Int.mul_le_mul h1 h1 (by omega) (by omega)
 grind
theorem b1g {s:a0h} (h:s.length ≤ 16777216):InR (b2o s) ∧ 0 ≤ b2o s:=by
 have h1:=b3v s
 have h2:=g5n h
 have:(255:Int) * (16777216:Nat) * (16777216:Nat) < 9223372036854775807:=by decide
 exact ⟨⟨by omega,by omega⟩,h1.1⟩
theorem a8c (s:a0h):0 < (form s).length:=by
 simp [form,a0t]
 omega
theorem d2b {t:a0h} (ht:t.length ≤ 20000) (rest:a0h):first (form t ++ rest) = some t:=by
 have h1:form t ++ rest = a0t t ++ (a1a (b2o t) ++ rest):=by simp [form]
 have h2:=b3q t (a1a (b2o t) ++ rest) (by omega)
 have h3:=b1g (s:=t) (by omega)
 have h4:=b5x (b2o t) h3.1 h3.2 rest
 unfold first
 rw [h1,h2]
 dsimp only
 rw [h4,← h1]
 rw [if_neg]
 unfold d2a
 rintro (h | h | h | h)
 ·omega
 ·exact h rfl
 ·simp at h; omega
 ·exact h (by simp)
theorem a8s {s t:a0h} (h:first s = some t):t.length ≤ 20000 ∧ s = form t ++ s.drop (form t).length:=by
 unfold first at h
 split at h
 ·cases h
 ·rename_i hb
  simp only [Option.some.injEq] at h
  rw [h] at hb
  unfold d2a at hb
  refine ⟨by omega,?_⟩
  have:s.take (form t).length = form t:=Classical.not_not.1 (fun e=>hb (.inr (.inr (.inr e))))
  conv=>lhs; rw [← List.take_append_drop (form t).length s,this]
theorem b0o:first [] = none:=by
 cases h:first [] with
 | none=>rfl
 | some t=>
  have:=(a8s h).2
  have:=a8c t
  have e:(form t ++ List.drop (form t).length []) = []:=(a8s h).2.symm
  simp only [List.append_eq_nil_iff] at e
  rw [e.1] at this
  simp at this
theorem c3l {k:Nat} {s:a0h} (hk:s.length ≤ k):recs k s = match first s with
  | none=>([],0)
  | some t=>(t :: (readJ (s.drop (form t).length)).1,(form t).length + (readJ (s.drop (form t).length)).2):=by
 induction k using Nat.strongRecOn generalizing s with
 | ind k ih=>
 cases k with
 | zero=>
  have:s = []:=List.length_eq_zero_iff.1 (by omega)
  subst this
  rw [b0o]; rfl
 | succ k=>
  unfold recs
  split
  ·rename_i e; subst e; rw [b0o]
  ·cases h:first s with
   | none=>rfl
   | some t=>
    dsimp only
    have hp:=a8c t
    have h1:(s.drop (form t).length).length ≤ k:=by rw [List.length_drop]; omega
    have e1:=ih k (by omega) h1
    have e2:=ih (s.drop (form t).length).length (by omega) (s:=s.drop (form t).length) (Nat.le_refl _)
    have:recs k (s.drop (form t).length) = readJ (s.drop (form t).length):=e1.trans e2.symm
    rw [this]
theorem a7i {s:a0h} (h:first s = none):readJ s = ([],0):=by
 unfold readJ; rw [c3l (Nat.le_refl _),h]
theorem b1h {s t:a0h} (h:first s = some t):readJ s = (t :: (readJ (s.drop (form t).length)).1,(form t).length + (readJ (s.drop (form t).length)).2):=by
 conv=>lhs; unfold readJ
 rw [c3l (Nat.le_refl _),h]
theorem a5z (t:a0h) (l:List a0h):a2v (t :: l) = form t ++ a2v l:=by simp [a2v]
theorem a5b (l m:List a0h):a2v (l ++ m) = a2v l ++ a2v m:=by simp [a2v]
def Few (l:List a0h):Prop:=∀ t ∈ l,t.length ≤ 20000
theorem c7h {l:List a0h} (hl:Few l) (rest:a0h):readJ (a2v l ++ rest) = (l ++ (readJ rest).1,(a2v l).length + (readJ rest).2):=by
 induction l with
 | nil=>simp [a2v]
 | cons t l ih=>
  have ht:=hl t (by simp)
  have ih:=ih (fun x hx=>hl x (by simp [hx]))
  have e:a2v (t :: l) ++ rest = form t ++ (a2v l ++ rest):=by rw [a5z]; simp
  rw [e,b1h (d2b ht _)]
  have:(form t ++ (a2v l ++ rest)).drop (form t).length = a2v l ++ rest:=by simp
  rw [this,ih,a5z]
  simp [Nat.add_assoc]
theorem a6a (s:a0h):Few (readJ s).1 ∧ (readJ s).2 = (a2v (readJ s).1).length ∧ s = a2v (readJ s).1 ++ s.drop (readJ s).2 ∧ (s.drop (readJ s).2 = [] ∨ first (s.drop (readJ s).2) = none):=by
 generalize hn:s.length = n
 induction n using Nat.strongRecOn generalizing s with
 | ind n ih=>
 cases h:first s with
 | none=>
  rw [a7i h]
  exact ⟨fun t ht=>by simp at ht,rfl,by simp [a2v],.inr (by simpa using h)⟩
 | some t=>
  have h1:=a8s h
  have hp:=a8c t
  have hlen:=congrArg List.length h1.2
  rw [List.length_append] at hlen
  have h2:=ih (s.drop (form t).length).length (by rw [List.length_drop]; omega) (s.drop (form t).length) rfl
  rw [b1h h]
  dsimp only
  refine ⟨fun x hx=>?_,?_,?_,?_⟩
  ·rcases List.mem_cons.1 hx with rfl | hx
   ·exact h1.1
   ·exact h2.1 x hx
  ·rw [a5z,List.length_append,h2.2.1]
  ·rw [a5z,List.append_assoc]
   have h3:=h2.2.2.1
   rw [List.drop_drop] at h3
   conv=>lhs; rw [h1.2,h3]
  ·have h3:=h2.2.2.2
   rw [List.drop_drop] at h3
   exact h3
def Dm:a0h → a0h → Prop
 | _,[]=>True
 | [],_ :: _=>False
 | a :: x,b :: y=>(b = a ∨ b = 0) ∧ Dm x y
theorem Dm.refl:∀ x:a0h,Dm x x
 | []=>trivial
 | _ :: x=>⟨.inl rfl,Dm.refl x⟩
theorem Dm.split:∀ (p:a0h) {x y:a0h},Dm x (p ++ y) → ∃ q x',x = q ++ x' ∧ q.length = p.length ∧ Dm q p ∧ Dm x' y
 | [],x,_,h=>⟨[],x,rfl,rfl,trivial,h⟩
 | b :: p,[],_,h=>by cases h
 | b :: p,a :: x,y,h=>by
  obtain ⟨q,x',e,l,d,r⟩:=Dm.split p h.2
  exact ⟨a :: q,x',by rw [e]; rfl,by simp [l],⟨h.1,d⟩,r⟩
theorem Dm.solid:∀ {q p:a0h},Dm q p → q.length = p.length → (∀ c ∈ p,c ≠ 0) → q = p
 | [],[],_,_,_=>rfl
 | a :: q,[],_,l,_=>by simp at l
 | [],b :: p,h,_,_=>by cases h
 | a :: q,b :: p,h,l,hn=>by
  have:b = a:=h.1.resolve_right (hn b (by simp))
  rw [this,Dm.solid h.2 (by simpa using l) (fun c hc=>hn c (by simp [hc]))]
theorem Dm.sum_le:∀ {x y:a0h} (i:Nat),Dm x y → x.length = y.length → a4c i y ≤ a4c i x ∧ (a4c i y = a4c i x → y = x)
 | [],[],_,_,_=>⟨by simp,fun _=>rfl⟩
 | _ :: _,[],_,_,l=>by simp at l
 | [],_ :: _,_,h,_=>by cases h
 | a :: x,b :: y,i,h,l=>by
  obtain ⟨h1,h2⟩:=Dm.sum_le (i + 1) h.2 (by simpa using l)
  simp only [a4c]
  have ha:(0:Int) ≤ (a.toNat:Int) * (i + 1):=Int.mul_nonneg (by omega) (by omega)
  rcases h.1 with e | e
  ·subst e
   exact ⟨by omega,fun e2=>by rw [h2 (by omega)]⟩
  ·subst e
   have z:((0:UInt8).toNat:Int) * (i + 1) = 0:=by simp
   rw [z]
   refine ⟨by omega,fun e2=>?_⟩
   have e3:(a.toNat:Int) * (i + 1) = 0:=by omega
   have e4:(a.toNat:Int) = 0:=by
    rcases Int.mul_eq_zero.1 e3 with h | h
    ·exact h
    ·omega
   have e5:a = 0:=by
    apply UInt8.toNat_inj.1
    have:(0:UInt8).toNat = 0:=rfl
    omega
   rw [h2 (by omega),e5]
theorem f7p {c:UInt8}:∀ {a b x y:a0h},(∀ d ∈ a,d ≠ c) → (∀ d ∈ b,d ≠ c) → a ++ c :: x = b ++ c :: y → a = b ∧ x = y
 | [],[],_,_,_,_,h=>⟨rfl,by simpa using h⟩
 | [],d :: b,_,_,_,hb,h=>by
  simp only [List.nil_append,List.cons_append,List.cons.injEq] at h
  exact absurd h.1.symm (hb d (by simp))
 | d :: a,[],_,_,ha,_,h=>by
  simp only [List.nil_append,List.cons_append,List.cons.injEq] at h
  exact absurd h.1 (ha d (by simp))
 | d :: a,e :: b,_,_,ha,hb,h=>by
  simp only [List.cons_append,List.cons.injEq] at h
  obtain ⟨h1,h2⟩:=f7p (fun d hd=>ha d (by simp [hd])) (fun d hd=>hb d (by simp [hd])) h.2
  exact ⟨by rw [h.1,h1],h2⟩
theorem b5u (n:Int):∀ c ∈ itoa n,c = 45 ∨ (48 ≤ c.toNat ∧ c.toNat ≤ 57):=by
 unfold itoa
 split
 ·intro c hc
  rcases List.mem_cons.1 hc with rfl | hc
  ·exact .inl rfl
  ·exact .inr (a2p _ c hc)
 ·intro c hc
  exact .inr (a2p _ c hc)
theorem c7i (n:Int) (d:UInt8) (h1:d ≠ 45) (h2:¬ (48 ≤ d.toNat ∧ d.toNat ≤ 57)):∀ c ∈ itoa n,c ≠ d:=by
 intro c hc e
 subst e
 rcases b5u n c hc with h | h
 ·exact h1 h
 ·exact h2 h
theorem e9t {n m:Int} (hn:InR n) (hm:InR m) (h:itoa n = itoa m):n = m:=by
 have h1:=b5t n hn
 have h2:=b5t m hm
 rw [h,h2] at h1
 cases h1; rfl
theorem b3w {s:a0h}:form s = (itoa s.length ++ [58]) ++ (s ++ (44 :: (itoa (b2o s) ++ [59]))):=by
 have:¬ b2o s < 0:=by have:=(b3v s).1; omega
 simp [form,a0t,a1a,a0n,this]
theorem Dm.head {n m:Int} {c:UInt8} {x y:a0h} (hn:InR n) (hm:InR m) (hc:c ≠ 0 ∧ c ≠ 45 ∧ ¬ (48 ≤ c.toNat ∧ c.toNat ≤ 57)) (h:Dm (itoa n ++ c :: x) (itoa m ++ c :: y)):n = m ∧ Dm x y:=by
 have e:itoa m ++ c :: y = (itoa m ++ [c]) ++ y:=by simp
 rw [e] at h
 obtain ⟨q,x',e1,l,d,r⟩:=Dm.split _ h
 have hs:=d.solid l (fun b hb=>by
  rcases List.mem_append.1 hb with hb | hb
  ·exact c7i m 0 (by decide) (by decide) b hb
  ·simp only [List.mem_singleton] at hb
   rw [hb]; exact hc.1)
 rw [hs,List.append_assoc] at e1
 obtain ⟨e2,e3⟩:=f7p (c7i n c hc.2.1 hc.2.2) (c7i m c hc.2.1 hc.2.2) e1
 exact ⟨e9t hn hm e2,by rw [e3]; exact r⟩
theorem Dm.form {t u:a0h} {x y:a0h} (ht:t.length ≤ 16777216) (hu:u.length ≤ 16777216) (h:Dm (form t ++ x) (form u ++ y)):u = t ∧ Dm x y:=by
 rw [b3w,b3w] at h
 have h:Dm (itoa t.length ++ 58 :: (t ++ 44 :: (itoa (b2o t) ++ 59 :: x))) (itoa u.length ++ 58 :: (u ++ 44 :: (itoa (b2o u) ++ 59 :: y))):=by simpa using h
 obtain ⟨e1,h⟩:=Dm.head ⟨by omega,by omega⟩ ⟨by omega,by omega⟩ (by decide) h
 obtain ⟨q,x',e2,l2,d2,h⟩:=Dm.split u h
 obtain ⟨e3,e4⟩:=List.append_inj e2 (by omega)
 subst e3
 subst e4
 have h:=h.2
 obtain ⟨e5,h⟩:=Dm.head (b1g ht).1 (b1g hu).1 (by decide) h
 exact ⟨(d2.sum_le 0 l2).2 e5.symm,h⟩
theorem Dm.readJ {l:List a0h} (hl:Few l) {y:a0h} (h:Dm (a2v l) y):(readJ y).1 <+: l:=by
 induction l generalizing y with
 | nil=>
  cases y with
  | nil=>rw [a7i b0o]; exact List.nil_prefix
  | cons b y=>cases h
 | cons t l ih=>
  cases hf:first y with
  | none=>rw [a7i hf]; exact List.nil_prefix
  | some u=>
   have h1:=a8s hf
   rw [b1h hf]
   rw [h1.2,a5z] at h
   have ht:=hl t (by simp)
   obtain ⟨e,h2⟩:=Dm.form (by omega) (by omega) h
   have:=ih (fun x hx=>hl x (by simp [hx])) h2
   subst e
   exact (List.cons_prefix_cons).2 ⟨rfl,this⟩
end JnSpec
namespace DkSpec
abbrev Bs:=List UInt8
def b0f (s:Bs) (at_:Nat) (t:Bs):Bs:=
 if t = [] then s else (s ++ List.replicate (at_ + t.length - s.length) 0).take at_ ++ t ++ (s ++ List.replicate (at_ + t.length - s.length) 0).drop (at_ + t.length)
structure Ab where
 F:Int → Bs × Bs
 queue:List (Int × Int)
 lost:Int
 down:Bool
 armed:Int
 keep:List Int
def b1c (F:Int → Bs × Bs) (f:Int) (x:Bs × Bs):Int → Bs × Bs:=fun g=>if g = f then x else F g
def b5b (f:Int):List (Int × Int) → List Int → List (Int × Int)
 | q,[]=>q
 | q,n :: ns=>b5b f (if (f,n) ∈ q then q else q ++ [(f,n)]) ns
def g2d (at_ len:Nat):List Int:=(List.range' (at_ / 64) ((at_ + len - 1) / 64 + 1 - at_ / 64)).map Int.ofNat
def c6s:Ab:=⟨fun _=>([],[]),[],0,false,0,[]⟩
def b8u (A:Ab) (f:Int):Int:=if A.down = true then 8 else if f < 0 ∨ 16 ≤ f then 1 else 0
def b8v (A:Ab) (f:Int) (at_:Nat) (s:Bs):Ab:=if s = [] then A else { A with F:=b1c A.F f (b0f (A.F f).1 at_ s,(A.F f).2),queue:=b5b f A.queue (g2d at_ s.length) }
def wrA (A:Ab) (f at_:Int) (s:Bs):Int × Ab:=
 if b8u A f ≠ 0 then (b8u A f,A) else if at_ < 0 then (1,A) else if 16777216 < at_ + s.length then (6,A) else (0,b8v A f at_.toNat s)
def sector (s:Bs) (n:Int):Bs:=(s.drop (64 * n).toNat).take 64
def a6h (keep:List Int) (F:Int → Bs × Bs) (i:Nat) (p:Int × Int):Int → Bs × Bs:=
 if keep = [] ∨ keep.getD (i % keep.length) 0 % 2 = 0 ∨ ((F p.1).1.length:Int) ≤ 64 * p.2 then F else b1c F p.1 ((F p.1).1,b0f (F p.1).2 (64 * p.2).toNat (sector (F p.1).1 p.2))
def a2z (keep:List Int):(Int → Bs × Bs) → Nat → List (Int × Int) → Int → Bs × Bs
 | F,_,[]=>F
 | F,i,p :: q=>a2z keep (a6h keep F i p) (i + 1) q
def a4p (A:Ab) (keep:List Int):Ab:=
 if A.down = true then A else { A with F:=fun f=>((a2z keep A.F 0 A.queue f).2,(a2z keep A.F 0 A.queue f).2),queue:=[],down:=true,armed:=0 }
def a4b (A:Ab):Bool × Ab:=if A.down = true ∨ A.armed = 0 then (false,A) else (decide (A.armed = 1),{ A with armed:=A.armed - 1 })
def a3v (A:Ab) (f:Int) (s:Bs):Ab:={ A with F:=b1c A.F f (s,s),queue:=A.queue.filter (fun p=>decide (p.1 ≠ f)) }
def a1g (A:Ab):Ab:=if (a4b A).1 = true then a4p (a4b A).2 (a4b A).2.keep else (a4b A).2
def a7n (A:Ab) (f at_:Int) (s:Bs):Int × Ab:=
 if (a4b A).1 = true then (8,a4p (wrA (a4b A).2 f at_ s).2 (wrA (a4b A).2 f at_ s).2.keep) else wrA (a4b A).2 f at_ s
def a3y (A:Ab) (f:Int):Int × Ab:=
 if b8u (a1g A) f ≠ 0 then (b8u (a1g A) f,a1g A) else if 0 < (a1g A).lost then (9,{ a1g A with lost:=(a1g A).lost - 1 }) else (0,a3v (a1g A) f ((a1g A).F f).1)
def a5a (A:Ab) (f n:Int):Int × Ab:=
 if b8u (a1g A) f ≠ 0 then (b8u (a1g A) f,a1g A) else if n < 0 ∨ (((a1g A).F f).1.length:Int) < n then (1,a1g A) else (0,a3v (a1g A) f (((a1g A).F f).1.take n.toNat))
def b2k (A:Ab):Ab:={ A with down:=false }
def b2l (A:Ab) (f at_ size:Int):Bs × Int:=
 if b8u A f ≠ 0 then ([],b8u A f) else if at_ < 0 ∨ size < 0 then ([],1) else (((A.F f).1.drop at_.toNat).take size.toNat,0)
structure WF (A:Ab):Prop where
 l0:0 ≤ A.lost
 l1:A.lost < 2 ^ 63
 a0:0 ≤ A.armed
 a1:A.armed < 2 ^ 63
 nd:A.queue.Nodup
 qr:∀ p ∈ A.queue,0 ≤ p.1 ∧ p.1 < 16 ∧ 0 ≤ p.2 ∧ p.2 < 262144
 sz:∀ f,(A.F f).1.length ≤ 16777216 ∧ (A.F f).2.length ≤ 16777216
 kr:∀ x ∈ A.keep,-2 ^ 63 ≤ x ∧ x < 2 ^ 63
 kl:A.keep.length < 2 ^ 62
theorem d4h (l:List Nat) (n:Nat) (hn:l.Nodup) (h:∀ x ∈ l,x < n):l.length ≤ n:=by
 induction n generalizing l with
 | zero=>
  cases l with
  | nil=>simp
  | cons x l=>exact absurd (h x (List.mem_cons_self ..)) (by omega)
 | succ n ih=>
  by_cases hm:n ∈ l
  ·have:=ih (l.erase n) (hn.erase n) (fun x hx=>by
    have h1:=(hn.mem_erase_iff).1 hx
    have:=h x h1.2
    have:=h1.1
    omega)
   rw [List.length_erase_of_mem hm] at this
   omega
  ·have:=ih l hn (fun x hx=>by
    have:=h x hx
    have:x ≠ n:=fun e=>hm (e ▸ hx)
    omega)
   omega
theorem WF.ql {A:Ab} (h:WF A):A.queue.length ≤ 4194304:=by
 have hm:(A.queue.map (fun p=>(p.1 * 262144 + p.2).toNat)).Nodup:=by
  have hq:=h.qr
  have hn:=h.nd
  generalize A.queue = q at hq hn
  induction q with
  | nil=>simp
  | cons p q ih=>
   rw [List.nodup_cons] at hn
   rw [List.map_cons,List.nodup_cons]
   refine ⟨?_,ih (fun x hx=>hq x (List.mem_cons_of_mem _ hx)) hn.2⟩
   intro hm
   obtain ⟨x,hx,e⟩:=List.mem_map.1 hm
   have h1:=hq x (List.mem_cons_of_mem _ hx)
   have h2:=hq p (List.mem_cons_self ..)
   have:x = p:=by
    obtain ⟨a,b⟩:=x
    obtain ⟨c,d⟩:=p
    simp only [Prod.mk.injEq] at *
    omega
   exact hn.1 (this ▸ hx)
 have:=d4h _ 4194304 hm (fun x hx=>by
  obtain ⟨p,hp,rfl⟩:=List.mem_map.1 hx
  have:=h.qr p hp
  omega)
 simpa using this
theorem a5x (s:Bs) (a:Nat) (t:Bs):(b0f s a t).length = if t = [] then s.length else max s.length (a + t.length):=by
 unfold b0f
 split
 ·rfl
 ·simp only [List.length_append,List.length_take,List.length_drop,List.length_replicate]
  omega
theorem d4i (f:Int) (ns:List Int) (q:List (Int × Int)) (p:Int × Int):p ∈ b5b f q ns ↔ p ∈ q ∨ (p.1 = f ∧ p.2 ∈ ns):=by
 induction ns generalizing q with
 | nil=>simp [b5b]
 | cons n ns ih=>
  unfold b5b
  rw [ih]
  have e:p = (f,n) ↔ p.1 = f ∧ p.2 = n:=Prod.ext_iff
  have h1:p ∈ (if (f,n) ∈ q then q else q ++ [(f,n)]) ↔ p ∈ q ∨ (p.1 = f ∧ p.2 = n):=by
   rw [← e]
   split
   ·rename_i hm
    exact ⟨.inl,fun h=>h.elim id (fun e=>e ▸ hm)⟩
   ·rw [List.mem_append,List.mem_singleton]
  rw [h1,List.mem_cons]
  grind
theorem c6t (f:Int) (ns:List Int) (q:List (Int × Int)) (h:q.Nodup):(b5b f q ns).Nodup:=by
 induction ns generalizing q with
 | nil=>exact h
 | cons n ns ih=>
  unfold b5b
  apply ih
  split
  ·exact h
  ·rename_i hm
   rw [List.nodup_append]
   refine ⟨h,by simp,?_⟩
   intro a ha b hb
   simp only [List.mem_singleton] at hb
   subst hb
   rintro rfl
   exact hm ha
theorem e5r (a len:Nat) (n:Int) (hl:0 < len):n ∈ g2d a len ↔ 0 ≤ n ∧ (a / 64:Nat) ≤ n ∧ n ≤ ((a + len - 1) / 64:Nat):=by
 unfold g2d
 simp only [List.mem_map,List.mem_range'_1]
 constructor
 ·rintro ⟨k,hk,rfl⟩
  simp only [Int.ofNat_eq_natCast]
  omega
 ·rintro ⟨h0,h1,h2⟩
  refine ⟨n.toNat,by omega,?_⟩
  simp only [Int.ofNat_eq_natCast]
  omega
theorem a3d (F:Int → Bs × Bs) (f:Int) (x:Bs × Bs):b1c F f x f = x:=by simp [b1c]
theorem b3r (F:Int → Bs × Bs) (f g:Int) (x:Bs × Bs) (h:g ≠ f):b1c F f x g = F g:=by simp [b1c,h]
theorem d4j:WF c6s:=⟨by decide,by decide,by decide,by decide,by simp [c6s],by simp [c6s],by simp [c6s],by simp [c6s],by simp [c6s]⟩
theorem c6u {A:Ab} {f:Int} (h:b8u A f = 0):A.down = false ∧ 0 ≤ f ∧ f < 16:=by
 unfold b8u at h
 cases hd:A.down with
 | true=>rw [hd] at h; simp at h
 | false=>
  rw [hd] at h
  simp only [Bool.false_eq_true,if_false] at h
  split at h
  ·cases h
  ·exact ⟨rfl,by omega,by omega⟩
theorem f8n {A:Ab} (h:WF A) (f:Int) (a:Nat) (s:Bs) (hf:0 ≤ f ∧ f < 16) (hs:a + s.length ≤ 16777216):WF (b8v A f a s):=by
 unfold b8v
 split
 ·exact h
 ·rename_i hne
  have hl:0 < s.length:=List.length_pos_iff.2 hne
  refine ⟨h.l0,h.l1,h.a0,h.a1,c6t f _ _ h.nd,?_,?_,h.kr,h.kl⟩
  ·intro p hp
   rcases (d4i f _ _ p).1 hp with hp | ⟨h1,h2⟩
   ·exact h.qr p hp
   ·rw [e5r _ _ _ hl] at h2
    omega
  ·intro g
   by_cases hg:g = f
   ·subst hg
    show (b1c A.F g _ g).1.length ≤ _ ∧ (b1c A.F g _ g).2.length ≤ _
    rw [a3d,a5x,if_neg hne]
    have:=h.sz g
    exact ⟨by show max _ _ ≤ _; omega,this.2⟩
   ·show (b1c A.F f _ g).1.length ≤ _ ∧ (b1c A.F f _ g).2.length ≤ _
    rw [b3r _ _ _ _ hg]
    exact h.sz g
theorem b5h {A:Ab} (h:WF A):WF (a4b A).2:=by
 unfold a4b
 split
 ·exact h
 ·rename_i hn
  have h0:=h.a0
  have h1:=h.a1
  have:¬ A.armed = 0:=fun e=>hn (.inr e)
  exact ⟨h.l0,h.l1,by show 0 ≤ A.armed - 1; omega,by show A.armed - 1 < _; omega,h.nd,h.qr,h.sz,h.kr,h.kl⟩
theorem e5s (keep:List Int) (F:Int → Bs × Bs) (i:Nat) (p:Int × Int) (hp:0 ≤ p.2) (h:∀ f,(F f).1.length ≤ 16777216 ∧ (F f).2.length ≤ 16777216) (f:Int):(a6h keep F i p f).1 = (F f).1 ∧ (a6h keep F i p f).2.length ≤ 16777216:=by
 unfold a6h
 split
 ·exact ⟨rfl,(h f).2⟩
 ·rename_i hn
  by_cases hf:f = p.1
  ·subst hf
   rw [a3d]
   refine ⟨rfl,?_⟩
   simp only [a5x,sector]
   have h1:=h p.1
   have:¬ ((F p.1).1.length:Int) ≤ 64 * p.2:=fun e=>hn (.inr (.inr e))
   split
   ·exact h1.2
   ·simp only [List.length_take,List.length_drop]
    omega
  ·rw [b3r _ _ _ _ hf]
   exact ⟨rfl,(h f).2⟩
theorem d1p (keep:List Int) (q:List (Int × Int)) (F:Int → Bs × Bs) (i:Nat) (hq:∀ p ∈ q,0 ≤ p.2) (h:∀ f,(F f).1.length ≤ 16777216 ∧ (F f).2.length ≤ 16777216) (f:Int):(a2z keep F i q f).1 = (F f).1 ∧ (a2z keep F i q f).2.length ≤ 16777216:=by
 induction q generalizing F i with
 | nil=>exact ⟨rfl,(h f).2⟩
 | cons p q ih=>
  unfold a2z
  have h1:=e5s keep F i p (hq p (List.mem_cons_self ..)) h
  have:=ih (a6h keep F i p) (i + 1) (fun x hx=>hq x (List.mem_cons_of_mem _ hx)) (fun g=>⟨by rw [(h1 g).1]; exact (h g).1,(h1 g).2⟩)
  exact ⟨by rw [this.1,(h1 f).1],this.2⟩
theorem c2w {A:Ab} (h:WF A) (keep:List Int):WF (a4p A keep):=by
 unfold a4p
 split
 ·exact h
 ·refine ⟨h.l0,h.l1,Int.le_refl _,by show (0:Int) < _; omega,List.nodup_nil,fun p hp=>absurd hp (by simp),?_,h.kr,h.kl⟩
  intro f
  have:=d1p keep A.queue A.F 0 (fun p hp=>(h.qr p hp).2.2.1) h.sz f
  exact ⟨this.2,this.2⟩
theorem b1d {A:Ab} (h:WF A) (f:Int) (s:Bs) (hs:s.length ≤ 16777216):WF (a3v A f s):=by
 refine ⟨h.l0,h.l1,h.a0,h.a1,h.nd.filter _,fun p hp=>h.qr p (List.mem_filter.1 hp).1,?_,h.kr,h.kl⟩
 intro g
 show (b1c A.F f _ g).1.length ≤ _ ∧ (b1c A.F f _ g).2.length ≤ _
 by_cases hg:g = f
 ·subst hg; rw [a3d]; exact ⟨hs,hs⟩
 ·rw [b3r _ _ _ _ hg]; exact h.sz g
theorem c2x {A:Ab} (h:WF A):WF (a1g A):=by
 unfold a1g
 split
 ·exact c2w (b5h h) _
 ·exact b5h h
theorem c9j {A:Ab} (h:WF A) (f:Int):WF (a3y A f).2:=by
 have h1:=c2x h
 unfold a3y
 split
 ·exact h1
 ·split
  ·rename_i hl
   have:=h1.l1
   exact ⟨by show 0 ≤ (a1g A).lost - 1; omega,by show (a1g A).lost - 1 < _; omega,h1.a0,h1.a1,h1.nd,h1.qr,h1.sz,h1.kr,h1.kl⟩
  ·exact b1d h1 f _ (h1.sz f).1
theorem d4k {A:Ab} (h:WF A) (f n:Int):WF (a5a A f n).2:=by
 have h1:=c2x h
 unfold a5a
 split
 ·exact h1
 ·split
  ·exact h1
  ·refine b1d h1 f _ ?_
   have:=(h1.sz f).1
   simp only [List.length_take]
   omega
theorem d4l {A:Ab} (h:WF A):WF (b2k A):=⟨h.l0,h.l1,h.a0,h.a1,h.nd,h.qr,h.sz,h.kr,h.kl⟩
end DkSpec
namespace DkSpec
def h1b (f:Int) (s:Bs) (A:Ab):Prop:=A.F f = (s,s) ∧ ∀ p ∈ A.queue,p.1 ≠ f
theorem e5o (keep:List Int) (F:Int → Bs × Bs) (i:Nat) (p:Int × Int) (f:Int) (h:p.1 ≠ f):a6h keep F i p f = F f:=by
 unfold a6h
 split
 ·rfl
 ·exact b3r _ _ _ _ (Ne.symm h)
variable {f:Int} {s:Bs} {A:Ab}
theorem a5w (A:Ab):(a4b A).2.F = A.F ∧ (a4b A).2.down = A.down ∧ (a4b A).2.queue = A.queue ∧ (a4b A).2.lost = A.lost ∧ (a4b A).2.keep = A.keep:=by
 unfold a4b
 split
 ·exact ⟨rfl,rfl,rfl,rfl,rfl⟩
 ·exact ⟨rfl,rfl,rfl,rfl,rfl⟩
theorem c6q (A:Ab) (keep:List Int):(a4p A keep).down = true:=by
 unfold a4p
 split
 ·assumption
 ·rfl
theorem c2u {A:Ab} (h:(a1g A).down = false):a1g A = (a4b A).2 ∧ (a4b A).1 = false:=by
 unfold a1g at h ⊢
 cases he:(a4b A).1 with
 | true=>rw [he] at h; simp [c6q] at h
 | false=>simp
theorem e5p (s:Bs) (h:s.length ≤ 16777216):((s.drop (0:Int).toNat).take (16777216:Int).toNat) = s:=by
 simp only [Int.toNat_zero,List.drop_zero]
 exact List.take_of_length_le (by omega)
theorem c2v {A:Ab} (h:WF A) {f:Int} (hm:b8u A f = 0):b2l A f 0 16777216 = ((A.F f).1,0):=by
 unfold b2l
 rw [if_neg (by omega),if_neg (by omega),e5p _ (h.sz f).1]
theorem b1v {A:Ab} {f:Int} (h:A.down = false) (hf:0 ≤ f ∧ f < 16):b8u A f = 0:=by
 unfold b8u
 rw [h]
 simp only [Bool.false_eq_true,if_false]
 rw [if_neg (by omega)]
theorem d4f {A:Ab} (hw:WF A) {f:Int} (h:(a3y A f).1 = 0):0 ≤ f ∧ f < 16 ∧ (a3y A f).2.down = false ∧ h1b f (A.F f).1 (a3y A f).2 ∧ b2l A f 0 16777216 = ((A.F f).1,0) ∧ b2l (a3y A f).2 f 0 16777216 = ((A.F f).1,0):=by
 have hwf:=c9j hw f
 unfold a3y at h hwf ⊢
 by_cases hm:b8u (a1g A) f ≠ 0
 ·rw [if_pos hm] at h
  exact absurd h hm
 ·rw [if_neg hm] at h hwf ⊢
  have hm0:=Decidable.not_not.1 hm
  have h1:=c6u hm0
  have h2:=(c2u h1.1).1
  have h3:=a5w A
  by_cases hl:0 < (a1g A).lost
  ·rw [if_pos hl] at h; cases h
  ·rw [if_neg hl] at h hwf ⊢
   have hF:(a1g A).F = A.F:=by rw [h2]; exact h3.1
   have hd:A.down = false:=by
    have:=h1.1
    rw [h2,h3.2.1] at this
    exact this
   have hds:(a3v (a1g A) f ((a1g A).F f).1).down = false:=h1.1
   have hfi:h1b f (A.F f).1 (a3v (a1g A) f ((a1g A).F f).1):=by
    refine ⟨?_,?_⟩
    ·show b1c (a1g A).F f _ f = _
     rw [a3d,hF]
    ·intro p hp
     have:=(List.mem_filter.1 hp).2
     simpa using this
   refine ⟨h1.2.1,h1.2.2,hds,hfi,c2v hw (b1v hd h1.2),?_⟩
   show b2l (a3v (a1g A) f ((a1g A).F f).1) f 0 16777216 = _
   rw [c2v hwf (b1v hds h1.2),hfi.1]
end DkSpec
namespace DkSpec
theorem b8d (s:Bs) (a n j:Nat):((s.drop a).take n).getD j 0 = if j < n then s.getD (a + j) 0 else 0:=by
 simp only [List.getD_eq_getElem?_getD]
 split
 ·rename_i h
  rw [List.getElem?_take_of_lt h,List.getElem?_drop]
 ·rename_i h
  rw [List.getElem?_eq_none (by simp only [List.length_take]; omega)]
  rfl
theorem d4g (s t:Bs) (a j:Nat):(b0f s a t).getD j 0 = if a ≤ j ∧ j < a + t.length then t.getD (j - a) 0 else s.getD j 0:=by
 unfold b0f
 by_cases ht:t = []
 ·subst ht
  rw [if_pos rfl,if_neg (by simp)]
 ·rw [if_neg ht]
  have hl:(s ++ List.replicate (a + t.length - s.length) 0).length ≥ a + t.length:=by simp; omega
  generalize hp:s ++ List.replicate (a + t.length - s.length) (0:UInt8) = p at *
  have hpj:p.getD j 0 = s.getD j 0:=by
   rw [← hp]
   simp only [List.getD_eq_getElem?_getD]
   by_cases hj:j < s.length
   ·rw [List.getElem?_append_left hj]
   ·rw [List.getElem?_append_right (by omega),List.getElem?_eq_none (l:=s) (by omega)]
    by_cases h2:j - s.length < a + t.length - s.length
    ·rw [List.getElem?_replicate_of_lt h2]; rfl
    ·rw [List.getElem?_eq_none (by simp; omega)]
  have hta:(p.take a).length = a:=by simp; omega
  have ht2:(p.take a ++ t).length = a + t.length:=by simp; omega
  rw [← hpj]
  simp only [List.getD_eq_getElem?_getD]
  by_cases h1:j < a
  ·rw [if_neg (by omega),List.getElem?_append_left (by rw [ht2]; omega),List.getElem?_append_left (by rw [hta]; exact h1),List.getElem?_take_of_lt h1]
  ·by_cases h2:j < a + t.length
   ·rw [if_pos ⟨by omega,h2⟩,List.getElem?_append_left (by rw [ht2]; exact h2),List.getElem?_append_right (by rw [hta]; omega),hta]
   ·rw [if_neg (by omega),List.getElem?_append_right (by rw [ht2]; omega),ht2,List.getElem?_drop]
    congr 2
    omega
def putAll (now:Bs) (r:Bs):List Nat → Bs
 | []=>r
 | n :: ns=>putAll now (b0f r (64 * n) (sector now n)) ns
theorem d1o (now:Bs) (n:Nat):(sector now n).length = min 64 (now.length - 64 * n):=by
 unfold sector
 simp only [List.length_take,List.length_drop]
 omega
theorem c6r (now:Bs) (n j:Nat) (h:j < 64):(sector now n).getD j 0 = now.getD (64 * n + j) 0:=by
 unfold sector
 rw [b8d,if_pos h]
 congr 1
def e5q (keep:List Int) (now:Bs) (f:Int):Nat → List (Int × Int) → List Nat
 | _,[]=>[]
 | i,p :: q=>if p.1 = f ∧ ¬ (keep = [] ∨ keep.getD (i % keep.length) 0 % 2 = 0 ∨ (now.length:Int) ≤ 64 * p.2) then p.2.toNat :: e5q keep now f (i + 1) q else e5q keep now f (i + 1) q
theorem b8e (keep:List Int) (q:List (Int × Int)) (F:Int → Bs × Bs) (i:Nat) (f:Int) (hq:∀ p ∈ q,0 ≤ p.2):(a2z keep F i q f).2 = putAll (F f).1 (F f).2 (e5q keep (F f).1 f i q):=by
 induction q generalizing F i with
 | nil=>rfl
 | cons p q ih=>
  unfold a2z e5q
  rw [ih _ _ (fun r hr=>hq r (List.mem_cons_of_mem _ hr))]
  have hp:=hq p (List.mem_cons_self ..)
  by_cases hf:p.1 = f
  ·subst hf
   by_cases hc:keep = [] ∨ keep.getD (i % keep.length) 0 % 2 = 0 ∨ ((F p.1).1.length:Int) ≤ 64 * p.2
   ·have:a6h keep F i p = F:=by unfold a6h; rw [if_pos hc]
    rw [this,if_neg (fun h=>h.2 hc)]
   ·have hs:a6h keep F i p = b1c F p.1 ((F p.1).1,b0f (F p.1).2 (64 * p.2).toNat (sector (F p.1).1 p.2)):=by unfold a6h; rw [if_neg hc]
    rw [hs,a3d,if_pos ⟨rfl,hc⟩]
    obtain ⟨m,hm⟩:=Int.eq_ofNat_of_zero_le hp
    rw [hm]
    simp only [Int.toNat_natCast,putAll]
    rw [show (64 * (m:Int)).toNat = 64 * m by omega]
  ·rw [if_neg (fun h=>hf h.1)]
   have:=e5o keep F i p f hf
   rw [this]
end DkSpec
namespace JnSpec
open CodeSpec DkSpec
theorem Dm.iff:∀ {x y:a0h},Dm x y ↔ y.length ≤ x.length ∧ ∀ i:Nat,y.getD i 0 = x.getD i 0 ∨ y.getD i 0 = 0
 | x,[]=>by simp [Dm]
 | [],b :: y=>by simp [Dm]
 | a :: x,b :: y=>by
  unfold Dm
  rw [Dm.iff (x:=x) (y:=y)]
  constructor
  ·rintro ⟨h1,h2,h3⟩
   refine ⟨by simp only [List.length_cons]; omega,fun i=>?_⟩
   cases i with
   | zero=>simpa using h1
   | succ i=>simpa using h3 i
  ·rintro ⟨h1,h2⟩
   refine ⟨by simpa using h2 0,by simpa using h1,fun i=>by simpa using h2 (i + 1)⟩
theorem c7g:∀ {p z:a0h},p <+: z ↔ p.length ≤ z.length ∧ ∀ i:Nat,i < p.length → z.getD i 0 = p.getD i 0
 | [],z=>by simp
 | a :: p,[]=>by simp
 | a :: p,b :: z=>by
  rw [List.cons_prefix_cons,c7g (p:=p) (z:=z)]
  constructor
  ·rintro ⟨h1,h2,h3⟩
   refine ⟨by simp only [List.length_cons]; omega,fun i hi=>?_⟩
   cases i with
   | zero=>simpa using h1.symm
   | succ i=>simpa using h3 i (by simpa using hi)
  ·rintro ⟨h1,h2⟩
   refine ⟨by simpa using (h2 0 (by simp)).symm,by simpa using h1,fun i hi=>by simpa using h2 (i + 1) (by simpa using hi)⟩
def Ok (all sure:List Bs) (z:Bs):Prop:=Dm (a2v all) z ∧ a2v sure <+: z
variable {all sure:List Bs} {f:Int} {A:Ab}
theorem Ok.put {x y:Bs} (hx:Ok all sure x) (hy:Ok all sure y) (n:Nat):Ok all sure (b0f y (64 * n) (sector x n)):=by
 have hl:=d1o x n
 have hp:=a5x y (64 * n) (sector x n)
 obtain ⟨x1,x2⟩:=hx
 obtain ⟨y1,y2⟩:=hy
 rw [Dm.iff] at x1 y1
 rw [c7g] at x2 y2
 have hle:(b0f y (64 * n) (sector x n)).length ≤ max y.length x.length ∧ y.length ≤ (b0f y (64 * n) (sector x n)).length:=by
  split at hp
  ·omega
  ·rename_i hne
   have:=List.length_pos_iff.2 hne
   omega
 have hg:∀ i,(b0f y (64 * n) (sector x n)).getD i 0 = y.getD i 0 ∨ (i < x.length ∧ (b0f y (64 * n) (sector x n)).getD i 0 = x.getD i 0):=fun i=>by
  rw [d4g]
  split
  ·rename_i h
   right
   rw [c6r _ _ _ (by omega)]
   have e:64 * n + (i - 64 * n) = i:=by omega
   rw [e]
   exact ⟨by omega,rfl⟩
  ·exact .inl rfl
 constructor
 ·rw [Dm.iff]
  refine ⟨by omega,fun i=>?_⟩
  rcases hg i with h | ⟨_,h⟩ <;> rw [h]
  ·exact y1.2 i
  ·exact x1.2 i
 ·rw [c7g]
  refine ⟨by omega,fun i hi=>?_⟩
  rcases hg i with h | ⟨_,h⟩ <;> rw [h]
  ·exact y2.2 i hi
  ·exact x2.2 i hi
theorem Ok.putAll {x:Bs} (hx:Ok all sure x):∀ (ns:List Nat) {y:Bs},Ok all sure y → Ok all sure (putAll x y ns)
 | [],_,hy=>hy
 | n :: ns,_,hy=>Ok.putAll hx ns (hx.put hy n)
structure GoodJ (f:Int) (A:Ab) (all sure:List Bs):Prop where
 wf:WF A
 few:Few all
 sub:sure <+: all
 x:Ok all sure (A.F f).1
 y:Ok all sure (A.F f).2
theorem Few.sub {l m:List Bs} (h:Few m) (hs:l <+: m):Few l:=fun t ht=>h t (hs.subset ht)
theorem GoodJ.same (h:GoodJ f A all sure) {B:Ab} (hw:WF B) (hF:B.F f = A.F f):GoodJ f B all sure:=⟨hw,h.few,h.sub,by rw [hF]; exact h.x,by rw [hF]; exact h.y⟩
theorem GoodJ.crash (h:GoodJ f A all sure) (keep:List Int):GoodJ f (a4p A keep) all sure:=by
 have hw:=c2w h.wf keep
 unfold a4p at hw ⊢
 split
 ·exact h
 ·have:Ok all sure (a2z keep A.F 0 A.queue f).2:=by
   rw [b8e keep A.queue A.F 0 f (fun p hp=>(h.wf.qr p hp).2.2.1)]
   exact h.x.putAll _ h.y
  rename_i hd
  rw [if_neg hd] at hw
  exact ⟨hw,h.few,h.sub,this,this⟩
theorem GoodJ.ends (h:GoodJ f A all sure):GoodJ f (a4b A).2 all sure:=h.same (b5h h.wf) (by rw [(a5w A).1])
theorem GoodJ.comes (h:GoodJ f A all sure):GoodJ f (a1g A) all sure:=by
 unfold a1g
 split
 ·exact h.ends.crash _
 ·exact h.ends
theorem GoodJ.settle (h:GoodJ f A all sure) {s:Bs} (hs:Ok all sure s) (hl:s.length ≤ 16777216):GoodJ f (a3v A f s) all sure:=by
 have e:(a3v A f s).F f = (s,s):=a3d _ _ _
 exact ⟨b1d h.wf f s hl,h.few,h.sub,by rw [e]; exact hs,by rw [e]; exact hs⟩
theorem GoodJ.sync (h:GoodJ f A all sure):GoodJ f (a3y A f).2 all sure:=by
 have h1:=h.comes
 have hw:=c9j h.wf f
 unfold a3y at hw ⊢
 split
 ·exact h1
 ·rename_i hm
  rw [if_neg hm] at hw
  split
  ·rename_i hl
   rw [if_pos hl] at hw
   exact h1.same hw rfl
  ·exact h1.settle h1.x (h1.wf.sz f).1
theorem Ok.more {z:Bs} (h:Ok all sure z) (t:Bs):Ok (all ++ [t]) sure z:=by
 refine ⟨?_,h.2⟩
 have h1:=h.1
 rw [Dm.iff] at h1 ⊢
 rw [a5b,List.length_append]
 refine ⟨by omega,fun i=>?_⟩
 by_cases hi:i < (a2v all).length
 ·have:(a2v all ++ a2v [t]).getD i 0 = (a2v all).getD i 0:=by
   simp only [List.getD_eq_getElem?_getD]
   rw [List.getElem?_append_left hi]
  rw [this]; exact h1.2 i
 ·right
  simp only [List.getD_eq_getElem?_getD]
  rw [List.getElem?_eq_none (by omega)]
  rfl
theorem GoodJ.more (h:GoodJ f A all sure) {t:Bs} (ht:t.length ≤ 20000):GoodJ f A (all ++ [t]) sure:=
 ⟨h.wf,fun x hx=>by
  rcases List.mem_append.1 hx with hx | hx
  ·exact h.few x hx
  ·simp only [List.mem_singleton] at hx
   rw [hx]; exact ht,h.sub.trans (List.prefix_append _ _),h.x.more t,h.y.more t⟩
theorem Ok.own {l sure:List Bs} (hs:sure <+: l):Ok l sure (a2v l):=by
 refine ⟨Dm.refl _,?_⟩
 obtain ⟨m,rfl⟩:=hs
 rw [a5b]
 exact List.prefix_append _ _
structure Jn where
 recs:List Bs
 bytes:Nat
 broken:Bool
def d1x (B:Ab) (f:Int) (r:Bs × Int):Option Jn × Int × Ab:=
 if r.2 ≠ 0 then (none,r.2,B)
 else if (readJ r.1).2 < r.1.length then
  if (a5a B f (readJ r.1).2).1 ≠ 0 then (none,(a5a B f (readJ r.1).2).1,(a5a B f (readJ r.1).2).2)
  else (some ⟨(readJ r.1).1,(readJ r.1).2,false⟩,0,(a5a B f (readJ r.1).2).2)
 else (some ⟨(readJ r.1).1,(readJ r.1).2,false⟩,0,B)
def openJ (A:Ab) (f:Int):Option Jn × Int × Ab:=
 if f < 0 ∨ 15 < f then (none,1,A)
 else if (a3y A f).1 ≠ 0 then (none,(a3y A f).1,(a3y A f).2)
 else d1x (a3y A f).2 f (b2l (a3y A f).2 f 0 (((a3y A f).2.F f).1.length:Nat))
def a0j (A:Ab) (f:Int) (j:Jn) (t:Bs):Int × Ab × Jn:=
 if j.broken = true then (7,A,j)
 else if 20000 < t.length then (3,A,j)
 else if 1048576 < j.bytes + (form t).length then (6,A,j)
 else if (a7n A f j.bytes (form t)).1 ≠ 0 then ((a7n A f j.bytes (form t)).1,(a7n A f j.bytes (form t)).2,{ j with broken:=true })
 else (0,(a7n A f j.bytes (form t)).2,⟨j.recs ++ [t],j.bytes + (form t).length,false⟩)
def a6s (A:Ab) (f:Int) (j:Jn):Int × Ab × Jn:=
 if j.broken = true then (7,A,j) else ((a3y A f).1,(a3y A f).2,{ j with broken:=decide ((a3y A f).1 ≠ 0) })
theorem c9z (A:Ab) {f:Int} (hf:0 ≤ f ∧ f ≤ 15):b8u A f = 0 ∨ b8u A f = 8:=by
 unfold b8u
 split
 ·exact .inr rfl
 ·rw [if_neg (by omega)]; exact .inl rfl
theorem e9r (A:Ab) {f:Int} (hf:0 ≤ f ∧ f ≤ 15):(a3y A f).1 = 0 ∨ (a3y A f).1 = 8 ∨ (a3y A f).1 = 9:=by
 unfold a3y
 split
 ·rcases c9z (a1g A) hf with h | h
  ·exact .inl h
  ·exact .inr (.inl h)
 ·split
  ·exact .inr (.inr rfl)
  ·exact .inl rfl
theorem d0a {A:Ab} (hd:A.down = false) {f:Int} (hf:0 ≤ f ∧ f ≤ 15):b2l A f 0 (((A.F f).1.length:Nat):Int) = ((A.F f).1,0):=by
 unfold b2l
 rw [if_neg (by rw [b1v hd (by omega)]; simp),if_neg (by omega)]
 simp
theorem e0d {A:Ab} {f:Int} {n:Nat} (hf:0 ≤ f ∧ f ≤ 15) (hn:n ≤ (A.F f).1.length) :
  ((a5a A f n).1 = 8 ∧ (a5a A f n).2 = a1g A) ∨ ((a5a A f n).1 = 0 ∧ A.down = false ∧ (a5a A f n).2 = a3v (a4b A).2 f ((A.F f).1.take n)):=by
 unfold a5a
 split
 ·rename_i hm
  rcases c9z (a1g A) hf with h | h
  ·exact absurd h hm
  ·exact .inl ⟨h,rfl⟩
 ·rename_i hm
  have h1:=c6u (Decidable.not_not.1 hm)
  have h2:=(c2u h1.1).1
  have h3:=a5w A
  have hF:(a1g A).F = A.F:=by rw [h2]; exact h3.1
  rw [hF,if_neg (by omega)]
  refine .inr ⟨rfl,?_,?_⟩
  ·have:=h1.1
   rw [h2,h3.2.1] at this
   exact this
  ·rw [h2]; simp
structure Live (f:Int) (A:Ab) (j:Jn) (all sure:List Bs):Prop where
 good:GoodJ f A all sure
 recs:all = j.recs
 pre:sure <+: j.recs
 x:(A.F f).1 = a2v j.recs
 bytes:j.bytes = (a2v j.recs).length
 up:A.down = false
theorem c3k (hg:GoodJ f A all sure) (hf:0 ≤ f ∧ f ≤ 15) :
  GoodJ f (openJ A f).2.2 all sure ∧
  (((openJ A f).1 = none ∧ ((openJ A f).2.1 = 8 ∨ (openJ A f).2.1 = 9)) ∨
   ∃ j,(openJ A f).1 = some j ∧ (openJ A f).2.1 = 0 ∧ j.broken = false ∧ j.recs <+: all ∧ sure <+: j.recs ∧ Live f (openJ A f).2.2 j j.recs j.recs):=by
 have hs:=hg.sync
 unfold openJ
 rw [if_neg (by omega)]
 by_cases he:(a3y A f).1 = 0
 ·rw [if_neg (by simp [he])]
  obtain ⟨_,_,hd,hfi,_,_⟩:=d4f hg.wf he
  rw [d0a hd hf]
  generalize (a3y A f).2 = B at *
  have hF:=hfi.1
  rw [hF]
  have hx:=hs.x
  rw [hF] at hx
  dsimp only at hx ⊢
  generalize hxx:(A.F f).1 = x at *
  have hgs:∀ {C:Ab},WF C → C.F f = (a2v (readJ x).1,a2v (readJ x).1) → C.down = false → Live f C ⟨(readJ x).1,(readJ x).2,false⟩ (readJ x).1 (readJ x).1:=fun {C} hw e hd=>
   ⟨⟨hw,(a6a x).1,List.prefix_refl _,by rw [e]; exact Ok.own (List.prefix_refl _),by rw [e]; exact Ok.own (List.prefix_refl _)⟩,rfl,List.prefix_refl _,by rw [e],(a6a x).2.1,hd⟩
  have hp1:(readJ x).1 <+: all:=Dm.readJ hs.few hx.1
  have hp2:sure <+: (readJ x).1:=by
   obtain ⟨z,hz⟩:=hx.2
   rw [← hz,c7h (hs.few.sub hs.sub) z]
   exact List.prefix_append _ _
  obtain ⟨r1,r2,r3,r4⟩:=a6a x
  unfold d1x
  rw [if_neg (by simp)]
  dsimp only
  by_cases hlt:(readJ x).2 < x.length
  ·rw [if_pos hlt]
   have ht:=e0d (A:=B) (n:=(readJ x).2) hf (by rw [hF]; exact Nat.le_of_lt hlt)
   have htw:=d4k hs.wf f (readJ x).2
   rcases ht with ⟨t1,t2⟩ | ⟨t1,_,t2⟩
   ·rw [if_pos (by rw [t1]; decide)]
    refine ⟨?_,.inl ⟨rfl,.inl t1⟩⟩
    dsimp only
    rw [t2]
    exact hs.comes
   ·rw [if_neg (by rw [t1]; simp)]
    dsimp only
    have e:(a5a B f ((readJ x).2:Nat)).2.F f = (a2v (readJ x).1,a2v (readJ x).1):=by
     have e1:x.take (readJ x).2 = a2v (readJ x).1:=by
      have h5:(a2v (readJ x).1 ++ x.drop (readJ x).2).take (a2v (readJ x).1).length = a2v (readJ x).1:=List.take_left
      rw [← r3,← r2] at h5
      exact h5
     rw [t2,hF,e1]
     exact a3d _ _ _
    have hd2:(a5a B f ((readJ x).2:Nat)).2.down = false:=by
     rw [t2]
     show (a4b B).2.down = false
     rw [(a5w B).2.1]; exact hd
    have hl:=hgs htw e hd2
    refine ⟨⟨htw,hs.few,hs.sub,?_,?_⟩,.inr ⟨_,rfl,rfl,rfl,hp1,hp2,hl⟩⟩
    all_goals
     rw [e]
     refine ⟨?_,?_⟩
     ·obtain ⟨m,hm⟩:=hp1
      rw [← hm,a5b,Dm.iff]
      refine ⟨by simp,fun i=>?_⟩
      by_cases hi:i < (a2v (readJ x).1).length
      ·left
       simp only [List.getD_eq_getElem?_getD]
       rw [List.getElem?_append_left hi]
      ·right
       simp only [List.getD_eq_getElem?_getD]
       rw [List.getElem?_eq_none (by omega)]
       rfl
     ·obtain ⟨m,hm⟩:=hp2
      rw [← hm,a5b]
      exact List.prefix_append _ _
  ·rw [if_neg hlt]
   dsimp only
   have e1:x = a2v (readJ x).1:=by
    have:x.drop (readJ x).2 = []:=List.drop_eq_nil_of_le (by omega)
    rw [this,List.append_nil] at r3
    exact r3
   refine ⟨hs,.inr ⟨_,rfl,rfl,rfl,hp1,hp2,hgs hs.wf ?_ hd⟩⟩
   rw [hF,← e1]
 ·rw [if_pos (by simpa using he)]
  exact ⟨hs,.inl ⟨rfl,(e9r A hf).resolve_left he⟩⟩
end JnSpec
namespace PuSpec
open FdSpec TkSpec CodeSpec
structure Lim where
 count:Int
 length:Int
 gate:Int
deriving DecidableEq
deriving instance DecidableEq for TkSpec.Lnk
structure Hld where
 limit:Int
 window:Int
 attrs:List Int
 bl:Bld
 t:Tkt
 links:List Lnk
deriving DecidableEq
structure Itm where
 held:Hld
 status:Int
 dare:Int
 lent:Bool
 back:Bool
deriving DecidableEq
def within (n lo hi:Int):Bool:=decide (lo ≤ n) && decide (n ≤ hi)
def a4l (n:Int):Bool:=within n 0 2147483648
def c2p (l:Lim):Bool:=within l.count 1 4096 && a4l l.length && within l.gate (-1) 23
def a9i (l:Lim) (t:Int):Int:=if !c2p l || !a4l t then -1 else if l.length = 0 then 0 else t / l.length
def b6j (l:Lim) (w:Int):Int:=if !c2p l || !a4l w || !a4l (w * l.length) then -1 else w * l.length
def a2t (q:Int) (l:List Int):Bool:=!(l.any fun n=>decide (n < 0) || decide (q ≤ n))
def a7q (l:List Lnk):Bool:=decide (l.length ≤ 4) && !(l.any fun x=>decide (200 < x.terms.length) || decide (7 < x.spend.answers.length))
def validM (s:Stp) (lims:List Lim) (h:Hld):Bool:=
 a1u s && decide (0 ≤ h.limit) && decide (h.limit < lims.length) && a4l h.window && a7q h.links &&
 decide ((h.attrs.length:Int) = (s.bases.length:Int) - 1) && decide (h.attrs.length ≠ 0) && decide (1 ≤ h.attrs.headD 0) && decide (h.bl.ys.length = s.bases.length) &&
 a2t s.g.Q h.attrs && a2t s.g.Q h.bl.ys && a2t s.g.Q [h.bl.s,h.bl.u,h.bl.v] && decide (h.bl.s ≠ 0) && decide (h.bl.u ≠ 0) &&
 a6f s h.t && decide (h.t.mark = a6i s.g (a7f s h.attrs).1 h.bl.s) && decide (h.t.first = (a5t s.g s.bases h.bl.ys).1)
def a5m (t:Tkt):List Int:=[t.mark,t.first,t.z,t.a,t.b,t.r]
def ofL:List Int → Tkt
 | [a,b,c,d,e,f]=>⟨a,b,c,d,e,f⟩
 | _=>⟨0,0,0,0,0,0⟩
def a5g (x:Lnk):a0h:=a0d (a5m x.ticket) ++ a0n x.spend.dare ++ a0d x.spend.answers ++ a0t x.terms
def a3m (h:Hld):a0h:=
 a0d [h.limit,h.window] ++ a0d h.attrs ++ a0d [h.bl.s,h.bl.u,h.bl.v] ++ a0d h.bl.ys ++ a0d (a5m h.t) ++ a1a h.links.length ++ (h.links.map a5g).flatten
structure Rb where
 rd:Rd
 bad:Bool
def a0w (n:Nat) (r:Rb):List Int × Rb:=
 if (a0c r.rd).1.length = n then ((a0c r.rd).1,⟨(a0c r.rd).2,r.bad⟩) else (List.replicate n 0,⟨(a0c r.rd).2,true⟩)
def a6r (r:Rb):Tkt × Rb:=(ofL (a0w 6 r).1,(a0w 6 r).2)
def a1c (r:Rb):List Int × Rb:=((a0c r.rd).1,⟨(a0c r.rd).2,r.bad⟩)
def c0q (r:Rb):Lnk × Rb:=
 let t:=a6r r
 let d:=a1s t.2.rd
 let a:=a0c d.2
 let x:=a0s a.2
 (⟨t.1,⟨d.1,a.1⟩,x.1⟩,⟨x.2,t.2.bad⟩)
def a6k:Nat → Rb → List Lnk × Rb
 | 0,r=>([],r)
 | k + 1,r=>((c0q r).1 :: (a6k k (c0q r).2).1,(a6k k (c0q r).2).2)
def a9j (r:Rb):Hld × Rb:=
 let head:=a0w 2 r
 let attrs:=a1c head.2
 let three:=a0w 3 attrs.2
 let ys:=a1c three.2
 let t:=a6r ys.2
 let n:=a1m t.2.rd
 let l:=a6k (min n.1 4).toNat ⟨n.2,t.2.bad || decide (4 < n.1)⟩
 (⟨head.1.getD 0 0,head.1.getD 1 0,attrs.1,⟨three.1.getD 0 0,three.1.getD 1 0,three.1.getD 2 0,ys.1⟩,t.1,l.1⟩,l.2)
def b2u:Hld:=⟨0,0,[],⟨0,0,0,[]⟩,⟨0,0,0,0,0,0⟩,[]⟩
def a7r (r:Rd):Bool:=!r.bad && decide (r.rest = [])
def a2d (s:a0h):Hld × Bool:=if (a9j ⟨⟨s,false⟩,false⟩).2.bad || !a7r (a9j ⟨⟨s,false⟩,false⟩).2.rd then (b2u,false) else ((a9j ⟨⟨s,false⟩,false⟩).1,true)
def a7s (until_:Int) (q:a0h):a0h:=if !a4l until_ || decide (20 < q.length) then [] else a1a until_ ++ a0t q
def a0o (s:a0h):(Int × a0h) × Bool:=
 let a:=a1m ⟨s,false⟩
 let b:=a0s a.2
 if !a7r b.2 || decide (a7s a.1 b.1 = []) then ((0,[]),false) else ((a.1,b.1),true)
def b1l (inner outer:a0h):Bool:=
 (a0o inner).2 && (a0o outer).2 && decide ((a0o inner).1.1 ≤ (a0o outer).1.1) && (decide ((a0o outer).1.2 = []) || decide ((a0o inner).1.2 = (a0o outer).1.2))
def c0r (items:List Itm) (t:Tkt):Bool:=items.any fun i=>decide (i.held.t = t)
def a3e (h:Hld):Itm:=⟨h,0,0,false,false⟩
def g1s (s:Stp) (lims:List Lim) (items:List Itm) (text:a0h):Option (List Itm):=
 if !(a2d text).2 || decide (400 ≤ items.length) || !validM s lims (a2d text).1 || c0r items (a2d text).1.t then none else some (items ++ [a3e (a2d text).1])
def b2v (s:Stp) (n:List Int) (x:Itm):Option Itm:=
 match n with
 | [k,_,dare]=>if decide (k = 1) || decide (k = 3) then (if decide (x.status = 0) && decide (1 ≤ dare) && decide (dare < s.g.Q) then some { x with status:=1,dare:=dare,lent:=decide (k = 3) } else none) else none
 | [k,_]=>if k = 2 then (if x.status = 1 then some { x with status:=2 } else none) else if k = 4 then (if x.lent && !x.back then some { x with back:=true } else none) else none
 | _=>none
def a4o (s:Stp) (lims:List Lim) (items:List Itm) (r:a0h):Option (List Itm):=
 if [48,59] <+: r then g1s s lims items (r.drop 2)
 else if !a7r (a0c ⟨r,false⟩).2 || decide ((a0c ⟨r,false⟩).1.length < 2) then none
 else
  let n:=(a0c ⟨r,false⟩).1
  let i:=n.getD 1 0
  if i < 0 then none
  else match items[i.toNat]? with
   | none=>none
   | some x=>match b2v s n x with
    | none=>none
    | some y=>some (items.set i.toNat y)
def a1q (s:Stp) (lims:List Lim):List Itm → List a0h → Option (List Itm)
 | items,[]=>some items
 | items,r :: rs=>match a4o s lims items r with
  | none=>none
  | some l=>a1q s lims l rs
def a7z (x:Itm):Itm:=if x.status = 1 then { x with status:=3 } else x
def c7u (lims:List Lim):Bool:=decide (1 ≤ lims.length) && decide (lims.length ≤ 16) && !(lims.any fun l=>!c2p l)
def c7v (s:Stp) (lims:List Lim) (recs:List a0h):Option (List Itm):=(a1q s lims [] recs).map fun l=>l.map a7z
def a8t (lims:List Lim) (limit now:Int) (i:Itm):Bool:=decide (i.status = 0) && decide (i.held.limit = limit) && decide (i.held.window = a9i (lims.getD limit.toNat ⟨0,0,0⟩) now)
def a1w (lims:List Lim) (items:List Itm) (limit now:Int):Nat × Int:=
 if decide (limit < 0) || decide ((lims.length:Int) ≤ limit) || !a4l now then (0,1)
 else match items.findIdx? (a8t lims limit now) with
  | none=>(0,15)
  | some i=>(i,0)
def f0e (lims:List Lim) (items:List Itm) (limit now:Int):Int:=
 if decide (limit < 0) || decide ((lims.length:Int) ≤ limit) || !a4l now then 0 else ((items.filter (a8t lims limit now)).length:Int)
def a6l (s:Stp) (lims:List Lim) (items:List Itm) (h:Hld):Int:=
 if !validM s lims h then 1 else if c0r items h.t then 5 else if 400 ≤ items.length then 6 else 0
def a4s (h:Hld):a0h:=a1a 0 ++ a3m h
def a1y (l:List Int):a0h:=a0d l
def exS:Stp:=⟨⟨23,11,4⟩,[4,9],13⟩
def exL:List Lim:=[⟨1,1440,-1⟩,⟨2,0,-1⟩]
def exH:Hld:=⟨0,2,[3],⟨2,1,0,[1,5]⟩,⟨2,9,1,1,1,2⟩,[]⟩
theorem d0k:c7u exL = true ∧ a9i ⟨1,1440,-1⟩ 2900 = 2 ∧ b6j ⟨1,1440,-1⟩ 2 = 2880 ∧ a9i ⟨2,0,-1⟩ 2900 = 0 ∧
  a7s 100 [112,111,111,108] = [49,48,48,59,52,58,112,111,111,108,44] ∧ a1u exS = true ∧ validM exS exL exH = true ∧
  a6l exS exL [] exH = 0 ∧ a2d (a3m exH) = (exH,true) ∧ a1w exL [a3e exH] 0 2900 = (0,0) ∧ a1w exL [{ a3e exH with status:=1,dare:=5 }] 0 2901 = (0,15) ∧
  f0e exL [{ a3e exH with status:=1,dare:=5 }] 0 2900 = 0 ∧ e5n exS [3] exH.bl 5 = (⟨5,[0,2]⟩,true):=by
 refine ⟨?_,?_,?_,?_,?_,?_,?_,?_,?_,?_,?_,?_,?_⟩ <;> decide +kernel
theorem d2m:b1l [57,48,59,52,58,112,111,111,108,44] [49,48,48,59,48,58,44] = true ∧ b1l [49,49,48,59,52,58,112,111,111,108,44] [49,48,48,59,48,58,44] = false:=by
 constructor <;> decide +kernel
end PuSpec
namespace PuSpec
open FdSpec TkSpec CodeSpec
theorem a4q (n:Int):a4l n = true ↔ 0 ≤ n ∧ n ≤ 2147483648:=by simp [a4l,within]
theorem b5k {l:Lim} (h:c2p l = true):0 ≤ l.length ∧ l.length ≤ 2147483648:=by
 simp [c2p,a4q] at h
 exact h.1.2
theorem c3p {u:Int} {q:a0h} (h:a4l u = true) (hq:q.length ≤ 20):a7s u q = a1a u ++ a0t q:=by
 unfold a7s
 rw [if_neg]
 simp only [h,Bool.not_true,Bool.false_or,decide_eq_true_eq]
 omega
theorem e0u {u:Int} (h:0 ≤ u):a1a u ≠ []:=by
 simp [a1a,a0n,Int.not_lt.mpr h]
theorem b9i {u:Int} {q:a0h}:a7s u q = [] ↔ ¬(a4l u = true ∧ q.length ≤ 20):=by
 constructor
 ·rintro h ⟨h1,h2⟩
  rw [c3p h1 h2] at h
  exact e0u ((a4q u).1 h1).1 (List.append_eq_nil_iff.1 h).1
 ·intro h
  unfold a7s
  rw [if_pos]
  simp only [Bool.or_eq_true,Bool.not_eq_true',decide_eq_true_eq]
  by_cases h1:a4l u = true
  ·right; exact Nat.lt_of_not_le fun h2=>h ⟨h1,h2⟩
  ·left; simpa using h1
theorem c3q (r:Rd):a7r r = true ↔ r = ⟨[],false⟩:=by
 obtain ⟨rest,bad⟩:=r
 simp [a7r,and_comm]
theorem b8j {s:a0h} (h:(a0o s).2 = true):a4l (a0o s).1.1 = true ∧ (a0o s).1.2.length ≤ 20 ∧ s = a7s (a0o s).1.1 (a0o s).1.2:=by
 unfold a0o at h ⊢
 dsimp only at h ⊢
 split at h
 ·cases h
 ·rename_i hc
  rw [if_neg hc]
  simp only [Bool.or_eq_true,Bool.not_eq_true',decide_eq_true_eq,not_or,Bool.not_eq_false] at hc
  obtain ⟨h1,h2⟩:=hc
  have ht:a4l (a1m ⟨s,false⟩).1 = true ∧ (a0s (a1m ⟨s,false⟩).2).1.length ≤ 20:=Classical.byContradiction fun hn=>h2 (b9i.2 hn)
  refine ⟨ht.1,ht.2,?_⟩
  rw [c3p ht.1 ht.2]
  rw [c3q] at h1
  rcases a8q ⟨s,false⟩ Rd.ok_good with e | ⟨n,t,e,es,_,n0⟩
  ·rw [e,a6w] at h1; simp [failed] at h1
  ·rw [e] at h1 ⊢
   dsimp only at h1 ⊢
   rcases a2q ⟨t,false⟩ Rd.ok_good with e2 | ⟨x,t2,e2,es2,_⟩
   ·rw [e2] at h1; simp [failed] at h1
   ·rw [e2] at h1 ⊢
    dsimp only at h1 ⊢
    simp only [Rd.mk.injEq,and_true] at h1 es es2
    rw [es,es2,h1,List.append_nil,a1a,if_neg (by omega)]
end PuSpec
namespace PuSpec
open FdSpec TkSpec CodeSpec
def e5b (r:Rb):Prop:=r.bad = false ∧ r.rd.bad = false
abbrev Len (n:Nat):Prop:=(n:Int) ≤ 9223372036854775807
structure WTkt (t:Tkt):Prop where
 all:∀ v ∈ a5m t,InR v
structure WLnk (x:Lnk):Prop where
 t:WTkt x.ticket
 dare:InR x.spend.dare
 ans:∀ v ∈ x.spend.answers,InR v
 al:Len x.spend.answers.length
 tl:Len x.terms.length
structure WHld (h:Hld):Prop where
 limit:InR h.limit
 window:InR h.window
 attrs:∀ v ∈ h.attrs,InR v
 al:Len h.attrs.length
 s:InR h.bl.s
 u:InR h.bl.u
 v:InR h.bl.v
 ys:∀ v ∈ h.bl.ys,InR v
 yl:Len h.bl.ys.length
 t:WTkt h.t
 links:∀ x ∈ h.links,WLnk x
theorem b6f (vs:List Int) (t:a0h) (b:Bool) (hl:Len vs.length) (h:∀ v ∈ vs,InR v):a0w vs.length ⟨⟨a0d vs ++ t,false⟩,b⟩ = (vs,⟨⟨t,false⟩,b⟩):=by
 have e:=a3c vs t hl h
 unfold a0w
 simp [e]
theorem c3r (vs:List Int) (t:a0h) (b:Bool) (hl:Len vs.length) (h:∀ v ∈ vs,InR v):a1c ⟨⟨a0d vs ++ t,false⟩,b⟩ = (vs,⟨⟨t,false⟩,b⟩):=by
 simp [a1c,a3c vs t hl h]
theorem d0g (x:Tkt) (t:a0h) (b:Bool) (h:WTkt x):a6r ⟨⟨a0d (a5m x) ++ t,false⟩,b⟩ = (x,⟨⟨t,false⟩,b⟩):=by
 have e:=b6f (a5m x) t b (by simp [Len,a5m]) h.all
 unfold a6r
 rw [show 6 = (a5m x).length from rfl,e]
 rfl
theorem e9z (x:Lnk) (t:a0h) (b:Bool) (h:WLnk x):c0q ⟨⟨a5g x ++ t,false⟩,b⟩ = (x,⟨⟨t,false⟩,b⟩):=by
 have e1:=d0g x.ticket (a0n x.spend.dare ++ (a0d x.spend.answers ++ (a0t x.terms ++ t))) b h.t
 have e2:=b5w x.spend.dare h.dare (a0d x.spend.answers ++ (a0t x.terms ++ t))
 have e3:=a3c x.spend.answers (a0t x.terms ++ t) h.al h.ans
 have e4:=b3q x.terms t h.tl
 unfold c0q a5g
 simp only [List.append_assoc,e1,e2,e3,e4]
theorem c3s:∀ (l:List Lnk) (t:a0h) (b:Bool),(∀ x ∈ l,WLnk x) → a6k l.length ⟨⟨(l.map a5g).flatten ++ t,false⟩,b⟩ = (l,⟨⟨t,false⟩,b⟩)
 | [],t,b,_=>rfl
 | x :: l,t,b,h=>by
  have e1:=e9z x ((l.map a5g).flatten ++ t) b (h x (by simp))
  have e2:=c3s l t b (fun y hy=>h y (by simp [hy]))
  simp only [List.map_cons,List.flatten_cons,List.append_assoc,List.length_cons,a6k,e1,e2]
theorem b9j (h:Hld) (w:WHld h) (hl:h.links.length ≤ 4):a2d (a3m h) = (h,true):=by
 have e1:=b6f [h.limit,h.window] (a0d h.attrs ++ (a0d [h.bl.s,h.bl.u,h.bl.v] ++ (a0d h.bl.ys ++ (a0d (a5m h.t) ++ (a1a h.links.length ++ ((h.links.map a5g).flatten ++ [])))))) false (by simp [Len]) (by simp [w.limit,w.window])
 have e2:=c3r h.attrs (a0d [h.bl.s,h.bl.u,h.bl.v] ++ (a0d h.bl.ys ++ (a0d (a5m h.t) ++ (a1a h.links.length ++ ((h.links.map a5g).flatten ++ []))))) false w.al w.attrs
 have e3:=b6f [h.bl.s,h.bl.u,h.bl.v] (a0d h.bl.ys ++ (a0d (a5m h.t) ++ (a1a h.links.length ++ ((h.links.map a5g).flatten ++ [])))) false (by simp [Len]) (by simp [w.s,w.u,w.v])
 have e4:=c3r h.bl.ys (a0d (a5m h.t) ++ (a1a h.links.length ++ ((h.links.map a5g).flatten ++ []))) false w.yl w.ys
 have e5:=d0g h.t (a1a h.links.length ++ ((h.links.map a5g).flatten ++ [])) false w.t
 have e6:=b5x h.links.length ⟨by omega,by omega⟩ (by omega) ((h.links.map a5g).flatten ++ [])
 have e7:=c3s h.links [] false w.links
 have hm:(min (h.links.length:Int) 4).toNat = h.links.length:=by omega
 have hb:decide ((4:Int) < h.links.length) = false:=by simp; omega
 have e:a9j ⟨⟨a3m h,false⟩,false⟩ = (h,⟨⟨[],false⟩,false⟩):=by
  unfold a9j a3m
  simp only [List.append_assoc,List.length_cons,List.length_nil,Nat.zero_add,Nat.reduceAdd] at e1 e3 ⊢
  rw [List.append_nil] at e1 e2 e3 e4 e5 e6 e7
  simp only [e1,e2,e3,e4,e5,e6,hm,hb,Bool.or_false,e7]
  rfl
 unfold a2d
 rw [e]
 rfl
theorem b0p {r:Rd} (h:r.ok):(a0s r).2.ok:=by
 rcases a2q r h with e | ⟨_,_,e,_⟩ <;> rw [e]
 ·exact Rd.ok_failed
 ·exact Rd.ok_good
theorem b1i {r:Rd} (h:r.ok):(a1s r).2.ok:=a7m r h _ _
theorem a6x {r:Rd} (h:r.ok):(a1m r).2.ok:=a7m r h _ _
theorem a0k {r:Rd} (h:r.ok):(a0c r).2.ok:=by
 rcases a2r r h with e | ⟨_,_,e,_⟩ <;> rw [e]
 ·exact Rd.ok_failed
 ·exact Rd.ok_good
theorem a9f {n:Nat} {r:Rb} (h:r.rd.ok):(a0w n r).2.rd.ok:=by
 unfold a0w
 split <;> exact a0k h
theorem b1w {r:Rb} (h:r.rd.ok):(a6r r).2.rd.ok:=by
 have:=a9f (n:=6) h
 unfold a6r
 exact this
theorem e0w {r:Rb} (h:r.rd.ok):(c0q r).2.rd.ok:=by
 have h1:=b1w h
 have h2:=b1i h1
 have h3:=a0k h2
 have h4:=b0p h3
 unfold c0q
 dsimp only
 exact h4
theorem b9k {r:Rb} (hr:r.rd.ok) (h:e5b (a1c r).2):r.bad = false ∧ r.rd = ⟨a0d (a1c r).1 ++ (a1c r).2.rd.rest,false⟩ ∧ (∀ v ∈ (a1c r).1,InR v) ∧ Len (a1c r).1.length ∧ (a1c r).2.rd.ok:=by
 unfold a1c e5b at *
 rcases a2r r.rd hr with e | ⟨vs,t,e,es,hl,hv⟩
 ·rw [e] at h; simp [failed] at h
 ·rw [e] at h ⊢
  exact ⟨h.1,es,hv,hl,Rd.ok_good⟩
theorem b3x {n:Nat} {r:Rb} (hr:r.rd.ok) (h:e5b (a0w n r).2):r.bad = false ∧ r.rd = ⟨a0d (a0w n r).1 ++ (a0w n r).2.rd.rest,false⟩ ∧ (∀ v ∈ (a0w n r).1,InR v) ∧ (a0w n r).1.length = n ∧ (a0w n r).2.rd.ok:=by
 unfold a0w e5b at *
 split at h
 ·rename_i hc
  rw [if_pos hc]
  rcases a2r r.rd hr with e | ⟨vs,t,e,es,hl,hv⟩
  ·rw [e] at h; simp [failed] at h
  ·rw [e] at h hc ⊢
   exact ⟨h.1,es,hv,hc,Rd.ok_good⟩
 ·exact absurd h.1 (by simp)
theorem b1j {l:List Int} (h:l.length = 6):a5m (ofL l) = l:=by
 match l,h with
 | [a,b,c,d,e,f],_=>rfl
theorem c3t {r:Rb} (hr:r.rd.ok) (h:e5b (a6r r).2):r.bad = false ∧ r.rd = ⟨a0d (a5m (a6r r).1) ++ (a6r r).2.rd.rest,false⟩ ∧ WTkt (a6r r).1 ∧ (a6r r).2.rd.ok:=by
 unfold a6r at *
 obtain ⟨h1,h2,h3,h4,h5⟩:=b3x hr h
 dsimp only
 rw [b1j h4]
 exact ⟨h1,h2,⟨by rw [b1j h4]; exact h3⟩,h5⟩
theorem e0x {r:Rb} (hr:r.rd.ok) (h:e5b (c0q r).2):r.bad = false ∧ r.rd = ⟨a5g (c0q r).1 ++ (c0q r).2.rd.rest,false⟩ ∧ WLnk (c0q r).1 ∧ (c0q r).2.rd.ok:=by
 have ht:e5b (a6r r).2 → _:=fun h=>c3t hr h
 unfold c0q e5b at *
 dsimp only at h ⊢
 have hb:=h.1
 generalize hx:a6r r = x at *
 obtain ⟨t,r1⟩:=x
 dsimp only at *
 have ok1:r1.rd.ok:=by
  have:=b1w hr
  rw [hx] at this; exact this
 rcases a7h r1.rd ok1 with e2 | ⟨d,t2,e2,es2,hd⟩
 ·rw [e2] at h
  have e3:a0c failed = ([],failed):=by
   rcases a2r failed Rd.ok_failed with e | ⟨vs,t,_,e,_⟩
   ·exact e
   ·simp [failed] at e
  rw [e3,a6w] at h; simp [failed] at h
 ·rw [e2] at h ⊢
  dsimp only at h ⊢
  rcases a2r ⟨t2,false⟩ Rd.ok_good with e3 | ⟨a,t3,e3,es3,ha,hal⟩
  ·rw [e3,a6w] at h; simp [failed] at h
  ·rw [e3] at h ⊢
   dsimp only at h ⊢
   rcases a2q ⟨t3,false⟩ Rd.ok_good with e4 | ⟨x,t4,e4,es4,hxl⟩
   ·rw [e4] at h; simp [failed] at h
   ·rw [e4] at h ⊢
    dsimp only at h ⊢
    have hf:r1.bad = false ∧ r1.rd.bad = false:=⟨hb,by rw [es2]⟩
    obtain ⟨g1,g2,g3,_⟩:=ht hf
    simp only [Rd.mk.injEq,and_true] at es3 es4
    refine ⟨g1,?_,⟨g3,hd,hal,ha,hxl⟩,Rd.ok_good⟩
    rw [g2,es2,es3,es4]
    simp [a5g,List.append_assoc]
theorem b9l:∀ (n:Nat) {r:Rb},r.rd.ok → e5b (a6k n r).2 → r.bad = false ∧ r.rd = ⟨((a6k n r).1.map a5g).flatten ++ (a6k n r).2.rd.rest,false⟩ ∧ (∀ x ∈ (a6k n r).1,WLnk x) ∧ (a6k n r).1.length = n
 | 0,r,_,h=>by
  refine ⟨h.1,?_,by simp [a6k],rfl⟩
  obtain ⟨⟨rest,bad⟩,b⟩:=r
  have:bad = false:=h.2
  subst this
  simp [a6k]
 | n + 1,r,hr,h=>by
  have ok1:(c0q r).2.rd.ok:=e0w hr
  have ih:=b9l n (r:=(c0q r).2) ok1 h
  have hf:e5b (c0q r).2:=⟨ih.1,by rw [ih.2.1]⟩
  obtain ⟨g1,g2,g3,_⟩:=e0x hr hf
  refine ⟨g1,?_,?_,?_⟩
  ·rw [g2,ih.2.1]
   simp [a6k,List.append_assoc]
  ·intro x hx
   simp only [a6k,List.mem_cons] at hx
   rcases hx with rfl | hx
   ·exact g3
   ·exact ih.2.2.1 x hx
  ·simp [a6k,ih.2.2.2]
theorem g8q {l:List Int} (h:l.length = 3):[l.getD 0 0,l.getD 1 0,l.getD 2 0] = l:=by
 match l,h with
 | [a,b,c],_=>rfl
theorem g8r {l:List Int} (h:l.length = 2):[l.getD 0 0,l.getD 1 0] = l:=by
 match l,h with
 | [a,b],_=>rfl
theorem a3l {l:List Int} (h:∀ v ∈ l,InR v) (i:Nat):InR (l.getD i 0):=by
 rw [List.getD_eq_getElem?_getD]
 rcases e:l[i]? with _ | v
 ·exact ⟨by decide,by decide⟩
 ·exact h v (List.mem_of_getElem? e)
theorem c7n (s:a0h) (h:(a2d s).2 = true):s = a3m (a2d s).1 ∧ WHld (a2d s).1 ∧ (a2d s).1.links.length ≤ 4:=by
 unfold a2d at h ⊢
 split at h
 ·cases h
 ·rename_i hc
  rw [if_neg hc]
  simp only [Bool.or_eq_true,Bool.not_eq_true',not_or,Bool.not_eq_true,Bool.not_eq_false] at hc
  obtain ⟨hb,hd⟩:=hc
  rw [c3q] at hd
  have hd1:(a9j ⟨⟨s,false⟩,false⟩).2.rd.rest = []:=by rw [hd]
  have hd2:(a9j ⟨⟨s,false⟩,false⟩).2.rd.bad = false:=by rw [hd]
  clear hd
  unfold a9j at *
  dsimp only at *
  have o1:=a9f (n:=2) (r:=⟨⟨s,false⟩,false⟩) Rd.ok_good
  have f1:=fun h=>b3x (n:=2) (r:=⟨⟨s,false⟩,false⟩) Rd.ok_good h
  generalize a0w 2 ⟨⟨s,false⟩,false⟩ = x1 at *
  obtain ⟨v1,r1⟩:=x1
  dsimp only at *
  have o2:(a1c r1).2.rd.ok:=a0k o1
  have f2:=fun h=>b9k o1 h
  generalize a1c r1 = x2 at *
  obtain ⟨v2,r2⟩:=x2
  dsimp only at *
  have o3:=a9f (n:=3) o2
  have f3:=fun h=>b3x (n:=3) o2 h
  generalize a0w 3 r2 = x3 at *
  obtain ⟨v3,r3⟩:=x3
  dsimp only at *
  have o4:(a1c r3).2.rd.ok:=a0k o3
  have f4:=fun h=>b9k o3 h
  generalize a1c r3 = x4 at *
  obtain ⟨v4,r4⟩:=x4
  dsimp only at *
  have o5:=b1w o4
  have f5:=fun h=>c3t o4 h
  generalize a6r r4 = x5 at *
  obtain ⟨v5,r5⟩:=x5
  dsimp only at *
  have o6:=a6x o5
  have f6:=a8q r5.rd o5
  generalize a1m r5.rd = x6 at *
  obtain ⟨v6,r6⟩:=x6
  dsimp only at *
  obtain ⟨g1,g2,g3,g4⟩:=b9l (min v6 4).toNat (r:=⟨r6,r5.bad || decide (4 < v6)⟩) o6 ⟨hb,hd2⟩
  simp only [Bool.or_eq_false_iff,decide_eq_false_iff_not] at g1
  rw [hd1] at g2
  dsimp only at g2
  rcases f6 with e | ⟨n,t,e,es,hn,n0⟩
  ·rw [Prod.mk.injEq] at e; rw [e.2] at g2; simp [failed] at g2
  ·rw [Prod.mk.injEq] at e
   obtain ⟨rfl,rfl⟩:=e
   obtain ⟨a1,a2,a3,a4⟩:=f5 ⟨g1.1,by rw [es]⟩
   rw [a2] at f4
   obtain ⟨b1,b2,b3,b4,_⟩:=f4 ⟨a1,by rw [a2]⟩
   obtain ⟨c1,c2,c3,c4,_⟩:=f3 ⟨b1,by rw [b2]⟩
   obtain ⟨d1,d2,d3,d4,_⟩:=f2 ⟨c1,by rw [c2]⟩
   obtain ⟨e1,e2,e3,e4,_⟩:=f1 ⟨d1,by rw [d2]⟩
   have q3:=g8q c4
   have q2:=g8r e4
   generalize (a6k (min v6 4).toNat { rd:={ rest:=t,bad:=false },bad:=r5.bad || decide (4 < v6) }).fst = L at *
   have hv:(L.length:Int) = v6:=by omega
   simp only [Rd.mk.injEq,and_true] at e2 g2
   refine ⟨?_,⟨a3l e3 0,a3l e3 1,d3,d4,a3l c3 0,a3l c3 1,a3l c3 2,b3,b4,a3,g3⟩,by omega⟩
   rw [e2,d2,c2,b2,es,g2]
   unfold a3m
   dsimp only
   rw [q2,q3,hv,a1a,if_neg (by omega)]
   simp only [List.append_assoc,List.append_nil]
end PuSpec
namespace Go.Proofs
open Go Go.Sh Go.RowKit FdSpec TkSpec CodeSpec PuSpec
section
variable {K:VK} {w w' w0 W W':World} {L:List (Addr × Value)}
@[reducible] def c2i (l:Lim):List Value:=[.int .i64 l.count,.int .i64 l.length,.int .i64 l.gate]
@[reducible] def e3z (l:Lim):Value:=.agg #[.int .i64 l.count,.int .i64 l.length,.int .i64 l.gate]
def e4a (_:World) (c:List Value) (l:Lim):Prop:=c = c2i l ∧ I64 l.count ∧ I64 l.length ∧ I64 l.gate
theorem a7x:e2b e4a:=fun _ _ _ _ h _=>h
abbrev c5v (w:World) (v:Value) (l:List Lim):Prop:=SRow 3 (b8b 3 e4a) w v l
@[reducible] def lkC (x:Lnk) (av:Value):List Value:=[.int .i64 x.ticket.mark,.int .i64 x.ticket.first,.int .i64 x.ticket.z,.int .i64 x.ticket.a,.int .i64 x.ticket.b,.int .i64 x.ticket.r,.int .i64 x.spend.dare,av,.string ⟨x.terms.toArray⟩]
@[reducible] def lkV (x:Lnk) (av:Value):Value:=.agg #[.int .i64 x.ticket.mark,.int .i64 x.ticket.first,.int .i64 x.ticket.z,.int .i64 x.ticket.a,.int .i64 x.ticket.b,.int .i64 x.ticket.r,.int .i64 x.spend.dare,av,.string ⟨x.terms.toArray⟩]
def c6n (w:World) (c:List Value) (x:Lnk):Prop:=∃ av,c = lkC x av ∧ Ints w av x.spend.answers ∧ WLnk x
theorem a4i:e2b c6n:=fun _ _ _ _ ⟨av,h1,h2,h3⟩ hb=>⟨av,h1,h2.next hb,h3⟩
abbrev b7s (w:World) (v:Value) (l:List Lnk):Prop:=SRow 9 (b8b 9 c6n) w v l
@[reducible] def b2f (h:Hld) (av yv lv:Value):List Value:=[.int .i64 h.limit,.int .i64 h.window,av,.int .i64 h.bl.s,.int .i64 h.bl.u,.int .i64 h.bl.v,yv,.int .i64 h.t.mark,.int .i64 h.t.first,.int .i64 h.t.z,.int .i64 h.t.a,.int .i64 h.t.b,.int .i64 h.t.r,lv]
@[reducible] def b8c (h:Hld) (av yv lv:Value):Value:=.agg #[.int .i64 h.limit,.int .i64 h.window,av,.int .i64 h.bl.s,.int .i64 h.bl.u,.int .i64 h.bl.v,yv,.int .i64 h.t.mark,.int .i64 h.t.first,.int .i64 h.t.z,.int .i64 h.t.a,.int .i64 h.t.b,.int .i64 h.t.r,lv]
structure HldR (w:World) (h:Hld) (av yv lv:Value):Prop where
 attrs:Ints w av h.attrs
 ys:Ints w yv h.bl.ys
 links:b7s w lv h.links
 wf:WHld h
theorem HldR.next {h:Hld} {av yv lv:Value} (k:HldR w h av yv lv) (hb:Bw w w'):HldR w' h av yv lv:=⟨k.attrs.next hb,k.ys.next hb,k.links.next (a1o a4i) hb,k.wf⟩
@[reducible] def c8w (x:Itm) (av yv lv:Value):List Value:=[.int .i64 x.held.limit,.int .i64 x.held.window,av,.int .i64 x.held.bl.s,.int .i64 x.held.bl.u,.int .i64 x.held.bl.v,yv,.int .i64 x.held.t.mark,.int .i64 x.held.t.first,.int .i64 x.held.t.z,.int .i64 x.held.t.a,.int .i64 x.held.t.b,.int .i64 x.held.t.r,lv,.int .i64 x.status,.int .i64 x.dare,.bool x.lent,.bool x.back]
@[reducible] def g7n (x:Itm) (av yv lv:Value):Value:=.agg #[.int .i64 x.held.limit,.int .i64 x.held.window,av,.int .i64 x.held.bl.s,.int .i64 x.held.bl.u,.int .i64 x.held.bl.v,yv,.int .i64 x.held.t.mark,.int .i64 x.held.t.first,.int .i64 x.held.t.z,.int .i64 x.held.t.a,.int .i64 x.held.t.b,.int .i64 x.held.t.r,lv,.int .i64 x.status,.int .i64 x.dare,.bool x.lent,.bool x.back]
def c5w (w:World) (c:List Value) (x:Itm):Prop:=∃ av yv lv,c = c8w x av yv lv ∧ HldR w x.held av yv lv ∧ I64 x.status ∧ I64 x.dare
theorem c5x:e2b c5w:=fun _ _ _ _ ⟨av,yv,lv,h1,h2,h3⟩ hb=>⟨av,yv,lv,h1,h2.next hb,h3⟩
def g8e (r:Option Nat):Int:=match r with | some i=>i | none=>-1
def IxJ {α:Type} (f:α → Bool) (l:List α) (w0:World) (vs:List Value) (w':World):Prop:=Bw w0 w' ∧ ∃ (v u:Value) (i:Nat),vs = [v,u,.int .i64 (i:Int)] ∧ i ≤ l.length ∧ ∀ j r,j < i → l[j]? = some r → f r = false
theorem c8x {α:Type} (f:α → Bool) (l:List α):decide (0 ≤ g8e (l.findIdx? f)) = l.any f:=by
 cases h:l.findIdx? f with
 | none=>
  rw [List.findIdx?_eq_none_iff] at h
  have:l.any f = false:=by
   rw [List.any_eq_false]
   intro x hx
   rw [h x hx]; simp
  rw [this]; rfl
 | some i=>
  obtain ⟨hi,hp,_⟩:=List.findIdx?_eq_some_iff_getElem.1 h
  have:l.any f = true:=List.any_eq_true.2 ⟨_,List.getElem_mem hi,hp⟩
  rw [this]
  show decide (0 ≤ (i:Int)) = true
  simp
@[go_sem] theorem g9v (T:TypeId) (b o n c:Nat) (x:Int):oM Tryz.prog (.indexAddr 27 (.tmp 0) (.tmp 1)) T [.slice (some ⟨b,o,none⟩) n c,.int .i64 x] = onM (0 ≤ x ∧ x < n) (.pointer (some ⟨b,o + x.toNat * 3,none⟩)):=
 b7w (K:=fun _ _=>True) (P:=Tryz.prog) (n:=3) 27 T (by kernel_rfl) (fun w=>by kernel_rfl) b o n c x
theorem c5y:Tryz.prog.underlying 40 = some ((Tryz.prog.underlying 40).getD default):=by kernel_rfl
theorem c8y {v F:Value} {l:List Lim} (f:Lim → Bool) (hl:SRow 3 (b8b 3 e4a) w v l)
  (hF:∀ (w':World) (x:Lim) (cs:List Value) (K':VK) (T:TypeId),Bw w w' → x ∈ l → e4a w' cs x → (∀ w'',Below w'.heap.size w' w'' → K' (.bool (f x)) w'') → oM Tryz.prog (.call { callee:=.value (.tmp 0),args:=#[.tmp 1],argTypes:=#[40] }) T [F,.agg cs.toArray] K' w')
  (k:∀ w',Bw w w' → K (.int .i64 (g8e (l.findIdx? f))) w'):a0a Tryz.prog 180 #[v,F] K w:=by
 apply d6r
 unfold f4u
 obtain ⟨ad,c,rfl⟩:=hl.isSlice
 have hll:=hl.len
 refine Xa0 ?_
 refine ⟨IxJ f l w,f2f l.length,⟨bR,_,_,0,rfl,by omega,fun j r hj=>by omega⟩,?_⟩
 rintro _ _ w1 ⟨h1,u1,u2,i,rfl,hi,ha⟩
 by_cases hin:i = l.length
 ·refine Xa0 ?_
  have:l.findIdx? f = none:=by
   rw [List.findIdx?_eq_none_iff]
   intro x hx
   obtain ⟨j,hj⟩:=List.getElem?_of_mem hx
   exact ha j x (by have:=(gS hj).1; omega) hj
  rw [this] at k
  exact k _ h1
 ·have hil:i < l.length:=by omega
  have er:l[i]? = some l[i]:=gE hil
  have hilZ:(i:Int) < l.length:=by omega
  obtain ⟨b1,o1,rfl,hb1,cs,hcl,hcc,hV⟩:=(hl.next (a1o a7x) h1).at (i:=i) hil
  refine Xa @hilZ ?_
  refine a3n hcc c5y (by kernel_rfl) (by rw [hcl]; kernel_rfl) ?_
  refine Xa0 ?_
  refine hF w1 _ cs _ _ h1 (List.mem_of_getElem? er) hV (fun w2 h2=>?_)
  cases hp:f l[i] with
  | true=>
   refine Xa0 ?_
   have:l.findIdx? f = some i:=by
    rw [List.findIdx?_eq_some_iff_getElem]
    exact ⟨hil,hp,fun j hj=>by rw [ha j _ hj (gE (by omega))]; simp⟩
   rw [this] at k
   exact k _ (h1.on h2)
  | false=>
   refine Xa0 ?_
   refine ⟨⟨h1.on h2,_,_,i + 1,rfl,by omega,fun j r hj hr=>?_⟩,?_⟩
   ·by_cases hji:j = i
    ·subst hji
     rw [er] at hr
     cases hr
     exact hp
    ·exact ha j r (by omega) hr
   ·simp only [b2d]; omega
theorem b8p {v F:Value} {l:List Lim} (f:Lim → Bool) (hl:SRow 3 (b8b 3 e4a) w v l)
  (hF:∀ (w':World) (x:Lim) (cs:List Value) (K':VK) (T:TypeId),Bw w w' → x ∈ l → e4a w' cs x → (∀ w'',Below w'.heap.size w' w'' → K' (.bool (f x)) w'') → oM Tryz.prog (.call { callee:=.value (.tmp 0),args:=#[.tmp 1],argTypes:=#[40] }) T [F,.agg cs.toArray] K' w')
  (k:∀ w',Bw w w' → K (.bool (l.any f)) w'):a0a Tryz.prog 111 #[v,F] K w:=by
 apply d6q
 unfold f4t
 refine c8y f hl hF (fun w' hb=>?_)
 have e:=c8x f l
 refine Xa0 ?_
 rw [e]
 exact k _ hb
@[go_sem] theorem g9w (T:TypeId) (b o n c:Nat) (x:Int):oM Tryz.prog (.indexAddr 32 (.tmp 0) (.tmp 1)) T [.slice (some ⟨b,o,none⟩) n c,.int .i64 x] = onM (0 ≤ x ∧ x < n) (.pointer (some ⟨b,o + x.toNat * 9,none⟩)):=
 b7w (K:=fun _ _=>True) (P:=Tryz.prog) (n:=9) 32 T (by kernel_rfl) (fun w=>by kernel_rfl) b o n c x
theorem c0g:Tryz.prog.underlying 95 = some ((Tryz.prog.underlying 95).getD default):=by kernel_rfl
theorem c8z {v F:Value} {l:List Lnk} (f:Lnk → Bool) (hl:SRow 9 (b8b 9 c6n) w v l)
  (hF:∀ (w':World) (x:Lnk) (cs:List Value) (K':VK) (T:TypeId),Bw w w' → x ∈ l → c6n w' cs x → (∀ w'',Below w'.heap.size w' w'' → K' (.bool (f x)) w'') → oM Tryz.prog (.call { callee:=.value (.tmp 0),args:=#[.tmp 1],argTypes:=#[95] }) T [F,.agg cs.toArray] K' w')
  (k:∀ w',Bw w w' → K (.int .i64 (g8e (l.findIdx? f))) w'):a0a Tryz.prog 205 #[v,F] K w:=by
 apply d6o
 unfold f4r
 obtain ⟨ad,c,rfl⟩:=hl.isSlice
 have hll:=hl.len
 refine Xa0 ?_
 refine ⟨IxJ f l w,f2f l.length,⟨bR,_,_,0,rfl,by omega,fun j r hj=>by omega⟩,?_⟩
 rintro _ _ w1 ⟨h1,u1,u2,i,rfl,hi,ha⟩
 by_cases hin:i = l.length
 ·refine Xa0 ?_
  have:l.findIdx? f = none:=by
   rw [List.findIdx?_eq_none_iff]
   intro x hx
   obtain ⟨j,hj⟩:=List.getElem?_of_mem hx
   exact ha j x (by have:=(gS hj).1; omega) hj
  rw [this] at k
  exact k _ h1
 ·have hil:i < l.length:=by omega
  have er:l[i]? = some l[i]:=gE hil
  have hilZ:(i:Int) < l.length:=by omega
  obtain ⟨b1,o1,rfl,hb1,cs,hcl,hcc,hV⟩:=(hl.next (a1o a4i) h1).at (i:=i) hil
  refine Xa @hilZ ?_
  refine a3n hcc c0g (by kernel_rfl) (by rw [hcl]; kernel_rfl) ?_
  refine Xa0 ?_
  refine hF w1 _ cs _ _ h1 (List.mem_of_getElem? er) hV (fun w2 h2=>?_)
  cases hp:f l[i] with
  | true=>
   refine Xa0 ?_
   have:l.findIdx? f = some i:=by
    rw [List.findIdx?_eq_some_iff_getElem]
    exact ⟨hil,hp,fun j hj=>by rw [ha j _ hj (gE (by omega))]; simp⟩
   rw [this] at k
   exact k _ (h1.on h2)
  | false=>
   refine Xa0 ?_
   refine ⟨⟨h1.on h2,_,_,i + 1,rfl,by omega,fun j r hj hr=>?_⟩,?_⟩
   ·by_cases hji:j = i
    ·subst hji
     rw [er] at hr
     cases hr
     exact hp
    ·exact ha j r (by omega) hr
   ·simp only [b2d]; omega
theorem b8q {v F:Value} {l:List Lnk} (f:Lnk → Bool) (hl:SRow 9 (b8b 9 c6n) w v l)
  (hF:∀ (w':World) (x:Lnk) (cs:List Value) (K':VK) (T:TypeId),Bw w w' → x ∈ l → c6n w' cs x → (∀ w'',Below w'.heap.size w' w'' → K' (.bool (f x)) w'') → oM Tryz.prog (.call { callee:=.value (.tmp 0),args:=#[.tmp 1],argTypes:=#[95] }) T [F,.agg cs.toArray] K' w')
  (k:∀ w',Bw w w' → K (.bool (l.any f)) w'):a0a Tryz.prog 144 #[v,F] K w:=by
 apply d6n
 unfold f4q
 refine c8z f hl hF (fun w' hb=>?_)
 have e:=c8x f l
 refine Xa0 ?_
 rw [e]
 exact k _ hb
theorem a4u:Tryz.prog.underlying 34 = some ((Tryz.prog.underlying 34).getD default):=by kernel_rfl
@[go_sem] theorem g9x (T:TypeId) (b o n c:Nat) (x:Int):oM Tryz.prog (.indexAddr 90 (.tmp 0) (.tmp 1)) T [.slice (some ⟨b,o,none⟩) n c,.int .i64 x] = onM (0 ≤ x ∧ x < n) (.pointer (some ⟨b,o + x.toNat * 18,none⟩)):=
 b7w (K:=fun _ _=>True) (P:=Tryz.prog) (n:=18) 90 T (by kernel_rfl) (fun w=>by kernel_rfl) b o n c x
theorem c0h:Tryz.prog.underlying 93 = some ((Tryz.prog.underlying 93).getD default):=by kernel_rfl
theorem b7t {v F:Value} {l:List Itm} (f:Itm → Bool) (hl:SRow 18 (b8b 18 c5w) w v l)
  (hF:∀ (w':World) (x:Itm) (cs:List Value) (K':VK) (T:TypeId),Bw w w' → x ∈ l → c5w w' cs x → (∀ w'',Below w'.heap.size w' w'' → K' (.bool (f x)) w'') → oM Tryz.prog (.call { callee:=.value (.tmp 0),args:=#[.tmp 1],argTypes:=#[93] }) T [F,.agg cs.toArray] K' w')
  (k:∀ w',Bw w w' → K (.int .i64 (g8e (l.findIdx? f))) w'):a0a Tryz.prog 195 #[v,F] K w:=by
 apply d6t
 unfold f4w
 obtain ⟨ad,c,rfl⟩:=hl.isSlice
 have hll:=hl.len
 refine Xa0 ?_
 refine ⟨IxJ f l w,f2f l.length,⟨bR,_,_,0,rfl,by omega,fun j r hj=>by omega⟩,?_⟩
 rintro _ _ w1 ⟨h1,u1,u2,i,rfl,hi,ha⟩
 by_cases hin:i = l.length
 ·refine Xa0 ?_
  have:l.findIdx? f = none:=by
   rw [List.findIdx?_eq_none_iff]
   intro x hx
   obtain ⟨j,hj⟩:=List.getElem?_of_mem hx
   exact ha j x (by have:=(gS hj).1; omega) hj
  rw [this] at k
  exact k _ h1
 ·have hil:i < l.length:=by omega
  have er:l[i]? = some l[i]:=gE hil
  have hilZ:(i:Int) < l.length:=by omega
  obtain ⟨b1,o1,rfl,hb1,cs,hcl,hcc,hV⟩:=(hl.next (a1o c5x) h1).at (i:=i) hil
  refine Xa @hilZ ?_
  refine a3n hcc c0h (by kernel_rfl) (by rw [hcl]; kernel_rfl) ?_
  refine Xa0 ?_
  refine hF w1 _ cs _ _ h1 (List.mem_of_getElem? er) hV (fun w2 h2=>?_)
  cases hp:f l[i] with
  | true=>
   refine Xa0 ?_
   have:l.findIdx? f = some i:=by
    rw [List.findIdx?_eq_some_iff_getElem]
    exact ⟨hil,hp,fun j hj=>by rw [ha j _ hj (gE (by omega))]; simp⟩
   rw [this] at k
   exact k _ (h1.on h2)
  | false=>
   refine Xa0 ?_
   refine ⟨⟨h1.on h2,_,_,i + 1,rfl,by omega,fun j r hj hr=>?_⟩,?_⟩
   ·by_cases hji:j = i
    ·subst hji
     rw [er] at hr
     cases hr
     exact hp
    ·exact ha j r (by omega) hr
   ·simp only [b2d]; omega
theorem b8r {v F:Value} {l:List Itm} (f:Itm → Bool) (hl:SRow 18 (b8b 18 c5w) w v l)
  (hF:∀ (w':World) (x:Itm) (cs:List Value) (K':VK) (T:TypeId),Bw w w' → x ∈ l → c5w w' cs x → (∀ w'',Below w'.heap.size w' w'' → K' (.bool (f x)) w'') → oM Tryz.prog (.call { callee:=.value (.tmp 0),args:=#[.tmp 1],argTypes:=#[93] }) T [F,.agg cs.toArray] K' w')
  (k:∀ w',Bw w w' → K (.bool (l.any f)) w'):a0a Tryz.prog 189 #[v,F] K w:=by
 apply d6s
 unfold f4v
 refine b7t f hl hF (fun w' hb=>?_)
 have e:=c8x f l
 refine Xa0 ?_
 rw [e]
 exact k _ hb
theorem b7q (n lo hi:Int) (k:K (.bool (PuSpec.within n lo hi)) w):a0a Tryz.prog 49 #[.int .i64 n,.int .i64 lo,.int .i64 hi] K w:=by
 apply e6n
 unfold g2t
 unfold PuSpec.within at k
 by_cases h:lo ≤ n
 ·rw [decide_eq_true h,bT] at k
  refine Xa @h ?_
  exact k
 ·rw [decide_eq_false h,bF] at k
  refine Xa @h ?_
  exact k
theorem a6q (n:Int) (k:K (.bool (a4l n)) w):a0a Tryz.prog 50 #[.int .i64 n] K w:=by
 apply e6o
 unfold g2u
 exact b7q _ _ _ k
theorem a7g (l:Lim) (k:∀ w',Bw w w' → K (.bool (c2p l)) w'):a0a Tryz.prog 8 #[e3z l] K w:=by
 apply f9a
 unfold h1i
 refine a1b (cs:=c2i l) rfl (.start w) fun b1 W hk hb1 hbb=>?_
 have k:=k _ hk.below
 unfold c2p at k
 refine Xa hk.cells ?_
 refine b7q _ _ _ ?_
 cases h1:PuSpec.within l.count 1 4096 with
 | false=>
  rw [h1,bF,bF] at k
  refine Xa hk.cells ?_
  exact k
 | true=>
 rw [h1,bT] at k
 refine Xa hk.cells ?_
 refine a6q _ ?_
 cases h2:a4l l.length with
 | false=>
  rw [h2,bF] at k
  refine Xa hk.cells ?_
  exact k
 | true=>
 rw [h2,bT] at k
 refine Xa hk.cells ?_
 refine b7q _ _ _ ?_
 refine Xa hk.cells ?_
 exact k
theorem b3m (l:Lim) (t:Int) (k:∀ w',Bw w w' → K (.int .i64 (a9i l t)) w'):a0a Tryz.prog 10 #[e3z l,.int .i64 t] K w:=by
 apply e6p
 unfold g2v
 refine a1b (cs:=c2i l) rfl (.start w) fun b1 W hk hb1 hbb=>?_
 refine Xa hk.cells ?_
 refine a7g l (fun w1 h1=>?_)
 have hk:=hk.next h1
 have k:=k _ hk.below
 unfold a9i at k
 cases hl:c2p l with
 | false=>
  rw [hl] at k
  refine Xa hk.cells ?_
  exact k
 | true=>
 rw [hl] at k
 refine Xa hk.cells ?_
 refine a6q _ ?_
 cases ht:a4l t with
 | false=>
  rw [ht] at k
  refine Xa hk.cells ?_
  exact k
 | true=>
 rw [ht] at k
 simp only [Bool.not_true,Bool.or_self,Bool.false_eq_true,if_false] at k
 have ht':=(a4q t).1 ht
 have hl':=b5k hl
 by_cases h0:l.length = 0
 ·rw [if_pos h0] at k
  refine Xa (An2 hk.cells @h0) ?_
  exact k
 ·rw [if_neg h0] at k
  have hq:t.tdiv l.length = t / l.length:=Int.tdiv_eq_ediv_of_nonneg (by omega)
  have hd0:0 ≤ t / l.length:=Int.ediv_nonneg (by omega) (by omega)
  have hd1:t / l.length ≤ t:=Int.ediv_le_self _ (by omega)
  refine Xa (An3 hk.cells @h0 @hq) ?_
  exact k
theorem c5n (l:Lim) (n:Int) (k:∀ w',Bw w w' → K (.int .i64 (b6j l n)) w'):a0a Tryz.prog 12 #[e3z l,.int .i64 n] K w:=by
 apply e6q
 unfold g2w
 refine a1b (cs:=c2i l) rfl (.start w) fun b1 W hk hb1 hbb=>?_
 refine Xa hk.cells ?_
 refine a7g l (fun w1 h1=>?_)
 have hk:=hk.next h1
 have k:=k _ hk.below
 unfold b6j at k
 cases hl:c2p l with
 | false=>
  rw [hl] at k
  refine Xa hk.cells ?_
  exact k
 | true=>
 rw [hl] at k
 refine Xa hk.cells ?_
 refine a6q _ ?_
 cases ht:a4l n with
 | false=>
  rw [ht] at k
  refine Xa hk.cells ?_
  exact k
 | true=>
 rw [ht] at k
 have ht':=(a4q n).1 ht
 have hl':=b5k hl
 have hm0:0 ≤ n * l.length:=Int.mul_nonneg (by omega) (by omega)
 have hm1:n * l.length ≤ 2147483648 * 2147483648:=Int.mul_le_mul (by omega) (by omega) (by omega) (by omega)
 have hw:IntKind.i64.wrap (n * l.length) = n * l.length:=a0u _ (by omega) (by omega)
 refine Xa (An2 hk.cells @hw) ?_
 refine a6q _ ?_
 cases hb:a4l (n * l.length) with
 | false=>
  rw [hb] at k
  refine Xa (An2 hk.cells @hw) ?_
  exact k
 | true=>
  rw [hb] at k
  refine Xa (An2 hk.cells @hw) ?_
  exact k
end
end Go.Proofs
namespace Go.Proofs
open Go Go.Sh Go.RowKit FdSpec TkSpec CodeSpec
section
@[go_sem] theorem g9u (T:TypeId) (a b:Tkt):oM Tryz.prog (.binOp .eql 31 (.tmp 0) (.tmp 1) 31) T [b7p a,b7p b] = a0f (.bool (decide (a = b))):=by
 funext K w
 have h1:(eqGuard .eql 31 (.tmp 0) (.tmp 1) (b7p a) (b7p b)).run Tryz.prog w = .ok () w:=run_eqGuard_agg w _ _ _ _ _ _ (by kernel_rfl)
 have h2:(binOp .eql 31 (b7p a) (b7p b)).run Tryz.prog w = .ok (.bool (decide (a = b))) w:=by
  rw [run_eql_struct,run_equalIn_agg w 9999 31 _ _ (by kernel_rfl) (by kernel_rfl)]
  have u3:=Tryz.underlying3
  have e:decide (a = b) = ((a.mark == b.mark) && (a.first == b.first) && (a.z == b.z) && (a.a == b.a) && (a.b == b.b) && (a.r == b.r)):=by
   obtain ⟨a1,a2,a3,a4,a5,a6⟩:=a
   obtain ⟨b1,b2,b3,b4,b5,b6⟩:=b
   simp [Tkt.mk.injEq,and_assoc,Bool.and_assoc]
   rfl
  rw [e]
  simp [go_sem,Program.fieldsOf,Tryz.underlying31,Op.eqFields,part,u3]
  repeat' split
  all_goals simp_all
 unfold oM opM
 simp [xop,execOp,a1e,evE,h1,h2]
 exact Iff.rfl
end
end Go.Proofs
namespace Go.Proofs
open Go.Sh Tryz
variable {a0 a1 a2:Value} {K:VK} {w:World}
def g2z (a0:Value) (K:VK) (w:World):Prop:=
 oM prog (.box 31 (.tmp 0)) 0 [a0] (fun v1=>
 kF 31 0 v1 fun v3=>
 kL 3 v3 fun v4=>
 kF 31 1 v1 fun v5=>
 kL 3 v5 fun v6=>
 kF 31 2 v1 fun v7=>
 kL 3 v7 fun v8=>
 kF 31 3 v1 fun v9=>
 kL 3 v9 fun v10=>
 kF 31 4 v1 fun v11=>
 kL 3 v11 fun v12=>
 kF 31 5 v1 fun v13=>
 kL 3 v13 fun v14=>
 oM prog (.buildSlice 24 6 #[(0,(.tmp 0)),(1,(.tmp 1)),(2,(.tmp 2)),(3,(.tmp 3)),(4,(.tmp 4)),(5,(.tmp 5))]) 24 [v4,v6,v8,v10,v12,v14] fun v15=>
 K v15) w
theorem e6t (h:g2z a0 K w):a0a prog 83 #[a0] K w:=
 cZ (fun _=>0) func83 h
def g3a (a0:Value) (K:VK) (w:World):Prop:=
 oM prog (.box 34 (.tmp 0)) 0 [a0] (fun v1=>
 kF 34 3 v1 fun v9=>
 kL 29 v9 fun v10=>
 kA 29 fun v3=>
 kS 29 v3 v10 fun _=>
 kH fun C_5 w=>(((true:Bool) = true) ∧ (jF 34 0 v1 C_5 fun v11=>
 jL 3 v11 C_5 fun v12=>
 jF 34 1 v1 C_5 fun v13=>
 jL 3 v13 C_5 fun v14=>
 jF 34 2 v1 C_5 fun v16=>
 jL 24 v16 C_5 fun v17=>
 jF 29 0 v3 C_5 fun v18=>
 jL 3 v18 C_5 fun v19=>
 jF 29 1 v3 C_5 fun v20=>
 jL 3 v20 C_5 fun v21=>
 jF 29 2 v3 C_5 fun v22=>
 jL 3 v22 C_5 fun v23=>
 jF 29 3 v3 C_5 fun v25=>
 jL 24 v25 C_5 fun v26=>
 jF 34 4 v1 C_5 fun v27=>
 jL 31 v27 C_5 fun v28=>
 a0g (.int .i64 0) C_5 fun v32=>
 ∃ S_23:World → WK,xR S_23 fun R_24=>
 (∀ w,C_5 w → (oM prog (.buildSlice 24 2 #[(0,(.tmp 0)),(1,(.tmp 1))]) 24 [v12,v14] (xK C_5 S_23 R_24 w) w)) ∧
 (xR S_23 fun R_25=>
 (∀ w,C_5 w → (oM prog (.buildSlice 24 3 #[(0,(.tmp 0)),(1,(.tmp 1)),(2,(.tmp 2))]) 24 [v19,v21,v23] (xK C_5 S_23 R_25 w) w)) ∧
 (xR S_23 fun R_26=>
 (∀ w,C_5 w → (a0a prog 83 #[v28] (xK C_5 S_23 R_26 w) w)) ∧
 (xR S_23 fun R_27=>
 (∀ w,C_5 w → ∀ v15,R_24 v15 w → ∀ v24,R_25 v24 w → ∀ v29,R_26 v29 w → (oM prog (.buildSlice 123 5 #[(0,(.tmp 0)),(1,(.tmp 1)),(2,(.tmp 2)),(3,(.tmp 3)),(4,(.tmp 4))]) 123 [v15,v17,v24,v26,v29] (xK C_5 S_23 R_27 w) w)) ∧
 (xR S_23 fun R_31=>
 (∀ w,C_5 w → ∀ v30,R_27 v30 w → (kN 123 v30 (xK C_5 S_23 R_31 w) w)) ∧
 (∀ w,C_5 w → ∀ v15,R_24 v15 w → ∀ v24,R_25 v24 w → ∀ v29,R_26 v29 w → ∀ v30,R_27 v30 w → ∀ v31,R_31 v31 w → (kQ [undef,(.string ⟨#[]⟩),v32] (fun J_38 m_39 l_40 u_l_40 w0_l_40=>(fun w=>(
 kB .lss 3 0 (l_40.getD 2 undef) v31 (fun v33=>
 kO v33 (kI 123 v30 (l_40.getD 2 undef) fun v34=>
 kL 24 v34 fun v35=>
 a0a prog 84 #[v35] fun v38=>
 kB .add 9 9 (l_40.getD 1 undef) v38 fun v39=>
 kB .add 3 3 (l_40.getD 2 undef) (.int .i64 1) fun v40=>
 kJ J_38 m_39 l_40 w0_l_40 [v35,v39,v40])
 (kF 34 5 v1 fun v42=>
 kL 32 v42 fun v43=>
 kN 32 v43 fun v44=>
 a0a prog 65 #[v44] fun v45=>
 kB .add 9 9 (l_40.getD 1 undef) v45 fun v46=>
 kF 34 5 v1 fun v47=>
 kL 32 v47 fun v48=>
 kN 32 v48 fun v49=>
 kQ [v46,(.int .i64 0)] fun J_55 m_56 l_57 u_l_57 w0_l_57=>(fun w=>(
 kB .lss 3 0 (l_57.getD 1 undef) v49 (fun v51=>
 kO v51 (kI 32 v48 (l_57.getD 1 undef) fun v52=>
 kL 95 v52 fun v53=>
 kA 95 fun v8=>
 kS 95 v8 v53 fun _=>
 kH fun C_62 w=>(((true:Bool) = true) ∧ (a0g (l_57.getD 0 undef) C_62 fun v54=>
 jF 95 0 v8 C_62 fun v55=>
 jL 31 v55 C_62 fun v56=>
 jF 95 1 v8 C_62 fun v59=>
 jF 84 0 v59 C_62 fun v60=>
 jL 3 v60 C_62 fun v61=>
 jF 95 1 v8 C_62 fun v64=>
 jF 84 1 v64 C_62 fun v65=>
 jL 24 v65 C_62 fun v66=>
 jF 95 2 v8 C_62 fun v69=>
 jL 9 v69 C_62 fun v70=>
 ∃ S_74:World → WK,xR S_74 fun R_75=>
 (∀ w,C_62 w → (a0a prog 83 #[v56] (xK C_62 S_74 R_75 w) w)) ∧
 (xR S_74 fun R_76=>
 (∀ w,C_62 w → ∀ v57,R_75 v57 w → (a0a prog 84 #[v57] (xK C_62 S_74 R_76 w) w)) ∧
 (xR S_74 fun R_78=>
 (∀ w,C_62 w → (a0a prog 85 #[v61] (xK C_62 S_74 R_78 w) w)) ∧
 (xR S_74 fun R_79=>
 (∀ w,C_62 w → ∀ v58,R_76 v58 w → ∀ v62,R_78 v62 w → (kB .add 9 9 v58 v62 (xK C_62 S_74 R_79 w) w)) ∧
 (xR S_74 fun R_82=>
 (∀ w,C_62 w → (a0a prog 84 #[v66] (xK C_62 S_74 R_82 w) w)) ∧
 (xR S_74 fun R_83=>
 (∀ w,C_62 w → ∀ v63,R_79 v63 w → ∀ v67,R_82 v67 w → (kB .add 9 9 v63 v67 (xK C_62 S_74 R_83 w) w)) ∧
 (xR S_74 fun R_86=>
 (∀ w,C_62 w → (a0a prog 66 #[v70] (xK C_62 S_74 R_86 w) w)) ∧
 (xR S_74 fun R_87=>
 (∀ w,C_62 w → ∀ v68,R_83 v68 w → ∀ v71,R_86 v71 w → (kB .add 9 9 v68 v71 (xK C_62 S_74 R_87 w) w)) ∧
 (∀ w,C_62 w → ∀ v57,R_75 v57 w → ∀ v58,R_76 v58 w → ∀ v62,R_78 v62 w → ∀ v63,R_79 v63 w → ∀ v67,R_82 v67 w → ∀ v68,R_83 v68 w → ∀ v71,R_86 v71 w → ∀ v72,R_87 v72 w → (
 kB .add 9 9 v54 v72 (fun v73=>
 kB .add 3 3 (l_57.getD 1 undef) (.int .i64 1) fun v74=>
 kJ J_55 m_56 l_57 w0_l_57 [v73,v74]) w))))))))))))
 (K (l_57.getD 0 undef))) w)) w0_l_57)) w)) w0_l_40) w))))))))) w
theorem e6u (h:g3a a0 K w):a0a prog 23 #[a0] K w:=
 cZ (mz [(3,.free [0,1,2,3,5,6,7,8,9,10,11,12,14,15,16,17,21] [4,13,18,19,20] []),(12,.free [0,1,2,5,6,7,10,11,12,15,16] [3,4,8,9,13,14,17,18] [19,20])]) func23 h
def g3b (a0 a1:Value) (K:VK) (w:World):Prop:=
 a0a prog 50 #[a0] (fun v6=>
 kU v6 fun v7 w=>
 gF v7 (a0f a1) (fun v9 w=>
 gF v7 (kN 9 v9) (fun v10 w=>
 gF v7 (kB .gtr 3 4 v10 (.int .i64 20)) (fun v11=>
 kP v7 (.bool true) v11 fun v12=>
 kO v12 (K (.string ⟨#[]⟩))
 (a0a prog 65 #[a0] fun v14=>
 a0a prog 66 #[a1] fun v16=>
 kB .add 9 9 v14 v16 fun v17=>
 K v17)) w) w) w) w
theorem e6v (h:g3b a0 a1 K w):a0a prog 19 #[a0,a1] K w:=
 cZ (fun _=>0) func19 h
def g3c (a0:Value) (K:VK) (w:World):Prop:=
 a0a prog 52 #[a0] (fun v7=>
 a0a prog 62 #[v7] fun v9=>
 a0a prog 63 #[v7] fun v11=>
 a0a prog 54 #[v7] fun v13=>
 kU v13 fun v14 w=>
 gF v14 (a0f v9) (fun v16 w=>
 gF v14 (a0f v11) (fun v17 w=>
 gF v14 (a0a prog 19 #[v16,v17]) (fun v18 w=>
 gF v14 (oM prog (.binOp .eql 9 (.tmp 0) (.const (.string ⟨#[]⟩)) 9) 4 [v18]) (fun v19=>
 kP v14 (.bool true) v19 fun v20=>
 kO v20 (K (.tuple #[(.int .i64 0),(.string ⟨#[]⟩),(.bool false)]))
 (K (.tuple #[v9,v11,(.bool true)]))) w) w) w) w) w
theorem e6w (h:g3c a0 K w):a0a prog 16 #[a0] K w:=
 cZ (fun _=>0) func16 h
def g3d (a0 a1:Value) (K:VK) (w:World):Prop:=
 a0a prog 16 #[a0] (fun v13=>
 kE 0 3 v13 fun v14=>
 kE 1 9 v13 fun v15=>
 kE 2 4 v13 fun v16=>
 a0a prog 16 #[a1] fun v19=>
 kE 0 3 v19 fun v20=>
 kE 1 9 v19 fun v21=>
 kE 2 4 v19 fun v22 w=>
 gT v16 (a0f v22) (fun v25=>
 kP v16 v25 (.bool false) fun v26 w=>
 gT v26 (a0f v14) (fun v28 w=>
 gT v26 (a0f v20) (fun v29 w=>
 gT v26 (kB .leq 3 4 v28 v29) (fun v30=>
 kP v26 v30 (.bool false) fun v31 w=>
 gT v31 (a0f v21) (fun v33 w=>
 gT v31 (oM prog (.binOp .eql 9 (.tmp 0) (.const (.string ⟨#[]⟩)) 9) 4 [v33]) (fun v34 w=>
 gT v31 (a0f v34) (fun v35 w=>
 gF v35 (a0f v15) (fun v36 w=>
 gF v35 (a0f v21) (fun v37 w=>
 gF v35 (kB .eql 9 4 v36 v37) (fun v38 w=>
 gT v31 (kP v35 (.bool true) v38) (fun v39=>
 kP v31 v39 (.bool false) fun v40=>
 K v40) w) w) w) w) w) w) w) w) w) w) w) w
theorem e6x (h:g3d a0 a1 K w):a0a prog 25 #[a0,a1] K w:=
 cZ (fun _=>0) func25 h
def f4x (a0 a1:Value) (K:VK) (w:World):Prop:=
 oM prog (.nilCheck (.tmp 0)) 0 [a0] (fun v7=>
 kF 102 0 v7 fun v8=>
 kL 99 v8 fun v9=>
 a0a prog 129 #[v9] fun v10=>
 kN 24 v10 fun v12=>
 kB .eql 3 4 v12 a1 fun v14=>
 kO v14 (K v10)
 (oM prog (.nilCheck (.tmp 0)) 0 [a0] fun v17=>
 kF 102 1 v17 fun v18=>
 kS 4 v18 (.bool true) fun _=>
 oM prog (.makeSlice 24 (.tmp 0) (.tmp 1)) 24 [a1,a1] fun v20=>
 K v20)) w
theorem d6u (h:f4x a0 a1 K w):a0a prog 128 #[a0,a1] K w:=
 cZ (fun _=>0) func128 h
def f4y (a0:Value) (K:VK) (w:World):Prop:=
 kA 31 (fun v2=>
 a0a prog 128 #[a0,(.int .i64 6)] fun v5=>
 kH fun C_3 w=>(((true:Bool) = true) ∧ (a0g v5 C_3 fun v6=>
 jI 24 v6 (.int .i64 0) C_3 fun v7=>
 jL 3 v7 C_3 fun v8=>
 a0g v5 C_3 fun v9=>
 jI 24 v9 (.int .i64 1) C_3 fun v10=>
 jL 3 v10 C_3 fun v11=>
 a0g v5 C_3 fun v12=>
 jI 24 v12 (.int .i64 2) C_3 fun v13=>
 jL 3 v13 C_3 fun v14=>
 a0g v5 C_3 fun v15=>
 jI 24 v15 (.int .i64 3) C_3 fun v16=>
 jL 3 v16 C_3 fun v17=>
 a0g v5 C_3 fun v18=>
 jI 24 v18 (.int .i64 4) C_3 fun v19=>
 jL 3 v19 C_3 fun v20=>
 a0g v5 C_3 fun v21=>
 jI 24 v21 (.int .i64 5) C_3 fun v22=>
 jL 3 v22 C_3 fun v23=>
 ∃ S_22:World → WK,∀ w,C_3 w → (
 oM prog (.build 31 #[(0,(.tmp 0)),(1,(.tmp 1)),(2,(.tmp 2)),(3,(.tmp 3)),(4,(.tmp 4)),(5,(.tmp 5))]) 31 [v8,v11,v14,v17,v20,v23] (fun v24=>
 kS 31 v2 v24 fun _=>
 kR 31 v2 K) w)))) w
theorem d6v (h:f4y a0 K w):a0a prog 130 #[a0] K w:=
 cZ (fun _=>(fz 18 0 2)) func130 h
def g3e (a0:Value) (K:VK) (w:World):Prop:=
 kA 34 (fun v2=>
 a0a prog 52 #[a0] fun v7=>
 oM prog (.build 102 #[(0,(.tmp 0))]) 102 [v7] fun v8=>
 oM prog (.box 102 (.tmp 0)) 98 [v8] fun v9=>
 a0a prog 53 #[v9] fun v11=>
 kA 34 fun v5=>
 kS 34 v5 v11 fun _=>
 oM prog (.nilCheck (.tmp 0)) 0 [v9] fun v13=>
 kF 102 1 v13 fun v14=>
 kL 4 v14 fun v15 w=>
 gF v15 (a0f v9) (fun v17 w=>
 gF v15 (oM prog (.nilCheck (.tmp 0)) 0 [v17]) (fun v18 w=>
 gF v15 (kF 102 0 v18) (fun v19 w=>
 gF v15 (kL 99 v19) (fun v20 w=>
 gF v15 (a0a prog 54 #[v20]) (fun v21 w=>
 gF v15 (kU v21) (fun v22=>
 kP v15 (.bool true) v22 fun v23=>
 kO v23 (oM prog (.build 34 #[]) 34 [] fun v24=>
 kS 34 v2 v24 fun _ w=>
 ∃ r_18,(do loadVar 34 (← asAddr v2):Sem Value).run prog w = .ok r_18 w ∧ K (.tuple #[r_18,(.bool false)]) w)
 (kL 34 v5 fun v25=>
 kS 34 v2 v25 fun _ w=>
 ∃ r_20,(do loadVar 34 (← asAddr v2):Sem Value).run prog w = .ok r_20 w ∧ K (.tuple #[r_20,(.bool true)]) w)) w) w) w) w) w) w) w
theorem e6y (h:g3e a0 K w):a0a prog 14 #[a0] K w:=
 cZ (fun _=>0) func14 h
def g3f (a0 a1 a2:Value) (K:VK) (w:World):Prop:=
 oM prog (.box 26 (.tmp 0)) 0 [a0] (fun v3=>
 oM prog (.box 34 (.tmp 0)) 0 [a2] fun v5=>
 kH fun C_3 w=>(((true:Bool) = true) ∧ (jF 26 0 v3 C_3 fun v12=>
 jF 23 1 v12 C_3 fun v13=>
 jL 3 v13 C_3 fun v14=>
 jF 34 3 v5 C_3 fun v15=>
 jL 29 v15 C_3 fun v16=>
 ∃ S_9:World → WK,xR S_9 fun R_10=>
 (∀ w,C_3 w → (kA 29 (xK C_3 S_9 R_10 w) w)) ∧
 (xR S_9 fun R_11=>
 (∀ w,C_3 w → (C_3 w ∧ S_9 w w ∧ R_11 v14 w)) ∧
 (∀ w,C_3 w → ∀ v8,R_10 v8 w → ∀ v7,R_11 v7 w → (
 kS 29 v8 v16 (fun _=>
 kL 26 v3 fun v18=>
 a0a prog 69 #[v18] fun v19=>
 kU v19 fun v20 w=>
 gF v20 (kF 34 0 v5) (fun v22 w=>
 gF v20 (kL 3 v22) (fun v23 w=>
 gF v20 (kB .lss 3 4 v23 (.int .i64 0)) (fun v24=>
 kP v20 (.bool true) v24 fun v25 w=>
 gF v25 (kF 34 0 v5) (fun v27 w=>
 gF v25 (kL 3 v27) (fun v28 w=>
 gF v25 (a0f a1) (fun v29 w=>
 gF v25 (kN 27 v29) (fun v30 w=>
 gF v25 (kB .geq 3 4 v28 v30) (fun v31=>
 kP v25 (.bool true) v31 fun v32 w=>
 gF v32 (kF 34 1 v5) (fun v34 w=>
 gF v32 (kL 3 v34) (fun v35 w=>
 gF v32 (a0a prog 50 #[v35]) (fun v36 w=>
 gF v32 (kU v36) (fun v37=>
 kP v32 (.bool true) v37 fun v38 w=>
 gF v38 (kF 34 5 v5) (fun v40 w=>
 gF v38 (kL 32 v40) (fun v41 w=>
 gF v38 (a0a prog 70 #[v41]) (fun v42 w=>
 gF v38 (kU v42) (fun v43=>
 kP v38 (.bool true) v43 fun v44=>
 kO v44 (K (.bool false))
 (kF 34 2 v5 fun v46=>
 kL 24 v46 fun v47=>
 kN 24 v47 fun v48=>
 kF 26 1 v3 fun v49=>
 kL 24 v49 fun v50=>
 kN 24 v50 fun v51=>
 kB .sub 3 3 v51 (.int .i64 1) fun v52=>
 kB .neq 3 4 v48 v52 fun v53 w=>
 gF v53 (kF 34 2 v5) (fun v55 w=>
 gF v53 (kL 24 v55) (fun v56 w=>
 gF v53 (kN 24 v56) (fun v57 w=>
 gF v53 (kC .eql 3 0 4 v57) (fun v58=>
 kP v53 (.bool true) v58 fun v59 w=>
 gF v59 (kF 34 2 v5) (fun v61 w=>
 gF v59 (kL 24 v61) (fun v62 w=>
 gF v59 (kI 24 v62 (.int .i64 0)) (fun v63 w=>
 gF v59 (kL 3 v63) (fun v64 w=>
 gF v59 (kB .lss 3 4 v64 (.int .i64 1)) (fun v65=>
 kP v59 (.bool true) v65 fun v66 w=>
 gF v66 (kF 29 3 v8) (fun v68 w=>
 gF v66 (kL 24 v68) (fun v69 w=>
 gF v66 (kN 24 v69) (fun v70 w=>
 gF v66 (kF 26 1 v3) (fun v71 w=>
 gF v66 (kL 24 v71) (fun v72 w=>
 gF v66 (kN 24 v72) (fun v73 w=>
 gF v66 (kB .neq 3 4 v70 v73) (fun v74=>
 kP v66 (.bool true) v74 fun v75=>
 kO v75 (K (.bool false))
 (kF 34 2 v5 fun v78=>
 kL 24 v78 fun v79=>
 a0a prog 71 #[v7,v79] fun v80=>
 kU v80 fun v81 w=>
 gF v81 (a0f v7) (fun v83 w=>
 gF v81 (kF 29 3 v8) (fun v84 w=>
 gF v81 (kL 24 v84) (fun v85 w=>
 gF v81 (a0a prog 71 #[v83,v85]) (fun v86 w=>
 gF v81 (kU v86) (fun v87=>
 kP v81 (.bool true) v87 fun v88 w=>
 gF v88 (a0f v7) (fun v90 w=>
 gF v88 (kF 29 0 v8) (fun v91 w=>
 gF v88 (kL 3 v91) (fun v92 w=>
 gF v88 (kF 29 1 v8) (fun v93 w=>
 gF v88 (kL 3 v93) (fun v94 w=>
 gF v88 (kF 29 2 v8) (fun v95 w=>
 gF v88 (kL 3 v95) (fun v96 w=>
 gF v88 (oM prog (.buildSlice 24 3 #[(0,(.tmp 0)),(1,(.tmp 1)),(2,(.tmp 2))]) 24 [v92,v94,v96]) (fun v97 w=>
 gF v88 (a0a prog 71 #[v90,v97]) (fun v98 w=>
 gF v88 (kU v98) (fun v99=>
 kP v88 (.bool true) v99 fun v100 w=>
 gF v100 (kF 29 0 v8) (fun v102 w=>
 gF v100 (kL 3 v102) (fun v103 w=>
 gF v100 (kC .eql 3 0 4 v103) (fun v104=>
 kP v100 (.bool true) v104 fun v105 w=>
 gF v105 (kF 29 1 v8) (fun v107 w=>
 gF v105 (kL 3 v107) (fun v108 w=>
 gF v105 (kC .eql 3 0 4 v108) (fun v109=>
 kP v105 (.bool true) v109 fun v110=>
 kO v110 (K (.bool false))
 (kF 26 0 v3 fun v112=>
 kL 23 v112 fun v113=>
 kF 26 1 v3 fun v114=>
 kL 24 v114 fun v115=>
 kF 29 3 v8 fun v116=>
 kL 24 v116 fun v117=>
 a0a prog 72 #[v113,v115,v117] fun v118=>
 kE 0 3 v118 fun v119=>
 kE 1 4 v118 fun v120=>
 kH fun C_102 w=>(((true:Bool) = true) ∧ (jF 26 0 v3 C_102 fun v121=>
 jL 23 v121 C_102 fun v122=>
 jL 26 v3 C_102 fun v123=>
 jF 34 2 v5 C_102 fun v124=>
 jL 24 v124 C_102 fun v125=>
 jF 29 0 v8 C_102 fun v127=>
 jL 3 v127 C_102 fun v128=>
 ∃ S_110:World → WK,xR S_110 fun R_111=>
 (∀ w,C_102 w → (a0a prog 74 #[v123,v125] (xK C_102 S_110 R_111 w) w)) ∧
 (∀ w,C_102 w → ∀ v126,R_111 v126 w → (
 a0a prog 73 #[v122,v126,v128] (fun v129=>
 kL 26 v3 fun v130=>
 kF 34 4 v5 fun v131=>
 kL 31 v131 fun v132=>
 a0a prog 75 #[v130,v132] fun v133 w=>
 gT v133 (kF 34 4 v5) (fun v135 w=>
 gT v133 (kF 31 0 v135) (fun v136 w=>
 gT v133 (kL 3 v136) (fun v137 w=>
 gT v133 (a0f v129) (fun v138 w=>
 gT v133 (kB .eql 3 4 v137 v138) (fun v139=>
 kP v133 v139 (.bool false) fun v140 w=>
 gT v140 (kF 34 4 v5) (fun v142 w=>
 gT v140 (kF 31 1 v142) (fun v143 w=>
 gT v140 (kL 3 v143) (fun v144 w=>
 gT v140 (a0f v119) (fun v145 w=>
 gT v140 (kB .eql 3 4 v144 v145) (fun v146=>
 kP v140 v146 (.bool false) fun v147=>
 K v147) w) w) w) w) w) w) w) w) w) w) w)))))) w) w) w) w) w) w) w) w) w) w) w) w) w) w) w) w) w) w) w) w) w)) w) w) w) w) w) w) w) w) w) w) w) w) w) w) w) w)) w) w) w) w) w) w) w) w) w) w) w) w) w) w) w) w) w)))))) w
theorem e6z (h:g3f a0 a1 a2 K w):a0a prog 21 #[a0,a1,a2] K w:=
 cZ (mz [(1,fz 5 2 1),(9,.free [0,1,2,3,4,6,7] [5] [8,9])]) func21 h
end Go.Proofs
namespace Go.Proofs
open Go Go.Sh Go.RowKit FdSpec TkSpec CodeSpec PuSpec
section
variable {K:VK} {w w' w0 W W':World} {L:List (Addr × Value)}
theorem g1e (a b:Tkt) (k:∀ w',Bw w w' → K (.bool (decide (a = b))) w'):a0a Tryz.prog 191 #[b7p a,b7p b] K w:=by
 apply d6l
 unfold f4o
 refine a1b (cs:=b4y a) rfl (.start w) fun b1 W hk hb1 hbb=>?_
 refine a1b (cs:=b4y b) rfl hk fun b2 W hk hb2 hbb=>?_
 have k:=k _ hk.below
 refine Xa hk.cells ?_
 exact k
theorem b2e (q:Int) {v:Value} {l:List Int} (hl:Ints w v l) (k:∀ w',Bw w w' → K (.bool (a2t q l)) w'):a0a Tryz.prog 71 #[.int .i64 q,v] K w:=by
 apply e6r
 unfold g2x
 refine a1b (cs:=[.int .i64 q]) rfl (.start w) fun b1 W hk hb1 hbb=>?_
 clear hb1
 refine Xa0 ?_
 refine a7v (fun n=>decide (n < 0) || decide (q ≤ n)) (hl.next hk.below) ?_ (fun w2 h2=>?_)
 ·intro w' x K' T hb hx h'
  refine a3q (by kernel_rfl) ?_
  have hk:=hk.next hb
  have h':=h' _ (bR)
  apply d6m
  unfold f4p
  by_cases h1:x < 0
  ·rw [decide_eq_true h1,Bool.true_or] at h'
   refine Xa (An2 hk.cells @h1) ?_
   exact h'
  ·rw [decide_eq_false h1,Bool.false_or] at h'
   refine Xa (An2 hk.cells @h1) ?_
   exact h'
 ·have k:=k _ (hk.below.on h2)
  unfold a2t at k
  refine Xa0 ?_
  exact k
theorem d3q (x:Lnk) {av:Value} (ha:Ints w av x.spend.answers) (k:∀ w',Bw w w' → K (.bool (decide (200 < x.terms.length) || decide (7 < x.spend.answers.length))) w'):a0a Tryz.prog 145 #[lkV x av] K w:=by
 apply d6p
 unfold f4s
 obtain ⟨ad,c,rfl⟩:=ha.isSlice
 refine a1b (cs:=lkC x (.slice ad x.spend.answers.length c)) rfl (.start w) fun b1 W hk hb1 hbb=>?_
 have k:=k _ hk.below
 by_cases h1:200 < x.terms.length
 ·have h1':(200:Int) < x.terms.length:=by omega
  rw [decide_eq_true h1,Bool.true_or] at k
  refine Xa (An3 hk.cells @h1' @a3o) ?_
  exact k
 ·have h1':¬ (200:Int) < x.terms.length:=by omega
  rw [decide_eq_false h1,Bool.false_or] at k
  have e:decide (7 < x.spend.answers.length) = decide ((7:Int) < x.spend.answers.length):=by congr 1; exact propext ⟨fun h=>by omega,fun h=>by omega⟩
  rw [e] at k
  refine Xa (An3 hk.cells @h1' @a3o) ?_
  exact k
theorem d3r (l:List Lnk) {v:Value} (hl:b7s w v l) (k:∀ w',Bw w w' → K (.bool (a7q l)) w'):a0a Tryz.prog 70 #[v] K w:=by
 apply e6s
 unfold g2y
 have hl':=hl
 obtain ⟨ad,c,rfl⟩:=hl.isSlice
 unfold a7q at k
 by_cases h4:l.length ≤ 4
 ·have h4':(l.length:Int) ≤ 4:=by omega
  rw [decide_eq_true h4,bT] at k
  refine Xa @h4' ?_
  refine b8q (fun x=>decide (200 < x.terms.length) || decide (7 < x.spend.answers.length)) hl' ?_ (fun w2 h2=>?_)
  ·rintro w' x cs K' T hb hx ⟨av,rfl,ha,_⟩ h'
   refine a3q (by kernel_rfl) ?_
   exact d3q x ha h'
  ·have k:=k _ h2
   refine Xa0 ?_
   exact k
 ·have h4':¬ (l.length:Int) ≤ 4:=by omega
  rw [decide_eq_false h4,bF] at k
  refine Xa @h4' ?_
  exact k _ (bR)
theorem mk6 {T:TypeId} (a b c d e f:Int) (hr:∀ x ∈ [a,b,c,d,e,f],I64 x) (k:∀ v W,Bw w W → Ints W v [a,b,c,d,e,f] → K v W):oM Tryz.prog (.buildSlice 24 6 #[(0,.tmp 0),(1,.tmp 1),(2,.tmp 2),(3,.tmp 3),(4,.tmp 4),(5,.tmp 5)]) T [.int .i64 a,.int .i64 b,.int .i64 c,.int .i64 d,.int .i64 e,.int .i64 f] K w:=by
 have e1:(Instr.buildSlice 24 6 #[(0,.int .i64 a),(1,.int .i64 b),(2,.int .i64 c),(3,.int .i64 d),(4,.int .i64 e),(5,.int .i64 f)]).run Tryz.prog w = .ok (.slice (some ⟨w.heap.size,0,none⟩) 6 6) (w.alloc (.cells #[.int .i64 a,.int .i64 b,.int .i64 c,.int .i64 d,.int .i64 e,.int .i64 f] 3)):=by kernel_rfl
 rw [a6u (S:=Instr.buildSlice 24 6 #[(0,.int .i64 a),(1,.int .i64 b),(2,.int .i64 c),(3,.int .i64 d),(4,.int .i64 e),(5,.int .i64 f)]) (by simp [xop,execOp,a1e,evE]),e1]
 exact k _ _ ((Below.refl _ w).alloc (rL) _) (a5d w [a,b,c,d,e,f] _ 6 hr (by simp))
theorem a1f {n:Int} (h:InR n):I64 n:=by unfold InR at h; unfold I64; omega
theorem c0e (t:Tkt) (ht:WTkt t) (k:∀ w' v,Bw w w' → Ints w' v (a5m t) → K v w'):a0a Tryz.prog 83 #[b7p t] K w:=by
 apply e6t
 unfold g2z
 refine a1b (cs:=b4y t) rfl (.start w) fun b1 W hk hb1 hbb=>?_
 refine Xa hk.cells ?_
 refine mk6 _ _ _ _ _ _ (fun x hx=>a1f (ht.all x hx)) (fun v W2 h2 hi=>k _ _ (hk.below.on h2) hi)
theorem e3w {n:Int} (h:InR n):(a1a n).length ≤ 30:=by
 have:=Cd.encInt_len n h
 unfold a1a
 split
 ·simp
 ·omega
theorem c2g (n:Int) (q:a0h) (hq:q.length < 2 ^ 60) (hl:Cd.LaidE w) (k:∀ w',Bw w w' → K (.string ⟨(a7s n q).toArray⟩) w'):a0a Tryz.prog 19 #[.int .i64 n,.string ⟨q.toArray⟩] K w:=by
 apply e6v
 unfold g3b
 unfold a7s at k
 refine a6q n ?_
 cases ht:a4l n with
 | false=>
  rw [ht] at k
  refine Xa0 ?_
  exact k _ (bR)
 | true=>
 rw [ht] at k
 have ht':=(a4q n).1 ht
 by_cases h20:20 < q.length
 ·have h20':(20:Int) < q.length:=by omega
  rw [decide_eq_true h20] at k
  refine Xa (An2 @h20' @a3o) ?_
  exact k _ (bR)
 have h20':¬ (20:Int) < q.length:=by omega
 rw [decide_eq_false h20] at k
 refine Xa (An2 @h20' @a3o) ?_
 refine Cd.pNum_ok n ⟨by omega,by omega⟩ hl.toLaid (fun w1 h1=>?_)
 refine Cd.pText_ok q hq (hl.below h1 hl.size).toLaid (fun w2 h2=>?_)
 have k:=k _ (h1.on h2)
 have hle:=Cd.encText_len q (by omega)
 have hnl:=e3w (n:=n) ⟨by omega,by omega⟩
 refine Xa0 ?_
 exact k
theorem a5f (s:a0h):((⟨s.toArray⟩:ByteArray) = ⟨#[]⟩) = (s = []):=by
 simp
end
section
variable {K:VK} {w w' w0 W W':World} {L:List (Addr × Value)} {rb b:Nat} {r:Rb}
theorem b0y (r:Rd):Cd.rdDone r = a7r r:=rfl
theorem b0z (s:a0h) (hs:s.length < 2 ^ 40) (hl:Cd.LaidE w) (k:∀ w',Bw w w' → K (.tuple #[.int .i64 (a0o s).1.1,.string ⟨(a0o s).1.2.toArray⟩,.bool (a0o s).2]) w'):a0a Tryz.prog 16 #[.string ⟨s.toArray⟩] K w:=by
 apply e6w
 unfold g3c
 refine Cd.open_ok s (fun w1 hr1 h1=>?_)
 have hl1:=hl.below h1 hl.size
 have h8:8 ≤ w.heap.size:=hl.size
 refine Cd.rnum_ok _ _ hl1 (by simp only; omega) hr1 (fun w2 hr2 hg2=>?_)
 have hl2:=hl1.grown hg2 h8
 have hle:=Cd.rest_le ⟨s,false⟩ 59 0
 refine Cd.rtext_ok _ _ hl2 (by show (a0e ⟨s,false⟩ 59 0).2.rest.length < _; simp only at hle; omega) hr2 (fun w3 hr3 hg3=>?_)
 have hl3:=hl2.grown hg3 h8
 refine Cd.done_ok _ _ hr3 ?_
 rw [b0y]
 have h13:Bw w w3:=(h1.grown hg2 h1.size (fun i e=>by cases e; exact rL)).grown hg3 (Nat.le_trans h1.size hg2.size) (fun i e=>by cases e; exact rL)
 have eR:a0o s = if !a7r (a0s (a1m ⟨s,false⟩).2).2 || decide (a7s (a1m ⟨s,false⟩).1 (a0s (a1m ⟨s,false⟩).2).1 = []) then ((0,[]),false) else (((a1m ⟨s,false⟩).1,(a0s (a1m ⟨s,false⟩).2).1),true):=rfl
 have ht1:(a0s (a1m ⟨s,false⟩).2).1.length < 2 ^ 60:=by
  have hok:(a1m ⟨s,false⟩).2.ok:=a6x Rd.ok_good
  rcases a2q _ hok with e | ⟨x,t,e,es,hxl⟩
  ·rw [e]; simp
  ·rw [e]
   have e2:(a1m ⟨s,false⟩).2.rest.length ≤ s.length:=hle
   have e3:=congrArg (fun x=>x.rest.length) es
   simp only [List.length_append] at e3
   have e4:x.length ≤ (a0t x).length:=by simp [a0t]; omega
   show x.length < _
   omega
 rw [eR] at k
 generalize (a0s (a1m ⟨s,false⟩).2).2 = r3 at *
 generalize (a0s (a1m ⟨s,false⟩).2).1 = t at *
 generalize (a1m ⟨s,false⟩).1 = n at *
 cases hd:a7r r3 with
 | false=>
  rw [hd] at k
  refine Xa0 ?_
  exact k _ h13
 | true=>
 rw [hd] at k
 refine Xa0 ?_
 refine c2g n t ht1 hl3 (fun w4 h4=>?_)
 by_cases he:a7s n t = []
 ·rw [decide_eq_true he] at k
  refine Xa (An2 @a5f @he) ?_
  exact k _ (h13.on h4)
 ·rw [decide_eq_false he] at k
  refine Xa (An2 @a5f @he) ?_
  exact k _ (h13.on h4)
theorem b4m (a b:a0h) (ha:a.length < 2 ^ 40) (hb:b.length < 2 ^ 40) (hl:Cd.LaidE w) (k:∀ w',Bw w w' → K (.bool (b1l a b)) w'):a0a Tryz.prog 25 #[.string ⟨a.toArray⟩,.string ⟨b.toArray⟩] K w:=by
 apply e6x
 unfold g3d
 refine b0z a ha hl (fun w1 h1=>?_)
 refine Xa0 ?_
 refine b0z b hb (hl.below h1 hl.size) (fun w2 h2=>?_)
 have k:=k _ (h1.on h2)
 unfold b1l at k
 generalize a0o a = x at *
 generalize a0o b = y at *
 obtain ⟨⟨x1,x2⟩,x3⟩:=x
 obtain ⟨⟨y1,y2⟩,y3⟩:=y
 dsimp only at k ⊢
 cases x3 with
 | false=>
  refine Xa0 ?_
  exact k
 | true=>
 cases y3 with
 | false=>
  refine Xa0 ?_
  exact k
 | true=>
 by_cases h1:x1 ≤ y1
 ·rw [decide_eq_true h1] at k
  by_cases h2:y2 = []
  ·rw [decide_eq_true h2] at k
   refine Xa (An3 @h1 @h2 @a5f) ?_
   exact k
  ·rw [decide_eq_false h2] at k
   refine Xa (An3 @h1 @h2 @a5f) ?_
   exact k
 ·rw [decide_eq_false h1] at k
  refine Xa @h1 ?_
  exact k
end
end Go.Proofs
namespace Go.Proofs
open Go Go.Sh Go.RowKit FdSpec TkSpec CodeSpec
section
variable {K:VK} {w w' w0 W W':World} {L:List (Addr × Value)} {g n B:Nat} {row:Option Nat}
theorem a4y (w:World):(sizeOf 3).run Tryz.prog w = .ok 1 w:=by kernel_rfl
theorem b7v (w:World):(sizeOf 4).run Tryz.prog w = .ok 1 w:=by kernel_rfl
structure RowP (W:World) (B g c:Nat) (l:List Int):Prop where
 cells:∃ cur,W.heap[g]? = some (.cells cur 3 (0,0)) ∧ cur.size = c ∧ cur.toList.take l.length = l.map (Value.int .i64)
 le:l.length ≤ c
 base:B ≤ g
 max:c ≤ maxLen
theorem RowP.owns {c:Nat} {l:List Int} (h:RowP W B g c l):OwnI W B (.slice (some ⟨g,0,none⟩) l.length c) l:=by
 obtain ⟨cur,hg,hs,ht⟩:=h.cells
 refine ⟨by rw [flat_int]; simp,.inr ⟨g,c,cur,rfl,h.base,hg,h.le,h.max,by simpa using hs,?_⟩⟩
 rw [Nat.mul_one,flat_int]
 exact ht
theorem e4f {T:TypeId} {n:Nat} (hn:n ≤ 65536) (k:∀ g W,Bw w W → w.heap.size ≤ g → RowP W w.heap.size g n (List.replicate n 0) → K (.slice (some ⟨g,0,none⟩) n n) W):oM Tryz.prog (.makeSlice 24 (.tmp 0) (.tmp 1)) T [.int .i64 n,.int .i64 n] K w:=by
 obtain ⟨w',hr,ho,hg⟩:=run_makeSlice_full (P:=Tryz.prog) (w:=w) w.heap.size 24 3 ((Tryz.prog.info? 3).getD default) (.int .i64 0) 1 (by kernel_rfl) (by kernel_rfl) (by kernel_rfl) (by kernel_rfl) .i64 .i64 n (by omega) (by
  have:((Tryz.prog.info? 3).getD default).bytes = 8:=by kernel_rfl
  rw [this]; omega) (by simp only [maxLen]; omega) (rL)
 rw [b4v,hr]
 have hb:Bw w w':=⟨hg.os,hg.tape,hg.output,hg.size,fun k hk=>hg.block k hk (by simp)⟩
 have hcells:(madeCells (Value.int .i64 0).cells (n * 1)).toList = List.replicate n (.int .i64 0):=by
  rw [Nat.mul_one]
  apply List.ext_getElem?
  intro i
  unfold madeCells
  simp [Value.cells,List.getElem?_replicate,Array.getElem?_ofFn]
  try (split <;> simp_all [Nat.mod_one])
 refine k _ _ hb (rL) ?_
 rcases ho.2 with ⟨h1,h2⟩ | ⟨g,cap,cur,h1,hb2,hg2,hc,hm,hs,ht⟩
 ·cases h1
 ·cases h1
  refine ⟨⟨cur,hg2,by simpa using hs,?_⟩,by simp,rL,hm⟩
  rw [hcells,Nat.mul_one] at ht
  rw [List.length_replicate,ht,List.map_replicate]
end
end Go.Proofs
namespace Go.Proofs
open Go Go.Sh Go.RowKit FdSpec TkSpec CodeSpec PuSpec
section
variable {K:VK} {w w' w0 W W':World} {L:List (Addr × Value)} {rb b:Nat} {r:Rb}
structure RbR (W:World) (rb b:Nat) (r:Rb):Prop where
 blk:Holds W rb 102 [.pointer (some ⟨b,0,none⟩),.bool r.bad]
 rd:Cd.IsRd W b r.rd
 ne:rb ≠ b
 ok:r.rd.ok
 ln:r.rd.rest.length < 2 ^ 40
 lb:8 ≤ b
 lr:8 ≤ rb
def Rs (rb b:Nat) (i:Nat):Prop:=i = rb ∨ i = b
theorem RbR.next (h:RbR W rb b r) (hb:Bw W W'):RbR W' rb b r:=⟨h.blk.next hb,h.rd.below hb h.rd.lt,h.ne,h.ok,h.ln,h.lb,h.lr⟩
theorem RbR.keep {S:Nat → Prop} (h:RbR W rb b r) (hf:Fr S W W') (h1:¬ S rb) (h2:¬ S b):RbR W' rb b r:=
 ⟨(hf.block rb h.blk.lt h1).trans h.blk,(hf.block b h.rd.lt h2).trans h.rd,h.ne,h.ok,h.ln,h.lb,h.lr⟩
theorem RbR.lt (h:RbR W rb b r):∀ i,Rs rb b i → i < W.heap.size:=fun i hi=>by rcases hi with rfl | rfl; exact h.blk.lt; exact h.rd.lt
theorem RbR.step {rd':Rd} (h:RbR W rb b r) (hr:Cd.IsRd W' b rd') (hg:W.grownBy W' (some b)) (ho:rd'.ok) (hl:rd'.rest.length ≤ r.rd.rest.length):RbR W' rb b ⟨rd',r.bad⟩:=
 ⟨(hg.block rb h.blk.lt (fun e=>h.ne (by first | exact (oI e) | exact (oI e).symm))).trans h.blk,hr,h.ne,ho,Nat.lt_of_le_of_lt hl h.ln,h.lb,h.lr⟩
theorem b7r (hg:W.grownBy W' (some b)):Fr (Rs rb b) W W':=(Fr.of_by hg).mono (fun i _ e=>.inr e)
theorem c5o {r:Rd} (hr:r.ok):(a0c r).2.rest.length ≤ r.rest.length:=by
 rcases a2r r hr with e | ⟨vs,t,e,es,_⟩
 ·rw [e]; simp [failed]
 ·rw [e,es]; simp
theorem c5p {r:Rd} (hr:r.ok):(a0s r).2.rest.length ≤ r.rest.length:=by
 rcases a2q r hr with e | ⟨vs,t,e,es,_⟩
 ·rw [e]; simp [failed]
 ·rw [e,es]; simp
theorem c8s (r:Rd):(a1s r).2.rest.length ≤ r.rest.length:=Cd.rest_le r 59 _
theorem c8t (r:Rd):(a1m r).2.rest.length ≤ r.rest.length:=Cd.rest_le r 59 0
theorem a1z {r:Rd} (hr:r.ok):(∀ v ∈ (a0c r).1,InR v) ∧ ((a0c r).1.length:Int) ≤ 9223372036854775807:=by
 rcases a2r r hr with e | ⟨vs,t,e,es,hl,hv⟩
 ·rw [e]; simp
 ·rw [e]; exact ⟨hv,hl⟩
theorem b5r (h:RbR w rb b r) (hl:Cd.LaidE w) (k:∀ w' v,RbR w' rb b (a1c r).2 → Fr (Rs rb b) w w' → OwnI w' w.heap.size v (a1c r).1 → K v w'):a0a Tryz.prog 129 #[.pointer (some ⟨b,0,none⟩)] K w:=by
 refine Cd.itemsNum_ok b r.rd hl h.lb h.ln h.ok h.rd (fun v w' hr hg ho=>k w' v ?_ (b7r hg) ?_)
 ·exact h.step hr hg (a0k h.ok) (c5o h.ok)
 ·show w'.ownsRow w.heap.size 3 1 v _ (a3a intC _)
  rw [flat_int]
  exact ho
theorem f2l {n:Nat} {r:Rb} (hr:r.rd.ok):(∀ v ∈ (a0w n r).1,I64 v) ∧ (a0w n r).1.length = n:=by
 unfold a0w
 split
 ·rename_i h
  exact ⟨fun v hv=>a1f ((a1z hr).1 v hv),h⟩
 ·exact ⟨fun v hv=>by rw [List.eq_of_mem_replicate hv]; unfold I64; omega,by simp⟩
theorem c8u (n:Nat) (hn:n ≤ 65536) (h:RbR w rb b r) (hl:Cd.LaidE w) (k:∀ w' v,RbR w' rb b (a0w n r).2 → Fr (Rs rb b) w w' → OwnI w' w.heap.size v (a0w n r).1 → K v w'):a0a Tryz.prog 128 #[.pointer (some ⟨rb,0,none⟩),.int .i64 (n:Int)] K w:=by
 apply d6u
 unfold f4x
 have c0:=h.blk.cell 0 (by simp)
 simp only [List.getElem_cons_zero] at c0
 refine Xa @c0 ?_
 refine b5r h hl (fun w1 v h1 hf1 ho1=>?_)
 have hvl:∃ ad vc,v = .slice ad _ vc:=a2a ho1
 obtain ⟨ad,vc,rfl⟩:=hvl
 unfold a0w at k
 have e1:(a1c r).1 = (a0c r.rd).1:=rfl
 have e2:(a1c r).2 = ⟨(a0c r.rd).2,r.bad⟩:=rfl
 rw [e1] at ho1 ⊢
 rw [e2] at h1
 by_cases hq:(a0c r.rd).1.length = n
 ·rw [if_pos hq] at k
  have hq':((a0c r.rd).1.length:Int) = n:=by omega
  refine Xa @hq' ?_
  exact k _ _ h1 hf1 ho1
 ·rw [if_neg hq] at k
  have hq':¬ ((a0c r.rd).1.length:Int) = n:=by omega
  refine Xa @hq' ?_
  refine a2j (T:=4) b7v rfl rfl h1.blk (i:=1) (by simp) (fun w2 hg2 hH2=>?_)
  have h2:RbR w2 rb b ⟨(a0c r.rd).2,true⟩:=⟨hH2,(hg2.block b h1.rd.lt (fun e=>h1.ne (by first | exact (oI e) | exact (oI e).symm))).trans h1.rd,h1.ne,h1.ok,h1.ln,h1.lb,h1.lr⟩
  have hf2:Fr (Rs rb b) w w2:=hf1.by hg2 (fun i e=>.inl (.inl (by cases e; rfl)))
  refine Xa0 ?_
  refine e4f (by omega) (fun g W hW hgW hR=>?_)
  refine k _ _ (h2.next hW) (hf2.trans (S':=fun _=>False) (Fr.of_below hW) (fun _ h=>h.elim)) ?_
  have:=hR.owns
  rw [List.length_replicate] at this
  exact a8x this hf2.size
theorem d1i (w:World):(Instr.alloc 31 true (.tuple #[])).run Tryz.prog w = .ok (.pointer (some ⟨w.heap.size,0,none⟩)) (w.alloc (.cells [.int .i64 0,.int .i64 0,.int .i64 0,.int .i64 0,.int .i64 0,.int .i64 0].toArray 31)):=by kernel_rfl
theorem b4z (w:World):(sizeOf 31).run Tryz.prog w = .ok 6 w:=by kernel_rfl
theorem c5q:Tryz.prog.underlying 31 = some ((Tryz.prog.underlying 31).getD default):=by kernel_rfl
theorem b1a (t:Tkt):∀ u ∈ b4y t,u.oneCell' = true:=by
 intro u hu
 simp only [b4y,List.mem_cons,List.not_mem_nil,or_false] at hu
 rcases hu with rfl | rfl | rfl | rfl | rfl | rfl <;> rfl
theorem c5r (T:TypeId) (a b c d e f:Int):oM Tryz.prog (Go.Op.build 31 #[(0,(.tmp 0)),(1,(.tmp 1)),(2,(.tmp 2)),(3,(.tmp 3)),(4,(.tmp 4)),(5,(.tmp 5))]) T [.int .i64 a,.int .i64 b,.int .i64 c,.int .i64 d,.int .i64 e,.int .i64 f] = a0f (.agg #[.int .i64 a,.int .i64 b,.int .i64 c,.int .i64 d,.int .i64 e,.int .i64 f]):=by
 funext K w
 kernel_rfl
theorem g7k {l:List Int} (h:l.length = 6):∃ a b c d e f,l = [a,b,c,d,e,f]:=by
 match l,h with
 | [a,b,c,d,e,f],_=>exact ⟨a,b,c,d,e,f,rfl⟩
theorem c0f (h:RbR w rb b r) (hl:Cd.LaidE w) (k:∀ w',RbR w' rb b (a6r r).2 → Fr (Rs rb b) w w' → K (b7p (a6r r).1) w'):a0a Tryz.prog 130 #[.pointer (some ⟨rb,0,none⟩)] K w:=by
 apply d6v
 unfold f4y
 refine a0m d1i (fun g w1 h1 hg hH=>?_)
 have hr1:=h.next h1
 have hl1:=hl.below h1 hl.size
 refine c8u 6 (by omega) hr1 hl1 (fun w2 v h2 hf2 ho2=>?_)
 have hI:=f2l (n:=6) h.ok
 have eT:a6r r = (ofL (a0w 6 r).1,(a0w 6 r).2):=rfl
 rw [eT] at k
 obtain ⟨a0,a1,a2,a3,a4,a5,e6⟩:=g7k hI.2
 rw [e6] at k ho2
 have hgs:¬ Rs rb b g:=fun e=>by have:=h.lt g e; omega
 have hH2:Holds w2 g 31 _:=(hf2.block g hH.lt hgs).trans hH
 have hf:Fr (Rs rb b) w w2:=(Fr.of_below h1).trans hf2 (fun i hi=>.inl hi)
 obtain ⟨g',cap,cur,rfl,hlt,hB,_,_,_,hcell⟩:=a3u ho2 (by simp)
 have c0:=hcell 0 _ rfl
 have c1:=hcell 1 _ rfl
 have c2:=hcell 2 _ rfl
 have c3:=hcell 3 _ rfl
 have c4:=hcell 4 _ rfl
 have c5:=hcell 5 _ rfl
 clear hcell ho2 hI hH hf2
 have hb3:Below w2.heap.size w2 { w2 with drawn:=w2.drawn + 1 }:=.drawn
 have hr3:=h2.next hb3
 have hH3:=hH2.next hb3
 have hf3:Fr (Rs rb b) w { w2 with drawn:=w2.drawn + 1 }:=hf.trans (S':=fun _=>False) (Fr.of_below hb3) (fun _ h=>h.elim)
 refine ⟨Nx w2,hb3,rfl,?_⟩
 refine Xc (fun W0 hW0=>An6 ((hW0.cell hlt).trans c0) ((hW0.cell hlt).trans c1) ((hW0.cell hlt).trans c2) ((hW0.cell hlt).trans c3) ((hW0.cell hlt).trans c4) ((hW0.cell hlt).trans c5)) ?_
 refine ⟨Nx,fun w4 h4=>?_⟩
 rw [c5r]
 refine a5q ?_
 refine a0i b4z rfl rfl (b1a ⟨a0,a1,a2,a3,a4,a5⟩) (hH2.next h4) rfl (fun w5 hg5 hH5=>?_)
 refine a5p hH5 c5q (by kernel_rfl) (by kernel_rfl) ?_
 have h5:=(h2.next h4).keep (Fr.of_by hg5) (fun e=>hgs (.inl e.symm)) (fun e=>hgs (.inr e.symm))
 refine k _ h5 ((hf.trans (S':=fun _=>False) (Fr.of_below h4) (fun _ h=>h.elim)).by hg5 (fun i e=>.inr (by cases e; exact hg)))
end
end Go.Proofs
namespace PuSpec
open FdSpec TkSpec CodeSpec
theorem a7a:InR 0:=⟨by decide,by decide⟩
theorem a5n {r:Rd} (hr:r.ok):(∀ v ∈ (a0c r).1,InR v) ∧ Len (a0c r).1.length:=by
 rcases a2r r hr with e | ⟨vs,t,e,es,hl,hv⟩
 ·rw [e]; exact ⟨by simp,by simp [Len]⟩
 ·rw [e]; exact ⟨hv,hl⟩
theorem b0q {n:Nat} {r:Rb} (hr:r.rd.ok):(∀ v ∈ (a0w n r).1,InR v) ∧ (a0w n r).1.length = n:=by
 unfold a0w
 split
 ·rename_i h; exact ⟨(a5n hr).1,h⟩
 ·exact ⟨fun v hv=>by rw [List.eq_of_mem_replicate hv]; exact a7a,by simp⟩
theorem b2w {l:List Int} (h:∀ v ∈ l,InR v) (i:Nat):InR (l.getD i 0):=by
 rw [List.getD_eq_getElem?_getD]
 cases e:l[i]? with
 | none=>exact a7a
 | some x=>exact h x (List.mem_of_getElem? e)
theorem c7x {r:Rb} (hr:r.rd.ok):WTkt (a6r r).1:=by
 have h:=b0q (n:=6) hr
 unfold a6r
 obtain ⟨h1,h2⟩:=h
 generalize (a0w 6 r).1 = l at *
 match l,h2 with
 | [a,b,c,d,e,f],_=>exact ⟨h1⟩
theorem b6k {r:Rd} (hr:r.ok):InR (a1s r).1:=by
 rcases a7h r hr with e | ⟨n,t,e,_,h⟩
 ·rw [e]; exact a7a
 ·rw [e]; exact h
theorem b3y {r:Rd} (hr:r.ok):Len (a0s r).1.length:=by
 rcases a2q r hr with e | ⟨s,t,e,_,h⟩
 ·rw [e]; simp [Len]
 ·rw [e]; exact h
theorem f9t {r:Rb} (hr:r.rd.ok):WLnk (c0q r).1:=by
 have e:(c0q r).1 = ⟨(a6r r).1,⟨(a1s (a6r r).2.rd).1,(a0c (a1s (a6r r).2.rd).2).1⟩,(a0s (a0c (a1s (a6r r).2.rd).2).2).1⟩:=rfl
 have h0:=c7x hr
 have h1:=b1w hr
 rw [e]
 generalize (a6r r).2.rd = r1 at *
 generalize (a6r r).1 = t at *
 have h2:=b1i h1
 have g1:=b6k h1
 generalize (a1s r1).2 = r2 at *
 generalize (a1s r1).1 = d at *
 have h3:=a0k h2
 have g2:=a5n h2
 generalize (a0c r2).2 = r3 at *
 generalize (a0c r2).1 = a at *
 have g3:=b3y h3
 generalize (a0s r3).1 = x at *
 exact ⟨h0,g1,g2.1,g2.2,g3⟩
theorem d0l:∀ (k:Nat) {r:Rb},r.rd.ok → ∀ x ∈ (a6k k r).1,WLnk x
 | 0,r,_,x,hx=>by cases hx
 | k + 1,r,hr,x,hx=>by
  rw [a6k] at hx
  rcases List.mem_cons.1 hx with rfl | hx
  ·exact f9t hr
  ·exact d0l k (e0w hr) x hx
theorem f0f {r:Rb} (hr:r.rd.ok):WHld (a9j r).1:=by
 have e:(a9j r).1 = ⟨(a0w 2 r).1.getD 0 0,(a0w 2 r).1.getD 1 0,(a1c (a0w 2 r).2).1,⟨(a0w 3 (a1c (a0w 2 r).2).2).1.getD 0 0,(a0w 3 (a1c (a0w 2 r).2).2).1.getD 1 0,(a0w 3 (a1c (a0w 2 r).2).2).1.getD 2 0,(a1c (a0w 3 (a1c (a0w 2 r).2).2).2).1⟩,(a6r (a1c (a0w 3 (a1c (a0w 2 r).2).2).2).2).1,
  (a6k (min (a1m (a6r (a1c (a0w 3 (a1c (a0w 2 r).2).2).2).2).2.rd).1 4).toNat ⟨(a1m (a6r (a1c (a0w 3 (a1c (a0w 2 r).2).2).2).2).2.rd).2,(a6r (a1c (a0w 3 (a1c (a0w 2 r).2).2).2).2).2.bad || decide (4 < (a1m (a6r (a1c (a0w 3 (a1c (a0w 2 r).2).2).2).2).2.rd).1)⟩).1⟩:=rfl
 have a1:=b0q (n:=2) hr
 have h1:=a9f (n:=2) hr
 rw [e]
 clear e
 generalize (a0w 2 r).2 = r1 at *
 generalize (a0w 2 r).1 = l1 at *
 have a2:(∀ v ∈ (a1c r1).1,InR v) ∧ Len (a1c r1).1.length:=a5n h1
 have h2:(a1c r1).2.rd.ok:=a0k h1
 generalize (a1c r1).2 = r2 at *
 generalize (a1c r1).1 = l2 at *
 have a3:=b0q (n:=3) h2
 have h3:=a9f (n:=3) h2
 generalize (a0w 3 r2).2 = r3 at *
 generalize (a0w 3 r2).1 = l3 at *
 have a4:(∀ v ∈ (a1c r3).1,InR v) ∧ Len (a1c r3).1.length:=a5n h3
 have h4:(a1c r3).2.rd.ok:=a0k h3
 generalize (a1c r3).2 = r4 at *
 generalize (a1c r3).1 = l4 at *
 have a5:=c7x h4
 have h5:=b1w h4
 generalize (a6r r4).2 = r5 at *
 generalize (a6r r4).1 = t at *
 have h6:=a6x h5
 generalize (a1m r5.rd).2 = r6 at *
 generalize (a1m r5.rd).1 = n at *
 exact ⟨b2w a1.1 0,b2w a1.1 1,a2.1,a2.2,b2w a3.1 0,b2w a3.1 1,b2w a3.1 2,a4.1,a4.2,a5,d0l _ (r:=⟨r6,r5.bad || decide (4 < n)⟩) h6⟩
end PuSpec
namespace Go.Proofs
open Go.Sh Tryz
variable {a0:Value} {K:VK} {w:World}
def g3o (a0:Value) (K:VK) (w:World):Prop:=
 kA 34 (fun v2=>
 kA 34 fun v3=>
 a0a prog 128 #[a0,(.int .i64 2)] fun v9=>
 kH fun C_4 w=>(a0g v9 C_4 fun v10=>
 jI 24 v10 (.int .i64 0) C_4 fun v11=>
 jL 3 v11 C_4 fun v12=>
 a0g v9 C_4 fun v13=>
 jI 24 v13 (.int .i64 1) C_4 fun v14=>
 jL 3 v14 C_4 fun v15=>
 a0g a0 C_4 fun v16=>
 oH prog (.nilCheck (.tmp 0)) 0 [v16] C_4 fun v17=>
 jF 102 0 v17 C_4 fun v18=>
 jL 99 v18 C_4 fun v19=>
 jF 34 0 v3 C_4 fun v21=>
 a0a prog 129 #[v19] (fun v20 w=>C_4 w ∧ (
 kS 3 v21 v12 (fun _ w=>C_4 w ∧ (
 jF 34 1 v3 C_4 fun v22=>
 kS 3 v22 v15 (fun _ w=>C_4 w ∧ (
 jF 34 2 v3 C_4 fun v23=>
 kS 24 v23 v20 (fun _ w=>C_4 w ∧ (
 a0a prog 128 #[a0,(.int .i64 3)] (fun v25=>
 kH fun C_20 w=>(a0g v25 C_20 fun v26=>
 jI 24 v26 (.int .i64 0) C_20 fun v27=>
 jL 3 v27 C_20 fun v28=>
 a0g v25 C_20 fun v29=>
 jI 24 v29 (.int .i64 1) C_20 fun v30=>
 jL 3 v30 C_20 fun v31=>
 a0g v25 C_20 fun v32=>
 jI 24 v32 (.int .i64 2) C_20 fun v33=>
 jL 3 v33 C_20 fun v34=>
 a0g a0 C_20 fun v35=>
 oH prog (.nilCheck (.tmp 0)) 0 [v35] C_20 fun v36=>
 jF 102 0 v36 C_20 fun v37=>
 jL 99 v37 C_20 fun v38=>
 a0a prog 129 #[v38] (fun v39 w=>C_20 w ∧ (
 oM prog (.build 29 #[(0,(.tmp 0)),(1,(.tmp 1)),(2,(.tmp 2)),(3,(.tmp 3))]) 29 [v28,v31,v34,v39] (fun v40 w=>C_20 w ∧ (
 jF 34 3 v3 C_20 fun v41=>
 kS 29 v41 v40 (fun _ w=>C_20 w ∧ (
 a0a prog 130 #[a0] (fun v43=>
 kF 34 4 v3 fun v44=>
 kS 31 v44 v43 fun _=>
 oM prog (.nilCheck (.tmp 0)) 0 [a0] fun v46=>
 kF 102 0 v46 fun v47=>
 kL 99 v47 fun v48=>
 a0a prog 62 #[v48] fun v49=>
 oM prog (.nilCheck (.tmp 0)) 0 [a0] fun v52=>
 kF 102 1 v52 fun v53=>
 kL 4 v53 fun v54 w=>
 gF v54 (a0f v49) (fun v56 w=>
 gF v54 (kB .gtr 3 4 v56 (.int .i64 4)) (fun v57=>
 kP v54 (.bool true) v57 fun v58=>
 oM prog (.nilCheck (.tmp 0)) 0 [a0] fun v59=>
 kF 102 1 v59 fun v60=>
 kS 4 v60 v58 fun _=>
 oM prog (.call (Go.Call.mk (.builtin .min) #[(.tmp 0),(.tmp 1)] #[3,3])) 3 [v49,(.int .i64 4)] fun v62=>
 kQ [(.int .i64 0)] fun J_52 m_53 l_54 u_l_54 w0_l_54=>(fun w=>(
 kB .lss 3 4 (l_54.getD 0 undef) v62 (fun v64=>
 kO v64 (a0a prog 130 #[a0] fun v66=>
 oM prog (.build 95 #[(0,(.tmp 0))]) 95 [v66] fun v67=>
 kA 95 fun v7=>
 kS 95 v7 v67 fun _=>
 kH fun C_59 w=>(a0g a0 C_59 fun v68=>
 oH prog (.nilCheck (.tmp 0)) 0 [v68] C_59 fun v69=>
 jF 102 0 v69 C_59 fun v70=>
 jL 99 v70 C_59 fun v71=>
 a0g a0 C_59 fun v73=>
 oH prog (.nilCheck (.tmp 0)) 0 [v73] C_59 fun v74=>
 jF 102 0 v74 C_59 fun v75=>
 jL 99 v75 C_59 fun v76=>
 a0a prog 131 #[v71] (fun v72 w=>C_59 w ∧ (
 a0a prog 129 #[v76] (fun v77 w=>C_59 w ∧ (
 oM prog (.build 84 #[(0,(.tmp 0)),(1,(.tmp 1))]) 84 [v72,v77] (fun v78 w=>C_59 w ∧ (
 jF 95 1 v7 C_59 fun v79=>
 kS 84 v79 v78 (fun _ w=>C_59 w ∧ (
 oM prog (.nilCheck (.tmp 0)) 0 [a0] (fun v81=>
 kF 102 0 v81 fun v82=>
 kL 99 v82 fun v83=>
 a0a prog 63 #[v83] fun v84=>
 kF 95 2 v7 fun v85=>
 kS 9 v85 v84 fun _=>
 kF 34 5 v3 fun v86=>
 kL 32 v86 fun v87=>
 kL 95 v7 fun v88=>
 oM prog (.buildSlice 32 1 #[(0,(.tmp 0))]) 32 [v88] fun v89=>
 oM prog (.call (Go.Call.mk (.builtin .append) #[(.tmp 0),(.tmp 1)] #[32,32])) 32 [v87,v89] fun v90=>
 kF 34 5 v3 fun v91=>
 kS 32 v91 v90 fun _=>
 kB .add 3 3 (l_54.getD 0 undef) (.int .i64 1) fun v92=>
 kJ J_52 m_53 l_54 w0_l_54 [v92]) w)) w)) w)) w)) w))
 (kL 34 v3 fun v93=>
 kS 34 v2 v93 fun _=>
 kR 34 v2 K)) w)) w0_l_54) w) w) w)) w)) w)) w)) w)) w)) w)) w)) w)) w
theorem e7i (h:g3o a0 K w):a0a prog 53 #[a0] K w:=
 cZ (mz [(3,.tree (.look 0 (.look 1 (.look 2 (.look 3 (.look 4 (.look 5 (.look 6 (.look 7 (.look 8 (.look 9 (.look 11 (.only 10 (.only 12 (.look 13 (.only 14 (.look 15 (.only 16 (.done))))))))))))))))))),(5,.tree (.look 0 (.look 1 (.look 2 (.look 3 (.look 4 (.look 5 (.look 6 (.look 7 (.look 8 (.look 9 (.look 10 (.look 11 (.look 12 (.only 13 (.only 14 (.look 15 (.only 16 (.done))))))))))))))))))),(12,.tree (.look 0 (.look 1 (.look 2 (.look 3 (.look 5 (.look 6 (.look 7 (.look 8 (.only 4 (.only 9 (.only 10 (.look 11 (.only 12 (.done)))))))))))))))]) func53 h
end Go.Proofs
namespace Go.Proofs
open Go Go.Sh Go.RowKit FdSpec TkSpec CodeSpec PuSpec
section
variable {K:VK} {w w' w0 W W':World} {L:List (Addr × Value)} {rb b g2 g3:Nat} {r r':Rb} {cs cs':List Value} {p:WK}
@[reducible] def hldZ:List Value:=[.int .i64 0,.int .i64 0,.slice none 0 0,.int .i64 0,.int .i64 0,.int .i64 0,.slice none 0 0,.int .i64 0,.int .i64 0,.int .i64 0,.int .i64 0,.int .i64 0,.int .i64 0,.slice none 0 0]
@[reducible] def lnkZ:List Value:=[.int .i64 0,.int .i64 0,.int .i64 0,.int .i64 0,.int .i64 0,.int .i64 0,.int .i64 0,.slice none 0 0,.string ⟨#[]⟩]
theorem b0e (w:World):(Instr.alloc 34 true (.tuple #[])).run Tryz.prog w = .ok (.pointer (some ⟨w.heap.size,0,none⟩)) (w.alloc (.cells hldZ.toArray 34)):=by kernel_rfl
theorem a8j (w:World):(sizeOf 34).run Tryz.prog w = .ok 14 w:=by kernel_rfl
theorem c5s (w:World):(Instr.alloc 95 true (.tuple #[])).run Tryz.prog w = .ok (.pointer (some ⟨w.heap.size,0,none⟩)) (w.alloc (.cells lnkZ.toArray 95)):=by kernel_rfl
theorem c5t (w:World):(sizeOf 95).run Tryz.prog w = .ok 9 w:=by kernel_rfl
theorem b5a (w:World):(sizeOf 29).run Tryz.prog w = .ok 4 w:=by kernel_rfl
theorem f8h (w:World):(sizeOf 9).run Tryz.prog w = .ok 1 w:=by kernel_rfl
theorem c8v (w:World):(sizeOf 32).run Tryz.prog w = .ok 1 w:=by kernel_rfl
theorem e3x (T:TypeId) (a b c:Int) (ad:Option Addr) (n m:Nat):oM Tryz.prog (Go.Op.build 29 #[(0,(.tmp 0)),(1,(.tmp 1)),(2,(.tmp 2)),(3,(.tmp 3))]) T [.int .i64 a,.int .i64 b,.int .i64 c,.slice ad n m] = a0f (.agg #[.int .i64 a,.int .i64 b,.int .i64 c,.slice ad n m]):=by
 funext K w
 kernel_rfl
theorem e3y (T:TypeId) (a:Int) (ad:Option Addr) (n m:Nat):oM Tryz.prog (Go.Op.build 84 #[(0,(.tmp 0)),(1,(.tmp 1))]) T [.int .i64 a,.slice ad n m] = a0f (.agg #[.int .i64 a,.slice ad n m]):=by
 funext K w
 kernel_rfl
theorem c5u (T:TypeId) (t:Tkt):oM Tryz.prog (Go.Op.build 95 #[(0,(.tmp 0))]) T [b7p t] = a0f (.agg #[.int .i64 t.mark,.int .i64 t.first,.int .i64 t.z,.int .i64 t.a,.int .i64 t.b,.int .i64 t.r,.int .i64 0,.slice none 0 0,.string ⟨#[]⟩]):=by
 funext K w
 kernel_rfl
theorem c2h {S:Nat → Prop} (hl:Cd.LaidE w) (hf:Fr S w w') (hS:∀ i,S i → 8 ≤ i):Cd.LaidE w':=hl.keep (fun k hk=>hf.block k (by have:=hl.size; omega) (fun h=>by have:=hS k h; omega)) hf.size
theorem a2e {S:Nat → Prop} {w2:World} (h:Fresh w2 W p) (hf:Fr S W W') (hS:∀ i,S i → i < w2.heap.size):Fresh w2 W' p:=
 (FP.fr h hf (fun i hi=>⟨hi.2,fun hs=>by have:=hS i hs; omega⟩)).mono (fun i hi=>⟨hi.1,lL hi.2 hf.size⟩)
theorem b1b {B:Nat} {v:Value} {l:List Int} (h:OwnI w B v l) {i:Nat} (hi:Value.inBlock v = some i):v.ownBlock = some i:=by
 rcases h.2 with ⟨rfl,_⟩ | ⟨g,cap,cur,rfl,_⟩
 ·cases hi
 ·exact hi
theorem b3n {w2:World} {v:Value} {l:List Int} {B:Nat} (h:OwnI W B v l) (hB:w2.heap.size ≤ B) (hr:∀ x ∈ l,InR x) (hl:(l.length:Int) ≤ 9223372036854775807):Fresh w2 W (fun W=>Ints W v l):=
 (h.ints (fun x hx=>a1f (hr x hx)) (by omega)).fresh (fun i hi=>Nat.le_trans hB (a0x h (b1b h hi)).2.1)
structure HdS (w2 W:World) (rb b g2 g3:Nat) (r:Rb) (cs:List Value):Prop where
 r:RbR W rb b r
 l:Cd.LaidE W
 h:Holds W g3 34 cs
 z:Holds W g2 34 hldZ
 f:Fr (fun i=>Rs rb b i ∨ i = g3) w2 W
 n:g2 ≠ g3 ∧ ¬ Rs rb b g2 ∧ ¬ Rs rb b g3 ∧ g2 < w2.heap.size ∧ g3 < w2.heap.size ∧ 8 ≤ g3 ∧ rb < w2.heap.size ∧ b < w2.heap.size
theorem HdS.next {w2:World} (k:HdS w2 W rb b g2 g3 r cs) (hb:Bw W W'):HdS w2 W' rb b g2 g3 r cs:=
 ⟨k.r.next hb,k.l.below hb k.l.size,k.h.next hb,k.z.next hb,k.f.trans (S':=fun _=>False) (Fr.of_below hb) (fun _ h=>h.elim),k.n⟩
theorem HdS.rs {w2:World} (k:HdS w2 W rb b g2 g3 r cs) (hr:RbR W' rb b r') (hf:Fr (Rs rb b) W W'):HdS w2 W' rb b g2 g3 r' cs:=
 ⟨hr,c2h k.l hf (fun i hi=>by rcases hi with rfl | rfl; exact k.r.lr; exact k.r.lb),(hf.block g3 k.h.lt k.n.2.2.1).trans k.h,(hf.block g2 k.z.lt k.n.2.1).trans k.z,k.f.trans hf (fun i hi=>.inl (.inl hi)),k.n⟩
theorem HdS.put {w2:World} (k:HdS w2 W rb b g2 g3 r cs) (hg:W.grownBy W' (some g3)) (hH:Holds W' g3 34 cs'):HdS w2 W' rb b g2 g3 r cs':=
 ⟨k.r.keep (Fr.of_by hg) (fun e=>k.n.2.2.1 (.inl e.symm)) (fun e=>k.n.2.2.1 (.inr e.symm)),c2h k.l (Fr.of_by hg) (fun i e=>by subst e; exact k.n.2.2.2.2.2.1),hH,k.z.other hg k.n.1,k.f.by hg (fun i e=>.inl (.inr (by cases e; rfl))),k.n⟩
theorem HdS.rsS {w2:World} (k:HdS w2 W rb b g2 g3 r cs):∀ i,Rs rb b i → i < w2.heap.size:=fun i hi=>by rcases hi with rfl | rfl; exact k.n.2.2.2.2.2.2.1; exact k.n.2.2.2.2.2.2.2
theorem HdS.g3S {w2:World} (k:HdS w2 W rb b g2 g3 r cs):∀ i,i = g3 → i < w2.heap.size:=fun i hi=>by subst hi; exact k.n.2.2.2.2.1
theorem HdS.otho {w2:World} {o:Option Nat} (k:HdS w2 W rb b g2 g3 r cs) (hg:W.grownBy W' o) (ho:∀ j,o = some j → w2.heap.size ≤ j):HdS w2 W' rb b g2 g3 r cs:=by
 have hn:=k.n
 have hl:=k.l.size
 have hf:=k.f.size
 have ne:∀ i,i < w2.heap.size → W'.heap[i]? = W.heap[i]?:=fun i hi=>hg.block i (by omega) (fun e=>by have:=ho i (by first | exact e | exact e.symm); omega)
 refine ⟨⟨(ne rb hn.2.2.2.2.2.2.1).trans k.r.blk,(ne b hn.2.2.2.2.2.2.2).trans k.r.rd,k.r.ne,k.r.ok,k.r.ln,k.r.lb,k.r.lr⟩,c2h k.l (Fr.of_by' hg) (fun i e=>?_),(ne g3 hn.2.2.2.2.1).trans k.h,(ne g2 hn.2.2.2.1).trans k.z,k.f.by hg (fun i e=>.inr (ho i e)),k.n⟩
 have:=ho i e
 have:=hn.2.2.2.2.2.1
 omega
theorem HdS.oth {w2:World} {o:Nat} (k:HdS w2 W rb b g2 g3 r cs) (hg:W.grownBy W' (some o)) (ho:w2.heap.size ≤ o):HdS w2 W' rb b g2 g3 r cs:=k.otho hg (fun j e=>by cases e; exact ho)
theorem g7l {l:List Int} (h:l.length = 2):∃ a b,l = [a,b]:=by
 match l,h with
 | [a,b],_=>exact ⟨a,b,rfl⟩
theorem g7m {l:List Int} (h:l.length = 3):∃ a b c,l = [a,b,c]:=by
 match l,h with
 | [a,b,c],_=>exact ⟨a,b,c,rfl⟩
theorem OwnI.cells {B:Nat} {v:Value} {l:List Int} (h:OwnI W B v l) (hl:l ≠ []):∃ g c,v = .slice (some ⟨g,0,none⟩) l.length c ∧ g < W.heap.size ∧ B ≤ g ∧ ∀ (i:Nat) (x:Int),l[i]? = some x → W.cell? ⟨g,i,none⟩ = some (.int .i64 x):=by
 obtain ⟨g',cap,cur,rfl,hlt,hB,_,_,_,hcell⟩:=a3u h (List.length_pos_iff.2 hl)
 refine ⟨g',cap,rfl,hlt,hB,fun i x hx=>hcell i _ ?_⟩
 rw [flat_int,List.getElem?_map,hx]
 rfl
theorem g1f {q:Bool} {n:Int} (k:K (.bool (q || decide (4 < n))) w):gdM (gd (.bool q) false) (a0f (.int .i64 n)) (fun v56 w=>gdM (gd (.bool q) false) (oM Tryz.prog (Go.Op.binOp Go.BinOp.gtr 3 (.tmp 0) (.tmp 1) 3) 4 [v56,(.int .i64 4)]) (fun v57 w=>oM Tryz.prog (Go.Op.pick (.tmp 0) (.tmp 1) (.tmp 2)) 4 [.bool q,(.bool true),v57] (fun v w=>K v w) w) w) w:=by
 cases q with
 | true=>
  repeat (any_goals (with_reducible first|refine zD ?_|refine yB ?_))
  exact k
 | false=>
  repeat (any_goals (first
  | (with_reducible first|refine a0v ?_|refine zC ?_|refine yC ?_)
  | ((with_reducible refine oG fun X Y=>?_); simp [go_sem]; apply Y; clear Y X)))
  rw [Bool.false_or] at k
  exact k
def YgD (B N:Nat) (v:Value) (i:Nat):Prop:=B ≤ i ∧ i < N ∧ v.ownBlock ≠ some i
def HlJ (w2:World) (B rb b g2 g3:Nat) (ls:List Lnk) (rF:Rb) (n:Nat) (f:Value → List Value) (p:WK) (vs:List Value) (W:World):Prop:=
 ∃ (i:Nat) (r:Rb) (lv:Value) (l:List Lnk),vs = [.int .i64 (i:Int)] ∧ i ≤ n ∧ HdS w2 W rb b g2 g3 r (f lv) ∧ B ≤ W.heap.size ∧ l ++ (a6k (n - i) r).1 = ls ∧ (a6k (n - i) r).2 = rF ∧ l.length = i ∧ GRow 9 95 c6n B (YgD B W.heap.size lv) W lv l ∧ FP (fun i=>w2.heap.size ≤ i ∧ i < B) W p
theorem b2g (x:Lnk) (ad:Option Addr) (n c:Nat):∀ u ∈ lkC x (.slice ad n c),u.oneCell' = true:=by
 intro u hu
 simp only [lkC,List.mem_cons,List.not_mem_nil,or_false] at hu
 rcases hu with rfl | rfl | rfl | rfl | rfl | rfl | rfl | rfl | rfl <;> rfl
theorem a5s (a b c d e f g h i j k:Int) (a1 a2 a3:Option Addr) (n1 n2 n3 c1 c2 c3:Nat):∀ u ∈ ([.int .i64 a,.int .i64 b,.slice a1 n1 c1,.int .i64 c,.int .i64 d,.int .i64 e,.slice a2 n2 c2,.int .i64 f,.int .i64 g,.int .i64 h,.int .i64 i,.int .i64 j,.int .i64 k,.slice a3 n3 c3]:List Value),u.oneCell' = true:=by
 intro u hu
 simp only [List.mem_cons,List.not_mem_nil,or_false] at hu
 rcases hu with rfl | rfl | rfl | rfl | rfl | rfl | rfl | rfl | rfl | rfl | rfl | rfl | rfl | rfl <;> rfl
theorem e4b {T:TypeId} (x:Lnk) (ad:Option Addr) (n c:Nat) (k:∀ g W,Bw w W → w.heap.size ≤ g → Holds W g 95 (lkC x (.slice ad n c)) → K (.slice (some ⟨g,0,none⟩) 1 1) W):oM Tryz.prog (.buildSlice 32 1 #[(0,.tmp 0)]) T [lkV x (.slice ad n c)] K w:=by
 rw [a3t]; exact c1i (by kernel_rfl) k
theorem c5z {B:Nat} {D:Nat → Prop} {v:Value} {l:List Lnk} {x:Lnk} {T:TypeId} {ad:Option Addr} {n c q:Nat} (h:GRow 9 95 c6n B D w v l) (hB:B ≤ w.heap.size) (hq:Holds w q 95 (lkC x (.slice ad n c)))
  (hx:FP D w (fun w=>c6n w (lkC x (.slice ad n c)) x)) (hD:∀ i,D i → i < w.heap.size ∧ v.ownBlock ≠ some i) (hl:l.length < 1000)
  (k:∀ v' w',GRow 9 95 c6n B D w' v' (l ++ [x]) → w.grownBy w' v.ownBlock → (∀ i,v'.ownBlock = some i → v.ownBlock = some i ∨ w.heap.size ≤ i) → K v' w') :
  oM Tryz.prog (.call { callee:=.builtin .append,args:=#[.tmp 0,.tmp 1],argTypes:=#[32,32] }) T [v,.slice (some ⟨q,0,none⟩) 1 1] K w:=
 b4t 32 T ((Tryz.prog.info? 95).getD default) (.agg lnkZ.toArray) 96 (by kernel_rfl) (by kernel_rfl) (by kernel_rfl) (by kernel_rfl) (by kernel_rfl) (by kernel_rfl) (by omega) (by omega) h hB (x:=x) (xs:=lkC x (.slice ad n c)) rfl
  (fun j u hj=>by
   obtain ⟨hj1,rfl⟩:=gS hj
   rw [Nat.zero_add]
   exact hq.cell j hj1) (b2g x ad n c) hx hD (by omega) (fun v' w' a b c _=>k v' w' a b c)
set_option maxHeartbeats 4000000 in
theorem g1g (h:RbR w rb b r) (hl:Cd.LaidE w) (k:∀ w' av yv lv,RbR w' rb b (a9j r).2 → Fr (Rs rb b) w w' → Fresh w w' (fun W=>HldR W (a9j r).1 av yv lv) → K (b8c (a9j r).1 av yv lv) w'):a0a Tryz.prog 53 #[.pointer (some ⟨rb,0,none⟩)] K w:=by
 apply e7i
 unfold g3o
 have hwf:=f0f h.ok
 refine a0m b0e (fun g2 w1 h1 hg2 hH2=>?_)
 refine a0m b0e (fun g3 w2 h2 hg3 hH3=>?_)
 have h12:=h1.on h2
 have hw8:=hl.size
 have hrlt:=h.lt
 have h1s:=h1.size
 have H2:HdS w2 w2 rb b g2 g3 r hldZ:=⟨h.next h12,hl.below h12 hl.size,hH3,hH2.next h2,Fr.refl _ _,by have:=hH2.lt; omega,fun e=>by have:=hrlt g2 e; omega,fun e=>by have:=hrlt g3 e; omega,by have:=hH2.lt; have:=h2.size; omega,hH3.lt,by omega,by have:=hrlt rb (.inl rfl); have:=h12.size; omega,by have:=hrlt b (.inr rfl); have:=h12.size; omega⟩
 have hfw:Fr (Rs rb b) w w2:=Fr.of_below h12
 clear hH2 hH3 h2
 refine c8u 2 (by omega) H2.r H2.l (fun w3 v9 r3 f3 o3=>?_)
 have H3:=H2.rs r3 f3
 have hI2:=b0q (n:=2) h.ok
 have hok1:=a9f (n:=2) h.ok
 have eH:a9j r = (⟨(a0w 2 r).1.getD 0 0,(a0w 2 r).1.getD 1 0,(a1c (a0w 2 r).2).1,⟨(a0w 3 (a1c (a0w 2 r).2).2).1.getD 0 0,(a0w 3 (a1c (a0w 2 r).2).2).1.getD 1 0,(a0w 3 (a1c (a0w 2 r).2).2).1.getD 2 0,(a1c (a0w 3 (a1c (a0w 2 r).2).2).2).1⟩,(a6r (a1c (a0w 3 (a1c (a0w 2 r).2).2).2).2).1,
  (a6k (min (a1m (a6r (a1c (a0w 3 (a1c (a0w 2 r).2).2).2).2).2.rd).1 4).toNat ⟨(a1m (a6r (a1c (a0w 3 (a1c (a0w 2 r).2).2).2).2).2.rd).2,(a6r (a1c (a0w 3 (a1c (a0w 2 r).2).2).2).2).2.bad || decide (4 < (a1m (a6r (a1c (a0w 3 (a1c (a0w 2 r).2).2).2).2).2.rd).1)⟩).1⟩,
  (a6k (min (a1m (a6r (a1c (a0w 3 (a1c (a0w 2 r).2).2).2).2).2.rd).1 4).toNat ⟨(a1m (a6r (a1c (a0w 3 (a1c (a0w 2 r).2).2).2).2).2.rd).2,(a6r (a1c (a0w 3 (a1c (a0w 2 r).2).2).2).2).2.bad || decide (4 < (a1m (a6r (a1c (a0w 3 (a1c (a0w 2 r).2).2).2).2).2.rd).1)⟩).2):=rfl
 obtain ⟨a0,a1,e2⟩:=g7l hI2.2
 rw [e2] at eH o3
 generalize (a0w 2 r).2 = r1 at *
 obtain ⟨gv,cv,rfl,hvlt,hvB,hvc⟩:=o3.cells (by simp)
 clear h12 hI2 e2 h f3 r3 H2 o3
 have hb4:Below w3.heap.size w3 { w3 with drawn:=w3.drawn + 1 }:=.drawn
 have H4:=H3.next hb4
 have v0:=(hb4.cell hvlt).trans (hvc 0 a0 rfl)
 have v1:=(hb4.cell hvlt).trans (hvc 1 a1 rfl)
 refine ⟨fun W=>W.cell? ⟨gv,0,none⟩ = some (.int .i64 a0) ∧ W.cell? ⟨gv,1,none⟩ = some (.int .i64 a1) ∧ W.cell? ⟨rb,0,none⟩ = some (.pointer (some ⟨b,0,none⟩)),⟨v0,v1,H4.r.blk.cell 0 (by simp)⟩,?_⟩
 have hvl4:=lL hvlt hb4.size
 generalize ({ w3 with drawn:=w3.drawn + 1 }:World) = w4 at *
 clear hvc hb4 H3 hvlt
 repeat (any_goals (first
 | (with_reducible refine pX ?_)
 | ((with_reducible refine b4u ?_); first|(with_reducible refine a4g ?_)|(with_reducible refine a3h ⟨_,rfl⟩ (fun W0 hW0=>by (refine oG (fun X Y=>?_)); simp [go_sem,hW0.1,hW0.2.1,hW0.2.2]; (first | exact Y _ _ ⟨rfl,rfl⟩ | exact ⟨by omega,Y _ _ ⟨rfl,rfl⟩⟩)) ?_))))
 have hgvS:¬ Rs rb b gv ∧ gv ≠ g3:=⟨fun e=>by have:=H4.rsS gv e; omega,fun e=>by have:=H4.g3S gv e; omega⟩
 refine b5r H4.r H4.l (fun w5 av r5 f5 o5=>?_)
 have C5:w5.cell? ⟨gv,0,none⟩ = some (.int .i64 a0) ∧ w5.cell? ⟨gv,1,none⟩ = some (.int .i64 a1) ∧ w5.cell? ⟨rb,0,none⟩ = some (.pointer (some ⟨b,0,none⟩)):=
  ⟨(World.cell?_of_block (f5.block gv hvl4 hgvS.1)).trans v0,(World.cell?_of_block (f5.block gv hvl4 hgvS.1)).trans v1,r5.blk.cell 0 (by simp)⟩
 have H5:=H4.rs r5 f5
 have hvl5:gv < w5.heap.size:=lL hvl4 f5.size
 have hrb5:=r5.blk.lt
 have hrg:rb ≠ g3:=fun e=>H4.n.2.2.1 (.inl e.symm)
 have Cg:∀ W W':World,(W.cell? ⟨gv,0,none⟩ = some (.int .i64 a0) ∧ W.cell? ⟨gv,1,none⟩ = some (.int .i64 a1) ∧ W.cell? ⟨rb,0,none⟩ = some (.pointer (some ⟨b,0,none⟩))) → w5.heap.size ≤ W.heap.size → W.grownBy W' (some g3) →
   (W'.cell? ⟨gv,0,none⟩ = some (.int .i64 a0) ∧ W'.cell? ⟨gv,1,none⟩ = some (.int .i64 a1) ∧ W'.cell? ⟨rb,0,none⟩ = some (.pointer (some ⟨b,0,none⟩))):=fun W W' hC hs hg=>by
  have e1:W'.heap[gv]? = W.heap[gv]?:=hg.block gv (by omega) (fun e=>hgvS.2 (by first | exact (oI e) | exact (oI e).symm))
  have e2:W'.heap[rb]? = W.heap[rb]?:=hg.block rb (by omega) (fun e=>hrg (by first | exact (oI e) | exact (oI e).symm))
  exact ⟨(World.cell?_of_block e1).trans hC.1,(World.cell?_of_block e1).trans hC.2.1,(World.cell?_of_block e2).trans hC.2.2⟩
 have ha5:Fresh w2 w5 (fun W=>Ints W av (a1c r1).1):=b3n o5 (Nat.le_trans H4.f.size (rL)) (a5n hok1).1 (a5n hok1).2
 obtain ⟨aad,ac,hav⟩:∃ ad c,av = .slice ad _ c:=a2a o5
 subst hav
 generalize hA:(a1c r1).1 = attrs at *
 have hok2:(a1c r1).2.rd.ok:=a0k hok1
 generalize (a1c r1).2 = r2 at *
 refine ⟨C5,?_⟩
 refine a2j a4y rfl rfl H5.h (i:=0) (by simp) (fun w6 hg6 hH6=>?_)
 have C6:=Cg _ _ C5 (rL) hg6
 have H6:=H5.put hg6 hH6
 have hs6:=hg6.size
 refine ⟨C6,?_⟩
 repeat (any_goals ((with_reducible refine b4u ?_); (with_reducible refine a3h ⟨_,rfl⟩ (fun W0 hW0=>by (refine oG (fun X Y=>?_)); simp [go_sem,hW0.1]; (first | exact Y _ _ ⟨rfl,rfl⟩ | exact ⟨by omega,Y _ _ ⟨rfl,rfl⟩⟩)) ?_)))
 refine a2j a4y rfl rfl H6.h (i:=1) (by simp) (fun w7 hg7 hH7=>?_)
 have C7:=Cg _ _ C6 hs6 hg7
 have H7:=H6.put hg7 hH7
 have hs7:=Nat.le_trans hs6 hg7.size
 refine ⟨C7,?_⟩
 repeat (any_goals ((with_reducible refine b4u ?_); (with_reducible refine a3h ⟨_,rfl⟩ (fun W0 hW0=>by (refine oG (fun X Y=>?_)); simp [go_sem,hW0.1]; (first | exact Y _ _ ⟨rfl,rfl⟩ | exact ⟨by omega,Y _ _ ⟨rfl,rfl⟩⟩)) ?_)))
 refine a2j a9x rfl rfl H7.h (i:=2) (by simp) (fun w8 hg8 hH8=>?_)
 have C8:=Cg _ _ C7 hs7 hg8
 have H8:=H7.put hg8 hH8
 refine ⟨C8,?_⟩
 have ha8:=a2e (a2e (a2e ha5 (Fr.of_by hg6) H5.g3S) (Fr.of_by hg7) H5.g3S) (Fr.of_by hg8) H5.g3S
 simp only [List.set_cons_succ,List.set_cons_zero] at H8
 clear C5 C6 C7 C8 Cg H4 H5 H6 H7 hH6 hH7 hH8 ha5 o5 v0 v1 hvl4 hvl5 hgvS hvB
 refine c8u 3 (by omega) H8.r H8.l (fun w9 v10 r9 f9 o9=>?_)
 have H9:=H8.rs r9 f9
 have ha9:=a2e ha8 f9 H8.rsS
 have hI3:=b0q (n:=3) hok2
 have hok3:=a9f (n:=3) hok2
 obtain ⟨s0,s1,s2,e3⟩:=g7m hI3.2
 rw [e3] at eH o9
 generalize (a0w 3 r2).2 = r3 at *
 obtain ⟨gw,cw,rfl,hwlt,hwB,hwc⟩:=o9.cells (by simp)
 have hs28:=H8.f.size
 clear H8 ha8 f9 r9 o9 hI3 e3
 have hb10:Below w9.heap.size w9 { w9 with drawn:=w9.drawn + 1 }:=.drawn
 have H10:=H9.next hb10
 have ha10:=ha9.next hb10
 have v0:=(hb10.cell hwlt).trans (hwc 0 s0 rfl)
 have v1:=(hb10.cell hwlt).trans (hwc 1 s1 rfl)
 have v2:=(hb10.cell hwlt).trans (hwc 2 s2 rfl)
 refine ⟨fun W=>W.cell? ⟨gw,0,none⟩ = some (.int .i64 s0) ∧ W.cell? ⟨gw,1,none⟩ = some (.int .i64 s1) ∧ W.cell? ⟨gw,2,none⟩ = some (.int .i64 s2) ∧ W.cell? ⟨rb,0,none⟩ = some (.pointer (some ⟨b,0,none⟩)),⟨v0,v1,v2,H10.r.blk.cell 0 (by simp)⟩,?_⟩
 have hwl10:=lL hwlt hb10.size
 have hwB':w2.heap.size ≤ gw:=by omega
 generalize ({ w9 with drawn:=w9.drawn + 1 }:World) = w10 at *
 clear hwc hb10 H9 hwlt ha9
 repeat (any_goals (first
 | (with_reducible refine pX ?_)
 | ((with_reducible refine b4u ?_); first|(with_reducible refine a4g ?_)|(with_reducible refine a3h ⟨_,rfl⟩ (fun W0 hW0=>by (refine oG (fun X Y=>?_)); simp [go_sem,hW0.1,hW0.2.1,hW0.2.2.1,hW0.2.2.2]; (first | exact Y _ _ ⟨rfl,rfl⟩ | exact ⟨by omega,Y _ _ ⟨rfl,rfl⟩⟩)) ?_))))
 have hgwS:¬ Rs rb b gw ∧ gw ≠ g3:=⟨fun e=>by have:=H10.rsS gw e; omega,fun e=>by have:=H10.g3S gw e; omega⟩
 refine b5r H10.r H10.l (fun w11 yv r11 f11 o11=>?_)
 have C11:w11.cell? ⟨gw,0,none⟩ = some (.int .i64 s0) ∧ w11.cell? ⟨gw,1,none⟩ = some (.int .i64 s1) ∧ w11.cell? ⟨gw,2,none⟩ = some (.int .i64 s2) ∧ w11.cell? ⟨rb,0,none⟩ = some (.pointer (some ⟨b,0,none⟩)):=
  ⟨(World.cell?_of_block (f11.block gw hwl10 hgwS.1)).trans v0,(World.cell?_of_block (f11.block gw hwl10 hgwS.1)).trans v1,(World.cell?_of_block (f11.block gw hwl10 hgwS.1)).trans v2,r11.blk.cell 0 (by simp)⟩
 have H11:=H10.rs r11 f11
 have ha11:=a2e ha10 f11 H10.rsS
 have hy11:Fresh w2 w11 (fun W=>Ints W yv (a1c r3).1):=b3n o11 H10.f.size (a5n hok3).1 (a5n hok3).2
 obtain ⟨yad,yc,hyv⟩:∃ ad c,yv = .slice ad _ c:=a2a o11
 subst hyv
 generalize hY:(a1c r3).1 = ys at *
 have hok4:(a1c r3).2.rd.ok:=a0k hok3
 generalize (a1c r3).2 = r4 at *
 have hrb11:=r11.blk.lt
 have hwl11:gw < w11.heap.size:=lL hwl10 f11.size
 refine ⟨C11,?_⟩
 rw [e3x]
 refine a5q ?_
 refine ⟨C11,?_⟩
 repeat (any_goals ((with_reducible refine b4u ?_); (with_reducible refine a3h ⟨_,rfl⟩ (fun W0 hW0=>by (refine oG (fun X Y=>?_)); simp [go_sem,hW0.1]; (first | exact Y _ _ ⟨rfl,rfl⟩ | exact ⟨by omega,Y _ _ ⟨rfl,rfl⟩⟩)) ?_)))
 refine a2w (o:=3) (xs:=[.int .i64 s0,.int .i64 s1,.int .i64 s2,.slice yad ys.length yc]) b5a rfl rfl (by intro u hu; simp only [List.mem_cons,List.not_mem_nil,or_false] at hu; rcases hu with rfl | rfl | rfl | rfl <;> rfl) H11.h (by simp) (fun w12 hg12 hH12=>?_)
 have C12:w12.cell? ⟨gw,0,none⟩ = some (.int .i64 s0) ∧ w12.cell? ⟨gw,1,none⟩ = some (.int .i64 s1) ∧ w12.cell? ⟨gw,2,none⟩ = some (.int .i64 s2) ∧ w12.cell? ⟨rb,0,none⟩ = some (.pointer (some ⟨b,0,none⟩)):=by
  have e1:w12.heap[gw]? = w11.heap[gw]?:=hg12.block gw hwl11 (fun e=>hgwS.2 (by first | exact (oI e) | exact (oI e).symm))
  have e2:w12.heap[rb]? = w11.heap[rb]?:=hg12.block rb hrb11 (fun e=>hrg (by first | exact (oI e) | exact (oI e).symm))
  exact ⟨(World.cell?_of_block e1).trans C11.1,(World.cell?_of_block e1).trans C11.2.1,(World.cell?_of_block e1).trans C11.2.2.1,(World.cell?_of_block e2).trans C11.2.2.2⟩
 refine ⟨C12,?_⟩
 have H12:=H11.put hg12 hH12
 simp only [List.take_succ_cons,List.take_zero,List.drop_succ_cons,List.drop_zero,List.cons_append,List.nil_append] at H12
 have ha12:=a2e ha11 (Fr.of_by hg12) H11.g3S
 have hy12:=a2e hy11 (Fr.of_by hg12) H11.g3S
 clear C11 C12 H10 H11 hH12 ha10 ha11 hy11 o11 v0 v1 v2 hwl10 hwl11 hgwS hwB hwB'
 refine c0f H12.r H12.l (fun w13 r13 f13=>?_)
 have H13:=H12.rs r13 f13
 have ha13:=a2e ha12 f13 H12.rsS
 have hy13:=a2e hy12 f13 H12.rsS
 have hok5:=b1w hok4
 generalize hT:(a6r r4).1 = t at *
 generalize (a6r r4).2 = r5 at *
 refine Xa0 ?_
 refine a2w (o:=7) (xs:=b4y t) b4z rfl rfl (b1a t) H13.h (by simp) (fun w14 hg14 hH14=>?_)
 have H14:=H13.put hg14 hH14
 simp only [List.take_succ_cons,List.take_zero,List.drop_succ_cons,List.drop_zero,List.cons_append,List.nil_append] at H14
 have ha14:=a2e ha13 (Fr.of_by hg14) H13.g3S
 have hy14:=a2e hy13 (Fr.of_by hg14) H13.g3S
 clear H12 H13 hH14 ha12 ha13 hy12 hy13
 have c0:=H14.r.blk.cell 0 (by simp)
 simp only [List.getElem_cons_zero] at c0
 refine Xa @c0 ?_
 refine Cd.rnum_ok b r5.rd H14.l (Nat.lt_trans H14.r.ln (by decide)) H14.r.rd (fun w15 hr15 hg15=>?_)
 have hok6:=a6x hok5
 have r15:=H14.r.step hr15 hg15 hok6 (c8t _)
 have H15:=H14.rs r15 (b7r hg15)
 have ha15:=a2e ha14 (b7r hg15) H14.rsS
 have hy15:=a2e hy14 (b7r hg15) H14.rsS
 clear H14 ha14 hy14
 generalize (a1m r5.rd).2 = r6 at *
 generalize hN:(a1m r5.rd).1 = n at *
 have c1:=H15.r.blk.cell 1 (by simp)
 simp only [List.getElem_cons_zero,List.getElem_cons_succ] at c1
 refine Xb3 @c1 ?_
 refine g1f ?_
 refine Xa0 ?_
 refine a2j b7v rfl rfl H15.r.blk (i:=1) (by simp) (fun w16 hg16 hH16=>?_)
 have r16:RbR w16 rb b ⟨r6,r5.bad || decide (4 < n)⟩:=⟨hH16,(hg16.block b H15.r.rd.lt (fun e=>H15.r.ne (by first | exact (oI e) | exact (oI e).symm))).trans H15.r.rd,H15.r.ne,H15.r.ok,H15.r.ln,H15.r.lb,H15.r.lr⟩
 have f16:Fr (Rs rb b) w15 w16:=(Fr.of_by hg16).mono (fun i _ e=>.inl e)
 have H16:=H15.rs r16 f16
 have ha16:=a2e ha15 f16 H15.rsS
 have hy16:=a2e hy15 f16 H15.rsS
 have hn0:0 ≤ n:=by
  rw [← hN]
  rcases a1t r5.rd 59 0 with e | ⟨n,t,e,_,_,h3⟩
  ·show 0 ≤ (a0e r5.rd 59 0).1
   rw [e]; exact Int.le_refl 0
  ·show 0 ≤ (a0e r5.rd 59 0).1
   rw [e]; exact h3
 generalize hB':(r5.bad || decide (4 < n)) = bad' at *
 clear H15 ha15 hy15 r16 f16 hH16 c0 c1
 obtain ⟨m,hm⟩:∃ m:Nat,min n 4 = m:=⟨(min n 4).toNat,by omega⟩
 rw [hm,Int.toNat_natCast] at eH
 rw [eH] at k hwf
 have hm4:m ≤ 4:=by omega
 dsimp only at k hwf
 refine Xa @hm ?_
 generalize hLS:(a6k m ⟨r6,bad'⟩).1 = LS at *
 generalize hRF:(a6k m ⟨r6,bad'⟩).2 = RF at *
 have hB2:=H16.f.size
 refine ⟨HlJ w2 w16.heap.size rb b g2 g3 LS RF m (fun lv=>[.int .i64 a0,.int .i64 a1,.slice aad attrs.length ac,.int .i64 s0,.int .i64 s1,.int .i64 s2,.slice yad ys.length yc,.int .i64 t.mark,.int .i64 t.first,.int .i64 t.z,.int .i64 t.a,.int .i64 t.b,.int .i64 t.r,lv]) (fun W=>Ints W (.slice aad attrs.length ac) attrs ∧ Ints W (.slice yad ys.length yc) ys),
  (fun vs _=>match vs with | [.int _ i]=>m - i.toNat | _=>0),⟨0,⟨r6,bad'⟩,.slice none 0 0,[],rfl,by omega,H16,rL,hLS,hRF,rfl,.nil,ha16.both hy16⟩,?_⟩
 clear H16 ha16 hy16 hLS hRF
 rintro _ _ w17 ⟨i,ri,lv,l,rfl,hi,H17,hB17,hls,hrf,hll,hG17,hp17⟩
 by_cases hin:¬ i < m
 ·have hiz:¬ (i:Int) < m:=by omega
  have him:m - i = 0:=by omega
  rw [him] at hls hrf
  have hls':l = LS:=by rw [← hls]; show l = l ++ []; simp
  have hrf':ri = RF:=hrf
  subst hls' hrf'
  obtain ⟨lad,lc,rfl⟩:=hG17.isSlice
  refine Xa @hiz ?_
  refine a2k H17.h a4u (by kernel_rfl) (by kernel_rfl) ?_
  refine a0i a8j rfl rfl (a5s _ _ _ _ _ _ _ _ _ _ _ _ _ _ _ _ _ _ _ _) H17.z rfl (fun w18 hg18 hH18=>?_)
  refine a5p hH18 a4u (by kernel_rfl) (by kernel_rfl) ?_
  have hne2:=H17.n
  have r18:=H17.r.keep (Fr.of_by hg18) (fun e=>hne2.2.1 (.inl e.symm)) (fun e=>hne2.2.1 (.inr e.symm))
  have f18:Fr (Rs rb b) w w18:=((hfw.trans H17.f (fun i hi=>hi.elim .inl (fun e=>.inr (by omega)))).by hg18 (fun i e=>.inr (by cases e; omega)))
  have hfp:=hG17.fp (by decide) (by omega)
  have hlk:Fresh w2 w17 (fun W=>b7s W (.slice lad l.length lc) l):=hfp.mono (fun i hi=>by
   rcases hi with hi | hi
   ·exact ⟨by have:=hi.1; omega,hi.2.1⟩
   ·have:=hG17.own hi; exact ⟨by omega,this.1⟩)
  have hall:=a2e (Fresh.both (hp17.mono (fun i hi=>⟨hi.1,by have:=hi.2; omega⟩)) hlk) (Fr.of_by hg18) (fun i e=>by subst e; exact hne2.2.2.2.1)
  exact k _ _ _ _ r18 f18 ((hall.imp (fun W h=>⟨h.1.1,h.1.2,h.2,hwf⟩)).up (by omega))
 have him:i < m:=by omega
 have hiz:(i:Int) < m:=by omega
 have hmi:m - i = (m - (i + 1)) + 1:=by omega
 rw [hmi,a6k] at hls hrf
 refine Xb2 @hiz ?_
 refine c0f H17.r H17.l (fun w18 r18 f18=>?_)
 have H18:=H17.rs r18 f18
 have hp18:=hp17.fr f18 (fun i hi=>⟨by have:=hi.2; omega,fun hs=>by have:=H17.rsS i hs; have:=hi.1; omega⟩)
 have hG18:=hG17.keep f18 (fun i hi=>⟨hi.2.1,fun hs=>by have:=H17.rsS i hs; have:=hi.1; omega⟩) (fun i hi hs=>by have:=H17.rsS i hs; have:=hG17.own hi; omega)
 have hokt:=b1w (r:=ri) H17.r.ok
 have hwt:=c7x (r:=ri) H17.r.ok
 have eL:c0q ri = (⟨(a6r ri).1,⟨(a1s (a6r ri).2.rd).1,(a0c (a1s (a6r ri).2.rd).2).1⟩,(a0s (a0c (a1s (a6r ri).2.rd).2).2).1⟩,⟨(a0s (a0c (a1s (a6r ri).2.rd).2).2).2,(a6r ri).2.bad⟩):=rfl
 rw [eL] at hls hrf
 dsimp only at hls hrf
 generalize (a6r ri).1 = tk at *
 generalize (a6r ri).2 = rt at *
 rw [c5u]
 refine a5q ?_
 refine a0m c5s (fun g7 w19 h19 hg7 hH19=>?_)
 refine a0i (xs:=lkC ⟨tk,⟨0,[]⟩,[]⟩ (.slice none 0 0)) c5t rfl rfl (b2g _ _ _ _) hH19 rfl (fun w20 hg20 hH20=>?_)
 have h20:Bw w18 w20:=h19.grown hg20 h19.size (fun i e=>by cases e; exact hg7)
 have H20:=H18.next h20
 have hp20:=hp18.next h20 (fun i hi=>by have:=hi.2; have:=f18.size; omega)
 have hG20:=hG18.next h20 (fun i hi=>lL hi.2.1 f18.size)
 have hs17:=Nat.le_trans f18.size h20.size
 have hg7S:¬ Rs rb b g7:=fun e=>by have:=H17.rsS g7 e; have:=H18.f.size; omega
 clear hH19 h19 hg20 H18 hp18 hG18
 have hb21:Below w20.heap.size w20 { w20 with drawn:=w20.drawn + 1 }:=.drawn
 have H21:=H20.next hb21
 have hH21:=hH20.next hb21
 have hp21:=hp20.next hb21 (fun i hi=>by have:=hi.2; omega)
 have hG21:=hG20.next hb21 (fun i hi=>lL hi.2.1 hs17)
 refine ⟨fun W=>W.cell? ⟨rb,0,none⟩ = some (.pointer (some ⟨b,0,none⟩)),H21.r.blk.cell 0 (by simp),?_⟩
 have hs21:=Nat.le_trans hs17 hb21.size
 generalize ({ w20 with drawn:=w20.drawn + 1 }:World) = w21 at *
 clear H20 hH20 hp20 hG20 hb21
 repeat (any_goals (first
 | (with_reducible refine pX ?_)
 | ((with_reducible refine b4u ?_); first|(with_reducible refine a4g ?_)|(with_reducible refine a3h ⟨_,rfl⟩ (fun W0 hW0=>by (refine oG (fun X Y=>?_)); simp [go_sem,hW0]; (first | exact Y _ _ ⟨rfl,rfl⟩ | exact ⟨by omega,Y _ _ ⟨rfl,rfl⟩⟩)) ?_))))
 refine Cd.rint_ok b rt.rd H21.l (Nat.lt_trans H21.r.ln (by decide)) H21.r.rd (fun w22 hr22 hg22=>?_)
 have hokd:=b1i hokt
 have hwd:=b6k hokt
 have r22:=H21.r.step hr22 hg22 hokd (c8s _)
 have H22:=H21.rs r22 (b7r hg22)
 have hp22:=hp21.fr (b7r (rb:=rb) hg22) (fun i hi=>⟨by have:=hi.2; omega,fun hs=>by have:=H17.rsS i hs; have:=hi.1; omega⟩)
 have hH22:Holds w22 g7 95 _:=(hg22.block g7 hH21.lt (fun e=>hg7S (.inr (by first | exact (oI e) | exact (oI e).symm)))).trans hH21
 have hG22:=hG21.keep (b7r (rb:=rb) hg22) (fun i hi=>⟨lL hi.2.1 hs21,fun hs=>by have:=H17.rsS i hs; have:=hi.1; omega⟩) (fun i hi hs=>by have:=H17.rsS i hs; have:=hG21.own hi; omega)
 have hs22:=Nat.le_trans hs21 hg22.size
 clear H21 hp21 hH21 hG21
 generalize (a1s rt.rd).2 = rd2 at *
 generalize (a1s rt.rd).1 = dr at *
 refine ⟨r22.blk.cell 0 (by simp),?_⟩
 refine b5r H22.r H22.l (fun w23 nv r23 f23 o23=>?_)
 have hoka:=a0k hokd
 have hwa:=a5n hokd
 have ean:(a1c ⟨rd2,rt.bad⟩).1 = (a0c rd2).1:=rfl
 have ean2:(a1c ⟨rd2,rt.bad⟩).2 = ⟨(a0c rd2).2,rt.bad⟩:=rfl
 rw [ean] at o23
 rw [ean2] at r23
 have H23:=H22.rs r23 f23
 have hp23:=hp22.fr f23 (fun i hi=>⟨by have:=hi.2; omega,fun hs=>by have:=H17.rsS i hs; have:=hi.1; omega⟩)
 have hH23:Holds w23 g7 95 _:=(f23.block g7 hH22.lt hg7S).trans hH22
 have hG23:=hG22.keep f23 (fun i hi=>⟨lL hi.2.1 hs22,fun hs=>by have:=H17.rsS i hs; have:=hi.1; omega⟩) (fun i hi hs=>by have:=H17.rsS i hs; have:=hG22.own hi; omega)
 have hs23:=Nat.le_trans hs22 f23.size
 obtain ⟨nad,nc,rfl⟩:∃ ad c,nv = .slice ad _ c:=a2a o23
 have hg7l:g7 < w22.heap.size:=hH22.lt
 have hni:FP (fun i=>w22.heap.size ≤ i ∧ i < w23.heap.size) w23 (fun W=>Ints W (.slice nad (a0c rd2).1.length nc) (a0c rd2).1):=b3n (w2:=w22) o23 (rL) hwa.1 hwa.2
 clear H22 hp22 hH22 hG22 o23
 generalize (a0c rd2).2 = rd3 at *
 generalize (a0c rd2).1 = an at *
 refine ⟨r23.blk.cell 0 (by simp),?_⟩
 rw [e3y]
 refine a5q ?_
 refine ⟨r23.blk.cell 0 (by simp),?_⟩
 repeat (any_goals ((with_reducible refine b4u ?_); (with_reducible refine a3h ⟨_,rfl⟩ (fun W0 hW0=>by (refine oG (fun X Y=>?_)); simp [go_sem,hW0]; (first | exact Y _ _ ⟨rfl,rfl⟩ | exact ⟨by omega,Y _ _ ⟨rfl,rfl⟩⟩)) ?_)))
 have hg7w:w17.heap.size ≤ g7:=by have:=f18.size; omega
 refine a2w (o:=6) (xs:=[.int .i64 dr,.slice nad an.length nc]) e3s rfl rfl (by intro u hu; simp only [List.mem_cons,List.not_mem_nil,or_false] at hu; rcases hu with rfl | rfl <;> rfl) hH23 (by simp) (fun w24 hg24 hH24=>?_)
 simp only [List.take_succ_cons,List.take_zero,List.drop_succ_cons,List.drop_zero,List.cons_append,List.nil_append] at hH24
 have hs2g:w2.heap.size ≤ g7:=Nat.le_trans H17.f.size hg7w
 have H24:=H23.oth hg24 hs2g
 have hp24:=hp23.fr (Fr.of_by hg24) (fun i hi=>⟨by have:=hi.2; omega,fun e=>by have:=hi.2; omega⟩)
 have hG24:=hG23.keep (Fr.of_by hg24) (fun i hi=>⟨lL hi.2.1 hs23,fun e=>by have:=hi.2.1; omega⟩) (fun i hi e=>by have:=hG17.own hi; omega)
 have hni24:=hni.fr (Fr.of_by hg24) (fun i hi=>⟨hi.2,fun e=>by have:=hi.1; omega⟩)
 have hs24:=Nat.le_trans hs23 hg24.size
 clear H23 hp23 hH23 hG23 hni
 have c24:=H24.r.blk.cell 0 (by simp)
 simp only [List.getElem_cons_zero] at c24
 refine ⟨c24,?_⟩
 refine Xa @c24 ?_
 refine Cd.rtext_ok b rd3 H24.l (Nat.lt_trans H24.r.ln (by decide)) H24.r.rd (fun w25 hr25 hg25=>?_)
 have hokx:=b0p hoka
 have hwx:=b3y hoka
 have r25:=H24.r.step hr25 hg25 hokx (c5p hoka)
 have H25:=H24.rs r25 (b7r hg25)
 have hp25:=hp24.fr (b7r (rb:=rb) hg25) (fun i hi=>⟨by have:=hi.2; omega,fun hs=>by have:=H17.rsS i hs; have:=hi.1; omega⟩)
 have hH25:Holds w25 g7 95 _:=(hg25.block g7 hH24.lt (fun e=>hg7S (.inr (by first | exact (oI e) | exact (oI e).symm)))).trans hH24
 have hG25:=hG24.keep (b7r (rb:=rb) hg25) (fun i hi=>⟨lL hi.2.1 hs24,fun hs=>by have:=H17.rsS i hs; have:=hi.1; omega⟩) (fun i hi hs=>by have:=H17.rsS i hs; have:=hG17.own hi; omega)
 have hni25:=hni24.fr (b7r (rb:=rb) hg25) (fun i hi=>⟨lL hi.2 hg24.size,fun hs=>by have:=H17.rsS i hs; have:=hi.1; omega⟩)
 have hs25:=Nat.le_trans hs24 hg25.size
 clear H24 hp24 hH24 hG24 hni24 c24
 generalize (a0s rd3).2 = rd4 at *
 generalize (a0s rd3).1 = tx at *
 refine Xa0 ?_
 refine a2j (T:=9) f8h rfl rfl hH25 (i:=8) (by simp) (fun w26 hg26 hH26=>?_)
 simp only [List.set_cons_succ,List.set_cons_zero] at hH26
 have H26:=H25.oth hg26 hs2g
 have hp26:=hp25.fr (Fr.of_by hg26) (fun i hi=>⟨by have:=hi.2; omega,fun e=>by have:=hi.2; omega⟩)
 have hG26:=hG25.keep (Fr.of_by hg26) (fun i hi=>⟨lL hi.2.1 hs25,fun e=>by have:=hi.2.1; omega⟩) (fun i hi e=>by have:=hG17.own hi; omega)
 have hs2325:w23.heap.size ≤ w25.heap.size:=Nat.le_trans hg24.size hg25.size
 have hni26:=hni25.fr (Fr.of_by hg26) (fun i hi=>⟨lL hi.2 hs2325,fun e=>by have:=hi.1; omega⟩)
 have hs26:=Nat.le_trans hs25 hg26.size
 clear H25 hp25 hH25 hG25 hni25
 have c26:=H26.h.cell 13 (by simp)
 simp only [List.getElem_cons_zero,List.getElem_cons_succ] at c26
 refine Xa @c26 ?_
 refine a2k hH26 c0g (by kernel_rfl) (by kernel_rfl) ?_
 refine e4b ⟨tk,⟨dr,an⟩,tx⟩ nad an.length nc (fun q w27 h27 hq hL27=>?_)
 have H27:=H26.next h27
 have hp27:=hp26.next h27 (fun i hi=>by have:=hi.2; omega)
 have hG27:=hG26.next h27 (fun i hi=>lL hi.2.1 hs26)
 have hni27:=hni26.next h27 (fun i hi=>lL (lL hi.2 hs2325) hg26.size)
 have hs27:=Nat.le_trans hs26 h27.size
 clear H26 hp26 hG26 hni26
 have hvo:∀ j,lv.ownBlock = some j → j < w17.heap.size ∧ w16.heap.size ≤ j:=fun j e=>hG17.own e
 have hs2227:w23.heap.size ≤ w27.heap.size:=Nat.le_trans hs2325 (Nat.le_trans hg26.size h27.size)
 refine c5z (D:=YgD w16.heap.size w27.heap.size lv) (x:=⟨tk,⟨dr,an⟩,tx⟩) (hG27.mono (fun j hj=>⟨hj.1,lL hj.2.1 hs27,hj.2.2⟩)) (by omega) hL27 ?_ (fun j hj=>⟨hj.2.1,hj.2.2⟩) (by omega) (fun lv' w28 hG28 hg28 hv28=>?_)
 ·refine (hni27.mono (fun j hj=>⟨by omega,by omega,fun e=>by have:=(hvo j e).1; omega⟩)).imp (fun W hW=>⟨_,rfl,hW,hwt,hwd,hwa.1,hwa.2,hwx⟩)
 have hlvS:∀ j,lv.ownBlock = some j → w2.heap.size ≤ j:=fun j e=>by have:=(hvo j e).2; omega
 have H28:HdS w2 w28 rb b g2 g3 _ _:=H27.otho hg28 hlvS
 have hp28:=hp27.fr (Fr.of_by' hg28) (fun j hj=>⟨by have:=hj.2; omega,fun e=>by have:=(hvo j e).2; have:=hj.2; omega⟩)
 obtain ⟨ad28,c28,rfl⟩:=hG28.isSlice
 refine Xa0 ?_
 refine a2j (T:=32) c8v rfl rfl H28.h (i:=13) (by simp) (fun w29 hg29 hH29=>?_)
 simp only [List.set_cons_succ,List.set_cons_zero] at hH29
 have H29:=H28.put hg29 hH29
 have hg3B:=H28.n.2.2.2.2.1
 have hp29:=hp28.fr (Fr.of_by hg29) (fun j hj=>⟨by have:=hj.2; have:=hg28.size; omega,fun e=>by have:=hj.1; omega⟩)
 have hG29:=hG28.keep (Fr.of_by hg29) (fun j hj=>⟨lL hj.2.1 hg28.size,fun e=>by have:=hj.1; omega⟩) (fun j hj e=>by have:=hG28.own hj; omega)
 refine Xa0 ?_
 refine ⟨⟨i + 1,_,_,_,rfl,him,H29,by have:=hg28.size; have:=hg29.size; omega,by rw [← hls]; simp,hrf,by simp [hll],hG29.mono (fun j hj=>⟨hj.1,by have:=hj.2.1; have:=hg28.size; have:=hg29.size; omega,fun e=>?_⟩),hp29⟩,by show m - (((i + 1:Nat):Int)).toNat < m - ((i:Nat):Int).toNat; omega⟩
 exact (hv28 j e).elim (fun e2=>hj.2.2 e2) (fun h=>by have:=hj.2.1; omega)
end
section
variable {K:VK} {w w' w0 W W':World} {L:List (Addr × Value)} {rb b:Nat}
theorem e4c (T:TypeId) (b:Nat):oM Tryz.prog (Go.Op.build 102 #[(0,(.tmp 0))]) T [.pointer (some ⟨b,0,none⟩)] = a0f (.agg #[.pointer (some ⟨b,0,none⟩),.bool false]):=by
 funext K w
 kernel_rfl
theorem f2m:WHld b2u:=
 ⟨a7a,a7a,(fun _ h=>by cases h),by decide,a7a,a7a,a7a,(fun _ h=>by cases h),by decide,⟨fun v hv=>by
  simp only [a5m,b2u,List.mem_cons,List.not_mem_nil,or_false,or_self] at hv
  subst hv
  exact a7a⟩,(fun _ h=>by cases h)⟩
theorem g1h:HldR w b2u (.slice none 0 0) (.slice none 0 0) (.slice none 0 0):=⟨Ints.nil _,Ints.nil _,SRow.nil,f2m⟩
theorem b7u:Fresh w w' (fun W=>HldR W b2u (.slice none 0 0) (.slice none 0 0) (.slice none 0 0)):=fun _ _ _ _ _ _=>g1h
theorem a1k {h:Hld} {av yv lv:Value} (k:HldR w h av yv lv):∃ a1 n1 c1 a2 n2 c2 a3 n3 c3,av = .slice a1 n1 c1 ∧ yv = .slice a2 n2 c2 ∧ lv = .slice a3 n3 c3:=by
 obtain ⟨a1,c1,e1⟩:=k.attrs.isSlice
 obtain ⟨a2,c2,e2⟩:=k.ys.isSlice
 obtain ⟨a3,c3,e3⟩:=k.links.isSlice
 exact ⟨a1,_,c1,a2,_,c2,a3,_,c3,e1,e2,e3⟩
theorem c6a (s:a0h) (hs:s.length < 2 ^ 40) (hl:Cd.LaidE w) (k:∀ w' av yv lv,Bw w w' → Fresh w w' (fun W=>HldR W (a2d s).1 av yv lv) → K (.tuple #[b8c (a2d s).1 av yv lv,.bool (a2d s).2]) w'):a0a Tryz.prog 14 #[.string ⟨s.toArray⟩] K w:=by
 apply e6y
 unfold g3e
 refine a0m b0e (fun g2 w1 h1 hg2 hH2=>?_)
 refine Cd.open_ok s (fun w2 hr2 h2=>?_)
 have hw8:=hl.size
 have h1s:=h1.size
 rw [e4c]
 show oM _ _ _ _ _ _
 refine a4f rfl (fun rb w3 h3 hrb hR3=>?_)
 have hb2:=hr2.lt
 have R3:RbR w3 rb w1.heap.size ⟨⟨s,false⟩,false⟩:=⟨hR3,hr2.below h3 hb2,by omega,Rd.ok_good,hs,by omega,by omega⟩
 have hl3:Cd.LaidE w3:=((hl.below h1 hl.size).below h2 (by omega)).below h3 (by have:=h2.size; omega)
 refine g1g R3 hl3 (fun w4 av yv lv R4 f4 hF=>?_)
 have e:a2d s = if (a9j ⟨⟨s,false⟩,false⟩).2.bad || !a7r (a9j ⟨⟨s,false⟩,false⟩).2.rd then (b2u,false) else ((a9j ⟨⟨s,false⟩,false⟩).1,true):=rfl
 rw [e] at k
 generalize (a9j ⟨⟨s,false⟩,false⟩).2 = r at *
 generalize (a9j ⟨⟨s,false⟩,false⟩).1 = h at *
 obtain ⟨a1,n1,c1,a2,n2,c2,a3,n3,c3,rfl,rfl,rfl⟩:=a1k hF.here
 refine a0m b0e (fun g5 w5 h5 hg5 hH5=>?_)
 refine a0i a8j rfl rfl (a5s _ _ _ _ _ _ _ _ _ _ _ _ _ _ _ _ _ _ _ _) hH5 rfl (fun w6 hg6 hH6=>?_)
 have hs3:w.heap.size ≤ w3.heap.size:=by have:=h2.size; have:=h3.size; omega
 have hs4:=f4.size
 have hs5:=h5.size
 have hs6:=hg6.size
 have R6:RbR w6 rb w1.heap.size r:=(R4.next h5).keep (Fr.of_by hg6) (fun e=>by have:=R4.blk.lt; omega) (fun e=>by have:=R4.rd.lt; omega)
 have hF7:FP (fun i=>w3.heap.size ≤ i ∧ i < w6.heap.size) w6 (fun W=>HldR W h (.slice a1 n1 c1) (.slice a2 n2 c2) (.slice a3 n3 c3)):=(((FP.next hF h5 (fun i hi=>hi.2)).fr (Fr.of_by hg6) (fun i hi=>⟨by omega,fun e=>by omega⟩))).mono (fun i hi=>⟨hi.1,by omega⟩)
 have hs12:=h2.size
 have hs23:=h3.size
 have hg2l:=hH2.lt
 have fr:Fr (fun _=>False) w1 w6:=((((Fr.of_below h2).trans (Fr.of_below h3) (fun i hi=>.inl hi)).trans f4 (fun i hi=>.inr (by rcases hi with rfl | rfl <;> omega))).trans (Fr.of_below h5) (fun i hi=>.inl hi)).trans (Fr.of_by hg6) (fun i hi=>.inr (by omega))
 have hH26:Holds w6 g2 34 hldZ:=(fr.block g2 hH2.lt id).trans hH2
 have g26:g2 ≠ g5:=fun e=>by have:=hH2.lt; omega
 have c6:=R6.blk.cell 1 (by simp)
 have c60:=R6.blk.cell 0 (by simp)
 simp only [List.getElem_cons_zero,List.getElem_cons_succ] at c6 c60
 have hbw:Bw w w6:=⟨fr.os.trans h1.os,fr.tape.trans h1.tape,fr.output.trans h1.output,Nat.le_trans h1.size fr.size,fun i hi=>(fr.block i (by omega) id).trans (h1.block i hi)⟩
 have bad:(∀ w' av yv lv,Bw w w' → Fresh w w' (fun W=>HldR W b2u av yv lv) → K (.tuple #[b8c b2u av yv lv,.bool false]) w') →
   oM Tryz.prog (Go.Op.store 34 (.tmp 0) (.tmp 1)) 0 [.pointer (some ⟨g2,0,none⟩),.agg hldZ.toArray] (fun _ w=>∃ r_18,(do loadVar 34 (← asAddr (.pointer (some ⟨g2,0,none⟩))):Sem Value).run Tryz.prog w = .ok r_18 w ∧ K (.tuple #[r_18,(.bool false)]) w) w6:=fun k=>by
  refine a0i a8j rfl rfl (a5s _ _ _ _ _ _ _ _ _ _ _ _ _ _ _ _ _ _ _ _) hH26 rfl (fun w7 hg7 hH7=>?_)
  refine a5p hH7 a4u (by kernel_rfl) (by kernel_rfl) ?_
  exact k _ (.slice none 0 0) (.slice none 0 0) (.slice none 0 0) (hbw.grown hg7 (by omega) (fun i e=>by cases e; omega)) b7u
 cases hb:r.bad with
 | true=>
  rw [hb] at k c6
  refine Xa (An2 @c6 @c60) ?_
  exact bad k
 | false=>
  rw [hb] at k c6
  refine Xa (An2 @c6 @c60) ?_
  refine Cd.done_ok _ _ R6.rd ?_
  rw [b0y]
  cases hd:a7r r.rd with
  | false=>
   rw [hd] at k
   refine Xa0 ?_
   exact bad k
  | true=>
   rw [hd] at k
   refine Xa0 ?_
   refine a2k hH6 a4u (by kernel_rfl) (by kernel_rfl) ?_
   refine a0i a8j rfl rfl (a5s _ _ _ _ _ _ _ _ _ _ _ _ _ _ _ _ _ _ _ _) hH26 rfl (fun w7 hg7 hH7=>?_)
   refine a5p hH7 a4u (by kernel_rfl) (by kernel_rfl) ?_
   exact k _ _ _ _ (hbw.grown hg7 (by omega) (fun i e=>by cases e; omega)) (FP.mono (FP.fr (D:=fun i=>w3.heap.size ≤ i ∧ i < w6.heap.size) (p:=fun W=>HldR W h (.slice a1 n1 c1) (.slice a2 n2 c2) (.slice a3 n3 c3)) hF7 (Fr.of_by hg7) (fun i hi=>⟨hi.2,fun e=>by omega⟩)) (fun i hi=>⟨by omega,by have:=hg7.size; omega⟩))
theorem c0i (w:World):(Instr.alloc 29 true (.tuple #[])).run Tryz.prog w = .ok (.pointer (some ⟨w.heap.size,0,none⟩)) (w.alloc (.cells [.int .i64 0,.int .i64 0,.int .i64 0,.slice none 0 0].toArray 29)):=by kernel_rfl
theorem b2h (b:Bld) (ad:Option Addr) (n c:Nat):∀ u ∈ c2f b (.slice ad n c),u.oneCell' = true:=by
 intro u hu
 simp only [c2f,List.mem_cons,List.not_mem_nil,or_false] at hu
 rcases hu with rfl | rfl | rfl | rfl <;> rfl
theorem g8f {T:TypeId} (a b c:Int) (ha:I64 a) (hb:I64 b) (hc:I64 c) (k:∀ v W,Bw w W → Ints W v [a,b,c] → K v W):oM Tryz.prog (.buildSlice 24 3 #[(0,.tmp 0),(1,.tmp 1),(2,.tmp 2)]) T [.int .i64 a,.int .i64 b,.int .i64 c] K w:=by
 rw [a6u (S:=Instr.buildSlice 24 3 #[(0,.int .i64 a),(1,.int .i64 b),(2,.int .i64 c)]) (by simp [xop,execOp,a1e,evE])]
 have e:(Instr.buildSlice 24 3 #[(0,.int .i64 a),(1,.int .i64 b),(2,.int .i64 c)]).run Tryz.prog w = .ok (.slice (some ⟨w.heap.size,0,none⟩) 3 3) (w.alloc (.cells #[.int .i64 a,.int .i64 b,.int .i64 c] 3)):=by kernel_rfl
 rw [e]
 exact k _ _ ((Below.refl _ w).alloc (rL) _) (a5d w [a,b,_] _ 3 (by simp; exact ⟨ha,hb,hc⟩) (by simp))
theorem e4e (s:Stp) (t:Tkt) {v:Value} (ht:TktR t) (hs:SetR w s v) (k:∀ w',Bw w w' → K (.bool (a6f s t)) w'):a0a Tryz.prog 75 #[b0d s v,b7p t] K w:=by
 apply e8z
 unfold g5f
 obtain ⟨ad,c,rfl⟩:=hs.ints.isSlice
 refine a1b (cs:=a9w s (.slice ad s.bases.length c)) rfl (.start w) fun b W hk hb1 hb=>?_
 refine a1b (cs:=b4y t) rfl hk fun b2 W2 hk hb2 hbb=>?_
 refine Xa hk.cells ?_
 refine e3r s t ht (hs.next hk.below) (fun w2 h=>?_)
 have hk:=hk.next h
 refine b2c ?_
 refine b7o s ad s.bases.length c hk (fun b7 W7 hk hb7 hg7=>?_)
 exact k _ hk.below
theorem f8i {t:Tkt} (h:WTkt t):TktR t:=by
 have:=h.all
 simp only [a5m,List.mem_cons,List.not_mem_nil,or_false,forall_eq_or_imp,forall_eq] at this
 exact ⟨a1f this.1,a1f this.2.1,a1f this.2.2.1,a1f this.2.2.2.1,a1f this.2.2.2.2.1,a1f this.2.2.2.2.2⟩
theorem c6b (s:Stp) (lims:List Lim) (h:Hld):PuSpec.validM s lims h = (a1u s && decide (0 ≤ h.limit) && decide (h.limit < lims.length) && a4l h.window && a7q h.links &&
 decide ((h.attrs.length:Int) = (s.bases.length:Int) - 1) && decide (h.attrs.length ≠ 0) && decide (1 ≤ h.attrs.headD 0) && decide (h.bl.ys.length = s.bases.length) &&
 a2t s.g.Q h.attrs && a2t s.g.Q h.bl.ys && a2t s.g.Q [h.bl.s,h.bl.u,h.bl.v] && decide (h.bl.s ≠ 0) && decide (h.bl.u ≠ 0) &&
 a6f s h.t && decide (h.t.mark = a6i s.g (a7f s h.attrs).1 h.bl.s) && decide (h.t.first = (a5t s.g s.bases h.bl.ys).1)):=rfl
theorem c2j (s:Stp) (lims:List Lim) (h:Hld) {v lv av yv kv:Value} (hs:SetR w s v) (hl:c5v w lv lims) (hh:HldR w h av yv kv) (k:∀ w',Bw w w' → K (.bool (PuSpec.validM s lims h)) w'):a0a Tryz.prog 21 #[b0d s v,lv,b8c h av yv kv] K w:=by
 apply e6z
 unfold g3f
 obtain ⟨ad,c,rfl⟩:=hs.ints.isSlice
 obtain ⟨a1,c1,rfl⟩:=hh.attrs.isSlice
 obtain ⟨a2,c2,rfl⟩:=hh.ys.isSlice
 obtain ⟨a3,c3,rfl⟩:=hh.links.isSlice
 obtain ⟨a4,c4,rfl⟩:=hl.isSlice
 have k2:∀ w' r,PuSpec.validM s lims h = r → Bw w w' → K (.bool r) w':=fun w' r e hb=>by rw [← e]; exact k w' hb
 clear k
 rw [c6b] at k2
 have hbl:=hs.ints.len
 have hal:=hh.attrs.len
 refine a1b (cs:=a9w s (.slice ad s.bases.length c)) rfl (.start w) fun b W hk hb1 hb=>?_
 refine a1b (cs:=b2f h (.slice a1 h.attrs.length c1) (.slice a2 h.bl.ys.length c2) (.slice a3 h.links.length c3)) rfl hk fun b2 W2 hk hb2 hbb=>?_
 have hk:=hk.drew
 refine ⟨Nx { W2 with drawn:=W2.drawn + 1 },bR,rfl,?_⟩
 generalize ({ W2 with drawn:=W2.drawn + 1 }:World) = W3 at hk ⊢
 refine Xc (fun W0 hW0=>(hk.next hW0).cells) ?_
 refine ⟨Nx,?_⟩
 refine b0h (fun v w'=>∃ g2,v = ptr g2 0 ∧ W3.heap.size ≤ g2 ∧ Holds w' g2 29 [.int .i64 0,.int .i64 0,.int .i64 0,.slice none 0 0]) (fun v w w1 hS h=>h.imp fun g2 h=>⟨h.1,h.2.1,h.2.2.next hS⟩) ?_ ?_
 ·intro w1 h1
  exact a0m c0i (fun g2 w2 h2 hg2 hh=>⟨h1.on h2,h2,g2,rfl,Nat.le_trans h1.size hg2,hh⟩)
 refine Xd0 ?_
 rintro w9 h9 _ ⟨g9,rfl,hg9,hB⟩ _ rfl
 refine a0i b5a (xs:=c2f h.bl (.slice a2 h.bl.ys.length c2)) rfl rfl (b2h _ _ _ _) hB rfl (fun w10 hg10 hB=>?_)
 have hoff:=a8h hk.cells
 have hs39:=h9.size
 have hg9w:w.heap.size ≤ g9:=Nat.le_trans hk.below.size hg9
 have hk:=(hk.next h9).wrote hg10 hg9w (fun p hp=>by have:=hoff p hp; omega)
 clear h9 hg10 hoff hb1 hb hb2 hbb
 refine Xb1 hk.cells ?_
 refine a7e s (hs.next hk.below) (fun w11 h11=>?_)
 have hk:=hk.next h11
 have hB:=hB.next h11
 clear h11 hg9 hs39
 cases hv:a1u s with
 | false=>
  refine Xa0 ?_
  exact k2 _ _ (by rw [hv]; simp) hk.below
 | true=>
 repeat (any_goals (first
 | (with_reducible first|refine a0v ?_|((refine a9c ?_); first|refine zC ?_|refine zD ?_|((refine a6c ?_); first|refine zI ?_|refine zJ ?_|refine zK (fun hg=>?_) fun hg=>?_))|((refine a2x ?_); first|refine yB ?_|refine yC ?_|refine yD ?_|refine yE ?_)|refine yL ?_)
 | ((with_reducible refine oG fun X Y=>?_); simp [go_sem,hk.cells]; apply Y; clear Y X)))
 ·exact k2 _ _ (by rw [decide_eq_false (by omega:¬ 0 ≤ h.limit)]; simp) hk.below
 ·exact k2 _ _ (by rw [decide_eq_false (by omega:¬ h.limit < (lims.length:Int))]; simp) hk.below
 refine a6q h.window ?_
 cases ht:a4l h.window with
 | false=>
  refine Xa0 ?_
  exact k2 _ _ (by rw [ht]; simp) hk.below
 | true=>
 refine Xa hk.cells ?_
 refine d3r h.links (hh.links.next (a1o a4i) hk.below) (fun w12 h12=>?_)
 have hk:=hk.next h12
 have hB:=hB.next h12
 clear h12
 cases hf:a7q h.links with
 | false=>
  refine Xa0 ?_
  exact k2 _ _ (by rw [hf]; simp) hk.below
 | true=>
 repeat (any_goals (first
 | (with_reducible first|((refine a9c ?_); first|refine zC ?_|refine zD ?_|((refine a6c ?_); first|refine zI ?_|refine zJ ?_|refine zK (fun hg=>?_) fun hg=>?_)|((refine c4p ?_); first|refine zO ?_|refine zP ?_|refine zQ (fun hg=>?_) fun hg=>?_))|((refine a2x ?_); first|refine yB ?_|refine yC ?_|refine yD ?_|refine yF ?_|refine yG ?_)|((refine a1n ?_); first|refine yL ?_|refine yM ?_))
 | ((with_reducible refine oG fun X Y=>?_); simp [go_sem,hk.cells,hB.are]; (try simp (disch:=omega) only [a0u,a2y,a1r]); apply Y; clear Y X)))
 ·exact k2 _ _ (by rw [hg]; simp) hk.below
 rotate_left
 ·exact k2 _ _ (by rw [decide_eq_false hg]; simp) hk.below
 have hpos:0 < h.attrs.length:=List.length_pos_iff.2 hg
 obtain ⟨b5,o5,rfl,hb5,ca,ra,_⟩:=hh.attrs.at (i:=0) hpos
 have e0:h.attrs.headD 0 = h.attrs[0]:=by rw [List.headD_eq_head?_getD,List.head?_eq_getElem?,gE hpos]; rfl
 have ca0:=ca _ hk.below
 rw [Nat.add_zero] at ca0
 repeat (any_goals (first
 | (with_reducible first|((refine a9c ?_); ((refine a6c ?_); first|refine zI ?_|refine zJ ?_|refine zK (fun hg=>?_) fun hg=>?_))|((refine a2x ?_); first|refine yD ?_|refine yE ?_)|((refine a1n ?_); first|refine yL ?_|refine yS (fun hg=>?_) fun hg=>?_))
 | ((with_reducible refine oG fun X Y=>?_); simp [go_sem,hk.cells,hB.are,ca0]; (first|refine Y _ _ ?_|refine And.intro (by omega) (Y _ _ ?_)); clear Y X)))
 ·exact k2 _ _ (by rw [e0,decide_eq_false (by omega:¬ (1:Int) ≤ h.attrs[0])]; simp) hk.below
 rotate_left
 ·exact k2 _ _ (by rw [decide_eq_false (by omega:¬ h.bl.ys.length = s.bases.length)]; simp) hk.below
 refine b2e s.g.Q (hh.attrs.next hk.below) (fun w13 h13=>?_)
 have hk:=hk.next h13
 have hB:=hB.next h13
 clear h13 ca ca0
 cases hr1:a2t s.g.Q h.attrs with
 | false=>
  refine Xa0 ?_
  exact k2 _ _ (by rw [hr1]; simp) hk.below
 | true=>
 refine Xa (An2 hk.cells hB.are) ?_
 refine b2e s.g.Q (hh.ys.next hk.below) (fun w14 h14=>?_)
 have hk:=hk.next h14
 have hB:=hB.next h14
 clear h14
 cases hr2:a2t s.g.Q h.bl.ys with
 | false=>
  refine Xa0 ?_
  exact k2 _ _ (by rw [hr2]; simp) hk.below
 | true=>
 repeat (any_goals (first
 | ((with_reducible refine g8f h.bl.s h.bl.u h.bl.v (a1f hh.wf.s) (a1f hh.wf.u) (a1f hh.wf.v) ?_); intro v15 W15 h15 hi15)
 | (with_reducible first|refine a0v ?_|refine zC ?_|refine yC ?_)
 | ((with_reducible refine oG fun X Y=>?_); simp [go_sem,hk.cells,hB.are]; apply Y; clear Y X)))
 have hk:=hk.next h15
 have hB:=hB.next h15
 clear h15
 refine b2e s.g.Q hi15 (fun w16 h16=>?_)
 have hk:=hk.next h16
 have hB:=hB.next h16
 clear h16 hi15
 cases hr3:a2t s.g.Q [h.bl.s,h.bl.u,h.bl.v] with
 | false=>
  refine Xa0 ?_
  exact k2 _ _ (by rw [hr3]; simp) hk.below
 | true=>
 repeat (any_goals (first
 | (with_reducible first|((refine a9c ?_); first|refine zC ?_|((refine a6c ?_); first|refine zI ?_|refine zJ ?_|refine zK (fun hg=>?_) fun hg=>?_))|((refine a2x ?_); first|refine yC ?_|refine yD ?_|refine yE ?_)|((refine a1n ?_); first|refine yL ?_|refine yP (fun hg=>?_) fun hg=>?_))
 | ((with_reducible refine oG fun X Y=>?_); simp [go_sem,hk.cells,hB.are]; apply Y; clear Y X)))
 ·exact k2 _ _ (by rw [hg]; simp) hk.below
 ·exact k2 _ _ (by rw [hg]; simp) hk.below
 refine b9a s.g (hs.ints.next hk.below) (hh.ys.next hk.below) (fun w17 h17=>?_)
 have hk:=hk.next h17
 have hB:=hB.next h17
 clear h17
 have hk:=hk.drew
 refine b2c ?_
 refine ⟨Nx { w17 with drawn:=w17.drawn + 1 },bR,rfl,?_⟩
 have hB:=hB.next (.drawn (B:=w17.heap.size))
 generalize ({ w17 with drawn:=w17.drawn + 1 }:World) = W18 at hk hB ⊢
 refine Xc (fun W0 hW0=>An2 ((hk.next hW0).cells) ((hB.next hW0).are)) ?_
 refine ⟨Nx,?_⟩
 apply a2l
 ·intro w1 h1
  exact g0z s (hs.next (hk.next h1).below) (hh.attrs.next (hk.next h1).below) (fun w2 h2=>⟨h1.on h2,h2,rfl⟩)
 rintro w19 h19 _ rfl
 have hk:=hk.next h19
 clear h19 hB
 refine c9n s.g _ _ (fun w20 h20=>?_)
 have hk:=hk.next h20
 clear h20
 refine Xa hk.cells ?_
 refine e4e s h.t (f8i hh.wf.t) (hs.next hk.below) (fun w21 h21=>?_)
 have hk:=hk.next h21
 clear h21
 cases hfm:a6f s h.t with
 | false=>
  refine Xa0 ?_
  exact k2 _ _ (by rw [hfm]; simp) hk.below
 | true=>
 repeat (any_goals (first
 | (with_reducible first|refine a0v ?_|((refine a9c ?_); first|refine zA ?_|((refine a6c ?_); first|refine zF ?_|refine zG ?_|refine zH (fun hg=>?_) fun hg=>?_))|((refine a2x ?_); first|refine yB ?_|refine yD ?_|refine yE ?_))
 | ((with_reducible refine oG fun X Y=>?_); simp [go_sem,hk.cells]; apply Y; clear Y X)))
 ·refine k2 _ _ ?_ hk.below
  have hp:((h.attrs.length:Int) = (s.bases.length:Int) - 1):=by omega
  rw [hv,ht,hf,hr1,hr2,hr3,hfm,e0,decide_eq_true hp,decide_eq_true (by omega:(0:Int) ≤ h.limit),decide_eq_true (by omega:h.limit < (lims.length:Int)),decide_eq_true (by omega:h.attrs.length ≠ 0),decide_eq_true (by omega:(1:Int) ≤ h.attrs[0]),decide_eq_true (by omega:h.bl.ys.length = s.bases.length),decide_eq_true (by omega:h.bl.s ≠ 0),decide_eq_true (by omega:h.bl.u ≠ 0),decide_eq_true hg]
  rfl
 ·exact k2 _ _ (by rw [decide_eq_false hg]; simp) hk.below
theorem a4j {T:TypeId} (a b:a0h) (h:a.length + b.length < 2 ^ 60) (k:K (.string ⟨(a ++ b).toArray⟩) w):oM Tryz.prog (Go.Op.binOp Go.BinOp.add 9 (.tmp 0) (.tmp 1) 9) T [.string ⟨a.toArray⟩,.string ⟨b.toArray⟩] K w:=by
 refine Xa0 ?_
 exact k
theorem a3j {v:Value} {l:List Int} (h:Ints w v l):Cd.RowOf Cd.intV w v l:=by
 obtain ⟨⟨ad,c,rfl,_,hr⟩,_,_⟩:=h
 refine ⟨ad,c,rfl,?_⟩
 rcases hr with rfl | ⟨b,o,rfl,hlt,hc⟩
 ·exact .inl rfl
 ·refine .inr ⟨b,o,rfl,hlt,fun i hi=>hc i _ ?_⟩
  rw [flat_int,List.getElem?_map,gE hi]
  rfl
theorem d3s {g c:Nat} {T:TypeId} {xs:List Value} {ls:L2} (hH:Holds w g T xs) (hl:ls.length < 1000) (h:∀ i (hi:i < ls.length),∃ v,xs[i]? = some v ∧ Ints w v ls[i]):SRow 1 (b8b 1 (g5y Ints)) w (.slice (some ⟨g,0,none⟩) ls.length c) ls:=by
 refine ⟨⟨_,_,rfl,.inr ⟨g,0,rfl,hH.lt,fun i hi=>?_⟩⟩,by omega⟩
 obtain ⟨v,hv,hi2⟩:=h i hi
 refine ⟨[v],rfl,fun j u hj=>?_,v,rfl,hi2⟩
 obtain ⟨hj1,rfl⟩:=gS hj
 have hj0:j = 0:=by simpa using hj1
 subst hj0
 obtain ⟨hx,hx2⟩:=gS hv
 have:=hH.cell i hx
 rw [hx2] at this
 simpa using this
theorem h3j {T:TypeId} {a1 a2 a3 a4 a5:Option Addr} {n1 n2 n3 n4 n5 c1 c2 c3 c4 c5:Nat} {l1 l2 l3 l4 l5:List Int} (h1:Ints w (.slice a1 n1 c1) l1) (h2:Ints w (.slice a2 n2 c2) l2) (h3:Ints w (.slice a3 n3 c3) l3) (h4:Ints w (.slice a4 n4 c4) l4) (h5:Ints w (.slice a5 n5 c5) l5)
  (k:∀ v W,Bw w W → SRow 1 (b8b 1 (g5y Ints)) W v [l1,l2,l3,l4,l5] → K v W) :
  oM Tryz.prog (.buildSlice 123 5 #[(0,.tmp 0),(1,.tmp 1),(2,.tmp 2),(3,.tmp 3),(4,.tmp 4)]) T [.slice a1 n1 c1,.slice a2 n2 c2,.slice a3 n3 c3,.slice a4 n4 c4,.slice a5 n5 c5] K w:=by
 rw [a6u (S:=Instr.buildSlice 123 5 #[(0,.slice a1 n1 c1),(1,.slice a2 n2 c2),(2,.slice a3 n3 c3),(3,.slice a4 n4 c4),(4,.slice a5 n5 c5)]) (by simp [xop,execOp,a1e,evE])]
 refine c1i (e:=24) (n:=5) (xs:=[.slice a1 n1 c1,.slice a2 n2 c2,.slice a3 n3 c3,.slice a4 n4 c4,.slice a5 n5 c5]) (by kernel_rfl) (fun g W h _ hH=>k _ W h ?_)
 refine d3s (ls:=[l1,l2,l3,l4,l5]) hH (by simp) (fun i hi=>?_)
 match i,hi with
 | 0,_=>exact ⟨_,rfl,h1.next h⟩
 | 1,_=>exact ⟨_,rfl,h2.next h⟩
 | 2,_=>exact ⟨_,rfl,h3.next h⟩
 | 3,_=>exact ⟨_,rfl,h4.next h⟩
 | 4,_=>exact ⟨_,rfl,h5.next h⟩
@[go_sem] theorem g8g (T:TypeId) (b o n c:Nat) (x:Int):oM Tryz.prog (.indexAddr 123 (.tmp 0) (.tmp 1)) T [.slice (some ⟨b,o,none⟩) n c,.int .i64 x] = onM (0 ≤ x ∧ x < n) (.pointer (some ⟨b,o + x.toNat * 1,none⟩)):=
 b7w (K:=fun _ _=>True) (P:=Tryz.prog) (n:=1) 123 T (by kernel_rfl) (fun w=>by kernel_rfl) b o n c x
@[reducible] def b5g (h:Hld):L2:=[[h.limit,h.window],h.attrs,[h.bl.s,h.bl.u,h.bl.v],h.bl.ys,a5m h.t]
theorem d1j (h:Hld):a3m h = ((b5g h).map a0d).flatten ++ a1a h.links.length ++ (h.links.map a5g).flatten:=by
 simp [a3m,b5g,List.append_assoc]
def EnJ (h:Hld) (w0:World) (vs:List Value) (W:World):Prop:=∃ (u:Value) (i:Nat),vs = [u,.string ⟨(((b5g h).take i).map a0d).flatten.toArray⟩,.int .i64 (i:Int)] ∧ i ≤ 5 ∧ Nx w0 W
theorem c2k {h:Hld} (hw:WHld h) {i:Nat} (hi:i < 5):∀ x ∈ (b5g h)[i],InR x:=by
 match i,hi with
 | 0,_=>intro x hx; simp only [b5g,List.getElem_cons_zero,List.mem_cons,List.not_mem_nil,or_false] at hx; rcases hx with rfl | rfl; exact hw.limit; exact hw.window
 | 1,_=>exact hw.attrs
 | 2,_=>intro x hx; simp only [b5g,List.getElem_cons_zero,List.getElem_cons_succ,List.mem_cons,List.not_mem_nil,or_false] at hx; rcases hx with rfl | rfl | rfl; exact hw.s; exact hw.u; exact hw.v
 | 3,_=>exact hw.ys
 | 4,_=>exact hw.t.all
def EmJ (P:a0h) (l:List Lnk) (w0:World) (vs:List Value) (W:World):Prop:=∃ (i:Nat),vs = [.string ⟨(P ++ ((l.take i).map a5g).flatten).toArray⟩,.int .i64 (i:Int)] ∧ i ≤ l.length ∧ Nx w0 W
theorem c0j (h:Hld) {av yv kv:Value} (hh:HldR w h av yv kv) (hsz:(a3m h).length < 2 ^ 39) (hl:Cd.LaidE w) (k:∀ w',Bw w w' → K (.string ⟨(a3m h).toArray⟩) w'):a0a Tryz.prog 23 #[b8c h av yv kv] K w:=by
 apply e6u
 unfold g3a
 obtain ⟨a1,c1,rfl⟩:=hh.attrs.isSlice
 obtain ⟨a2,c2,rfl⟩:=hh.ys.isSlice
 obtain ⟨a3,c3,rfl⟩:=hh.links.isSlice
 refine a1b (cs:=b2f h (.slice a1 h.attrs.length c1) (.slice a2 h.bl.ys.length c2) (.slice a3 h.links.length c3)) rfl (.start w) fun b W hk hb1 hb=>?_
 have hoff:=a8h hk.cells
 have hwW:=hk.below.size
 repeat (any_goals (first
 | ((with_reducible refine a0m c0i ?_); intro g2 w2 h2 hg2 hB)
 | ((with_reducible refine oG fun X Y=>?_); simp [go_sem,hk.cells]; apply Y; clear Y X)))
 have hk:=hk.next h2
 refine a0i b5a (xs:=c2f h.bl (.slice a2 h.bl.ys.length c2)) rfl rfl (b2h _ _ _ _) hB rfl (fun w3 hg3 hB=>?_)
 have hk:=(hk.wrote hg3 (by omega) (fun p hp=>by have:=hoff p hp; omega)).drew
 clear hoff hwW h2 hg2 hg3 hb1 hb
 refine ⟨Nx { w3 with drawn:=w3.drawn + 1 },bR,rfl,?_⟩
 have hB:=hB.next (.drawn (B:=w3.heap.size))
 generalize ({ w3 with drawn:=w3.drawn + 1 }:World) = W4 at hk hB ⊢
 refine Xc (fun W0 hW0=>An2 ((hk.next hW0).cells) ((hB.next hW0).are)) ?_
 refine Xd0 ?_
 refine ⟨Nx,?_⟩
 refine b0h (fun v w'=>Ints w' v [h.limit,h.window]) (fun v w w1 hS h=>h.next hS) ?_ ?_
 ·intro w1 h1
  exact mk2 _ _ (a1f hh.wf.limit) (a1f hh.wf.window) (fun v w2 h2 hi=>⟨h1.on h2,h2,hi⟩)
 refine b0h (fun v w'=>Ints w' v [h.bl.s,h.bl.u,h.bl.v]) (fun v w w1 hS h=>h.next hS) ?_ ?_
 ·intro w1 h1
  exact g8f _ _ _ (a1f hh.wf.s) (a1f hh.wf.u) (a1f hh.wf.v) (fun v w2 h2 hi=>⟨h1.on h2,h2,hi⟩)
 refine b0h (fun v w'=>Ints w' v (a5m h.t)) (fun v w w1 hS h=>h.next hS) ?_ ?_
 ·intro w1 h1
  exact c0e h.t hh.wf.t (fun w2 v h2 hi=>⟨h1.on h2,h2,hi⟩)
 refine b0h (fun v w'=>SRow 1 (b8b 1 (g5y Ints)) w' v (b5g h)) (fun v w w1 hS h=>h.next (a1o c6d) hS) ?_ ?_
 ·intro w1 h1 v1 i1 v2 i2 v3 i3
  obtain ⟨_,_,rfl⟩:=i1.isSlice
  obtain ⟨_,_,rfl⟩:=i2.isSlice
  obtain ⟨_,_,rfl⟩:=i3.isSlice
  exact h3j i1 (hh.attrs.next (hk.next h1).below) i2 (hh.ys.next (hk.next h1).below) i3 (fun v w2 h2 hr=>⟨h1.on h2,h2,hr⟩)
 apply a2l
 ·intro w1 h1 v1 hr
  obtain ⟨_,_,rfl⟩:=hr.isSlice
  refine Xa0 ?_
  exact ⟨h1,bR,rfl⟩
 rintro w5 h5 v1 - v2 - v3 - v4 hr _ rfl
 have hk:=hk.next h5
 clear h5 hB
 refine ⟨EnJ h w5,f2f 5,⟨_,0,rfl,by omega,bR⟩,?_⟩
 rintro _ _ w6 ⟨u,i,rfl,hi,h6⟩
 have hk:=hk.next h6
 have hfl:=fun k hk=>Cd.flat_snoc a0d (b5g h) k hk
 have hle:=fun k=>Cd.flat_le a0d (b5g h) k
 have hE:=congrArg List.length (d1j h)
 simp only [List.length_append] at hE
 have hr6:=hr.next (a1o c6d) h6
 by_cases hin:i = 5
 ·subst hin
  have e5:(b5g h).take 5 = b5g h:=rfl
  rw [e5]
  refine Xa hk.cells ?_
  have hln:=hh.links.len
  refine Cd.pNum_ok _ ⟨by omega,by omega⟩ (hl.below hk.below hl.size).toLaid (fun w7 h7=>?_)
  have hk:=hk.next h7
  refine a4j _ _ (by omega) ?_
  refine Xa hk.cells ?_
  have hk0:=hk
  generalize hP:(((b5g h).map a0d).flatten ++ a1a h.links.length) = P
  rw [d1j,hP] at k
  refine ⟨EmJ P h.links w7,(fun vs _=>match vs with | [_,.int _ i]=>h.links.length - i.toNat | _=>0),⟨0,by simp,by omega,bR⟩,?_⟩
  have hPl:P.length + (h.links.map a5g).flatten.length < 2 ^ 39:=by
   have:=congrArg List.length hP
   simp only [List.length_append] at this
   omega
  rintro _ _ w8 ⟨i,rfl,hi,h8⟩
  have hk:=hk.next h8
  by_cases hin:i = h.links.length
  ·subst hin
   rw [List.take_length]
   refine Xa hk.cells ?_
   exact k _ hk.below
  have hil:i < h.links.length:=by omega
  have hiZ:(i:Int) < h.links.length:=by omega
  obtain ⟨b1,o1,rfl,hb1,cs,hcl,hcc,av,rfl,hans,hwf⟩:=(hh.links.next (a1o a4i) hk.below).at (i:=i) hil
  have hfl:=Cd.flat_snoc a5g h.links i hil
  have hle:=Cd.flat_le a5g h.links (i + 1)
  refine Xa @hiZ ?_
  refine a3n hcc c0g (by kernel_rfl) (by rw [hcl]; kernel_rfl) ?_
  obtain ⟨a5,c5,rfl⟩:=hans.isSlice
  refine a0m c5s (fun g9 w9 h9 hg9 hB=>?_)
  have hk:=hk.next h9
  refine a0i c5t (xs:=lkC h.links[i] (.slice a5 h.links[i].spend.answers.length c5)) rfl rfl (b2g _ _ _ _) hB rfl (fun w10 hg10 hB=>?_)
  have h8x:Bw w8 w10:=a0y h9 hg10 hg9
  have hx10:=hans.next h8x
  have hl10:Cd.LaidE w10:=hl.below ((hk0.next h8).next h8x).below hl.size
  have hx10:=hx10.next (.drawn (B:=w10.heap.size))
  have hB:=hB.next (.drawn (B:=w10.heap.size))
  have hl10:=hl10.below (.drawn (B:=w10.heap.size)) (hl10.size)
  have h8x:=h8x.on (.drawn (B:=w10.heap.size))
  refine ⟨Nx { w10 with drawn:=w10.drawn + 1 },bR,rfl,?_⟩
  generalize ({ w10 with drawn:=w10.drawn + 1 }:World) = W11 at hx10 hB hl10 h8x ⊢
  generalize h.links[i] = x at *
  refine Xc (fun W0 hW0=>(hB.next hW0).are) ?_
  have hX:(a5g x).length = (a0d (a5m x.ticket)).length + (a0n x.spend.dare).length + (a0d x.spend.answers).length + (a0t x.terms).length:=by simp only [a5g,List.length_append]
  rw [hfl,List.length_append] at hle
  have hlC:∀ w1,Nx W11 w1 → Cd.Laid w1:=fun w1 h1=>(hl10.below h1 hl10.size).toLaid
  refine ⟨Nx,?_⟩
  refine b0h (fun v w'=>Ints w' v (a5m x.ticket)) (fun v w w1 hS h=>h.next hS) ?_ ?_
  ·intro w1 h1
   exact c0e _ hwf.t (fun w2 v h2 hi=>⟨h1.on h2,h2,hi⟩)
  apply a2l
  ·intro w1 h1 v1 hi1
   exact Cd.pNums_ok _ v1 (hlC w1 h1) (a3j hi1) hwf.t.all (by show (a0d _).length < _; omega) (fun w2 h2=>⟨h1.on h2,h2,rfl⟩)
  apply a2l
  ·intro w1 h1
   exact Cd.pInt_ok _ hwf.dare (hlC w1 h1) (fun w2 h2=>⟨h1.on h2,h2,rfl⟩)
  apply a2l
  ·rintro w1 h1 _ rfl _ rfl
   exact a4j _ _ (by show (a0d _).length + _ < _; omega) ⟨h1,bR,rfl⟩
  apply a2l
  ·intro w1 h1
   exact Cd.pNums_ok _ _ (hlC w1 h1) (a3j (hx10.next h1)) hwf.ans (by show (a0d _).length < _; omega) (fun w2 h2=>⟨h1.on h2,h2,rfl⟩)
  apply a2l
  ·rintro w1 h1 _ rfl _ rfl
   exact a4j _ _ (by simp only [List.length_append]; show (a0d _).length + _ + (a0d _).length < _; omega) ⟨h1,bR,rfl⟩
  apply a2l
  ·intro w1 h1
   exact Cd.pText_ok _ (by have:x.terms.length ≤ (a0t x.terms).length:=(by simp [a0t]; omega); omega) (hlC w1 h1) (fun w2 h2=>⟨h1.on h2,h2,rfl⟩)
  apply a2l
  ·rintro w1 h1 _ rfl _ rfl
   exact a4j _ _ (by simp only [List.length_append]; show (a0d _).length + _ + (a0d _).length + _ < _; omega) ⟨h1,bR,rfl⟩
  rintro w12 h12 v1 - _ rfl _ rfl _ rfl _ rfl _ rfl _ rfl _ rfl
  refine a4j _ _ (by simp only [List.length_append]; show _ + _ + ((a0d _).length + _ + (a0d _).length + _) < _; omega) ?_
  refine Xa0 ?_
  exact ⟨⟨i + 1,by rw [hfl]; simp [a5g,a0d,List.append_assoc],by omega,(h8.on h8x).on h12⟩,by show h.links.length - (((i + 1:Nat):Int)).toNat < h.links.length - ((i:Nat):Int).toNat; omega⟩
 ·have hi5:i < 5:=by omega
  have hiZ:(i:Int) < 5:=by omega
  obtain ⟨ad4,c4,rfl⟩:=hr6.isSlice
  obtain ⟨b1,o1,v5,rfl,hb1,hc1,hI⟩:=hr6.one (i:=i) hi5
  have hfl:=hfl i hi5
  have hle:=hle (i + 1)
  rw [hfl] at hle
  rw [List.length_append] at hle
  refine Xa (An2 @hiZ @hc1) ?_
  refine Cd.pNums_ok _ v5 (hl.below hk.below hl.size).toLaid (a3j hI) (c2k hh.wf hi5) (by show (a0d _).length < _; omega) (fun w7 h7=>?_)
  refine a4j _ _ (by show _ + (a0d _).length < _; omega) ?_
  refine Xa0 ?_
  exact ⟨⟨v5,i + 1,by rw [hfl]; rfl,by omega,h6.on h7⟩,by show 5 - (((i + 1:Nat):Int)).toNat < 5 - ((i:Nat):Int).toNat; omega⟩
end
end Go.Proofs
namespace Go.Proofs
open Go.Sh Tryz
variable {a0 a1 a2 a3:Value} {K:VK} {w:World}
def f5a (a0:Value) (K:VK) (w:World):Prop:=
 oM prog (.binOp .eql 32 (.tmp 0) (.const (.slice none 0 0)) 32) 4 [a0] (fun v4=>
 kO v4 (K (.slice none 0 0))
 (oM prog (.buildSlice 32 0 #[]) 32 [] fun v5=>
 oM prog (.call (Go.Call.mk (.builtin .append) #[(.tmp 0),(.tmp 1)] #[32,32])) 32 [v5,a0] fun v7=>
 K v7)) w
theorem d6x (h:f5a a0 K w):a0a prog 194 #[a0] K w:=
 cZ (fun _=>0) func194 h
def f5b (a0:Value) (K:VK) (w:World):Prop:=
 oM prog (.box 34 (.tmp 0)) 0 [a0] (fun v1=>
 kA 34 fun v2=>
 kH fun C_3 w=>(((true:Bool) = true) ∧ (jF 34 2 v1 C_3 fun v5=>
 jL 24 v5 C_3 fun v6=>
 jF 34 3 v1 C_3 fun v8=>
 jF 29 3 v8 C_3 fun v9=>
 jL 24 v9 C_3 fun v10=>
 jF 34 5 v1 C_3 fun v12=>
 jL 32 v12 C_3 fun v13=>
 ∃ S_11:World → WK,xR S_11 fun R_12=>
 (∀ w,C_3 w → (a0a prog 114 #[v6] (xK C_3 S_11 R_12 w) w)) ∧
 (xR S_11 fun R_13=>
 (∀ w,C_3 w → (a0a prog 114 #[v10] (xK C_3 S_11 R_13 w) w)) ∧
 (xR S_11 fun R_14=>
 (∀ w,C_3 w → (a0a prog 194 #[v13] (xK C_3 S_11 R_14 w) w)) ∧
 (xR S_11 fun R_15=>
 (∀ w,C_3 w → (kF 34 2 v1 (xK C_3 S_11 R_15 w) w)) ∧
 (∀ w,C_3 w → ∀ v7,R_12 v7 w → ∀ v11,R_13 v11 w → ∀ v14,R_14 v14 w → ∀ v15,R_15 v15 w → (
 kS 24 v15 v7 (fun _=>
 kF 34 3 v1 fun v16=>
 kF 29 3 v16 fun v17=>
 kS 24 v17 v11 fun _=>
 kF 34 5 v1 fun v18=>
 kS 32 v18 v14 fun _=>
 kF 34 5 v1 fun v19=>
 kL 32 v19 fun v20=>
 kN 32 v20 fun v21=>
 kQ [undef,(.int .i64 0)] fun J_26 m_27 l_28 u_l_28 w0_l_28=>(fun w=>(
 kB .lss 3 0 (l_28.getD 1 undef) v21 (fun v23=>
 kO v23 (kI 32 v20 (l_28.getD 1 undef) fun v25=>
 kL 95 v25 fun v26=>
 kA 95 fun v4=>
 kS 95 v4 v26 fun _=>
 kH fun C_33 w=>(((true:Bool) = true) ∧ (jF 34 5 v1 C_33 fun v27=>
 jL 32 v27 C_33 fun v28=>
 a0g (l_28.getD 1 undef) C_33 fun v29=>
 jF 95 1 v4 C_33 fun v30=>
 jF 84 1 v30 C_33 fun v31=>
 jL 24 v31 C_33 fun v32=>
 ∃ S_40:World → WK,xR S_40 fun R_41=>
 (∀ w,C_33 w → (a0a prog 114 #[v32] (xK C_33 S_40 R_41 w) w)) ∧
 (∀ w,C_33 w → ∀ v33,R_41 v33 w → (
 kI 32 v28 v29 (fun v34=>
 kF 95 1 v34 fun v35=>
 kF 84 1 v35 fun v36=>
 kS 24 v36 v33 fun _=>
 kB .add 3 3 (l_28.getD 1 undef) (.int .i64 1) fun v37=>
 kJ J_26 m_27 l_28 w0_l_28 [(l_28.getD 1 undef),v37]) w)))))
 (kL 34 v1 fun v38=>
 kS 34 v2 v38 fun _=>
 kR 34 v2 K)) w)) w0_l_28) w)))))))) w
theorem d6y (h:f5b a0 K w):a0a prog 120 #[a0] K w:=
 cZ (mz [(1,.free [0,1,3,4,5,7,8] [2,6,9,10] [11,12,13,14,15,16]),(5,fz 6 1 4)]) func120 h
def f5c (a0 a1:Value) (K:VK) (w:World):Prop:=
 oM prog (.box 31 (.tmp 0)) 0 [a1] (fun v3=>
 oM prog (.nilCheck (.tmp 0)) 0 [a0] fun v6=>
 kF 127 2 v6 fun v7=>
 kL 90 v7 fun v8=>
 oM prog (.makeFunc (Go.Fn.func 190) #[] #[(.tmp 0)]) 236 [v3] fun v9=>
 a0a prog 189 #[v8,v9] fun v10=>
 K v10) w
theorem d6z (h:f5c a0 a1 K w):a0a prog 118 #[a0,a1] K w:=
 cZ (fun _=>0) func118 h
def f5d (a0 a1:Value) (K:VK) (w:World):Prop:=
 oM prog (.box 93 (.tmp 0)) 0 [a0] (fun v2=>
 kF 93 0 v2 fun v4=>
 kF 34 4 v4 fun v5=>
 kL 31 v5 fun v6=>
 kL 31 a1 fun v7=>
 a0a prog 191 #[v6,v7] fun v8=>
 K v8) w
theorem d7a (h:f5d a0 a1 K w):a0a prog 190 #[a0,a1] K w:=
 cZ (fun _=>0) func190 h
def f5e (a0 a1:Value) (K:VK) (w:World):Prop:=
 a0a prog 14 #[a1] (fun v9=>
 kE 0 34 v9 fun v10=>
 kE 1 4 v9 fun v11=>
 kA 34 fun v5=>
 kS 34 v5 v10 fun _=>
 kH fun C_5 w=>(((true:Bool) = true) ∧ (a0g v11 C_5 fun v12=>
 jU v12 C_5 fun v13=>
 a0g v13 C_5 fun v14=>
 jG v14 (a0g a0) C_5 fun v15=>
 jG v14 (oH prog (.nilCheck (.tmp 0)) 0 [v15]) C_5 fun v16=>
 jG v14 (jF 127 2 v16) C_5 fun v17=>
 jG v14 (jL 90 v17) C_5 fun v18=>
 jG v14 (jN 90 v18) C_5 fun v19=>
 jG v14 (jB .geq 3 4 v19 (.int .i64 400)) C_5 fun v20=>
 jP v14 (.bool true) v20 C_5 fun v21=>
 a0g v21 C_5 fun v22=>
 jG v22 (a0g a0) C_5 fun v23=>
 jG v22 (oH prog (.nilCheck (.tmp 0)) 0 [v23]) C_5 fun v24=>
 jG v22 (jF 127 0 v24) C_5 fun v25=>
 jG v22 (jL 26 v25) C_5 fun v26=>
 jG v22 (a0g a0) C_5 fun v27=>
 jG v22 (oH prog (.nilCheck (.tmp 0)) 0 [v27]) C_5 fun v28=>
 jG v22 (jF 127 1 v28) C_5 fun v29=>
 jG v22 (jL 27 v29) C_5 fun v30=>
 jG v22 (jL 34 v5) C_5 fun v31=>
 ∃ S_26:World → WK,xR S_26 fun R_27=>
 (∀ w,C_5 w → (gF v22 (a0a prog 21 #[v26,v30,v31]) (xK C_5 S_26 R_27 w) w)) ∧
 (xR S_26 fun R_28=>
 (∀ w,C_5 w → ∀ v32,R_27 v32 w → (gF v22 (kU v32) (xK C_5 S_26 R_28 w) w)) ∧
 (xR S_26 fun R_30=>
 (∀ w,C_5 w → ∀ v33,R_28 v33 w → (kP v22 (.bool true) v33 (xK C_5 S_26 R_30 w) w)) ∧
 (xR S_26 fun R_32=>
 (∀ w,C_5 w → ∀ v34,R_30 v34 w → (C_5 w ∧ S_26 w w ∧ R_32 v34 w)) ∧
 (xR S_26 fun R_34=>
 (∀ w,C_5 w → ∀ v35,R_32 v35 w → (gF v35 (a0f a0) (xK C_5 S_26 R_34 w) w)) ∧
 (xR S_26 fun R_36=>
 (∀ w,C_5 w → ∀ v35,R_32 v35 w → (gF v35 (kF 34 4 v5) (xK C_5 S_26 R_36 w) w)) ∧
 (xR S_26 fun R_38=>
 (∀ w,C_5 w → ∀ v35,R_32 v35 w → ∀ v37,R_36 v37 w → (gF v35 (kL 31 v37) (xK C_5 S_26 R_38 w) w)) ∧
 (∀ w,C_5 w → ∀ v32,R_27 v32 w → ∀ v33,R_28 v33 w → ∀ v34,R_30 v34 w → ∀ v35,R_32 v35 w → ∀ v36,R_34 v36 w → ∀ v37,R_36 v37 w → ∀ v38,R_38 v38 w → (
 gF v35 (a0a prog 118 #[v36,v38]) (fun v39=>
 kP v35 (.bool true) v39 fun v40 w=>
 a2c v40
 (K (.bool false) w)
 (a4t w fun C_50 w=>(a0g a0 (a0p C_50 3) fun v41=>
 a0g a0 (a0p C_50 2) fun v42=>
 oH prog (.nilCheck (.tmp 0)) 0 [v42] (a0p C_50 2) fun v43=>
 jF 127 2 v43 (a0p C_50 2) fun v44=>
 jL 90 v44 (a0p C_50 2) fun v45=>
 jL 34 v5 (a0p C_50 0) fun v46=>
 oM prog (.build 93 #[(0,(.tmp 0))]) 93 [v46] (fun v47 w=>C_50 1 w ∧ (
 oM prog (.buildSlice 90 1 #[(0,(.tmp 0))]) 90 [v47] (fun v48 w=>C_50 2 w ∧ (
 oM prog (.call (Go.Call.mk (.builtin .append) #[(.tmp 0),(.tmp 1)] #[90,90])) 90 [v45,v48] (fun v49 w=>C_50 3 w ∧ (
 oM prog (.nilCheck (.tmp 0)) 0 [v41] (fun v50 w=>C_50 4 w ∧ (
 kF 127 2 v50 (fun v51 w=>C_50 5 w ∧ (
 kS 90 v51 v49 (fun _ w=>C_50 6 w ∧ (
 K (.bool true) w)) w)) w)) w)) w)) w)) w))) w))))))))))) w
theorem d7b (h:f5e a0 a1 K w):a0a prog 186 #[a0,a1] K w:=
 cZ (mz [(2,fz 20 7 2),(4,3)]) func186 h
def f5f (a0 a1 a2 a3:Value) (K:VK) (w:World):Prop:=
 oM prog (.nilCheck (.tmp 0)) 0 [a1] (fun v10=>
 kF 93 1 v10 fun v11=>
 kL 3 v11 fun v12=>
 kC .neq 3 0 4 v12 fun v13 w=>
 gF v13 (a0f a3) (fun v15 w=>
 gF v13 (kB .lss 3 4 v15 (.int .i64 1)) (fun v16=>
 kP v13 (.bool true) v16 fun v17 w=>
 gF v17 (a0f a3) (fun v19 w=>
 gF v17 (a0f a0) (fun v20 w=>
 gF v17 (oM prog (.nilCheck (.tmp 0)) 0 [v20]) (fun v21 w=>
 gF v17 (kF 127 0 v21) (fun v22 w=>
 gF v17 (kF 26 0 v22) (fun v23 w=>
 gF v17 (kF 23 1 v23) (fun v24 w=>
 gF v17 (kL 3 v24) (fun v25 w=>
 gF v17 (kB .geq 3 4 v19 v25) (fun v26=>
 kP v17 (.bool true) v26 fun v27=>
 kO v27 (K (.bool false))
 (kC .eql 3 3 4 a2 fun v33=>
 oM prog (.nilCheck (.tmp 0)) 0 [a1] fun v34=>
 kF 93 1 v34 fun v35=>
 kS 3 v35 (.int .i64 1) fun _=>
 oM prog (.nilCheck (.tmp 0)) 0 [a1] fun v36=>
 kF 93 2 v36 fun v37=>
 kS 3 v37 a3 fun _=>
 oM prog (.nilCheck (.tmp 0)) 0 [a1] fun v38=>
 kF 93 3 v38 fun v39=>
 kS 4 v39 v33 fun _=>
 K (.bool true))) w) w) w) w) w) w) w) w) w) w) w
theorem d7c (h:f5f a0 a1 a2 a3 K w):a0a prog 187 #[a0,a1,a2,a3] K w:=
 cZ (fun _=>0) func187 h
def f5g (a0 a1 a2 a3:Value) (K:VK) (w:World):Prop:=
 a5u (fun M_1=>(kC .eql 3 2 4 a2 (fun v11 w=>
 gT v11 (a0f a1) (fun v13 w=>
 gT v11 (oM prog (.nilCheck (.tmp 0)) 0 [v13]) (fun v14 w=>
 gT v11 (kF 93 1 v14) (fun v15 w=>
 gT v11 (kL 3 v15) (fun v16 w=>
 gT v11 (kC .eql 3 1 4 v16) (fun v17=>
 kP v11 v17 (.bool false) fun v18=>
 kO v18 (oM prog (.nilCheck (.tmp 0)) 0 [a1] fun v20=>
 kF 93 1 v20 fun v21=>
 kS 3 v21 (.int .i64 2) fun _=>
 M_1 [v18,undef,(.bool false)])
 (kC .eql 3 4 4 a2 fun v24 w=>
 gT v24 (a0f a1) (fun v26 w=>
 gT v24 (oM prog (.nilCheck (.tmp 0)) 0 [v26]) (fun v27 w=>
 gT v24 (kF 93 3 v27) (fun v28 w=>
 gT v24 (kL 4 v28) (fun v29=>
 kP v24 v29 (.bool false) fun v30 w=>
 gT v30 (a0f a1) (fun v32 w=>
 gT v30 (oM prog (.nilCheck (.tmp 0)) 0 [v32]) (fun v33 w=>
 gT v30 (kF 93 4 v33) (fun v34 w=>
 gT v30 (kL 4 v34) (fun v35 w=>
 gT v30 (kU v35) (fun v36=>
 kP v30 v36 (.bool false) fun v37=>
 kO v37 (oM prog (.nilCheck (.tmp 0)) 0 [a1] fun v39=>
 kF 93 4 v39 fun v40=>
 kS 4 v40 (.bool true) fun _=>
 M_1 [v18,v37,(.bool false)])
 (K (.bool false))) w) w) w) w) w) w) w) w) w)) w) w) w) w) w) w))
 fun l_2 u_l_2 w=>(K (.bool true) w)
theorem d7d (h:f5g a0 a1 a2 a3 K w):a0a prog 188 #[a0,a1,a2,a3] K w:=
 cZ (fun _=>0) func188 h
def f5h (a0 a1:Value) (K:VK) (w:World):Prop:=
 a0a prog 65 #[(.int .i64 0)] (fun v13=>
 a0a prog 185 #[a1,v13] fun v14=>
 kE 0 9 v14 fun v15=>
 kE 1 4 v14 fun v16=>
 kO v16 (a0a prog 186 #[a0,v15] fun v20=>
 K v20)
 (a0a prog 52 #[a1] fun v22=>
 a0a prog 129 #[v22] fun v24=>
 kH fun C_8 w=>(a0g v22 C_8 fun v25=>
 a0a prog 54 #[v25] (fun v26 w=>C_8 w ∧ (
 jU v26 C_8 fun v27=>
 a0g v27 C_8 fun v28=>
 jG v28 (a0g v24) C_8 fun v29=>
 jG v28 (jN 24 v29) C_8 fun v30=>
 jG v28 (jB .lss 3 4 v30 (.int .i64 2)) C_8 fun v31=>
 jP v28 (.bool true) v31 C_8 fun v32=>
 a0g v32 C_8 fun v33=>
 jG v33 (a0g v24) C_8 fun v34=>
 jG v33 (jI 24 v34 (.int .i64 1)) C_8 fun v35=>
 jG v33 (jL 3 v35) C_8 fun v36=>
 jG v33 (jB .lss 3 4 v36 (.int .i64 0)) C_8 fun v37=>
 jP v33 (.bool true) v37 C_8 fun v38=>
 a0g v38 C_8 fun v39=>
 jG v39 (a0g v24) C_8 fun v40=>
 jG v39 (jI 24 v40 (.int .i64 1)) C_8 fun v41=>
 jG v39 (jL 3 v41) C_8 fun v42=>
 jG v39 (a0g a0) C_8 fun v43=>
 jG v39 (oH prog (.nilCheck (.tmp 0)) 0 [v43]) C_8 fun v44=>
 jG v39 (jF 127 2 v44) C_8 fun v45=>
 jG v39 (jL 90 v45) C_8 fun v46=>
 jG v39 (jN 90 v46) C_8 fun v47=>
 jG v39 (jB .geq 3 4 v42 v47) C_8 fun v48=>
 jP v39 (.bool true) v48 C_8 fun v49=>
 a2c v49
 (K (.bool false) w)
 (a5u (fun M_34=>(kI 24 v24 (.int .i64 0) (fun v51=>
 kL 3 v51 fun v52 w=>
 a5u (fun M_38=>(kC .eql 3 1 4 v52 (fun v54=>
 kO v54 (M_38 [v54])
 (kC .eql 3 3 4 v52 fun v55=>
 M_38 [v55])) w))
 fun l_39 u_l_39 w=>(a2c (l_39.getD 0 undef)
 (oM prog (.makeFunc (Go.Fn.func 187) #[(.tmp 0)] #[]) 233 [a0] (fun v57=>
 M_34 [(l_39.getD 0 undef),v57,(.int .i64 3),undef,(.bool false)]) w)
 (a5u (fun M_43=>(kC .eql 3 2 4 v52 (fun v59=>
 kO v59 (M_43 [v59])
 (kC .eql 3 4 4 v52 fun v60=>
 M_43 [v60])) w))
 fun l_44 u_l_44 w=>(kO (l_44.getD 0 undef) (oM prog (.makeFunc (Go.Fn.func 188) #[(.tmp 0)] #[]) 233 [a0] fun v62=>
 M_34 [(l_39.getD 0 undef),v62,(.int .i64 2),(l_44.getD 0 undef),(.bool false)])
 (K (.bool false)) w)))) w))
 fun l_35 u_l_35 w=>(kH (fun C_48 w=>(((true:Bool) = true) ∧ (a0g v24 C_48 fun v63=>
 jN 24 v63 C_48 fun v64=>
 a0g (l_35.getD 2 undef) C_48 fun v65=>
 jB .eql 3 4 v64 v65 C_48 fun v66=>
 a0g v66 C_48 fun v67=>
 jT v67 (a0g (l_35.getD 1 undef)) C_48 fun v68=>
 jT v67 (a0g a0) C_48 fun v69=>
 jT v67 (oH prog (.nilCheck (.tmp 0)) 0 [v69]) C_48 fun v70=>
 jT v67 (jF 127 2 v70) C_48 fun v71=>
 jT v67 (jL 90 v71) C_48 fun v72=>
 jT v67 (a0g v24) C_48 fun v73=>
 jT v67 (jI 24 v73 (.int .i64 1)) C_48 fun v74=>
 jT v67 (jL 3 v74) C_48 fun v75=>
 jT v67 (jI 90 v72 v75) C_48 fun v76=>
 jT v67 (a0g v24) C_48 fun v77=>
 jT v67 (jI 24 v77 (.int .i64 0)) C_48 fun v78=>
 jT v67 (jL 3 v78) C_48 fun v79=>
 jT v67 (a0g v24) C_48 fun v80=>
 jT v67 (a0g (l_35.getD 2 undef)) C_48 fun v81=>
 jT v67 (jB .sub 3 3 v81 (.int .i64 1)) C_48 fun v82=>
 jT v67 (jI 24 v80 v82) C_48 fun v83=>
 jT v67 (jL 3 v83) C_48 fun v84=>
 ∃ S_71:World → WK,∀ w,C_48 w → (
 gT v67 (oM prog (.call (Go.Call.mk (.value (.tmp 0)) #[(.tmp 1),(.tmp 2),(.tmp 3)] #[170,3,3])) 4 [v68,v76,v79,v84]) (fun v85=>
 kP v67 v85 (.bool false) fun v86=>
 K v86) w)))) w)))) w))) w
theorem d7e (h:f5h a0 a1 K w):a0a prog 117 #[a0,a1] K w:=
 cZ (mz [(6,.tree (.look 0 (.only 1 (.look 2 (.look 3 (.look 4 (.look 5 (.look 6 (.look 7 (.look 8 (.look 9 (.look 10 (.look 11 (.look 12 (.look 13 (.look 14 (.look 15 (.look 16 (.look 17 (.look 18 (.look 19 (.look 20 (.look 21 (.look 22 (.look 23 (.look 24 (.done))))))))))))))))))))))))))),(18,fz 22 0 3)]) func117 h
def f5i (a0:Value) (K:VK) (w:World):Prop:=
 oM prog (.box 40 (.tmp 0)) 0 [a0] (fun v1=>
 kL 40 v1 fun v3=>
 a0a prog 8 #[v3] fun v4=>
 kU v4 fun v5=>
 K v5) w
theorem d7f (h:f5i a0 K w):a0a prog 112 #[a0] K w:=
 cZ (fun _=>0) func112 h
def f5j (a0:Value) (K:VK) (w:World):Prop:=
 oM prog (.binOp .eql 27 (.tmp 0) (.const (.slice none 0 0)) 27) 4 [a0] (fun v4=>
 kO v4 (K (.slice none 0 0))
 (oM prog (.buildSlice 27 0 #[]) 27 [] fun v5=>
 oM prog (.call (Go.Call.mk (.builtin .append) #[(.tmp 0),(.tmp 1)] #[27,27])) 27 [v5,a0] fun v7=>
 K v7)) w
theorem d7g (h:f5j a0 K w):a0a prog 115 #[a0] K w:=
 cZ (fun _=>0) func115 h
def g3i (a0 a1 a2:Value) (K:VK) (w:World):Prop:=
 oM prog (.box 26 (.tmp 0)) 0 [a1] (fun v4=>
 kL 26 v4 fun v14=>
 a0a prog 69 #[v14] fun v15=>
 kU v15 fun v16 w=>
 gF v16 (a0f a2) (fun v18 w=>
 gF v16 (kN 27 v18) (fun v19 w=>
 gF v16 (kC .eql 3 0 4 v19) (fun v20=>
 kP v16 (.bool true) v20 fun v21 w=>
 gF v21 (a0f a2) (fun v23 w=>
 gF v21 (kN 27 v23) (fun v24 w=>
 gF v21 (kB .gtr 3 4 v24 (.int .i64 16)) (fun v25=>
 kP v21 (.bool true) v25 fun v26 w=>
 gF v26 (a0f a2) (fun v28 w=>
 gF v26 (a0a prog 111 #[v28,(.func (.func 112) #[] #[])]) (fun v29=>
 kP v26 (.bool true) v29 fun v30=>
 kO v30 (K (.tuple #[(.pointer none),(.int .i64 1)]))
 (a0a prog 113 #[a0,(.int .i64 0)] fun v33=>
 kE 0 128 v33 fun v34=>
 kE 1 62 v33 fun v35=>
 kC .neq 62 0 4 v35 fun v37=>
 kO v37 (K (.tuple #[(.pointer none),v35]))
 (kF 26 1 v4 fun v39=>
 kL 24 v39 fun v40=>
 a0a prog 114 #[v40] fun v41=>
 kF 26 1 v4 fun v42=>
 kS 24 v42 v41 fun _=>
 kH fun C_24 w=>(((true:Bool) = true) ∧ (jL 26 v4 C_24 fun v43=>
 a0g a2 C_24 fun v44=>
 a0g v34 C_24 fun v47=>
 ∃ S_28:World → WK,xR S_28 fun R_29=>
 (∀ w,C_24 w → (a0a prog 115 #[v44] (xK C_24 S_28 R_29 w) w)) ∧
 (xR S_28 fun R_30=>
 (∀ w,C_24 w → ∀ v45,R_29 v45 w → (oM prog (.build 127 #[(0,(.tmp 0)),(1,(.tmp 1))]) 127 [v43,v45] (xK C_24 S_28 R_30 w) w)) ∧
 (∀ w,C_24 w → ∀ v45,R_29 v45 w → ∀ v46,R_30 v46 w → (
 oM prog (.build 130 #[(0,(.tmp 0)),(1,(.tmp 1))]) 130 [v46,v47] (fun v48=>
 oM prog (.box 130 (.tmp 0)) 56 [v48] fun v49=>
 a0a prog 116 #[v34] fun v51=>
 kN 60 v51 fun v52=>
 kQ [undef,(.pointer none),(.int .i64 0),(.int .i64 0)] fun J_38 m_39 l_40 u_l_40 w0_l_40=>(fun w=>(
 kB .lss 3 0 (l_40.getD 3 undef) v52 (fun v54=>
 kO v54 (kI 60 v51 (l_40.getD 3 undef) fun v55=>
 kL 9 v55 fun v56=>
 oM prog (.nilCheck (.tmp 0)) 0 [v49] fun v58=>
 kF 130 0 v58 fun v59=>
 a0a prog 117 #[v59,v56] fun v61=>
 kU v61 fun v62=>
 kO v62 (K (.tuple #[(.pointer none),(.int .i64 2)]))
 (kB .add 3 3 (l_40.getD 3 undef) (.int .i64 1) fun v63=>
 kJ J_38 m_39 l_40 w0_l_40 [v56,(l_40.getD 1 undef),(l_40.getD 2 undef),v63]))
 (oM prog (.nilCheck (.tmp 0)) 0 [v49] fun v65=>
 kF 130 0 v65 fun v66=>
 kF 127 2 v66 fun v67=>
 kL 90 v67 fun v68=>
 kN 90 v68 fun v69=>
 kQ [undef,(.int .i64 0)] fun J_54 m_55 l_56 u_l_56 w0_l_56=>(fun w=>(
 kB .lss 3 0 (l_56.getD 1 undef) v69 (fun v71 w=>
 a2c v71
 (a5u (fun M_58=>(oM prog (.nilCheck (.tmp 0)) 0 [v49] (fun v74=>
 kF 130 0 v74 fun v75=>
 kF 127 2 v75 fun v76=>
 kL 90 v76 fun v77=>
 kI 90 v77 (l_56.getD 1 undef) fun v79=>
 kF 93 1 v79 fun v80=>
 kL 3 v80 fun v81=>
 kC .eql 3 1 4 v81 fun v82=>
 kO v82 (oM prog (.nilCheck (.tmp 0)) 0 [v49] fun v84=>
 kF 130 0 v84 fun v85=>
 kF 127 2 v85 fun v86=>
 kL 90 v86 fun v87=>
 kI 90 v87 (l_56.getD 1 undef) fun v89=>
 kF 93 1 v89 fun v90=>
 kS 3 v90 (.int .i64 3) fun _=>
 M_58 [(l_56.getD 1 undef)])
 (M_58 [(l_56.getD 1 undef)])) w))
 fun l_59 u_l_59 w=>(kB .add 3 3 (l_56.getD 1 undef) (.int .i64 1) (fun v91=>
 kJ J_54 m_55 l_56 w0_l_56 [(l_59.getD 0 undef),v91]) w))
 (K (.tuple #[v49,(.int .i64 0)]) w)) w)) w0_l_56)) w)) w0_l_40) w)))))))) w) w) w) w) w) w) w) w) w
theorem e7c (h:g3i a0 a1 a2 K w):a0a prog 38 #[a0,a1,a2] K w:=
 cZ (fun _=>.free [0,1,4] [2,3] [5,6,7]) func38 h
def g3j (a0 a1:Value) (K:VK) (w:World):Prop:=
 oM prog (.box 34 (.tmp 0)) 0 [a1] (fun v3=>
 kH fun C_2 w=>(((true:Bool) = true) ∧ (a0g a0 C_2 fun v7=>
 oH prog (.nilCheck (.tmp 0)) 0 [v7] C_2 fun v8=>
 jF 130 0 v8 C_2 fun v9=>
 jF 127 0 v9 C_2 fun v10=>
 jL 26 v10 C_2 fun v11=>
 a0g a0 C_2 fun v12=>
 oH prog (.nilCheck (.tmp 0)) 0 [v12] C_2 fun v13=>
 jF 130 0 v13 C_2 fun v14=>
 jF 127 1 v14 C_2 fun v15=>
 jL 27 v15 C_2 fun v16=>
 jL 34 v3 C_2 fun v17=>
 ∃ S_14:World → WK,∀ w,C_2 w → (
 a0a prog 21 #[v11,v16,v17] (fun v18=>
 kU v18 fun v19=>
 kO v19 (K (.int .i64 1))
 (kH fun C_17 w=>(((true:Bool) = true) ∧ (a0g a0 C_17 fun v21=>
 oH prog (.nilCheck (.tmp 0)) 0 [v21] C_17 fun v22=>
 jF 130 0 v22 C_17 fun v23=>
 jF 34 4 v3 C_17 fun v24=>
 jL 31 v24 C_17 fun v25=>
 ∃ S_23:World → WK,∀ w,C_17 w → (
 a0a prog 118 #[v23,v25] (fun v26=>
 kO v26 (K (.int .i64 5))
 (oM prog (.nilCheck (.tmp 0)) 0 [a0] fun v29=>
 kF 130 0 v29 fun v30=>
 kF 127 2 v30 fun v31=>
 kL 90 v31 fun v32=>
 kN 90 v32 fun v33=>
 kB .geq 3 4 v33 (.int .i64 400) fun v34=>
 kO v34 (K (.int .i64 6))
 (kH fun C_31 w=>(((true:Bool) = true) ∧ (a0g a0 C_31 fun v35=>
 oH prog (.nilCheck (.tmp 0)) 0 [v35] C_31 fun v36=>
 jF 130 1 v36 C_31 fun v37=>
 jL 128 v37 C_31 fun v38=>
 jL 34 v3 C_31 fun v40=>
 ∃ S_37:World → WK,xR S_37 fun R_38=>
 (∀ w,C_31 w → (a0a prog 65 #[(.int .i64 0)] (xK C_31 S_37 R_38 w) w)) ∧
 (xR S_37 fun R_39=>
 (∀ w,C_31 w → (a0a prog 23 #[v40] (xK C_31 S_37 R_39 w) w)) ∧
 (xR S_37 fun R_40=>
 (∀ w,C_31 w → ∀ v39,R_38 v39 w → ∀ v41,R_39 v41 w → (kB .add 9 9 v39 v41 (xK C_31 S_37 R_40 w) w)) ∧
 (∀ w,C_31 w → ∀ v39,R_38 v39 w → ∀ v41,R_39 v41 w → ∀ v42,R_40 v42 w → (
 a0a prog 119 #[v38,v42] (fun v43=>
 kC .neq 62 0 4 v43 fun v45 w=>
 a2c v45
 (K v43 w)
 (a4t w fun C_48 w=>(a0g a0 (a0p C_48 4) fun v47=>
 a0g a0 (a0p C_48 3) fun v48=>
 oH prog (.nilCheck (.tmp 0)) 0 [v48] (a0p C_48 3) fun v49=>
 jF 130 0 v49 (a0p C_48 3) fun v50=>
 jF 127 2 v50 (a0p C_48 3) fun v51=>
 jL 90 v51 (a0p C_48 3) fun v52=>
 jL 34 v3 (a0p C_48 0) fun v53=>
 a0a prog 120 #[v53] (fun v54 w=>C_48 1 w ∧ (
 oM prog (.build 93 #[(0,(.tmp 0))]) 93 [v54] (fun v55 w=>C_48 2 w ∧ (
 oM prog (.buildSlice 90 1 #[(0,(.tmp 0))]) 90 [v55] (fun v56 w=>C_48 3 w ∧ (
 oM prog (.call (Go.Call.mk (.builtin .append) #[(.tmp 0),(.tmp 1)] #[90,90])) 90 [v52,v56] (fun v57 w=>C_48 4 w ∧ (
 oM prog (.nilCheck (.tmp 0)) 0 [v47] (fun v58 w=>C_48 5 w ∧ (
 kF 130 0 v58 (fun v59 w=>C_48 6 w ∧ (
 kF 127 2 v59 (fun v60 w=>C_48 7 w ∧ (
 kS 90 v60 v57 (fun _ w=>C_48 8 w ∧ (
 K (.int .i64 0) w)) w)) w)) w)) w)) w)) w)) w)) w))) w))))))))) w))))) w)))) w
theorem e7d (h:g3j a0 a1 K w):a0a prog 40 #[a0,a1] K w:=
 cZ (mz [(1,fz 11 0 3),(3,fz 5 0 2),(7,.free [0,1,2,3,5] [4,6,7] [8,9]),(10,3)]) func40 h
def f5k (a0 a1 a2 a3:Value) (K:VK) (w:World):Prop:=
 oM prog (.box 93 (.tmp 0)) 0 [a1] (fun v5=>
 kH fun C_2 w=>(((true:Bool) = true) ∧ (jF 93 1 v5 C_2 fun v9=>
 jL 3 v9 C_2 fun v10=>
 jC .eql 3 0 4 v10 C_2 fun v11=>
 a0g v11 C_2 fun v12=>
 jT v12 (jF 93 0 v5) C_2 fun v13=>
 jT v12 (jF 34 0 v13) C_2 fun v14=>
 jT v12 (jL 3 v14) C_2 fun v15=>
 jT v12 (a0g a2) C_2 fun v16=>
 jT v12 (jB .eql 3 4 v15 v16) C_2 fun v17=>
 jP v12 v17 (.bool false) C_2 fun v18=>
 a0g v18 C_2 fun v19=>
 jT v19 (jF 93 0 v5) C_2 fun v20=>
 jT v19 (jF 34 1 v20) C_2 fun v21=>
 jT v19 (jL 3 v21) C_2 fun v22=>
 jT v19 (a0g a0) C_2 fun v23=>
 jT v19 (oH prog (.nilCheck (.tmp 0)) 0 [v23]) C_2 fun v24=>
 jT v19 (jF 130 0 v24) C_2 fun v25=>
 jT v19 (jF 127 1 v25) C_2 fun v26=>
 jT v19 (jL 27 v26) C_2 fun v27=>
 jT v19 (a0g a2) C_2 fun v28=>
 jT v19 (jI 27 v27 v28) C_2 fun v29=>
 jT v19 (jL 40 v29) C_2 fun v30=>
 jT v19 (a0g a3) C_2 fun v31=>
 ∃ S_26:World → WK,xR S_26 fun R_27=>
 (∀ w,C_2 w → (gT v19 (a0a prog 10 #[v30,v31]) (xK C_2 S_26 R_27 w) w)) ∧
 (∀ w,C_2 w → ∀ v32,R_27 v32 w → (
 gT v19 (kB .eql 3 4 v22 v32) (fun v33=>
 kP v19 v33 (.bool false) fun v34=>
 K v34) w))))) w
theorem d7h (h:f5k a0 a1 a2 a3 K w):a0a prog 125 #[a0,a1,a2,a3] K w:=
 cZ (fun _=>(fz 23 1 3)) func125 h
def f5l (a0 a1 a2 a3:Value) (K:VK) (w:World):Prop:=
 oM prog (.box 93 (.tmp 0)) 0 [a0] (fun v4=>
 kL 56 a1 fun v6=>
 kL 93 v4 fun v7=>
 kL 3 a2 fun v8=>
 kL 3 a3 fun v9=>
 a0a prog 125 #[v6,v7,v8,v9] fun v10=>
 K v10) w
theorem d7i (h:f5l a0 a1 a2 a3 K w):a0a prog 196 #[a0,a1,a2,a3] K w:=
 cZ (fun _=>0) func196 h
def f5m (a0 a1 a2:Value) (K:VK) (w:World):Prop:=
 oM prog (.box 56 (.tmp 0)) 0 [a0] (fun v3=>
 oM prog (.box 3 (.tmp 0)) 0 [a1] fun v4=>
 oM prog (.box 3 (.tmp 0)) 0 [a2] fun v5=>
 kH fun C_4 w=>(((true:Bool) = true) ∧ (jL 3 v4 C_4 fun v9=>
 jB .lss 3 4 v9 (.int .i64 0) C_4 fun v10=>
 a0g v10 C_4 fun v11=>
 jG v11 (jL 3 v4) C_4 fun v12=>
 jG v11 (jL 56 v3) C_4 fun v13=>
 jG v11 (oH prog (.nilCheck (.tmp 0)) 0 [v13]) C_4 fun v14=>
 jG v11 (jF 130 0 v14) C_4 fun v15=>
 jG v11 (jF 127 1 v15) C_4 fun v16=>
 jG v11 (jL 27 v16) C_4 fun v17=>
 jG v11 (jN 27 v17) C_4 fun v18=>
 jG v11 (jB .geq 3 4 v12 v18) C_4 fun v19=>
 jP v11 (.bool true) v19 C_4 fun v20=>
 a0g v20 C_4 fun v21=>
 jG v21 (jL 3 v5) C_4 fun v22=>
 ∃ S_19:World → WK,∀ w,C_4 w → (
 gF v21 (a0a prog 50 #[v22]) (fun v23 w=>
 gF v21 (kU v23) (fun v24=>
 kP v21 (.bool true) v24 fun v25=>
 kO v25 (K (.tuple #[(.int .i64 0),(.int .i64 1)]))
 (kL 56 v3 fun v26=>
 oM prog (.nilCheck (.tmp 0)) 0 [v26] fun v27=>
 kF 130 0 v27 fun v28=>
 kF 127 2 v28 fun v29=>
 kL 90 v29 fun v30=>
 oM prog (.makeFunc (Go.Fn.func 196) #[] #[(.tmp 0),(.tmp 1),(.tmp 2)]) 236 [v3,v4,v5] fun v31=>
 a0a prog 195 #[v30,v31] fun v32=>
 kB .lss 3 4 v32 (.int .i64 0) fun v34=>
 kO v34 (K (.tuple #[(.int .i64 0),(.int .i64 15)]))
 (K (.tuple #[v32,(.int .i64 0)])))) w) w)))) w
theorem d7j (h:f5m a0 a1 a2 K w):a0a prog 121 #[a0,a1,a2] K w:=
 cZ (fun _=>(fz 14 0 3)) func121 h
def f5n (a0 a1 a2 a3:Value) (K:VK) (w:World):Prop:=
 kH (fun C_1 w=>(((true:Bool) = true) ∧ (a0g a0 C_1 fun v12=>
 oH prog (.nilCheck (.tmp 0)) 0 [v12] C_1 fun v13=>
 jF 130 1 v13 C_1 fun v14=>
 jL 128 v14 C_1 fun v15=>
 a0g a2 C_1 fun v16=>
 a0g a1 C_1 fun v17=>
 a0g a3 C_1 fun v18=>
 ∃ S_9:World → WK,xR S_9 fun R_10=>
 (∀ w,C_1 w → (oM prog (.buildSlice 24 3 #[(0,(.tmp 0)),(1,(.tmp 1)),(2,(.tmp 2))]) 24 [v16,v17,v18] (xK C_1 S_9 R_10 w) w)) ∧
 (xR S_9 fun R_11=>
 (∀ w,C_1 w → ∀ v19,R_10 v19 w → (a0a prog 84 #[v19] (xK C_1 S_9 R_11 w) w)) ∧
 (∀ w,C_1 w → ∀ v19,R_10 v19 w → ∀ v20,R_11 v20 w → (
 a0a prog 119 #[v15,v20] (fun v21=>
 kC .neq 62 0 4 v21 fun v23=>
 kO v23 (K v21)
 (oM prog (.nilCheck (.tmp 0)) 0 [a0] fun v26=>
 kF 130 0 v26 fun v27=>
 kF 127 2 v27 fun v28=>
 kL 90 v28 fun v29=>
 kI 90 v29 a1 fun v31=>
 oM prog (.nilCheck (.tmp 0)) 0 [v31] fun v34=>
 kF 93 2 v34 fun v35=>
 kS 3 v35 a3 fun _=>
 oM prog (.nilCheck (.tmp 0)) 0 [a0] fun v37=>
 kF 130 1 v37 fun v38=>
 kL 128 v38 fun v39=>
 a0a prog 93 #[v39] fun v40=>
 kC .neq 62 0 4 v40 fun v42=>
 kO v42 (oM prog (.nilCheck (.tmp 0)) 0 [v31] fun v44=>
 kF 93 1 v44 fun v45=>
 kS 3 v45 (.int .i64 3) fun _=>
 K v40)
 (kC .eql 3 3 4 a2 fun v50=>
 oM prog (.nilCheck (.tmp 0)) 0 [v31] fun v51=>
 kF 93 1 v51 fun v52=>
 kS 3 v52 (.int .i64 1) fun _=>
 oM prog (.nilCheck (.tmp 0)) 0 [v31] fun v53=>
 kF 93 3 v53 fun v54=>
 kS 4 v54 v50 fun _=>
 K (.int .i64 0)))) w)))))) w
theorem d7k (h:f5n a0 a1 a2 a3 K w):a0a prog 122 #[a0,a1,a2,a3] K w:=
 cZ (fun _=>(fz 7 2 2)) func122 h
def g3k (a0 a1 a2 a3:Value) (K:VK) (w:World):Prop:=
 a0a prog 121 #[a0,a1,a2] (fun v16=>
 kE 0 3 v16 fun v17=>
 kE 1 62 v16 fun v18=>
 kC .eql 62 1 4 v18 fun v20 w=>
 gF v20 (a0f a3) (fun v22 w=>
 gF v20 (kB .lss 3 4 v22 (.int .i64 1)) (fun v23=>
 kP v20 (.bool true) v23 fun v24 w=>
 gF v24 (a0f a3) (fun v26 w=>
 gF v24 (a0f a0) (fun v27 w=>
 gF v24 (oM prog (.nilCheck (.tmp 0)) 0 [v27]) (fun v28 w=>
 gF v24 (kF 130 0 v28) (fun v29 w=>
 gF v24 (kF 127 0 v29) (fun v30 w=>
 gF v24 (kF 26 0 v30) (fun v31 w=>
 gF v24 (kF 23 1 v31) (fun v32 w=>
 gF v24 (kL 3 v32) (fun v33 w=>
 gF v24 (kB .geq 3 4 v26 v33) (fun v34=>
 kP v24 (.bool true) v34 fun v35 w=>
 a2c v35
 (K (.tuple #[(.int .i64 0),(.int .i64 1)]) w)
 (a5u (fun M_18=>(kC .eql 62 0 4 v18 (fun v37=>
 kO v37 (a0a prog 122 #[a0,v17,(.int .i64 1),a3] fun v41=>
 M_18 [v41])
 (M_18 [v18])) w))
 fun l_19 u_l_19 w=>(kC .neq 62 0 4 (l_19.getD 0 undef) (fun v43=>
 kO v43 (K (.tuple #[(.int .i64 0),(l_19.getD 0 undef)]))
 (K (.tuple #[v17,(.int .i64 0)]))) w))) w) w) w) w) w) w) w) w) w) w) w) w
theorem e7e (h:g3k a0 a1 a2 a3 K w):a0a prog 42 #[a0,a1,a2,a3] K w:=
 cZ (fun _=>0) func42 h
def f5o (a0 a1:Value) (K:VK) (w:World):Prop:=
 kA 84 (fun v4=>
 oM prog (.nilCheck (.tmp 0)) 0 [a0] fun v9=>
 kF 130 0 v9 fun v10=>
 kF 127 2 v10 fun v11=>
 kL 90 v11 fun v12=>
 kI 90 v12 a1 fun v14=>
 kL 93 v14 fun v15=>
 kA 93 fun v5=>
 kS 93 v5 v15 fun _=>
 kH fun C_9 w=>(a0g a0 C_9 fun v17=>
 oH prog (.nilCheck (.tmp 0)) 0 [v17] C_9 fun v18=>
 jF 130 0 v18 C_9 fun v19=>
 jF 127 0 v19 C_9 fun v20=>
 jL 26 v20 C_9 fun v21=>
 jF 93 0 v5 C_9 fun v22=>
 jF 34 2 v22 C_9 fun v23=>
 jL 24 v23 C_9 fun v24=>
 jF 93 0 v5 C_9 fun v25=>
 jF 34 3 v25 C_9 fun v26=>
 jL 29 v26 C_9 fun v27=>
 jF 93 2 v5 C_9 fun v28=>
 jL 3 v28 C_9 fun v29=>
 (a0a prog 197 #[v21,v24,v27,v29] (fun v30 w=>C_9 w ∧ (
 a0g v30 C_9 fun v16=>
 jE 0 84 v16 C_9 fun v31=>
 jE 1 4 v16 C_9 fun v32=>
 kA 84 (fun v6 w=>C_9 w ∧ (
 kS 84 v6 v31 (fun _ w=>C_9 w ∧ (
 C_9 w ∧ (kL 84 v6 (fun v33=>
 kS 84 v4 v33 fun _=>
 kR 84 v4 K) w))) w)) w)) w) ∧
 (kA 84 (fun v6 w=>C_9 w ∧ (
 a0a prog 197 #[v21,v24,v27,v29] (fun v30 w=>C_9 w ∧ (
 a0g v30 C_9 fun v16=>
 jE 0 84 v16 C_9 fun v31=>
 jE 1 4 v16 C_9 fun v32=>
 kS 84 v6 v31 (fun _ w=>C_9 w ∧ (
 C_9 w ∧ (kL 84 v6 (fun v33=>
 kS 84 v4 v33 fun _=>
 kR 84 v4 K) w))) w)) w)) w))) w
theorem d7l (h:f5o a0 a1 K w):a0a prog 124 #[a0,a1] K w:=
 cZ (fun _=>.tree (.look 0 (.look 1 (.look 2 (.look 3 (.look 4 (.look 5 (.look 6 (.look 7 (.look 8 (.look 9 (.look 10 (.look 11 (.look 12 (.alt 13 (.look 14 (.look 15 (.look 16 (.only 17 (.only 18 (.only 19 (.done))))))) (.only 17 (.only 13 (.look 14 (.look 15 (.look 16 (.only 18 (.only 19 (.done))))))))))))))))))))))) func124 h
def f5p (a0 a1:Value) (K:VK) (w:World):Prop:=
 kB .lss 3 4 a1 (.int .i64 0) (fun v7 w=>
 gF v7 (a0f a1) (fun v9 w=>
 gF v7 (a0f a0) (fun v10 w=>
 gF v7 (oM prog (.nilCheck (.tmp 0)) 0 [v10]) (fun v11 w=>
 gF v7 (kF 130 0 v11) (fun v12 w=>
 gF v7 (kF 127 2 v12) (fun v13 w=>
 gF v7 (kL 90 v13) (fun v14 w=>
 gF v7 (kN 90 v14) (fun v15 w=>
 gF v7 (kB .geq 3 4 v9 v15) (fun v16=>
 kP v7 (.bool true) v16 fun v17=>
 kO v17 (K (.tuple #[(.pointer none),(.bool false)]))
 (oM prog (.nilCheck (.tmp 0)) 0 [a0] fun v19=>
 kF 130 0 v19 fun v20=>
 kF 127 2 v20 fun v21=>
 kL 90 v21 fun v22=>
 kI 90 v22 a1 fun v24=>
 K (.tuple #[v24,(.bool true)]))) w) w) w) w) w) w) w) w) w
theorem d7m (h:f5p a0 a1 K w):a0a prog 123 #[a0,a1] K w:=
 cZ (fun _=>0) func123 h
def g3l (a0 a1:Value) (K:VK) (w:World):Prop:=
 kA 84 (fun v4=>
 a0a prog 123 #[a0,a1] fun v11=>
 kE 0 170 v11 fun v12=>
 kE 1 4 v11 fun v13=>
 kU v13 fun v16=>
 kO v16 (oM prog (.build 84 #[]) 84 [] fun v17=>
 kS 84 v4 v17 fun _ w=>
 ∃ r_7,(do loadVar 84 (← asAddr v4):Sem Value).run prog w = .ok r_7 w ∧ K (.tuple #[r_7,(.int .i64 4)]) w)
 (oM prog (.nilCheck (.tmp 0)) 0 [v12] fun v20=>
 kF 93 1 v20 fun v21=>
 kL 3 v21 fun v22=>
 kC .neq 3 1 4 v22 fun v23 w=>
 gT v23 (a0f v12) (fun v25 w=>
 gT v23 (oM prog (.nilCheck (.tmp 0)) 0 [v25]) (fun v26 w=>
 gT v23 (kF 93 1 v26) (fun v27 w=>
 gT v23 (kL 3 v27) (fun v28 w=>
 gT v23 (kC .neq 3 2 4 v28) (fun v29=>
 kP v23 v29 (.bool false) fun v30=>
 kO v30 (oM prog (.build 84 #[]) 84 [] fun v31=>
 kS 84 v4 v31 fun _ w=>
 ∃ r_19,(do loadVar 84 (← asAddr v4):Sem Value).run prog w = .ok r_19 w ∧ K (.tuple #[r_19,(.int .i64 7)]) w)
 (a0a prog 124 #[a0,a1] fun v34=>
 kS 84 v4 v34 fun _ w=>
 ∃ r_21,(do loadVar 84 (← asAddr v4):Sem Value).run prog w = .ok r_21 w ∧ K (.tuple #[r_21,(.int .i64 0)]) w)) w) w) w) w) w)) w
theorem e7f (h:g3l a0 a1 K w):a0a prog 43 #[a0,a1] K w:=
 cZ (fun _=>0) func43 h
def f5q (a0:Value) (K:VK) (w:World):Prop:=
 oM prog (.binOp .eql 90 (.tmp 0) (.const (.slice none 0 0)) 90) 4 [a0] (fun v4=>
 kO v4 (K (.slice none 0 0))
 (oM prog (.buildSlice 90 0 #[]) 90 [] fun v5=>
 oM prog (.call (Go.Call.mk (.builtin .append) #[(.tmp 0),(.tmp 1)] #[90,90])) 90 [v5,a0] fun v7=>
 K v7)) w
theorem d7n (h:f5q a0 K w):a0a prog 127 #[a0] K w:=
 cZ (fun _=>0) func127 h
def g3m (a0:Value) (K:VK) (w:World):Prop:=
 oM prog (.nilCheck (.tmp 0)) 0 [a0] (fun v7=>
 kF 130 0 v7 fun v8=>
 kF 127 2 v8 fun v9=>
 kL 90 v9 fun v10=>
 a0a prog 127 #[v10] fun v11=>
 kN 90 v11 fun v13=>
 kQ [undef,(.int .i64 0)] fun J_7 m_8 l_9 u_l_9 w0_l_9=>(fun w=>(
 kB .lss 3 0 (l_9.getD 1 undef) v13 (fun v15=>
 kO v15 (kI 90 v11 (l_9.getD 1 undef) fun v17=>
 kL 93 v17 fun v18=>
 kA 93 fun v5=>
 kS 93 v5 v18 fun _=>
 kF 93 0 v5 fun v21=>
 kL 34 v21 fun v22=>
 a0a prog 120 #[v22] fun v23=>
 kI 90 v11 (l_9.getD 1 undef) fun v24=>
 kF 93 0 v24 fun v25=>
 kS 34 v25 v23 fun _=>
 kB .add 3 3 (l_9.getD 1 undef) (.int .i64 1) fun v26=>
 kJ J_7 m_8 l_9 w0_l_9 [(l_9.getD 1 undef),v26])
 (K v11)) w)) w0_l_9) w
theorem e7g (h:g3m a0 K w):a0a prog 48 #[a0] K w:=
 cZ (fun _=>0) func48 h
def g3n (a0 a1 a2:Value) (K:VK) (w:World):Prop:=
 kB .lss 3 4 a1 (.int .i64 0) (fun v11 w=>
 gF v11 (a0f a1) (fun v13 w=>
 gF v11 (a0f a0) (fun v14 w=>
 gF v11 (oM prog (.nilCheck (.tmp 0)) 0 [v14]) (fun v15 w=>
 gF v11 (kF 130 0 v15) (fun v16 w=>
 gF v11 (kF 127 1 v16) (fun v17 w=>
 gF v11 (kL 27 v17) (fun v18 w=>
 gF v11 (kN 27 v18) (fun v19 w=>
 gF v11 (kB .geq 3 4 v13 v19) (fun v20=>
 kP v11 (.bool true) v20 fun v21 w=>
 gF v21 (a0f a2) (fun v23 w=>
 gF v21 (a0a prog 50 #[v23]) (fun v24 w=>
 gF v21 (kU v24) (fun v25=>
 kP v21 (.bool true) v25 fun v26=>
 kO v26 (K (.int .i64 0))
 (oM prog (.nilCheck (.tmp 0)) 0 [a0] fun v28=>
 kF 130 0 v28 fun v29=>
 kF 127 2 v29 fun v30=>
 kL 90 v30 fun v31=>
 kN 90 v31 fun v32=>
 kQ [(.int .i64 0),(.int .i64 0)] fun J_20 m_21 l_22 u_l_22 w0_l_22=>(fun w=>(
 kB .lss 3 0 (l_22.getD 1 undef) v32 (fun v34 w=>
 a2c v34
 (a5u (fun M_24=>(kI 90 v31 (l_22.getD 1 undef) (fun v35=>
 kL 93 v35 fun v36=>
 kA 93 fun v9=>
 kS 93 v9 v36 fun _=>
 kL 93 v9 fun v38=>
 a0a prog 125 #[a0,v38,a1,a2] fun v41=>
 kO v41 (kB .add 3 3 (l_22.getD 0 undef) (.int .i64 1) fun v43=>
 M_24 [v43])
 (M_24 [(l_22.getD 0 undef)])) w))
 fun l_25 u_l_25 w=>(kB .add 3 3 (l_22.getD 1 undef) (.int .i64 1) (fun v44=>
 kJ J_20 m_21 l_22 w0_l_22 [(l_25.getD 0 undef),v44]) w))
 (K (l_22.getD 0 undef) w)) w)) w0_l_22)) w) w) w) w) w) w) w) w) w) w) w) w
theorem e7h (h:g3n a0 a1 a2 K w):a0a prog 44 #[a0,a1,a2] K w:=
 cZ (fun _=>0) func44 h
variable {a0 a1 a2 a3:Value} {K:VK} {w:World}
def g2o (K:VK) (w:World):Prop:=
 oM prog (.makeMap 131 none) 131 [] (fun v1=>
 oM prog (.makeMap 132 none) 132 [] fun v2=>
 oM prog (.build 135 #[(0,(.tmp 0)),(2,(.tmp 1))]) 135 [v1,v2] fun v3=>
 oM prog (.box 135 (.tmp 0)) 55 [v3] fun v4=>
 K v4) w
theorem e6i (h:g2o K w):a0a prog 30 #[] K w:=
 cZ (fun _=>0) func30 h
def g2p (a0 a1:Value) (K:VK) (w:World):Prop:=
 oM prog (.nilCheck (.tmp 0)) 0 [a0] (fun v11=>
 kF 135 4 v11 fun v12=>
 kL 4 v12 fun v13=>
 kO v13 (K (.tuple #[]))
 (oM prog (.nilCheck (.tmp 0)) 0 [a0] fun v16=>
 kF 135 4 v16 fun v17=>
 kS 4 v17 (.bool true) fun _=>
 oM prog (.nilCheck (.tmp 0)) 0 [a0] fun v18=>
 kF 135 5 v18 fun v19=>
 kS 3 v19 (.int .i64 0) fun _=>
 oM prog (.nilCheck (.tmp 0)) 0 [a0] fun v21=>
 kF 135 1 v21 fun v22=>
 kL 133 v22 fun v23=>
 kN 133 v23 fun v24=>
 kQ [undef,undef,(.int .i64 0)] fun J_12 m_13 l_14 u_l_14 w0_l_14=>(fun w=>(
 kB .lss 3 0 (l_14.getD 2 undef) v24 (fun v26 w=>
 a2c v26
 (a5u (fun M_16=>(kI 133 v23 (l_14.getD 2 undef) (fun v28=>
 kL 176 v28 fun v29=>
 kA 176 fun v5=>
 kS 176 v5 v29 fun _ w=>
 a4t w fun C_21 w=>(a0g a0 (a0p C_21 1) fun v30=>
 oH prog (.nilCheck (.tmp 0)) 0 [v30] (a0p C_21 1) fun v31=>
 jF 135 0 v31 (a0p C_21 1) fun v32=>
 jL 131 v32 (a0p C_21 1) fun v33=>
 jF 176 0 v5 (a0p C_21 1) fun v34=>
 jL 3 v34 (a0p C_21 1) fun v35=>
 oH prog (.lookup 131 (.tmp 0) (.tmp 1) false) 178 [v33,v35] (a0p C_21 1) fun v36=>
 jF 176 1 v5 (a0p C_21 2) fun v37=>
 jL 3 v37 (a0p C_21 2) fun v38=>
 jB .mul 3 3 v38 (.int .i64 64) (a0p C_21 2) fun v39=>
 kA 178 (fun v6 w=>C_21 1 w ∧ (
 kS 178 v6 v36 (fun _ w=>C_21 2 w ∧ (
 C_21 3 w ∧ (kN 24 a1 (fun v41=>
 kC .eql 3 0 4 v41 fun v42 w=>
 gF v42 (a0f a1) (fun v44 w=>
 gF v42 (a0f (l_14.getD 2 undef)) (fun v45 w=>
 gF v42 (a0f a1) (fun v46 w=>
 gF v42 (kN 24 v46) (fun v47 w=>
 gF v42 (kB .rem 3 3 v45 v47) (fun v48 w=>
 gF v42 (kI 24 v44 v48) (fun v49 w=>
 gF v42 (kL 3 v49) (fun v50 w=>
 gF v42 (kB .and 3 3 v50 (.int .i64 1)) (fun v51 w=>
 gF v42 (kC .eql 3 0 4 v51) (fun v52=>
 kP v42 (.bool true) v52 fun v53 w=>
 gF v53 (a0f v39) (fun v55 w=>
 gF v53 (kF 178 0 v6) (fun v56 w=>
 gF v53 (kL 9 v56) (fun v57 w=>
 gF v53 (kN 9 v57) (fun v58 w=>
 gF v53 (kB .geq 3 4 v55 v58) (fun v59=>
 kP v53 (.bool true) v59 fun v60 w=>
 a2c v60
 (M_16 [(l_14.getD 2 undef),v39] w)
 (a4t w fun C_52 w=>(jF 178 1 v6 (a0p C_52 0) fun v61=>
 jL 9 v61 (a0p C_52 0) fun v62=>
 a0g v39 (a0p C_52 0) fun v63=>
 jF 178 0 v6 (a0p C_52 0) fun v64=>
 jL 9 v64 (a0p C_52 0) fun v65=>
 a0g v39 (a0p C_52 0) fun v66=>
 a0g v39 (a0p C_52 0) fun v67=>
 jB .add 3 3 v67 (.int .i64 64) (a0p C_52 0) fun v68=>
 jF 178 0 v6 (a0p C_52 0) fun v69=>
 jL 9 v69 (a0p C_52 0) fun v70=>
 jN 9 v70 (a0p C_52 0) fun v71=>
 oH prog (.call (Go.Call.mk (.builtin .min) #[(.tmp 0),(.tmp 1)] #[3,3])) 3 [v68,v71] (a0p C_52 0) fun v72=>
 oH prog (.slice 9 (.tmp 0) (some (.tmp 1)) (some (.tmp 2)) none) 9 [v65,v66,v72] (a0p C_52 0) fun v73=>
 a0a prog 126 #[v62,v63,v73] (fun v74 w=>C_52 1 w ∧ (
 kF 178 1 v6 (fun v75 w=>C_52 2 w ∧ (
 kS 9 v75 v74 (fun _ w=>C_52 3 w ∧ (
 a4t w fun C_68 w=>(a0g a0 (a0p C_68 0) fun v76=>
 oH prog (.nilCheck (.tmp 0)) 0 [v76] (a0p C_68 0) fun v77=>
 jF 135 0 v77 (a0p C_68 0) fun v78=>
 jL 131 v78 (a0p C_68 0) fun v79=>
 jF 176 0 v5 (a0p C_68 0) fun v80=>
 jL 3 v80 (a0p C_68 0) fun v81=>
 jL 178 v6 (a0p C_68 0) fun v82=>
 oM prog (.mapUpdate 131 (.tmp 0) (.tmp 1) (.tmp 2)) 0 [v79,v81,v82] (fun _ w=>C_68 1 w ∧ (
 M_16 [(l_14.getD 2 undef),v39] w)) w))) w)) w)) w))) w) w) w) w) w) w) w) w) w) w) w) w) w) w) w))) w)) w)) w))
 fun l_17 u_l_17 w=>(kB .add 3 3 (l_14.getD 2 undef) (.int .i64 1) (fun v83=>
 kJ J_12 m_13 l_14 w0_l_14 [(l_17.getD 0 undef),(l_17.getD 1 undef),v83]) w))
 (oM prog (.nilCheck (.tmp 0)) 0 [a0] (fun v85=>
 kF 135 0 v85 fun v86=>
 kL 131 v86 fun v87=>
 oM prog (.range 131 (.tmp 0)) 0 [v87] fun v88=>
 kQ [undef] fun J_81 m_82 l_83 u_l_83 w0_l_83=>(fun w=>(
 oM prog (.next (.tmp 0) false) 0 [v88] (fun v89=>
 kE 0 4 v89 fun v90=>
 kO v90 (oM prog (.entry (.tmp 0)) 0 [v88] fun v91=>
 kE 0 3 v91 fun v92=>
 kE 1 178 v91 fun v93=>
 kA 178 fun v9=>
 kS 178 v9 v93 fun _ w=>
 a4t w fun C_90 w=>(a0g a0 (a0p C_90 1) fun v94=>
 oH prog (.nilCheck (.tmp 0)) 0 [v94] (a0p C_90 1) fun v95=>
 jF 135 0 v95 (a0p C_90 1) fun v96=>
 jL 131 v96 (a0p C_90 1) fun v97=>
 a0g v92 (a0p C_90 1) fun v98=>
 jF 178 1 v9 (a0p C_90 0) fun v99=>
 jL 9 v99 (a0p C_90 0) fun v100=>
 jF 178 1 v9 (a0p C_90 0) fun v101=>
 jL 9 v101 (a0p C_90 0) fun v102=>
 oM prog (.build 178 #[(0,(.tmp 0)),(1,(.tmp 1))]) 178 [v100,v102] (fun v103 w=>C_90 1 w ∧ (
 oM prog (.mapUpdate 131 (.tmp 0) (.tmp 1) (.tmp 2)) 0 [v97,v98,v103] (fun _ w=>C_90 2 w ∧ (
 kJ J_81 m_82 l_83 w0_l_83 [v92] w)) w)) w))
 (oM prog (.makeMap 132 none) 132 [] fun v106=>
 oM prog (.nilCheck (.tmp 0)) 0 [a0] fun v107=>
 kF 135 1 v107 fun v108=>
 kS 133 v108 (.slice none 0 0) fun _=>
 oM prog (.nilCheck (.tmp 0)) 0 [a0] fun v109=>
 kF 135 2 v109 fun v110=>
 kS 132 v110 v106 fun _=>
 K (.tuple #[]))) w)) w0_l_83) w)) w)) w0_l_14)) w
theorem e6j (h:g2p a0 a1 K w):a0a prog 46 #[a0,a1] K w:=
 cZ (fun _=>3) func46 h
def g2q (a0:Value) (K:VK) (w:World):Prop:=
 oM prog (.nilCheck (.tmp 0)) 0 [a0] (fun v3=>
 kF 135 4 v3 fun v4=>
 kS 4 v4 (.bool false) fun _=>
 K (.tuple #[])) w
theorem e6k (h:g2q a0 K w):a0a prog 47 #[a0] K w:=
 cZ (fun _=>0) func47 h
def g2r (a0 a1:Value) (K:VK) (w:World):Prop:=
 a5u (fun M_1=>(a0a prog 166 #[a0] (fun v7=>
 kO v7 (oM prog (.nilCheck (.tmp 0)) 0 [a0] fun v10=>
 kF 135 6 v10 fun v11=>
 kL 24 v11 fun v12=>
 a0a prog 46 #[a0,v12] fun v13=>
 M_1 [])
 (M_1 [])) w))
 fun l_2 u_l_2 w=>(a0a prog 167 #[a0,a1] (fun v16=>
 kC .neq 62 0 4 v16 fun v18=>
 kO v18 (K v16)
 (oM prog (.nilCheck (.tmp 0)) 0 [a0] fun v21=>
 kF 135 3 v21 fun v22=>
 kL 3 v22 fun v23=>
 kB .gtr 3 4 v23 (.int .i64 0) fun v24=>
 kO v24 (oM prog (.nilCheck (.tmp 0)) 0 [a0] fun v26=>
 kF 135 3 v26 fun v27=>
 kL 3 v27 fun v28=>
 kB .sub 3 3 v28 (.int .i64 1) fun v29=>
 oM prog (.nilCheck (.tmp 0)) 0 [a0] fun v30=>
 kF 135 3 v30 fun v31=>
 kS 3 v31 v29 fun _=>
 K (.int .i64 9))
 (oM prog (.nilCheck (.tmp 0)) 0 [a0] fun v35=>
 kF 135 0 v35 fun v36=>
 kL 131 v36 fun v37=>
 oM prog (.lookup 131 (.tmp 0) (.tmp 1) false) 178 [v37,a1] fun v39=>
 oM prog (.field 178 (.tmp 0) 0) 9 [v39] fun v40=>
 a0a prog 168 #[a0,a1,v40] fun v41=>
 K (.int .i64 0)))) w)
theorem e6l (h:g2r a0 a1 K w):a0a prog 89 #[a0,a1] K w:=
 cZ (fun _=>0) func89 h
def f3u (a0 a1 a2:Value) (K:VK) (w:World):Prop:=
 oM prog (.binOp .eql 9 (.tmp 0) (.const (.string ⟨#[]⟩)) 9) 4 [a2] (fun v9=>
 kO v9 (K a0)
 (kN 9 a0 fun v12=>
 kN 9 a2 fun v15=>
 kB .add 3 3 a1 v15 fun v16=>
 oM prog (.call (Go.Call.mk (.builtin .max) #[(.tmp 0),(.tmp 1)] #[3,3])) 3 [v12,v16] fun v17=>
 oM prog (.makeSlice 242 (.tmp 0) (.tmp 1)) 242 [v17,v17] fun v18=>
 oM prog (.call (Go.Call.mk (.builtin .copy) #[(.tmp 0),(.tmp 1)] #[242,9])) 3 [v18,a0] fun v21=>
 oM prog (.slice 242 (.tmp 0) (some (.tmp 1)) none none) 242 [v18,a1] fun v24=>
 oM prog (.call (Go.Call.mk (.builtin .copy) #[(.tmp 0),(.tmp 1)] #[242,9])) 3 [v24,a2] fun v26=>
 oM prog (.convert 242 9 (.tmp 0)) 9 [v18] fun v28=>
 K v28)) w
theorem d5r (h:f3u a0 a1 a2 K w):a0a prog 126 #[a0,a1,a2] K w:=
 cZ (fun _=>0) func126 h
def f3v (a0:Value) (K:VK) (w:World):Prop:=
 oM prog (.nilCheck (.tmp 0)) 0 [a0] (fun v4=>
 kF 135 4 v4 fun v5=>
 kL 4 v5 fun v6 w=>
 gF v6 (a0f a0) (fun v8 w=>
 gF v6 (oM prog (.nilCheck (.tmp 0)) 0 [v8]) (fun v9 w=>
 gF v6 (kF 135 5 v9) (fun v10 w=>
 gF v6 (kL 3 v10) (fun v11 w=>
 gF v6 (kC .eql 3 0 4 v11) (fun v12=>
 kP v6 (.bool true) v12 fun v13=>
 kO v13 (K (.bool false))
 (oM prog (.nilCheck (.tmp 0)) 0 [a0] fun v15=>
 kF 135 5 v15 fun v16=>
 kL 3 v16 fun v17=>
 kB .sub 3 3 v17 (.int .i64 1) fun v18=>
 oM prog (.nilCheck (.tmp 0)) 0 [a0] fun v19=>
 kF 135 5 v19 fun v20=>
 kS 3 v20 v18 fun _=>
 oM prog (.nilCheck (.tmp 0)) 0 [a0] fun v22=>
 kF 135 5 v22 fun v23=>
 kL 3 v23 fun v24=>
 kC .eql 3 0 4 v24 fun v25=>
 K v25)) w) w) w) w) w) w
theorem d5s (h:f3v a0 K w):a0a prog 166 #[a0] K w:=
 cZ (fun _=>0) func166 h
def f3w (a0 a1:Value) (K:VK) (w:World):Prop:=
 oM prog (.nilCheck (.tmp 0)) 0 [a0] (fun v7=>
 kF 135 4 v7 fun v8=>
 kL 4 v8 fun v9=>
 kO v9 (K (.int .i64 8))
 (kB .lss 3 4 a1 (.int .i64 0) fun v12 w=>
 gF v12 (a0f a1) (fun v14 w=>
 gF v12 (kB .geq 3 4 v14 (.int .i64 16)) (fun v15=>
 kP v12 (.bool true) v15 fun v16=>
 kO v16 (K (.int .i64 1))
 (K (.int .i64 0))) w) w)) w
theorem d5t (h:f3w a0 a1 K w):a0a prog 167 #[a0,a1] K w:=
 cZ (fun _=>0) func167 h
def f3x (a0 a1 a2:Value) (K:VK) (w:World):Prop:=
 oM prog (.box 3 (.tmp 0)) 0 [a1] (fun v4 w=>
 a4t w fun C_2 w=>(a0g a0 (a0p C_2 1) fun v6=>
 oH prog (.nilCheck (.tmp 0)) 0 [v6] (a0p C_2 1) fun v7=>
 jF 135 0 v7 (a0p C_2 1) fun v8=>
 jL 131 v8 (a0p C_2 1) fun v9=>
 jL 3 v4 (a0p C_2 1) fun v10=>
 a0g a2 (a0p C_2 0) fun v11=>
 a0g a2 (a0p C_2 0) fun v12=>
 oM prog (.build 178 #[(0,(.tmp 0)),(1,(.tmp 1))]) 178 [v11,v12] (fun v13 w=>C_2 1 w ∧ (
 oM prog (.mapUpdate 131 (.tmp 0) (.tmp 1) (.tmp 2)) 0 [v9,v10,v13] (fun _ w=>C_2 2 w ∧ (
 oM prog (.nilCheck (.tmp 0)) 0 [a0] (fun v16=>
 kF 135 1 v16 fun v17=>
 kL 133 v17 fun v18=>
 oM prog (.makeFunc (Go.Fn.func 219) #[] #[(.tmp 0)]) 260 [v4] fun v19=>
 a0a prog 218 #[v18,v19] fun v20=>
 oM prog (.nilCheck (.tmp 0)) 0 [a0] fun v21=>
 kF 135 1 v21 fun v22=>
 kS 133 v22 v20 fun _=>
 oM prog (.nilCheck (.tmp 0)) 0 [a0] fun v24=>
 kF 135 2 v24 fun v25=>
 kL 132 v25 fun v26=>
 oM prog (.makeFunc (Go.Fn.func 221) #[] #[(.tmp 0)]) 262 [v4] fun v27=>
 a0a prog 220 #[v26,v27] fun v28=>
 K (.tuple #[])) w)) w)) w)) w
theorem d5u (h:f3x a0 a1 a2 K w):a0a prog 168 #[a0,a1,a2] K w:=
 cZ (fun _=>3) func168 h
def f3y (a0 a1 a2 a3:Value) (K:VK) (w:World):Prop:=
 a0a prog 167 #[a0,a1] (fun v14=>
 kC .neq 62 0 4 v14 fun v16=>
 kO v16 (K (.tuple #[(.string ⟨#[]⟩),v14]))
 (kB .lss 3 4 a2 (.int .i64 0) fun v19 w=>
 gF v19 (a0f a3) (fun v21 w=>
 gF v19 (kB .lss 3 4 v21 (.int .i64 0)) (fun v22=>
 kP v19 (.bool true) v22 fun v23=>
 kO v23 (K (.tuple #[(.string ⟨#[]⟩),(.int .i64 1)]))
 (oM prog (.nilCheck (.tmp 0)) 0 [a0] fun v25=>
 kF 135 0 v25 fun v26=>
 kL 131 v26 fun v27=>
 oM prog (.lookup 131 (.tmp 0) (.tmp 1) false) 178 [v27,a1] fun v29=>
 oM prog (.field 178 (.tmp 0) 0) 9 [v29] fun v30=>
 kN 9 v30 fun v34=>
 oM prog (.call (Go.Call.mk (.builtin .min) #[(.tmp 0),(.tmp 1)] #[3,3])) 3 [a2,v34] fun v35=>
 oM prog (.slice 9 (.tmp 0) (some (.tmp 1)) none none) 9 [v30,v35] fun v36=>
 kN 9 v36 fun v40=>
 oM prog (.call (Go.Call.mk (.builtin .min) #[(.tmp 0),(.tmp 1)] #[3,3])) 3 [a3,v40] fun v41=>
 oM prog (.slice 9 (.tmp 0) none (some (.tmp 1)) none) 9 [v36,v41] fun v42=>
 K (.tuple #[v42,(.int .i64 0)]))) w) w)) w
theorem d5v (h:f3y a0 a1 a2 a3 K w):a0a prog 181 #[a0,a1,a2,a3] K w:=
 cZ (fun _=>0) func181 h
def f3z (a0 a1:Value) (K:VK) (w:World):Prop:=
 oM prog (.nilCheck (.tmp 0)) 0 [a0] (fun v6=>
 kF 135 0 v6 fun v7=>
 kL 131 v7 fun v8=>
 oM prog (.lookup 131 (.tmp 0) (.tmp 1) false) 178 [v8,a1] fun v10=>
 oM prog (.field 178 (.tmp 0) 0) 9 [v10] fun v11=>
 kN 9 v11 fun v12=>
 K v12) w
theorem d5w (h:f3z a0 a1 K w):a0a prog 182 #[a0,a1] K w:=
 cZ (fun _=>0) func182 h
def f4a (a0 a1 a2:Value) (K:VK) (w:World):Prop:=
 a5u (fun M_1=>(a0a prog 166 #[a0] (fun v9=>
 kO v9 (oM prog (.nilCheck (.tmp 0)) 0 [a0] fun v12=>
 kF 135 6 v12 fun v13=>
 kL 24 v13 fun v14=>
 a0a prog 46 #[a0,v14] fun v15=>
 M_1 [])
 (M_1 [])) w))
 fun l_2 u_l_2 w=>(a0a prog 167 #[a0,a1] (fun v18=>
 kC .neq 62 0 4 v18 fun v20=>
 kO v20 (K v18)
 (kB .lss 3 4 a2 (.int .i64 0) fun v23 w=>
 gF v23 (a0f a2) (fun v25 w=>
 gF v23 (a0f a0) (fun v26 w=>
 gF v23 (a0f a1) (fun v27 w=>
 gF v23 (a0a prog 182 #[v26,v27]) (fun v28 w=>
 gF v23 (kB .gtr 3 4 v25 v28) (fun v29=>
 kP v23 (.bool true) v29 fun v30=>
 kO v30 (K (.int .i64 1))
 (oM prog (.nilCheck (.tmp 0)) 0 [a0] fun v34=>
 kF 135 0 v34 fun v35=>
 kL 131 v35 fun v36=>
 oM prog (.lookup 131 (.tmp 0) (.tmp 1) false) 178 [v36,a1] fun v38=>
 oM prog (.field 178 (.tmp 0) 0) 9 [v38] fun v39=>
 oM prog (.slice 9 (.tmp 0) none (some (.tmp 1)) none) 9 [v39,a2] fun v41=>
 a0a prog 168 #[a0,a1,v41] fun v42=>
 K (.int .i64 0))) w) w) w) w) w)) w)
theorem d5x (h:f4a a0 a1 a2 K w):a0a prog 184 #[a0,a1,a2] K w:=
 cZ (fun _=>0) func184 h
def f4b (a0 a1 a2 a3:Value) (K:VK) (w:World):Prop:=
 a0a prog 166 #[a0] (fun v12=>
 a0a prog 246 #[a0,a1,a2,a3] fun v17=>
 kO v12 (oM prog (.nilCheck (.tmp 0)) 0 [a0] fun v21=>
 kF 135 6 v21 fun v22=>
 kL 24 v22 fun v23=>
 a0a prog 46 #[a0,v23] fun v24=>
 K (.int .i64 8))
 (K v17)) w
theorem d5y (h:f4b a0 a1 a2 a3 K w):a0a prog 193 #[a0,a1,a2,a3] K w:=
 cZ (fun _=>0) func193 h
def f4c (a0 a1:Value) (K:VK) (w:World):Prop:=
 a0a prog 265 #[a0,a1] (fun v10=>
 oM prog (.binOp .eql 3 (.tmp 0) (.const (.int .i64 (-1))) 3) 4 [v10] fun v12=>
 kO v12 (K a0)
 (kB .add 3 3 v10 (.int .i64 1) fun v15=>
 kQ [v10,v15] fun J_4 m_5 l_6 u_l_6 w0_l_6=>(fun w=>(
 kN 133 a0 (fun v18=>
 kB .lss 3 4 (l_6.getD 1 undef) v18 fun v19 w=>
 a2c v19
 (a5u (fun M_9=>(kI 133 a0 (l_6.getD 1 undef) (fun v24=>
 kL 176 v24 fun v25=>
 kA 176 fun v7=>
 kS 176 v7 v25 fun _=>
 kL 176 v7 fun v27=>
 oM prog (.call (Go.Call.mk (.value (.tmp 0)) #[(.tmp 1)] #[176])) 4 [a1,v27] fun v28=>
 kU v28 fun v29=>
 kO v29 (kL 176 v7 fun v32=>
 kI 133 a0 (l_6.getD 0 undef) fun v33=>
 kS 176 v33 v32 fun _=>
 kB .add 3 3 (l_6.getD 0 undef) (.int .i64 1) fun v35=>
 M_9 [v35])
 (M_9 [(l_6.getD 0 undef)])) w))
 fun l_10 u_l_10 w=>(kB .add 3 3 (l_6.getD 1 undef) (.int .i64 1) (fun v21=>
 kJ J_4 m_5 l_6 w0_l_6 [(l_10.getD 0 undef),v21]) w))
 (oM prog (.slice 133 (.tmp 0) (some (.tmp 1)) none none) 133 [a0,(l_6.getD 0 undef)] (fun v38=>
 oM prog (.call (Go.Call.mk (.builtin .clear) #[(.tmp 0)] #[133])) 0 [v38] fun _=>
 oM prog (.slice 133 (.tmp 0) none (some (.tmp 1)) none) 133 [a0,(l_6.getD 0 undef)] fun v41=>
 K v41) w)) w)) w0_l_6)) w
theorem d5z (h:f4c a0 a1 K w):a0a prog 218 #[a0,a1] K w:=
 cZ (fun _=>0) func218 h
def f4d (a0 a1:Value) (K:VK) (w:World):Prop:=
 oM prog (.box 176 (.tmp 0)) 0 [a0] (fun v2=>
 kF 176 0 v2 fun v4=>
 kL 3 v4 fun v5=>
 kL 3 a1 fun v6=>
 kB .eql 3 4 v5 v6 fun v7=>
 K v7) w
theorem d6a (h:f4d a0 a1 K w):a0a prog 219 #[a0,a1] K w:=
 cZ (fun _=>0) func219 h
def f4e (a0 a1:Value) (K:VK) (w:World):Prop:=
 oM prog (.range 132 (.tmp 0)) 0 [a0] (fun v7=>
 kQ [undef] fun J_2 m_3 l_4 u_l_4 w0_l_4=>(fun w=>(
 oM prog (.next (.tmp 0) false) 0 [v7] (fun v8=>
 kE 0 4 v8 fun v9=>
 kO v9 (oM prog (.entry (.tmp 0)) 0 [v7] fun v10=>
 kE 0 176 v10 fun v11=>
 kE 1 4 v10 fun v12=>
 kA 176 fun v4=>
 kS 176 v4 v11 fun _=>
 kL 176 v4 fun v14=>
 oM prog (.call (Go.Call.mk (.value (.tmp 0)) #[(.tmp 1),(.tmp 2)] #[176,4])) 4 [a1,v14,v12] fun v16=>
 kO v16 (kL 176 v4 fun v18=>
 oM prog (.call (Go.Call.mk (.builtin .delete) #[(.tmp 0),(.tmp 1)] #[132,176])) 0 [a0,v18] fun _=>
 kJ J_2 m_3 l_4 w0_l_4 [v12])
 (kJ J_2 m_3 l_4 w0_l_4 [v12]))
 (K (.tuple #[]))) w)) w0_l_4) w
theorem d6b (h:f4e a0 a1 K w):a0a prog 220 #[a0,a1] K w:=
 cZ (fun _=>0) func220 h
def f4f (a0 a1 a2:Value) (K:VK) (w:World):Prop:=
 oM prog (.box 176 (.tmp 0)) 0 [a0] (fun v3=>
 kF 176 0 v3 fun v6=>
 kL 3 v6 fun v7=>
 kL 3 a2 fun v8=>
 kB .eql 3 4 v7 v8 fun v9=>
 K v9) w
theorem d6c (h:f4f a0 a1 a2 K w):a0a prog 221 #[a0,a1,a2] K w:=
 cZ (fun _=>0) func221 h
def f4g (a0 a1 a2 a3:Value) (K:VK) (w:World):Prop:=
 a0a prog 167 #[a0,a1] (fun v15=>
 kC .neq 62 0 4 v15 fun v17=>
 kO v17 (K v15)
 (kB .lss 3 4 a2 (.int .i64 0) fun v21=>
 kO v21 (K (.int .i64 1))
 (kB .gtr 3 4 a2 (.int .i64 16777216) fun v24 w=>
 gF v24 (a0f a3) (fun v26 w=>
 gF v24 (kN 9 v26) (fun v27 w=>
 gF v24 (a0f a2) (fun v28 w=>
 gF v24 (kB .sub 3 3 (.int .i64 16777216) v28) (fun v29 w=>
 gF v24 (kB .gtr 3 4 v27 v29) (fun v30=>
 kP v24 (.bool true) v30 fun v31=>
 kO v31 (K (.int .i64 6))
 (oM prog (.binOp .eql 9 (.tmp 0) (.const (.string ⟨#[]⟩)) 9) 4 [a3] fun v34=>
 kO v34 (K (.int .i64 0))
 (oM prog (.nilCheck (.tmp 0)) 0 [a0] fun v36=>
 kF 135 0 v36 fun v37=>
 kL 131 v37 fun v38=>
 oM prog (.lookup 131 (.tmp 0) (.tmp 1) false) 178 [v38,a1] fun v40=>
 kA 178 fun v10=>
 kS 178 v10 v40 fun _=>
 kF 178 0 v10 fun v41=>
 kL 9 v41 fun v42=>
 a0a prog 126 #[v42,a2,a3] fun v45=>
 kF 178 0 v10 fun v46=>
 kS 9 v46 v45 fun _ w=>
 a4t w fun C_21 w=>(a0g a0 (a0p C_21 0) fun v47=>
 oH prog (.nilCheck (.tmp 0)) 0 [v47] (a0p C_21 0) fun v48=>
 jF 135 0 v48 (a0p C_21 0) fun v49=>
 jL 131 v49 (a0p C_21 0) fun v50=>
 a0g a1 (a0p C_21 0) fun v51=>
 jL 178 v10 (a0p C_21 0) fun v52=>
 oM prog (.mapUpdate 131 (.tmp 0) (.tmp 1) (.tmp 2)) 0 [v50,v51,v52] (fun _ w=>C_21 1 w ∧ (
 kB .quo 3 3 a2 (.int .i64 64) (fun v54=>
 kQ [v54] fun J_29 m_30 l_31 u_l_31 w0_l_31=>(fun w=>(
 kN 9 a3 (fun v58=>
 kB .add 3 3 a2 v58 fun v59=>
 kB .sub 3 3 v59 (.int .i64 1) fun v60=>
 kB .quo 3 3 v60 (.int .i64 64) fun v61=>
 kB .leq 3 4 (l_31.getD 0 undef) v61 fun v62 w=>
 a2c v62
 (a5u (fun M_37=>(oM prog (.build 176 #[(0,(.tmp 0)),(1,(.tmp 1))]) 176 [a1,(l_31.getD 0 undef)] (fun v67=>
 kA 176 fun v12=>
 kS 176 v12 v67 fun _ w=>
 a4t w fun C_41 w=>(a0g a0 (a0p C_41 0) fun v68=>
 oH prog (.nilCheck (.tmp 0)) 0 [v68] (a0p C_41 0) fun v69=>
 jF 135 2 v69 (a0p C_41 0) fun v70=>
 jL 132 v70 (a0p C_41 0) fun v71=>
 jL 176 v12 (a0p C_41 0) fun v72=>
 oH prog (.lookup 132 (.tmp 0) (.tmp 1) false) 4 [v71,v72] (a0p C_41 0) fun v73=>
 jU v73 (a0p C_41 0) fun v74=>
 a2c v74
 (a4t w fun C_49 w=>(a0g a0 (a0p C_49 2) fun v75=>
 a0g a0 (a0p C_49 2) fun v76=>
 oH prog (.nilCheck (.tmp 0)) 0 [v76] (a0p C_49 2) fun v77=>
 jF 135 2 v77 (a0p C_49 2) fun v78=>
 jL 132 v78 (a0p C_49 2) fun v79=>
 jL 176 v12 (a0p C_49 5) fun v80=>
 a0g a0 (a0p C_49 1) fun v81=>
 oH prog (.nilCheck (.tmp 0)) 0 [v81] (a0p C_49 1) fun v82=>
 jF 135 1 v82 (a0p C_49 1) fun v83=>
 jL 133 v83 (a0p C_49 1) fun v84=>
 jL 176 v12 (a0p C_49 0) fun v85=>
 oM prog (.buildSlice 133 1 #[(0,(.tmp 0))]) 133 [v85] (fun v86 w=>C_49 1 w ∧ (
 oM prog (.call (Go.Call.mk (.builtin .append) #[(.tmp 0),(.tmp 1)] #[133,133])) 133 [v84,v86] (fun v87 w=>C_49 2 w ∧ (
 oM prog (.nilCheck (.tmp 0)) 0 [v75] (fun v88 w=>C_49 3 w ∧ (
 kF 135 1 v88 (fun v89 w=>C_49 4 w ∧ (
 kS 133 v89 v87 (fun _ w=>C_49 5 w ∧ (
 oM prog (.mapEntry 132 (.tmp 0) (.tmp 1)) 0 [v79,v80] (fun v90 w=>C_49 6 w ∧ (
 kE 1 3 v90 (fun v91 w=>C_49 7 w ∧ (
 oM prog (.entryStore 132 (.tmp 0) (.tmp 1) (.tmp 2)) 0 [v79,v91,(.bool true)] (fun _ w=>C_49 8 w ∧ (
 M_37 [] w)) w)) w)) w)) w)) w)) w)) w)) w))
 (M_37 [] w))) w))
 fun l_38 u_l_38 w=>(kB .add 3 3 (l_31.getD 0 undef) (.int .i64 1) (fun v64=>
 kJ J_29 m_30 l_31 w0_l_31 [v64]) w))
 (K (.int .i64 0) w)) w)) w0_l_31) w)) w)))) w) w) w) w) w))) w
theorem d6d (h:f4g a0 a1 a2 a3 K w):a0a prog 246 #[a0,a1,a2,a3] K w:=
 cZ (fun _=>3) func246 h
def f4h (a0 a1:Value) (K:VK) (w:World):Prop:=
 kN 133 a0 (fun v7=>
 kQ [undef,(.int .i64 0),(.int .i64 0)] fun J_2 m_3 l_4 u_l_4 w0_l_4=>(fun w=>(
 kB .lss 3 0 (l_4.getD 2 undef) v7 (fun v9=>
 kO v9 (kI 133 a0 (l_4.getD 2 undef) fun v14=>
 kL 176 v14 fun v15=>
 oM prog (.call (Go.Call.mk (.value (.tmp 0)) #[(.tmp 1)] #[176])) 4 [a1,v15] fun v16=>
 kO v16 (K (l_4.getD 2 undef))
 (kB .add 3 3 (l_4.getD 2 undef) (.int .i64 1) fun v18=>
 kJ J_2 m_3 l_4 w0_l_4 [(l_4.getD 2 undef),(l_4.getD 1 undef),v18]))
 (K (.int .i64 (-1)))) w)) w0_l_4) w
theorem d6e (h:f4h a0 a1 K w):a0a prog 265 #[a0,a1] K w:=
 cZ (fun _=>0) func265 h
variable {a0 a1:Value} {K:VK} {w:World}
def f4i (a0:Value) (K:VK) (w:World):Prop:=
 kN 9 a0 (fun v6=>
 kQ [undef,(.int .i64 0),(.int .i64 0)] fun J_2 m_3 l_4 u_l_4 w0_l_4=>(fun w=>(
 kB .lss 3 4 (l_4.getD 2 undef) v6 (fun v8=>
 kO v8 (oM prog (.index 9 (.tmp 0) (.tmp 1)) 5 [a0,(l_4.getD 2 undef)] fun v13=>
 oM prog (.convert 5 3 (.tmp 0)) 3 [v13] fun v14=>
 kB .add 3 3 (l_4.getD 2 undef) (.int .i64 1) fun v16=>
 kB .mul 3 3 v14 v16 fun v17=>
 kB .add 3 3 (l_4.getD 1 undef) v17 fun v18=>
 kB .add 3 3 (l_4.getD 2 undef) (.int .i64 1) fun v19=>
 kJ J_2 m_3 l_4 w0_l_4 [(l_4.getD 2 undef),v18,v19])
 (K (l_4.getD 1 undef))) w)) w0_l_4) w
theorem d6f (h:f4i a0 K w):a0a prog 244 #[a0] K w:=
 cZ (fun _=>0) func244 h
def f4j (a0:Value) (K:VK) (w:World):Prop:=
 a0a prog 66 #[a0] (fun v4=>
 a0a prog 244 #[a0] fun v6=>
 a0a prog 65 #[v6] fun v7=>
 kB .add 9 9 v4 v7 fun v8=>
 K v8) w
theorem d6g (h:f4j a0 K w):a0a prog 192 #[a0] K w:=
 cZ (fun _=>0) func192 h
def f4k (a0:Value) (K:VK) (w:World):Prop:=
 a5u (fun M_1=>(kQ [undef,undef,undef,undef,undef,(.slice none 0 0),(.int .i64 0)] (fun J_3 m_4 l_5 u_l_5 w0_l_5=>(fun w=>(
 kN 9 a0 (fun v12=>
 kB .lss 3 4 (l_5.getD 6 undef) v12 fun v13=>
 kO v13 (oM prog (.slice 9 (.tmp 0) (some (.tmp 1)) none none) 9 [a0,(l_5.getD 6 undef)] fun v16=>
 a0a prog 52 #[v16] fun v17=>
 a0a prog 63 #[v17] fun v19=>
 a0a prog 62 #[v17] fun v21=>
 a0a prog 192 #[v19] fun v23 w=>
 a5u (fun M_13=>(kN 9 v19 (fun v26=>
 kB .gtr 3 4 v26 (.int .i64 20000) fun v27=>
 kO v27 (M_13 [v27])
 (a0a prog 244 #[v19] fun v30=>
 kB .neq 3 4 v21 v30 fun v31=>
 kO v31 (M_13 [v31])
 (kN 9 a0 fun v33=>
 kB .sub 3 3 v33 (l_5.getD 6 undef) fun v35=>
 kN 9 v23 fun v37=>
 kB .lss 3 4 v35 v37 fun v38=>
 kO v38 (M_13 [v38])
 (kN 9 v23 fun v43=>
 kB .add 3 3 (l_5.getD 6 undef) v43 fun v44=>
 oM prog (.slice 9 (.tmp 0) (some (.tmp 1)) (some (.tmp 2)) none) 9 [a0,(l_5.getD 6 undef),v44] fun v45=>
 kB .neq 9 4 v45 v23 fun v47=>
 M_13 [v47])))) w))
 fun l_14 u_l_14 w=>(kO (l_14.getD 0 undef) (M_1 [v17,v19,v21,v23,(l_14.getD 0 undef),(l_5.getD 5 undef),(l_5.getD 6 undef)])
 (oM prog (.buildSlice 60 1 #[(0,(.tmp 0))]) 60 [v19] fun v50=>
 oM prog (.call (Go.Call.mk (.builtin .append) #[(.tmp 0),(.tmp 1)] #[60,60])) 60 [(l_5.getD 5 undef),v50] fun v51=>
 kN 9 v23 fun v54=>
 kB .add 3 3 (l_5.getD 6 undef) v54 fun v55=>
 kJ J_3 m_4 l_5 w0_l_5 [v17,v19,v21,v23,(l_14.getD 0 undef),v51,v55]) w))
 (M_1 [(l_5.getD 0 undef),(l_5.getD 1 undef),(l_5.getD 2 undef),(l_5.getD 3 undef),(l_5.getD 4 undef),(l_5.getD 5 undef),(l_5.getD 6 undef)])) w)) w0_l_5) w))
 fun l_2 u_l_2 w=>(K (.tuple #[(l_2.getD 5 undef),(l_2.getD 6 undef)]) w)
theorem d6h (h:f4k a0 K w):a0a prog 183 #[a0] K w:=
 cZ (fun _=>0) func183 h
def f4l (a0 a1:Value) (K:VK) (w:World):Prop:=
 kB .lss 3 4 a1 (.int .i64 0) (fun v13 w=>
 gF v13 (a0f a1) (fun v15 w=>
 gF v13 (kB .gtr 3 4 v15 (.int .i64 15)) (fun v16=>
 kP v13 (.bool true) v16 fun v17=>
 kO v17 (K (.tuple #[(.pointer none),(.int .i64 1)]))
 (a0a prog 89 #[a0,a1] fun v20=>
 kC .neq 62 0 4 v20 fun v22=>
 kO v22 (K (.tuple #[(.pointer none),v20]))
 (a0a prog 182 #[a0,a1] fun v29=>
 a0a prog 181 #[a0,a1,(.int .i64 0),v29] fun v30=>
 kE 0 9 v30 fun v31=>
 kE 1 62 v30 fun v32=>
 kC .neq 62 0 4 v32 fun v34=>
 kO v34 (K (.tuple #[(.pointer none),v32]))
 (a0a prog 183 #[v31] fun v38=>
 kE 0 60 v38 fun v39=>
 kE 1 3 v38 fun v40 w=>
 a5u (fun M_15=>(kN 9 v31 (fun v43=>
 kB .lss 3 4 v40 v43 fun v44=>
 kO v44 (a0a prog 184 #[a0,a1,v40] fun v48=>
 kC .neq 62 0 4 v48 fun v50=>
 kO v50 (K (.tuple #[(.pointer none),v48]))
 (M_15 [v48,(.pointer none),(.int .i64 0)]))
 (M_15 [undef,(.pointer none),(.int .i64 0)])) w))
 fun l_16 u_l_16 w=>(oM prog (.build 211 #[(0,(.tmp 0)),(1,(.tmp 1)),(2,(.tmp 2)),(3,(.tmp 3))]) 211 [a0,a1,v39,v40] (fun v56=>
 oM prog (.box 211 (.tmp 0)) 128 [v56] fun v57=>
 K (.tuple #[v57,(.int .i64 0)])) w))))) w) w) w
theorem d6i (h:f4l a0 a1 K w):a0a prog 113 #[a0,a1] K w:=
 cZ (fun _=>0) func113 h
def f4m (a0 a1:Value) (K:VK) (w:World):Prop:=
 a0a prog 192 #[a1] (fun v8=>
 oM prog (.nilCheck (.tmp 0)) 0 [a0] fun v11=>
 kF 211 4 v11 fun v12=>
 kL 4 v12 fun v13=>
 kO v13 (K (.int .i64 7))
 (kN 9 a1 fun v16=>
 kB .gtr 3 4 v16 (.int .i64 20000) fun v17=>
 kO v17 (K (.int .i64 3))
 (oM prog (.nilCheck (.tmp 0)) 0 [a0] fun v20=>
 kF 211 3 v20 fun v21=>
 kL 3 v21 fun v22=>
 kN 9 v8 fun v24=>
 kB .add 3 3 v22 v24 fun v25=>
 kB .gtr 3 4 v25 (.int .i64 1048576) fun v26=>
 kO v26 (K (.int .i64 6))
 (kH fun C_13 w=>(((true:Bool) = true) ∧ (a0g a0 C_13 fun v27=>
 oH prog (.nilCheck (.tmp 0)) 0 [v27] C_13 fun v28=>
 jF 211 0 v28 C_13 fun v29=>
 jL 55 v29 C_13 fun v30=>
 a0g a0 C_13 fun v31=>
 oH prog (.nilCheck (.tmp 0)) 0 [v31] C_13 fun v32=>
 jF 211 1 v32 C_13 fun v33=>
 jL 3 v33 C_13 fun v34=>
 a0g a0 C_13 fun v35=>
 oH prog (.nilCheck (.tmp 0)) 0 [v35] C_13 fun v36=>
 jF 211 3 v36 C_13 fun v37=>
 jL 3 v37 C_13 fun v38=>
 a0g v8 C_13 fun v39=>
 ∃ S_27:World → WK,∀ w,C_13 w → (
 a0a prog 193 #[v30,v34,v38,v39] (fun v40=>
 kC .neq 62 0 4 v40 fun v42 w=>
 a2c v42
 (oM prog (.nilCheck (.tmp 0)) 0 [a0] (fun v44=>
 kF 211 4 v44 fun v45=>
 kS 4 v45 (.bool true) fun _=>
 K v40) w)
 (a4t w fun C_32 w=>(a0g a0 (a0p C_32 2) fun v47=>
 a0g a0 (a0p C_32 5) fun v48=>
 a0g a0 (a0p C_32 1) fun v49=>
 oH prog (.nilCheck (.tmp 0)) 0 [v49] (a0p C_32 1) fun v50=>
 jF 211 2 v50 (a0p C_32 1) fun v51=>
 jL 60 v51 (a0p C_32 1) fun v52=>
 a0g a1 (a0p C_32 0) fun v53=>
 a0g a0 (a0p C_32 2) fun v56=>
 oH prog (.nilCheck (.tmp 0)) 0 [v56] (a0p C_32 2) fun v57=>
 jF 211 3 v57 (a0p C_32 2) fun v58=>
 jL 3 v58 (a0p C_32 2) fun v59=>
 a0g v8 (a0p C_32 5) fun v60=>
 jN 9 v60 (a0p C_32 5) fun v61=>
 jB .add 3 3 v59 v61 (a0p C_32 5) fun v62=>
 oM prog (.buildSlice 60 1 #[(0,(.tmp 0))]) 60 [v53] (fun v54 w=>C_32 1 w ∧ (
 oM prog (.call (Go.Call.mk (.builtin .append) #[(.tmp 0),(.tmp 1)] #[60,60])) 60 [v52,v54] (fun v55 w=>C_32 2 w ∧ (
 oM prog (.nilCheck (.tmp 0)) 0 [v47] (fun v63 w=>C_32 3 w ∧ (
 kF 211 2 v63 (fun v64 w=>C_32 4 w ∧ (
 kS 60 v64 v55 (fun _ w=>C_32 5 w ∧ (
 oM prog (.nilCheck (.tmp 0)) 0 [v48] (fun v65 w=>C_32 6 w ∧ (
 kF 211 3 v65 (fun v66 w=>C_32 7 w ∧ (
 kS 3 v66 v62 (fun _ w=>C_32 8 w ∧ (
 K (.int .i64 0) w)) w)) w)) w)) w)) w)) w)) w)) w))) w))))))) w
theorem d6j (h:f4m a0 a1 K w):a0a prog 119 #[a0,a1] K w:=
 cZ (mz [(8,fz 13 0 2),(12,3)]) func119 h
def g2s (a0:Value) (K:VK) (w:World):Prop:=
 oM prog (.nilCheck (.tmp 0)) 0 [a0] (fun v5=>
 kF 211 4 v5 fun v6=>
 kL 4 v6 fun v7=>
 kO v7 (K (.int .i64 7))
 (kH fun C_4 w=>(((true:Bool) = true) ∧ (a0g a0 C_4 fun v8=>
 oH prog (.nilCheck (.tmp 0)) 0 [v8] C_4 fun v9=>
 jF 211 0 v9 C_4 fun v10=>
 jL 55 v10 C_4 fun v11=>
 a0g a0 C_4 fun v12=>
 oH prog (.nilCheck (.tmp 0)) 0 [v12] C_4 fun v13=>
 jF 211 1 v13 C_4 fun v14=>
 jL 3 v14 C_4 fun v15=>
 ∃ S_13:World → WK,∀ w,C_4 w → (
 a0a prog 89 #[v11,v15] (fun v16=>
 kC .neq 62 0 4 v16 fun v19=>
 oM prog (.nilCheck (.tmp 0)) 0 [a0] fun v20=>
 kF 211 4 v20 fun v21=>
 kS 4 v21 v19 fun _=>
 K v16) w))))) w
theorem e6m (h:g2s a0 K w):a0a prog 93 #[a0] K w:=
 cZ (fun _=>(fz 8 0 2)) func93 h
def f4n (a0:Value) (K:VK) (w:World):Prop:=
 oM prog (.nilCheck (.tmp 0)) 0 [a0] (fun v5=>
 kF 211 2 v5 fun v6=>
 kL 60 v6 fun v7=>
 kN 60 v7 fun v8=>
 oM prog (.makeSlice 60 (.tmp 0) (.tmp 1)) 60 [v8,v8] fun v9=>
 oM prog (.nilCheck (.tmp 0)) 0 [a0] fun v12=>
 kF 211 2 v12 fun v13=>
 kL 60 v13 fun v14=>
 oM prog (.call (Go.Call.mk (.builtin .copy) #[(.tmp 0),(.tmp 1)] #[60,60])) 3 [v9,v14] fun v15=>
 K v9) w
theorem d6k (h:f4n a0 K w):a0a prog 116 #[a0] K w:=
 cZ (fun _=>0) func116 h
end Go.Proofs
namespace JnSpec
open CodeSpec DkSpec
variable {all sure:List Bs} {f:Int} {A:Ab} {j:Jn}
def LJ (f:Int) (A:Ab) (j:Jn) (all sure:List Bs):Prop:=(j.broken = false ∧ Live f A j all sure) ∨ (j.broken = true ∧ GoodJ f A all sure)
theorem d0b (s t:Bs) (ht:t ≠ []):b0f s s.length t = s ++ t:=by
 unfold b0f
 rw [if_neg ht]
 have e:s.length + t.length - s.length = t.length:=by omega
 rw [e,List.take_left',List.drop_eq_nil_of_le (by simp),List.append_nil]
 rfl
theorem Live.add (h:Live f A j all sure) (hf:0 ≤ f ∧ f ≤ 15) {t:Bs} (ht:t.length ≤ 20000) (hb:j.bytes + (form t).length ≤ 1048576) {A':Ab} (hF:A'.F = A.F) (hw:WF A') (hd:A'.down = A.down) :
  Live f (b8v A' f j.bytes (form t)) ⟨j.recs ++ [t],j.bytes + (form t).length,false⟩ (all ++ [t]) sure:=by
 have hne:form t ≠ []:=List.length_pos_iff.1 (a8c t)
 have hw2:=f8n hw f j.bytes (form t) (by omega) (by omega)
 have e:(b8v A' f j.bytes (form t)).F f = (a2v (j.recs ++ [t]),(A.F f).2):=by
  unfold b8v
  rw [if_neg hne]
  show b1c A'.F f _ f = _
  rw [a3d,hF,h.x,h.bytes,d0b _ _ hne,a5b]
  simp [a2v]
 have hg:=h.good.more ht
 refine ⟨⟨hw2,hg.few,hg.sub,?_,?_⟩,by rw [h.recs],h.pre.trans (List.prefix_append _ _),by rw [e],?_,?_⟩
 ·rw [e,h.recs]; exact Ok.own (h.pre.trans (List.prefix_append _ _))
 ·rw [e]; exact hg.y
 ·dsimp only
  rw [a5b,List.length_append,h.bytes]
  simp [a2v]
 ·have:(b8v A' f j.bytes (form t)).down = A'.down:=by
   unfold b8v; rw [if_neg hne]
  rw [this,hd]; exact h.up
theorem e0e {A:Ab} (hd:A.down = false) (hf:0 ≤ f ∧ f ≤ 15) {n:Nat} {s:Bs} (hb:n + s.length ≤ 16777216) :
  ((a7n A f n s).1 = 0 ∧ (a7n A f n s).2 = b8v (a4b A).2 f n s) ∨ ((a7n A f n s).1 = 8 ∧ ∃ keep,(a7n A f n s).2 = a4p (b8v (a4b A).2 f n s) keep):=by
 have hw:wrA (a4b A).2 f n s = (0,b8v (a4b A).2 f n s):=by
  unfold wrA
  rw [b1v (by rw [(a5w A).2.1]; exact hd) (by omega),if_neg (by simp),if_neg (by omega),if_neg (by omega)]
  simp
 unfold a7n
 rw [hw]
 split
 ·exact .inr ⟨rfl,_,rfl⟩
 ·exact .inl ⟨rfl,rfl⟩
theorem b6c (h:LJ f A j all sure) (hf:0 ≤ f ∧ f ≤ 15) (t:Bs) :
  ((a0j A f j t).1 = 0 ∧ (a0j A f j t).2.2.recs = j.recs ++ [t] ∧ LJ f (a0j A f j t).2.1 (a0j A f j t).2.2 (all ++ [t]) sure) ∨
  ((a0j A f j t).1 = 8 ∧ (a0j A f j t).2.2.recs = j.recs ∧ LJ f (a0j A f j t).2.1 (a0j A f j t).2.2 (all ++ [t]) sure) ∨
  (((a0j A f j t).1 = 7 ∨ (a0j A f j t).1 = 3 ∨ (a0j A f j t).1 = 6) ∧ (a0j A f j t).2.2.recs = j.recs ∧ LJ f (a0j A f j t).2.1 (a0j A f j t).2.2 all sure):=by
 rcases h with ⟨hb,hl⟩ | ⟨hb,hg⟩
 ·unfold a0j
  rw [if_neg (by rw [hb]; simp)]
  by_cases h1:20000 < t.length
  ·rw [if_pos h1]; exact .inr (.inr ⟨.inr (.inl rfl),rfl,.inl ⟨hb,hl⟩⟩)
  rw [if_neg h1]
  by_cases h2:1048576 < j.bytes + (form t).length
  ·rw [if_pos h2]; exact .inr (.inr ⟨.inr (.inr rfl),rfl,.inl ⟨hb,hl⟩⟩)
  rw [if_neg h2]
  have ha:=hl.add hf (t:=t) (by omega) (by omega) (A':=(a4b A).2) (a5w A).1 (b5h hl.good.wf) (a5w A).2.1
  rcases e0e hl.up hf (n:=j.bytes) (s:=form t) (by omega) with ⟨w1,w2⟩ | ⟨w1,keep,w2⟩
  ·rw [if_neg (by rw [w1]; simp)]
   refine .inl ⟨rfl,rfl,.inl ⟨rfl,?_⟩⟩
   dsimp only
   rw [w2]; exact ha
  ·rw [if_pos (by rw [w1]; simp)]
   refine .inr (.inl ⟨w1,rfl,.inr ⟨rfl,?_⟩⟩)
   dsimp only
   rw [w2]; exact ha.good.crash keep
 ·unfold a0j
  rw [if_pos hb]
  exact .inr (.inr ⟨.inl rfl,rfl,.inr ⟨hb,hg⟩⟩)
theorem e0f (h:LJ f A j all sure) (hf:0 ≤ f ∧ f ≤ 15) :
  (a6s A f j).2.2.recs = j.recs ∧ (((a6s A f j).1 = 0 ∧ LJ f (a6s A f j).2.1 (a6s A f j).2.2 all j.recs) ∨ ((a6s A f j).1 ≠ 0 ∧ LJ f (a6s A f j).2.1 (a6s A f j).2.2 all sure)):=by
 rcases h with ⟨hb,hl⟩ | ⟨hb,hg⟩
 ·have hs:=hl.good.sync
  unfold a6s
  rw [if_neg (by rw [hb]; simp)]
  dsimp only
  refine ⟨rfl,?_⟩
  by_cases he:(a3y A f).1 = 0
  ·refine .inl ⟨he,.inl ⟨by simp [he],?_⟩⟩
   obtain ⟨_,_,hd,hfi,_,_⟩:=d4f hl.good.wf he
   have hF:=hfi.1
   rw [hl.x] at hF
   have hfew:=hl.good.few
   have hrec:=hl.recs
   have ho:Ok all j.recs (a2v j.recs):=by rw [hrec]; exact Ok.own (List.prefix_refl _)
   exact ⟨⟨hs.wf,hs.few,by rw [hrec]; exact List.prefix_refl _,by rw [hF]; exact ho,by rw [hF]; exact ho⟩,hrec,List.prefix_refl _,by rw [hF],hl.bytes,hd⟩
  ·exact .inr ⟨he,.inr ⟨by simp [he],hs⟩⟩
 ·unfold a6s
  rw [if_pos hb]
  exact ⟨rfl,.inr ⟨by simp,.inr ⟨hb,hg⟩⟩⟩
theorem GoodJ.start (h:GoodJ f A all sure):GoodJ f (b2k A) all sure:=h.same (d4l h.wf) rfl
theorem d1y (f:Int):GoodJ f c6s [] []:=⟨d4j,(fun t ht=>by cases ht),List.prefix_refl _,⟨trivial,List.nil_prefix⟩,⟨trivial,List.nil_prefix⟩⟩
end JnSpec
namespace JnSpec
open CodeSpec
theorem b8i (a b:a0h):∀ i:Nat,a4c i (a ++ b) = a4c i a + a4c (i + a.length) b:=by
 induction a with
 | nil=>intro i; simp [a4c]
 | cons c a ih=>
  intro i
  simp only [List.cons_append,a4c,List.length_cons]
  rw [ih (i + 1)]
  have:i + 1 + a.length = i + (a.length + 1):=by omega
  rw [this]
  omega
theorem d0c (s:a0h) (i:Nat) (h:i < s.length):b2o (s.take (i + 1)) = b2o (s.take i) + (s[i].toNat:Int) * ((i:Int) + 1):=by
 have e:s.take (i + 1) = s.take i ++ [s[i]]:=by rw [List.take_add_one,List.getElem?_eq_getElem h]; rfl
 unfold b2o
 have hl:(s.take i).length = i:=by rw [List.length_take]; omega
 rw [e,b8i,Nat.zero_add,hl]
 simp only [a4c]
 omega
theorem b1r {s:a0h} (hs:s.length ≤ 16777216) (i:Nat):0 ≤ b2o (s.take i) ∧ b2o (s.take i) < 9223372036854775807:=by
 have h1:=b1g (s:=s.take i) (by rw [List.length_take]; omega)
 have h2:=b3v (s.take i)
 have h3:=g5n (n:=(s.take i).length) (m:=16777216) (by rw [List.length_take]; omega)
 have:(255:Int) * (16777216:Nat) * (16777216:Nat) < 9223372036854775807:=by decide
 exact ⟨h1.2,by omega⟩
theorem b2p {s:a0h} (hs:s.length ≤ 16777216):(form s).length ≤ s.length + 64:=by
 have h1:=(b1g hs)
 have h2:=a2u s.length 20 (by omega) (by omega)
 have h3:=a2u (b2o s).toNat 20 (by omega) (by have:=h1.1.2; omega)
 have e1:Go.Lib.itoa (s.length:Int) = Go.Lib.decDigits s.length:=by
  unfold Go.Lib.itoa
  rw [if_neg (by omega)]
  simp
 have e2:Go.Lib.itoa (b2o s) = Go.Lib.decDigits (b2o s).toNat:=by
  unfold Go.Lib.itoa
  rw [if_neg (by omega)]
 rw [b3w]
 simp only [List.length_append,List.length_cons,List.length_nil,e1,e2]
 omega
end JnSpec
namespace Go.Proofs
open Go Go.Sh Go.RowKit CodeSpec JnSpec
section
variable {K:VK} {w w0:World} {L:List (Addr × Value)}
def SuJ (s:List UInt8) (w0:World) (vs:List Value) (w':World):Prop:=w' = w0 ∧ ∃ (u:Value) (i:Nat),vs = [u,.int .i64 (b2o (s.take i)),.int .i64 (i:Int)] ∧ i ≤ s.length
def h1o (n:Nat):List Value → World → Nat
 | [_,_,.int _ i],_=>n - i.toNat
 | _,_=>0
theorem f9f (n:Nat) (a b:Value) (k:IntKind) (i:Int) (w:World):h1o n [a,b,.int k i] w = n - i.toNat:=rfl
theorem d9l (s:List UInt8) (hs:s.length ≤ 16777216) (k:K (.int .i64 (b2o s)) w):a0a Tryz.prog 244 #[.string ⟨s.toArray⟩] K w:=by
 apply d6f
 unfold f4i
 refine Xa0 ?_
 refine ⟨SuJ s w,h1o s.length,⟨rfl,undef,0,rfl,by omega⟩,?_⟩
 rintro _ _ _ ⟨rfl,u,i,rfl,hi⟩
 by_cases hin:i = s.length
 ·rw [List.take_of_length_le (by omega)]
  refine Xa0 ?_
  exact k
 have hlt:i < s.length:=by omega
 have hb:=b1r hs (i + 1)
 have hb0:=b1r hs i
 rw [d0c s i hlt] at hb
 refine Xa0 ?_
 have ec:s[i]?.getD 0 = s[i]:=by rw [gE hlt]; rfl
 have hst:=d0c s i hlt
 rw [ec]
 have hc:=s[i].toNat_lt
 generalize s[i].toNat = c at *
 have hp:0 ≤ (c:Int) * ((i:Int) + 1):=Int.mul_nonneg (by omega) (by omega)
 have e1:IntKind.i64.wrap (c:Int) = c:=by rw [a0u] <;> omega
 rw [e1]
 generalize (c:Int) * ((i:Int) + 1) = p at *
 have e2:IntKind.i64.wrap p = p:=by rw [a0u] <;> omega
 rw [e2]
 have e3:IntKind.i64.wrap (b2o (s.take i) + p) = b2o (s.take i) + p:=by rw [a0u] <;> omega
 rw [e3,← hst]
 refine ⟨⟨rfl,_,i + 1,rfl,by omega⟩,?_⟩
 simp only [f9f]; omega
theorem d9m (s:List UInt8) (hs:s.length ≤ 16777216) (hl:Cd.LaidE w) (k:∀ w',Bw w w' → K (.string ⟨(form s).toArray⟩) w'):a0a Tryz.prog 192 #[.string ⟨s.toArray⟩] K w:=by
 apply d6g
 unfold f4j
 refine Cd.pText_ok s (by omega) hl.toLaid (fun w1 h1=>?_)
 refine d9l s hs ?_
 refine Cd.pNum_ok (b2o s) (b1g hs).1 (hl.below h1 hl.size).toLaid (fun w2 h2=>?_)
 have h1l:=Cd.encText_len s (by omega)
 have h3:=b2p hs
 have h4:(form s).length = (a0t s).length + (a1a (b2o s)).length:=by simp [form]
 refine Xa0 ?_
 exact Cd.K_eq (k _ (h1.trans (h2.mono h1.size))) (by simp [form])
end
end Go.Proofs
namespace Go.Proofs
open Go Go.Sh Go.RowKit CodeSpec JnSpec Go.Lib
theorem d9n {w w2 w3:World} {B:Nat} {e:TypeId} {sz n:Nat} {v:Value} {xs:List Value} (h:Below B w w2) (hown:w2.ownsRow B e sz v n xs) (hB:B ≤ w2.heap.size) (hg:w2.grownBy w3 v.ownBlock):Below B w w3:=
 h.trans (Cd.below_of_grown hg hB (fun k hk=>by
  rcases hown.2 with ⟨rfl,_⟩ | ⟨g,cap,cur,rfl,hb,_⟩
  ·cases hk
  ·simp [Value.ownBlock] at hk; omega))
theorem d9o (s:List UInt8):(a0s ⟨s,false⟩).1.length ≤ s.length:=by
 rcases a2q ⟨s,false⟩ Rd.ok_good with h | ⟨t,u,h,h2,_⟩
 ·rw [h]; simp
 ·rw [h]
  have:=congrArg (fun r=>r.rest.length) h2
  simp [a0t] at this ⊢
  omega
theorem b8g (s:List UInt8):(a0s ⟨s,false⟩).2.rest.length ≤ s.length:=by
 rcases a2q ⟨s,false⟩ Rd.ok_good with h | ⟨t,u,h,h2,_⟩
 ·rw [h]; simp [failed]
 ·rw [h]
  have:=congrArg (fun r=>r.rest.length) h2
  simp [a0t] at this ⊢
  omega
section
variable {K:VK} {w w0:World}
def RdJ (s:List UInt8) (w:World) (vs:List Value) (w':World):Prop:=∃ (a b c d e v:Value) (n:Nat) (xs:List (List UInt8)),vs = [a,b,c,d,e,v,.int .i64 (n:Int)] ∧ n ≤ s.length ∧ w'.ownsRow w.heap.size 9 1 v xs.length (xs.map Cd.strV) ∧ Bw w w' ∧ readJ s = (xs ++ (readJ (s.drop n)).1,n + (readJ (s.drop n)).2) ∧ xs.length ≤ n
def RdE (s:List UInt8) (w:World) (vs:List Value) (w':World):Prop:=∃ (a b c d e v:Value),vs = [a,b,c,d,e,v,.int .i64 (((readJ s).2:Nat):Int)] ∧ w'.ownsRow w.heap.size 9 1 v (readJ s).1.length ((readJ s).1.map Cd.strV) ∧ Bw w w'
def h1p (m:Nat):List Value → World → Nat
 | [_,_,_,_,_,_,.int _ i],_=>m - i.toNat
 | _,_=>0
theorem f9g (m:Nat) (a b c d e v:Value) (k:IntKind) (i:Int) (w:World):h1p m [a,b,c,d,e,v,.int k i] w = m - i.toNat:=rfl
theorem e9a (s:List UInt8) (hs:s.length ≤ 16777216) (hl:Cd.LaidE w) (k:∀ v w',w'.ownsRow w.heap.size 9 1 v (readJ s).1.length ((readJ s).1.map Cd.strV) → Bw w w' → K (.tuple #[v,.int .i64 (readJ s).2]) w'):a0a Tryz.prog 183 #[.string ⟨s.toArray⟩] K w:=by
 apply d6h
 unfold f4k
 refine Xa0 ?_
 refine ⟨RdE s w,?_,?_⟩
 rotate_left
 ·rintro _ _ w2 ⟨_,_,_,_,_,v,rfl,hown,hb⟩
  simp only [List.getD_cons_zero,List.getD_cons_succ]
  exact k v w2 hown hb
 refine ⟨RdJ s w,h1p s.length,⟨_,_,_,_,_,_,0,[],rfl,by omega,World.ownsRow_nil _ _ _ _,bR,by simp,by simp⟩,?_⟩
 rintro _ _ w2 ⟨_,_,_,_,_,v,n,xs,rfl,hn,hown,hb2,hrd,hxn⟩
 simp only [List.getD_cons_zero,List.getD_cons_succ]
 have hz2:=hb2.size
 by_cases hlt:n < s.length
 ·have hdl:(s.drop n).length = s.length - n:=by simp
  have htl:List.take s.length s = s:=List.take_length
  refine Xa @htl ?_
  refine Cd.open_ok _ (fun w3 hr3 hb3=>?_)
  have hb23:=hb2.trans (hb3.mono hz2)
  have hz3:=hb3.size
  have hlt3:=hr3.lt
  have hl3:Cd.LaidE w3:=hl.below hb23 hl.size
  have hown3:=hown.kept (Cd.grown_of_below hb3 none) (by
   rcases hown.2 with ⟨rfl,_⟩ | ⟨g,cap,cur,rfl,_⟩
   ·left; rfl
   ·right; simp [Value.ownBlock])
  refine Cd.rtext_ok _ _ hl3 (by simp; omega) hr3 (fun w4 hr4 hg4=>?_)
  have ht:=d9o (s.drop n)
  have ht2:=b8g (s.drop n)
  have hb4:Below w2.heap.size w3 w4:=Cd.below_of_grown hg4 (by omega) (fun k hk=>by cases hk; omega)
  have hz4:=hb4.size
  have hl4:Cd.LaidE w4:=hl3.below (hb4.mono hz2) hl.size
  refine Cd.rnum_ok _ _ hl4 (by omega) hr4 (fun w5 hr5 hg5=>?_)
  have hb5:Below w2.heap.size w4 w5:=Cd.below_of_grown hg5 (by omega) (fun k hk=>by cases hk; omega)
  have hz5:=hb5.size
  have hl5:Cd.LaidE w5:=hl4.below (hb5.mono hz2) hl.size
  obtain ⟨t,et⟩:∃ t,t = (a0s ⟨s.drop n,false⟩).1:=⟨_,rfl⟩
  obtain ⟨m,em⟩:∃ m,m = (a1m (a0s ⟨s.drop n,false⟩).2).1:=⟨_,rfl⟩
  rw [← et,← em]
  rw [← et] at ht
  refine d9m t (by omega) hl5 (fun w6 hb6=>?_)
  have hfl:=b2p (s:=t) (by omega)
  have hfp:=a8c t
  have hz6:=hb6.size
  have hb36:Bw w2 w6:=(hb3.trans (hb4.trans (hb5.trans (hb6.mono (by omega)))))
  have hown6:=hown.kept (Cd.grown_of_below hb36 none) (by
   rcases hown.2 with ⟨rfl,_⟩ | ⟨g,cap,cur,rfl,_⟩
   ·left; rfl
   ·right; simp [Value.ownBlock])
  have hb06:=hb2.trans (hb36.mono hz2)
  have hf1:first (s.drop n) = if d2a (s.drop n) t m then none else some t:=by rw [et,em]; rfl
  refine ⟨fun vs w'=>vs = [.bool (decide (d2a (s.drop n) t m))] ∧ w' = w6,?_,?_⟩
  ·by_cases h1:20000 < t.length
   ·have hb:d2a (s.drop n) t m:=.inl h1
    refine Xa0 ?_
    exact ⟨by simp [hb]; omega,rfl⟩
   ·by_cases h2:m = b2o t
    ·have e1:¬ (20000:Int) < t.length:=by omega
     refine Xa0 ?_
     refine d9l t (by omega) ?_
     by_cases h3:(s.drop n).length < (form t).length
     ·have hb:d2a (s.drop n) t m:=.inr (.inr (.inl h3))
      refine Xa0 ?_
      exact ⟨by simp [hb]; omega,rfl⟩
     ·have e4:((n:Int) + ((form t).length:Int)).toNat = n + (form t).length:=by omega
      have e5:(s.take (n + (form t).length)).drop n = (s.drop n).take (form t).length:=by
       rw [List.drop_take]
       congr 1
       omega
      have hb:d2a (s.drop n) t m ↔ ¬ (s.drop n).take (form t).length = form t:=by
       unfold d2a
       constructor
       ·rintro (h | h | h | h)
        ·exact absurd h h1
        ·exact absurd h2 h
        ·exact absurd h h3
        ·exact h
       ·exact fun h=>.inr (.inr (.inr h))
      refine Xa0 ?_
      refine ⟨?_,rfl⟩
      rw [e4,e5]
      simp [hb]
    ·have hb:d2a (s.drop n) t m:=.inr (.inl h2)
     refine Xa0 ?_
     refine d9l t (by omega) ?_
     refine Xa0 ?_
     exact ⟨by simp [hb]; exact h2,rfl⟩
  ·rintro _ _ w7 ⟨rfl,rfl⟩
   simp only [List.getD_cons_zero]
   by_cases hbad:d2a (s.drop n) t m
   ·rw [if_pos hbad] at hf1
    rw [a7i hf1] at hrd
    simp only [hbad,decide_true]
    refine Xa0 ?_
    have e2:(readJ s).2 = n:=by rw [hrd]; rfl
    have e3:(readJ s).1 = xs:=by rw [hrd]; simp
    unfold RdE
    rw [e2,e3]
    exact ⟨_,_,_,_,_,v,rfl,hown6,hb06⟩
   ·rw [if_neg hbad] at hf1
    have hfs:=a8s hf1
    rw [b1h hf1] at hrd
    simp only [hbad,decide_false]
    have hl1:=congrArg List.length hfs.2
    rw [List.length_append] at hl1
    have hby:(xs.length + 1) * Tryz.t9.bytes ≤ 140737488355328:=by
     have:Tryz.t9.bytes = 16:=by kernel_rfl
     rw [this]
     omega
    refine Xa0 ?_
    refine a9t (base:=w.heap.size) (n:=xs.length) (xs:=xs.map Cd.strV) (i:=Tryz.t9) (z:=.string ⟨#[]⟩) (cs:=#[Cd.strV t]) Tryz.underlying60 (by kernel_rfl) (by kernel_rfl) rfl rfl (by simp) (by simp [Value.oneCell',Cd.strV]) hown6 (by omega) (by unfold maxLen; omega) hby ?_
    intro v' w8 ho8 hg8
    refine Xa0 ?_
    refine ⟨⟨_,_,_,_,_,v',n + (form t).length,xs ++ [t],rfl,by omega,by simpa using ho8,d9n hb06 hown6 (by omega) hg8,?_,by simp; omega⟩,by simp only [f9g]; omega⟩
    rw [hrd,List.drop_drop]
    simp [Nat.add_assoc]
 ·obtain rfl:n = s.length:=by omega
  have e0:readJ (s.drop s.length) = ([],0):=by rw [List.drop_length]; exact a7i b0o
  rw [e0] at hrd
  refine Xa0 ?_
  have e2:(readJ s).2 = s.length:=by rw [hrd]; rfl
  have e3:(readJ s).1 = xs:=by rw [hrd]; simp
  unfold RdE
  rw [e2,e3]
  exact ⟨_,_,_,_,_,v,rfl,hown,hb2⟩
end
end Go.Proofs
