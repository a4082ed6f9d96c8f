/- Parts of the proof of the seat's statements (TcG2, TcG3, RtG, HRu, RtH, RqG, RqH, RtI, HL11, RtJ, RK6): lemmas about the given translation and plain laws. No condition of their own. -/
import Derived.Test.YtlmhhgemiknhdaaGreatDoorPtoe
import Derived.Test.YtlmhhgemiknhdaaGreatDoorProg
set_option linter.all false
set_option maxRecDepth 100000
namespace Go.Proofs.Cd
open Go Go.Sh Go.RowKit Go.Lib CodeSpec
theorem qfail_ok (b:Nat) (r:Rd) {K:VK} {w:World} (hr:IsQd w b r) (k:∀ w',IsQd w' b failed → w.grownBy w' (some b) → K (.int .i64 0) w'):callM Tryz.prog 212 #[.pointer (some ⟨b,0,none⟩)] K w:=by
 apply sh_212_ok
 unfold sh_212
 have h0:=hr.c0
 have f0:=hr.fz 0
 have hr1:=hr.set0 []
 have f1:=hr1.fz 1
 have h1:=hr1.c1
 refine Xg (An4 @h0 @f0 @h1 @f1) ?_
 exact k _ (hr1.set1 true) (grownBy_trans (grown_set _ _ _ _) (grown_set _ _ _ _))
theorem twl_stop (l:List UInt8) (c:UInt8) (n:Nat) (hn:n ≤ l.length) (h1:∀ j,j < n → l[j]?.getD 0 ≠ c) (h2:n < l.length → l[n]?.getD 0 = c):l.takeWhile (· != c) = l.take n:=by
 induction l generalizing n with
 | nil=>simp at hn; subst hn; rfl
 | cons x l ih=>
  cases n with
  | zero=>
   have:=h2 (by simp)
   simp at this
   simp [this]
  | succ n=>
   have h0:=h1 0 (by omega)
   simp at h0
   have:=ih n (by simpa using hn) (fun j hj=>by have:=h1 (j + 1) (by omega); simpa using this) (fun h=>by have:=h2 (by simpa using h); simpa using this)
   simp [h0,this]
def minI:Int:=-9223372036854775808
theorem rdNumber_zero (r:Rd) (e:UInt8):rdNumber r e 0 = if (rdNumber r e minI).1 < 0 then (0,failed) else rdNumber r e minI:=by
 unfold rdNumber
 split
 ·cases hc:canon ((r.rest.take 21).takeWhile (· != e)) with
  | none=>simp
  | some n=>
   have h:=canon_some _ _ hc
   obtain ⟨h1,h2⟩:=h.2
   simp only
   rw [if_neg (show ¬ n < minI by unfold minI; omega)]
 ·simp
set_option maxHeartbeats 1600000 in
theorem ahead_ok (b:Nat) (r:Rd) (e:UInt8) {K:VK} {w:World} (hlen:r.rest.length < 2^60) (hr:IsQd w b r) (k:∀ w',IsQd w' b (rdNumber r e minI).2 → w.grownBy w' (some b) → K (.int .i64 (rdNumber r e minI).1) w'):callM Tryz.prog 211 #[.pointer (some ⟨b,0,none⟩),.int .u8 e.toNat] K w:=by
 apply sh_211_ok
 unfold sh_211
 have h0:=hr.c0
 have f0:=hr.fz 0
 refine ⟨fun l w'=>w = w' ∧ ∃ (n:Nat),l = [.int .i64 n] ∧ n ≤ r.rest.length ∧ n ≤ 21 ∧ ∀ j,j < n → r.rest[j]?.getD 0 ≠ e,fun l _=>r.rest.length - (match l with | [.int _ n]=>n.toNat | _=>0),⟨rfl,0,rfl,by omega,by omega,fun j hj=>by omega⟩,?_⟩
 rintro _ _ _ ⟨rfl,n,rfl,hn,hn21,hne⟩
 simp only [List.getD_cons_zero]
 obtain ⟨q,hq⟩:∃ q,q = r.rest.take 21:=⟨_,rfl⟩
 have hql:q.length = min 21 r.rest.length:=by rw [hq,List.length_take]
 have hqj:∀ j,j < 21 → q[j]? = r.rest[j]?:=fun j hj=>by rw [hq,List.getElem?_take_of_lt hj]
 have hnum:rdNumber r e minI = if (q.takeWhile (· != e)).length < q.length then (match canon (q.takeWhile (· != e)) with | some n=>if n < minI then (0,failed) else (n,⟨r.rest.drop ((q.takeWhile (· != e)).length + 1),r.bad⟩) | none=>(0,failed)) else (0,failed):=by rw [hq]; rfl
 have fin:∀ w2,Bw w w2 → rdNumber r e minI = (0,failed) → callM Tryz.prog 212 #[.pointer (some ⟨b,0,none⟩)] (fun v w=>K v w) w2:=by
  intro w2 hb2 hn
  refine qfail_ok b _ (hr.below hb2 hr.lt) ?_
  intro w3 hr3 hg3
  have:=k w3 (by rw [hn]; exact hr3) (grownBy_trans (grown_of_below hb2 _) hg3)
  rw [hn] at this
  exact this
 obtain ⟨c,hc⟩:∃ c,c = r.rest[n]?.getD 0:=⟨_,rfl⟩
 have hall:(n = r.rest.length ∨ n = 21) → (q.takeWhile (· != e)) = q:=by
  intro h
  have h1:q.takeWhile (· != e) = q.take q.length:=twl_stop q e q.length (rL) (fun j hj=>by rw [hqj j (by omega)]; exact hne j (by omega)) (fun h=>by omega)
  rw [h1,List.take_length]
 have hpre:n < 21 → n < r.rest.length → c = e → q.takeWhile (· != e) = r.rest.take n:=by
  intro h21 hlt hce
  have h1:q.takeWhile (· != e) = q.take n:=twl_stop q e n (by omega) (fun j hj=>by rw [hqj j (by omega)]; exact hne j hj) (fun h=>by rw [hqj n h21,← hc]; exact hce)
  rw [h1,hq,List.take_take,Nat.min_eq_left (by omega)]
 have hfull:(n = r.rest.length ∨ n = 21) → rdNumber r e minI = (0,failed):=by
  intro h
  rw [hnum,hall h,if_neg (by omega)]
 have hcanon:∀ p:List UInt8,p.length = 21 → canon p = none:=by
  intro p hp
  cases hcp:canon p with
  | none=>rfl
  | some m=>
   obtain ⟨h1,h2⟩:=canon_some _ _ hcp
   have:=itoa_len m h2
   rw [← h1] at this
   omega
 have hlast:∀ v w1,Bw w w1 → n < r.rest.length → c = e → (∀ m,canon (r.rest.take n) = some m → v = m) →
   condM (.bool (!(canon (r.rest.take n)).isSome)) (callM Tryz.prog 212 #[.pointer (some ⟨b,0,none⟩)] (fun v w=>K v w) w1)
    (∀ w2,IsQd w2 b ⟨r.rest.drop (n + 1),r.bad⟩ → w1.grownBy w2 (some b) → K (.int .i64 v) w2):=by
  intro v w1 hb1 hlt hce hv
  have hlen:(r.rest.take n).length = n:=by rw [List.length_take]; omega
  cases hcan:canon (r.rest.take n) with
  | none=>
   refine condM_b (fun _=>?_) (fun h=>by cases h)
   refine fin _ hb1 ?_
   by_cases h21:n < 21
   ·rw [hnum,hpre h21 hlt hce,if_pos (by omega),hcan]
   ·exact hfull (.inr (by omega))
  | some m=>
   refine condM_b (fun h=>by cases h) (fun _=>?_)
   have h21:n < 21:=by
    rcases Nat.lt_or_ge n 21 with h | h
    ·exact h
    ·have:=hcanon (r.rest.take n) (by omega)
     rw [this] at hcan; cases hcan
   have hm:=canon_some _ _ hcan
   obtain ⟨hm1,hm2⟩:=hm.2
   have hv:=hv m hcan
   rw [hpre h21 hlt hce,if_pos (by omega),hcan,hlen] at hnum
   simp only at hnum
   rw [if_neg (show ¬ m < minI by unfold minI; omega)] at hnum
   intro w2 hr2 hg2
   have:=k w2 (by rw [hnum]; exact hr2) (grownBy_trans (grown_of_below hb1 _) hg2)
   rw [hnum] at this
   rw [hv]
   exact this
 have hcn:r.rest[n]?.getD 0 = c:=hc.symm
 clear hc
 by_cases hlt:n < r.rest.length
 ·by_cases hce:c = e
  ·have hce':(c.toNat:Int) = e.toNat:=by rw [hce]
   have rest:∀ (F:VK),(∀ v w1,Bw w w1 → (∀ m,canon (r.rest.take n) = some m → v = m) → F (.tuple #[.int .i64 v,.bool (canon (r.rest.take n)).isSome]) w1) → callM Tryz.prog 227 #[.string ⟨(r.rest.take n).toArray⟩] F w:=
    fun F h=>backInt_ok (r.rest.take n) (by rw [List.length_take]; omega) (fun v w' hb hv=>h v w' hb hv)
   have tail:∀ v w1,Bw w w1 → (∀ m,canon (r.rest.take n) = some m → v = m) → w1.cell? ⟨b,0,none⟩ = some (.string ⟨r.rest.toArray⟩) ∧ w1.frozen? ⟨b,0,none⟩ = false:=by
    intro v w1 hb1 _
    have hr1:=hr.below hb1 hr.lt
    exact ⟨hr1.c0,hr1.fz 0⟩
   by_cases h21:n < 21
   all_goals
    refine Xg (An2 @h0 @hcn) ?_
    refine rest _ (fun v w1 hb1 hv=>?_)
    obtain ⟨h1,f1⟩:=tail v w1 hb1 hv
    have hr1:=hr.below hb1 hr.lt
    have hl:=hlast v w1 hb1 hlt hce hv
    generalize (canon (r.rest.take n)).isSome = t at hl ⊢
    obtain ⟨u,hu,ht,hf⟩:=hl
    cases hu
    cases t with
    | true=>
     refine Xg (An2 @h1 @f1) ?_
     exact hf rfl _ (hr1.set0 _) (grown_set _ _ _ _)
    | false=>
     refine Xc0 ?_
     exact ht rfl
  ·have hce':¬ (c.toNat:Int) = e.toNat:=fun h=>hce (UInt8.toNat_inj.1 (by omega))
   by_cases h21:n < 21
   ·refine Xg (An2 @h0 @hcn) ?_
    refine ⟨⟨rfl,n + 1,rfl,by omega,by omega,fun j hj=>?_⟩,by simp; omega⟩
    by_cases e2:j = n
    ·rw [e2,hcn]; exact hce
    ·exact hne j (by omega)
   ·repeat (any_goals (first
    | (with_reducible refine fin _ (bR) (hfull (.inr (by omega))))
    | (with_reducible first|refine pureM_in ?_|((refine idGd ?_); ((refine idGdD ?_); first|refine zF ?_|refine zG ?_))|((refine idPick ?_); first|refine yD ?_|refine yE ?_)|((refine idCond ?_); first|refine yM ?_|refine yO ?_|refine yQ ?_))
    | ((with_reducible refine oG fun X Y=>?_); simp [go_sem,h0,hcn]; (first|refine Y _ _ ?_|refine And.intro (by omega) (Y _ _ ?_)); clear Y X)))
 ·repeat (any_goals (first
  | (with_reducible refine fin _ (bR) (hfull (.inl (by omega))))
  | (with_reducible first|((refine idGd ?_); first|refine zB ?_|((refine idGdD ?_); refine zG ?_))|((refine idPick ?_); first|refine yC ?_|refine yE ?_)|((refine idCond ?_); first|refine yM ?_|refine yN ?_))
  | ((with_reducible refine oG fun X Y=>?_); simp [go_sem,h0]; apply Y; clear Y X)))
theorem qnumber_ok (b:Nat) (r:Rd) (e:UInt8) {K:VK} {w:World} (hlen:r.rest.length < 2^60) (hr:IsQd w b r) (k:∀ w',IsQd w' b (rdNumber r e 0).2 → w.grownBy w' (some b) → K (.int .i64 (rdNumber r e 0).1) w'):callM Tryz.prog 189 #[.pointer (some ⟨b,0,none⟩),.int .u8 e.toNat] K w:=by
 apply sh_189_ok
 unfold sh_189
 refine ahead_ok b r e hlen hr ?_
 intro w1 hr1 hg1
 rw [rdNumber_zero] at k
 generalize rdNumber r e minI = x at *
 obtain ⟨n,r1⟩:=x
 simp only at *
 by_cases hn:n < 0
 ·rw [if_pos hn] at k
  refine Xc0 ?_
  refine qfail_ok b _ hr1 ?_
  intro w2 hr2 hg2
  exact k w2 hr2 (grownBy_trans hg1 hg2)
 ·rw [if_neg hn] at k
  refine Xc0 ?_
  exact k w1 hr1 hg1
end Go.Proofs.Cd
namespace Go.Proofs.Cd
open Go Go.Sh Go.RowKit Go.Lib CodeSpec
theorem qint_ok (b:Nat) (r:Rd) {K:VK} {w:World} (hlen:r.rest.length < 2^60) (hr:IsQd w b r) (k:∀ w',IsQd w' b (rdInt r).2 → w.grownBy w' (some b) → K (.int .i64 (rdInt r).1) w'):callM Tryz.prog 190 #[.pointer (some ⟨b,0,none⟩)] K w:=by
 apply sh_190_ok
 unfold sh_190
 exact ahead_ok b r 59 hlen hr k
theorem qclose_ok (b:Nat) (r:Rd) (c:UInt8) {K:VK} {w:World} (hlen:r.rest.length < 2^60) (hr:IsQd w b r) (k:∀ w',IsQd w' b (rdClose r c) → w.grownBy w' (some b) → K (.bool (decide (r.rest.head? = some c))) w'):callM Tryz.prog 191 #[.pointer (some ⟨b,0,none⟩),.int .u8 c.toNat] K w:=by
 apply sh_191_ok
 unfold sh_191
 have h0:=hr.c0
 have f0:=hr.fz 0
 cases hrest:r.rest with
 | nil=>
  rw [hrest] at h0 k hlen
  refine Xg @h0 ?_
  refine qfail_ok b r hr ?_
  intro w1 hr1 hg1
  have e:rdClose r c = failed:=by unfold rdClose; rw [hrest]
  exact K_eq (k w1 (by rw [e]; exact hr1) hg1) (by simp)
 | cons x t=>
  rw [hrest] at h0 k hlen
  simp only [List.length_cons] at hlen
  have hx:(x :: t)[0]?.getD 0 = x:=rfl
  have htl:List.take t.length t = t:=List.take_length
  by_cases hc:x = c
  ·have hc':(x.toNat:Int) = c.toNat:=by rw [hc]
   refine Xg (An4 @h0 @f0 @hx @htl) ?_
   have e:rdClose r c = ⟨t,r.bad⟩:=by unfold rdClose; rw [hrest]; simp [hc]
   exact K_eq (k _ (by rw [e]; exact hr.set0 t) (grown_set _ _ _ _)) (by simp [hc])
  ·have hc':¬ (x.toNat:Int) = c.toNat:=fun h=>hc (UInt8.toNat_inj.1 (by omega))
   refine Xg (An4 @h0 @f0 @hx @htl) ?_
   refine qfail_ok b r hr ?_
   intro w1 hr1 hg1
   have e:rdClose r c = failed:=by unfold rdClose; rw [hrest]; simp [hc]
   exact K_eq (k w1 (by rw [e]; exact hr1) hg1) (by simp [hc])
theorem rdClose_eq (r:Rd) (c:UInt8):rdClose r c = if r.rest.head? = some c then ⟨r.rest.drop 1,r.bad⟩ else failed:=by
 unfold rdClose
 cases r.rest with
 | nil=>simp
 | cons x t=>simp
theorem qopen_ok (s:List UInt8) {K:VK} {w:World} (k:∀ w',IsQd w' w.heap.size ⟨s,false⟩ → Bw w w' → K (.pointer (some ⟨w.heap.size,0,none⟩)) w'):callM Tryz.prog 148 #[.string ⟨s.toArray⟩] K w:=by
 apply sh_148_ok
 unfold sh_148
 refine Xc0 ?_
 exact k _ (by unfold IsQd; exact heap_alloc_new _ _) ((bR).alloc (rL) _)
theorem qdone_ok (b:Nat) (r:Rd) {K:VK} {w:World} (hr:IsQd w b r) (k:K (.bool (rdDone r)) w):callM Tryz.prog 150 #[.pointer (some ⟨b,0,none⟩)] K w:=by
 apply sh_150_ok
 unfold sh_150
 have h0:=hr.c0
 have h1:=hr.c1
 repeat (any_goals (first
 | (with_reducible first|refine pureM_in ?_|((refine idGd ?_); first|refine zV ?_|refine zW ?_|refine zX (fun hg=>?_) fun hg=>?_)|((refine idPick ?_); first|refine yJ ?_|refine yK ?_))
 | ((with_reducible refine oG fun X Y=>?_); simp [go_sem,h0,h1]; apply Y; clear Y X)))
 ·exact K_eq k (by unfold rdDone; rw [hg]; simp)
 ·exact K_eq k (by unfold rdDone; rw [hg]; simp)
theorem IsQd.own {w2 w3:World} {b B:Nat} {e:TypeId} {sz n:Nat} {v:Value} {xs:List Value} {r:Rd} (h:IsQd w2 b r) (hown:w2.ownsRow B e sz v n xs) (hB:b < B) (hg:w2.grownBy w3 v.ownBlock):IsQd w3 b r:=by
 have hlt:=h.lt
 unfold IsQd at h ⊢
 rw [hg.block b hlt (fun e=>by have:=(hown.lt b e.symm).1; omega)]
 exact h
set_option maxHeartbeats 1600000 in
theorem qNums_ok2 (b:Nat) (r:Rd) {K:VK} {w:World} (hlen:r.rest.length < 2^40) (hok:r.ok) (hr:IsQd w b r)
  (k:∀ v w',IsQd w' b (rdNums r).2 → w.grownBy w' (some b) → w'.ownsRow w.heap.size 3 1 v (rdNums r).1.length ((rdNums r).1.map intV) → K v w'):callM Tryz.prog 149 #[.pointer (some ⟨b,0,none⟩)] K w:=by
 apply sh_149_ok
 unfold sh_149
 refine qnumber_ok b r 91 (by omega) hr ?_
 intro w1 hr1 hg1
 have hle:=rest_le r 91 0
 have hok1:=rdNumber_ok r hok 91 0
 have hnum:rdNums r = if (rdClose (itemsGo rdInt (rdNumber r 91 0).1.toNat (rdNumber r 91 0).2).2 93).bad then ([],rdClose (itemsGo rdInt (rdNumber r 91 0).1.toNat (rdNumber r 91 0).2).2 93)
  else ((itemsGo rdInt (rdNumber r 91 0).1.toNat (rdNumber r 91 0).2).1,rdClose (itemsGo rdInt (rdNumber r 91 0).1.toNat (rdNumber r 91 0).2).2 93):=rfl
 have hnr:InR (rdNumber r 91 0).1:=by
  rcases rdNumber_some r 91 0 with h | ⟨n,t,h,_,h3,_⟩
  ·rw [h]; exact ⟨by simp,by simp⟩
  ·rw [h]; exact h3
 generalize (rdNumber r 91 0).2 = r1 at *
 generalize (rdNumber r 91 0).1 = n at *
 have hbw:=hr.lt
 obtain ⟨hn1,hn2⟩:=hnr
 refine ⟨fun l w'=>∃ (v:Value) (j:Int) (r':Rd) (xs:List (Int)),l = [v,.int .i64 j] ∧ 0 ≤ j ∧ (j ≤ n ∨ j = 0) ∧ IsQd w' b r' ∧ r'.ok ∧ w.grownBy w' (some b) ∧ w'.ownsRow w.heap.size 3 1 v xs.length (xs.map intV) ∧
  itemsGo rdInt n.toNat r1 = (xs ++ (itemsGo rdInt (n - j).toNat r').1,(itemsGo rdInt (n - j).toNat r').2) ∧ (xs.length + r'.rest.length ≤ r1.rest.length + 1) ∧ (r'.bad = false → xs.length + r'.rest.length ≤ r1.rest.length),fun l _=>(match l with | [_,.int _ j]=>(n - j).toNat | _=>0),
  ⟨_,0,r1,[],rfl,by omega,.inr rfl,hr1,hok1,hg1,World.ownsRow_nil _ _ _ _,by simp,(by simp only [List.length_nil]; omega),by simp⟩,?_⟩
 rintro _ _ w2 ⟨v,j,r',xs,rfl,hj1,hj2,hr2,hok2,hg2,hown,hgo,hlx,hlx2⟩
 simp only [List.getD_cons_zero,List.getD_cons_succ]
 have h2:=hr2.c1
 by_cases hrun:j < n ∧ r'.bad = false
 ·obtain ⟨hj,hbad⟩:=hrun
  rw [hbad] at h2
  have hlx2:=hlx2 hbad
  refine Xg @h2 ?_
  refine qint_ok b r' (by omega) hr2 ?_
  intro w3 hr3 hg3
  have hown3:=owns_rd hown hbw hg3
  have hg03:=grownBy_trans hg2 hg3
  have hz3:=hg03.size
  have hless:=rdNum_less r' hok2 hbad
  obtain ⟨j',hj'⟩:∃ j':Nat,(n - j).toNat = j' + 1:=⟨(n - j).toNat - 1,by omega⟩
  have hjj:(n - (j + 1)).toNat = j':=by omega
  rw [hj',itemsGo_step _ _ _ hbad] at hgo
  have hok3:(rdInt r').2.ok:=by
   rcases hless with h | ⟨_,h⟩
   ·rw [h]; exact Rd.ok_failed
   ·intro e; rw [h] at e; cases e
  have hby:(xs.length + 1) * Tryz.t3.bytes ≤ 140737488355328:=by
   have:Tryz.t3.bytes = 8:=by kernel_rfl
   rw [this]
   omega
  refine Xc0 ?_
  refine oM_append_new (base:=w.heap.size) (n:=xs.length) (xs:=xs.map intV) (i:=Tryz.t3) (z:=.int .i64 0) (cs:=#[intV (rdInt r').1]) Tryz.underlying24 (by kernel_rfl) (by kernel_rfl) rfl rfl (by simp) (by simp [Value.oneCell',intV]) hown3 (by omega) (by unfold maxLen; omega) hby ?_
  intro v' w4 ho4 hg4
  refine Xc0 ?_
  refine ⟨⟨v',j + 1,(rdInt r').2,xs ++ [(rdInt r').1],rfl,by omega,.inl (by omega),hr3.own hown3 hbw hg4,hok3,grown_own hg03 hown3 (rL) hg4,by simpa using ho4,?_,?_,?_⟩,by simp; omega⟩
  ·rw [hjj,hgo]; simp
  ·rcases hless with h | ⟨h,_⟩
   ·rw [h,List.length_append]; simp [failed]; omega
   ·rw [List.length_append]; simp; omega
  ·intro hb
   rcases hless with h | ⟨h,_⟩
   ·rw [h] at hb; cases hb
   ·rw [List.length_append]; simp; omega
 ·have hstop:=itemsGo_stop rdInt (n - j).toNat r' (by
   cases hb:r'.bad with
   | true=>right; rfl
   | false=>left; have:¬ j < n:=fun h=>hrun ⟨h,hb⟩; omega)
  rw [hstop,List.append_nil] at hgo
  rw [hgo] at hnum
  cases hbad:r'.bad with
  | true=>
   have hf:=Rd.eq_failed hok2 hbad
   rw [hbad] at h2
   rw [hf,rdClose_failed,if_pos failed_bad] at hnum
   rw [hf] at hr2
   have hdone:=k (.slice none 0 0) w2 (by rw [hnum]; exact hr2) hg2 (by rw [hnum]; exact World.ownsRow_nil _ _ _ _)
   by_cases hj:j < n
   ·refine Xg @h2 ?_
    exact hdone
   ·refine Xg @h2 ?_
    exact hdone
  | false=>
   have hj:¬ j < n:=fun h=>hrun ⟨h,hbad⟩
   rw [hbad] at h2
   refine Xg @h2 ?_
   refine qclose_ok b r' 93 (by omega) hr2 ?_
   intro w3 hr3 hg3
   have hg03:=grownBy_trans hg2 hg3
   have hce:=rdClose_eq r' 93
   by_cases hh:r'.rest.head? = some 93
   ·rw [if_pos hh] at hce
    rw [hce] at hnum hr3
    simp only [hbad] at hnum
    rw [if_neg (by simp)] at hnum
    simp only [hh,decide_true]
    refine Xc0 ?_
    exact k _ w3 (by rw [hnum]; rw [hbad] at hr3; exact hr3) hg03 (by rw [hnum]; exact owns_rd hown hbw hg3)
   ·rw [if_neg hh] at hce
    rw [hce] at hnum hr3
    rw [if_pos failed_bad] at hnum
    simp only [hh,decide_false]
    refine Xc0 ?_
    exact k _ w3 (by rw [hnum]; exact hr3) hg03 (by rw [hnum]; exact World.ownsRow_nil _ _ _ _)
end Go.Proofs.Cd
namespace Go.Proofs
open Go Go.Sh Go.RowKit FdSpec TkSpec CodeSpec PrSpec
section
variable {K:VK} {w w' w0 W:World} {lv:Value} {M:List Int}
structure Inq (lv:Value) (M:List Int) (B b:Nat) (W w:World) (r:Rw) (dv av:Value) (ds:List Int) (al:L2) (D:Nat → Prop):Prop where
 fr:Fr (fun i=>i = b) W w
 rw:IsRq lv M B w b r
 B:B ≤ W.heap.size
 d:OwnI w W.heap.size dv ds
 a:ListG W.heap.size D w av al
 od:Off D w dv
 oa:Off D w av
 ap:apart dv av
 low:∀ i,D i → W.heap.size ≤ i
 rng:∀ x ∈ ds,I64 x
section
variable {B b:Nat} {r r':Rw} {dv av:Value} {ds:List Int} {al:L2} {D:Nat → Prop}
theorem Inq.start (hr:IsRq lv M B W b r) (hB:B ≤ W.heap.size):Inq lv M B b W W r (.slice none 0 0) (.slice none 0 0) [] [] (fun _=>False):=
 ⟨Fr.refl _ _,hr,hB,own_none,.nil,fun i h=>h.elim,fun i h=>h.elim,(fun i h=>by cases h),fun i h=>h.elim,by simp⟩
theorem Inq.fr' (h:Inq lv M B b W w r dv av ds al D) (hf:Fr (fun i=>i = b) w w') (hr:IsRq lv M B w' b r'):Inq lv M B b W w' r' dv av ds al D:=by
 have hb:=h.rw.lt
 have hWB:=h.B
 exact ⟨h.fr.trans hf (fun _ e=>.inl e),hr,h.B,
  owns_keep h.d (fun i hi=>hf.block i (owns_own h.d hi).1 (fun e=>by have:=(owns_own h.d hi).2.1; omega)),
  h.a.keep hf (fun i hi=>⟨(h.od i hi).1,fun e=>by have:=h.low i hi; omega⟩) (fun i hi e=>by have:=(h.a.own hi).2; omega),
  h.od.next hf.size,h.oa.next hf.size,h.ap,h.low,h.rng⟩
theorem Inq.read (h:Inq lv M B b W w r dv av ds al D) (hg:w.grownBy w' (some b)) (hr:IsRq lv M B w' b r'):Inq lv M B b W w' r' dv av ds al D:=h.fr' (Fr.of_by hg) hr
theorem Inq.next (h:Inq lv M B b W w r dv av ds al D) (hb:Bw w w'):Inq lv M B b W w' r dv av ds al D:=
 ⟨h.fr.trans (S':=fun _=>False) (Fr.of_below hb) (fun _ h=>h.elim),h.rw.keep (hb.mono (Nat.le_trans h.B h.fr.size)),h.B,h.d.keep hb,h.a.next hb (fun i hi=>(h.od i hi).1),h.od.next hb.size,h.oa.next hb.size,h.ap,h.low,h.rng⟩
theorem Inq.rwBy (h:Inq lv M B b W w r dv av ds al D) {o:Option Nat} (hg:w.grownBy w' o) (ho:∀ i,o = some i → W.heap.size ≤ i):IsRq lv M B w' b r:=
 h.rw.keep ⟨hg.os,hg.tape,hg.output,hg.size,fun i hi=>hg.block i (by have:=h.B; have:=h.fr.size; omega) (fun e=>by have h1:=ho i e.symm; have:=h.B; omega)⟩
theorem Inq.addD {T:TypeId} {xv:Value} {x:Int} (h:Inq lv M B b W w r dv av ds al D) (hx:Ints w xv [x]) (hl:ds.length < 1099511627776)
  (k:∀ v w',Inq lv M B b W w' r v av (ds ++ [x]) al D → K v w'):oM Tryz.prog (.call { callee:=.builtin .append,args:=#[.tmp 0,.tmp 1],argTypes:=#[24,24] }) T [dv,xv] K w:=by
 have hown:=fun i (hi:dv.ownBlock = some i)=>(owns_own h.d hi)
 refine append1g h.d h.fr.size hx hl (fun v w' ho hg hv=>k v w' ⟨h.fr.by hg (fun i e=>.inr (hown i e).2.1),h.rwBy hg (fun i e=>(hown i e).2.1),h.B,ho,h.a.keep (Fr.of_by' hg) (fun i hi=>⟨(h.od i hi).1,(h.od i hi).2⟩) (fun i hi e=>h.ap i e hi),?_,h.oa.next hg.size,?_,h.low,?_⟩)
 ·intro i hi
  refine ⟨lL (h.od i hi).1 hg.size,fun e=>?_⟩
  rcases hv i e with h1 | h1
  ·exact (h.od i hi).2 h1
  ·have:=(h.od i hi).1; omega
 ·intro i e1 e2
  rcases hv i e1 with h1 | h1
  ·exact h.ap i h1 e2
  ·have:=(h.a.own e2).1; omega
 ·intro y hy
  rcases List.mem_append.1 hy with hy | hy
  ·exact h.rng y hy
  ·exact hx.rng y hy
theorem Inq.addA {T:TypeId} {g n c gb:Nat} {ad:Option Addr} {x:List Int} {E:Nat → Prop} (h:Inq lv M B b W w r dv av ds al D) (hh:Holds w gb 24 [.slice ad n c]) (hx:FP E w (fun w=>Ints w (.slice ad n c) x)) (hE:∀ i,E i → W.heap.size ≤ i ∧ i < w.heap.size ∧ dv.ownBlock ≠ some i ∧ av.ownBlock ≠ some i) (hl:al.length < 1099511627776)
  (k:∀ v w',Inq lv M B b W w' r dv v ds (al ++ [x]) (fun i=>D i ∨ E i) → K v w'):oM Tryz.prog (.call { callee:=.builtin .append,args:=#[.tmp 0,.tmp 1],argTypes:=#[30,30] }) T [av,.slice (some ⟨gb,0,none⟩) 1 g] K w:=by
 have hD':Off (fun i=>D i ∨ E i) w av:=fun i hi=>hi.elim (h.oa i) (fun hi=>⟨(hE i hi).2.1,(hE i hi).2.2.2⟩)
 have hD2:Off (fun i=>D i ∨ E i) w dv:=fun i hi=>hi.elim (h.od i) (fun hi=>⟨(hE i hi).2.1,(hE i hi).2.2.1⟩)
 refine ints_append (h.a.mono fun i hi=>.inl hi) h.fr.size hh (hx.mono fun i hi=>.inr hi) hD' hl (fun v w' hg hb hv ho=>k v w' ⟨h.fr.by hb (fun i e=>.inr (h.a.own e).2),h.rwBy hb (fun i e=>(h.a.own e).2),h.B,owns_keep h.d (fun i hi=>hb.block i (owns_own h.d hi).1 (fun e=>h.ap i hi (by first | exact e | exact e.symm))),hg,hD2.next hb.size,ho,?_,?_,h.rng⟩)
 ·intro i e1 e2
  rcases hv i e2 with h1 | h1
  ·exact h.ap i e1 h1
  ·have:=(owns_own h.d e1).1; omega
 ·rintro i (hi | hi)
  ·exact h.low i hi
  ·exact (hE i hi).1
end
end
end Go.Proofs
namespace Go.Proofs
open Go Go.Sh Tryz
def loop_81_38 (J_24 J_38:List Value → World → Prop) (l_26 l_40:List Value) (m_25 m_39:List Value → World → Nat) (v21 v59 v61:Value) (w0_l_26 w0_l_40:World):Prop:=
(fun w=>(
 kB .lss 3 4 (l_40.getD 1 undef) v61 (fun v64 w=>
 condM v64
 (callM prog 152 #[v21] (fun v69 w=>
 oM prog (.buildSlice 24 1 #[(0,(.tmp 0))]) 24 [v69] (fun v70 w=>
 oM prog (.call (Go.Call.mk (.builtin .append) #[(.tmp 0),(.tmp 1)] #[24,24])) 24 [(l_40.getD 0 undef),v70] (fun v71 w=>
 kB .add 3 3 (l_40.getD 1 undef) (.int .i64 1) (fun v66 w=>
 J_38 [v71,v66] w ∧ m_39 [v71,v66] w < m_39 l_40 w0_l_40) w) w) w) w)
 (oM prog (.buildSlice 30 1 #[(0,(.tmp 0))]) 30 [(l_40.getD 0 undef)] (fun v74 w=>
 oM prog (.call (Go.Call.mk (.builtin .append) #[(.tmp 0),(.tmp 1)] #[30,30])) 30 [(l_26.getD 4 undef),v74] (fun v75 w=>
 kB .add 3 3 (l_26.getD 5 undef) (.int .i64 1) (fun v54 w=>
 J_24 [v59,v61,(l_40.getD 0 undef),(l_40.getD 1 undef),v75,v54] w ∧ m_25 [v59,v61,(l_40.getD 0 undef),(l_40.getD 1 undef),v75,v54] w < m_25 l_26 w0_l_26) w) w) w)) w)) w0_l_40
def loop_81_24 (J_13 J_24:List Value → World → Prop) (l_15 l_26:List Value) (m_14 m_25:List Value → World → Nat) (v21 v42 v6:Value) (w0_l_15 w0_l_26:World):Prop:=
(fun w=>(
 kB .lss 3 4 (l_26.getD 5 undef) v42 (fun v45 w=>
 gT v45 (pureM v21) (fun v47 w=>
 gT v45 (oM prog (.nilCheck (.tmp 0)) 0 [v47]) (fun v48 w=>
 gT v45 (kF 169 2 v48) (fun v49 w=>
 gT v45 (kL 4 v49) (fun v50 w=>
 gT v45 (kU v50) (fun v51 w=>
 kP v45 v51 (.bool false) (fun v52 w=>
 condM v52
 (callM prog 152 #[v21] (fun v57 w=>
 oM prog (.buildSlice 24 1 #[(0,(.tmp 0))]) 24 [v57] (fun v58 w=>
 oM prog (.call (Go.Call.mk (.builtin .append) #[(.tmp 0),(.tmp 1)] #[24,24])) 24 [(l_26.getD 0 undef),v58] (fun v59 w=>
 callM prog 151 #[v21] (fun v61 w=>
 loopM [(.slice none 0 0),(.int .i64 0)] w (fun J_38 m_39 l_40 u_l_40 w0_l_40=>loop_81_38 J_24 J_38 l_26 l_40 m_25 m_39 v21 v59 v61 w0_l_26 w0_l_40)) w) w) w) w)
 (kF 34 0 v6 (fun v76 w=>
 kL 30 v76 (fun v77 w=>
 oM prog (.buildSlice 30 1 #[(0,(.tmp 0))]) 30 [(l_26.getD 0 undef)] (fun v79 w=>
 oM prog (.call (Go.Call.mk (.builtin .append) #[(.tmp 0),(.tmp 1)] #[30,30])) 30 [v77,v79] (fun v80 w=>
 kF 34 0 v6 (fun v81 w=>
 kS 30 v81 v80 (fun _ w=>
 kF 34 1 v6 (fun v82 w=>
 kL 29 v82 (fun v83 w=>
 oM prog (.buildSlice 29 1 #[(0,(.tmp 0))]) 29 [(l_26.getD 4 undef)] (fun v85 w=>
 oM prog (.call (Go.Call.mk (.builtin .append) #[(.tmp 0),(.tmp 1)] #[29,29])) 29 [v83,v85] (fun v86 w=>
 kF 34 1 v6 (fun v87 w=>
 kS 29 v87 v86 (fun _ w=>
 kB .add 3 3 (l_15.getD 7 undef) (.int .i64 1) (fun v40 w=>
 J_13 [v42,(l_26.getD 0 undef),(l_26.getD 4 undef),(l_26.getD 5 undef),(l_26.getD 1 undef),(l_26.getD 2 undef),(l_26.getD 3 undef),v40] w ∧ m_14 [v42,(l_26.getD 0 undef),(l_26.getD 4 undef),(l_26.getD 5 undef),(l_26.getD 1 undef),(l_26.getD 2 undef),(l_26.getD 3 undef),v40] w < m_14 l_15 w0_l_15) w) w) w) w) w) w) w) w) w) w) w) w) w)) w) w) w) w) w) w) w)) w0_l_26
def held_81_60 (K:VK) (v21 v2 v6:Value) (w:World):Prop:=
 heldM w (fun C_60 w=>(((true:Bool) = true) ∧ (pureH v21 C_60 (fun v88=>
 oH prog (.nilCheck (.tmp 0)) 0 [v88] C_60 (fun v89=>
 jF 169 2 v89 C_60 (fun v90=>
 jL 4 v90 C_60 (fun v91=>
 pureH v91 C_60 (fun v92=>
 jG v92 (pureH v21) C_60 (fun v93=>
 jG v92 (oH prog (.nilCheck (.tmp 0)) 0 [v93]) C_60 (fun v94=>
 jG v92 (jF 169 1 v94) C_60 (fun v95=>
 jG v92 (jL 3 v95) C_60 (fun v96=>
 jG v92 (pureH v21) C_60 (fun v97=>
 jG v92 (oH prog (.nilCheck (.tmp 0)) 0 [v97]) C_60 (fun v98=>
 jG v92 (jF 169 0 v98) C_60 (fun v99=>
 jG v92 (jL 24 v99) C_60 (fun v100=>
 jG v92 (jN 24 v100) C_60 (fun v101=>
 jG v92 (jB .neq 3 4 v96 v101) C_60 (fun v102=>
 jP v92 (.bool true) v102 C_60 (fun v103=>
 ∃ S_77:World → WK,∀ w,C_60 w → (
 condM v103
 (oM prog (.build 34 #[]) 34 [] (fun v104 w=>
 kS 34 v2 v104 (fun _ w=>
 ∃ r_79,(do loadVar 34 (← asAddr v2):Sem Value).run prog w = .ok r_79 w ∧ K (.tuple #[r_79,(.bool false)]) w) w) w)
 (kL 34 v6 (fun v105 w=>
 kS 34 v2 v105 (fun _ w=>
 ∃ r_81,(do loadVar 34 (← asAddr v2):Sem Value).run prog w = .ok r_81 w ∧ K (.tuple #[r_81,(.bool true)]) w) w) w)))))))))))))))))))))
def loop_81_13 (J_13:List Value → World → Prop) (K:VK) (l_15:List Value) (m_14:List Value → World → Nat) (v21 v28 v2 v6:Value) (w0_l_15:World):Prop:=
(fun w=>(
 kB .lss 3 4 (l_15.getD 7 undef) v28 (fun v31 w=>
 gT v31 (pureM v21) (fun v33 w=>
 gT v31 (oM prog (.nilCheck (.tmp 0)) 0 [v33]) (fun v34 w=>
 gT v31 (kF 169 2 v34) (fun v35 w=>
 gT v31 (kL 4 v35) (fun v36 w=>
 gT v31 (kU v36) (fun v37 w=>
 kP v31 v37 (.bool false) (fun v38 w=>
 condM v38
 (callM prog 151 #[v21] (fun v42 w=>
 loopM [(.slice none 0 0),(l_15.getD 4 undef),(l_15.getD 5 undef),(l_15.getD 6 undef),(.slice none 0 0),(.int .i64 0)] w (fun J_24 m_25 l_26 u_l_26 w0_l_26=>loop_81_24 J_13 J_24 l_15 l_26 m_14 m_25 v21 v42 v6 w0_l_15 w0_l_26)) w)
 (held_81_60 K v21 v2 v6 w)) w) w) w) w) w) w) w)) w0_l_15
def sh_81 (a0:Value) (K:VK) (w:World):Prop:=
 kA 34 (fun v2 w=>
 callM prog 148 #[a0] (fun v17 w=>
 callM prog 149 #[v17] (fun v19 w=>
 oM prog (.build 169 #[(0,(.tmp 0))]) 169 [v19] (fun v20 w=>
 oM prog (.box 169 (.tmp 0)) 167 [v20] (fun v21 w=>
 callM prog 150 #[v17] (fun v23 w=>
 kU v23 (fun v24 w=>
 condM v24
 (oM prog (.build 34 #[]) 34 [] (fun v25 w=>
 kS 34 v2 v25 (fun _ w=>
 ∃ r_9,(do loadVar 34 (← asAddr v2):Sem Value).run prog w = .ok r_9 w ∧ K (.tuple #[r_9,(.bool false)]) w) w) w)
 (oM prog (.build 34 #[]) 34 [] (fun v26 w=>
 kA 34 (fun v6 w=>
 kS 34 v6 v26 (fun _ w=>
 callM prog 151 #[v21] (fun v28 w=>
 loopM [undef,undef,undef,undef,undef,undef,undef,(.int .i64 0)] w (fun J_13 m_14 l_15 u_l_15 w0_l_15=>loop_81_13 J_13 K l_15 m_14 v21 v28 v2 v6 w0_l_15)) w) w) w) w)) w) w) w) w) w) w) w
theorem sh_81_ok {a0:Value} {K:VK} {w:World} (h:sh_81 a0 K w):callM prog 81 #[a0] K w:=
 calls_of_code (fun _=>.free [0,1,2,3,4,5,6,7,8,9,10,11,12,13,14,15] [] []) (fn:=Tryz.f81) (rs:=[.cell 2 34,.tmp 3]) Tryz.func81 rfl rfl (by kernel_rfl) (nB rfl) (Eq.mp (by kernel_rfl) h)
end Go.Proofs
namespace Go.Proofs
open Go Go.Sh Go.RowKit FdSpec TkSpec CodeSpec PrSpec
section
variable {K:VK} {w w' w0 W:World} {lv:Value} {M:List Int}
theorem build_rowQ (T:TypeId) (ad:Option Addr) (n c:Nat):oM Tryz.prog (Go.Op.build 169 #[(0,(.tmp 0))]) T [.slice ad n c] = pureM (.agg #[.slice ad n c,.int .i64 0,.bool false]):=by
 funext K w
 kernel_rfl
theorem sz_ll (w:World):(sizeOf 30).run Tryz.prog w = .ok 1 w:=by kernel_rfl
theorem sz_lll (w:World):(sizeOf 29).run Tryz.prog w = .ok 1 w:=by kernel_rfl
theorem Holds.trans' {b:Nat} {T:TypeId} {l:List Value} {o:Option Nat} (h:Holds w b T l) (hg:w.grownBy w' o) (hne:¬ o = some b):Holds w' b T l:=(hg.block b h.lt (fun e=>hne (by first | exact e | exact e.symm))).trans h
theorem IsRq.left_le {B b:Nat} {r:Rw} (h:IsRq lv M B w b r):r.left.length ≤ M.length:=by
 obtain ⟨p,_,_,e⟩:=h.cells
 rw [e,List.length_drop]; omega
def OqJ (lv:Value) (M:List Int) (B3 b15 b6 n:Nat) (W:World) (R:(L2 × L3) × Rw) (vs:List Value) (w':World):Prop:=∃ (u0 u1 u2 u3 u4 u5 u6 dv av:Value) (i:Nat) (r:Rw) (ds:L2) (al:L3) (D:Nat → Prop),vs = [u0,u1,u2,u3,u4,u5,u6,.int .i64 (i:Int)] ∧ i ≤ n ∧ Fr (fun j=>j = b15 ∨ j = b6) W w' ∧ IsRq lv M B3 w' b15 r ∧ Holds w' b6 34 [dv,av] ∧
 ListG W.heap.size D w' dv ds ∧ NumG W.heap.size D w' av al ∧ Off D w' dv ∧ Off D w' av ∧ apart dv av ∧ (∀ j,D j → W.heap.size ≤ j) ∧ ds.length = i ∧ al.length = i ∧
 ((r.bad = false ∧ R = ((ds ++ (clausesR (n - i) r).1.1,al ++ (clausesR (n - i) r).1.2),(clausesR (n - i) r).2)) ∨ (r.bad = true ∧ R.2.bad = true))
def oqMu (n:Nat) (vs:List Value) (_:World):Nat:=match vs with | [_,_,_,_,_,_,_,.int _ i]=>n - i.toNat | _=>0
theorem oqMu_eq (n:Nat) (a b c d e f g:Value) (q:IntKind) (i:Int) (w:World):oqMu n [a,b,c,d,e,f,g,.int q i] w = n - i.toNat:=rfl
def IqJ (lv:Value) (M:List Int) (B b:Nat) (W:World) (n:Nat) (R:(List Int × L2) × Rw) (vs:List Value) (w':World):Prop:=∃ (dv u1 u2 u3 av:Value) (k:Nat) (r:Rw) (ds:List Int) (al:L2) (D:Nat → Prop),vs = [dv,u1,u2,u3,av,.int .i64 (k:Int)] ∧ k ≤ n ∧ Inq lv M B b W w' r dv av ds al D ∧ ds.length = k ∧ al.length = k ∧
 ((r.bad = false ∧ R = ((ds ++ (itemsR (n - k) r).1.1,al ++ (itemsR (n - k) r).1.2),(itemsR (n - k) r).2)) ∨ (r.bad = true ∧ R.2.bad = true))
def iqMu (n:Nat) (vs:List Value) (_:World):Nat:=match vs with | [_,_,_,_,_,.int _ i]=>n - i.toNat | _=>0
theorem iqMu_eq (n:Nat) (a b c d e:Value) (q:IntKind) (i:Int) (w:World):iqMu n [a,b,c,d,e,.int q i] w = n - i.toNat:=rfl
def VqJ (lv:Value) (M:List Int) (B b:Nat) (W:World) (r:Rw) (n:Nat) (vs:List Value) (w':World):Prop:=∃ (xv:Value) (j:Nat),vs = [xv,.int .i64 (j:Int)] ∧ j ≤ n ∧ Fr (fun i=>i = b) W w' ∧ IsRq lv M B w' b ⟨r.left.drop j,r.bad⟩ ∧ OwnI w' W.heap.size xv (r.left.take j)
theorem vals_ok {B b n j:Nat} {r:Rw} {xv:Value} {Kx:VK} (hB:B ≤ W.heap.size) (hb:r.bad = false) (hnl:n ≤ r.left.length) (hN:r.left.length ≤ 1000000000) (hj:j < n) (hf:Fr (fun i=>i = b) W w) (hr:IsRq lv M B w b ⟨r.left.drop j,r.bad⟩) (ho:OwnI w W.heap.size xv (r.left.take j))
  (k:∀ xv' w',VqJ lv M B b W r n [xv',.int .i64 ((j + 1:Nat):Int)] w' → Kx xv' w') :
  callM Tryz.prog 152 #[.pointer (some ⟨b,0,none⟩)] (fun v69_42 w=>oM Tryz.prog (Go.Op.buildSlice 24 1 #[(0,(.tmp 0))]) 24 [v69_42] (fun v70_43 w=>oM Tryz.prog (Go.Op.call (Go.Call.mk (Go.Callee.builtin Go.Builtin.append) #[(.tmp 0),(.tmp 1)] #[24,24])) 24 [xv,v70_43] Kx w) w) w:=by
 have hjl:j < r.left.length:=by omega
 refine rone_ok hr (Nat.le_trans hB hf.size) (fun w1 hr1 hg1 hx=>?_)
 have e:nextQ ⟨r.left.drop j,r.bad⟩ = (r.left[j],⟨r.left.drop (j + 1),r.bad⟩):=by
  rw [nextQ_good (r:=⟨r.left.drop j,r.bad⟩) hb]
  unfold nextR
  simp only [List.drop_eq_getElem_cons hjl]
 rw [e] at hr1 hx ⊢
 have hf1:=hf.by hg1 (fun i e=>.inl (oI e).symm)
 have hbB:=hr.lt
 have ho1:OwnI w1 W.heap.size xv (r.left.take j):=owns_keep ho (fun i hi=>hg1.block i (owns_own ho hi).1 (fun e=>by have:=(owns_own ho hi).2.1; have:=oI e; omega))
 refine mk1g _ hx (fun v2 w2 h2 hi2 _=>?_)
 have hr2:=hr1.keep (h2.mono (Nat.le_trans hB hf1.size))
 have hlen:(r.left.take j).length < 1099511627776:=by rw [List.length_take]; omega
 refine append1g (ho1.keep h2) (Nat.le_trans hf1.size h2.size) hi2 hlen (fun v3 w3 ho3 hg3 hv3=>?_)
 rw [take_snoc' (gE hjl)] at ho3
 have hf2:=(hf1.trans (S':=fun _=>False) (Fr.of_below h2) (fun _ h=>h.elim)).by hg3 (fun i e=>.inr (owns_own (ho1.keep h2) e).2.1)
 refine k v3 w3 ⟨v3,j + 1,rfl,by omega,hf2,hr2.keep ⟨hg3.os,hg3.tape,hg3.output,hg3.size,fun i hi=>hg3.block i (by have:=hf1.size; have:=h2.size; omega) (fun e=>by have h1:=(owns_own (ho1.keep h2) e.symm).2.1; omega)⟩,ho3⟩
theorem rDecode_ok (s:Bytes) (hs:s.length < 1000000000) (k:∀ w' dv av,Bw w w' → ListsR w' dv (decodeM s).1.1 → NumsR w' av (decodeM s).1.2 → K (.tuple #[prfV dv av,.bool (decodeM s).2]) w'):callM Tryz.prog 81 #[.string ⟨s.toArray⟩] K w:=by
 apply sh_81_ok
 unfold sh_81
 refine alloc_mine (n:=2) al_prf rfl (.start w) fun g W2 hk hb2 hg=>?_
 have hgW:=mine_lt hk.mine
 refine Cd.qopen_ok s (fun w1 hr1 hb1=>?_)
 have hk1:=hk.next hb1
 refine Cd.qNums_ok2 W2.heap.size _ (by show s.length < _; omega) Rd.ok_good hr1 (fun v w2 hr2 hg2 ho2=>?_)
 have hfr:FrG W2.heap.size w1 w2:=(Fr.refl _ _).by hg2 (fun i e=>.inl (oI e).symm)
 have hk2:=hk1.fr hfr (by simp) (by omega) hb2.size
 have hvl:=rdNums_len s
 have hdec:decodeM s = if doneR (rdNums ⟨s,false⟩).2 && !(rowsM (rdNums ⟨s,false⟩).1).2.bad && decide ((rowsM (rdNums ⟨s,false⟩).1).2.left = []) then ((rowsM (rdNums ⟨s,false⟩).1).1,true) else (([],[]),false):=rfl
 have k2:∀ w' dv av r,decodeM s = r → Bw w w' → ListsR w' dv r.1.1 → NumsR w' av r.1.2 → K (.tuple #[prfV dv av,.bool r.2]) w':=fun w' dv av r e hb h1 h2=>by rw [← e] at h1 h2 ⊢; exact k w' dv av hb h1 h2
 clear k
 have hin:∀ x ∈ (rdNums ⟨s,false⟩).1,I64 x:=by
  rcases rdNums_some ⟨s,false⟩ Rd.ok_good with h | ⟨vs',t,h,_,_,h'⟩
  ·rw [h]; simp
  ·rw [h]; exact fun x hx=>(InR_iff x).1 (h' x hx)
 generalize (rdNums ⟨s,false⟩).2 = r2 at *
 generalize (rdNums ⟨s,false⟩).1 = vs at *
 have bad:∀ w2 (hk:KnM w [] g 2 w2),decodeM s = (([],[]),false) →
   oM Tryz.prog (Go.Op.store 34 (.tmp 0) (.tmp 1)) 0 [.pointer (some ⟨g,0,none⟩),zPv] (fun _ w=>
    ∃ r,(do loadVar 34 (← asAddr (.pointer (some ⟨g,0,none⟩))):Sem Value).run Tryz.prog w = .ok r w ∧ K (.tuple #[r,(.bool false)]) w) w2:=fun w2 hk e=>
  store_mine sz_prf rfl rfl (prf_one none none 0 0 0 0) hk (fun W3 hk hc=>⟨_,by simp [go_sem,hc],k2 _ _ _ _ e hk.below SRow.nil SRow.nil⟩)
 obtain ⟨vad,vc,rfl⟩:=owns_len ho2
 rw [build_rowQ]
 refine pureM_in ?_
 refine arr_box (cs:=[.slice vad vs.length vc,.int .i64 0,.bool false]) rfl (fun b15 w3 h3 hg3 hh3=>?_)
 have hk3:=hk2.next h3
 have hr3:Cd.IsQd w3 W2.heap.size r2:=by
  unfold Cd.IsQd at hr2 ⊢
  exact (h3.block _ (Array.getElem?_eq_some_iff.1 hr2).1).trans hr2
 refine Cd.qdone_ok _ r2 hr3 ?_
 have hdd:Cd.rdDone r2 = doneR r2:=rfl
 rw [hdd]
 cases hd:doneR r2 with
 | false=>
  rw [hd] at hdec
  refine Xa0 ?_
  exact bad _ hk3 (by rw [hdec]; simp)
 | true=>
 rw [hd,bT] at hdec
 refine Xb2_0 ?_
 rw [build_prf0]
 refine pureM_in ?_
 refine arr_alloc al_prf (fun b6 w4 h4 hg4 hh4=>?_)
 have hk4:=hk3.next h4
 have hh15:=hh3.next h4
 have hlt3:=hh3.lt
 have s3:=h3.size
 have s4:=h4.size
 have hne:b6 ≠ b15:=by omega
 refine arr_store sz_prf (xs:=prfC (.slice none 0 0) (.slice none 0 0)) rfl rfl (prf_one none none 0 0 0 0) hh4 rfl (fun w5 hg5 hh5=>?_)
 have hh15:=hh15.other hg5 (Ne.symm hne)
 have ho2':w2.ownsRow w1.heap.size 3 1 (.slice vad vs.length vc) vs.length (flat intC vs):=by rw [flat_int]; exact ho2
 have hints:Ints w2 (.slice vad vs.length vc) vs:=Ints.of_owns ho2' hin (by omega)
 have hin2:∀ i,Value.inBlock (.slice vad vs.length vc) = some i → i < w2.heap.size:=fun i hi=>by
  rcases ho2'.2 with ⟨h1,_⟩ | ⟨g',cap,cur,h1,_,h2,_⟩
  ·injection h1 with ha hb hc; subst ha; cases hi
  ·cases h1; cases hi; exact (Array.getElem?_eq_some_iff.1 h2).1
 have s5:=hg5.size
 have hg4':g < w4.heap.size:=mine_lt hk4.mine
 have hgg:g < w2.heap.size:=mine_lt hk2.mine
 have hws:=hk2.below.size
 have hk5:KnM w [] g 2 w5:=knm_fr hk4 (Fr.of_by hg5) (fun j hj=>by subst hj; exact ⟨by omega,by omega⟩)
 have hrq:IsRq (.slice vad vs.length vc) vs w3.heap.size w5 b15 ⟨vs,false⟩:=
  ⟨⟨0,hh15,Nat.zero_le _,rfl⟩,⟨hints.row.keep (by omega) (fun i hi _=>(hg5.block i (by have:=hin2 i hi; omega) (fun e=>by have:=hin2 i hi; have:=oI e; omega)).trans ((h4.block i (by have:=hin2 i hi; omega)).trans (h3.block i (hin2 i hi)))),hints.rng,hints.len⟩,hh3.lt,fun i hi=>⟨by have:=hin2 i hi; omega,by have:=hin2 i hi; omega⟩⟩
 refine rcount_ok hrq (by omega) (fun w6 hr6 hg6=>?_)
 rw [countQ_good rfl] at hr6 ⊢
 have hcl:=countR_len ⟨vs,false⟩
 have hn:(countR ⟨vs,false⟩).1 < 1000000000:=by have:=hcl.2.1; simp only at this; omega
 have hR0:rowsM vs = clausesR (countR ⟨vs,false⟩).1 (countR ⟨vs,false⟩).2:=rfl
 have hn0:(countR ⟨vs,false⟩).2.bad = true → (countR ⟨vs,false⟩).1 = 0:=countR_none (.inl rfl)
 generalize rowsM vs = R at *
 generalize (countR ⟨vs,false⟩).1 = n at *
 generalize (countR ⟨vs,false⟩).2 = r0 at *
 have hh6:=hh5.other hg6 hne
 have s6:=hg6.size
 have hb6l:=hh5.lt
 refine ⟨OqJ (.slice vad vs.length vc) vs w3.heap.size b15 b6 n w5 R,oqMu n,⟨_,_,_,_,_,_,_,_,_,0,r0,[],[],fun _=>False,rfl,by omega,Fr.of_by hg6 |>.mono (fun i _ e=>.inl e),hr6,hh6,.nil,.nil,fun i h=>h.elim,fun i h=>h.elim,(fun i h=>by cases h),fun i h=>h.elim,rfl,rfl,?_⟩,?_⟩
 ·cases hb0:r0.bad with
  | false=>exact .inl ⟨rfl,by simpa using hR0⟩
  | true=>exact .inr ⟨rfl,by rw [hR0]; exact clausesR_bad _ _ hb0⟩
 clear hn0 hR0
 rintro _ _ w7 ⟨u0,u1,u2,u3,u4,u5,u6,dv,av,i,r,ds,al,D,rfl,hi,hfr7,hr7,hh7,hgd,hga,hod,hoa,hap,hlow,hdl,hal,hR⟩
 obtain ⟨dad,dc,rfl⟩:=hgd.isSlice
 obtain ⟨aad,ac,rfl⟩:=hga.isSlice
 have hB7:w3.heap.size ≤ w7.heap.size:=by have:=hfr7.size; omega
 have hk7:KnM w [] g 2 w7:=knm_fr hk5 hfr7 (fun j hj=>by
  rcases hj with rfl | rfl
  ·exact ⟨by omega,by omega⟩
  ·exact ⟨by omega,by omega⟩)
 unfold loop_81_13
 simp only [List.getD_cons_succ,List.getD_cons_zero]
 obtain ⟨p7,hc7,hp7,hl7⟩:=hr7.cells
 have hrl:=hr7.left_le
 by_cases hgo:i < n ∧ r.bad = false
 rotate_left
 ·have hexit:held_81_60 K (ptr b15 0) (ptr g 0) (ptr b6 0) w7:=by
   unfold held_81_60
   have hdr:Below w7.heap.size w7 { w7 with drawn:=w7.drawn + 1 }:=.drawn
   have hk9:=hk7.next hdr
   have hc9:=hc7.next hdr
   have hh9:=hh7.next hdr
   have hgd9:=hgd.next hdr (fun i hi=>(hod i hi).1)
   have hga9:=hga.next hdr (fun i hi=>(hoa i hi).1)
   refine ⟨Nx { w7 with drawn:=w7.drawn + 1 },bR,by trivial,?_⟩
   generalize ({ w7 with drawn:=w7.drawn + 1 }:World) = W9 at hdr hk9 hc9 hh9 hgd9 hga9 ⊢
   cases hbad:r.bad with
   | true=>
    rw [hbad] at hc9
    refine Xc (fun W0 hW0=>(hc9.next hW0).are) ?_
    refine ⟨Nx,fun w9 h9=>?_⟩
    refine Xa0 ?_
    rcases hR with ⟨e,_⟩ | ⟨_,e⟩
    ·rw [hbad] at e; cases e
    ·exact bad _ (hk9.next h9) (by rw [hdec,e]; simp)
   | false=>
   rw [hbad] at hc9
   rcases hR with ⟨_,hR⟩ | ⟨e,_⟩
   rotate_left
   ·rw [hbad] at e; cases e
   have hin':i = n:=by
    by_cases h:i < n
    ·exact absurd ⟨h,hbad⟩ hgo
    ·omega
   rw [show n - i = 0 by omega] at hR
   have hR:R = ((ds,al),r):=by rw [hR]; simp [clausesR]
   rw [hR] at hdec
   by_cases hpe:(p7:Int) = vs.length
   ·have hl0:r.left = []:=by rw [hl7]; exact List.drop_of_length_le (by omega)
    refine Xf (fun W0 hW0=>(hc9.next hW0).are) @hpe ?_
    refine ⟨Nx,fun w9 h9=>?_⟩
    have hk9:=hk9.next h9
    have hh9:=hh9.next h9
    have hgd9:=hgd9.next h9 (fun i hi=>lL (hod i hi).1 hdr.size)
    have hga9:=hga9.next h9 (fun i hi=>lL (hoa i hi).1 hdr.size)
    have h79:=Nat.le_trans hdr.size h9.size
    refine Xa hh9.are ?_
    have hdec:decodeM s = ((ds,al),true):=by rw [hdec]; simp [hbad,hl0]
    obtain ⟨W3,e3,hg3',hm3,hc3⟩:=store_run (P:=Tryz.prog) (w:=w9) (W:=w9) sz_prf (x:=prfV (.slice dad ds.length dc) (.slice aad al.length ac)) (xs:=prfC (.slice dad ds.length dc) (.slice aad al.length ac)) rfl rfl (prf_one dad aad ds.length dc al.length ac) hk9.mine
    rw [kS,oM_store,e3]
    have hk10:=hk9.kn.wrote hg3' hk9.base hk9.off
    have hDg:∀ i,D i → i < w9.heap.size ∧ ¬ i = g:=fun i hi=>⟨by have:=(hod i hi).1; omega,fun e=>by have:=hlow i hi; omega⟩
    have hgd3:=hgd9.keep (Fr.of_by hg3') hDg (fun i hi e=>by have:=(hgd9.own hi).2; omega)
    have hga3:=hga9.keep (Fr.of_by hg3') hDg (fun i hi e=>by have:=(hga9.own hi).2; omega)
    exact ⟨prfV (.slice dad ds.length dc) (.slice aad al.length ac),by simp [go_sem,hc3],k2 W3 _ _ _ hdec hk10.below (hgd3.srow (by decide) (show ds.length ≤ _ by omega)) (hga3.srow (by decide) (show al.length ≤ _ by omega))⟩
   ·have hl0:¬ r.left = []:=fun e=>by
     rw [hl7] at e
     have:=congrArg List.length e
     rw [List.length_drop,List.length_nil] at this
     omega
    refine Xf (fun W0 hW0=>(hc9.next hW0).are) @hpe ?_
    refine ⟨Nx,fun w9 h9=>?_⟩
    refine Xa0 ?_
    exact bad _ (hk9.next h9) (by rw [hdec]; simp [hl0])
  by_cases hin':(i:Int) < n
  ·have hbad:r.bad = true:=by
    cases h:r.bad with
    | true=>rfl
    | false=>exact absurd ⟨by omega,h⟩ hgo
   rw [hbad] at hc7
   refine Xa (An2 hc7.are @hin') ?_
   exact hexit
  ·refine Xa @hin' ?_
   exact hexit
 obtain ⟨hin',hbad⟩:=hgo
 have hini:(i:Int) < n:=by omega
 rcases hR with ⟨_,hR⟩ | ⟨e,_⟩
 rotate_left
 ·rw [hbad] at e; cases e
 rw [hbad] at hc7
 obtain ⟨m,hm⟩:∃ m,n - i = m + 1:=⟨n - i - 1,by omega⟩
 rw [hm,clausesR_succ] at hR
 refine Xa (An2 hc7.are @hini) ?_
 refine rcount_ok hr7 hB7 (fun w8 hr8 hg8=>?_)
 rw [countQ_good hbad] at hr8 ⊢
 have hcl:=countR_len r
 have hn0:(countR r).2.bad = true → (countR r).1 = 0:=countR_none (.inl hbad)
 have hn1:(countR r).1 < 1000000000 + 1:=by omega
 generalize (countR r).1 = n1 at *
 generalize (countR r).2 = r1 at *
 have s8:=hg8.size
 have hr1l:=hr8.left_le
 refine ⟨IqJ (.slice vad vs.length vc) vs w3.heap.size b15 w8 n1 (itemsR n1 r1),iqMu n1,⟨_,_,_,_,_,0,r1,[],[],fun _=>False,rfl,by omega,Inq.start hr8 (Nat.le_trans hB7 s8),rfl,rfl,?_⟩,?_⟩
 ·cases hb0:r1.bad with
  | false=>exact .inl ⟨rfl,by simp⟩
  | true=>exact .inr ⟨rfl,itemsR_bad _ _ hb0⟩
 generalize hR1:itemsR n1 r1 = R1 at *
 rintro _ _ w9 ⟨dv1,u7,u8,u9,av1,kk,r3,ds1,al1,D1,rfl,hkk,hInn,hdl1,hal1,hRR⟩
 obtain ⟨d1ad,d1c,hdv1⟩:=owns_len hInn.d
 subst hdv1
 obtain ⟨a1ad,a1c,hav1⟩:=hInn.a.isSlice
 subst hav1
 unfold loop_81_24
 simp only [List.getD_cons_succ,List.getD_cons_zero]
 obtain ⟨p9,hc9,hp9,hl9⟩:=hInn.rw.cells
 have hrl3:=hInn.rw.left_le
 have s9:=hInn.fr.size
 by_cases hgo:kk < n1 ∧ r3.bad = false
 rotate_left
 ·have hx:((kk:Int) < n1 ∧ r3.bad = true) ∨ ¬ (kk:Int) < n1:=by
   by_cases h:kk < n1
   ·refine .inl ⟨by omega,?_⟩
    cases h2:r3.bad with
    | true=>rfl
    | false=>exact absurd ⟨h,h2⟩ hgo
   ·exact .inr (by omega)
  have hrel:(r3.bad = false ∧ R = ((ds ++ [ds1] ++ (clausesR m r3).1.1,al ++ [al1] ++ (clausesR m r3).1.2),(clausesR m r3).2)) ∨ (r3.bad = true ∧ R.2.bad = true):=by
   rcases hRR with ⟨h3,e⟩ | ⟨h3,e⟩
   ·have hkn:kk = n1:=by
     by_cases h:kk < n1
     ·exact absurd ⟨h,h3⟩ hgo
     ·omega
    rw [show n1 - kk = 0 by omega] at e
    have e:R1 = ((ds1,al1),r3):=by rw [e]; simp [itemsR]
    exact .inl ⟨h3,by rw [hR,e]; simp⟩
   ·exact .inr ⟨h3,by rw [hR]; exact clausesR_bad _ _ e⟩
  have hf79:Fr (fun j=>j = b15) w7 w9:=(Fr.of_by hg8).trans hInn.fr (fun i e=>.inl e)
  have hD9:∀ i,D i → i < w7.heap.size ∧ ¬ i = b15:=fun i hi=>⟨(hod i hi).1,fun e=>by have:=hlow i hi; omega⟩
  have hgd9:=hgd.keep hf79 hD9 (fun i hi e=>by have:=(hgd.own hi).2; omega)
  have hga9:=hga.keep hf79 hD9 (fun i hi e=>by have:=(hga.own hi).2; omega)
  have hh9:Holds w9 b6 34 [.slice dad ds.length dc,.slice aad al.length ac]:=(hf79.block b6 hh7.lt (fun e=>hne e)).trans hh7
  have hown1:=fun i hi=>(hgd.own (i:=i) hi)
  have hown2:=fun i hi=>(hga.own (i:=i) hi)
  have hd1:=fun i (hi:(Value.slice d1ad ds1.length d1c).ownBlock = some i)=>owns_own hInn.d hi
  have ha1:=fun i (hi:(Value.slice a1ad al1.length a1c).ownBlock = some i)=>hInn.a.own hi
  have s57:=hfr7.size
  have hoff:∀ (v:Value),(∀ i,v.ownBlock = some i → i < w7.heap.size) → Off D w7 v → Off (fun i=>D i ∨ D1 i ∨ (Value.slice d1ad ds1.length d1c).ownBlock = some i ∨ (Value.slice a1ad al1.length a1c).ownBlock = some i) w9 v:=by
   intro v hv hDv i hi
   rcases hi with hi | hi | hi | hi
   ·exact ⟨by have:=(hDv i hi).1; omega,(hDv i hi).2⟩
   ·exact ⟨(hInn.od i hi).1,fun e=>by have:=hv i e; have:=hInn.low i hi; omega⟩
   ·exact ⟨(hd1 i hi).1,fun e=>by have:=hv i e; have:=(hd1 i hi).2.1; omega⟩
   ·exact ⟨(ha1 i hi).1,fun e=>by have:=hv i e; have:=(ha1 i hi).2; omega⟩
  have hlow':∀ i,(D i ∨ D1 i ∨ (Value.slice d1ad ds1.length d1c).ownBlock = some i ∨ (Value.slice a1ad al1.length a1c).ownBlock = some i) → w5.heap.size ≤ i:=by
   intro i hi
   rcases hi with hi | hi | hi | hi
   ·exact hlow i hi
   ·have:=hInn.low i hi; omega
   ·have:=(hd1 i hi).2.1; omega
   ·have:=(ha1 i hi).2; omega
  have hx1:=((hInn.d.ints hInn.rng (by omega)).fp).mono (E:=fun i=>D i ∨ D1 i ∨ (Value.slice d1ad ds1.length d1c).ownBlock = some i ∨ (Value.slice a1ad al1.length a1c).ownBlock = some i) (fun i hi=>.inr (.inr (.inl (own_inB hInn.d hi.1))))
  have hx2:=(hInn.a.fp (by decide) (by omega)).mono (E:=fun i=>D i ∨ D1 i ∨ (Value.slice d1ad ds1.length d1c).ownBlock = some i ∨ (Value.slice a1ad al1.length a1c).ownBlock = some i) (fun i hi=>hi.elim (fun h=>.inr (.inl h)) (fun h=>.inr (.inr (.inr h))))
  have hgd9:=hgd9.mono (E:=fun i=>D i ∨ D1 i ∨ (Value.slice d1ad ds1.length d1c).ownBlock = some i ∨ (Value.slice a1ad al1.length a1c).ownBlock = some i) (fun i hi=>.inl hi)
  have hga9:=hga9.mono (E:=fun i=>D i ∨ D1 i ∨ (Value.slice d1ad ds1.length d1c).ownBlock = some i ∨ (Value.slice a1ad al1.length a1c).ownBlock = some i) (fun i hi=>.inl hi)
  have hoffd:=hoff _ (fun i hi=>(hown1 i hi).1) hod
  have hoffa:=hoff _ (fun i hi=>(hown2 i hi).1) hoa
  clear hoff
  obtain ⟨D',hD',hlow2⟩:∃ D':Nat → Prop,D' = (fun i=>D i ∨ D1 i ∨ (Value.slice d1ad ds1.length d1c).ownBlock = some i ∨ (Value.slice a1ad al1.length a1c).ownBlock = some i) ∧ ∀ i,D' i → w5.heap.size ≤ i:=⟨_,rfl,fun i hi=>hlow' i hi⟩
  rw [← hD'] at hx1 hx2 hgd9 hga9 hoffd hoffa
  clear hD' hlow'
  have hrw9:=hInn.rw
  rcases hx with ⟨hin2,hb3⟩ | hin2
  rw [hb3] at hc9
  repeat (any_goals (first
  | (with_reducible first|refine pureM_in ?_|((refine idGd ?_); first|refine zA ?_|refine zB ?_)|((refine idPick ?_); first|refine yB ?_|refine yC ?_)|refine yM ?_)
  | ((with_reducible refine oG fun X Y=>?_); simp [go_sem,hc9.are,hin2]; apply Y; clear Y X)))
  all_goals
   iterate 1 (any_goals ((with_reducible refine oG fun X Y=>?_); simp [go_sem,hh9.are]; apply Y; clear Y X))
   refine lit_ints _ _ _ (fun g10 w10 h10 hg10 hh10=>?_)
   have s10:=h10.size
   refine ints_append (hgd9.next h10 (fun i hi=>(hoffd i hi).1)) (by omega) hh10 (hx1.next h10 (fun i hi=>(hoffd i hi).1)) (hoffd.next h10.size) (by omega) (fun v11 w11 hg11 hb11 hv11 ho11=>?_)
   obtain ⟨vad',vc',rfl⟩:=hg11.isSlice
   have s11:=hb11.size
   have hga11:=(hga9.next h10 (fun i hi=>(hoffa i hi).1)).keep (Fr.of_by' hb11) (fun i hi=>⟨lL (hoffd i hi).1 s10,(hoffd i hi).2⟩) (fun i hi e=>hap i e hi)
   have hh11:=Holds.trans' (hh9.next h10) hb11 (fun e=>by have:=(hown1 _ e).2; omega)
   refine Xb1_0 ?_
   refine arr_set (i:=0) sz_ll rfl rfl hh11 (by simp) (fun w12 hg12 hh12=>?_)
   have hh12:Holds w12 b6 34 [.slice vad' (ds ++ [ds1]).length vc',.slice aad al.length ac]:=hh12
   have s12:=hg12.size
   have hb6D:∀ i,D' i → ¬ i = b6:=fun i hi e=>by have:=hlow2 i hi; omega
   have hgd12:=hg11.keep (Fr.of_by hg12) (fun i hi=>⟨(ho11 i hi).1,hb6D i hi⟩) (fun i hi e=>by have:=(hg11.own hi).2; omega)
   have hga12:=hga11.keep (Fr.of_by hg12) (fun i hi=>⟨by have:=(hoffa i hi).1; omega,hb6D i hi⟩) (fun i hi e=>by have:=(hga11.own hi).2; omega)
   refine Xb2 hh12.are ?_
   refine lit_lists _ _ _ (fun g13 w13 h13 hg13 hh13=>?_)
   have s13:=h13.size
   have hF:Fr (fun j=>(Value.slice dad ds.length dc).ownBlock = some j ∨ j = b6) w9 w12:=((Fr.of_below h10).by hb11 (fun i e=>.inl (.inl e))).by hg12 (fun i e=>.inl (.inr (oI e).symm))
   have hx3:=(hx2.fr hF (fun i hi=>⟨(hoffd i hi).1,fun e=>e.elim (hoffd i hi).2 (hb6D i hi)⟩)).next h13 (fun i hi=>by have:=(hoffd i hi).1; omega)
   refine lists_append (hga12.next h13 (fun i hi=>by have:=(hoffd i hi).1; omega)) (by omega) hh13 hx3 (fun i hi=>⟨by have:=(hoffa i hi).1; omega,(hoffa i hi).2⟩) (by omega) (fun u14 w14 hg14 hb14 hv14 ho14=>?_)
   obtain ⟨uad',uc',rfl⟩:=hg14.isSlice
   have s14:=hb14.size
   have hap12:apart (.slice vad' (ds ++ [ds1]).length vc') (.slice aad al.length ac):=fun i e1 e2=>by
    rcases hv11 i e1 with h | h
    ·exact hap i h e2
    ·have:=(hown2 i e2).1; omega
   have hgd14:=(hgd12.next h13 (fun i hi=>by have:=(hoffd i hi).1; omega)).keep (Fr.of_by' hb14) (fun i hi=>⟨by have:=(hoffd i hi).1; omega,(hoffa i hi).2⟩) (fun i hi e=>hap12 i hi e)
   have hh14:=Holds.trans' (hh12.next h13) hb14 (fun e=>by have:=(hown2 _ e).2; omega)
   refine Xb1_0 ?_
   refine arr_set (i:=1) sz_lll rfl rfl hh14 (by simp) (fun w15 hg15 hh15=>?_)
   have s15:=hg15.size
   refine Xa0 ?_
   have hF2:Fr (fun j=>(Value.slice dad ds.length dc).ownBlock = some j ∨ j = b6 ∨ (Value.slice aad al.length ac).ownBlock = some j) w9 w15:=(((hF.mono (fun i _ e=>e.elim .inl (fun e=>.inr (.inl e)))).trans (S':=fun _=>False) (Fr.of_below h13) (fun _ h=>h.elim)).by hb14 (fun i e=>.inl (.inr (.inr e)))).by hg15 (fun i e=>.inl (.inr (.inl (oI e).symm)))
   have hf515:Fr (fun j=>j = b15 ∨ j = b6) w5 w15:=(hfr7.trans hf79 (fun i e=>.inl (.inl e))).trans hF2 (fun i e=>by
    rcases e with e | e | e
    ·exact .inr (hown1 i e).2
    ·exact .inl (.inr e)
    ·exact .inr (hown2 i e).2)
   have hrw15:IsRq (.slice vad vs.length vc) vs w3.heap.size w15 b15 r3:=hrw9.keep ⟨hF2.os,hF2.tape,hF2.output,hF2.size,fun i hi=>hF2.block i (by omega) (fun e=>by
    rcases e with e | e | e
    ·have:=(hown1 i e).2; omega
    ·omega
    ·have:=(hown2 i e).2; omega)⟩
   have hap15:apart (.slice vad' (ds ++ [ds1]).length vc') (.slice uad' (al ++ [al1]).length uc'):=fun i e1 e2=>by
    rcases hv14 i e2 with h | h
    ·exact hap12 i e1 h
    ·have:=(hgd12.own e1).1; omega
   refine ⟨⟨_,_,_,_,_,_,_,_,_,i + 1,r3,ds ++ [ds1],al ++ [al1],D',rfl,by omega,hf515,hrw15,hh15,hgd14.keep (Fr.of_by hg15) (fun i hi=>⟨by have:=(hoffd i hi).1; omega,hb6D i hi⟩) (fun i hi e=>by have:=(hgd14.own hi).2; omega),hg14.keep (Fr.of_by hg15) (fun i hi=>⟨by have:=(hoffd i hi).1; omega,hb6D i hi⟩) (fun i hi e=>by have:=(hg14.own hi).2; omega),fun i hi=>⟨by have:=(hoffd i hi).1; omega,(ho11 i hi).2⟩,fun i hi=>⟨by have:=(hoffd i hi).1; omega,(ho14 i hi).2⟩,hap15,hlow2,by rw [List.length_append,List.length_singleton]; omega,by rw [List.length_append,List.length_singleton]; omega,?_⟩,?_⟩
   ·rw [show n - (i + 1) = m by omega]; exact hrel
   ·simp only [oqMu_eq]; omega
 obtain ⟨hkn,hb3⟩:=hgo
 have hkni:(kk:Int) < n1:=by omega
 rcases hRR with ⟨_,hRR⟩ | ⟨e,_⟩
 rotate_left
 ·rw [hb3] at e; cases e
 rw [hb3] at hc9
 obtain ⟨m1,hm1⟩:∃ m,n1 - kk = m + 1:=⟨n1 - kk - 1,by omega⟩
 rw [hm1,itemsR_succ] at hRR
 refine Xa (An2 hc9.are @hkni) ?_
 refine rone_ok hInn.rw (Nat.le_trans hInn.B hInn.fr.size) (fun w10 hr10 hg10 hx10=>?_)
 rw [nextQ_good hb3] at hr10 hx10 ⊢
 have hI10:=hInn.read hg10 hr10
 have hnl:=nextR_len r3
 have hstop:=nextR_stopt hb3
 generalize (nextR r3).1 = x at *
 generalize (nextR r3).2 = r4 at *
 refine mk1g x hx10 (fun v11 w11 h11 hi11 _=>?_)
 refine (hI10.next h11).addD hi11 (by omega) (fun dv2 w12 hI12=>?_)
 refine rcount_ok hI12.rw (Nat.le_trans hI12.B hI12.fr.size) (fun w13 hr13 hg13=>?_)
 rw [countQ_stopt hstop] at hr13 ⊢
 have hI13:=hI12.read hg13 hr13
 have hcl3:=countR_len r4
 have hn0':(countR r4).2.bad = true → (countR r4).1 = 0:=countR_none hstop
 generalize (countR r4).1 = n3 at *
 generalize (countR r4).2 = r5 at *
 refine ⟨VqJ (.slice vad vs.length vc) vs w3.heap.size b15 w13 r5 n3,grMu n3,⟨_,0,rfl,by omega,Fr.refl _ _,by simpa using hr13,by simpa using own_none⟩,?_⟩
 rintro _ _ w14 ⟨xv,j,rfl,hj,hf14,hr14,ho14⟩
 unfold loop_81_38
 simp only [List.getD_cons_succ,List.getD_cons_zero]
 have hN5:r5.left.length ≤ 1000000000:=by omega
 by_cases hjn:j = n3
 ·subst hjn
  have hjn':¬ (j:Int) < j:=by omega
  obtain ⟨xad,xc,hxv⟩:=owns_len ho14
  subst hxv
  have hI14:=hI13.fr' hf14 hr14
  refine Xb2 @hjn' ?_
  refine lit_ints _ _ _ (fun g15 w15 h15 hg15 hh15=>?_)
  have hI15:=hI14.next h15
  have s13:=hI13.fr.size
  have s15:=h15.size
  have hi14:Ints w14 (.slice xad (r5.left.take j).length xc) (r5.left.take j):=ho14.ints (fun x hx=>?_) (by rw [List.length_take]; omega)
  rotate_left
  ·obtain ⟨p5,_,_,e5⟩:=hr13.cells
   exact hr13.ints.rng x (List.mem_of_mem_drop (e5 ▸ List.mem_of_mem_take hx))
  refine hI15.addA (E:=fun i=>(Value.slice xad (r5.left.take j).length xc).ownBlock = some i) hh15 ((hi14.fp.mono (fun i hi=>own_inB ho14 hi.1)).next h15 (fun i hi=>(owns_own ho14 hi).1)) (fun i hi=>?_) (by omega) (fun av2 w16 hI16=>?_)
  ·have e1:=(owns_own ho14 hi).2.1
   have e2:=(owns_own ho14 hi).1
   exact ⟨by omega,by omega,fun e=>by have:=(owns_own hI13.d e).1; omega,fun e=>by have:=(hI13.a.own e).1; omega⟩
  refine Xa0 ?_
  refine ⟨⟨_,_,_,_,_,kk + 1,⟨r5.left.drop j,r5.bad⟩,_,_,_,rfl,by omega,hI16,by rw [List.length_append,List.length_singleton]; omega,by rw [List.length_append,List.length_singleton]; omega,?_⟩,by simp only [iqMu_eq]; omega⟩
  rw [show n1 - (kk + 1) = m1 by omega]
  cases hb5:r5.bad with
  | true=>exact .inr ⟨rfl,by rw [hRR]; exact itemsR_bad _ _ hb5⟩
  | false=>
   refine .inl ⟨rfl,?_⟩
   rw [hRR]
   unfold takeR
   rw [hb5]
   simp
 have hjlt:j < n3:=by omega
 have hji:(j:Int) < n3:=by omega
 have hb5:r5.bad = false:=by
  cases h:r5.bad with
  | false=>rfl
  | true=>have:=hn0' h; omega
 refine Xb2 @hji ?_
 refine vals_ok (Nat.le_trans hI13.B hI13.fr.size) hb5 hcl3.2.2 hN5 hjlt hf14 hr14 ho14 (fun xv' w' hV=>?_)
 refine Xa0 ?_
 refine ⟨hV,?_⟩
 simp only [grMu_eq]; omega
end
end Go.Proofs
namespace Go.Proofs
open Go Go.Sh Go.RowKit FdSpec TkSpec CodeSpec PrSpec FdPoly GrLaw
section
variable {K:VK} {w w' w0 W W' We W1 W2:World} {L:List (Addr × Value)} {g n B b i:Nat} {row:Option Nat}
theorem appendL {B b:Nat} {T:TypeId} {v xv:Value} {l m:List Int} {cs:List Value} (ho:OwnI w B v l) (hB:B ≤ w.heap.size) (hx:Ints w xv m) (hl:l.length + m.length < 1099511627776) (hb:b < w.heap.size) (hne:v.ownBlock ≠ some b) (hc:cellsAre w (cellsOf [] b 0 cs))
  (k:∀ v' w',OwnI w' B v' (l ++ m) → w.grownBy w' v.ownBlock → v'.ownBlock ≠ some b → cellsAre w' (cellsOf [] b 0 cs) → b < w'.heap.size → K v' w'):oM Tryz.prog (.call { callee:=.builtin .append,args:=#[.tmp 0,.tmp 1],argTypes:=#[24,24] }) T [v,xv] K w:=by
 refine appendNg ho hB hx hl (fun v' w' ho' hg hv=>k v' w' ho' hg (fun e=>?_) ?_ (lL hb hg.size))
 ·rcases hv b e with h | h
  ·exact hne h
  ·omega
 ·exact cells_fr hc (Fr.of_by' hg) (fun p hp=>⟨cells_lt hc p hp,fun e=>by
   rcases cellsOf_mem _ _ _ hp with h1 | h1
   ·rw [h1] at e; exact hne e
   ·cases h1⟩)
def TxA {α:Type} (f:α → List Int) (pre:List Int) (l:List α) (w0:World) (vs:List Value) (w':World):Prop:=Bw w0 w' ∧ ∃ (ov u1 u2 u3:Value) (i:Nat),vs = [ov,u1,u2,u3,.int .i64 (i:Int)] ∧ i ≤ l.length ∧ OwnI w' w0.heap.size ov (pre ++ (l.take i).flatMap f)
def TxB {α:Type} (f:α → List Int) (pre:List Int) (l:List α) (w0:World) (vs:List Value) (w':World):Prop:=Bw w0 w' ∧ ∃ (ov u1 u2:Value) (i:Nat),vs = [ov,u1,u2,.int .i64 (i:Int)] ∧ i ≤ l.length ∧ OwnI w' w0.heap.size ov (pre ++ (l.take i).flatMap f)
def TxC {α:Type} (f:α → List Int) (pre:List Int) (l:List α) (b:Nat) (cs:List Value) (w0:World) (vs:List Value) (w':World):Prop:=Bw w0 w' ∧ ∃ (ov u1:Value) (i:Nat),vs = [ov,u1,.int .i64 (i:Int)] ∧ i ≤ l.length ∧ OwnI w' w0.heap.size ov (pre ++ (l.take i).flatMap f) ∧ ov.ownBlock ≠ some b ∧ cellsAre w' (cellsOf [] b 0 cs) ∧ b < w'.heap.size
def TxD {α:Type} (f:α → List Int) (pre:List Int) (l:List α) (b:Nat) (cs:List Value) (w0:World) (vs:List Value) (w':World):Prop:=Bw w0 w' ∧ ∃ (ov:Value) (i:Nat),vs = [ov,.int .i64 (i:Int)] ∧ i ≤ l.length ∧ OwnI w' w0.heap.size ov (pre ++ (l.take i).flatMap f) ∧ ov.ownBlock ≠ some b ∧ cellsAre w' (cellsOf [] b 0 cs) ∧ b < w'.heap.size
def grMu5t (n:Nat) (l:List Value) (_:World):Nat:=match l with | [_,_,_,_,.int _ i]=>n - i.toNat | _=>0
theorem grMu5t_eq (n:Nat) (u v x y:Value) (k:IntKind) (i:Int) (w:World):grMu5t n [u,v,x,y,.int k i] w = n - i.toNat:=rfl
set_option maxHeartbeats 4000000 in
theorem rText_ok (goal:List Cls) {gv:Value} (hg:GoalR w gv goal) (hN:(goalL goal).length ≤ 1000000) (k:∀ w',Bw w w' → K (.string ⟨(textM goal).toArray⟩) w'):callM Tryz.prog 26 #[gv] K w:=by
 apply sh_26_ok
 unfold sh_26
 have hg':=hg
 obtain ⟨gad,gc,rfl⟩:=hg.isSlice
 have hgl:=hg'.len
 have hNN:1 + (goal.flatMap clsL).length ≤ 1000000:=by unfold goalL at hN; simp only [List.length_cons] at hN; omega
 refine Xb1_0 ?_
 refine mk1o _ (fun v1 w1 h1 ho1=>?_)
 refine Xa0 ?_
 refine ⟨TxA clsL [(goal.length:Int)] goal w,grMu5t goal.length,⟨h1,_,_,_,_,0,rfl,by omega,by simpa using ho1⟩,?_⟩
 have hpre0:[(goal.length:Int)].length + (goal.flatMap clsL).length ≤ 1000000:=by simp only [List.length_cons,List.length_nil]; omega
 rintro _ _ wA ⟨hbA,ovA,u1,u2,u3,iA,rfl,hiA,hoA⟩
 by_cases hin:iA = goal.length
 ·rw [List.take_of_length_le (by omega)] at hoA
  have hoA:OwnI wA w.heap.size ovA (goalL goal):=hoA
  have hinr:∀ x ∈ goalL goal,InR x:=goal_in hg'
  have hle:=encNums_le hinr (by omega)
  subst hin
  refine Xa0 ?_
  refine Cd.qNums_ok _ _ (Ints.rowOf (hoA.ints (fun x hx=>(InR_iff x).1 (hinr x hx)) (by omega))) hinr (by omega) (fun w4 h4=>?_)
  exact k _ (hbA.on h4)
 have eA:goal[iA]? = some goal[iA]:=gE (by omega)
 have hstA:=flat_take_step clsL _ _ _ eA
 have hleA:=flat_step_le clsL _ _ _ eA
 obtain ⟨cbA,coA,rfl,hltA,csA,_,hcellA,cvA,rfl,hIA,hrowA⟩:=hg'.at (i:=iA) (by omega)
 have c0A:=hcellA 0 _ rfl
 have c1A:=hcellA 1 _ rfl
 simp only [Nat.add_zero] at c0A
 generalize goal[iA] = c at *
 obtain ⟨cadA,ccA,rfl⟩:=id hrowA.isSlice
 have hlenA:=hrowA.len
 have hllA:(iA:Int) < goal.length:=by omega
 have hfxA:(clsL c).length = 2 + (c.claims.flatMap clmL).length:=by simp only [clsL,List.length_cons]; omega
 refine Xa @hllA ?_
 unfold held_26_8
 simp only [List.getD_cons_succ,List.getD_cons_zero]
 have hbd:Below w.heap.size w { wA with drawn:=wA.drawn + 1 }:=hbA.on .drawn
 have hod:OwnI { wA with drawn:=wA.drawn + 1 } w.heap.size ovA ([(goal.length:Int)] ++ (goal.take iA).flatMap clsL):=hoA.keep .drawn
 refine ⟨Nx { wA with drawn:=wA.drawn + 1 },bR,by trivial,?_⟩
 generalize ({ wA with drawn:=wA.drawn + 1 }:World) = W9 at *
 refine Xf (fun W0 hW0=>An2 (((hbd.on hW0).cell hltA).trans c0A) (((hbd.on hW0).cell hltA).trans c1A)) @hllA ?_
 refine ⟨Nx,?_⟩
 refine monoR (fun v w'=>Ints w' v [c.need,(c.claims.length:Int)]) (fun v w w1 hS h=>h.next hS) ?_ ?_
 ·intro w5 h5
  exact mk2 _ _ hIA (by unfold I64; omega) (fun v w6 h6 hi6=>⟨h5.on h6,h6,hi6⟩)
 rintro w3 h9 v2 hi3
 have hb3:=hbd.on h9
 have ho3:=hod.keep h9
 refine appendNg ho3 hb3.size hi3 (by simp only [List.length_append,List.length_cons,List.length_nil] at hpre0 ⊢; omega) (fun v4 w4 ho4 hg4 hv4=>?_)
 have hb4:=hb3.grown hg4 hb3.size (fun j hj=>(owns_own ho3 hj).2.1)
 refine Xa0 ?_
 refine ⟨TxB clmL ([(goal.length:Int)] ++ (goal.take iA).flatMap clsL ++ [c.need,(c.claims.length:Int)]) c.claims w,grMu4 c.claims.length,⟨hb4,_,_,_,0,rfl,by omega,by simpa using ho4⟩,?_⟩
 have hpreA:([(goal.length:Int)] ++ (goal.take iA).flatMap clsL ++ [c.need,(c.claims.length:Int)]).length + (c.claims.flatMap clmL).length ≤ 1000000:=by simp only [List.length_append,List.length_cons,List.length_nil] at hpre0 ⊢; omega
 clear ho4 hb4 hg4 hv4 ho3 hb3 hi3 h9 hbd hod hoA
 rintro _ _ wB ⟨hbB,ovB,u1,u2,iB,rfl,hiB,hoB⟩
 unfold loop_26_25
 by_cases hinB:iB = c.claims.length
 ·rw [List.take_of_length_le (l:=c.claims) (by omega)] at hoB
  subst hinB
  refine Xa (An2 ((hbB.cell hltA).trans c1A) @hllA) ?_
  refine ⟨⟨hbB,_,_,_,_,iA + 1,rfl,by omega,?_⟩,by simp only [grMu5t_eq]; omega⟩
  rw [hstA]
  simpa [clsL] using hoB
 have eB:c.claims[iB]? = some c.claims[iB]:=gE (by omega)
 have hstB:=flat_take_step clmL _ _ _ eB
 have hleB:=flat_step_le clmL _ _ _ eB
 obtain ⟨cbB,coB,rfl,hltB,csB,_,hcellB,cvB,rfl,hmB⟩:=hrowA.at (i:=iB) (by omega)
 have hIB:=hmB.vars
 have hrowB:=hmB.eqs
 have c0B:=hcellB 0 _ rfl
 have c1B:=hcellB 1 _ rfl
 simp only [Nat.add_zero] at c0B
 generalize c.claims[iB] = m at *
 obtain ⟨cadB,ccB,rfl⟩:=id hrowB.isSlice
 have hlenB:=hrowB.len
 have hllB:(iB:Int) < c.claims.length:=by omega
 have hfxB:(clmL m).length = 2 + (m.eqs.flatMap eqnL).length:=by simp only [clmL,List.length_cons]; omega
 refine Xb11 (An5 ((hbB.cell hltA).trans c1A) ((hbB.cell hltB).trans c0B) ((hbB.cell hltB).trans c1B) @hllA @hllB) ?_
 refine local_clm _ _ _ _ (.start wB) (fun bB WB hkB hbbB hgbB=>?_)
 refine Xb5 hkB.cells ?_
 refine mk2 _ _ hIB (by unfold I64; omega) (fun v2 w3 h3 hi3=>?_)
 have hb3:=(hbB.on hbbB).on h3
 have ho3:=(hoB.keep hbbB).keep h3
 have hbl:bB < WB.heap.size:=cells_lt hkB.cells _ (List.mem_cons_self ..)
 refine appendL ho3 hb3.size hi3 (by simp only [List.length_append,List.length_cons,List.length_nil] at hpreA ⊢; omega) (lL hbl h3.size) (fun e=>by have:=(owns_own hoB e).1; omega) (hkB.next h3).cells (fun v4 w4 ho4 hg4 hn4 hc4 hb4l=>?_)
 have hb4:=hb3.grown hg4 hb3.size (fun j hj=>(owns_own ho3 hj).2.1)
 refine Xa0 ?_
 refine ⟨TxC eqnL (([(goal.length:Int)] ++ (goal.take iA).flatMap clsL ++ [c.need,(c.claims.length:Int)]) ++ (c.claims.take iB).flatMap clmL ++ [m.vars,(m.eqs.length:Int)]) m.eqs bB [.int .i64 m.vars,.slice cadB m.eqs.length ccB] w,grMu3 m.eqs.length,⟨hb4,_,_,0,rfl,by omega,by simpa using ho4,hn4,hc4,hb4l⟩,?_⟩
 have hpreB:(([(goal.length:Int)] ++ (goal.take iA).flatMap clsL ++ [c.need,(c.claims.length:Int)]) ++ (c.claims.take iB).flatMap clmL ++ [m.vars,(m.eqs.length:Int)]).length + (m.eqs.flatMap eqnL).length ≤ 1000000:=by simp only [List.length_append,List.length_cons,List.length_nil] at hpreA ⊢; omega
 have hgw:w.heap.size ≤ bB:=Nat.le_trans hbB.size hgbB
 clear hc4 ho4 hb4 hg4 hn4 hb4l ho3 hb3 hi3 h3 hkB hbbB hoB
 rintro _ _ wC ⟨hbC,ovC,u1,iC,rfl,hiC,hoC,hnC,hcC,hlC⟩
 unfold loop_26_46
 by_cases hinC:iC = m.eqs.length
 ·rw [List.take_of_length_le (l:=m.eqs) (by omega)] at hoC
  subst hinC
  refine Xa @hcC ?_
  refine ⟨⟨hbC,_,_,_,iB + 1,rfl,by omega,?_⟩,by simp only [grMu4_eq]; omega⟩
  rw [hstB]
  simpa [clmL] using hoC
 have eC:m.eqs[iC]? = some m.eqs[iC]:=gE (by omega)
 have hstC:=flat_take_step eqnL _ _ _ eC
 have hleC:=flat_step_le eqnL _ _ _ eC
 obtain ⟨cbC,coC,rfl,hltC,cvC,c0C,c1C,hrowC,hIC⟩:=hrowB.at (i:=iC) (by omega)
 generalize m.eqs[iC] = e at *
 obtain ⟨cadC,ccC,rfl⟩:=id hrowC.isSlice
 have hlenC:=hrowC.len
 have hllC:(iC:Int) < m.eqs.length:=by omega
 have hfxC:(eqnL e).length = 2 + (e.terms.flatMap trmL).length:=by simp only [eqnL,List.length_cons]; omega
 refine Xa (An2 @hcC @hllC) ?_
 unfold held_26_53
 simp only [List.getD_cons_succ,List.getD_cons_zero]
 have hbd:Below w.heap.size w { wC with drawn:=wC.drawn + 1 }:=hbC.on .drawn
 have hodr:Below wC.heap.size wC { wC with drawn:=wC.drawn + 1 }:=.drawn
 have hod:OwnI { wC with drawn:=wC.drawn + 1 } w.heap.size ovC (([(goal.length:Int)] ++ (goal.take iA).flatMap clsL ++ [c.need,(c.claims.length:Int)]) ++ (c.claims.take iB).flatMap clmL ++ [m.vars,(m.eqs.length:Int)] ++ (m.eqs.take iC).flatMap eqnL):=hoC.keep .drawn
 refine ⟨Nx { wC with drawn:=wC.drawn + 1 },bR,by trivial,?_⟩
 generalize ({ wC with drawn:=wC.drawn + 1 }:World) = W9 at *
 refine Xf (fun W0 hW0=>An3 (cellsAre_keep hcC (fun a ha=>(hodr.on hW0).cell ha)) (((hbd.on hW0).cell hltC).trans c0C) (((hbd.on hW0).cell hltC).trans c1C)) @hllC ?_
 refine ⟨Nx,?_⟩
 refine monoR (fun v w'=>Ints w' v [e.target,(e.terms.length:Int)]) (fun v w w1 hS h=>h.next hS) ?_ ?_
 ·intro w5 h5
  exact mk2 _ _ hIC (by unfold I64; omega) (fun v w6 h6 hi6=>⟨h5.on h6,h6,hi6⟩)
 rintro w3 h9 v2 hi3
 have hb3:=hbd.on h9
 have ho3:=hod.keep h9
 have hCC:=hodr.on h9
 refine appendL ho3 hb3.size hi3 (by simp only [List.length_append,List.length_cons,List.length_nil] at hpreB ⊢; omega) (lL hlC hCC.size) hnC (cellsAre_keep hcC (fun a ha=>hCC.cell ha)) (fun v4 w4 ho4 hg4 hn4 hc4 hb4l=>?_)
 have hb4:=hb3.grown hg4 hb3.size (fun j hj=>(owns_own ho3 hj).2.1)
 refine Xa0 ?_
 refine ⟨TxD trmL ((([(goal.length:Int)] ++ (goal.take iA).flatMap clsL ++ [c.need,(c.claims.length:Int)]) ++ (c.claims.take iB).flatMap clmL ++ [m.vars,(m.eqs.length:Int)]) ++ (m.eqs.take iC).flatMap eqnL ++ [e.target,(e.terms.length:Int)]) e.terms bB [.int .i64 m.vars,.slice (some ⟨cbC,coC,none⟩) m.eqs.length ccB] w,grMu e.terms.length,⟨hb4,_,0,rfl,by omega,by simpa using ho4,hn4,hc4,hb4l⟩,?_⟩
 have hpreC:((([(goal.length:Int)] ++ (goal.take iA).flatMap clsL ++ [c.need,(c.claims.length:Int)]) ++ (c.claims.take iB).flatMap clmL ++ [m.vars,(m.eqs.length:Int)]) ++ (m.eqs.take iC).flatMap eqnL ++ [e.target,(e.terms.length:Int)]).length + (e.terms.flatMap trmL).length ≤ 1000000:=by simp only [List.length_append,List.length_cons,List.length_nil] at hpreB ⊢; omega
 clear hc4 ho4 hb4 hg4 hn4 hb4l ho3 hb3 hi3 h9 hCC hbd hod hodr hoC hnC hcC hlC
 rintro _ _ wD ⟨hbD,ovD,iD,rfl,hiD,hoD,hnD,hcD,hlD⟩
 unfold loop_26_72
 by_cases hinD:iD = e.terms.length
 ·rw [List.take_of_length_le (l:=e.terms) (by omega)] at hoD
  subst hinD
  refine Xa (An3 @hcD ((hbD.cell hltC).trans c1C) @hllC) ?_
  refine ⟨⟨hbD,_,_,iC + 1,rfl,by omega,?_,hnD,hcD,hlD⟩,by simp only [grMu3_eq]; omega⟩
  rw [hstC]
  simpa [eqnL] using hoD
 have eD:e.terms[iD]? = some e.terms[iD]:=gE (by omega)
 have hstD:=flat_take_step trmL _ _ _ eD
 have hleD:=flat_step_le trmL _ _ _ eD
 obtain ⟨cbD,coD,rfl,hltD,c0D,c1D,i0D,i1D⟩:=hrowC.at (i:=iD) (by omega)
 generalize e.terms[iD] = t at *
 have hllD:(iD:Int) < e.terms.length:=by omega
 have hfxD:(trmL t).length = 2:=rfl
 refine Xa (An4 @hcD ((hbD.cell hltC).trans c1C) @hllC @hllD) ?_
 unfold held_26_82
 simp only [List.getD_cons_succ,List.getD_cons_zero]
 have hbd:Below w.heap.size w { wD with drawn:=wD.drawn + 1 }:=hbD.on .drawn
 have hodr:Below wD.heap.size wD { wD with drawn:=wD.drawn + 1 }:=.drawn
 have hod:OwnI { wD with drawn:=wD.drawn + 1 } w.heap.size ovD ((([(goal.length:Int)] ++ (goal.take iA).flatMap clsL ++ [c.need,(c.claims.length:Int)]) ++ (c.claims.take iB).flatMap clmL ++ [m.vars,(m.eqs.length:Int)]) ++ (m.eqs.take iC).flatMap eqnL ++ [e.target,(e.terms.length:Int)] ++ (e.terms.take iD).flatMap trmL):=hoD.keep .drawn
 refine ⟨Nx { wD with drawn:=wD.drawn + 1 },bR,by trivial,?_⟩
 generalize ({ wD with drawn:=wD.drawn + 1 }:World) = W9 at *
 refine Xf (fun W0 hW0=>An4 (cellsAre_keep hcD (fun a ha=>(hodr.on hW0).cell ha)) (((hbd.on hW0).cell hltC).trans c1C) (((hbd.on hW0).cell hltD).trans c0D) (((hbd.on hW0).cell hltD).trans c1D)) (An2 @hllC @hllD) ?_
 refine ⟨Nx,?_⟩
 refine monoR (fun v w'=>Ints w' v [t.var,t.base]) (fun v w w1 hS h=>h.next hS) ?_ ?_
 ·intro w5 h5
  exact mk2 _ _ i0D i1D (fun v w6 h6 hi6=>⟨h5.on h6,h6,hi6⟩)
 rintro w3 h9 v2 hi3
 have hb3:=hbd.on h9
 have ho3:=hod.keep h9
 have hCC:=hodr.on h9
 refine appendL ho3 hb3.size hi3 (by simp only [List.length_append,List.length_cons,List.length_nil] at hpreC ⊢; omega) (lL hlD hCC.size) hnD (cellsAre_keep hcD (fun a ha=>hCC.cell ha)) (fun v4 w4 ho4 hg4 hn4 hc4 hb4l=>?_)
 have hb4:=hb3.grown hg4 hb3.size (fun j hj=>(owns_own ho3 hj).2.1)
 refine Xa0 ?_
 refine ⟨⟨hb4,_,iD + 1,rfl,by omega,?_,hn4,hc4,hb4l⟩,by simp only [grMu_eq]; omega⟩
 rw [hstD]
 simpa [trmL] using ho4
end
end Go.Proofs
namespace Go.Proofs
open Go Go.Sh Go.RowKit FdSpec TkSpec CodeSpec PrSpec
section
variable {K:VK} {w w' w0 W:World}
theorem SameClauses_ok (a:List Cls) {v u:Value} (ha:GoalR w v a) (hb:GoalR w u a) (hN:(goalL a).length ≤ 1000000) (k:∀ w',Bw w w' → K (.bool true) w'):callM Tryz.prog 67 #[v,u] K w:=by
 apply sh_67_ok
 unfold sh_67
 refine rText_ok a ha hN (fun w1 h1=>?_)
 refine rText_ok a (hb.next (atOf_stay cls_vstay) h1) hN (fun w2 h2=>?_)
 refine Xa0 ?_
 exact k _ (h1.on h2)
def SkJ (n:Nat) (W:World) (vs:List Value) (w':World):Prop:=Bw W w' ∧ ∃ (u0 u:Value) (i:Nat),vs = [u0,u,.int .i64 (i:Int)] ∧ i ≤ n
def SkI (n:Nat) (W:World) (vs:List Value) (w':World):Prop:=Bw W w' ∧ ∃ (u:Value) (i:Nat),vs = [u,.int .i64 (i:Int)] ∧ i ≤ n
def skMu (n:Nat) (vs:List Value) (_:World):Nat:=match vs with | [_,_,.int _ i]=>n - i.toNat | _=>0
theorem skMu_eq (n:Nat) (a b:Value) (q:IntKind) (i:Int) (w:World):skMu n [a,b,.int q i] w = n - i.toNat:=rfl
theorem SameKnow_ok (a:List (List Knw)) {v u:Value} (ha:KnowR w v a) (hb:KnowR w u a) (k:∀ w',Bw w w' → K (.bool true) w'):callM Tryz.prog 78 #[v,u] K w:=by
 apply sh_78_ok
 unfold sh_78
 have ha':=ha
 have hb':=hb
 have la:=ha.len
 obtain ⟨ad1,c1,rfl⟩:=ha.isSlice
 obtain ⟨ad2,c2,rfl⟩:=hb.isSlice
 refine Xa0 ?_
 refine ⟨SkJ a.length w,skMu a.length,⟨bR,_,_,0,rfl,by omega⟩,?_⟩
 rintro _ _ w1 ⟨h1,u0,u1,i,rfl,hi⟩
 by_cases hin:i = a.length
 ·subst hin
  refine Xa0 ?_
  exact k _ h1
 have hii:(i:Int) < a.length:=by omega
 obtain ⟨b5,o5,v5,rfl,hb5,c5,i5⟩:=ha'.one (i:=i) (by omega)
 obtain ⟨b6,o6,v6,rfl,hb6,c6,i6⟩:=hb'.one (i:=i) (by omega)
 have i5':=i5
 have i6':=i6
 have ll:=i5.len
 generalize a[i] = l at *
 obtain ⟨ad5,cp5,rfl⟩:=i5.isSlice
 obtain ⟨ad6,cp6,rfl⟩:=i6.isSlice
 refine Xa @hii ?_
 unfold held_78_9
 simp only [List.getD_cons_succ,List.getD_cons_zero]
 have h2:Below w.heap.size w { w1 with drawn:=w1.drawn + 1 }:=h1.on .drawn
 refine ⟨Nx { w1 with drawn:=w1.drawn + 1 },bR,by trivial,?_⟩
 generalize ({ w1 with drawn:=w1.drawn + 1 }:World) = W at h2 ⊢
 refine Xf (fun W0 hW0=>An2 (((h2.on hW0).cell hb5).trans c5) (((h2.on hW0).cell hb6).trans c6)) @hii ?_
 refine ⟨Nx,fun w3 h3=>?_⟩
 refine Xa0 ?_
 refine ⟨SkI l.length w,grMu l.length,⟨h2.on h3,_,0,rfl,by omega⟩,?_⟩
 clear h2 h3
 rintro _ _ w4 ⟨h4,u4,j,rfl,hj⟩
 unfold loop_78_22
 simp only [List.getD_cons_succ,List.getD_cons_zero]
 by_cases hjn:j = l.length
 ·subst hjn
  refine Xa (An2 ((h4.cell hb5).trans c5) @hii) ?_
  refine ⟨⟨h4,_,_,i + 1,rfl,by omega⟩,?_⟩
  simp only [skMu_eq]; omega
 have hjj:(j:Int) < l.length:=by omega
 obtain ⟨b7,o7,rfl,hb7,cs7,_,hc7,v7,rfl,i7⟩:=i5'.at (i:=j) (by omega)
 obtain ⟨b8,o8,rfl,hb8,cs8,_,hc8,v8,rfl,i8⟩:=i6'.at (i:=j) (by omega)
 have d7:=hc7 0 _ rfl
 have e7:=hc7 1 _ rfl
 have d8:=hc8 0 _ rfl
 have e8:=hc8 1 _ rfl
 simp only [Nat.add_zero] at d7 d8
 generalize l[j] = x at *
 refine Xa (An3 ((h4.cell hb5).trans c5) @hii @hjj) ?_
 unfold held_78_29
 simp only [List.getD_cons_succ,List.getD_cons_zero]
 have h5:Below w.heap.size w { w4 with drawn:=w4.drawn + 1 }:=h4.on .drawn
 refine ⟨Nx { w4 with drawn:=w4.drawn + 1 },bR,by trivial,?_⟩
 generalize ({ w4 with drawn:=w4.drawn + 1 }:World) = W at h5 ⊢
 refine Xf (fun W0 hW0=>An6 (((h5.on hW0).cell hb5).trans c5) (((h5.on hW0).cell hb6).trans c6) (((h5.on hW0).cell hb7).trans d7) (((h5.on hW0).cell hb7).trans e7) (((h5.on hW0).cell hb8).trans d8) (((h5.on hW0).cell hb8).trans e8)) (An2 @hii @hjj) ?_
 refine ⟨Nx,fun w6 h6=>?_⟩
 refine Xa0 ?_
 refine SameInts_ok (i7.next (h5.on h6)) (i8.next (h5.on h6)) (fun w7 h7=>?_)
 rw [decide_eq_true rfl]
 refine Xa0 ?_
 refine ⟨⟨(h5.on h6).on h7,_,j + 1,rfl,by omega⟩,?_⟩
 simp only [grMu_eq]; omega
theorem bits_len (s:Stp):∀ l:List Int,((l.map (bitC s)).flatMap clsL).length = 14 * l.length
 | []=>rfl
 | x :: l=>by
  have:=bits_len s l
  simp only [List.map_cons,List.flatMap_cons,List.length_append,this,List.length_cons]
  have:(clsL (bitC s x)).length = 14:=rfl
  omega
theorem bitsM_goal (s:Stp) (l:List Int):(goalL (bitsM s l)).length ≤ 1000000:=by
 unfold bitsM
 split
 ·rename_i h
  have:=weigh_len h
  have e:=bits_len s l
  unfold goalL
  rw [List.length_cons,e]
  omega
 ·simp [goalL]
theorem rangeM_goal (s:Stp) (x:Int) (l:List Int):(goalL (PrSpec.rangeM s x l)).length ≤ 1000000:=by
 unfold PrSpec.rangeM
 split
 ·rename_i h
  simp only [bA] at h
  have hl:=weigh_len h.1
  unfold bitsM
  rw [if_pos h.1]
  have e:=bits_len s l
  unfold goalL
  rw [List.flatMap_append,List.length_cons,List.length_append,e]
  have:([lastC s x (weighM s l).1].flatMap clsL).length = 8:=rfl
  omega
 ·simp [goalL]
end
end Go.Proofs
namespace Go.Proofs
open Go Go.Sh Tryz
def held_11_235 (K:VK) (a5 a6 a7 a8 v11 v171 v172 v181 v182 v20 v21 v54:Value) (w:World):Prop:=
 heldM w (fun C_235 w=>(((true:Bool) = true) ∧ (pureH v172 C_235 (fun v183=>
 pureH v182 C_235 (fun v184=>
 jB .neq 4 4 v183 v184 C_235 (fun v185=>
 pureH v185 C_235 (fun v186=>
 jG v186 (pureH v171) C_235 (fun v187=>
 jG v186 (pureH v181) C_235 (fun v188=>
 ∃ S_242:World → WK,∃ R_243:VK,(∀ v w w_1,S_242 w w_1 → R_243 v w → R_243 v w_1) ∧
 (∀ w,C_235 w → (gF v186 (callM prog 62 #[v187,v188]) (fun v w_1=>C_235 w_1 ∧ S_242 w w_1 ∧ R_243 v w_1) w)) ∧
 (∃ R_244:VK,(∀ v w w_1,S_242 w w_1 → R_244 v w → R_244 v w_1) ∧
 (∀ w,C_235 w → ∀ v189,R_243 v189 w → (gF v186 (kU v189) (fun v w_1=>C_235 w_1 ∧ S_242 w w_1 ∧ R_244 v w_1) w)) ∧
 (∃ R_246:VK,(∀ v w w_1,S_242 w w_1 → R_246 v w → R_246 v w_1) ∧
 (∀ w,C_235 w → ∀ v190,R_244 v190 w → (kP v186 (.bool true) v190 (fun v w_1=>C_235 w_1 ∧ S_242 w w_1 ∧ R_246 v w_1) w)) ∧
 (∃ R_248:VK,(∀ v w w_1,S_242 w w_1 → R_248 v w → R_248 v w_1) ∧
 (∀ w,C_235 w → ∀ v191,R_246 v191 w → (C_235 w ∧ S_242 w w ∧ R_248 v191 w)) ∧
 (∃ R_250:VK,(∀ v w w_1,S_242 w w_1 → R_250 v w → R_250 v w_1) ∧
 (∀ w,C_235 w → ∀ v192,R_248 v192 w → (gF v192 (kL 26 v11) (fun v w_1=>C_235 w_1 ∧ S_242 w w_1 ∧ R_250 v w_1) w)) ∧
 (∃ R_252:VK,(∀ v w w_1,S_242 w w_1 → R_252 v w → R_252 v w_1) ∧
 (∀ w,C_235 w → ∀ v192,R_248 v192 w → (gF v192 (pureM a5) (fun v w_1=>C_235 w_1 ∧ S_242 w w_1 ∧ R_252 v w_1) w)) ∧
 (∃ R_254:VK,(∀ v w w_1,S_242 w w_1 → R_254 v w → R_254 v w_1) ∧
 (∀ w,C_235 w → ∀ v192,R_248 v192 w → ∀ v193,R_250 v193 w → ∀ v194,R_252 v194 w → (gF v192 (callM prog 68 #[v193,v194]) (fun v w_1=>C_235 w_1 ∧ S_242 w w_1 ∧ R_254 v w_1) w)) ∧
 (∃ R_258:VK,(∀ v w w_1,S_242 w w_1 → R_258 v w → R_258 v w_1) ∧
 (∀ w,C_235 w → ∀ v192,R_248 v192 w → (gF v192 (kL 26 v11) (fun v w_1=>C_235 w_1 ∧ S_242 w w_1 ∧ R_258 v w_1) w)) ∧
 (∃ R_260:VK,(∀ v w w_1,S_242 w w_1 → R_260 v w → R_260 v w_1) ∧
 (∀ w,C_235 w → ∀ v192,R_248 v192 w → (gF v192 (pureM a5) (fun v w_1=>C_235 w_1 ∧ S_242 w w_1 ∧ R_260 v w_1) w)) ∧
 (∃ R_262:VK,(∀ v w w_1,S_242 w w_1 → R_262 v w → R_262 v w_1) ∧
 (∀ w,C_235 w → ∀ v192,R_248 v192 w → ∀ v196,R_258 v196 w → ∀ v197,R_260 v197 w → (gF v192 (callM prog 69 #[v196,v197]) (fun v w_1=>C_235 w_1 ∧ S_242 w w_1 ∧ R_262 v w_1) w)) ∧
 (∃ R_266:VK,(∀ v w w_1,S_242 w w_1 → R_266 v w → R_266 v w_1) ∧
 (∀ w,C_235 w → ∀ v192,R_248 v192 w → ∀ v195,R_254 v195 w → ∀ v198,R_262 v198 w → (gF v192 (callM prog 67 #[v195,v198]) (fun v w_1=>C_235 w_1 ∧ S_242 w w_1 ∧ R_266 v w_1) w)) ∧
 (∃ R_270:VK,(∀ v w w_1,S_242 w w_1 → R_270 v w → R_270 v w_1) ∧
 (∀ w,C_235 w → ∀ v192,R_248 v192 w → ∀ v199,R_266 v199 w → (gF v192 (kU v199) (fun v w_1=>C_235 w_1 ∧ S_242 w w_1 ∧ R_270 v w_1) w)) ∧
 (∃ R_273:VK,(∀ v w w_1,S_242 w w_1 → R_273 v w → R_273 v w_1) ∧
 (∀ w,C_235 w → ∀ v192,R_248 v192 w → ∀ v200,R_270 v200 w → (kP v192 (.bool true) v200 (fun v w_1=>C_235 w_1 ∧ S_242 w w_1 ∧ R_273 v w_1) w)) ∧
 (∃ R_276:VK,(∀ v w w_1,S_242 w w_1 → R_276 v w → R_276 v w_1) ∧
 (∀ w,C_235 w → ∀ v201,R_273 v201 w → (C_235 w ∧ S_242 w w ∧ R_276 v201 w)) ∧
 (∃ R_278:VK,(∀ v w w_1,S_242 w w_1 → R_278 v w → R_278 v w_1) ∧
 (∀ w,C_235 w → ∀ v202,R_276 v202 w → (gF v202 (kL 26 v11) (fun v w_1=>C_235 w_1 ∧ S_242 w w_1 ∧ R_278 v w_1) w)) ∧
 (∃ R_280:VK,(∀ v w w_1,S_242 w w_1 → R_280 v w → R_280 v w_1) ∧
 (∀ w,C_235 w → ∀ v202,R_276 v202 w → (gF v202 (pureM a6) (fun v w_1=>C_235 w_1 ∧ S_242 w w_1 ∧ R_280 v w_1) w)) ∧
 (∃ R_282:VK,(∀ v w w_1,S_242 w w_1 → R_282 v w → R_282 v w_1) ∧
 (∀ w,C_235 w → ∀ v202,R_276 v202 w → (gF v202 (pureM a5) (fun v w_1=>C_235 w_1 ∧ S_242 w w_1 ∧ R_282 v w_1) w)) ∧
 (∃ R_284:VK,(∀ v w w_1,S_242 w w_1 → R_284 v w → R_284 v w_1) ∧
 (∀ w,C_235 w → ∀ v202,R_276 v202 w → ∀ v203,R_278 v203 w → ∀ v204,R_280 v204 w → ∀ v205,R_282 v205 w → (gF v202 (callM prog 40 #[v203,v204,v205]) (fun v w_1=>C_235 w_1 ∧ S_242 w w_1 ∧ R_284 v w_1) w)) ∧
 (∃ R_289:VK,(∀ v w w_1,S_242 w w_1 → R_289 v w → R_289 v w_1) ∧
 (∀ w,C_235 w → ∀ v202,R_276 v202 w → (gF v202 (kL 26 v11) (fun v w_1=>C_235 w_1 ∧ S_242 w w_1 ∧ R_289 v w_1) w)) ∧
 (∃ R_291:VK,(∀ v w w_1,S_242 w w_1 → R_291 v w → R_291 v w_1) ∧
 (∀ w,C_235 w → ∀ v202,R_276 v202 w → (gF v202 (pureM a6) (fun v w_1=>C_235 w_1 ∧ S_242 w w_1 ∧ R_291 v w_1) w)) ∧
 (∃ R_293:VK,(∀ v w w_1,S_242 w w_1 → R_293 v w → R_293 v w_1) ∧
 (∀ w,C_235 w → ∀ v202,R_276 v202 w → (gF v202 (pureM a5) (fun v w_1=>C_235 w_1 ∧ S_242 w w_1 ∧ R_293 v w_1) w)) ∧
 (∃ R_295:VK,(∀ v w w_1,S_242 w w_1 → R_295 v w → R_295 v w_1) ∧
 (∀ w,C_235 w → ∀ v202,R_276 v202 w → ∀ v207,R_289 v207 w → ∀ v208,R_291 v208 w → ∀ v209,R_293 v209 w → (gF v202 (callM prog 70 #[v207,v208,v209]) (fun v w_1=>C_235 w_1 ∧ S_242 w w_1 ∧ R_295 v w_1) w)) ∧
 (∃ R_300:VK,(∀ v w w_1,S_242 w w_1 → R_300 v w → R_300 v w_1) ∧
 (∀ w,C_235 w → ∀ v202,R_276 v202 w → ∀ v206,R_284 v206 w → ∀ v210,R_295 v210 w → (gF v202 (callM prog 67 #[v206,v210]) (fun v w_1=>C_235 w_1 ∧ S_242 w w_1 ∧ R_300 v w_1) w)) ∧
 (∃ R_304:VK,(∀ v w w_1,S_242 w w_1 → R_304 v w → R_304 v w_1) ∧
 (∀ w,C_235 w → ∀ v202,R_276 v202 w → ∀ v211,R_300 v211 w → (gF v202 (kU v211) (fun v w_1=>C_235 w_1 ∧ S_242 w w_1 ∧ R_304 v w_1) w)) ∧
 (∃ R_307:VK,(∀ v w w_1,S_242 w w_1 → R_307 v w → R_307 v w_1) ∧
 (∀ w,C_235 w → ∀ v202,R_276 v202 w → ∀ v212,R_304 v212 w → (kP v202 (.bool true) v212 (fun v w_1=>C_235 w_1 ∧ S_242 w w_1 ∧ R_307 v w_1) w)) ∧
 (∃ R_310:VK,(∀ v w w_1,S_242 w w_1 → R_310 v w → R_310 v w_1) ∧
 (∀ w,C_235 w → ∀ v213,R_307 v213 w → (C_235 w ∧ S_242 w w ∧ R_310 v213 w)) ∧
 (∃ R_312:VK,(∀ v w w_1,S_242 w w_1 → R_312 v w → R_312 v w_1) ∧
 (∀ w,C_235 w → ∀ v214,R_310 v214 w → (gF v214 (kL 26 v11) (fun v w_1=>C_235 w_1 ∧ S_242 w w_1 ∧ R_312 v w_1) w)) ∧
 (∃ R_314:VK,(∀ v w w_1,S_242 w w_1 → R_314 v w → R_314 v w_1) ∧
 (∀ w,C_235 w → ∀ v214,R_310 v214 w → (gF v214 (pureM a6) (fun v w_1=>C_235 w_1 ∧ S_242 w w_1 ∧ R_314 v w_1) w)) ∧
 (∃ R_316:VK,(∀ v w w_1,S_242 w w_1 → R_316 v w → R_316 v w_1) ∧
 (∀ w,C_235 w → ∀ v214,R_310 v214 w → (gF v214 (pureM a5) (fun v w_1=>C_235 w_1 ∧ S_242 w w_1 ∧ R_316 v w_1) w)) ∧
 (∃ R_318:VK,(∀ v w w_1,S_242 w w_1 → R_318 v w → R_318 v w_1) ∧
 (∀ w,C_235 w → ∀ v214,R_310 v214 w → ∀ v215,R_312 v215 w → ∀ v216,R_314 v216 w → ∀ v217,R_316 v217 w → (gF v214 (callM prog 71 #[v215,v216,v217]) (fun v w_1=>C_235 w_1 ∧ S_242 w w_1 ∧ R_318 v w_1) w)) ∧
 (∃ R_323:VK,(∀ v w w_1,S_242 w w_1 → R_323 v w → R_323 v w_1) ∧
 (∀ w,C_235 w → ∀ v214,R_310 v214 w → (gF v214 (kL 26 v11) (fun v w_1=>C_235 w_1 ∧ S_242 w w_1 ∧ R_323 v w_1) w)) ∧
 (∃ R_325:VK,(∀ v w w_1,S_242 w w_1 → R_325 v w → R_325 v w_1) ∧
 (∀ w,C_235 w → ∀ v214,R_310 v214 w → (gF v214 (pureM a6) (fun v w_1=>C_235 w_1 ∧ S_242 w w_1 ∧ R_325 v w_1) w)) ∧
 (∃ R_327:VK,(∀ v w w_1,S_242 w w_1 → R_327 v w → R_327 v w_1) ∧
 (∀ w,C_235 w → ∀ v214,R_310 v214 w → (gF v214 (pureM a5) (fun v w_1=>C_235 w_1 ∧ S_242 w w_1 ∧ R_327 v w_1) w)) ∧
 (∃ R_329:VK,(∀ v w w_1,S_242 w w_1 → R_329 v w → R_329 v w_1) ∧
 (∀ w,C_235 w → ∀ v214,R_310 v214 w → ∀ v219,R_323 v219 w → ∀ v220,R_325 v220 w → ∀ v221,R_327 v221 w → (gF v214 (callM prog 72 #[v219,v220,v221]) (fun v w_1=>C_235 w_1 ∧ S_242 w w_1 ∧ R_329 v w_1) w)) ∧
 (∃ R_334:VK,(∀ v w w_1,S_242 w w_1 → R_334 v w → R_334 v w_1) ∧
 (∀ w,C_235 w → ∀ v214,R_310 v214 w → ∀ v218,R_318 v218 w → ∀ v222,R_329 v222 w → (gF v214 (kB .neq 3 4 v218 v222) (fun v w_1=>C_235 w_1 ∧ S_242 w w_1 ∧ R_334 v w_1) w)) ∧
 (∃ R_338:VK,(∀ v w w_1,S_242 w w_1 → R_338 v w → R_338 v w_1) ∧
 (∀ w,C_235 w → ∀ v214,R_310 v214 w → ∀ v223,R_334 v223 w → (kP v214 (.bool true) v223 (fun v w_1=>C_235 w_1 ∧ S_242 w w_1 ∧ R_338 v w_1) w)) ∧
 (∃ R_341:VK,(∀ v w w_1,S_242 w w_1 → R_341 v w → R_341 v w_1) ∧
 (∀ w,C_235 w → ∀ v224,R_338 v224 w → (C_235 w ∧ S_242 w w ∧ R_341 v224 w)) ∧
 (∃ R_343:VK,(∀ v w w_1,S_242 w w_1 → R_343 v w → R_343 v w_1) ∧
 (∀ w,C_235 w → ∀ v225,R_341 v225 w → (gF v225 (kL 26 v11) (fun v w_1=>C_235 w_1 ∧ S_242 w w_1 ∧ R_343 v w_1) w)) ∧
 (∃ R_345:VK,(∀ v w w_1,S_242 w w_1 → R_345 v w → R_345 v w_1) ∧
 (∀ w,C_235 w → ∀ v225,R_341 v225 w → (gF v225 (pureM a6) (fun v w_1=>C_235 w_1 ∧ S_242 w w_1 ∧ R_345 v w_1) w)) ∧
 (∃ R_347:VK,(∀ v w w_1,S_242 w w_1 → R_347 v w → R_347 v w_1) ∧
 (∀ w,C_235 w → ∀ v225,R_341 v225 w → (gF v225 (pureM a8) (fun v w_1=>C_235 w_1 ∧ S_242 w w_1 ∧ R_347 v w_1) w)) ∧
 (∃ R_349:VK,(∀ v w w_1,S_242 w w_1 → R_349 v w → R_349 v w_1) ∧
 (∀ w,C_235 w → ∀ v225,R_341 v225 w → (gF v225 (kL 74 v20) (fun v w_1=>C_235 w_1 ∧ S_242 w w_1 ∧ R_349 v w_1) w)) ∧
 (∃ R_351:VK,(∀ v w w_1,S_242 w w_1 → R_351 v w → R_351 v w_1) ∧
 (∀ w,C_235 w → ∀ v225,R_341 v225 w → ∀ v226,R_343 v226 w → ∀ v227,R_345 v227 w → ∀ v228,R_347 v228 w → ∀ v229,R_349 v229 w → (gF v225 (callM prog 47 #[v226,v227,v228,v229]) (fun v w_1=>C_235 w_1 ∧ S_242 w w_1 ∧ R_351 v w_1) w)) ∧
 (∃ R_357:VK,(∀ v w w_1,S_242 w w_1 → R_357 v w → R_357 v w_1) ∧
 (∀ w,C_235 w → ∀ v225,R_341 v225 w → (gF v225 (kL 26 v11) (fun v w_1=>C_235 w_1 ∧ S_242 w w_1 ∧ R_357 v w_1) w)) ∧
 (∃ R_359:VK,(∀ v w w_1,S_242 w w_1 → R_359 v w → R_359 v w_1) ∧
 (∀ w,C_235 w → ∀ v225,R_341 v225 w → (gF v225 (pureM a6) (fun v w_1=>C_235 w_1 ∧ S_242 w w_1 ∧ R_359 v w_1) w)) ∧
 (∃ R_361:VK,(∀ v w w_1,S_242 w w_1 → R_361 v w → R_361 v w_1) ∧
 (∀ w,C_235 w → ∀ v225,R_341 v225 w → (gF v225 (pureM a8) (fun v w_1=>C_235 w_1 ∧ S_242 w w_1 ∧ R_361 v w_1) w)) ∧
 (∃ R_363:VK,(∀ v w w_1,S_242 w w_1 → R_363 v w → R_363 v w_1) ∧
 (∀ w,C_235 w → ∀ v225,R_341 v225 w → (gF v225 (kL 74 v20) (fun v w_1=>C_235 w_1 ∧ S_242 w w_1 ∧ R_363 v w_1) w)) ∧
 (∀ w,C_235 w → ∀ v189,R_243 v189 w → ∀ v190,R_244 v190 w → ∀ v191,R_246 v191 w → ∀ v192,R_248 v192 w → ∀ v193,R_250 v193 w → ∀ v194,R_252 v194 w → ∀ v195,R_254 v195 w → ∀ v196,R_258 v196 w → ∀ v197,R_260 v197 w → ∀ v198,R_262 v198 w → ∀ v199,R_266 v199 w → ∀ v200,R_270 v200 w → ∀ v201,R_273 v201 w → ∀ v202,R_276 v202 w → ∀ v203,R_278 v203 w → ∀ v204,R_280 v204 w → ∀ v205,R_282 v205 w → ∀ v206,R_284 v206 w → ∀ v207,R_289 v207 w → ∀ v208,R_291 v208 w → ∀ v209,R_293 v209 w → ∀ v210,R_295 v210 w → ∀ v211,R_300 v211 w → ∀ v212,R_304 v212 w → ∀ v213,R_307 v213 w → ∀ v214,R_310 v214 w → ∀ v215,R_312 v215 w → ∀ v216,R_314 v216 w → ∀ v217,R_316 v217 w → ∀ v218,R_318 v218 w → ∀ v219,R_323 v219 w → ∀ v220,R_325 v220 w → ∀ v221,R_327 v221 w → ∀ v222,R_329 v222 w → ∀ v223,R_334 v223 w → ∀ v224,R_338 v224 w → ∀ v225,R_341 v225 w → ∀ v226,R_343 v226 w → ∀ v227,R_345 v227 w → ∀ v228,R_347 v228 w → ∀ v229,R_349 v229 w → ∀ v230,R_351 v230 w → ∀ v231,R_357 v231 w → ∀ v232,R_359 v232 w → ∀ v233,R_361 v233 w → ∀ v234,R_363 v234 w → (
 gF v225 (callM prog 73 #[v231,v232,v233,v234]) (fun v235 w=>
 gF v225 (kB .neq 4 4 v230 v235) (fun v236 w=>
 kP v225 (.bool true) v236 (fun v237 w=>
 condM v237
 (K (.bool false) w)
 (kL 26 v11 (fun v239 w=>
 callM prog 74 #[v239,a5] (fun v241 w=>
 kE 0 3 v241 (fun v242 w=>
 kE 1 4 v241 (fun v243 w=>
 kL 26 v11 (fun v245 w=>
 callM prog 75 #[v245,a5] (fun v247 w=>
 kE 0 3 v247 (fun v248 w=>
 kE 1 4 v247 (fun v249 w=>
 kL 26 v11 (fun v251 w=>
 callM prog 76 #[v251,a6,a5] (fun v254 w=>
 kE 0 24 v254 (fun v255 w=>
 kE 1 28 v254 (fun v256 w=>
 kE 2 4 v254 (fun v257 w=>
 kL 26 v11 (fun v259 w=>
 callM prog 77 #[v259,a6,a5] (fun v262 w=>
 kE 0 24 v262 (fun v263 w=>
 kE 1 28 v262 (fun v264 w=>
 kE 2 4 v262 (fun v265 w=>
 kB .neq 3 4 v242 v248 (fun v268 w=>
 gF v268 (pureM v243) (fun v270 w=>
 gF v268 (pureM v249) (fun v271 w=>
 gF v268 (kB .neq 4 4 v270 v271) (fun v272 w=>
 kP v268 (.bool true) v272 (fun v273 w=>
 gF v273 (pureM v257) (fun v275 w=>
 gF v273 (pureM v265) (fun v276 w=>
 gF v273 (kB .neq 4 4 v275 v276) (fun v277 w=>
 kP v273 (.bool true) v277 (fun v278 w=>
 gF v278 (pureM v255) (fun v280 w=>
 gF v278 (pureM v263) (fun v281 w=>
 gF v278 (callM prog 62 #[v280,v281]) (fun v282 w=>
 gF v278 (kU v282) (fun v283 w=>
 kP v278 (.bool true) v283 (fun v284 w=>
 gF v284 (pureM v256) (fun v286 w=>
 gF v284 (pureM v264) (fun v287 w=>
 gF v284 (callM prog 78 #[v286,v287]) (fun v288 w=>
 gF v284 (kU v288) (fun v289 w=>
 kP v284 (.bool true) v289 (fun v290 w=>
 condM v290
 (K (.bool false) w)
 (kL 26 v11 (fun v292 w=>
 callM prog 45 #[v292,a6,a7,a8] (fun v296 w=>
 kE 0 74 v296 (fun v297 w=>
 kE 1 4 v296 (fun v298 w=>
 kA 74 (fun v42 w=>
 kS 74 v42 v297 (fun _ w=>
 kL 26 v11 (fun v300 w=>
 callM prog 79 #[v300,a6,a7,a8] (fun v304 w=>
 kE 0 74 v304 (fun v305 w=>
 kE 1 4 v304 (fun v306 w=>
 kA 74 (fun v44 w=>
 kS 74 v44 v305 (fun _ w=>
 kL 34 v21 (fun v308 w=>
 callM prog 51 #[v308] (fun v309 w=>
 kE 0 9 v309 (fun v310 w=>
 kE 1 4 v309 (fun v311 w=>
 kL 34 v21 (fun v313 w=>
 callM prog 80 #[v313] (fun v314 w=>
 kE 0 9 v314 (fun v315 w=>
 kE 1 4 v314 (fun v316 w=>
 callM prog 52 #[a8] (fun v319 w=>
 kE 0 34 v319 (fun v320 w=>
 kE 1 4 v319 (fun v321 w=>
 kA 34 (fun v50 w=>
 kS 34 v50 v320 (fun _ w=>
 callM prog 81 #[a8] (fun v324 w=>
 kE 0 34 v324 (fun v325 w=>
 kE 1 4 v324 (fun v326 w=>
 kA 34 (fun v52 w=>
 kS 34 v52 v325 (fun _ w=>
 gT v54 (kL 74 v42) (fun v329 w=>
 gT v54 (kL 74 v44) (fun v330 w=>
 gT v54 (callM prog 49 #[v329,v330]) (fun v331 w=>
 kP v54 v331 (.bool false) (fun v332 w=>
 gT v332 (pureM v298) (fun v334 w=>
 gT v332 (pureM v306) (fun v335 w=>
 gT v332 (kB .eql 4 4 v334 v335) (fun v336 w=>
 kP v332 v336 (.bool false) (fun v337 w=>
 gT v337 (pureM v310) (fun v339 w=>
 gT v337 (pureM v315) (fun v340 w=>
 gT v337 (kB .eql 9 4 v339 v340) (fun v341 w=>
 kP v337 v341 (.bool false) (fun v342 w=>
 gT v342 (pureM v311) (fun v344 w=>
 gT v342 (pureM v316) (fun v345 w=>
 gT v342 (kB .eql 4 4 v344 v345) (fun v346 w=>
 kP v342 v346 (.bool false) (fun v347 w=>
 gT v347 (pureM v321) (fun v349 w=>
 gT v347 (pureM v326) (fun v350 w=>
 gT v347 (kB .eql 4 4 v349 v350) (fun v351 w=>
 kP v347 v351 (.bool false) (fun v352 w=>
 gT v352 (kL 34 v50) (fun v354 w=>
 gT v352 (kL 34 v52) (fun v355 w=>
 gT v352 (callM prog 20 #[v354,v355]) (fun v356 w=>
 kP v352 v356 (.bool false) (fun v357 w=>
 K v357 w) w) w) w) w) w) w) w) w) w) w) w) w) w) w) w) w) w) w) w) w) w) w) w) w) w) w) w) w) w) w) w) w) w) w) w) w) w) w) w) w) w) w) w) w) w) w) w) w) w) w) w) w) w) w)) w) w) w) w) w) w) w) w) w) w) w) w) w) w) w) w) w) w) w) w) w) w) w) w) w) w) w) w) w) w) w) w) w) w) w) w) w)) w) w) w))))))))))))))))))))))))))))))))))))))))))))))))))))))))
def held_11_53 (K:VK) (a3 a4 a5 a6 a7 a8 v101 v108 v11 v12 v13 v20 v21 v24 v26 v54:Value) (w:World):Prop:=
 heldM w (fun C_53 w=>(((true:Bool) = true) ∧ (pureH v101 C_53 (fun v109=>
 pureH v108 C_53 (fun v110=>
 jB .neq 4 4 v109 v110 C_53 (fun v111=>
 pureH v111 C_53 (fun v112=>
 jG v112 (jL 26 v24) C_53 (fun v113=>
 jG v112 (jL 26 v26) C_53 (fun v114=>
 ∃ S_60:World → WK,∃ R_61:VK,(∀ v w w_1,S_60 w w_1 → R_61 v w → R_61 v w_1) ∧
 (∀ w,C_53 w → (gF v112 (callM prog 57 #[v113,v114]) (fun v w_1=>C_53 w_1 ∧ S_60 w w_1 ∧ R_61 v w_1) w)) ∧
 (∃ R_62:VK,(∀ v w w_1,S_60 w w_1 → R_62 v w → R_62 v w_1) ∧
 (∀ w,C_53 w → ∀ v115,R_61 v115 w → (gF v112 (kU v115) (fun v w_1=>C_53 w_1 ∧ S_60 w w_1 ∧ R_62 v w_1) w)) ∧
 (∃ R_64:VK,(∀ v w w_1,S_60 w w_1 → R_64 v w → R_64 v w_1) ∧
 (∀ w,C_53 w → ∀ v116,R_62 v116 w → (kP v112 (.bool true) v116 (fun v w_1=>C_53 w_1 ∧ S_60 w w_1 ∧ R_64 v w_1) w)) ∧
 (∃ R_66:VK,(∀ v w w_1,S_60 w w_1 → R_66 v w → R_66 v w_1) ∧
 (∀ w,C_53 w → ∀ v117,R_64 v117 w → (C_53 w ∧ S_60 w w ∧ R_66 v117 w)) ∧
 (∃ R_68:VK,(∀ v w w_1,S_60 w w_1 → R_68 v w → R_68 v w_1) ∧
 (∀ w,C_53 w → ∀ v118,R_66 v118 w → (gF v118 (kL 26 v11) (fun v w_1=>C_53 w_1 ∧ S_60 w w_1 ∧ R_68 v w_1) w)) ∧
 (∃ R_70:VK,(∀ v w w_1,S_60 w w_1 → R_70 v w → R_70 v w_1) ∧
 (∀ w,C_53 w → ∀ v118,R_66 v118 w → (gF v118 (kL 88 v12) (fun v w_1=>C_53 w_1 ∧ S_60 w w_1 ∧ R_70 v w_1) w)) ∧
 (∃ R_72:VK,(∀ v w w_1,S_60 w w_1 → R_72 v w → R_72 v w_1) ∧
 (∀ w,C_53 w → ∀ v118,R_66 v118 w → ∀ v119,R_68 v119 w → ∀ v120,R_70 v120 w → (gF v118 (callM prog 58 #[v119,v120]) (fun v w_1=>C_53 w_1 ∧ S_60 w w_1 ∧ R_72 v w_1) w)) ∧
 (∃ R_76:VK,(∀ v w w_1,S_60 w w_1 → R_76 v w → R_76 v w_1) ∧
 (∀ w,C_53 w → ∀ v118,R_66 v118 w → (gF v118 (kL 26 v11) (fun v w_1=>C_53 w_1 ∧ S_60 w w_1 ∧ R_76 v w_1) w)) ∧
 (∃ R_78:VK,(∀ v w w_1,S_60 w w_1 → R_78 v w → R_78 v w_1) ∧
 (∀ w,C_53 w → ∀ v118,R_66 v118 w → (gF v118 (kL 88 v12) (fun v w_1=>C_53 w_1 ∧ S_60 w w_1 ∧ R_78 v w_1) w)) ∧
 (∃ R_80:VK,(∀ v w w_1,S_60 w w_1 → R_80 v w → R_80 v w_1) ∧
 (∀ w,C_53 w → ∀ v118,R_66 v118 w → ∀ v122,R_76 v122 w → ∀ v123,R_78 v123 w → (gF v118 (callM prog 59 #[v122,v123]) (fun v w_1=>C_53 w_1 ∧ S_60 w w_1 ∧ R_80 v w_1) w)) ∧
 (∃ R_84:VK,(∀ v w w_1,S_60 w w_1 → R_84 v w → R_84 v w_1) ∧
 (∀ w,C_53 w → ∀ v118,R_66 v118 w → ∀ v121,R_72 v121 w → ∀ v124,R_80 v124 w → (gF v118 (kB .neq 4 4 v121 v124) (fun v w_1=>C_53 w_1 ∧ S_60 w w_1 ∧ R_84 v w_1) w)) ∧
 (∃ R_88:VK,(∀ v w w_1,S_60 w w_1 → R_88 v w → R_88 v w_1) ∧
 (∀ w,C_53 w → ∀ v118,R_66 v118 w → ∀ v125,R_84 v125 w → (kP v118 (.bool true) v125 (fun v w_1=>C_53 w_1 ∧ S_60 w w_1 ∧ R_88 v w_1) w)) ∧
 (∃ R_91:VK,(∀ v w w_1,S_60 w w_1 → R_91 v w → R_91 v w_1) ∧
 (∀ w,C_53 w → ∀ v126,R_88 v126 w → (C_53 w ∧ S_60 w w ∧ R_91 v126 w)) ∧
 (∃ R_93:VK,(∀ v w w_1,S_60 w w_1 → R_93 v w → R_93 v w_1) ∧
 (∀ w,C_53 w → ∀ v127,R_91 v127 w → (gF v127 (kL 26 v11) (fun v w_1=>C_53 w_1 ∧ S_60 w w_1 ∧ R_93 v w_1) w)) ∧
 (∃ R_95:VK,(∀ v w w_1,S_60 w w_1 → R_95 v w → R_95 v w_1) ∧
 (∀ w,C_53 w → ∀ v127,R_91 v127 w → (gF v127 (pureM a6) (fun v w_1=>C_53 w_1 ∧ S_60 w w_1 ∧ R_95 v w_1) w)) ∧
 (∃ R_97:VK,(∀ v w w_1,S_60 w w_1 → R_97 v w → R_97 v w_1) ∧
 (∀ w,C_53 w → ∀ v127,R_91 v127 w → (gF v127 (pureM a7) (fun v w_1=>C_53 w_1 ∧ S_60 w w_1 ∧ R_97 v w_1) w)) ∧
 (∃ R_99:VK,(∀ v w w_1,S_60 w w_1 → R_99 v w → R_99 v w_1) ∧
 (∀ w,C_53 w → ∀ v127,R_91 v127 w → ∀ v128,R_93 v128 w → ∀ v129,R_95 v129 w → ∀ v130,R_97 v130 w → (gF v127 (callM prog 44 #[v128,v129,v130]) (fun v w_1=>C_53 w_1 ∧ S_60 w w_1 ∧ R_99 v w_1) w)) ∧
 (∃ R_104:VK,(∀ v w w_1,S_60 w w_1 → R_104 v w → R_104 v w_1) ∧
 (∀ w,C_53 w → ∀ v127,R_91 v127 w → (gF v127 (kL 26 v11) (fun v w_1=>C_53 w_1 ∧ S_60 w w_1 ∧ R_104 v w_1) w)) ∧
 (∃ R_106:VK,(∀ v w w_1,S_60 w w_1 → R_106 v w → R_106 v w_1) ∧
 (∀ w,C_53 w → ∀ v127,R_91 v127 w → (gF v127 (pureM a6) (fun v w_1=>C_53 w_1 ∧ S_60 w w_1 ∧ R_106 v w_1) w)) ∧
 (∃ R_108:VK,(∀ v w w_1,S_60 w w_1 → R_108 v w → R_108 v w_1) ∧
 (∀ w,C_53 w → ∀ v127,R_91 v127 w → (gF v127 (pureM a7) (fun v w_1=>C_53 w_1 ∧ S_60 w w_1 ∧ R_108 v w_1) w)) ∧
 (∃ R_110:VK,(∀ v w w_1,S_60 w w_1 → R_110 v w → R_110 v w_1) ∧
 (∀ w,C_53 w → ∀ v127,R_91 v127 w → ∀ v132,R_104 v132 w → ∀ v133,R_106 v133 w → ∀ v134,R_108 v134 w → (gF v127 (callM prog 60 #[v132,v133,v134]) (fun v w_1=>C_53 w_1 ∧ S_60 w w_1 ∧ R_110 v w_1) w)) ∧
 (∃ R_115:VK,(∀ v w w_1,S_60 w w_1 → R_115 v w → R_115 v w_1) ∧
 (∀ w,C_53 w → ∀ v127,R_91 v127 w → ∀ v131,R_99 v131 w → ∀ v135,R_110 v135 w → (gF v127 (kB .neq 3 4 v131 v135) (fun v w_1=>C_53 w_1 ∧ S_60 w w_1 ∧ R_115 v w_1) w)) ∧
 (∃ R_119:VK,(∀ v w w_1,S_60 w w_1 → R_119 v w → R_119 v w_1) ∧
 (∀ w,C_53 w → ∀ v127,R_91 v127 w → ∀ v136,R_115 v136 w → (kP v127 (.bool true) v136 (fun v w_1=>C_53 w_1 ∧ S_60 w w_1 ∧ R_119 v w_1) w)) ∧
 (∃ R_122:VK,(∀ v w w_1,S_60 w w_1 → R_122 v w → R_122 v w_1) ∧
 (∀ w,C_53 w → ∀ v137,R_119 v137 w → (C_53 w ∧ S_60 w w ∧ R_122 v137 w)) ∧
 (∃ R_124:VK,(∀ v w w_1,S_60 w w_1 → R_124 v w → R_124 v w_1) ∧
 (∀ w,C_53 w → ∀ v138,R_122 v138 w → (gF v138 (kL 26 v11) (fun v w_1=>C_53 w_1 ∧ S_60 w w_1 ∧ R_124 v w_1) w)) ∧
 (∃ R_126:VK,(∀ v w w_1,S_60 w w_1 → R_126 v w → R_126 v w_1) ∧
 (∀ w,C_53 w → ∀ v138,R_122 v138 w → (gF v138 (kL 69 v13) (fun v w_1=>C_53 w_1 ∧ S_60 w w_1 ∧ R_126 v w_1) w)) ∧
 (∃ R_128:VK,(∀ v w w_1,S_60 w w_1 → R_128 v w → R_128 v w_1) ∧
 (∀ w,C_53 w → ∀ v138,R_122 v138 w → (gF v138 (pureM a3) (fun v w_1=>C_53 w_1 ∧ S_60 w w_1 ∧ R_128 v w_1) w)) ∧
 (∃ R_130:VK,(∀ v w w_1,S_60 w w_1 → R_130 v w → R_130 v w_1) ∧
 (∀ w,C_53 w → ∀ v138,R_122 v138 w → ∀ v139,R_124 v139 w → ∀ v140,R_126 v140 w → ∀ v141,R_128 v141 w → (gF v138 (callM prog 41 #[v139,v140,v141]) (fun v w_1=>C_53 w_1 ∧ S_60 w w_1 ∧ R_130 v w_1) w)) ∧
 (∃ R_135:VK,(∀ v w w_1,S_60 w w_1 → R_135 v w → R_135 v w_1) ∧
 (∀ w,C_53 w → ∀ v138,R_122 v138 w → (gF v138 (kL 26 v11) (fun v w_1=>C_53 w_1 ∧ S_60 w w_1 ∧ R_135 v w_1) w)) ∧
 (∃ R_137:VK,(∀ v w w_1,S_60 w w_1 → R_137 v w → R_137 v w_1) ∧
 (∀ w,C_53 w → ∀ v138,R_122 v138 w → (gF v138 (kL 69 v13) (fun v w_1=>C_53 w_1 ∧ S_60 w w_1 ∧ R_137 v w_1) w)) ∧
 (∃ R_139:VK,(∀ v w w_1,S_60 w w_1 → R_139 v w → R_139 v w_1) ∧
 (∀ w,C_53 w → ∀ v138,R_122 v138 w → (gF v138 (pureM a3) (fun v w_1=>C_53 w_1 ∧ S_60 w w_1 ∧ R_139 v w_1) w)) ∧
 (∃ R_141:VK,(∀ v w w_1,S_60 w w_1 → R_141 v w → R_141 v w_1) ∧
 (∀ w,C_53 w → ∀ v138,R_122 v138 w → ∀ v143,R_135 v143 w → ∀ v144,R_137 v144 w → ∀ v145,R_139 v145 w → (gF v138 (callM prog 61 #[v143,v144,v145]) (fun v w_1=>C_53 w_1 ∧ S_60 w w_1 ∧ R_141 v w_1) w)) ∧
 (∃ R_146:VK,(∀ v w w_1,S_60 w w_1 → R_146 v w → R_146 v w_1) ∧
 (∀ w,C_53 w → ∀ v138,R_122 v138 w → ∀ v142,R_130 v142 w → ∀ v146,R_141 v146 w → (gF v138 (kB .neq 4 4 v142 v146) (fun v w_1=>C_53 w_1 ∧ S_60 w w_1 ∧ R_146 v w_1) w)) ∧
 (∃ R_150:VK,(∀ v w w_1,S_60 w w_1 → R_150 v w → R_150 v w_1) ∧
 (∀ w,C_53 w → ∀ v138,R_122 v138 w → ∀ v147,R_146 v147 w → (kP v138 (.bool true) v147 (fun v w_1=>C_53 w_1 ∧ S_60 w w_1 ∧ R_150 v w_1) w)) ∧
 (∃ R_153:VK,(∀ v w w_1,S_60 w w_1 → R_153 v w → R_153 v w_1) ∧
 (∀ w,C_53 w → ∀ v148,R_150 v148 w → (C_53 w ∧ S_60 w w ∧ R_153 v148 w)) ∧
 (∃ R_155:VK,(∀ v w w_1,S_60 w w_1 → R_155 v w → R_155 v w_1) ∧
 (∀ w,C_53 w → ∀ v149,R_153 v149 w → (gF v149 (kL 26 v11) (fun v w_1=>C_53 w_1 ∧ S_60 w w_1 ∧ R_155 v w_1) w)) ∧
 (∃ R_157:VK,(∀ v w w_1,S_60 w w_1 → R_157 v w → R_157 v w_1) ∧
 (∀ w,C_53 w → ∀ v149,R_153 v149 w → (gF v149 (kL 69 v13) (fun v w_1=>C_53 w_1 ∧ S_60 w w_1 ∧ R_157 v w_1) w)) ∧
 (∃ R_159:VK,(∀ v w w_1,S_60 w w_1 → R_159 v w → R_159 v w_1) ∧
 (∀ w,C_53 w → ∀ v149,R_153 v149 w → (gF v149 (pureM a6) (fun v w_1=>C_53 w_1 ∧ S_60 w w_1 ∧ R_159 v w_1) w)) ∧
 (∃ R_161:VK,(∀ v w w_1,S_60 w w_1 → R_161 v w → R_161 v w_1) ∧
 (∀ w,C_53 w → ∀ v149,R_153 v149 w → (gF v149 (pureM a3) (fun v w_1=>C_53 w_1 ∧ S_60 w w_1 ∧ R_161 v w_1) w)) ∧
 (∃ R_163:VK,(∀ v w w_1,S_60 w w_1 → R_163 v w → R_163 v w_1) ∧
 (∀ w,C_53 w → ∀ v149,R_153 v149 w → ∀ v150,R_155 v150 w → ∀ v151,R_157 v151 w → ∀ v152,R_159 v152 w → ∀ v153,R_161 v153 w → (gF v149 (callM prog 63 #[v150,v151,v152,v153]) (fun v w_1=>C_53 w_1 ∧ S_60 w w_1 ∧ R_163 v w_1) w)) ∧
 (∃ R_169:VK,(∀ v w w_1,S_60 w w_1 → R_169 v w → R_169 v w_1) ∧
 (∀ w,C_53 w → ∀ v149,R_153 v149 w → (gF v149 (kL 26 v11) (fun v w_1=>C_53 w_1 ∧ S_60 w w_1 ∧ R_169 v w_1) w)) ∧
 (∃ R_171:VK,(∀ v w w_1,S_60 w w_1 → R_171 v w → R_171 v w_1) ∧
 (∀ w,C_53 w → ∀ v149,R_153 v149 w → (gF v149 (kL 69 v13) (fun v w_1=>C_53 w_1 ∧ S_60 w w_1 ∧ R_171 v w_1) w)) ∧
 (∃ R_173:VK,(∀ v w w_1,S_60 w w_1 → R_173 v w → R_173 v w_1) ∧
 (∀ w,C_53 w → ∀ v149,R_153 v149 w → (gF v149 (pureM a6) (fun v w_1=>C_53 w_1 ∧ S_60 w w_1 ∧ R_173 v w_1) w)) ∧
 (∃ R_175:VK,(∀ v w w_1,S_60 w w_1 → R_175 v w → R_175 v w_1) ∧
 (∀ w,C_53 w → ∀ v149,R_153 v149 w → (gF v149 (pureM a3) (fun v w_1=>C_53 w_1 ∧ S_60 w w_1 ∧ R_175 v w_1) w)) ∧
 (∀ w,C_53 w → ∀ v115,R_61 v115 w → ∀ v116,R_62 v116 w → ∀ v117,R_64 v117 w → ∀ v118,R_66 v118 w → ∀ v119,R_68 v119 w → ∀ v120,R_70 v120 w → ∀ v121,R_72 v121 w → ∀ v122,R_76 v122 w → ∀ v123,R_78 v123 w → ∀ v124,R_80 v124 w → ∀ v125,R_84 v125 w → ∀ v126,R_88 v126 w → ∀ v127,R_91 v127 w → ∀ v128,R_93 v128 w → ∀ v129,R_95 v129 w → ∀ v130,R_97 v130 w → ∀ v131,R_99 v131 w → ∀ v132,R_104 v132 w → ∀ v133,R_106 v133 w → ∀ v134,R_108 v134 w → ∀ v135,R_110 v135 w → ∀ v136,R_115 v136 w → ∀ v137,R_119 v137 w → ∀ v138,R_122 v138 w → ∀ v139,R_124 v139 w → ∀ v140,R_126 v140 w → ∀ v141,R_128 v141 w → ∀ v142,R_130 v142 w → ∀ v143,R_135 v143 w → ∀ v144,R_137 v144 w → ∀ v145,R_139 v145 w → ∀ v146,R_141 v146 w → ∀ v147,R_146 v147 w → ∀ v148,R_150 v148 w → ∀ v149,R_153 v149 w → ∀ v150,R_155 v150 w → ∀ v151,R_157 v151 w → ∀ v152,R_159 v152 w → ∀ v153,R_161 v153 w → ∀ v154,R_163 v154 w → ∀ v155,R_169 v155 w → ∀ v156,R_171 v156 w → ∀ v157,R_173 v157 w → ∀ v158,R_175 v158 w → (
 gF v149 (callM prog 64 #[v155,v156,v157,v158]) (fun v159 w=>
 gF v149 (callM prog 62 #[v154,v159]) (fun v160 w=>
 gF v149 (kU v160) (fun v161 w=>
 kP v149 (.bool true) v161 (fun v162 w=>
 condM v162
 (K (.bool false) w)
 (kL 26 v11 (fun v164 w=>
 kL 69 v13 (fun v165 w=>
 callM prog 65 #[v164,v165,a6,a3,a7,a4] (fun v170 w=>
 kE 0 24 v170 (fun v171 w=>
 kE 1 4 v170 (fun v172 w=>
 kL 26 v11 (fun v174 w=>
 kL 69 v13 (fun v175 w=>
 callM prog 66 #[v174,v175,a6,a3,a7,a4] (fun v180 w=>
 kE 0 24 v180 (fun v181 w=>
 kE 1 4 v180 (fun v182 w=>
 held_11_235 K a5 a6 a7 a8 v11 v171 v172 v181 v182 v20 v21 v54 w) w) w) w) w) w) w) w) w) w) w)) w) w) w) w))))))))))))))))))))))))))))))))))))))))))))))))))))))
def sh_11 (a0 a1 a2 a3 a4 a5 a6 a7 a8 a9 a10:Value) (K:VK) (w:World):Prop:=
 oM prog (.box 26 (.tmp 0)) 0 [a0] (fun v11 w=>
 oM prog (.box 88 (.tmp 0)) 0 [a1] (fun v12 w=>
 oM prog (.box 69 (.tmp 0)) 0 [a2] (fun v13 w=>
 oM prog (.box 74 (.tmp 0)) 0 [a9] (fun v20 w=>
 oM prog (.box 34 (.tmp 0)) 0 [a10] (fun v21 w=>
 callM prog 38 #[] (fun v54 w=>
 kL 26 v11 (fun v55 w=>
 callM prog 39 #[v55] (fun v56 w=>
 kU v56 (fun v57 w=>
 gF v57 (kF 88 0 v12) (fun v59 w=>
 gF v57 (kL 24 v59) (fun v60 w=>
 gF v57 (kN 24 v60) (fun v61 w=>
 gF v57 (kB .gtr 3 4 v61 (.int .i64 9)) (fun v62 w=>
 kP v57 (.bool true) v62 (fun v63 w=>
 gF v63 (kL 69 v13) (fun v65 w=>
 gF v63 (callM prog 54 #[v65]) (fun v66 w=>
 gF v63 (kU v66) (fun v67 w=>
 kP v63 (.bool true) v67 (fun v68 w=>
 gF v68 (pureM a3) (fun v70 w=>
 gF v68 (kN 24 v70) (fun v71 w=>
 gF v68 (kB .gtr 3 4 v71 (.int .i64 130)) (fun v72 w=>
 kP v68 (.bool true) v72 (fun v73 w=>
 gF v73 (pureM a4) (fun v75 w=>
 gF v73 (kN 24 v75) (fun v76 w=>
 gF v73 (kB .gtr 3 4 v76 (.int .i64 130)) (fun v77 w=>
 kP v73 (.bool true) v77 (fun v78 w=>
 gF v78 (pureM a5) (fun v80 w=>
 gF v78 (kN 24 v80) (fun v81 w=>
 gF v78 (kB .gtr 3 4 v81 (.int .i64 70)) (fun v82 w=>
 kP v78 (.bool true) v82 (fun v83 w=>
 gF v83 (pureM a8) (fun v85 w=>
 gF v83 (kN 9 v85) (fun v86 w=>
 gF v83 (kB .gtr 3 4 v86 (.int .i64 200)) (fun v87 w=>
 kP v83 (.bool true) v87 (fun v88 w=>
 gF v88 (kL 34 v21) (fun v90 w=>
 gF v88 (callM prog 17 #[v90]) (fun v91 w=>
 gF v88 (kU v91) (fun v92 w=>
 kP v88 (.bool true) v92 (fun v93 w=>
 condM v93
 (K v54 w)
 (kF 26 0 v11 (fun v96 w=>
 kL 23 v96 (fun v97 w=>
 kL 88 v12 (fun v98 w=>
 callM prog 55 #[v97,v98] (fun v99 w=>
 kE 0 26 v99 (fun v100 w=>
 kE 1 4 v99 (fun v101 w=>
 kA 26 (fun v24 w=>
 kS 26 v24 v100 (fun _ w=>
 kF 26 0 v11 (fun v103 w=>
 kL 23 v103 (fun v104 w=>
 kL 88 v12 (fun v105 w=>
 callM prog 56 #[v104,v105] (fun v106 w=>
 kE 0 26 v106 (fun v107 w=>
 kE 1 4 v106 (fun v108 w=>
 kA 26 (fun v26 w=>
 kS 26 v26 v107 (fun _ w=>
 held_11_53 K a3 a4 a5 a6 a7 a8 v101 v108 v11 v12 v13 v20 v21 v24 v26 v54 w) w) w) w) w) w) w) w) w) w) w) w) w) w) w) w) w)) w) w) w) w) w) w) w) w) w) w) w) w) w) w) w) w) w) w) w) w) w) w) w) w) w) w) w) w) w) w) w) w) w) w) w) w) w) w
theorem sh_11_ok {a0 a1 a2 a3 a4 a5 a6 a7 a8 a9 a10:Value} {K:VK} {w:World} (h:sh_11 a0 a1 a2 a3 a4 a5 a6 a7 a8 a9 a10 K w):callM prog 11 #[a0,a1,a2,a3,a4,a5,a6,a7,a8,a9,a10] K w:=
 calls_of_code (fun i=>bif Nat.beq i 6 then .free [0,1,2,3,4,5] [6,7,8,9,10,11,12,13,14,15,16,17,18,19,20,21,22,23,24,25,26,27,28,29,30,31,32,33,34,35,36,37,38,39,40,41,42,43,44,45,46,47,48,49] [50,51,52,53] else bif Nat.beq i 10 then .free [0,1,2,3,4,5] [6,7,8,9,10,11,12,13,14,15,16,17,18,19,20,21,22,23,24,25,26,27,28,29,30,31,32,33,34,35,36,37,38,39,40,41,42,43,44,45,46,47,48,49,50,51] [52,53,54] else 0) (fn:=Tryz.f11) (rs:=[.tmp 22]) Tryz.func11 rfl rfl (by kernel_rfl) (nB rfl) (Eq.mp (by kernel_rfl) h)
end Go.Proofs
namespace Go.Proofs
open Go Go.Sh Go.RowKit FdSpec TkSpec CodeSpec PrSpec
section
variable {K:VK} {w w' w0 W:World}
theorem splitM_len (s:Stp) (v:Int) (l:List Int):(splitM s v l).1.2.length ≤ l.length:=by
 unfold splitM
 split
 ·exact Nat.le_of_eq (splitL_len s v l 0).2
 ·simp
theorem ints_eq {l m:List Int} (h:l = m):decide (l = m) = true:=decide_eq_true h
set_option maxHeartbeats 4000000 in
theorem tools_ok (s:Stp) (m:Mir) (c:Clm) (an bn ln:List Int) (x y:Int) (t:Bytes) (sc sz:Int) (ds:L2) (al:L3) {sv mv cv av bv lv dv pv:Value}
  (hs:SetR w s sv) (hm:MirR w m mv) (hc:ClmR w c cv) (ha:Ints w av an) (hb:Ints w bv bn) (hln:Ints w lv ln) (hx:I64 x) (hy:I64 y) (hds:ListsR w dv ds) (hal:NumsR w pv al) (hl:Cd.LaidE w) (htl:t.length ≤ 140737488351232)
  (k:∀ w',Bw w w' → K (.bool true) w') :
  callM Tryz.prog 11 #[stpV s sv,mirV m mv,clmV c cv,av,bv,lv,.int .i64 x,.int .i64 y,.string ⟨t.toArray⟩,sigV sc sz,prfV dv pv] K w:=by
 apply sh_11_ok
 unfold sh_11
 have hs':=hs
 have hm':=hm
 have hc':=hc
 have ha':=ha
 have hb':=hb
 have hln':=hln
 have hds':=hds
 have hal':=hal
 obtain ⟨ad,cs,rfl⟩:=hs.ints.isSlice
 obtain ⟨mad,mc,rfl⟩:=hm.ints.isSlice
 obtain ⟨cad,cc,rfl⟩:=hc.eqs.isSlice
 obtain ⟨aad,ac,rfl⟩:=ha.isSlice
 obtain ⟨bad,bc,rfl⟩:=hb.isSlice
 obtain ⟨lad,lc,rfl⟩:=hln.isSlice
 obtain ⟨dad,dc,rfl⟩:=hds.isSlice
 obtain ⟨pad,pc,rfl⟩:=hal.isSlice
 refine box_kn (cs:=stpC s (.slice ad s.bases.length cs)) rfl (.start w) fun b1 W hk hb1 hbb=>?_
 refine box_kn (cs:=mirC m (.slice mad m.bases.length mc)) rfl hk fun b2 W hk hb2 hbb=>?_
 refine box_kn (cs:=clmC c (.slice cad c.eqs.length cc)) rfl hk fun b3 W hk hb3 hbb=>?_
 refine box_kn (cs:=sigC sc sz) rfl hk fun b4 W hk hb4 hbb=>?_
 refine box_kn (cs:=prfC (.slice dad ds.length dc) (.slice pad al.length pc)) rfl hk fun b5 W hk hb5 hbb=>?_
 clear hb1 hb2 hb3 hb4 hb5 hbb
 refine less_ok (hs'.db.next hk.below) (hl.below hk.below hl.size) (fun w1 h1=>?_)
 have hk:=hk.next h1
 refine Xa hk.cells ?_
 refine FewSetup_ok s (hs'.next hk.below) (fun w2 h2=>?_)
 have hk:=hk.next h2
 by_cases hb9:¬ (s.bases.length:Int) ≤ 9
 ·rw [decide_eq_false hb9]
  refine Xa hk.cells ?_
  exact k _ hk.below
 have hb9:(s.bases.length:Int) ≤ 9:=by omega
 rw [decide_eq_true hb9]
 by_cases hm9:(9:Int) < m.bases.length
 ·refine Xa (An2 hk.cells @hm9) ?_
  exact k _ hk.below
 refine Xa (An2 hk.cells @hm9) ?_
 refine FewClaim_ok c (hc'.next hk.below) (fun w3 q h3 hq=>?_)
 have hk:=hk.next h3
 clear hq
 cases q with
 | false=>
  refine Xa0 ?_
  exact k _ hk.below
 | true=>
 by_cases ha9:(130:Int) < an.length
 ·refine Xa (An2 hk.cells @ha9) ?_
  exact k _ hk.below
 by_cases hb0:(130:Int) < bn.length
 ·refine Xa (An3 hk.cells @ha9 @hb0) ?_
  exact k _ hk.below
 by_cases hl9:(70:Int) < ln.length
 ·refine Xa (An4 hk.cells @ha9 @hb0 @hl9) ?_
  exact k _ hk.below
 by_cases ht9:(200:Int) < t.length
 ·refine Xa (An6 hk.cells @ha9 @hb0 @hl9 @ht9 @ba_size) ?_
  exact k _ hk.below
 refine Xa (An6 hk.cells @ha9 @hb0 @hl9 @ht9 @ba_size) ?_
 refine fewProof_ok (hds'.next (atOf_stay ints_stay) hk.below) (hal'.next (atOf_stay lists_vstay) hk.below) (fun w2 q h2 hq=>?_)
 have hk:=hk.next h2
 cases q with
 | false=>
  refine Xa0 ?_
  exact k _ hk.below
 | true=>
 have hsm:=few_small (hq rfl)
 clear hq
 refine Xa hk.cells ?_
 refine Make_ok s.g m hs'.grp (hs'.db.next hk.below) (hm'.next hk.below) (fun w3 sv1 h3 hr1 _=>?_)
 have hk:=hk.next h3
 obtain ⟨ad1,c1,rfl⟩:=id hr1.ints.isSlice
 refine Xb2_0 ?_
 refine local_stp _ _ _ _ hk (fun b7 w4 hk h4 hg4=>?_)
 have hr1:=hr1.next h4
 refine Xa hk.cells ?_
 refine rMake_ok s.g m hs'.grp (hs'.db.next hk.below) (hm'.next hk.below) (fun w5 sv2 h5 hr2=>?_)
 have hk:=hk.next h5
 have hr1:=hr1.next h5
 obtain ⟨ad2,c2,rfl⟩:=id hr2.ints.isSlice
 refine Xb2_0 ?_
 refine local_stp _ _ _ _ hk (fun b8 w6 hk h6 hg6=>?_)
 have hodr:Below w6.heap.size w6 { w6 with drawn:=w6.drawn + 1 }:=.drawn
 have hk:=hk.next hodr
 have hr1:=(hr1.next h6).next hodr
 have hr2:=(hr2.next h6).next hodr
 have eT:∀ p:Stp,(decide (p.g = p.g) && (decide (p.blind = p.blind) && decide (p.bases = p.bases))) = true:=fun p=>by simp
 generalize (makeM s.g m).1 = ts at *
 generalize (makeM s.g m).2 = tq at *
 unfold held_11_53
 refine ⟨Nx { w6 with drawn:=w6.drawn + 1 },bR,by trivial,?_⟩
 generalize ({ w6 with drawn:=w6.drawn + 1 }:World) = W at hk hr1 hr2 ⊢
 refine Xc (fun W0 hW0=>(hk.next hW0).cells) ?_
 refine ⟨Nx,?_⟩
 apply monoE
 ·(intro w9 h9; repeat (intro v9 e9; try (obtain rfl:=e9)))
  refine Xa0 ?_
  exact rSameSetup_ok ts ts (hr1.ints.next h9) (hr2.ints.next h9) (fun w2 h2=>⟨h9.on h2,h2,rfl⟩)
 rw [eT]
 refine Xd (fun w9 h9=>(hk.next h9).cells) ?_
 apply monoE
 ·(intro w9 h9; repeat (intro v9 e9; try (obtain rfl:=e9)))
  refine Xa0 ?_
  exact Mirrors_ok s m (hs'.next (hk.next h9).below) (hm'.next (hk.next h9).below) (fun w2 h2=>⟨h9.on h2,h2,rfl⟩)
 refine Xd (fun w9 h9=>(hk.next h9).cells) ?_
 apply monoE
 ·(intro w9 h9; repeat (intro v9 e9; try (obtain rfl:=e9)))
  refine Xa0 ?_
  exact rMirrors_ok s m (hs'.next (hk.next h9).below) (hm'.next (hk.next h9).below) (fun w2 h2=>⟨h9.on h2,h2,rfl⟩)
 refine Xd (fun w9 h9=>(hk.next h9).cells) ?_
 apply monoE
 ·(intro w9 h9; repeat (intro v9 e9; try (obtain rfl:=e9)))
  refine Xa0 ?_
  exact Commit_ok s x y (hs'.next (hk.next h9).below) hx hy (fun w2 h2=>⟨h9.on h2,h2,rfl⟩)
 refine Xd (fun w9 h9=>(hk.next h9).cells) ?_
 apply monoE
 ·(intro w9 h9; repeat (intro v9 e9; try (obtain rfl:=e9)))
  refine Xa0 ?_
  exact rCommit_ok s x y (hs'.next (hk.next h9).below) (fun w2 h2=>⟨h9.on h2,h2,rfl⟩)
 refine Xd (fun w9 h9=>(hk.next h9).cells) ?_
 apply monoE
 ·(intro w9 h9; repeat (intro v9 e9; try (obtain rfl:=e9)))
  refine Xa0 ?_
  exact Holds_ok s c an (hs'.next (hk.next h9).below) (hc'.next (hk.next h9).below) (ha'.next (hk.next h9).below) (fun w2 h2=>⟨h9.on h2,h2,rfl⟩)
 refine Xd (fun w9 h9=>(hk.next h9).cells) ?_
 apply monoE
 ·(intro w9 h9; repeat (intro v9 e9; try (obtain rfl:=e9)))
  refine Xa0 ?_
  exact rHolds_ok s c an (hs'.next (hk.next h9).below) (hc'.next (hk.next h9).below) (ha'.next (hk.next h9).below) (fun w2 h2=>⟨h9.on h2,h2,rfl⟩)
 refine Xd (fun w9 h9=>(hk.next h9).cells) ?_
 refine monoR (fun v w'=>Ints w' v (simM s c x an)) (fun v w w1 hS h=>h.next hS) ?_ ?_
 ·(intro w9 h9; repeat (intro v9 e9; try (obtain rfl:=e9)))
  refine Xa0 ?_
  exact Simulate_ok s c x an (hs'.next (hk.next h9).below) (hc'.next (hk.next h9).below) hx (ha'.next (hk.next h9).below) (fun v w2 h2 hi=>⟨h9.on h2,h2,hi⟩)
 refine Xd (fun w9 h9=>(hk.next h9).cells) ?_
 (intro w9 h9; repeat (intro v9 e9; try (obtain rfl:=e9)))
 have hk:=hk.next h9
 have hsim:∃ v',Ints w9 v' (simM s c x an):=⟨_,by assumption⟩
 clear hr1 hr2
 refine Xa0 ?_
 refine rSimulate_ok s c x an (hs'.next hk.below) (hc'.next hk.below) hx (ha'.next hk.below) (fun v3 w3 h3 hi3=>?_)
 have hk:=hk.next h3
 refine SameInts_ok (Ints.next (by assumption) h3) hi3 (fun w4 h4=>?_)
 rw [ints_eq rfl]
 have hk:=hk.next h4
 clear hi3 h3 h9
 refine Xa hk.cells ?_
 refine Extract_ok s c x an y bn (hs'.next hk.below) (hc'.next hk.below) hx (ha'.next hk.below) hy (hb'.next hk.below) (fun v5 w5 h5 hi5=>?_)
 have hk:=hk.next h5
 refine Xa hk.cells ?_
 refine rExtract_ok s c x an y bn (hs'.next hk.below) (hc'.next hk.below) hx (ha'.next hk.below) hy (hb'.next hk.below) (fun v6 w6 h6 hi6=>?_)
 have hk:=(hk.next h6).drew
 have hi5:=(hi5.next h6).next (.drawn (B:=w6.heap.size))
 have hi6:=hi6.next (.drawn (B:=w6.heap.size))
 generalize (extractM s c x an y bn).2 = eq at *
 generalize (extractM s c x an y bn).1 = ev at *
 refine Xb2_0 ?_
 unfold held_11_235
 refine ⟨Nx { w6 with drawn:=w6.drawn + 1 },bR,by trivial,?_⟩
 generalize ({ w6 with drawn:=w6.drawn + 1 }:World) = W at hk hi5 hi6 ⊢
 refine Xc (fun W0 hW0=>(hk.next hW0).cells) ?_
 refine ⟨Nx,?_⟩
 apply monoE
 ·(intro w9 h9; repeat (intro v9 e9; try (obtain rfl:=e9)))
  refine Xa0 ?_
  exact SameInts_ok (hi5.next h9) (hi6.next h9) (fun w2 h2=>⟨h9.on h2,h2,rfl⟩)
 rw [ints_eq rfl]
 refine Xd (fun w9 h9=>(hk.next h9).cells) ?_
 refine monoR (fun v w'=>GoalR w' v (bitsM s ln)) (fun v w w1 hS h=>h.next (atOf_stay cls_vstay) hS) ?_ ?_
 ·(intro w9 h9; repeat (intro v9 e9; try (obtain rfl:=e9)))
  refine Xa0 ?_
  exact Bits_ok s ln (hs'.next (hk.next h9).below) (hln'.next (hk.next h9).below) (fun w2 v D h2 hg hD=>⟨h9.on h2,h2,hg.srow (by decide) (by have:=bitsM_len (s:=s) (l:=ln); omega)⟩)
 refine Xd (fun w9 h9=>(hk.next h9).cells) ?_
 refine monoR (fun v w'=>GoalR w' v (bitsM s ln)) (fun v w w1 hS h=>h.next (atOf_stay cls_vstay) hS) ?_ ?_
 ·(intro w9 h9; repeat (intro v9 e9; try (obtain rfl:=e9)))
  refine Xa0 ?_
  exact rBits_ok s ln (hs'.next (hk.next h9).below) (hln'.next (hk.next h9).below) (fun w2 v D h2 hg hD=>⟨h9.on h2,h2,hg.srow (by decide) (by have:=bitsM_len (s:=s) (l:=ln); omega)⟩)
 refine Xd (fun w9 h9=>(hk.next h9).cells) ?_
 apply monoE
 ·(intro w9 h9; repeat (intro v9 e9; try (obtain rfl:=e9)))
  refine Xa0 ?_
  exact SameClauses_ok (bitsM s ln) (by assumption) (by assumption) (bitsM_goal s ln) (fun w2 h2=>⟨h9.on h2,h2,rfl⟩)
 refine Xd (fun w9 h9=>(hk.next h9).cells) ?_
 refine monoR (fun v w'=>GoalR w' v (PrSpec.rangeM s x ln)) (fun v w w1 hS h=>h.next (atOf_stay cls_vstay) hS) ?_ ?_
 ·(intro w9 h9; repeat (intro v9 e9; try (obtain rfl:=e9)))
  refine Xa0 ?_
  exact Range_ok s x ln (hs'.next (hk.next h9).below) hx (hln'.next (hk.next h9).below) (fun w2 v h2 hg=>⟨h9.on h2,h2,hg⟩)
 refine Xd (fun w9 h9=>(hk.next h9).cells) ?_
 refine monoR (fun v w'=>GoalR w' v (PrSpec.rangeM s x ln)) (fun v w w1 hS h=>h.next (atOf_stay cls_vstay) hS) ?_ ?_
 ·(intro w9 h9; repeat (intro v9 e9; try (obtain rfl:=e9)))
  refine Xa0 ?_
  exact rRange_ok s x ln (hs'.next (hk.next h9).below) hx (hln'.next (hk.next h9).below) (fun w2 v h2 hg=>⟨h9.on h2,h2,hg⟩)
 refine Xd (fun w9 h9=>(hk.next h9).cells) ?_
 apply monoE
 ·(intro w9 h9; repeat (intro v9 e9; try (obtain rfl:=e9)))
  refine Xa0 ?_
  exact SameClauses_ok (PrSpec.rangeM s x ln) (by assumption) (by assumption) (rangeM_goal s x ln) (fun w2 h2=>⟨h9.on h2,h2,rfl⟩)
 refine Xd (fun w9 h9=>(hk.next h9).cells) ?_
 apply monoE
 ·(intro w9 h9; repeat (intro v9 e9; try (obtain rfl:=e9)))
  refine Xa0 ?_
  exact Rest_ok s x ln (hs'.next (hk.next h9).below) (hln'.next (hk.next h9).below) (fun w2 h2=>⟨h9.on h2,h2,rfl⟩)
 refine Xd (fun w9 h9=>(hk.next h9).cells) ?_
 apply monoE
 ·(intro w9 h9; repeat (intro v9 e9; try (obtain rfl:=e9)))
  refine Xa0 ?_
  exact rRest_ok s x ln (hs'.next (hk.next h9).below) (hln'.next (hk.next h9).below) (fun w2 h2=>⟨h9.on h2,h2,rfl⟩)
 refine Xd (fun w9 h9=>(hk.next h9).cells) ?_
 apply monoE
 ·(intro w9 h9; repeat (intro v9 e9; try (obtain rfl:=e9)))
  refine Xa0 ?_
  exact Signed_ok s x t sc sz (hs'.next (hk.next h9).below) (hl.below (hk.next h9).below hl.size).toLaid hx (by omega) (fun w2 h2=>⟨h9.on h2,h2,rfl⟩)
 refine Xd (fun w9 h9=>(hk.next h9).cells) ?_
 (intro w9 h9; repeat (intro v9 e9; try (obtain rfl:=e9)))
 have hk:=hk.next h9
 clear hi5 hi6 h9
 refine Xa0 ?_
 refine rSigned_ok s x t sc sz (hs'.next hk.below) hx (by omega) (fun w3 h3=>?_)
 have hk:=hk.next h3
 refine Xa hk.cells ?_
 refine Weigh_ok s ln (hs'.next hk.below) (hln'.next hk.below) (fun w4 h4=>?_)
 have hk:=hk.next h4
 refine Xa hk.cells ?_
 refine rWeigh_ok s ln (hs'.next hk.below) (hln'.next hk.below) (fun w5 h5=>?_)
 have hk:=hk.next h5
 refine Xa hk.cells ?_
 have hsl:=splitM_len s x ln
 refine Split_ok s x ln (hs'.next hk.below) hx (hln'.next hk.below) (fun w6 bv1 kv1 D1 h6 hbi hkg hDk _=>?_)
 have hkn:KnowR w6 kv1 (splitM s x ln).1.2:=hkg.srow (by decide) (by omega)
 have hk:=hk.next h6
 refine Xa hk.cells ?_
 refine rSplit_ok s x ln (hs'.next hk.below) hx (hln'.next hk.below) (fun w7 bv2 kv2 D2 h7 hbi2 hkg2 hDk2 _=>?_)
 have hkn2:KnowR w7 kv2 (splitM s x ln).1.2:=hkg2.srow (by decide) (by omega)
 have hbi:=hbi.next h7
 have hkn:=hkn.next (atOf_stay knws_vstay) h7
 have hk:=hk.next h7
 clear hkg hkg2 hDk hDk2 hsl
 generalize (splitM s x ln).1.1 = sb at *
 generalize (splitM s x ln).1.2 = sk at *
 generalize (splitM s x ln).2 = sq at *
 generalize (weighM s ln).1 = wa at *
 generalize (weighM s ln).2 = wq at *
 refine Xa hk.cells ?_
 refine SameInts_ok hbi hbi2 (fun w8 h8=>?_)
 rw [ints_eq rfl]
 refine Xa0 ?_
 refine SameKnow_ok _ (hkn.next (atOf_stay knws_vstay) h8) (hkn2.next (atOf_stay knws_vstay) h8) (fun w9 h9=>?_)
 have hk:=(hk.next h8).next h9
 clear hbi hbi2 hkn hkn2 h8 h9 h3 h4 h5 h6 h7
 refine Xa hk.cells ?_
 refine Sign_ok s x y t (hs'.next hk.below) (hl.below hk.below hl.size).toLaid hx hy (by omega) (fun w3 h3=>?_)
 have hk:=hk.next h3
 refine Xb2_0 ?_
 refine local_sig _ _ hk (fun b10 w4 hk h4 hg4=>?_)
 refine Xa hk.cells ?_
 refine rSign_ok s x y t (hs'.next hk.below) hx hy (by omega) (fun w5 h5=>?_)
 have hk:=hk.next h5
 refine Xb2_0 ?_
 refine local_sig _ _ hk (fun b11 w6 hk h6 hg6=>?_)
 refine Xa hk.cells ?_
 refine Encode_ok ds al (hds'.next (atOf_stay ints_stay) hk.below) (hal'.next (atOf_stay lists_vstay) hk.below) (hl.below hk.below hl.size).toLaid hsm (fun w7 h7=>?_)
 have hk:=hk.next h7
 refine Xa hk.cells ?_
 refine rEncode_ok ds al (hds'.next (atOf_stay ints_stay) hk.below) (hal'.next (atOf_stay lists_vstay) hk.below) hsm (fun w8 h8=>?_)
 have hk:=hk.next h8
 refine Xa0 ?_
 refine Decode_ok t (by omega) (hl.below hk.below hl.size) (fun w9 dv1 av1 h9 hd1 ha1=>?_)
 have hk:=hk.next h9
 obtain ⟨ad1,c1,rfl⟩:=id hd1.isSlice
 obtain ⟨ad2,c2,rfl⟩:=id ha1.isSlice
 refine Xb2_0 ?_
 refine local_prf _ _ _ _ _ _ hk (fun b12 w10 hk h10 hg10=>?_)
 have hd1:=hd1.next (atOf_stay ints_stay) h10
 have ha1:=ha1.next (atOf_stay lists_vstay) h10
 refine Xa0 ?_
 refine rDecode_ok t (by omega) (fun w11 dv2 av2 h11 hd2 ha2=>?_)
 have hk:=hk.next h11
 obtain ⟨ad3,c3,rfl⟩:=id hd2.isSlice
 obtain ⟨ad4,c4,rfl⟩:=id ha2.isSlice
 refine Xb2_0 ?_
 refine local_prf _ _ _ _ _ _ hk (fun b13 w12 hk h12 hg12=>?_)
 have hd1:=(hd1.next (atOf_stay ints_stay) h11).next (atOf_stay ints_stay) h12
 have ha1:=(ha1.next (atOf_stay lists_vstay) h11).next (atOf_stay lists_vstay) h12
 have hd2:=hd2.next (atOf_stay ints_stay) h12
 have ha2:=ha2.next (atOf_stay lists_vstay) h12
 have eS:∀ a b:Int,(decide (a = a) && decide (b = b)) = true:=fun a b=>by simp
 have eN:∀ (d:L2) (n:L3),(decide (d = d) && decide (n = n)) = true:=fun d n=>by simp
 clear h3 h4 h5 h6 h7 h8 h9 h10 h11 h12
 generalize (signM s x y t).2 = q1 at *
 generalize (signM s x y t).1.1 = q2 at *
 generalize (signM s x y t).1.2 = q3 at *
 generalize (encodeM ds al).1 = q4 at *
 generalize (encodeM ds al).2 = q5 at *
 generalize (decodeM t).2 = q6 at *
 generalize (decodeM t).1.1 = q7 at *
 generalize (decodeM t).1.2 = q8 at *
 refine Xa hk.cells ?_
 refine sameSig_ok _ _ _ _ (fun w13 h13=>?_)
 rw [eS]
 have hk:=hk.next h13
 refine Xa hk.cells ?_
 refine SameProof_ok (hd1.next (atOf_stay ints_stay) h13) (ha1.next (atOf_stay lists_vstay) h13) (hd2.next (atOf_stay ints_stay) h13) (ha2.next (atOf_stay lists_vstay) h13) (fun w14 h14=>?_)
 rw [eN]
 refine Xa0 ?_
 exact k _ (hk.next h14).below
end
end Go.Proofs
namespace Go.Proofs
open Go Go.Sh Go.RowKit Go.Lib CodeSpec TkSpec FdSpec PrSpec Go.ChangeShapes Go.WideShapes Go.ChangeAt Go.Deep
section
variable {H:Type} {enc:TypeId × Value → H} {w:World} {sp:Nat → Bool} {hd:Bool}
theorem open_cla {b0:Nat} {v:Value} {d:DataW H} {ps:List MemPlace} (hval:Value.okWide Tryz.prog w .any b0 69 v) (h:DataW.Trod enc Tryz.prog w 0 sp hd 69 v d ps):∃ c x,v = clmV c x ∧ ClmR w c x:=by
 obtain ⟨cs,rfl,hs⟩:=okWide_struct Tryz.underlying69 hval
 obtain ⟨fuel,hf⟩:=h
 obtain ⟨hcl,hf⟩:=open_fields Tryz.underlying69 (by kernel_rfl) (by kernel_rfl) hf
 obtain ⟨v0,y0,m0,c0,f0⟩:=hf 0 _ rfl
 obtain ⟨v1,y1,m1,c1,f1⟩:=hf 1 _ rfl
 obtain ⟨k0,e0,_,w0⟩:=DataW.trod_int Tryz.underlying3 f0
 obtain ⟨l1,h1⟩:=open_eqns f1
 simp only [List.cons.injEq,and_true] at e0
 refine ⟨⟨k0,l1⟩,v1,?_,intR w0,h1⟩
 have h6:cs.toList.length = 2:=hcl
 have c0:cs.toList[0]? = some v0:=c0
 have c1:cs.toList[1]? = some v1:=c1
 have hcs:cs = cs.toList.toArray:=by simp
 rw [hcs]
 clear hs hcs
 generalize cs.toList = l at *
 match l,h6 with
 | [x0,x1],_=>
  simp only [List.getElem?_cons_zero,List.getElem?_cons_succ,Option.some.injEq] at c0 c1
  rw [c0,c1,e0]
theorem open_mir {b0:Nat} {v:Value} {d:DataW H} {ps:List MemPlace} (hval:Value.okWide Tryz.prog w .any b0 88 v) (h:DataW.Trod enc Tryz.prog w 0 sp hd 88 v d ps):∃ m x,v = mirV m x ∧ MirR w m x:=by
 obtain ⟨cs,rfl,hs⟩:=okWide_struct Tryz.underlying88 hval
 obtain ⟨fuel,hf⟩:=h
 obtain ⟨hcl,hf⟩:=open_fields Tryz.underlying88 (by kernel_rfl) (by kernel_rfl) hf
 obtain ⟨v0,y0,m0,c0,f0⟩:=hf 0 _ rfl
 obtain ⟨v1,y1,m1,c1,f1⟩:=hf 1 _ rfl
 obtain ⟨l0,h0⟩:=open_ints f0
 obtain ⟨k1,e1,_,w1⟩:=DataW.trod_int Tryz.underlying3 f1
 simp only [List.cons.injEq,and_true] at e1
 refine ⟨⟨l0,k1⟩,v0,?_,h0,intR w1⟩
 have h6:cs.toList.length = 2:=hcl
 have c0:cs.toList[0]? = some v0:=c0
 have c1:cs.toList[1]? = some v1:=c1
 have hcs:cs = cs.toList.toArray:=by simp
 rw [hcs]
 clear hs hcs
 generalize cs.toList = l at *
 match l,h6 with
 | [x0,x1],_=>
  simp only [List.getElem?_cons_zero,List.getElem?_cons_succ,Option.some.injEq] at c0 c1
  rw [c0,c1,e1]
end
end Go.Proofs
